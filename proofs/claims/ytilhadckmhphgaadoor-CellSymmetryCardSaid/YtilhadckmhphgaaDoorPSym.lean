/- CellSymmetry: the plain law: operators, one behind the other; those beside a cell are brought to those beside where it is brought. -/
import Derived.Test.YtilhadckmhphgaaDoorRot
import Derived.Test.YtilhadckmhphgaaDoorPNear0
import Derived.Test.YtilhadckmhphgaaDoorXBeside
namespace Go.Proofs.YtilhadckmhphgaaDoor
open Go.RowKit Go.Proofs.YtilhadckmhphgaaDoorW.PrintWords Go.Proofs.YtilhadckmhphgaaDoorW.PrintLast Go.Proofs.YtilhadckmhphgaaDoorW.PrintMore
open H
open Go.RowKit

/-- two operators as one -/
def thenR (o p : Int) : Int := if p < 6 then o / 6 * 6 + (o % 6 + p) % 6 else if o < 6 then 6 + (p - o) % 6 else (p - o % 6 + 6) % 6
theorem thenR_rng (o p : Int) (h0 : 0 ≤ o) (h1 : o < 12) (p0 : 0 ≤ p) (p1 : p < 12) : 0 ≤ thenR o p ∧ thenR o p < 12 := by
  unfold thenR
  split
  · omega
  · split <;> omega
set_option maxHeartbeats 2000000 in
theorem rot_then (o p : Int) (q : Int × Int) (h0 : 0 ≤ o) (h1 : o < 12) (p0 : 0 ≤ p) (p1 : p < 12) : rotG p (rotG o q) = rotG (thenR o p) q := by
  obtain ⟨x, y⟩ := q
  rcases twelve o h0 h1 with rfl | rfl | rfl | rfl | rfl | rfl | rfl | rfl | rfl | rfl | rfl | rfl <;>
    rcases twelve p p0 p1 with rfl | rfl | rfl | rfl | rfl | rfl | rfl | rfl | rfl | rfl | rfl | rfl <;>
      (simp only [thenR, rotG, Int.reduceMod, Int.reduceDiv, Int.reduceMul, Int.reduceAdd, Int.reduceToNat, Int.reduceLT, Int.reduceSub, ↓reduceIte, rotI, turnP, Prod.mk.injEq] <;> omega)
theorem onC_then (l o p : Int) (x : CL) (h0 : 0 ≤ o) (h1 : o < 12) (p0 : 0 ≤ p) (p1 : p < 12) (hh : halfOk l x) : onC l p (onC l o x) = onC l (thenR o p) x := by
  obtain ⟨b0, b1⟩ := thenR_rng o p h0 h1 p0 p1
  obtain ⟨⟨a, b⟩, h⟩ := x
  obtain ⟨h4, h5⟩ := hh
  simp only at h4 h5
  unfold onC
  by_cases hl : l = 1
  · simp only [if_pos hl]
    rw [onP_rot o _ _ h0 h1, onP_rot p _ _ p0 p1, onP_rot (thenR o p) _ _ b0 b1, ← rot_then o p (a, b) h0 h1 p0 p1]
  · simp only [if_neg hl]
    rw [onT_rot o, onT_rot (thenR o p), ← rot_then o p _ h0 h1 p0 p1]
    have hm := rot_mod o (3 * a + 1 + h) (3 * b + 1 + h) h0 h1 (by omega) (by omega)
    generalize rotG o (3 * a + 1 + h, 3 * b + 1 + h) = q at hm
    obtain ⟨X, Y⟩ := q
    simp only at hm ⊢
    rw [onT_rot, show 3 * (X / 3) + 1 + (X % 3 - 1) = X by omega, show 3 * (Y / 3) + 1 + (X % 3 - 1) = Y by omega]
theorem rot_lin (o a b x y : Int) (h0 : 0 ≤ o) (h1 : o < 12) : rotG o (3 * a + x, 3 * b + y) = (3 * (rotG o (a, b)).1 + (rotG o (x, y)).1, 3 * (rotG o (a, b)).2 + (rotG o (x, y)).2) := by
  rcases twelve o h0 h1 with rfl | rfl | rfl | rfl | rfl | rfl | rfl | rfl | rfl | rfl | rfl | rfl <;>
    (simp only [rotG, Int.reduceMod, Int.reduceToNat, Int.reduceLT, ↓reduceIte, rotI, turnP, Prod.mk.injEq] <;> omega)
theorem rot_add (o a b x y : Int) (h0 : 0 ≤ o) (h1 : o < 12) : rotG o (a + x, b + y) = ((rotG o (a, b)).1 + (rotG o (x, y)).1, (rotG o (a, b)).2 + (rotG o (x, y)).2) := by
  rcases twelve o h0 h1 with rfl | rfl | rfl | rfl | rfl | rfl | rfl | rfl | rfl | rfl | rfl | rfl <;>
    (simp only [rotG, Int.reduceMod, Int.reduceToNat, Int.reduceLT, ↓reduceIte, rotI, turnP, Prod.mk.injEq] <;> omega)
theorem onC_sh (l o a b : Int) (x : CL) (h0 : 0 ≤ o) (h1 : o < 12) : onC l o (sh a b x) = sh (rotG o (a, b)).1 (rotG o (a, b)).2 (onC l o x) := by
  unfold onC sh
  by_cases hl : l = 1
  · simp only [if_pos hl]
    rw [onP_rot o _ _ h0 h1, onP_rot o _ _ h0 h1, rot_add o a b _ _ h0 h1]
  · simp only [if_neg hl]
    rw [onT_rot o, onT_rot o, show 3 * (a + x.f0.f0) + 1 + x.f1 = 3 * a + (3 * x.f0.f0 + 1 + x.f1) by omega, show 3 * (b + x.f0.f1) + 1 + x.f1 = 3 * b + (3 * x.f0.f1 + 1 + x.f1) by omega, rot_lin o a b _ _ h0 h1]
    simp only [S31.mk.injEq, S29.mk.injEq]
    omega
def symB (l o h : Int) : Bool := (offs l h).all fun d =>
  nearD l (onC l o (mk 0 0 h)).f1 ((onC l o d).f0.f0 - (onC l o (mk 0 0 h)).f0.f0) ((onC l o d).f0.f1 - (onC l o (mk 0 0 h)).f0.f1) (onC l o d).f1 &&
  decide (-100 ≤ (onC l o d).f0.f0 - (onC l o (mk 0 0 h)).f0.f0 ∧ (onC l o d).f0.f0 - (onC l o (mk 0 0 h)).f0.f0 ≤ 100 ∧ -100 ≤ (onC l o d).f0.f1 - (onC l o (mk 0 0 h)).f0.f1 ∧ (onC l o d).f0.f1 - (onC l o (mk 0 0 h)).f0.f1 ≤ 100)
theorem sym_all : ∀ o : Fin 12, symB 1 o.val 0 = true ∧ symB 2 o.val 0 = true ∧ symB 2 o.val 1 = true ∧ symB 3 o.val 0 = true ∧ symB 3 o.val 1 = true := by decide +kernel
theorem sym_b (l o h : Int) (hl : 1 ≤ l) (hl' : l ≤ 3) (h0 : 0 ≤ o) (h1 : o < 12) (hh : h = 0 ∨ h = 1) (hh1 : l = 1 → h = 0) : symB l o h = true := by
  have := sym_all ⟨o.toNat, by omega⟩
  simp only [Int.toNat_of_nonneg h0] at this
  obtain ⟨a, b, c, d, e⟩ := this
  have hl3 : l = 1 ∨ l = 2 ∨ l = 3 := by omega
  rcases hl3 with rfl | rfl | rfl
  · rw [hh1 rfl]; exact a
  · rcases hh with rfl | rfl <;> assumption
  · rcases hh with rfl | rfl <;> assumption
/-- what is beside stays so -/
theorem near_sym (l o a b h : Int) (d : CL) (hl : 1 ≤ l) (hl' : l ≤ 3) (h0 : 0 ≤ o) (h1 : o < 12) (hh : h = 0 ∨ h = 1) (hh1 : l = 1 → h = 0) (hd : d ∈ offs l h) (k : Nat)
    (ha : -2000000 ≤ a) (ha' : a ≤ 2000000) (hb : -2000000 ≤ b) (hb' : b ≤ 2000000) :
    honeycombref03_Near.f (k + 16) l (onC l o (mk a b h)).f0.f0 (onC l o (mk a b h)).f0.f1 (onC l o (mk a b h)).f1 (onC l o (sh a b d)).f0.f0 (onC l o (sh a b d)).f0.f1 (onC l o (sh a b d)).f1 = some true := by
  have hs := List.all_eq_true.1 (sym_b l o h hl hl' h0 h1 hh hh1) d hd
  rw [Bool.and_eq_true, decide_eq_true_eq] at hs
  obtain ⟨hn, q1, q2, q3, q4⟩ := hs
  have hm : mk a b h = sh a b (mk 0 0 h) := by simp [mk, sh]
  have hbd := onC_bd l o (mk a b h) 2000000 h0 h1 ⟨hh, hh1⟩ ha ha' hb hb'
  rw [hm, onC_sh l o a b _ h0 h1] at hbd ⊢
  rw [onC_sh l o a b d h0 h1]
  generalize onC l o (mk 0 0 h) = c at hn q1 q2 q3 q4 hbd ⊢
  generalize onC l o d = t at hn q1 q2 q3 q4 ⊢
  generalize rotG o (a, b) = r at hbd ⊢
  simp only [sh] at hbd ⊢
  have e1 : r.1 + t.f0.f0 = r.1 + c.f0.f0 + (t.f0.f0 - c.f0.f0) := by omega
  have e2 : r.2 + t.f0.f1 = r.2 + c.f0.f1 + (t.f0.f1 - c.f0.f1) := by omega
  rw [e1, e2, near_f k l _ _ _ _ _ _ (by omega) (by omega) (by omega) (by omega) q1 q2 q3 q4, hn]
theorem onC_inj (l o : Int) (x y : CL) (h0 : 0 ≤ o) (h1 : o < 12) (hx : halfOk l x) (hy : halfOk l y) (h : onC l o x = onC l o y) : x = y := by
  rw [← onC_back l o x h0 h1 hx, h, onC_back l o y h0 h1 hy]
end Go.Proofs.YtilhadckmhphgaaDoor
