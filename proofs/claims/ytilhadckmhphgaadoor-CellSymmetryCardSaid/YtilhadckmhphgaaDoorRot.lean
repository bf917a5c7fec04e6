/- Turns and swaps of pairs: where operators bring points and triangles; there and back. Plain. -/
import Derived.Test.YtilhadckmhphgaaDoorXOn
namespace Go.Proofs.YtilhadckmhphgaaDoor
open Go.RowKit Go.Proofs.YtilhadckmhphgaaDoorW.PrintWords Go.Proofs.YtilhadckmhphgaaDoorW.PrintLast Go.Proofs.YtilhadckmhphgaaDoorW.PrintMore
open H
open Go.RowKit

def rotI (p : Int × Int) : Nat → Int × Int
  | 0 => p
  | k + 1 => turnP (rotI p k)
/-- a pair, by an operator -/
def rotG (o : Int) (p : Int × Int) : Int × Int := rotI (if o < 6 then p else (p.2, p.1)) (o % 6).toNat
theorem twelve (o : Int) (h0 : 0 ≤ o) (h1 : o < 12) : o = 0 ∨ o = 1 ∨ o = 2 ∨ o = 3 ∨ o = 4 ∨ o = 5 ∨ o = 6 ∨ o = 7 ∨ o = 8 ∨ o = 9 ∨ o = 10 ∨ o = 11 := by omega
theorem onP_rot (o a b : Int) (h0 : 0 ≤ o) (h1 : o < 12) : onP o a b = rotG o (a, b) := by
  rcases twelve o h0 h1 with rfl | rfl | rfl | rfl | rfl | rfl | rfl | rfl | rfl | rfl | rfl | rfl <;>
    (simp only [onP, matO, rotG, Int.reduceMod, Int.reduceToNat, Int.reduceLT, ↓reduceIte, turns, turnM, mat0, rotI, turnP, Prod.mk.injEq]; omega)
theorem thr_rot (o a b h : Int) (k : Nat) : thrN o a b h k = rotI (if o < 6 then (3 * a + 1 + h, 3 * b + 1 + h) else (3 * b + 1 + h, 3 * a + 1 + h)) k := by
  induction k with
  | zero => rfl
  | succ k ih => simp only [thrN, rotI, ih]
theorem onT_rot (o a b h : Int) : onT o a b h = ⟨⟨(rotG o (3 * a + 1 + h, 3 * b + 1 + h)).1 / 3, (rotG o (3 * a + 1 + h, 3 * b + 1 + h)).2 / 3⟩, (rotG o (3 * a + 1 + h, 3 * b + 1 + h)).1 % 3 - 1⟩ := by
  unfold onT rotG
  rw [thr_rot]
def backR (o : Int) : Int := if o ≥ 6 then o else (6 - o) % 6
theorem backR_rng (o : Int) (h0 : 0 ≤ o) (h1 : o < 12) : 0 ≤ backR o ∧ backR o < 12 := by unfold backR; split <;> omega
theorem rot_back (o : Int) (p : Int × Int) (h0 : 0 ≤ o) (h1 : o < 12) : rotG (backR o) (rotG o p) = p := by
  obtain ⟨x, y⟩ := p
  rcases twelve o h0 h1 with rfl | rfl | rfl | rfl | rfl | rfl | rfl | rfl | rfl | rfl | rfl | rfl <;>
    (simp only [backR, rotG, Int.reduceMod, Int.reduceToNat, Int.reduceLT, Int.reduceSub, ge_iff_le, Int.reduceLE, ↓reduceIte, rotI, turnP, Prod.mk.injEq] <;> omega)
theorem rot_mod (o x y : Int) (h0 : 0 ≤ o) (h1 : o < 12) (hxy : x % 3 = y % 3) (h12 : x % 3 = 1 ∨ x % 3 = 2) : (rotG o (x, y)).1 % 3 = (rotG o (x, y)).2 % 3 ∧ ((rotG o (x, y)).1 % 3 = 1 ∨ (rotG o (x, y)).1 % 3 = 2) := by
  rcases twelve o h0 h1 with rfl | rfl | rfl | rfl | rfl | rfl | rfl | rfl | rfl | rfl | rfl | rfl <;>
    (simp only [rotG, Int.reduceMod, Int.reduceToNat, Int.reduceLT, ↓reduceIte, rotI, turnP]; omega)
theorem rot_bd (o x y B : Int) (h0 : 0 ≤ o) (h1 : o < 12) (hx : -B ≤ x) (hx' : x ≤ B) (hy : -B ≤ y) (hy' : y ≤ B) : (-(2 * B) ≤ (rotG o (x, y)).1 ∧ (rotG o (x, y)).1 ≤ 2 * B) ∧ (-(2 * B) ≤ (rotG o (x, y)).2 ∧ (rotG o (x, y)).2 ≤ 2 * B) := by
  rcases twelve o h0 h1 with rfl | rfl | rfl | rfl | rfl | rfl | rfl | rfl | rfl | rfl | rfl | rfl <;>
    (simp only [rotG, Int.reduceMod, Int.reduceToNat, Int.reduceLT, ↓reduceIte, rotI, turnP]; omega)

/-- a cell's half fits its lattice -/
def halfOk (l : Int) (x : CL) : Prop := (x.f1 = 0 ∨ x.f1 = 1) ∧ (l = 1 → x.f1 = 0)
theorem checkR_good {l : Int} {x : CL} (h1 : 1 ≤ l) (h3 : l ≤ 3) (hh : halfOk l x) (hg : goodP x.f0.f0 x.f0.f1) : checkR l x.f0.f0 x.f0.f1 x.f1 = none := by
  unfold checkR
  obtain ⟨h4, h5⟩ := hh
  rw [if_pos ⟨h1, h3⟩, if_neg ?_, if_pos hg]
  by_cases hl : l = 1
  · rw [if_pos hl, h5 hl]; omega
  · rw [if_neg hl]; omega
theorem onC_half (l o : Int) (x : CL) (h0 : 0 ≤ o) (h1 : o < 12) (hh : halfOk l x) : halfOk l (onC l o x) := by
  unfold onC
  by_cases hl : l = 1
  · rw [if_pos hl]
    exact ⟨.inl rfl, fun _ => rfl⟩
  · rw [if_neg hl, onT_rot]
    obtain ⟨h4, _⟩ := hh
    have := rot_mod o (3 * x.f0.f0 + 1 + x.f1) (3 * x.f0.f1 + 1 + x.f1) h0 h1 (by omega) (by omega)
    refine ⟨?_, fun e => absurd e hl⟩
    simp only
    omega
theorem onC_bd (l o : Int) (x : CL) (B : Int) (h0 : 0 ≤ o) (h1 : o < 12) (hh : halfOk l x) (hx : -B ≤ x.f0.f0) (hx' : x.f0.f0 ≤ B) (hy : -B ≤ x.f0.f1) (hy' : x.f0.f1 ≤ B) : (-(2 * B + 2) ≤ (onC l o x).f0.f0 ∧ (onC l o x).f0.f0 ≤ 2 * B + 2) ∧ (-(2 * B + 2) ≤ (onC l o x).f0.f1 ∧ (onC l o x).f0.f1 ≤ 2 * B + 2) := by
  unfold onC
  by_cases hl : l = 1
  · rw [if_pos hl, onP_rot o _ _ h0 h1]
    have := rot_bd o x.f0.f0 x.f0.f1 B h0 h1 hx hx' hy hy'
    simp only
    omega
  · rw [if_neg hl, onT_rot]
    obtain ⟨h4, _⟩ := hh
    have := rot_bd o (3 * x.f0.f0 + 1 + x.f1) (3 * x.f0.f1 + 1 + x.f1) (3 * B + 2) h0 h1 (by omega) (by omega) (by omega) (by omega)
    simp only
    omega
theorem onC_back (l o : Int) (x : CL) (h0 : 0 ≤ o) (h1 : o < 12) (hh : halfOk l x) : onC l (backR o) (onC l o x) = x := by
  obtain ⟨b0, b1⟩ := backR_rng o h0 h1
  obtain ⟨⟨a, b⟩, h⟩ := x
  obtain ⟨h4, h5⟩ := hh
  simp only at h4 h5
  unfold onC
  by_cases hl : l = 1
  · simp only [if_pos hl]
    rw [onP_rot o _ _ h0 h1, onP_rot (backR o) _ _ b0 b1, rot_back o (a, b) h0 h1, h5 hl]
  · simp only [if_neg hl]
    rw [onT_rot o]
    have hm := rot_mod o (3 * a + 1 + h) (3 * b + 1 + h) h0 h1 (by omega) (by omega)
    have hb := rot_back o (3 * a + 1 + h, 3 * b + 1 + h) h0 h1
    generalize rotG o (3 * a + 1 + h, 3 * b + 1 + h) = q at hm hb
    obtain ⟨X, Y⟩ := q
    simp only at hm ⊢
    rw [onT_rot, show 3 * (X / 3) + 1 + (X % 3 - 1) = X by omega, show 3 * (Y / 3) + 1 + (X % 3 - 1) = Y by omega, hb]
    simp only
    rw [show (3 * a + 1 + h) / 3 = a by omega, show (3 * b + 1 + h) / 3 = b by omega, show (3 * a + 1 + h) % 3 - 1 = h by omega]
end Go.Proofs.YtilhadckmhphgaaDoor
