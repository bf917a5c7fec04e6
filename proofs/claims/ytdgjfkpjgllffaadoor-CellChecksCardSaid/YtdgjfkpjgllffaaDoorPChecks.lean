/- CellChecks: the law. -/
import Derived.Test.YtdgjfkpjgllffaaDoorPCell
import Derived.Test.YtdgjfkpjgllffaaDoorHhoneycomblaw03CellChecks
namespace Go.Proofs.YtdgjfkpjgllffaaDoor
open Go.RowKit Go.Proofs.YtdgjfkpjgllffaaDoorW.PrintWords Go.Proofs.YtdgjfkpjgllffaaDoorW.PrintLast Go.Proofs.YtdgjfkpjgllffaaDoorW.PrintMore
open H
open Go.RowKit

def namesL : List ByteArray := [(⟨#[]⟩ : ByteArray), (⟨#[104, 101, 120]⟩ : ByteArray), (⟨#[101, 100, 103, 101]⟩ : ByteArray), (⟨#[118, 101, 114, 116, 101, 120]⟩ : ByteArray)]
theorem checks_own (a b h : Int) : honeycomblaw03_Own.f a b h = some (a, b, h) := rfl

theorem checks_j3 (k : Nat) (l : Int) : honeycomblaw03_CellChecks.j3 (k + 1) l l namesL (decide (1 ≤ l ∧ l ≤ 3)) false = some true := by
  simp only [honeycomblaw03_CellChecks.j3, name_f, halves_f, Option.bind_some]
  by_cases h1 : l = 1
  · subst h1; simp [nameR, namesL, rdOf, halvesR, mn, wrap64]
  · by_cases h2 : l = 2
    · subst h2; simp [nameR, namesL, rdOf, halvesR, mn, wrap64]
    · by_cases h3 : l = 3
      · subst h3; simp [nameR, namesL, rdOf, halvesR, mn, wrap64]
      · rw [decide_eq_false (by omega)]
        simp [nameR, h1, h2, h3]
theorem checks_j2 (k : Nat) (l : Int) (s : ByteArray) (x y : CL) :
    honeycomblaw03_CellChecks.j2 (k + 6) l s l (cmpCell x y) namesL (namedR s) (decide (1 ≤ l ∧ l ≤ 3)) x.f0.f0 x.f0.f1 x.f1 y.f0.f0 y.f0.f1 y.f1 = some true := by
  rw [show k + 6 = (k + 5) + 1 from rfl]
  simp only [honeycomblaw03_CellChecks.j2, checks_own, Option.bind_some, XCodeOf.f]
  rw [show k + 5 = (k + 4) + 1 from rfl, check_f, show k + 4 + 1 = (k + 3) + 2 from rfl, refCheck_f, show k + 3 + 2 = (k + 4) + 1 from rfl, cmp_f]
  simp only [Option.bind_some, ↓reduceIte, lGood_f, bne_self_eq_false, Bool.false_eq_true]
  rw [show k + 4 + 1 = k + 5 from rfl, named_f]
  simp only [Option.bind_some, bne_self_eq_false]
  exact checks_j3 (k + 4) l
theorem checks_l0 (k : Nat) (l : Int) (s : ByteArray) (x y : CL) :
    honeycomblaw03_CellChecks.l0 (k + 11) l s l (cmpCell x y) namesL 0 namesL (namesL.length : Int) 0 x.f0.f0 x.f0.f1 x.f1 y.f0.f0 y.f0.f1 y.f1 = some true := by
  have h := checks_j2 k l s x y
  have hd : (if l ≥ 1 then decide (l ≤ 3) else false) = decide (1 ≤ l ∧ l ≤ 3) := by
    by_cases h1 : l ≥ 1
    · rw [if_pos h1]
      simp [show 1 ≤ l from h1]
    · rw [if_neg h1, decide_eq_false (by omega)]
  have hfin : ∀ n, n = namedR s → honeycomblaw03_CellChecks.l0 (k + 7) l s l (cmpCell x y) namesL n namesL (namesL.length : Int) 4 x.f0.f0 x.f0.f1 x.f1 y.f0.f0 y.f0.f1 y.f1 = some true := by
    intro n hn
    subst hn
    rw [show k + 7 = (k + 6) + 1 from rfl]
    simp only [honeycomblaw03_CellChecks.l0]
    rw [if_neg (by decide)]
    by_cases h1 : l ≥ 1
    · rw [if_pos h1] at hd ⊢
      rw [hd]
      exact h
    · rw [if_neg h1] at hd ⊢
      rw [hd]
      exact h
  have hstep : ∀ (j : Nat) (n : Int) (i : Int) (w : List UInt8), 0 ≤ i → i < 4 → i ≤ 100 → (rdOf ByteArray.empty namesL i).toList = w →
      honeycomblaw03_CellChecks.l0 (j + 1) l s l (cmpCell x y) namesL n namesL (namesL.length : Int) i x.f0.f0 x.f0.f1 x.f1 y.f0.f0 y.f0.f1 y.f1 = honeycomblaw03_CellChecks.l0 j l s l (cmpCell x y) namesL (if i > 0 ∧ w = s.toList then i else n) namesL (namesL.length : Int) (i + 1) x.f0.f0 x.f0.f1 x.f1 y.f0.f0 y.f0.f1 y.f1 := by
    intro j n i w h0 h4 _ hw
    simp only [honeycomblaw03_CellChecks.l0]
    rw [if_pos (by simpa [namesL] using h4), if_pos h0, if_pos (by simpa [namesL] using h4), hw, w64i (i + 1) (by omega) (by omega)]
    by_cases c1 : i > 0
    · rw [if_pos c1]
      by_cases c2 : w = s.toList
      · rw [if_pos c2, if_pos ⟨c1, c2⟩]
      · rw [if_neg c2, if_neg (fun x => c2 x.2)]
    · rw [if_neg c1, if_neg (fun x => c1 x.1)]
  rw [show k + 11 = (k + 10) + 1 from rfl, hstep _ 0 0 [] (by omega) (by omega) (by omega) (by simp [rdOf, namesL]), show k + 10 = (k + 9) + 1 from rfl, hstep _ _ (0 + 1) [104, 101, 120] (by omega) (by omega) (by omega) (by simp [rdOf, namesL]),
    show k + 9 = (k + 8) + 1 from rfl, hstep _ _ (0 + 1 + 1) [101, 100, 103, 101] (by omega) (by omega) (by omega) (by simp [rdOf, namesL]), show k + 8 = (k + 7) + 1 from rfl, hstep _ _ (0 + 1 + 1 + 1) [118, 101, 114, 116, 101, 120] (by omega) (by omega) (by omega) (by simp [rdOf, namesL])]
  refine hfin _ ?_
  unfold namedR
  by_cases c1 : s.toList = [104, 101, 120]
  · simp [c1]
  · by_cases c2 : s.toList = [101, 100, 103, 101]
    · simp [c2]
    · by_cases c3 : s.toList = [118, 101, 114, 116, 101, 120]
      · simp [c3]
      · simp [c1, c2, c3, Ne.symm c1, Ne.symm c2, Ne.symm c3]
theorem checks_pure (l : Int) (x y : CL) (s : ByteArray) : honeycomblaw03_CellChecks.f 20 l x.f0.f0 x.f0.f1 x.f1 y.f0.f0 y.f0.f1 y.f1 s = some true := by
  unfold honeycomblaw03_CellChecks.f
  simp only [XAwake3.f, Option.bind_some, ↓reduceIte, ahead_f]
  have key : ∀ n, n = cmpCell x y → honeycomblaw03_CellChecks.j0 20 l s l n x.f0.f0 x.f0.f1 x.f1 y.f0.f0 y.f0.f1 y.f1 = some true := by
    intro n hn
    subst hn
    exact checks_l0 8 l s x y
  by_cases ha : aheadP x.f0.f0 x.f0.f1 x.f1 y.f0.f0 y.f0.f1 y.f1
  · rw [decide_eq_true ha, if_pos rfl]
    exact key _ ((ahead_cmp x y).1 ha).symm
  · rw [decide_eq_false ha, if_neg (by decide)]
    have hu : cmpCell x y = if x.f0.f0 = y.f0.f0 ∧ x.f0.f1 = y.f0.f1 ∧ x.f1 = y.f1 then 0 else 1 := by
      unfold cmpCell
      exact if_neg ha
    by_cases he : x.f0.f0 = y.f0.f0 ∧ x.f0.f1 = y.f0.f1 ∧ x.f1 = y.f1
    · rw [if_pos he] at hu
      rw [if_neg (by simp [he.1, he.2.1, he.2.2])]
      exact key _ hu.symm
    · rw [if_neg he] at hu
      rw [if_pos ?_]
      · exact key _ hu.symm
      · by_cases e1 : x.f0.f0 = y.f0.f0
        · by_cases e2 : x.f0.f1 = y.f0.f1
          · have e3 : ¬ x.f1 = y.f1 := fun e => he ⟨e1, e2, e⟩
            simp [e3]
          · simp [e2]
        · simp [e1]
theorem cellChecks_walk (l a b h c d e : Int) (s : ByteArray) (w : World) (hG : Six w) (hE : Et w) :
    Calls Tryd.prog 9 #[.int .i64 l, .agg #[.int .i64 a, .int .i64 b, .int .i64 h], .agg #[.int .i64 c, .int .i64 d, .int .i64 e], .string s] w fun e w' => e = .returned (.bool true) ∧ Below w.heap.size w w' :=
  honeycomblaw03_CellChecks.calls 20 l a b h c d e s true w hE hG (checks_pure l (mk a b h) (mk c d e) s)
end Go.Proofs.YtdgjfkpjgllffaaDoor
