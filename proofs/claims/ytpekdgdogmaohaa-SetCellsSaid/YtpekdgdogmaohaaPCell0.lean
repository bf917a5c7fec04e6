/- What the printed functions of cells answer, in plain words. -/
import Derived.Test.YtpekdgdogmaohaaGood
namespace Go.Proofs.Ytpekdgdogmaohaa
open Go.RowKit Go.Proofs.YtpekdgdogmaohaaW.PrintWords Go.Proofs.YtpekdgdogmaohaaW.PrintLast Go.Proofs.YtpekdgdogmaohaaW.PrintMore
open H
open Go.RowKit

abbrev RC := S24
theorem w64i (x : Int) (h1 : -9223372036854775808 ≤ x) (h2 : x ≤ 9223372036854775807) : wrap64 x = x := by unfold wrap64; omega

theorem pGood_f (a b : Int) : axis_Point_Good.f a b = some (decide (goodP a b)) := by
  unfold axis_Point_Good.f
  by_cases hg : goodP a b
  · rw [decide_eq_true hg]
    obtain ⟨h1, h2, h3, h4⟩ := hg
    rw [if_pos h1, if_pos h2, if_pos h3, decide_eq_true h4]
  · rw [decide_eq_false hg]
    simp only [goodP] at hg
    by_cases h1 : a ≥ -1099511627776
    · by_cases h2 : a ≤ 1099511627776
      · by_cases h3 : b ≥ -1099511627776
        · rw [if_pos h1, if_pos h2, if_pos h3, decide_eq_false (by omega)]
        · rw [if_pos h1, if_pos h2, if_neg h3]
      · rw [if_pos h1, if_neg h2]
    · rw [if_neg h1]
theorem lGood_f (l : Int) : cell_Lattice_Good.f l = some (decide (1 ≤ l ∧ l ≤ 3)) := by
  unfold cell_Lattice_Good.f
  by_cases h1 : l ≥ 1
  · rw [if_pos h1]
    simp [show 1 ≤ l from h1]
  · rw [if_neg h1, decide_eq_false (by omega)]
theorem halves_f (l : Int) : cell_Lattice_Halves.f l = some (halvesR l) := by
  unfold cell_Lattice_Halves.f halvesR
  split <;> rfl
theorem check_f (k : Nat) (l a b h : Int) : cell_Lattice_Check.f (k + 1) l a b h = some (checkR l a b h) := by
  unfold cell_Lattice_Check.f checkR
  simp only [lGood_f, halves_f, Option.bind_some, cell_Lattice_Check.j0, pGood_f]
  by_cases h0 : 1 ≤ l ∧ l ≤ 3
  · simp only [h0, decide_true, and_self, ↓reduceIte]
    by_cases h1 : h < 0
    · rw [if_pos h1, if_pos (.inl h1)]
    · rw [if_neg h1]
      unfold halvesR
      by_cases h2 : h ≥ (if l = 1 then 1 else 2)
      · simp only [decide_eq_true h2, ↓reduceIte]
        rw [if_pos (.inr h2)]
      · have h3 : ¬ (h < 0 ∨ (if l = 1 then 1 else 2) ≤ h) := fun x => x.elim h1 h2
        simp only [decide_eq_false h2, Bool.false_eq_true, ↓reduceIte, h3]
        by_cases hg : goodP a b <;> simp [hg]
  · simp [h0]
theorem cmp_f (k : Nat) (x y : CL) : cell_Compare.f (k + 1) x.f0.f0 x.f0.f1 x.f1 y.f0.f0 y.f0.f1 y.f1 = some (cmpCell x y) := by
  obtain ⟨⟨a, b⟩, h⟩ := x
  obtain ⟨⟨c, d⟩, e⟩ := y
  unfold cell_Compare.f axis_Point_Less.f cmpCell
  simp only [cell_Compare.j0]
  by_cases h1 : b < d
  · simp [h1]
  · by_cases h2 : b = d
    · by_cases h3 : a < c
      · simp [h2, h3]
      · by_cases h4 : a = c
        · by_cases h5 : h < e
          · simp [h2, h4, h5]
          · by_cases h6 : h = e
            · simp [h2, h4, h6]
            · simp [h2, h4, h5, h6]
        · simp [h2, h3, h4]
    · simp [h1, h2]
def aheadP (a b h c d k : Int) : Prop := b < d ∨ (b = d ∧ (a < c ∨ (a = c ∧ h < k)))
instance (a b h c d k : Int) : Decidable (aheadP a b h c d k) := by unfold aheadP; infer_instance
theorem ahead_f (a b h c d k : Int) : honeycombref03_Ahead.f a b h c d k = some (decide (aheadP a b h c d k)) := by
  unfold honeycombref03_Ahead.f
  by_cases h2 : b = d
  · by_cases h4 : a = c
    · rw [if_pos h2, if_pos h4]
      simp [aheadP, h2, h4]
    · rw [if_pos h2, if_neg h4]
      simp [aheadP, h2, h4]
  · rw [if_neg h2]
    simp [aheadP, h2]
theorem ahead_cmp (x y : CL) : aheadP x.f0.f0 x.f0.f1 x.f1 y.f0.f0 y.f0.f1 y.f1 ↔ cmpCell x y = -1 := by
  unfold cmpCell aheadP
  by_cases h : x.f0.f1 < y.f0.f1 ∨ (x.f0.f1 = y.f0.f1 ∧ (x.f0.f0 < y.f0.f0 ∨ (x.f0.f0 = y.f0.f0 ∧ x.f1 < y.f1)))
  · rw [if_pos h]
    simp [h]
  · rw [if_neg h]
    constructor
    · intro h'
      exact absurd h' h
    · intro h'
      split at h' <;> omega

end Go.Proofs.Ytpekdgdogmaohaa
