/- What the printed functions of chapter 3 answer, in plain words. -/
import Derived.Test.YtdgjfkpjgllffaaDoorXBeside
import Derived.Test.YtdgjfkpjgllffaaDoorHCell0
import Derived.Test.YtdgjfkpjgllffaaDoorHCell0
namespace Go.Proofs.YtdgjfkpjgllffaaDoor
open Go.RowKit Go.Proofs.YtdgjfkpjgllffaaDoorW.PrintWords Go.Proofs.YtdgjfkpjgllffaaDoorW.PrintLast Go.Proofs.YtdgjfkpjgllffaaDoorW.PrintMore
open H
open Go.RowKit

abbrev RC := S23
theorem w64i (x : Int) (h1 : -9223372036854775808 ≤ x) (h2 : x ≤ 9223372036854775807) : wrap64 x = x := by unfold wrap64; omega

theorem refGood_f (a b : Int) : honeycombref01_Good.f a b = some (decide (goodP a b)) := by
  unfold honeycombref01_Good.f
  by_cases hg : goodP a b
  · rw [decide_eq_true hg]
    obtain ⟨h1, h2, h3, h4⟩ := hg
    rw [if_pos h2, if_pos h1, if_pos h4, decide_eq_true h3]
  · rw [decide_eq_false hg]
    simp only [goodP] at hg
    by_cases h1 : a ≤ 1099511627776
    · by_cases h2 : a ≥ -1099511627776
      · by_cases h3 : b ≤ 1099511627776
        · rw [if_pos h1, if_pos h2, if_pos h3, decide_eq_false (by omega)]
        · rw [if_pos h1, if_pos h2, if_neg h3]
      · rw [if_pos h1, if_neg h2]
    · rw [if_neg h1]

theorem refCheck_f (k : Nat) (l a b h : Int) : honeycombref03_Check.f (k + 2) l a b h = some ((checkR l a b h).getD 0) := by
  unfold honeycombref03_Check.f checkR
  simp only [honeycombref03_Check.j0, honeycombref03_Check.j1, refGood_f]
  by_cases h1 : l < 1
  · simp [h1, show ¬ 1 ≤ l by omega]
  · by_cases h3 : l > 3
    · simp [h1, h3, show ¬ l ≤ 3 by omega]
    · have e1 : 1 ≤ l ∧ l ≤ 3 := by omega
      rw [if_neg h1, if_pos e1]
      simp only [h3, decide_false, Bool.false_eq_true, ↓reduceIte]
      by_cases h4 : h < 0
      · simp [h4]
      · by_cases h5 : h > 1
        · rw [if_neg h4, if_pos h5, if_pos (by right; split <;> omega)]
          rfl
        · rw [if_neg h4, if_neg h5]
          by_cases h6 : l = 1
          · rw [if_pos h6, if_pos h6]
            by_cases h7 : h > 0
            · rw [decide_eq_true h7, if_pos rfl, if_pos (by omega)]
              rfl
            · rw [decide_eq_false h7, if_neg (by decide), if_neg (by omega)]
              by_cases hg : goodP a b <;> simp [hg]
          · rw [if_neg h6, if_neg h6, if_neg (by omega)]
            by_cases hg : goodP a b <;> simp [hg]

theorem pGood_f (a b : Int) : axis_Point_Good.f a b = some (decide (goodP a b)) := by
  unfold axis_Point_Good.f
  by_cases hg : goodP a b
  · rw [decide_eq_true hg]
    obtain ⟨h1, h2, h3, h4⟩ := hg
    rw [if_pos h1, if_pos h2, if_pos h3, decide_eq_true h4]
  · rw [decide_eq_false hg]
    simp only [goodP] at hg
    by_cases h1 : a ≥ -1099511627776
    · by_cases h2 : a ≤ 1099511627776
      · by_cases h3 : b ≥ -1099511627776
        · rw [if_pos h1, if_pos h2, if_pos h3, decide_eq_false (by omega)]
        · rw [if_pos h1, if_pos h2, if_neg h3]
      · rw [if_pos h1, if_neg h2]
    · rw [if_neg h1]
theorem lGood_f (l : Int) : cell_Lattice_Good.f l = some (decide (1 ≤ l ∧ l ≤ 3)) := by
  unfold cell_Lattice_Good.f
  by_cases h1 : l ≥ 1
  · rw [if_pos h1]
    simp [show 1 ≤ l from h1]
  · rw [if_neg h1, decide_eq_false (by omega)]
theorem halves_f (l : Int) : cell_Lattice_Halves.f l = some (halvesR l) := by
  unfold cell_Lattice_Halves.f halvesR
  split <;> rfl
theorem check_f (k : Nat) (l a b h : Int) : cell_Lattice_Check.f (k + 1) l a b h = some (checkR l a b h) := by
  unfold cell_Lattice_Check.f checkR
  simp only [lGood_f, halves_f, Option.bind_some, cell_Lattice_Check.j0, pGood_f]
  by_cases h0 : 1 ≤ l ∧ l ≤ 3
  · simp only [h0, decide_true, and_self, ↓reduceIte]
    by_cases h1 : h < 0
    · rw [if_pos h1, if_pos (.inl h1)]
    · rw [if_neg h1]
      unfold halvesR
      by_cases h2 : h ≥ (if l = 1 then 1 else 2)
      · simp only [decide_eq_true h2, ↓reduceIte]
        rw [if_pos (.inr h2)]
      · have h3 : ¬ (h < 0 ∨ (if l = 1 then 1 else 2) ≤ h) := fun x => x.elim h1 h2
        simp only [decide_eq_false h2, Bool.false_eq_true, ↓reduceIte, h3]
        by_cases hg : goodP a b <;> simp [hg]
  · simp [h0]
theorem cmp_f (k : Nat) (x y : CL) : cell_Compare.f (k + 1) x.f0.f0 x.f0.f1 x.f1 y.f0.f0 y.f0.f1 y.f1 = some (cmpCell x y) := by
  obtain ⟨⟨a, b⟩, h⟩ := x
  obtain ⟨⟨c, d⟩, e⟩ := y
  unfold cell_Compare.f axis_Point_Less.f cmpCell
  simp only [cell_Compare.j0]
  by_cases h1 : b < d
  · simp [h1]
  · by_cases h2 : b = d
    · by_cases h3 : a < c
      · simp [h2, h3]
      · by_cases h4 : a = c
        · by_cases h5 : h < e
          · simp [h2, h4, h5]
          · by_cases h6 : h = e
            · simp [h2, h4, h6]
            · simp [h2, h4, h5, h6]
        · simp [h2, h3, h4]
    · simp [h1, h2]
def aheadP (a b h c d k : Int) : Prop := b < d ∨ (b = d ∧ (a < c ∨ (a = c ∧ h < k)))
instance (a b h c d k : Int) : Decidable (aheadP a b h c d k) := by unfold aheadP; infer_instance
theorem ahead_f (a b h c d k : Int) : honeycombref03_Ahead.f a b h c d k = some (decide (aheadP a b h c d k)) := by
  unfold honeycombref03_Ahead.f
  by_cases h2 : b = d
  · by_cases h4 : a = c
    · rw [if_pos h2, if_pos h4]
      simp [aheadP, h2, h4]
    · rw [if_pos h2, if_neg h4]
      simp [aheadP, h2, h4]
  · rw [if_neg h2]
    simp [aheadP, h2]
theorem ahead_cmp (x y : CL) : aheadP x.f0.f0 x.f0.f1 x.f1 y.f0.f0 y.f0.f1 y.f1 ↔ cmpCell x y = -1 := by
  unfold cmpCell aheadP
  by_cases h : x.f0.f1 < y.f0.f1 ∨ (x.f0.f1 = y.f0.f1 ∧ (x.f0.f0 < y.f0.f0 ∨ (x.f0.f0 = y.f0.f0 ∧ x.f1 < y.f1)))
  · rw [if_pos h]
    simp [h]
  · rw [if_neg h]
    constructor
    · intro h'
      exact absurd h' h
    · intro h'
      split at h' <;> omega

/-- the lattice of a word -/
def namedR (s : ByteArray) : Int := if s.toList = [104, 101, 120] then 1 else if s.toList = [101, 100, 103, 101] then 2 else if s.toList = [118, 101, 114, 116, 101, 120] then 3 else 0
theorem named_f (k : Nat) (s : ByteArray) : cell_Named.f (k + 5) s = some (namedR s) := by
  unfold namedR
  simp only [cell_Named.f, slices_Index_string_string.f]
  rw [show k + 5 = (k + 4) + 1 from rfl]
  simp only [slices_Index_string_string.l0]
  by_cases h1 : s.toList = [104, 101, 120]
  · simp [h1, wrap64, rdOf]
  · by_cases h2 : s.toList = [101, 100, 103, 101]
    · simp [h2, wrap64, rdOf]
    · by_cases h3 : s.toList = [118, 101, 114, 116, 101, 120]
      · simp [h3, wrap64, rdOf]
      · simp [h1, h2, h3, wrap64, rdOf]
def nameR (l : Int) : ByteArray := if l = 1 then ⟨#[104, 101, 120]⟩ else if l = 2 then ⟨#[101, 100, 103, 101]⟩ else if l = 3 then ⟨#[118, 101, 114, 116, 101, 120]⟩ else ⟨#[]⟩
theorem name_f (l : Int) : cell_Lattice_Name.f l = some (nameR l) := by
  by_cases h1 : l = 1
  · subst h1; simp [nameR, cell_Lattice_Name.f, cell_Lattice_Good.f, wrap64, rdOf]
  · by_cases h2 : l = 2
    · subst h2; simp [nameR, cell_Lattice_Name.f, cell_Lattice_Good.f, wrap64, rdOf]
    · by_cases h3 : l = 3
      · subst h3; simp [nameR, cell_Lattice_Name.f, cell_Lattice_Good.f, wrap64, rdOf]
      · by_cases h4 : 1 ≤ l
        · have h5 : ¬ l ≤ 3 := by omega
          simp [nameR, h1, h2, h3, h4, h5, cell_Lattice_Name.f, cell_Lattice_Good.f]
        · simp [nameR, h1, h2, h3, h4, cell_Lattice_Name.f, cell_Lattice_Good.f]
end Go.Proofs.YtdgjfkpjgllffaaDoor
