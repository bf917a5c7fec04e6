/- What the printed functions of chapter 4 answer, in plain words. -/
import Derived.Test.YtpekdgdogmaohaaOrd
import Derived.Test.YtpekdgdogmaohaaXFind
import Derived.Test.YtpekdgdogmaohaaXBox
import Derived.Test.YtpekdgdogmaohaaHSet4
import Derived.Test.YtpekdgdogmaohaaHLaw4
import Derived.Test.YtpekdgdogmaohaaHhoneycomblaw04awake
namespace Go.Proofs.Ytpekdgdogmaohaa
open Go.RowKit Go.Proofs.YtpekdgdogmaohaaW.PrintWords Go.Proofs.YtpekdgdogmaohaaW.PrintLast Go.Proofs.YtpekdgdogmaohaaW.PrintMore
open H
open Go.RowKit

theorem rdC (l : List CL) (j : Nat) (hj : j < l.length) : rd_T37 l j = l[j] := by simp [rd_T37, hj]
theorem rdR (l : List RC) (j : Nat) (hj : j < l.length) : rd_T24 l j = l[j] := by simp [rd_T24, hj]

theorem neq_cell (x y : CL) : ((!(x.f0.f0 == y.f0.f0) || (!(x.f0.f1 == y.f0.f1))) || (!(x.f1 == y.f1))) = !decide (x = y) := by
  by_cases h : x = y
  · subst h; simp
  · rw [decide_eq_false h]
    by_cases h0 : x.f0.f0 = y.f0.f0
    · by_cases h1 : x.f0.f1 = y.f0.f1
      · have h2 : ¬ x.f1 = y.f1 := fun e => h (cl_ext h0 h1 e)
        simp [h2]
      · simp [h1]
    · simp [h0]
theorem eq_l0 (l m : List CL) (hlm : l.length = m.length) (hn : l.length < 1099511627776) : ∀ (d k : Nat) (j : Nat), j + d = l.length → d < k → slices_Equal_cell.l0 k l m l.length j = some (decide (l.drop j = m.drop j)) := by
  intro d
  induction d with
  | zero =>
    intro k j hj hk
    obtain ⟨k, rfl⟩ : ∃ m, k = m + 1 := ⟨k - 1, by omega⟩
    simp only [slices_Equal_cell.l0]
    rw [if_neg (by omega), List.drop_eq_nil_of_le (by omega), List.drop_eq_nil_of_le (by omega)]
    rfl
  | succ d ih =>
    intro k j hj hk
    obtain ⟨k, rfl⟩ : ∃ m, k = m + 1 := ⟨k - 1, by omega⟩
    have h1 : j < l.length := by omega
    have h2 : j < m.length := by omega
    simp only [slices_Equal_cell.l0]
    rw [if_pos (by omega), if_pos (by omega), if_pos (by omega), if_pos (by omega), neq_cell, rdC l j h1, rdC m j h2, w64i ((j : Int) + 1) (by omega) (by omega)]
    by_cases he : l[j] = m[j]
    · rw [decide_eq_true he]
      have := ih k (j + 1) (by omega) (by omega)
      simp only [Int.natCast_add, Int.cast_ofNat_Int] at this
      rw [if_neg (by simp), this, List.drop_eq_getElem_cons h1, List.drop_eq_getElem_cons h2, he]
      congr 1
      refine decide_eq_decide.2 ⟨fun e => by rw [e], fun e => (List.cons.inj e).2⟩
    · rw [decide_eq_false he]
      rw [if_pos (by simp), List.drop_eq_getElem_cons h1, List.drop_eq_getElem_cons h2]
      rw [decide_eq_false (fun e => he (List.cons.inj e).1)]
theorem equal_f (k : Nat) (l m : List CL) (hn : l.length < 1099511627776) (hk : l.length < k) : slices_Equal_cell.f k l m = some (decide (l = m)) := by
  unfold slices_Equal_cell.f
  by_cases h : l.length = m.length
  · have := eq_l0 l m h hn l.length k 0 (by omega) hk
    rw [if_pos (by omega)]
    simpa using this
  · rw [if_neg (by omega), decide_eq_false (fun e => h (by rw [e]))]
theorem same_f (k : Nat) (l m : List CL) (hn : l.length < 1099511627776) (hk : l.length < k) : set_Set_Same.f k l m = some (decide (l = m)) := by
  unfold set_Set_Same.f
  rw [equal_f k l m hn hk]
  rfl

theorem chk_l0 (l : List CL) (t : Int) (hs : Srt l) (hc : ∀ x ∈ l, checkR t x.f0.f0 x.f0.f1 x.f1 = none) (hn : l.length < 1099511627776) : ∀ (d k : Nat) (j : Nat), j + d = l.length → d + 1 < k → set_Set_Check.l0 k l t l l.length j = some none := by
  intro d
  induction d with
  | zero =>
    intro k j hj hk
    obtain ⟨k, rfl⟩ : ∃ m, k = m + 1 := ⟨k - 1, by omega⟩
    simp only [set_Set_Check.l0]
    rw [if_neg (by omega)]
  | succ d ih =>
    intro k j hj hk
    obtain ⟨k, rfl⟩ : ∃ m, k = m + 2 := ⟨k - 2, by omega⟩
    have h1 : j < l.length := by omega
    have hij := ih (k + 1) (j + 1) (by omega) (by omega)
    simp only [Int.natCast_add, Int.cast_ofNat_Int] at hij
    rw [show k + 2 = (k + 1) + 1 from rfl, set_Set_Check.l0, if_pos (by omega), if_pos (by omega), if_pos (by omega), rdC l j h1, check_f, hc _ (List.getElem_mem h1)]
    simp only [Option.bind_some, Option.isNone_none, ↓reduceIte]
    rw [w64i ((j : Int) + 1) (by omega) (by omega)]
    by_cases hj0 : j = 0
    · subst hj0
      rw [if_neg (by omega)]
      exact hij
    · obtain ⟨i, rfl⟩ : ∃ i, j = i + 1 := ⟨j - 1, by omega⟩
      rw [if_pos (by omega), w64i (((i + 1 : Nat) : Int) - 1) (by omega) (by omega), show (((i + 1 : Nat) : Int) - 1) = (i : Int) by omega, if_pos (by omega), if_pos (by omega), rdC l i (by omega), cmp_f]
      have hlt : cmpCell l[i] l[i + 1] < 0 := List.pairwise_iff_getElem.1 hs i (i + 1) (by omega) h1 (by omega)
      simp only [Option.bind_some]
      rw [if_neg (by omega)]
      exact hij
theorem chk_f (k : Nat) (l : List CL) (t : Int) (h1 : 1 ≤ t) (h3 : t ≤ 3) (hs : Srt l) (hc : ∀ x ∈ l, checkR t x.f0.f0 x.f0.f1 x.f1 = none) (hn : l.length < 1099511627776) (hk : l.length + 1 < k) : set_Set_Check.f k l t = some none := by
  unfold set_Set_Check.f
  rw [lGood_f, decide_eq_true ⟨h1, h3⟩]
  simp only [Option.bind_some, ↓reduceIte]
  have := chk_l0 l t hs hc hn l.length k 0 (by omega) hk
  simpa using this

/-- a cell of a lattice that may be, of small coordinates -/
def someC (t : Int) (r : RC) : CL := mk (r.f0.tmod 100) (r.f1.tmod 100) (if t = 1 then 0 else r.f2 % 2)
theorem some_l0 (t : Int) (raw : List RC) (hn : raw.length < 140737488351232) : ∀ (d k : Nat) (j : Nat) (out : List CL), j + d = min raw.length 40 → d < k → out.length ≤ j → honeycomblaw04_Some.l0 k t raw out j = some (ofL (out ++ ((raw.drop j).take (40 - j)).map (someC t))) := by
  intro d
  induction d with
  | zero =>
    intro k j out hj hk ho
    obtain ⟨k, rfl⟩ : ∃ m, k = m + 1 := ⟨k - 1, by omega⟩
    have hof : XOf.f out = some (ofL out) := by unfold XOf.f; rw [if_pos (by omega)]
    have he : (raw.drop j).take (40 - j) = [] := by
      rcases Nat.lt_or_ge j raw.length with h | h
      · rw [show 40 - j = 0 by omega, List.take_zero]
      · rw [List.drop_eq_nil_of_le h, List.take_nil]
    simp only [honeycomblaw04_Some.l0]
    rw [he, List.map_nil, List.append_nil]
    by_cases h1 : (j : Int) < (raw.length : Int)
    · rw [if_pos h1, if_neg (by omega), hof]; rfl
    · rw [if_neg h1, hof]; rfl
  | succ d ih =>
    intro k j out hj hk ho
    obtain ⟨k, rfl⟩ : ∃ m, k = m + 1 := ⟨k - 1, by omega⟩
    have h1 : j < raw.length := by omega
    have hij := ih k (j + 1) (out ++ [someC t raw[j]]) (by omega) (by omega) (by simp; omega)
    simp only [Int.natCast_add, Int.cast_ofNat_Int] at hij
    simp only [honeycomblaw04_Some.l0]
    rw [if_pos (by omega), if_pos (by omega), if_pos (by omega), rdR raw j h1, XSome3.f]
    simp only [Option.bind_some]
    rw [if_pos (by omega), w64i ((j : Int) + 1) (by omega) (by omega)]
    refine hij.trans ?_
    rw [List.drop_eq_getElem_cons h1, show 40 - j = (40 - (j + 1)) + 1 by omega, List.take_succ_cons, List.map_cons, List.append_assoc]
    rfl
theorem some4_f (k : Nat) (t : Int) (raw : List RC) (hn : raw.length < 140737488351232) (hk : 40 < k) : honeycomblaw04_Some.f k t raw = some (ofL ((raw.take 40).map (someC t))) := by
  unfold honeycomblaw04_Some.f
  have := some_l0 t raw hn (min raw.length 40) k 0 [] (by omega) (by omega) (by simp)
  simpa using this

theorem lattice_f (n : Int) : honeycomblaw03_Lattice.f n = some (1 + n % 256 % 3) := by
  unfold honeycomblaw03_Lattice.f
  rw [and_255, Int.tmod_eq_emod_of_nonneg (by omega), w64i _ (by omega) (by omega)]

theorem awake4_f : honeycomblaw04_awake.f = some true := by
  have h1 : XOf.f [mk 1 0 0, mk 0 0 0, mk 1 0 0] = some [mk 0 0 0, mk 1 0 0] := by
    unfold XOf.f
    rw [if_pos (by decide)]
    congr 1
    refine srt_ext (ofL_srt _) (by decide) (fun x => ?_)
    rw [ofL_mem]
    simp only [List.mem_cons, List.not_mem_nil, or_false]
    exact ⟨fun h => by rcases h with h | h | h <;> simp [h], fun h => by rcases h with h | h <;> simp [h]⟩
  have h2 : XBox.f [mk 0 0 0, mk 1 0 0] = some (0, 0, 1, 0, true) := by
    unfold XBox.f
    rw [if_pos (by decide)]
    rfl
  have h3 : XFind.f [mk 0 0 0, mk 1 0 0] 1 0 0 = some (1, true) := by
    unfold XFind.f
    rw [if_pos (by decide), if_pos (by decide)]
    rfl
  have e1 : honeycomblaw03_Own.f 1 0 0 = some (1, 0, 0) := rfl
  have e0 : honeycomblaw03_Own.f 0 0 0 = some (0, 0, 0) := rfl
  unfold honeycomblaw04_awake.f set_Set_Has.f
  simp only [e0, e1, Option.bind_some]
  change (XOf.f [mk 1 0 0, mk 0 0 0, mk 1 0 0]).bind _ = _
  rw [h1]
  simp only [Option.bind_some, h2, h3]
  rfl
end Go.Proofs.Ytpekdgdogmaohaa
