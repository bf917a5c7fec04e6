/- The order of cells; sorted lists of cells; the set of a list. Plain. -/
import Derived.Test.YtpekdgdogmaohaaXOf
import Derived.Test.YtpekdgdogmaohaaPCell0
namespace Go.Proofs.Ytpekdgdogmaohaa
open Go.RowKit Go.Proofs.YtpekdgdogmaohaaW.PrintWords Go.Proofs.YtpekdgdogmaohaaW.PrintLast Go.Proofs.YtpekdgdogmaohaaW.PrintMore
open H
open Go.Shelf Go.RowKit Go.Lib Go.Sort

theorem cmp_lt (x y : CL) : cmpCell x y < 0 ↔ x.f0.f1 < y.f0.f1 ∨ (x.f0.f1 = y.f0.f1 ∧ (x.f0.f0 < y.f0.f0 ∨ (x.f0.f0 = y.f0.f0 ∧ x.f1 < y.f1))) := by
  unfold cmpCell
  split
  · rename_i h; exact ⟨fun _ => h, fun _ => by omega⟩
  · rename_i h
    split
    · exact ⟨fun h' => by omega, fun h' => absurd h' h⟩
    · exact ⟨fun h' => by omega, fun h' => absurd h' h⟩
theorem cl_ext {x y : CL} (h0 : x.f0.f0 = y.f0.f0) (h1 : x.f0.f1 = y.f0.f1) (h2 : x.f1 = y.f1) : x = y := by
  obtain ⟨⟨a, b⟩, h⟩ := x
  obtain ⟨⟨c, d⟩, k⟩ := y
  simp only at h0 h1 h2
  rw [h0, h1, h2]
theorem cmp_eq (x y : CL) : cmpCell x y = 0 ↔ x = y := by
  constructor
  · intro h
    unfold cmpCell at h
    split at h
    · omega
    · split at h
      · rename_i h'; exact cl_ext h'.1 h'.2.1 h'.2.2
      · omega
  · rintro rfl
    unfold cmpCell
    rw [if_neg (by omega), if_pos ⟨rfl, rfl, rfl⟩]
def ltC (x y : CL) : Prop := cmpCell x y < 0
instance (x y : CL) : Decidable (ltC x y) := by unfold ltC; infer_instance
theorem ltC_irrefl (x : CL) : ¬ ltC x x := by unfold ltC; rw [cmp_lt]; omega
theorem ltC_trans {x y z : CL} (h1 : ltC x y) (h2 : ltC y z) : ltC x z := by unfold ltC at *; rw [cmp_lt] at *; omega
theorem ltC_tri (x y : CL) : ltC x y ∨ x = y ∨ ltC y x := by
  by_cases h : x = y
  · exact .inr (.inl h)
  · unfold ltC
    rw [cmp_lt, cmp_lt]
    have : ¬ (x.f0.f0 = y.f0.f0 ∧ x.f0.f1 = y.f0.f1 ∧ x.f1 = y.f1) := fun e => h (cl_ext e.1 e.2.1 e.2.2)
    omega
theorem ltC_asymm {x y : CL} (h : ltC x y) : ¬ ltC y x := fun h' => ltC_irrefl x (ltC_trans h h')
theorem ltC_le_trans {x y z : CL} (h1 : ¬ ltC y x) (h2 : ltC y z) : ltC x z := by
  rcases ltC_tri x y with h | rfl | h
  · exact ltC_trans h h2
  · exact h2
  · exact absurd h h1

/-- rising, each once -/
def Srt (l : List CL) : Prop := l.Pairwise ltC
instance (l : List CL) : Decidable (Srt l) := by unfold Srt; infer_instance
theorem srt_ext : ∀ {xs ys : List CL}, Srt xs → Srt ys → (∀ x, x ∈ xs ↔ x ∈ ys) → xs = ys
  | [], [], _, _, _ => rfl
  | [], y :: ys, _, _, h => absurd ((h y).2 (by simp)) (by simp)
  | x :: xs, [], _, _, h => absurd ((h x).1 (by simp)) (by simp)
  | x :: xs, y :: ys, hx, hy, h => by
    obtain ⟨hx1, hx2⟩ := List.pairwise_cons.1 hx
    obtain ⟨hy1, hy2⟩ := List.pairwise_cons.1 hy
    have e : x = y := by
      rcases List.mem_cons.1 ((h x).1 (by simp)) with e | e
      · exact e
      · rcases List.mem_cons.1 ((h y).2 (by simp)) with e' | e'
        · exact e'.symm
        · exact absurd (hx1 y e') (ltC_asymm (hy1 x e))
    subst e
    rw [srt_ext hx2 hy2 (fun z => ?_)]
    have hz := h z
    simp only [List.mem_cons] at hz
    constructor
    · intro hm
      rcases hz.1 (.inr hm) with e | e
      · subst e; exact absurd (hx1 _ hm) (ltC_irrefl _)
      · exact e
    · intro hm
      rcases hz.2 (.inr hm) with e | e
      · subst e; exact absurd (hy1 _ hm) (ltC_irrefl _)
      · exact e

theorem sort_pair (l : List CL) : (sortCells l).Pairwise fun x y => ¬ ltC y x := by
  have h : (sortCells l).Pairwise fun x y => (!(ltOf cmpCell) y x) = true := by
    unfold sortCells
    apply List.pairwise_mergeSort
    · intro a b c h1 h2
      simp only [Bool.not_eq_true', lt_cell, decide_eq_false_iff_not] at *
      omega
    · intro a b
      simp only [Bool.or_eq_true, Bool.not_eq_true', lt_cell, decide_eq_false_iff_not]
      omega
  refine h.imp fun {a b} hab => ?_
  simp only [Bool.not_eq_true', lt_cell, decide_eq_false_iff_not] at hab
  unfold ltC
  rw [cmp_lt]
  exact hab
theorem sort_mem (l : List CL) (x : CL) : x ∈ sortCells l ↔ x ∈ l := List.mem_mergeSort

theorem comp_srt (d : Array CL) (hd : ∀ i j, i ≤ j → j < d.size → ¬ ltC d[j]! d[i]!) : ∀ m, m ≤ d.size → Srt (compactUpTo d m) ∧ ∀ x, x ∈ compactUpTo d m ↔ ∃ j, j < m ∧ d[j]! = x
  | 0, _ => by simp [compactUpTo, Srt]
  | m + 1, hm => by
    obtain ⟨hs, hx⟩ := comp_srt d hd m (by omega)
    rw [compactUpTo_succ]
    by_cases hk : keeps d m = true
    · rw [if_pos hk]
      refine ⟨List.pairwise_append.2 ⟨hs, by simp, fun a ha b hb => ?_⟩, fun x => ?_⟩
      · obtain rfl : b = d[m]! := by simpa using hb
        obtain ⟨j, hj, rfl⟩ := (hx a).1 ha
        have hne : d[m]! ≠ d[m - 1]! := by
          have : m = 0 ∨ d[m]! ≠ d[m - 1]! := by simpa [keeps] using hk
          rcases this with h | h
          · omega
          · exact h
        have h1 := hd j (m - 1) (by omega) (by omega)
        have h2 := hd (m - 1) m (by omega) (by omega)
        rcases ltC_tri d[m - 1]! d[m]! with h | h | h
        · exact ltC_le_trans h1 h
        · exact absurd h.symm hne
        · exact absurd h h2
      · rw [List.mem_append, hx]
        constructor
        · rintro (⟨j, hj, e⟩ | h)
          · exact ⟨j, by omega, e⟩
          · exact ⟨m, by omega, by simpa using (Eq.symm (by simpa using h))⟩
        · rintro ⟨j, hj, e⟩
          by_cases h : j < m
          · exact .inl ⟨j, h, e⟩
          · obtain rfl : j = m := by omega
            exact .inr (by simp [e])
    · rw [if_neg hk, List.append_nil]
      refine ⟨hs, fun x => ?_⟩
      rw [hx]
      constructor
      · rintro ⟨j, hj, e⟩
        exact ⟨j, by omega, e⟩
      · rintro ⟨j, hj, e⟩
        by_cases h : j < m
        · exact ⟨j, h, e⟩
        · obtain rfl : j = m := by omega
          have : ¬ (j = 0 ∨ d[j]! ≠ d[j - 1]!) := by simpa [keeps] using hk
          have h2 : d[j]! = d[j - 1]! := by
            by_cases h' : d[j]! = d[j - 1]!
            · exact h'
            · exact absurd (.inr h') this
          exact ⟨j - 1, by omega, h2.symm.trans e⟩

theorem ofL_both (l : List CL) : Srt (ofL l) ∧ ∀ x, x ∈ ofL l ↔ x ∈ l := by
  have hp := sort_pair l
  have := comp_srt (sortCells l).toArray (fun i j hij hj => by
    have hj' : j < (sortCells l).length := by simpa using hj
    have e : ∀ k, k < (sortCells l).length → (sortCells l).toArray[k]! = (sortCells l)[k]! := fun k hk => by simp
    rw [e j hj', e i (by omega)]
    rcases Nat.lt_or_ge i j with h | h
    · have := List.pairwise_iff_getElem.1 hp i j (by omega) hj' h
      rwa [getElem!_pos (sortCells l) j hj', getElem!_pos (sortCells l) i (by omega)]
    · obtain rfl : i = j := by omega
      exact ltC_irrefl _) (sortCells l).toArray.size (Nat.le_refl _)
  refine ⟨this.1, fun x => ?_⟩
  rw [ofL, this.2, ← sort_mem l x]
  constructor
  · rintro ⟨j, hj, e⟩
    have hj' : j < (sortCells l).length := by simpa using hj
    rw [← e]
    simp [hj']
  · intro hm
    obtain ⟨j, hj, e⟩ := List.getElem_of_mem hm
    exact ⟨j, by simpa using hj, by simp [hj, e]⟩
theorem ofL_srt (l : List CL) : Srt (ofL l) := (ofL_both l).1
theorem ofL_mem (l : List CL) (x : CL) : x ∈ ofL l ↔ x ∈ l := (ofL_both l).2 x
theorem ofL_of_srt {l : List CL} (h : Srt l) : ofL l = l := srt_ext (ofL_srt l) h (ofL_mem l)

/-- how many are ahead of a cell -/
def lo (l : List CL) (c : CL) : Nat := (l.filter fun x => decide (ltC x c)).length
theorem lo_le (l : List CL) (c : CL) : lo l c ≤ l.length := List.length_filter_le _ _
theorem lo_split : ∀ {l : List CL} (_ : Srt l) (c : CL), l = (l.filter fun x => decide (ltC x c)) ++ (l.filter fun x => !decide (ltC x c))
  | [], _, _ => rfl
  | x :: l, h, c => by
    obtain ⟨h1, h2⟩ := List.pairwise_cons.1 h
    have ih := lo_split h2 c
    by_cases hx : ltC x c
    · rw [List.filter_cons_of_pos (by simpa using hx), List.filter_cons_of_neg (by simpa using hx), List.cons_append, ← ih]
    · have he : (l.filter fun x => decide (ltC x c)) = [] := by
        rw [List.filter_eq_nil_iff]
        intro y hy hyc
        exact hx (ltC_trans (h1 y hy) (by simpa using hyc))
      rw [he, List.nil_append] at ih
      rw [List.filter_cons_of_neg (by simpa using hx), List.filter_cons_of_pos (by simpa using hx), he, ← ih, List.nil_append]
theorem lo_take {l : List CL} (h : Srt l) (c : CL) : l.take (lo l c) = l.filter fun x => decide (ltC x c) := by
  have e : lo l c = (l.filter fun x => decide (ltC x c)).length := rfl
  rw [e]
  exact (congrArg (List.take _) (lo_split h c)).trans List.take_left
theorem lo_drop {l : List CL} (h : Srt l) (c : CL) : l.drop (lo l c) = l.filter fun x => !decide (ltC x c) := by
  have e : lo l c = (l.filter fun x => decide (ltC x c)).length := rfl
  rw [e]
  exact (congrArg (List.drop _) (lo_split h c)).trans List.drop_left
theorem lo_iff {l : List CL} (h : Srt l) (c : CL) (j : Nat) (hj : j < l.length) : ltC (rd_T37 l j) c ↔ j < lo l c := by
  have e : rd_T37 l j = l[j] := by simp [rd_T37, hj]
  rw [e]
  constructor
  · intro hlt
    rcases Nat.lt_or_ge j (lo l c) with h1 | h1
    · exact h1
    · have hm : l[j] ∈ l.drop (lo l c) := by
        rw [List.mem_iff_getElem]
        exact ⟨j - lo l c, by simp; omega, by simp [show lo l c + (j - lo l c) = j by omega]⟩
      rw [lo_drop h] at hm
      have := (List.mem_filter.1 hm).2
      simp [hlt] at this
  · intro hlt
    have hm : l[j] ∈ l.take (lo l c) := by
      rw [List.mem_iff_getElem]
      exact ⟨j, by simp; omega, by simp⟩
    rw [lo_take h] at hm
    simpa using (List.mem_filter.1 hm).2
theorem lo_has {l : List CL} (h : Srt l) (c : CL) : (lo l c < l.length ∧ cmpCell (rd_T37 l (lo l c)) c = 0) ↔ c ∈ l := by
  constructor
  · rintro ⟨h1, h2⟩
    rw [cmp_eq] at h2
    rw [← h2]
    simp [rd_T37, h1]
  · intro hm
    obtain ⟨j, hj, e⟩ := List.getElem_of_mem hm
    have ej : rd_T37 l j = c := by simp [rd_T37, hj, e]
    have h1 : ¬ j < lo l c := by
      rw [← lo_iff h c j hj, ej]
      exact ltC_irrefl c
    rcases Nat.lt_or_ge (lo l c) j with h2 | h2
    · have h3 : lo l c < l.length := by omega
      have h4 : ¬ ltC (rd_T37 l (lo l c)) c := fun x => absurd ((lo_iff h c (lo l c) h3).1 x) (by omega)
      have h5 := List.pairwise_iff_getElem.1 h (lo l c) j h3 hj h2
      rw [e] at h5
      have : rd_T37 l (lo l c) = l[lo l c] := by simp [rd_T37, h3]
      rw [this] at h4
      exact absurd h5 h4
    · obtain rfl : j = lo l c := by omega
      exact ⟨hj, (cmp_eq _ _).2 ej⟩
end Go.Proofs.Ytpekdgdogmaohaa
