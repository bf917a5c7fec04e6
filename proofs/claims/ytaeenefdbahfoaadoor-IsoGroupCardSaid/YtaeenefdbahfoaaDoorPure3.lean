/- Which cells are beside one, as a list: no program in sight. -/
import Derived.Test.YtaeenefdbahfoaaDoorBeside
namespace Go.Proofs.YtaeenefdbahfoaaDoor
open Go.RowKit Go.Proofs.YtaeenefdbahfoaaDoorW.PrintWords Go.Proofs.YtaeenefdbahfoaaDoorW.PrintLast Go.Proofs.YtaeenefdbahfoaaDoorW.PrintMore
open H
open Go.Shelf Go.RowKit Go.Lib Go.Sort

theorem sh_inj (a b : Int) {x y : CL} (h : sh a b x = sh a b y) : x = y := by
  obtain ⟨⟨p, q⟩, r⟩ := x
  obtain ⟨⟨p', q'⟩, r'⟩ := y
  simp only [sh, S65.mk.injEq, S63.mk.injEq] at h ⊢
  omega
theorem sh_lt (a b : Int) (x y : CL) : ltOf cmpCell (sh a b x) (sh a b y) = ltOf cmpCell x y := by
  rw [lt_cell, lt_cell]
  simp only [sh]
  congr 1
  rw [eq_iff_iff]
  omega

theorem near_sh (l a b h : Int) (h0 : h = 0 ∨ h = 1) : nearL l a b h = (nearL l 0 0 h).map (sh a b) := by
  unfold nearL
  split
  · simp [hexL, sixP, sh]
  · split
    · rcases h0 with rfl | rfl <;> simp [edgeL, edgeP, sh]
    · rcases h0 with rfl | rfl
      · simp [vertL, cornP, aroundL, sh]; omega
      · simp [vertL, cornP, aroundL, sh]; omega

theorem far_sh (l a b h : Int) (h0 : h = 0 ∨ h = 1) : farL l a b h = (farL l 0 0 h).map (sh a b) := by
  unfold farL
  rw [near_sh l a b h h0, List.filter_map]
  congr 2
  funext x
  obtain ⟨⟨p, q⟩, r⟩ := x
  rw [Bool.eq_iff_iff]
  simp [sh, S65.mk.injEq, S63.mk.injEq]
  omega
theorem sort_sh (a b : Int) (xs : List CL) : sortCells (xs.map (sh a b)) = (sortCells xs).map (sh a b) := by
  unfold sortCells
  rw [List.map_mergeSort]
  intro x _ y _
  rw [sh_lt]

theorem keeps_map (f : CL → CL) (hf : ∀ x y, f x = f y → x = y) (xs : List CL) (j : Nat) (hj : j < xs.length) : keeps (xs.map f).toArray j = keeps xs.toArray j := by
  unfold keeps
  have e : ∀ i, i < xs.length → (xs.map f).toArray[i]! = f xs.toArray[i]! := fun i hi => by simp [hi]
  rw [e j hj, e (j - 1) (by omega)]
  rw [Bool.eq_iff_iff]
  simp only [decide_eq_true_eq]
  constructor
  · rintro (h | h)
    · exact .inl h
    · exact .inr fun h' => h (by rw [h'])
  · rintro (h | h)
    · exact .inl h
    · exact .inr fun h' => h (hf _ _ h')
theorem compact_map (f : CL → CL) (hf : ∀ x y, f x = f y → x = y) (xs : List CL) : compactUpTo (xs.map f).toArray (xs.map f).toArray.size = (compactUpTo xs.toArray xs.toArray.size).map f := by
  unfold compactUpTo
  simp only [List.size_toArray, List.length_map, List.map_map]
  rw [List.filter_congr (q := keeps xs.toArray) (fun j hj => keeps_map f hf xs j (by simpa using hj))]
  apply List.map_congr_left
  intro j hj
  have : j < xs.length := by simpa using (List.mem_filter.1 hj).1
  simp [this]

def offs (l h : Int) : List CL :=
  if l = 1 then [mk 0 (-1) 0, mk 1 (-1) 0, mk (-1) 0 0, mk 1 0 0, mk (-1) 1 0, mk 0 1 0]
  else if l = 2 then (if h = 0 then [mk 0 (-1) 1, mk (-1) 0 1, mk 0 0 1] else [mk 0 0 0, mk 1 0 0, mk 0 1 0])
  else if h = 0 then [mk (-1) (-1) 1, mk 0 (-1) 0, mk 0 (-1) 1, mk 1 (-1) 0, mk 1 (-1) 1, mk (-1) 0 0, mk (-1) 0 1, mk 0 0 1, mk 1 0 0, mk (-1) 1 0, mk (-1) 1 1, mk 0 1 0]
  else [mk 0 (-1) 1, mk 1 (-1) 0, mk 1 (-1) 1, mk (-1) 0 1, mk 0 0 0, mk 1 0 0, mk 1 0 1, mk (-1) 1 0, mk (-1) 1 1, mk 0 1 0, mk 0 1 1, mk 1 1 0]

theorem sort_is (xs ys : List CL) (hp : xs.Perm ys) (hs : ys.Pairwise fun x y => (!(ltOf cmpCell) y x) = true) : sortCells xs = ys := by
  have hle : ∀ x y : CL, (!(ltOf cmpCell) y x) = true → (!(ltOf cmpCell) x y) = true → x = y := fun x y h1 h2 => tot_cell x y (by simpa using h2) (by simpa using h1)
  refine List.Perm.eq_of_pairwise (le := fun x y => (!(ltOf cmpCell) y x) = true) (fun a b _ _ => hle a b) (List.pairwise_mergeSort ?_ ?_ xs) hs ((List.mergeSort_perm xs _).trans hp)
  · intro x y z h1 h2
    simp only [lt_cell, Bool.not_eq_true', decide_eq_false_iff_not] at *
    omega
  · intro x y
    simp only [lt_cell, Bool.or_eq_true, Bool.not_eq_true', decide_eq_false_iff_not]
    omega
instance (xs : List CL) : Decidable (xs.Pairwise fun x y => (!(ltOf cmpCell) y x) = true) := inferInstance

theorem base_is (l h : Int) (ys : List CL) (hp : (farL l 0 0 h).Perm ys) (hs : ys.Pairwise fun x y => (!(ltOf cmpCell) y x) = true) : besideL l 0 0 h = compactUpTo ys.toArray ys.toArray.size := by
  unfold besideL
  rw [sort_is _ ys hp hs]

/-- the sorted lists, with those that come twice -/
def dups (h : Int) : List CL := if h = 0 then [mk (-1) (-1) 1, mk 0 (-1) 0, mk 0 (-1) 1, mk 0 (-1) 1, mk 1 (-1) 0, mk 1 (-1) 1, mk (-1) 0 0, mk (-1) 0 1, mk (-1) 0 1, mk 0 0 1, mk 0 0 1, mk 1 0 0, mk (-1) 1 0, mk (-1) 1 1, mk 0 1 0]
  else [mk 0 (-1) 1, mk 1 (-1) 0, mk 1 (-1) 1, mk (-1) 0 1, mk 0 0 0, mk 0 0 0, mk 1 0 0, mk 1 0 0, mk 1 0 1, mk (-1) 1 0, mk (-1) 1 1, mk 0 1 0, mk 0 1 0, mk 0 1 1, mk 1 1 0]

theorem beside_base (l h : Int) (hl : 1 ≤ l) (hl' : l ≤ 3) (h0 : h = 0 ∨ h = 1) (h1 : l = 1 → h = 0) : besideL l 0 0 h = offs l h := by
  have : l = 1 ∨ l = 2 ∨ l = 3 := by omega
  rcases this with rfl | rfl | rfl
  · obtain rfl := h1 rfl
    rw [base_is 1 0 (offs 1 0) (by decide) (by decide)]
    decide
  · rcases h0 with rfl | rfl
    · rw [base_is 2 0 (offs 2 0) (by decide) (by decide)]; decide
    · rw [base_is 2 1 (offs 2 1) (by decide) (by decide)]; decide
  · rcases h0 with rfl | rfl
    · rw [base_is 3 0 (dups 0) (by decide) (by decide)]; decide
    · rw [base_is 3 1 (dups 1) (by decide) (by decide)]; decide

theorem beside_eq (l a b h : Int) (hl : 1 ≤ l) (hl' : l ≤ 3) (h0 : h = 0 ∨ h = 1) (h1 : l = 1 → h = 0) : besideL l a b h = (offs l h).map (sh a b) := by
  rw [← beside_base l h hl hl' h0 h1]
  unfold besideL
  rw [far_sh l a b h h0, sort_sh, compact_map _ (fun x y => sh_inj a b)]
theorem far_ne (l a b h : Int) (hl : 1 ≤ l) (hl' : l ≤ 3) (h0 : h = 0 ∨ h = 1) (h1 : l = 1 → h = 0) : farL l a b h ≠ [] := by
  intro he
  have h2 := beside_eq l a b h hl hl' h0 h1
  unfold besideL at h2
  rw [he] at h2
  have h3 : (offs l h).map (sh a b) = [] := by rw [← h2]; simp [sortCells, compactUpTo]
  unfold offs at h3
  split at h3
  · simp at h3
  · split at h3 <;> split at h3 <;> simp at h3

/-- BESIDE, at a cell that may be. -/
theorem beside_any (l a b h : Int) (w : World) (hG : Six w) (hl : 1 ≤ l) (hl' : l ≤ 3) (h0 : h = 0 ∨ h = 1) (h1 : l = 1 → h = 0) (hg : goodP a b) :
    Calls Tryd.prog 89 #[.int .i64 l, .agg #[.int .i64 a, .int .i64 b, .int .i64 h]] w fun e w' => besideV w' w.heap.size e ((offs l h).map (sh a b)) ∧ Below w.heap.size w w' := by
  have := beside_ok l a b h w hG ?_ hg (by omega) (by omega) (far_ne l a b h hl hl' h0 h1)
  · rwa [beside_eq l a b h hl hl' h0 h1] at this
  · unfold checkR
    rw [if_pos ⟨hl, hl'⟩, if_neg ?_, if_pos hg]
    rcases h0 with rfl | rfl
    · split <;> omega
    · by_cases e : l = 1
      · have := h1 e; omega
      · rw [if_neg e]; omega
/-- .. of coordinates that are not great. -/
theorem beside_small (l a b h : Int) (w : World) (hG : Six w) (hl : 1 ≤ l) (hl' : l ≤ 3) (h0 : h = 0 ∨ h = 1) (h1 : l = 1 → h = 0) (ha : -1099511627775 ≤ a) (ha' : a ≤ 1099511627775) (hb : -1099511627775 ≤ b) (hb' : b ≤ 1099511627775) :
    Calls Tryd.prog 89 #[.int .i64 l, .agg #[.int .i64 a, .int .i64 b, .int .i64 h]] w fun e w' => ∃ g cap : Nat, e = .returned (.tuple #[.slice (some ⟨g, 0, none⟩) (offs l h).length cap, .nilIface]) ∧ w.heap.size ≤ g ∧ Row3 w' g cap ((offs l h).map (sh a b)).toArray ∧ Below w.heap.size w w' := by
  refine (beside_any l a b h w hG hl hl' h0 h1 ⟨by omega, by omega, by omega, by omega⟩).mono ?_
  rintro e w' ⟨hv | ⟨hbad, _⟩, hB⟩
  · obtain ⟨_, v, rfl, hR⟩ := hv
    rcases row_of_R hR with ⟨_, hn⟩ | ⟨g, cap, rfl, hg, _, hrow⟩
    · exfalso
      have h3 := hn
      unfold offs at h3
      split at h3
      · simp at h3
      · split at h3 <;> split at h3 <;> simp at h3
    · exact ⟨g, cap, by rw [List.length_map], hg, hrow, hB⟩
  · exfalso
    apply hbad
    intro x hx
    obtain ⟨y, hy, rfl⟩ := List.mem_map.1 hx
    have hy' : -1 ≤ y.f0.f0 ∧ y.f0.f0 ≤ 1 ∧ -1 ≤ y.f0.f1 ∧ y.f0.f1 ≤ 1 := by
      have hall : ∀ l' h' : Int, (l' = 1 ∨ l' = 2 ∨ l' = 3) → (h' = 0 ∨ h' = 1) → ∀ y ∈ offs l' h', -1 ≤ y.f0.f0 ∧ y.f0.f0 ≤ 1 ∧ -1 ≤ y.f0.f1 ∧ y.f0.f1 ≤ 1 := by
        rintro l' h' (rfl | rfl | rfl) (rfl | rfl) <;> decide
      exact hall l h (by omega) h0 y hy
    simp only [goodP, sh]
    omega
end Go.Proofs.YtaeenefdbahfoaaDoor
