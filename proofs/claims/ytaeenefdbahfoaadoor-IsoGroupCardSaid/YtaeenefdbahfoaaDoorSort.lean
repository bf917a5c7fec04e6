/- The order of cells, and the sort by it. -/
import Derived.Test.YtaeenefdbahfoaaDoorL0
import Derived.Test.YtaeenefdbahfoaaDoorH0
import Derived.Shelf.SlSortCmp.NoneTotal
import Derived.Shelf.SlSortCmp.WholeK
import Derived.Shelf.Lay
namespace Go.Proofs.YtaeenefdbahfoaaDoor
open Go.RowKit Go.Proofs.YtaeenefdbahfoaaDoorW.PrintWords Go.Proofs.YtaeenefdbahfoaaDoorW.PrintLast Go.Proofs.YtaeenefdbahfoaaDoorW.PrintMore
open H
open Go.Shelf Go.RowKit Go.Lib Go.Sort

/-- the order of cells: -1, 0, 1. -/
def cmpCell (x y : S65) : Int :=
  if x.f0.f1 < y.f0.f1 ∨ (x.f0.f1 = y.f0.f1 ∧ (x.f0.f0 < y.f0.f0 ∨ (x.f0.f0 = y.f0.f0 ∧ x.f1 < y.f1))) then -1 else if x.f0.f0 = y.f0.f0 ∧ x.f0.f1 = y.f0.f1 ∧ x.f1 = y.f1 then 0 else 1
def encCell (x : S65) : List Value := [.int .i64 x.f0.f0, .int .i64 x.f0.f1, .int .i64 x.f1]

set_option maxHeartbeats 1000000 in
theorem compare_any (x y : S65) (w : World) :
    Calls Tryd.prog 75 #[.agg #[.int .i64 x.f0.f0, .int .i64 x.f0.f1, .int .i64 x.f1], .agg #[.int .i64 y.f0.f0, .int .i64 y.f0.f1, .int .i64 y.f1]] w fun e w' => e = .returned (.int .i64 (cmpCell x y)) ∧ ∃ q os', w' = grow (w.drewN q) os' := by
  obtain ⟨⟨a, b⟩, h⟩ := x
  obtain ⟨⟨c, d⟩, k⟩ := y
  simp only [cmpCell]
  go_enter Tryd.func75, Tryd.ntmps75
  go_wp2
  all_goals go_ret
  all_goals exact ⟨rfl, 0, _, by simp only [alloc_eq_grow, grow_grow]; rfl⟩

deriving instance DecidableEq for S63
deriving instance DecidableEq for S65
instance : Inhabited S65 := ⟨z65⟩

/-- Block g is a row of cells with room for cap of them; the first ones are d. -/
structure Row3 (w : World) (g cap : Nat) (d : Array S65) : Prop where
  le : d.size ≤ cap
  max : cap ≤ maxLen
  blk : ∃ cur, w.heap[g]? = some (.cells cur 65 (0, 0)) ∧ cur.size = cap * 3 ∧ ∀ j, j < d.size → cur[j * 3]? = some (.int .i64 d[j]!.f0.f0) ∧ cur[j * 3 + 1]? = some (.int .i64 d[j]!.f0.f1) ∧ cur[j * 3 + 2]? = some (.int .i64 d[j]!.f1)

set_option linter.unusedSimpArgs false
section
variable {w w1 : World} {g cap : Nat} {d : Array S65}
theorem Row3.lt (h : Row3 w g cap d) : g < w.heap.size := by
  obtain ⟨cur, hb, _⟩ := h.blk
  exact (Array.getElem?_eq_some_iff.1 hb).1
theorem Row3.cell (h : Row3 w g cap d) (j : Nat) (hj : j < d.size) : w.cell? ⟨g, j * 3, none⟩ = some (.int .i64 d[j]!.f0.f0) ∧ w.cell? ⟨g, j * 3 + 1, none⟩ = some (.int .i64 d[j]!.f0.f1) ∧ w.cell? ⟨g, j * 3 + 2, none⟩ = some (.int .i64 d[j]!.f1) := by
  obtain ⟨cur, hb, _, hc⟩ := h.blk
  simp only [World.cell?, hb]
  exact hc j hj
theorem Row3.frozen (h : Row3 w g cap d) (o : Nat) : w.frozen? ⟨g, o, none⟩ = false := by
  obtain ⟨cur, hb, _, hc⟩ := h.blk
  simp [World.frozen?, hb]
theorem Row3.of_block (h : Row3 w g cap d) (hb : w1.heap[g]? = w.heap[g]?) : Row3 w1 g cap d := ⟨h.le, h.max, by rw [hb]; exact h.blk⟩
theorem Row3.below (h : Row3 w g cap d) (hb : Below w.heap.size w w1) : Row3 w1 g cap d := h.of_block (hb.block g h.lt)
theorem Row3.grown (h : Row3 w g cap d) {row : Option Nat} (hg : w.grownBy w1 row) (hne : some g ≠ row) : Row3 w1 g cap d := h.of_block (hg.block g h.lt hne)
theorem Row3.set (h : Row3 w g cap d) (i : Nat) (hi : i < d.size) (x : S65) :
    Row3 (((w.setCell ⟨g, i * 3, none⟩ (.int .i64 x.f0.f0)).setCell ⟨g, i * 3 + 1, none⟩ (.int .i64 x.f0.f1)).setCell ⟨g, i * 3 + 2, none⟩ (.int .i64 x.f1)) g cap (d.setIfInBounds i x) := by
  obtain ⟨cur, hb, hs, hc⟩ := h.blk
  refine ⟨by simpa using h.le, h.max, _, blk_set (blk_set (blk_set hb _ _) _ _) _ _, by simp [hs], fun j hj => ?_⟩
  have hj' : j < d.size := by simpa using hj
  have hle := h.le
  have hcs : i * 3 + 2 < cur.size := by omega
  obtain ⟨c0, c1, c2⟩ := hc j hj'
  by_cases e : j = i
  · subst e
    rw [getElem!_set_same d j x hi]
    simp [Array.getElem?_setIfInBounds, show j * 3 < cur.size by omega, show j * 3 + 1 < cur.size by omega, hcs]
  · rw [getElem!_set_other d i j x e]
    simp [Array.getElem?_setIfInBounds, show ¬ i * 3 = j * 3 by omega, show ¬ i * 3 + 1 = j * 3 by omega, show ¬ i * 3 + 2 = j * 3 by omega, show ¬ i * 3 = j * 3 + 1 by omega, show ¬ i * 3 + 1 = j * 3 + 1 by omega, show ¬ i * 3 + 2 = j * 3 + 1 by omega, show ¬ i * 3 = j * 3 + 2 by omega, show ¬ i * 3 + 1 = j * 3 + 2 by omega, show ¬ i * 3 + 2 = j * 3 + 2 by omega, c0, c1, c2]
end

/-- A slice of the call's own: none at all, or a row. -/
theorem row_of_R {w : World} {base : Nat} {ok : Nat → Prop} {v : Value} {xs : List S65} (h : Kd.R k65 65 w base ok v xs) :
    (v = .slice none 0 0 ∧ xs = []) ∨ ∃ g cap, v = .slice (some ⟨g, 0, none⟩) xs.length cap ∧ base ≤ g ∧ ok g ∧ Row3 w g cap xs.toArray := by
  obtain ⟨hok, inner, ho, hr⟩ := h
  obtain ⟨hlen, hc | ⟨g, cap, cur, rfl, hg, hh, h1, h2, h3, h4⟩⟩ := ho
  · exact .inl ⟨hc.1, List.length_eq_zero_iff.1 hc.2⟩
  · refine .inr ⟨g, cap, rfl, hg, hok g (by simp [Value.ownBlock]), by simpa using h1, h2, cur, hh, h3, fun j hj => ?_⟩
    have hj' : j < xs.length := by simpa using hj
    have hm := hr.2 j _ (List.getElem?_eq_getElem hj')
    have hcs := k65_openM hm
    have e : xs.toArray[j]! = xs[j] := by simp [hj']
    rw [e]
    have hin : ∀ t, t < xs.length * 3 → cur[t]? = inner[t]? := fun t ht => by
      rw [← Array.getElem?_toList, ← h4, show xs.length * k65.sz = xs.length * 3 from rfl, List.getElem?_take_of_lt ht]
    have hat : ∀ i, i < 3 → inner[j * 3 + i]? = ((inner.drop (j * 3)).take 3)[i]? := fun i hi => by
      rw [List.getElem?_take_of_lt hi, List.getElem?_drop]
    change (inner.drop (j * 3)).take 3 = _ at hcs
    have h0 := hat 0 (by omega)
    have h1' := hat 1 (by omega)
    have h2' := hat 2 (by omega)
    rw [hcs] at h0 h1' h2'
    exact ⟨by rw [hin _ (by omega)]; exact h0, by rw [hin _ (by omega)]; exact h1', by rw [hin _ (by omega)]; exact h2'⟩

theorem R_of_row {w : World} {base g cap : Nat} {xs : List S65} (h : Row3 w g cap xs.toArray) (hg : base ≤ g) {ok : Nat → Prop} (hok : ok g) :
    Kd.R k65 65 w base ok (.slice (some ⟨g, 0, none⟩) xs.length cap) xs := by
  obtain ⟨cur, hb, hs, hc⟩ := h.blk
  have hle : xs.length ≤ cap := by simpa using h.le
  refine ⟨fun k hk => by have : g = k := by simpa [Value.ownBlock] using hk
                         exact this ▸ hok, cur.toList.take (xs.length * 3), ⟨by show _ = xs.length * 3; simp [hs]; omega, .inr ⟨g, cap, cur, rfl, hg, hb, hle, h.max, hs, rfl⟩⟩, by show _ = xs.length * 3; simp [hs]; omega, fun j p hj => ?_⟩
  obtain ⟨hj', rfl⟩ := List.getElem?_eq_some_iff.1 hj
  obtain ⟨c0, c1, c2⟩ := hc j (by simpa using hj')
  have e : xs.toArray[j]! = xs[j] := by simp [hj']
  rw [e] at c0 c1 c2
  have : ((cur.toList.take (xs.length * 3)).drop (j * 3)).take 3 = [.int .i64 xs[j].f0.f0, .int .i64 xs[j].f0.f1, .int .i64 xs[j].f1] := by
    apply List.ext_getElem?
    intro i
    by_cases hi : i < 3
    · rw [List.getElem?_take_of_lt hi, List.getElem?_drop, List.getElem?_take_of_lt (by omega), Array.getElem?_toList]
      have : i = 0 ∨ i = 1 ∨ i = 2 := by omega
      rcases this with rfl | rfl | rfl
      · exact c0
      · exact c1
      · exact c2
    · rw [List.getElem?_eq_none (by simp; omega), List.getElem?_eq_none (by simp; omega)]
  show (k65.M w base _ xs[j] (((cur.toList.take (xs.length * 3)).drop (j * 3)).take 3))
  rw [this]
  exact k65_mkM _ _ _ _

/-- slices.Compact at cells. -/
theorem holds_row {w : World} {g cap : Nat} {d : Array S65} (h : Row3 w g cap d) : HoldsK encCell 3 w g 0 d := by
  intro t ht
  have ht' : t < d.size * 3 := by simpa using ht
  refine ⟨?_, h.frozen _⟩
  rw [get_flatK _ _ _ _ ht']
  obtain ⟨c0, c1, c2⟩ := h.cell (t / 3) (by omega)
  have hr : t % 3 = 0 ∨ t % 3 = 1 ∨ t % 3 = 2 := by omega
  rcases hr with e | e | e
  · rw [e, show 0 + t = t / 3 * 3 by omega]; exact c0
  · rw [e, show 0 + t = t / 3 * 3 + 1 by omega]; exact c1
  · rw [e, show 0 + t = t / 3 * 3 + 2 by omega]; exact c2

theorem row_sorted {w : World} {g cap n : Nat} {os : Array Obj} {d d' : Array S65} (h : Row3 w g cap d) (hs : d'.size = d.size) : Row3 (sortWorldK encCell 3 w g 0 n d' os) g cap d' ∧ w.grownBy (sortWorldK encCell 3 w g 0 n d' os) (some g) := by
  obtain ⟨cur, hb, hcs, hc⟩ := h.blk
  have hg := h.lt
  have hle := h.le
  have hheap : (sortWorldK encCell 3 w g 0 n d' os).heap[g]? = some (.cells (putCells id 0 (flatK encCell 3 d') cur) 65 (0, 0)) := by
    unfold sortWorldK putRowK
    rw [heap_grow_old _ _ (by simpa using hg)]
    simp [putRow, mapBlock, Sort.ahead, Array.getElem?_modify, hb, onCells]
  refine ⟨⟨by rw [hs]; exact hle, h.max, _, hheap, by simp [putCells, hcs], fun j hj => ?_⟩, rfl, rfl, rfl, by simp [sortWorldK, putRowK], fun k hk hne => ?_⟩
  · have hj' : j < d.size := by omega
    have key : ∀ i, i < 3 → (putCells id 0 (flatK encCell 3 d') cur)[j * 3 + i]? = some ((encCell d'[j]!)[i]!) := fun i hi => by
      have hlt : j * 3 + i < d'.size * 3 := by omega
      have := get_flatK encCell 3 d' (j * 3 + i) hlt
      rw [show (j * 3 + i) / 3 = j by omega, show (j * 3 + i) % 3 = i by omega] at this
      simp only [putCells, Array.getElem?_mapIdx, id]
      rw [Array.getElem?_eq_getElem (show j * 3 + i < cur.size by omega)]
      simp only [Option.map_some, Nat.zero_le, true_and, Nat.zero_add, Nat.sub_zero, size_flatK, hlt, ↓reduceIte, this]
    exact ⟨key 0 (by omega), key 1 (by omega), key 2 (by omega)⟩
  · unfold sortWorldK putRowK
    rw [heap_grow_old _ _ (by simpa using hk)]
    have : g ≠ k := fun e => hne (by rw [e])
    simp [putRow, mapBlock, Sort.ahead, Array.getElem?_modify, this]

theorem lt_cell (x y : S65) : ltOf cmpCell x y = decide (x.f0.f1 < y.f0.f1 ∨ (x.f0.f1 = y.f0.f1 ∧ (x.f0.f0 < y.f0.f0 ∨ (x.f0.f0 = y.f0.f0 ∧ x.f1 < y.f1)))) := by
  unfold ltOf cmpCell
  split
  · simp [*]
  · split <;> simp [*]
theorem swo_cell : SWO (ltOf cmpCell) where
  irrefl x := by rw [lt_cell]; simp
  trans x y z h1 h2 := by rw [lt_cell] at *; simp only [decide_eq_true_eq] at *; omega
  ntrans x y z h1 h2 := by rw [lt_cell] at *; simp only [decide_eq_false_iff_not] at *; omega
theorem tot_cell (x y : S65) (h1 : ltOf cmpCell x y = false) (h2 : ltOf cmpCell y x = false) : x = y := by
  rw [lt_cell] at *
  obtain ⟨⟨a, b⟩, h⟩ := x
  obtain ⟨⟨c, d⟩, k⟩ := y
  simp only [decide_eq_false_iff_not, S65.mk.injEq, S63.mk.injEq] at *
  omega
/-- the list, rising -/
def sortCells (xs : List S65) : List S65 := xs.mergeSort fun x y => !(ltOf cmpCell) y x
end Go.Proofs.YtaeenefdbahfoaaDoor
