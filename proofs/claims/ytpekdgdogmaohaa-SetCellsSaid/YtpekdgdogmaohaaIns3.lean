/- Rows of cells laid anew: what stores, copies and appends of many cells leave. -/
import Derived.Test.YtpekdgdogmaohaaXOf
import Derived.Lib.AppendZerosOnto
import Derived.Laws.IdiomCopy
import Derived.Deep.AppendSrc
import Derived.Laws.NewBlocks
namespace Go.Proofs.Ytpekdgdogmaohaa
open Go.RowKit Go.Proofs.YtpekdgdogmaohaaW.PrintWords Go.Proofs.YtpekdgdogmaohaaW.PrintLast Go.Proofs.YtpekdgdogmaohaaW.PrintMore
open H
open Go.Shelf Go.RowKit Go.Lib Go.Sort
set_option linter.unusedSimpArgs false

abbrev CLs := List S37
def flatC (l : CLs) : List Value := l.flatMap encCell
theorem flat_cons (x : S37) (l : CLs) : flatC (x :: l) = .int .i64 x.f0.f0 :: .int .i64 x.f0.f1 :: .int .i64 x.f1 :: flatC l := rfl
theorem flat_length (l : CLs) : (flatC l).length = l.length * 3 := by
  induction l with
  | nil => rfl
  | cons x r ih => rw [flat_cons]; simp only [List.length_cons, ih]; omega
theorem flat_one (l : CLs) : ∀ v ∈ flatC l, v.oneCell' = true := by
  induction l with
  | nil => intro v hv; cases hv
  | cons x r ih =>
    intro v hv
    rw [flat_cons] at hv
    simp only [List.mem_cons] at hv
    rcases hv with rfl | rfl | rfl | hv
    · rfl
    · rfl
    · rfl
    · exact ih v hv
theorem flat_get : ∀ (l : CLs) (j : Nat) (x : S37), l[j]? = some x → (flatC l)[j * 3]? = some (.int .i64 x.f0.f0) ∧ (flatC l)[j * 3 + 1]? = some (.int .i64 x.f0.f1) ∧ (flatC l)[j * 3 + 2]? = some (.int .i64 x.f1)
  | [], _, _, h => by cases h
  | y :: r, 0, x, h => by
    simp only [List.getElem?_cons_zero, Option.some.injEq] at h
    subst h
    exact ⟨rfl, rfl, rfl⟩
  | y :: r, j + 1, x, h => by
    rw [List.getElem?_cons_succ] at h
    have := flat_get r j x h
    rw [flat_cons, show (j + 1) * 3 = j * 3 + 1 + 1 + 1 by omega]
    exact this
theorem flat_all (l : CLs) (P : Nat → Value → Prop) (h : ∀ j x, l[j]? = some x → P (j * 3) (.int .i64 x.f0.f0) ∧ P (j * 3 + 1) (.int .i64 x.f0.f1) ∧ P (j * 3 + 2) (.int .i64 x.f1)) : ∀ t v, (flatC l)[t]? = some v → P t v := by
  intro t v hv
  have hl := (List.getElem?_eq_some_iff.1 hv).1
  rw [flat_length] at hl
  have hj : t / 3 < l.length := by omega
  have hx := List.getElem?_eq_getElem hj
  obtain ⟨p0, p1, p2⟩ := h _ _ hx
  obtain ⟨g0, g1, g2⟩ := flat_get l _ _ hx
  have : t = t / 3 * 3 ∨ t = t / 3 * 3 + 1 ∨ t = t / 3 * 3 + 2 := by omega
  rcases this with e | e | e
  · rw [← e] at g0 p0
    rw [g0] at hv
    rw [← Option.some.inj hv]
    exact p0
  · rw [← e] at g1 p1
    rw [g1] at hv
    rw [← Option.some.inj hv]
    exact p1
  · rw [← e] at g2 p2
    rw [g2] at hv
    rw [← Option.some.inj hv]
    exact p2

section
variable {w : World} {g cap : Nat} {l : CLs}
theorem arr_get {l : CLs} {j : Nat} {x : S37} (h : l[j]? = some x) : j < l.toArray.size ∧ l.toArray[j]! = x := by
  obtain ⟨hj, e⟩ := List.getElem?_eq_some_iff.1 h
  exact ⟨by simpa using hj, by simp [hj, e]⟩
theorem Row3.cells_ (h : Row3 w g cap l.toArray) : ∀ t v, (flatC l)[t]? = some v → w.cell? ⟨g, t, none⟩ = some v := by
  refine flat_all l (fun t v => w.cell? ⟨g, t, none⟩ = some v) (fun j x hx => ?_)
  obtain ⟨hj, e⟩ := arr_get hx
  have := h.cell j hj
  rw [e] at this
  exact this
theorem Row3.of_flat {cur : Array Value} (hb : w.heap[g]? = some (.cells cur 37 (0, 0))) (hs : cur.size = cap * 3) (hl : l.length ≤ cap) (hm : cap ≤ maxLen) (hp : ∀ (t : Nat) (v : Value), (flatC l)[t]? = some v → cur[t]? = some v) : Row3 w g cap l.toArray := by
  refine ⟨by simpa using hl, hm, cur, hb, hs, fun j hj => ?_⟩
  have hx : l[j]? = some l.toArray[j]! := by
    have hj' : j < l.length := by simpa using hj
    rw [List.getElem?_eq_getElem hj']
    simp [hj']
  obtain ⟨g0, g1, g2⟩ := flat_get l j _ hx
  exact ⟨hp _ _ g0, hp _ _ g1, hp _ _ g2⟩
theorem Row3.isSome (h : Row3 w g cap l.toArray) (t : Nat) (ht : t < cap * 3) : (w.cell? ⟨g, t, none⟩).isSome = true := by
  obtain ⟨cur, hb, hs, _⟩ := h.blk
  simp only [World.cell?, hb]
  rw [Array.getElem?_eq_getElem (by omega)]
  rfl
/-- a list with one put at a place, or behind the last -/
def putAt (d : CLs) (k : Nat) (x : S37) : CLs := d.take k ++ x :: d.drop (k + 1)
theorem putAt_get (d : CLs) (k : Nat) (x : S37) (hk : k ≤ d.length) (j : Nat) : (putAt d k x)[j]? = if j = k then some x else d[j]? := by
  unfold putAt
  have ht : (d.take k).length = k := by rw [List.length_take]; omega
  by_cases h1 : j < k
  · rw [List.getElem?_append_left (by omega), if_neg (by omega), List.getElem?_take_of_lt h1]
  · rw [List.getElem?_append_right (by omega), ht]
    by_cases h2 : j = k
    · rw [if_pos h2, h2, Nat.sub_self]; rfl
    · rw [if_neg h2, show j - k = (j - k - 1) + 1 by omega, List.getElem?_cons_succ, List.getElem?_drop, show k + 1 + (j - k - 1) = j by omega]
theorem putAt_length (d : CLs) (k : Nat) (x : S37) (hk : k ≤ d.length) : (putAt d k x).length = max d.length (k + 1) := by
  unfold putAt
  rw [List.length_append, List.length_take, List.length_cons, List.length_drop]; omega
theorem Row3.put1 {d : CLs} (h : Row3 w g cap d.toArray) (k : Nat) (hk : k ≤ d.length) (hc : k < cap) (x : S37) :
    Row3 (((w.setCell ⟨g, k * 3, none⟩ (.int .i64 x.f0.f0)).setCell ⟨g, k * 3 + 1, none⟩ (.int .i64 x.f0.f1)).setCell ⟨g, k * 3 + 2, none⟩ (.int .i64 x.f1)) g cap (putAt d k x).toArray := by
  obtain ⟨cur, hb, hs, hcc⟩ := h.blk
  have hle := h.le
  have hle' : d.length ≤ cap := by simpa using hle
  refine Row3.of_flat (blk_set (blk_set (blk_set hb _ _) _ _) _ _) (by simp [hs]) (by rw [putAt_length d k x hk]; omega) h.max ?_
  refine flat_all _ _ (fun j y hy => ?_)
  rw [putAt_get d k x hk] at hy
  have hcs : k * 3 + 2 < cur.size := by omega
  by_cases e : j = k
  · rw [if_pos e] at hy
    subst e
    obtain rfl := Option.some.inj hy
    simp [Array.getElem?_setIfInBounds, show j * 3 < cur.size by omega, show j * 3 + 1 < cur.size by omega, hcs]
  · rw [if_neg e] at hy
    obtain ⟨hj, e2⟩ := arr_get hy
    obtain ⟨c0, c1, c2⟩ := hcc j hj
    rw [e2] at c0 c1 c2
    simp [Array.getElem?_setIfInBounds, show ¬ k * 3 = j * 3 by omega, show ¬ k * 3 + 1 = j * 3 by omega, show ¬ k * 3 + 2 = j * 3 by omega, show ¬ k * 3 = j * 3 + 1 by omega, show ¬ k * 3 + 1 = j * 3 + 1 by omega, show ¬ k * 3 + 2 = j * 3 + 1 by omega, show ¬ k * 3 = j * 3 + 2 by omega, show ¬ k * 3 + 1 = j * 3 + 2 by omega, show ¬ k * 3 + 2 = j * 3 + 2 by omega, c0, c1, c2]
end
theorem Row3.lay {g cap : Nat} : ∀ (xs : CLs) (k : Nat) (d : CLs) (w : World), Row3 w g cap d.toArray → k ≤ d.length → k + xs.length ≤ cap → Row3 (w.setCells g (k * 3) (flatC xs)) g cap (d.take k ++ xs ++ d.drop (k + xs.length)).toArray
  | [], k, d, w, h, hk, _ => by
    have e : (d.take k ++ [] ++ d.drop (k + ([] : CLs).length)) = d := by simp
    rw [e]
    exact h
  | x :: r, k, d, w, h, hk, hc => by
    simp only [List.length_cons] at hc
    have h1 := h.put1 k hk (by omega) x
    have h2 := Row3.lay r (k + 1) (putAt d k x) _ h1 (by rw [putAt_length d k x hk]; omega) (by omega)
    have e : (putAt d k x).take (k + 1) ++ r ++ (putAt d k x).drop (k + 1 + r.length) = d.take k ++ (x :: r) ++ d.drop (k + (x :: r).length) := by
      have ht : (d.take k).length = k := by rw [List.length_take]; omega
      unfold putAt
      have h1 : k + 1 - k = 1 := by omega
      have h2 : k + 1 + r.length - k = r.length + 1 := by omega
      rw [List.take_append, ht, h1, List.take_take, Nat.min_eq_right (Nat.le_succ k), List.drop_append, ht, h2, List.drop_eq_nil_of_le (by omega : (d.take k).length ≤ k + 1 + r.length), List.drop_succ_cons, List.drop_drop, List.length_cons, show k + 1 + r.length = k + (r.length + 1) by omega]
      simp
    rw [e, show (k + 1) * 3 = k * 3 + 1 + 1 + 1 by omega] at h2
    exact h2

/-- copy at elements of k cells: all is read before anything is written -/
theorem run_copy_cellsK {P : Program} (w : World) (dT sT ty elem : TypeId) (k b o dLen dCap : Nat) (a : Addr) (sLen sCap n : Nat) (cs : List Value)
    (hu : P.underlying dT = some (.slice elem)) (hs : (P.info? elem).map (·.size) = some k) (hm : Nat.min sLen dLen = n) (hn : cs.length = n * k)
    (hsrc : ∀ j v, cs[j]? = some v → w.cell? (a.add j) = some v) (hc : ∀ j, j < cs.length → (w.cell? ⟨b, o + j, none⟩).isSome = true) (hf : ∀ j, j < cs.length → w.frozen? ⟨b, o + j, none⟩ = false) (h1 : ∀ v ∈ cs, v.oneCell' = true) :
    (Builtin.copy_ #[dT, sT] ty #[.slice (some ⟨b, o, none⟩) dLen dCap, .slice (some a) sLen sCap]).run P w = .ok (goInt n) (w.setCells b o cs) := by
  have hl := run_loadCells_list (P := P) w a cs hsrc
  have hst := run_storeCells_cells (P := P) b o cs 0 w (by simpa using hc) (by simpa using hf) h1
  cases hq : P.info? elem with
  | none => simp [hq] at hs
  | some i =>
    have hi : i.size = k := by simpa [hq] using hs
    rw [hn] at hl
    simp only [Nat.add_zero] at hst
    simp [Builtin.copy_, run_underlying hu, Builtin.lenOf, Builtin.firstCells, sizeOf, typeInfo, hq, hi, hm, hl, hst]
end Go.Proofs.Ytpekdgdogmaohaa
