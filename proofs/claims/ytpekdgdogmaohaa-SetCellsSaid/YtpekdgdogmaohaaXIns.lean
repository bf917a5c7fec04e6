/- slices.Insert of one cell into a row of the call's own. -/
import Derived.Test.YtpekdgdogmaohaaIns3
import Derived.Lib.Overlaps
import Derived.Laws.Externs
import Derived.Shelf.Spec.SlicesInsert
namespace Go.Proofs.Ytpekdgdogmaohaa
open Go.RowKit Go.Proofs.YtpekdgdogmaohaaW.PrintWords Go.Proofs.YtpekdgdogmaohaaW.PrintLast Go.Proofs.YtpekdgdogmaohaaW.PrintMore
open H
open Go.Shelf Go.RowKit Go.Lib Go.Sort

def insAt (l : CLs) (i : Nat) (x : S37) : CLs := l.take i ++ x :: l.drop i
theorem insAt_length (l : CLs) (i : Nat) (x : S37) (hi : i ≤ l.length) : (insAt l i x).length = l.length + 1 := by
  unfold insAt
  rw [List.length_append, List.length_take, List.length_cons, List.length_drop]; omega
theorem sz37 : (Try.prog.info? 37).map (·.size) = some 3 := by kernel_rfl
theorem ut : Try.prog.underlying 28 = some (.slice 37) := Try.underlying28
theorem uc : Try.prog.underlying 26 = some (.slice 37) := Try.underlying26
/-- one cell in a block of its own -/
structure One (w : World) (vb : Nat) (x : S37) : Prop where
  blk : w.heap[vb]? = some (.cells #[.int .i64 x.f0.f0, .int .i64 x.f0.f1, .int .i64 x.f1] 37 (0, 0))
theorem One.get {w : World} {vb : Nat} {x : S37} (h : One w vb x) : ∀ j v, (flatC [x])[j]? = some v → w.cell? ⟨vb, j, none⟩ = some v := by
  intro j v hj
  simp only [World.cell?, h.blk]
  rw [← hj]
  show (flatC [x]).toArray[j]? = _
  simp

set_option maxHeartbeats 4000000 in
set_option maxRecDepth 1000000 in
/-- there is room, and it is not the end: in place -/
theorem ins_shift (l : CLs) (x : S37) (i g cap vb : Nat) (w : World) (hi : i < l.length) (hroom : l.length + 1 ≤ cap) (hR : Row3 w g cap l.toArray) (hV : One w vb x) (hne : vb ≠ g) :
    Calls Try.prog 34 #[.slice (some ⟨g, 0, none⟩) l.length cap, .int .i64 i, .slice (some ⟨vb, 0, none⟩) 1 1] w fun e w' =>
      e = .returned (.slice (some ⟨g, 0, none⟩) (l.length + 1) cap) ∧ w' = (w.drew.setCells g ((i + 1) * 3) (flatC (l.drop i))).setCells g (i * 3) (flatC [x]) := by
  obtain ⟨n, hn⟩ : ∃ n, n = l.length := ⟨_, rfl⟩
  have hc63 : cap ≤ 9223372036854775807 := by have := hR.max; unfold maxLen at this; omega
  have hov : ∀ lb cb, (callFunc 51 #[.slice (some ⟨vb, 0, none⟩) 1 1, .slice (some ⟨g, (i + 1) * 3, none⟩) lb cb]).run Try.prog w = .ok (.value (.bool false)) w := fun lb cb => by
    obtain ⟨cur, hb, hs, _⟩ := hR.blk
    rw [run_callFunc_extern Try.func51 (by kernel_rfl) (by kernel_rfl) (by kernel_rfl) (e := Extern.SlicesOverlaps.overlaps #[26, 26] #[4]) (by kernel_rfl),
      Lib.run_overlaps_apart w 26 4 37 uc 3 Try.sizeOf37 ⟨vb, 0, none⟩ ⟨g, (i + 1) * 3, none⟩ 1 1 lb cb hne 37 37 3 cur.size (by simp [World.shape?, hV.blk]) (by simp [World.shape?, hb]) (by omega) (by simp [World.frozen?, hV.blk]) (by simp [World.frozen?, hV.blk])]
    rfl
  have hdl : (l.drop i).length = n - i := by rw [List.length_drop, hn]
  have hcp1 : ∀ ty dc sc, (Builtin.copy_ #[28, 28] ty #[.slice (some ⟨g, (i + 1) * 3, none⟩) (n - i) dc, .slice (some ⟨g, i * 3, none⟩) (n + 1 - i) sc]).run Try.prog w.drew = .ok (goInt ((n - i : Nat) : Int)) (w.drew.setCells g ((i + 1) * 3) (flatC (l.drop i))) := fun ty dc sc =>
    run_copy_cellsK w.drew _ _ ty 37 3 g ((i + 1) * 3) (n - i) dc ⟨g, i * 3, none⟩ (n + 1 - i) sc (n - i) (flatC (l.drop i)) ut sz37 (by simp only [Nat.min_def]; split <;> omega) (by rw [flat_length, hdl])
      (fun j v hj => by
        rw [Addr.add_lit]
        refine flat_all (l.drop i) (fun j v => w.cell? ⟨g, i * 3 + j, none⟩ = some v) (fun t y hy => ?_) j v hj
        rw [List.getElem?_drop] at hy
        obtain ⟨ht, e⟩ := arr_get hy
        have := hR.cell _ ht
        rw [e, show (i + t) * 3 = i * 3 + t * 3 by omega] at this
        exact this)
      (fun j hj => hR.isSome _ (by rw [flat_length, hdl] at hj; omega)) (fun j hj => hR.frozen _) (flat_one _)
  obtain ⟨W1, hW1⟩ : ∃ W1, W1 = w.drew.setCells g ((i + 1) * 3) (flatC (l.drop i)) := ⟨_, rfl⟩
  have hsp1 : ∀ k, k < cap * 3 → (W1.cell? ⟨g, k, none⟩).isSome = true := fun k hk => by
    rw [hW1]
    exact Go.Proofs.isSome_setCells g (flatC (l.drop i)) ((i + 1) * 3) w.drew (fun j hj => hR.isSome _ (by rw [flat_length, hdl] at hj; omega)) _ (hR.isSome k hk)
  have hcp2 : ∀ (W : World), (∀ x, W.cell? x = W1.cell? x) → (∀ x, W.frozen? x = W1.frozen? x) → ∀ ty dc, (Builtin.copy_ #[28, 26] ty #[.slice (some ⟨g, i * 3, none⟩) (n + 1 - i) dc, .slice (some ⟨vb, 0, none⟩) 1 1]).run Try.prog W = .ok (goInt (1 : Nat)) (W.setCells g (i * 3) (flatC [x])) := fun W hWc hWf ty dc =>
    run_copy_cellsK W _ _ ty 37 3 g (i * 3) (n + 1 - i) dc ⟨vb, 0, none⟩ 1 1 1 (flatC [x]) ut sz37 (by simp only [Nat.min_def]; split <;> omega) rfl
      (fun j v hj => by
        rw [Addr.add_lit, hWc, hW1, World.cell?_setCells_out g _ _ _ _ (fun h _ => absurd h hne), Nat.zero_add]
        exact hV.get j v hj)
      (fun j hj => by rw [hWc]; exact hsp1 _ (by rw [flat_length] at hj; simp at hj; omega)) (fun j hj => by rw [hWf, hW1, World.frozen?_setCells]; exact hR.frozen _) (flat_one _)
  rw [← hW1] at hcp1
  rw [← hn] at hi hroom ⊢
  have hz5 : (i == n) = false := beq_eq_false_iff_ne.2 (by omega)
  have hz6 : ((i : Int) == (n : Int)) = false := beq_eq_false_iff_ne.2 (by omega)
  have hz4 : ¬ ((cap : Int) < (n : Int) + 1) := by omega
  have hw1 : IntKind.i64.wrap ((i : Int) + 1) = (i : Int) + 1 := by rw [IntKind.wrap_i64]; omega
  have hw2 : IntKind.i64.wrap ((n : Int) + 1) = (n : Int) + 1 := by rw [IntKind.wrap_i64]; omega
  have hb1 : (0 : Int) ≤ (i : Int) + 1 := by omega
  have hin : i ≤ n := by omega
  have htn : ((i : Int) + 1).toNat = i + 1 := by omega
  have htn2 : ((n : Int) + 1).toNat = n + 1 := by omega
  have hb2 : ¬ (cap = i + 1) := by omega
  have hb3 : (i : Int) ≤ (n : Int) + 1 := by omega
  have hb4 : ¬ (cap = i) := by omega
  have hm1 : (n : Int) + 1 ≤ 9223372036854775807 := by omega
  have mixed : Try.prog.follows Departure.mixedOrders = true := by kernel_rfl
  clear hR hdl hn
  go_enter Try.func34, Try.ntmps34
  go_wp2_with (simp only [hov])
  go_region_law_o (refine Go.Proofs.step_copy_runI rfl _ _ 28 28 rfl _ _ (by simp [Act.eval, Act.put]) (by simp [Act.eval, Act.put]) (hcp1 _ _ _) ?_)
  go_wp2_with (at_builtin; refine Go.Proofs.wpList_copy_runI _ rfl _ _ 28 26 rfl _ _ rfl rfl (hcp2 _ (fun _ => rfl) (fun _ => rfl) _ _) ?_)
  go_ret
  first | exact ⟨rfl, rfl⟩ | exact ⟨rfl, by rw [hW1]⟩

theorem src_one (w : World) (vb : Nat) (x : S37) (hV : One w vb x) (size : Nat) (hs : size = 3) : Src Try.prog size 26 (.slice (some ⟨vb, 0, none⟩) 1 1) 1 (flatC [x]) w := by
  subst hs
  exact Src.ofSlice w uc ⟨vb, 0, none⟩ 1 1 (flatC [x]) rfl (fun j v hj => by rw [Addr.add_lit, Nat.zero_add]; exact hV.get j v hj) (flat_one _)

set_option maxHeartbeats 4000000 in
set_option maxRecDepth 1000000 in
/-- at the end, there is room -/
theorem ins_end_room (l : CLs) (x : S37) (g cap vb : Nat) (w : World) (hroom : l.length + 1 ≤ cap) (hR : Row3 w g cap l.toArray) (hV : One w vb x) :
    Calls Try.prog 34 #[.slice (some ⟨g, 0, none⟩) l.length cap, .int .i64 l.length, .slice (some ⟨vb, 0, none⟩) 1 1] w fun e w' =>
      e = .returned (.slice (some ⟨g, 0, none⟩) (l.length + 1) cap) ∧ w' = w.setCells g (l.length * 3) (flatC [x]) := by
  obtain ⟨i0, hi0, hz0, hzs, hzb⟩ := info_parts info37
  have hrun : ∀ ty, (Builtin.append_ #[28, 26] ty #[.slice (some ⟨g, 0, none⟩) l.length cap, .slice (some ⟨vb, 0, none⟩) 1 1]).run Try.prog w = .ok (.slice (some ⟨g, 0, none⟩) (l.length + 1) cap) (w.setCells g (l.length * 3) (flatC [x])) := fun ty => by
    have h := run_append_room_src (P := Try.prog) (w := w) 28 26 ty 37 i0 ut hi0 g 0 l.length cap _ 1 (flatC [x]) (src_one w vb x hV _ hzs) hroom (fun j hj => by rw [hzs]; exact hR.isSome _ (by rw [flat_length] at hj; simp at hj; omega)) (fun j hj => hR.frozen _)
    rw [hzs, Nat.zero_add] at h
    exact h
  have hz5 : (l.length == l.length) = true := by simp
  have hc63 : cap ≤ 9223372036854775807 := by have := hR.max; unfold maxLen at this; omega
  generalize l.length = n at *
  clear hR
  go_enter Try.func34, Try.ntmps34
  go_wp2_with (at_builtin; refine Lib.wpList_append_run _ rfl _ _ _ _ rfl _ _ rfl rfl _ _ (hrun _) ?_)
  go_ret
  exact ⟨rfl, rfl⟩

set_option maxHeartbeats 4000000 in
set_option maxRecDepth 1000000 in
/-- at the end, and there is no room: a new row -/
theorem ins_end_grow (l : CLs) (x : S37) (base : Option Addr) (cap vb : Nat) (w : World) (hroom : cap < l.length + 1) (hcap : l.length ≤ cap) (hbig : (l.length + 1) * 24 ≤ 140737488355328) (hnil : base = none → l = [])
    (hR : ∀ a, base = some a → ∃ g, a = ⟨g, 0, none⟩ ∧ Row3 w g cap l.toArray) (hV : One w vb x) :
    Calls Try.prog 34 #[.slice base l.length cap, .int .i64 l.length, .slice (some ⟨vb, 0, none⟩) 1 1] w fun e w' =>
      e = .returned (.slice (some ⟨w.heap.size, 0, none⟩) (l.length + 1) (grownCap w (l.length + 1) cap 37)) ∧ w' = w.drew.alloc (.cells ((flatC l ++ flatC [x]).toArray ++ Builtin.zeroCells #[Value.int .i64 0, .int .i64 0, .int .i64 0] (grownCap w (l.length + 1) cap 37 - (l.length + 1))) 37) := by
  obtain ⟨i0, hi0, hz0, hzs, hzb⟩ := info_parts info37
  have hold : (Builtin.firstCells i0.size l.length (.slice base l.length cap)).run Try.prog w.drew = .ok (flatC l).toArray w.drew := by
    rw [hzs]
    cases base with
    | none =>
      have h0 := hnil rfl
      subst h0
      exact run_firstCells_none w.drew 3 0 0 cap
    | some a =>
      obtain ⟨g, rfl, hr⟩ := hR a rfl
      exact run_firstCells_some w.drew 3 l.length ⟨g, 0, none⟩ l.length cap (flatC l) (flat_length l) (fun j v hj => by rw [Addr.add_lit, Nat.zero_add]; exact hr.cells_ j v hj)
  have hrun : ∀ ty, (Builtin.append_ #[28, 26] ty #[.slice base l.length cap, .slice (some ⟨vb, 0, none⟩) 1 1]).run Try.prog w = _ := fun ty =>
    run_append_grow_src w 28 26 ty 37 i0 _ ut hi0 hz0 base l.length cap (flatC l) hold _ 1 (flatC [x]) (src_one w vb x hV _ hzs) hroom (by omega) (by rw [hzb]; exact growslice_fits hroom hbig)
  have hz5 : (l.length == l.length) = true := by simp
  obtain ⟨fl, hfl⟩ : ∃ fl, fl = flatC l := ⟨_, rfl⟩
  rw [← hfl] at hrun ⊢
  clear hR hold hfl
  have hnil2 : base = none → l.length = 0 := fun h => by rw [hnil h]; rfl
  clear hnil
  generalize l.length = n at *
  go_enter Try.func34, Try.ntmps34
  cases base with
  | none =>
    have h0 := hnil2 rfl
    subst h0
    go_wp2_with (at_builtin; refine Lib.wpList_append_run _ rfl _ _ _ _ rfl _ _ rfl rfl _ _ (hrun _) ?_)
    go_ret
    exact ⟨rfl, rfl⟩
  | some a =>
    obtain ⟨ab, ao, asp⟩ := a
    go_wp2_with (at_builtin; refine Lib.wpList_append_run _ rfl _ _ _ _ rfl _ _ rfl rfl _ _ (hrun _) ?_)
    all_goals (go_ret; exact ⟨rfl, rfl⟩)

abbrev z3 : Array Value := #[Value.int .i64 0, .int .i64 0, .int .i64 0]
theorem zeros_size (k : Nat) : (Builtin.zeroCells z3 k).size = k * 3 := by simp [Builtin.zeroCells]
set_option maxHeartbeats 4000000 in
set_option maxRecDepth 1000000 in
/-- not at the end, and there is no room: a new row -/
theorem ins_grow (l : CLs) (xx : S37) (i g cap vb : Nat) (w : World) (hi : i < l.length) (hroom : cap < l.length + 1) (hbig : (l.length + 1) * 24 ≤ 140737488355328) (hR : Row3 w g cap l.toArray) (hV : One w vb xx) :
    Calls Try.prog 34 #[.slice (some ⟨g, 0, none⟩) l.length cap, .int .i64 i, .slice (some ⟨vb, 0, none⟩) 1 1] w fun e w' =>
      e = .returned (.slice (some ⟨w.heap.size, 0, none⟩) (l.length + 1) (grownCap w (l.length + 1) cap 37)) ∧
      w' = (((w.alloc (.cells ((flatC (l.take i)).toArray ++ Builtin.zeroCells z3 (l.length + 1 - i) ++ Builtin.zeroCells z3 (grownCap w (l.length + 1) cap 37 - (l.length + 1))) 37)).drew.setCells w.heap.size (i * 3) (flatC [xx])).drew).setCells w.heap.size ((i + 1) * 3) (flatC (l.drop i)) := by
  obtain ⟨n, hn⟩ : ∃ n, n = l.length := ⟨_, rfl⟩
  have hnc : n ≤ cap := by have := hR.le; simp at this; omega
  obtain ⟨i0, hi0, hz0, hzs, hzb⟩ := info_parts info37
  have hbw : g < w.heap.size := hR.lt
  have hvw : vb < w.heap.size := (Array.getElem?_eq_some_iff.1 hV.blk).1
  have hdl : (l.drop i).length = n - i := by rw [List.length_drop, hn]
  have htl : (l.take i).length = i := by rw [List.length_take]; omega
  rw [← hn] at hi hroom hbig ⊢
  have hkk : (n : Int) + 1 - (i : Int) = ((n + 1 - i : Nat) : Int) := by omega
  have hik : i + (n + 1 - i) = n + 1 := by omega
  have hold : (Builtin.firstCells i0.size i (.slice (some ⟨g, 0, none⟩) i cap)).run Try.prog w.drew = .ok (flatC (l.take i)).toArray w.drew := by
    rw [hzs]
    exact run_firstCells_some w.drew 3 i ⟨g, 0, none⟩ i cap (flatC (l.take i)) (by rw [flat_length, htl]) (fun j v hj => by
      rw [Addr.add_lit, Nat.zero_add]
      refine flat_all (l.take i) (fun j v => w.cell? ⟨g, j, none⟩ = some v) (fun t y hy => ?_) j v hj
      rw [List.getElem?_take] at hy
      split at hy
      · obtain ⟨ht, e⟩ := arr_get hy
        have := hR.cell _ ht
        rw [e] at this
        exact this
      · cases hy)
  have hrz : ∀ ty, (Builtin.append_ #[28, 3] ty #[.slice (some ⟨g, 0, none⟩) i cap, .int .i64 ((n : Int) + 1 - (i : Int))]).run Try.prog w =
      .ok (.slice (some ⟨w.heap.size, 0, none⟩) (n + 1) (grownCap w (n + 1) cap 37)) (w.drew.alloc (.cells ((flatC (l.take i)).toArray ++ Builtin.zeroCells z3 (n + 1 - i) ++ Builtin.zeroCells z3 (grownCap w (n + 1) cap 37 - (n + 1))) 37)) := fun ty => by
    have h := Lib.run_append_grow_zeros w 28 3 ty 37 i0 _ .i64 .i64 ut Try.underlying3 hi0 hz0 (some ⟨g, 0, none⟩) i cap (flatC (l.take i)) hold (n + 1 - i) (by omega) (by omega) (by omega) (by omega) (by rw [hzb]; omega) (by rw [hzb, hik]; exact growslice_fits hroom hbig)
    rw [hik] at h
    rw [hkk]
    exact h
  obtain ⟨G, hG⟩ : ∃ G, G = grownCap w (n + 1) cap 37 := ⟨_, rfl⟩
  obtain ⟨ROW, hROW⟩ : ∃ ROW : Array Value, ROW = (flatC (l.take i)).toArray ++ Builtin.zeroCells z3 (n + 1 - i) ++ Builtin.zeroCells z3 (G - (n + 1)) := ⟨_, rfl⟩
  rw [← hG] at hrz ⊢
  rw [← hROW] at hrz ⊢
  have hRl : (n + 1) * 3 ≤ ROW.size := by
    rw [hROW, Array.size_append, Array.size_append, zeros_size, zeros_size, List.size_toArray, flat_length, htl]
    omega
  obtain ⟨W1, hW1⟩ : ∃ W1, W1 = w.drew.alloc (.cells ROW 37) := ⟨_, rfl⟩
  rw [← hW1] at hrz
  have hN : ∀ j, j < (n + 1) * 3 → (W1.cell? ⟨w.heap.size, j, none⟩).isSome = true := fun j hj => by
    rw [hW1, World.cell?_alloc_at (w := w.drew) ROW _ w.heap.size j rfl, Array.getElem?_eq_getElem (by omega)]; rfl
  have hNf : ∀ j, W1.frozen? ⟨w.heap.size, j, none⟩ = false := fun j => by rw [hW1]; exact World.frozen?_alloc_at (w := w.drew) ROW _ w.heap.size j rfl
  have hOb : ∀ j v, w.cell? ⟨g, j, none⟩ = some v → W1.cell? ⟨g, j, none⟩ = some v := fun j v h => by rw [hW1, World.cell?_alloc_past (w := w.drew) _ g j hbw]; exact h
  have hOv : ∀ j v, w.cell? ⟨vb, j, none⟩ = some v → W1.cell? ⟨vb, j, none⟩ = some v := fun j v h => by rw [hW1, World.cell?_alloc_past (w := w.drew) _ vb j hvw]; exact h
  have hcpA : ∀ (W : World), (∀ x, W.cell? x = W1.cell? x) → (∀ x, W.frozen? x = W1.frozen? x) → ∀ ty dc, (Builtin.copy_ #[28, 26] ty #[.slice (some ⟨w.heap.size, i * 3, none⟩) (n + 1 - i) dc, .slice (some ⟨vb, 0, none⟩) 1 1]).run Try.prog W = .ok (goInt (1 : Nat)) (W.setCells w.heap.size (i * 3) (flatC [xx])) := fun W hWc hWf ty dc =>
    run_copy_cellsK W _ _ ty 37 3 w.heap.size (i * 3) (n + 1 - i) dc ⟨vb, 0, none⟩ 1 1 1 (flatC [xx]) ut sz37 (by simp only [Nat.min_def]; split <;> omega) rfl
      (fun j v hj => by rw [Addr.add_lit, hWc, Nat.zero_add]; exact hOv _ v (hV.get j v hj))
      (fun j hj => by rw [hWc]; exact hN _ (by rw [flat_length] at hj; simp at hj; omega)) (fun j hj => by rw [hWf]; exact hNf _) (flat_one _)
  have hGn : n + 1 ≤ G := by rw [hG]; exact grownCap_ge w _ _ _
  have hG63 : G ≤ 9223372036854775807 := by
    have := grownCap_le_maxLen w (n + 1) cap 37 (by unfold maxLen; omega)
    rw [← hG] at this
    unfold maxLen at this
    omega
  have hbN : g ≠ w.heap.size := by omega
  have hcpB : ∀ (W : World), (∀ x, W.cell? x = (W1.setCells w.heap.size (i * 3) (flatC [xx])).cell? x) → (∀ x, W.frozen? x = (W1.setCells w.heap.size (i * 3) (flatC [xx])).frozen? x) → ∀ ty dc sc, (Builtin.copy_ #[28, 28] ty #[.slice (some ⟨w.heap.size, (i + 1) * 3, none⟩) (n - i) dc, .slice (some ⟨g, i * 3, none⟩) (n - i) sc]).run Try.prog W = .ok (goInt ((n - i : Nat) : Int)) (W.setCells w.heap.size ((i + 1) * 3) (flatC (l.drop i))) := fun W hWc hWf ty dc sc =>
    run_copy_cellsK W _ _ ty 37 3 w.heap.size ((i + 1) * 3) (n - i) dc ⟨g, i * 3, none⟩ (n - i) sc (n - i) (flatC (l.drop i)) ut sz37 (by simp only [Nat.min_def]; split <;> omega) (by rw [flat_length, hdl])
      (fun j v hj => by
        rw [Addr.add_lit, hWc, World.cell?_setCells_out _ _ _ _ _ (fun h _ => absurd h hbN)]
        refine hOb _ v ?_
        refine flat_all (l.drop i) (fun j v => w.cell? ⟨g, i * 3 + j, none⟩ = some v) (fun t y hy => ?_) j v hj
        rw [List.getElem?_drop] at hy
        obtain ⟨ht, e⟩ := arr_get hy
        have := hR.cell _ ht
        rw [e, show (i + t) * 3 = i * 3 + t * 3 by omega] at this
        exact this)
      (fun j hj => by
        rw [hWc]
        exact Go.Proofs.isSome_setCells _ _ _ _ (fun t ht => hN _ (by rw [flat_length] at ht; simp at ht; omega)) _ (hN _ (by rw [flat_length, hdl] at hj; omega)))
      (fun j hj => by rw [hWf, World.frozen?_setCells]; exact hNf _) (flat_one _)
  subst hW1
  have hE1 : ∀ x, ((w.alloc (.cells ROW 37)).drew).cell? x = (w.drew.alloc (.cells ROW 37)).cell? x := fun x => rfl
  have hE2 : ∀ x, ((w.alloc (.cells ROW 37)).drew).frozen? x = (w.drew.alloc (.cells ROW 37)).frozen? x := fun x => rfl
  have hF1 : ∀ x, (((w.alloc (.cells ROW 37)).drew.setCells w.heap.size (i * 3) (flatC [xx])).drew).cell? x = ((w.drew.alloc (.cells ROW 37)).setCells w.heap.size (i * 3) (flatC [xx])).cell? x := fun x => rfl
  have hF2 : ∀ x, (((w.alloc (.cells ROW 37)).drew.setCells w.heap.size (i * 3) (flatC [xx])).drew).frozen? x = ((w.drew.alloc (.cells ROW 37)).setCells w.heap.size (i * 3) (flatC [xx])).frozen? x := fun x => rfl
  have hz5 : (i == n) = false := beq_eq_false_iff_ne.2 (by omega)
  have hz6 : ((i : Int) == (n : Int)) = false := beq_eq_false_iff_ne.2 (by omega)
  have hz3 : (cap : Int) < (n : Int) + 1 := by omega
  have hGi : ¬ (G = i) := by omega
  have hGim : ¬ (G = i + 1) := by omega
  have hci : ¬ (cap = i) := by omega
  have hw1 : IntKind.i64.wrap ((i : Int) + 1) = (i : Int) + 1 := by rw [IntKind.wrap_i64]; omega
  have hw2 : IntKind.i64.wrap ((n : Int) + 1) = (n : Int) + 1 := by rw [IntKind.wrap_i64]; omega
  have hw3 : IntKind.i64.wrap ((n : Int) + 1 - (i : Int)) = (n : Int) + 1 - (i : Int) := by rw [IntKind.wrap_i64]; omega
  have hb1 : (0 : Int) ≤ (i : Int) + 1 := by omega
  have hin : i ≤ n := by omega
  have hicap : i ≤ cap := by omega
  have htn : ((i : Int) + 1).toNat = i + 1 := by omega
  have hb3 : (i : Int) ≤ (n : Int) := by omega
  have hb3' : (i : Int) ≤ (n : Int) + 1 := by omega
  have hm1 : (n : Int) + 1 ≤ 9223372036854775807 := by omega
  have mixed : Try.prog.follows Departure.mixedOrders = true := by kernel_rfl
  clear hkk hik hold hROW hG hRl hR hdl htl hn
  go_enter Try.func34, Try.ntmps34
  go_wp2_with (first
    | (at_builtin; refine Lib.wpList_append_run _ rfl _ _ _ _ rfl _ _ rfl rfl _ _ (hrz _) ?_)
    | (at_builtin; refine Go.Proofs.wpList_copy_runI _ rfl _ _ 28 26 rfl _ _ rfl rfl (hcpA _ hE1 hE2 _ _) ?_))
  go_region_law_o (refine Go.Proofs.step_copy_runI rfl _ _ 28 28 rfl (.slice (some ⟨w.heap.size, (i + 1) * 3, none⟩) (n - i) (G - (i + 1))) (.slice (some ⟨g, i * 3, none⟩) (n - i) (cap - i)) (by simp [Act.eval, Act.put]) (by simp [Act.eval, Act.put]) (hcpB _ hF1 hF2 3 (G - (i + 1)) (cap - i)) ?_)
  go_wp2
  go_ret
  exact ⟨rfl, rfl⟩
end Go.Proofs.Ytpekdgdogmaohaa
