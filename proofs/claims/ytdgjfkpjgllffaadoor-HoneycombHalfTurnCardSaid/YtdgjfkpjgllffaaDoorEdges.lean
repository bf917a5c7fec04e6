/- CellEdges: the walk of the law. -/
import Derived.Test.YtdgjfkpjgllffaaDoorAwake3
namespace Go.Proofs.YtdgjfkpjgllffaaDoor
open Go.RowKit Go.Proofs.YtdgjfkpjgllffaaDoorW.PrintWords Go.Proofs.YtdgjfkpjgllffaaDoorW.PrintLast Go.Proofs.YtdgjfkpjgllffaaDoorW.PrintMore
open H
open Go.Shelf Go.RowKit Go.Lib Go.Sort

set_option maxHeartbeats 1000000 in
theorem some_any (l a b h : Int) (w : World) (hl : l = 1 ∨ ¬ l = 1) : Calls Tryd.prog 14 #[.int .i64 l, .agg #[.int .i64 a, .int .i64 b, .int .i64 h]] w fun e w' => (∃ p q r : Int, e = .returned (.agg #[.int .i64 p, .int .i64 q, .int .i64 r]) ∧ -99 ≤ p ∧ p ≤ 99 ∧ -99 ≤ q ∧ q ≤ 99 ∧ (r = 0 ∨ r = 1) ∧ (l = 1 → r = 0)) ∧ Below w.heap.size w w' := by
  have hb : bits BinOp.and IntKind.i64 h 1 = 0 ∨ bits BinOp.and IntKind.i64 h 1 = 1 := by rw [and_1]; omega
  have ha1 := tmod_range a 100 (by omega)
  have hb1 := tmod_range b 100 (by omega)
  generalize hx : bits BinOp.and IntKind.i64 h 1 = x at hb
  rcases hl with hl | hl
  · go_enter Tryd.func14, Tryd.ntmps14
    go_wp2
    refine bodyPost_ret (v := .agg #[.int .i64 (a.tmod 100), .int .i64 (b.tmod 100), .int .i64 0]) (by simp [results, Tryd.results29, go_sem]) rfl ?_
    go_wp2
    exact bodyPost_ret (v := .agg #[.int .i64 (a.tmod 100), .int .i64 (b.tmod 100), .int .i64 0]) (by simp [results, Tryd.results14, go_sem]) rfl ⟨⟨_, _, _, rfl, by omega, by omega, by omega, by omega, .inl rfl, fun _ => rfl⟩, (by with_reducible repeat (first | apply below_alloc | apply pw_below_drewN | apply below_drew | refine bset ?_ _ _ (by omega) _ | exact Below.refl _ _))⟩
  · go_enter Tryd.func14, Tryd.ntmps14
    go_wp2
    refine bodyPost_ret (v := .agg #[.int .i64 (a.tmod 100), .int .i64 (b.tmod 100), .int .i64 x]) (by simp [results, Tryd.results29, go_sem]) rfl ?_
    go_wp2
    exact bodyPost_ret (v := .agg #[.int .i64 (a.tmod 100), .int .i64 (b.tmod 100), .int .i64 x]) (by simp [results, Tryd.results14, go_sem]) rfl ⟨⟨_, _, _, rfl, by omega, by omega, by omega, by omega, hb, fun h1 => absurd h1 hl⟩, (by with_reducible repeat (first | apply below_alloc | apply pw_below_drewN | apply below_drew | refine bset ?_ _ _ (by omega) _ | exact Below.refl _ _))⟩

/-- the plain law of CellEdges -/
theorem edges_pure (p q r : Int) (hr : r = 0 ∨ r = 1) : (((offs 3 r).map (sh p q)).filter fun d => d.f1 == r).length = 6 ∧ ∀ d ∈ (offs 2 r).map (sh p q), d ∈ (offs 3 r).map (sh p q) ∧ d.f1 ≠ r := by
  constructor
  · rw [List.filter_map, List.length_map]
    rcases hr with rfl | rfl
    · show ((offs 3 0).filter fun d => d.f1 == 0).length = 6
      decide
    · show ((offs 3 1).filter fun d => d.f1 == 1).length = 6
      decide
  · intro d hd
    obtain ⟨y, hy, rfl⟩ := List.mem_map.1 hd
    have h2 : y ∈ offs 3 r ∧ y.f1 ≠ r := by
      rcases hr with rfl | rfl
      · have : ∀ y ∈ offs 2 0, y ∈ offs 3 0 ∧ y.f1 ≠ 0 := by decide
        exact this y hy
      · have : ∀ y ∈ offs 2 1, y ∈ offs 3 1 ∧ y.f1 ≠ 1 := by decide
        exact this y hy
    exact ⟨List.mem_map.2 ⟨y, h2.1, rfl⟩, h2.2⟩

attribute [local go_sem high] eqCells
set_option maxRecDepth 100000 in
set_option maxHeartbeats 4000000 in
theorem edges_walk (a b h : Int) (w : World) (hG : Six w) :
    Calls Tryd.prog 4 #[.agg #[.int .i64 a, .int .i64 b, .int .i64 h]] w fun e w' => e = .returned (.bool true) ∧ Below w.heap.size w w' := by
  go_enter Tryd.func4, Tryd.ntmps4
  go_wp2_with fail
  obtain ⟨w1, hw1, hcc, hsz, hB1⟩ := one_new w #[.int .i64 a, .int .i64 b, .int .i64 h] 23
  rw [← hw1]
  clear hw1
  have d0 : w1.cell? ⟨w.heap.size, 0, none⟩ = some (.int .i64 a) := hcc 0 _ rfl
  have d1 : w1.cell? ⟨w.heap.size, 1, none⟩ = some (.int .i64 b) := hcc 1 _ rfl
  have d2 : w1.cell? ⟨w.heap.size, 2, none⟩ = some (.int .i64 h) := hcc 2 _ rfl
  have G1 := Aside0.mk (hG.below hB1)
  have HB1 := Aside0.mk hB1
  clear hcc hB1 hG
  go_wp2_with (first
    | (go_at_call 12; refine (awake_any _ G1.out).mono ?_; rintro e w2 ⟨rfl, hb2⟩
       have G2 := Aside0.mk (G1.out.below hb2)
       have d0 := pw_cell_below hb2 d0
       have d1 := pw_cell_below hb2 d1
       have d2 := pw_cell_below hb2 d2
       have HB2 := Aside0.mk hb2
       clear hb2)
    | (go_at_call 14; refine (some_any _ _ _ _ _ (.inr (by omega))).mono ?_; rintro e w3 ⟨⟨p, q, r, rfl, hp1, hp2, hq1, hq2, hr, _⟩, hb3⟩
       have G3 := Aside0.mk (G2.out.below hb3)
       have HB3 := Aside0.mk hb3
       clear hb3))
  obtain ⟨w4, hw4, hcc, hsz4, hB4⟩ := one_new w3 #[.int .i64 p, .int .i64 q, .int .i64 r] 30
  rw [← hw4]
  clear hw4 d0 d1 d2
  have c2 : w4.cell? ⟨w3.heap.size, 2, none⟩ = some (.int .i64 r) := hcc 2 _ rfl
  have c0 : w4.cell? ⟨w3.heap.size, 0, none⟩ = some (.int .i64 p) := hcc 0 _ rfl
  have c1 : w4.cell? ⟨w3.heap.size, 1, none⟩ = some (.int .i64 q) := hcc 1 _ rfl
  have G4 := Aside0.mk (G3.out.below hB4)
  have HB4 := Aside0.mk (((HB1.out.trans (HB2.out.mono HB1.out.size)).trans (HB3.out.mono (Nat.le_trans HB1.out.size HB2.out.size))).trans (hB4.mono (Nat.le_trans (Nat.le_trans HB1.out.size HB2.out.size) HB3.out.size)))
  clear hcc hB4 HB1 HB2 HB3 G1 G2 G3
  have hpure := edges_pure p q r hr
  have hx3 : (offs 2 r).length = 3 := by rcases hr with rfl | rfl <;> rfl
  have hy12 : (offs 3 r).length = 12 := by rcases hr with rfl | rfl <;> rfl
  obtain ⟨X, hX⟩ : ∃ X, X = (offs 2 r).map (sh p q) := ⟨_, rfl⟩
  obtain ⟨Y, hY⟩ : ∃ Y, Y = (offs 3 r).map (sh p q) := ⟨_, rfl⟩
  have hXl : X.length = 3 := by rw [hX, List.length_map, hx3]
  have hYl : Y.length = 12 := by rw [hY, List.length_map, hy12]
  have hbx : ∀ W, Six W → Calls Tryd.prog 15 #[.int .i64 2, .agg #[.int .i64 p, .int .i64 q, .int .i64 r]] W fun e w' => ∃ g cap : Nat, e = .returned (.tuple #[.slice (some ⟨g, 0, none⟩) 3 cap, .nilIface]) ∧ W.heap.size ≤ g ∧ Row3 w' g cap X.toArray ∧ Below W.heap.size W w' := fun W hW => by
    have := beside_small 2 p q r W hW (by omega) (by omega) hr (by omega) (by omega) (by omega) (by omega) (by omega)
    rwa [hx3, ← hX] at this
  have hby : ∀ W, Six W → Calls Tryd.prog 15 #[.int .i64 3, .agg #[.int .i64 p, .int .i64 q, .int .i64 r]] W fun e w' => ∃ g cap : Nat, e = .returned (.tuple #[.slice (some ⟨g, 0, none⟩) 12 cap, .nilIface]) ∧ W.heap.size ≤ g ∧ Row3 w' g cap Y.toArray ∧ Below W.heap.size W w' := fun W hW => by
    have := beside_small 3 p q r W hW (by omega) (by omega) hr (by omega) (by omega) (by omega) (by omega) (by omega)
    rwa [hy12, ← hY] at this
  rw [← hX, ← hY] at hpure
  have PU := Aside0.mk hpure
  clear hX hY hpure hx3 hy12
  refine (hbx w4 G4.out).mono ?_
  rintro e w5 ⟨gx, cx, rfl, hgx, hrx, hb5⟩
  have c0 := pw_cell_below hb5 c0
  have c1 := pw_cell_below hb5 c1
  have c2 := pw_cell_below hb5 c2
  have G5 := Aside0.mk (G4.out.below hb5)
  have hz5 := hb5.size
  have HB5 := Aside0.mk (HB4.out.trans (hb5.mono HB4.out.size))
  have RX := Aside0.mk hrx
  clear hrx hb5
  go_wp2_with (first
    | (go_at_call 15; refine (hby _ G5.out).mono ?_; rintro e w6 ⟨gy, cy, rfl, hgy, hry, hb6⟩
       have c0 := pw_cell_below hb6 c0
       have c1 := pw_cell_below hb6 c1
       have c2 := pw_cell_below hb6 c2
       have HB6 := Aside0.mk (HB5.out.trans (hb6.mono HB5.out.size))
       have RX6 := Aside0.mk (RX.out.below hb6)
       have RY := Aside0.mk hry
       have hz6 := hb6.size
       clear hry hb6))
  have C6 := Aside0.mk (And.intro c0 (And.intro c1 c2))
  have hzc : w3.heap.size < w6.heap.size := by omega
  clear c0 c1 c2 hbx hby
  go_loopw [8, 48] (fun n i wr => ∃ k : Nat, k ≤ 12 ∧ i = .int .i64 k ∧ n = .int .i64 (((Y.take k).filter fun d => d.f1 == r).length : Nat) ∧ Below w6.heap.size w6 wr) (fun _ i _ => 12 - (intOf i).toNat)
  case atStart => exact ⟨0, by omega, rfl, rfl, Below.refl _ _⟩
  case round =>
    obtain ⟨k, hk, rfl, rfl, hB⟩ := hrel
    have HB := Aside0.mk hB
    have hzr := hB.size
    have d2 := pw_cell_below hB C6.out.2.2
    have hzz : w3.heap.size < wr.heap.size := Nat.lt_of_lt_of_le hzc hzr
    have hgyr : gy < wr.heap.size := Nat.lt_of_lt_of_le RY.out.lt hzr
    have hlf : ((Y.take k).filter fun d => d.f1 == r).length ≤ 12 := Nat.le_trans (List.length_filter_le _ _) (by simp; omega)
    by_cases hlt : k < 12
    · obtain ⟨a0, a1, a2⟩ := (RY.out.below hB).cell k (by simp; omega)
      generalize hx : Y.toArray[k]! = x at a0 a1 a2
      have htk : Y.take (k + 1) = Y.take k ++ [x] := by
        rw [List.take_add_one, List.getElem?_eq_getElem (by omega)]
        have : Y.toArray[k]! = Y[k] := by simp [hYl, hlt]
        rw [← hx, this]
        rfl
      have HTK := Aside0.mk htk
      clear htk hx hB
      by_cases hxr : x.f1 = r
      · go_wp2
        go_roundw
        case rel => exact ⟨k + 1, by omega, by go_num, by rw [HTK.out, List.filter_append]; simp [hxr], below_alloc2 HB.out (by omega) _⟩
        case measure => simp [intOf]; omega
      · go_wp2
        go_roundw
        case rel => exact ⟨k + 1, by omega, by go_num, by rw [HTK.out, List.filter_append]; simp [hxr], below_alloc2 HB.out (by omega) _⟩
        case measure => simp [intOf]; omega
    · obtain rfl : k = 12 := by omega
      rw [show Y.take 12 = Y from List.take_of_length_le (by omega), PU.out.1]
      clear hB
      go_wp2
      have HB0 := Aside0.mk HB.out
      go_loopw [62] (fun i wr => ∃ k : Nat, k ≤ 3 ∧ i = .int .i64 k ∧ Below w6.heap.size w6 wr) (fun i _ => 3 - (intOf i).toNat)
      case atStart => exact ⟨0, by omega, rfl, HB0.out⟩
      case round =>
        obtain ⟨k, hk, rfl, hB⟩ := hrel
        have HB := Aside0.mk hB
        have hzr := hB.size
        have d2 := pw_cell_below hB C6.out.2.2
        have hzz : w3.heap.size < wr.heap.size := Nat.lt_of_lt_of_le hzc hzr
        have hgxr : gx < wr.heap.size := Nat.lt_of_lt_of_le RX6.out.lt hzr
        by_cases hlt : k < 3
        · obtain ⟨a0, a1, a2⟩ := (RX6.out.below hB).cell k (by simp; omega)
          have hmem : X.toArray[k]! ∈ X := by
            have : X.toArray[k]! = X[k] := by simp [hXl, hlt]
            rw [this]
            exact List.getElem_mem _
          generalize X.toArray[k]! = x at a0 a1 a2 hmem
          have hxr := (PU.out.2 x hmem).2
          have MY := Aside0.mk (PU.out.2 x hmem).1
          clear hB hmem
          go_wp2
          obtain ⟨w7, hw7, hc7, hsz7, hB7⟩ := one_new wr #[.int .i64 x.f0.f0, .int .i64 x.f0.f1, .int .i64 x.f1] 30
          rw [← hw7]
          have e0 : w7.cell? ⟨wr.heap.size, 0, none⟩ = some (.int .i64 x.f0.f0) := hc7 0 _ rfl
          have e1 : w7.cell? ⟨wr.heap.size, 1, none⟩ = some (.int .i64 x.f0.f1) := hc7 1 _ rfl
          have e2 : w7.cell? ⟨wr.heap.size, 2, none⟩ = some (.int .i64 x.f1) := hc7 2 _ rfl
          have f2 := pw_cell_below hB7 d2
          have hgy7 : gy < w7.heap.size := Nat.lt_of_lt_of_le (Nat.lt_of_lt_of_le RY.out.lt hzr) (Nat.le_of_lt hsz7)
          have hz7 : w3.heap.size < w7.heap.size := Nat.lt_trans hzz hsz7
          have HB7 := Aside0.mk (HB.out.trans (hB7.mono hzr))
          have RY7 := Aside0.mk ((RY.out.below HB.out).below hB7)
          have E7 := Aside0.mk (And.intro e0 (And.intro e1 (And.intro e2 f2)))
          clear hw7 hc7 hB7 e0 e1 e2 f2 d2 a0 a1 a2
          have hzw7 := HB7.out.size
          go_loopw [13, 68] (fun t j wq => ∃ m : Nat, m ≤ 12 ∧ j = .int .i64 m ∧ t = .bool (decide (x ∈ Y.take m)) ∧ Below w7.heap.size w7 wq) (fun _ j _ => 12 - (intOf j).toNat)
          case atStart => exact ⟨0, by omega, rfl, by simp, Below.refl _ _⟩
          case round =>
            obtain ⟨m, hm, rfl, rfl, hB⟩ := hrel
            have HBm := Aside0.mk hB
            have hzm := hB.size
            have e0 := pw_cell_below hB E7.out.1
            have e1 := pw_cell_below hB E7.out.2.1
            have e2 := pw_cell_below hB E7.out.2.2.1
            have f2 := pw_cell_below hB E7.out.2.2.2
            have hgym : gy < wr.heap.size := Nat.lt_of_lt_of_le hgy7 hzm
            have hzx := Nat.lt_of_lt_of_le hsz7 hzm
            have hzcr := Nat.lt_of_lt_of_le hz7 hzm
            by_cases hltm : m < 12
            · obtain ⟨b0, b1, b2⟩ := (RY7.out.below hB).cell m (by simp; omega)
              generalize hy : Y.toArray[m]! = y at b0 b1 b2
              have htk : Y.take (m + 1) = Y.take m ++ [y] := by
                rw [List.take_add_one, List.getElem?_eq_getElem (by omega)]
                have : Y.toArray[m]! = Y[m] := by simp [hYl, hltm]
                rw [← hy, this]
                rfl
              have HTK := Aside0.mk htk
              clear htk hy hB
              by_cases hin : x ∈ Y.take m
              · rw [decide_eq_true hin]
                go_wp2
                go_roundw
                case rel => exact ⟨m + 1, by omega, by go_num, by rw [HTK.out, decide_eq_true (List.mem_append.2 (.inl hin))], below_alloc2 HBm.out (by omega) _⟩
                case measure => simp [intOf]; omega
              · rw [decide_eq_false hin]
                go_wp2
                go_roundw
                case rel =>
                  refine ⟨m + 1, by omega, by go_num, ?_, below_alloc2 HBm.out (by omega) _⟩
                  rw [HTK.out]
                  congr 1
                  rw [Bool.eq_iff_iff]
                  simp [hin, eq_comm]
                case measure => simp [intOf]; omega
            · obtain rfl : m = 12 := by omega
              have hin : x ∈ Y.take 12 := by rw [show Y.take 12 = Y from List.take_of_length_le (by omega)]; exact MY.out
              rw [decide_eq_true hin]
              clear hB
              go_wp2
              go_roundw
              case rel => exact ⟨k + 1, by omega, by go_num, HB7.out.trans (HBm.out.mono (by omega))⟩
              case measure => simp [intOf]; omega
        · obtain rfl : k = 3 := by omega
          clear hB
          go_wp2
          go_ret
          exact ⟨rfl, HB6.out.trans (HB.out.mono HB6.out.size)⟩
end Go.Proofs.YtdgjfkpjgllffaaDoor
