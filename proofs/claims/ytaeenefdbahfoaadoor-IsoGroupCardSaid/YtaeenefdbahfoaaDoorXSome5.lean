/- law05.Some: a table that may be. -/
import Derived.Test.YtaeenefdbahfoaaDoorXTCheck
import Derived.Test.YtaeenefdbahfoaaDoorHSmall
namespace Go.Proofs.YtaeenefdbahfoaaDoor
open Go.RowKit Go.Proofs.YtaeenefdbahfoaaDoorW.PrintWords Go.Proofs.YtaeenefdbahfoaaDoorW.PrintLast Go.Proofs.YtaeenefdbahfoaaDoorW.PrintMore
open H
open Go.RowKit

/-- a table's number, of those that may be -/
def andM (x m : Int) : Int := Go.bits .and .u64 x m
set_option maxRecDepth 100000 in
set_option maxHeartbeats 4000000 in
theorem some5_2 (l b0 b1 s0 s1 : Int) (w : World) (ht : l % 256 % 3 = 1) :
    Calls Tryd.prog 14 #[.agg #[.int .i64 l, .int .u64 b0, .int .u64 b1, .int .u64 s0, .int .u64 s1]] w fun e w' => e = .returned (.agg #[.int .i64 (2), .int .u64 (andM b0 14), .int .u64 (andM b1 14), .int .u64 (andM s0 15), .int .u64 (andM s1 15)]) ∧ Below w.heap.size w w' := by
  have ho := fun W => honeycomblaw05_Own.calls l b0 b1 s0 s1 l b0 b1 s0 s1 W rfl
  have hand : Go.bits .and .i64 l 255 = l % 256 := by rw [and_255]
  have hmod : (l % 256).tmod 3 = 1 := by rw [Int.tmod_eq_emod_of_nonneg (by omega), ht]
  have hnot : Go.bits .andNot .u64 15 1 = 14 := by decide
  go_enter Tryd.func14, Tryd.ntmps14
  go_upto_region 1 with (fail)
  obtain ⟨w1, hw1⟩ : ∃ w1, w1 = (w.alloc (.cells #[.int .i64 l, .int .u64 b0, .int .u64 b1, .int .u64 s0, .int .u64 s1] 25)).alloc (.cells #[.int .i64 0, .int .u64 0, .int .u64 0, .int .u64 0, .int .u64 0] 29) := ⟨_, rfl⟩
  have hsz1 : (w.alloc (.cells #[.int .i64 l, .int .u64 b0, .int .u64 b1, .int .u64 s0, .int .u64 s1] 25)).heap.size = w.heap.size + 1 := by simp
  have hbx : w1.heap[w.heap.size]? = some (.cells #[.int .i64 l, .int .u64 b0, .int .u64 b1, .int .u64 s0, .int .u64 s1] 25 (0, 0)) := by
    rw [hw1]
    exact blk_alloc (blk_new w _) _
  have hbr : w1.heap[w.heap.size + 1]? = some (.cells #[.int .i64 0, .int .u64 0, .int .u64 0, .int .u64 0, .int .u64 0] 29 (0, 0)) := by
    rw [hw1, ← hsz1]
    exact blk_new _ _
  have hB1 : Below w.heap.size w w1 := by
    rw [hw1]
    exact below_alloc (below_alloc (Below.refl _ _) _) _
  rw [← hw1]
  clear hw1 hsz1
  have x0 := blk_cell hbx 0
  have x1 := blk_cell hbx 1
  have x2 := blk_cell hbx 2
  have x3 := blk_cell hbx 3
  have x4 := blk_cell hbx 4
  simp at x0 x1 x2 x3 x4
  have BX := Aside0.mk hbx
  have BR := Aside0.mk hbr
  have HB1 := Aside0.mk hB1
  have hz1 := blk_lt hbr
  clear hbx hbr hB1
  go_wp2_with fail
  refine (ho _).mono ?_
  rintro e w2 ⟨rfl, hb⟩
  have hz2 := hb.size
  have BX2 := Aside0.mk (blk_below BX.out hb)
  have BR2 := Aside0.mk (blk_below BR.out hb)
  have HB2 := Aside0.mk (HB1.out.trans (hb.mono (by omega)))
  clear hb x0 x1 x2 x3 x4
  go_upto_region 2 with (fail)
  obtain ⟨w3, hw3⟩ : ∃ w3, w3 = w2.alloc (.cells #[.int .i64 l, .int .u64 b0, .int .u64 b1, .int .u64 s0, .int .u64 s1] 29) := ⟨_, rfl⟩
  have hbt : w3.heap[w2.heap.size]? = some (.cells #[.int .i64 l, .int .u64 b0, .int .u64 b1, .int .u64 s0, .int .u64 s1] 29 (0, 0)) := by
    rw [hw3]
    exact blk_new _ _
  have BX3 := Aside0.mk (blk_alloc BX2.out (.cells #[.int .i64 l, .int .u64 b0, .int .u64 b1, .int .u64 s0, .int .u64 s1] 29))
  have BR3 := Aside0.mk (blk_alloc BR2.out (.cells #[.int .i64 l, .int .u64 b0, .int .u64 b1, .int .u64 s0, .int .u64 s1] 29))
  have HB3 := Aside0.mk (below_alloc HB2.out (.cells #[.int .i64 l, .int .u64 b0, .int .u64 b1, .int .u64 s0, .int .u64 s1] 29))
  rw [← hw3] at BX3 BR3 HB3
  rw [← hw3]
  have hz3 := blk_lt hbt
  clear hw3
  have x0 := blk_cell BX3.out 0
  have t0 := blk_cell hbt 0
  have tf := blk_frozen hbt
  simp at x0 t0
  have BT3 := Aside0.mk hbt
  have hne : ¬ w.heap.size = w2.heap.size := by omega
  clear hbt
  go_wp2_with fail
  obtain ⟨w4, hw4⟩ : ∃ w4, w4 = (w3.setCell ⟨w2.heap.size, 0, none⟩ (.int .i64 2)).alloc (.cells #[.int .u64 0, .int .u64 18446744073709551615, .int .u64 15, .int .u64 8191] 22) := ⟨_, rfl⟩
  have BT4 := Aside0.mk (blk_alloc (blk_put BT3.out 0 (.int .i64 2) rfl) (.cells #[.int .u64 0, .int .u64 18446744073709551615, .int .u64 15, .int .u64 8191] 22))
  have BR4 := Aside0.mk (blk_alloc (blk_far BR3.out (p := ⟨w2.heap.size, 0, none⟩) (by show ¬ w.heap.size + 1 = w2.heap.size; omega) (.int .i64 2)) (.cells #[.int .u64 0, .int .u64 18446744073709551615, .int .u64 15, .int .u64 8191] 22))
  have HB4 := Aside0.mk (below_alloc (Below.setCell (p := ⟨w2.heap.size, 0, none⟩) HB3.out (by show w.heap.size ≤ w2.heap.size; omega) (.int .i64 2)) (.cells #[.int .u64 0, .int .u64 18446744073709551615, .int .u64 15, .int .u64 8191] 22))
  rw [← hw4] at BT4 BR4 HB4
  rw [← hw4]
  have hz4 := blk_lt BT4.out
  clear hw4 x0 t0 tf
  go_loopw [19] (fun i wr => ∃ (j : Nat) (B0 B1 S0 S1 : Int), j ≤ 2 ∧ i = .int .i64 j ∧ B0 = (if 0 < j then andM b0 14 else b0) ∧ B1 = (if 1 < j then andM b1 14 else b1) ∧ S0 = (if 0 < j then andM s0 15 else s0) ∧ S1 = (if 1 < j then andM s1 15 else s1) ∧ wr.heap[w2.heap.size]? = some (.cells #[.int .i64 2, .int .u64 B0, .int .u64 B1, .int .u64 S0, .int .u64 S1] 29 (0, 0)) ∧ Below w2.heap.size w4 wr) (fun i _ => 2 - (intOf i).toNat)
  case atStart => exact ⟨0, b0, b1, s0, s1, by omega, rfl, rfl, rfl, rfl, rfl, BT4.out, Below.refl _ _⟩
  case round =>
    obtain ⟨j, B0, B1, S0, S1, hj, rfl, e0, e1, e2, e3, hbt, hb⟩ := hrel
    have HBR := Aside0.mk hb
    have BTR := Aside0.mk hbt
    have E := Aside0.mk (And.intro e0 (And.intro e1 (And.intro e2 e3)))
    have t0 := blk_cell hbt 0
    have t1 := blk_cell hbt 1
    have t2 := blk_cell hbt 2
    have t3 := blk_cell hbt 3
    have t4 := blk_cell hbt 4
    have tf := blk_frozen hbt
    simp at t0 t1 t2 t3 t4
    clear hb hbt e0 e1 e2 e3
    have hjj : j = 0 ∨ j = 1 ∨ j = 2 := by omega
    rcases hjj with rfl | rfl | rfl
    · go_wp2
      go_roundw
      case rel =>
        obtain ⟨e0, e1, e2, e3⟩ := E.out
        refine ⟨1, andM B0 14, B1, andM S0 15, S1, by omega, by first | rfl | go_num, by rw [e0]; rfl, by rw [e1]; rfl, by rw [e2]; rfl, by rw [e3]; rfl, ?_, ?_⟩
        · exact blk_put (blk_put BTR.out 1 _ rfl) 3 _ rfl
        · exact Below.setCell (p := ⟨w2.heap.size, 3, none⟩) (Below.setCell (p := ⟨w2.heap.size, 1, none⟩) HBR.out (Nat.le_refl _) _) (Nat.le_refl _) _
      case measure => simp [intOf]
    · go_wp2
      go_roundw
      case rel =>
        obtain ⟨e0, e1, e2, e3⟩ := E.out
        refine ⟨2, B0, andM B1 14, S0, andM S1 15, by omega, by first | rfl | go_num, by rw [e0]; rfl, by rw [e1]; rfl, by rw [e2]; rfl, by rw [e3]; rfl, ?_, ?_⟩
        · exact blk_put (blk_put BTR.out 2 _ rfl) 4 _ rfl
        · exact Below.setCell (p := ⟨w2.heap.size, 4, none⟩) (Below.setCell (p := ⟨w2.heap.size, 2, none⟩) HBR.out (Nat.le_refl _) _) (Nat.le_refl _) _
      case measure => simp [intOf]
    · obtain ⟨e0, e1, e2, e3⟩ := E.out
      have f0 : B0 = andM b0 14 := e0
      have f1 : B1 = andM b1 14 := e1
      have f2 : S0 = andM s0 15 := e2
      have f3 : S1 = andM s1 15 := e3
      clear e0 e1 e2 e3 E
      subst f0 f1 f2 f3
      have hr : wr.heap[w.heap.size + 1]? = _ := (HBR.out.block (w.heap.size + 1) (by omega)).trans BR4.out
      have rf := blk_frozen hr
      have q0 := blk_cell hr 0
      have q1 := blk_cell hr 1
      have q2 := blk_cell hr 2
      have q3 := blk_cell hr 3
      have q4 := blk_cell hr 4
      simp at q0 q1 q2 q3 q4
      have RR := Aside0.mk hr
      clear hr
      go_wp2
      have RR' := RR
      have hr := blk_set (blk_set (blk_set (blk_set (blk_set RR'.out 0 (.int .i64 (2))) 1 (.int .u64 (andM b0 14))) 2 (.int .u64 (andM b1 14))) 3 (.int .u64 (andM s0 15))) 4 (.int .u64 (andM s1 15))
      refine bodyPost_ret (results_cell_row rfl _ _ (w.heap.size + 1) 29 #[.int .i64 (2), .int .u64 (andM b0 14), .int .u64 (andM b1 14), .int .u64 (andM s0 15), .int .u64 (andM s1 15)] (0, 0) _ rfl hr Tryd.underlying29 rfl (by kernel_rfl)) rfl ⟨rfl, ?_⟩
      have hbb : Below w.heap.size w wr := HB4.out.trans (HBR.out.mono (by omega))
      exact Below.setCell (p := ⟨w.heap.size + 1, 4, none⟩) (Below.setCell (p := ⟨w.heap.size + 1, 3, none⟩) (Below.setCell (p := ⟨w.heap.size + 1, 2, none⟩) (Below.setCell (p := ⟨w.heap.size + 1, 1, none⟩) (Below.setCell (p := ⟨w.heap.size + 1, 0, none⟩) hbb (Nat.le_succ _) _) (Nat.le_succ _) _) (Nat.le_succ _) _) (Nat.le_succ _) _) (Nat.le_succ _) _
set_option maxRecDepth 100000 in
set_option maxHeartbeats 4000000 in
theorem some5_3 (l b0 b1 s0 s1 : Int) (w : World) (ht : l % 256 % 3 = 2) :
    Calls Tryd.prog 14 #[.agg #[.int .i64 l, .int .u64 b0, .int .u64 b1, .int .u64 s0, .int .u64 s1]] w fun e w' => e = .returned (.agg #[.int .i64 (3), .int .u64 (andM b0 8190), .int .u64 (andM b1 8190), .int .u64 (andM s0 8191), .int .u64 (andM s1 8191)]) ∧ Below w.heap.size w w' := by
  have ho := fun W => honeycomblaw05_Own.calls l b0 b1 s0 s1 l b0 b1 s0 s1 W rfl
  have hand : Go.bits .and .i64 l 255 = l % 256 := by rw [and_255]
  have hmod : (l % 256).tmod 3 = 2 := by rw [Int.tmod_eq_emod_of_nonneg (by omega), ht]
  have hnot : Go.bits .andNot .u64 8191 1 = 8190 := by decide
  go_enter Tryd.func14, Tryd.ntmps14
  go_upto_region 1 with (fail)
  obtain ⟨w1, hw1⟩ : ∃ w1, w1 = (w.alloc (.cells #[.int .i64 l, .int .u64 b0, .int .u64 b1, .int .u64 s0, .int .u64 s1] 25)).alloc (.cells #[.int .i64 0, .int .u64 0, .int .u64 0, .int .u64 0, .int .u64 0] 29) := ⟨_, rfl⟩
  have hsz1 : (w.alloc (.cells #[.int .i64 l, .int .u64 b0, .int .u64 b1, .int .u64 s0, .int .u64 s1] 25)).heap.size = w.heap.size + 1 := by simp
  have hbx : w1.heap[w.heap.size]? = some (.cells #[.int .i64 l, .int .u64 b0, .int .u64 b1, .int .u64 s0, .int .u64 s1] 25 (0, 0)) := by
    rw [hw1]
    exact blk_alloc (blk_new w _) _
  have hbr : w1.heap[w.heap.size + 1]? = some (.cells #[.int .i64 0, .int .u64 0, .int .u64 0, .int .u64 0, .int .u64 0] 29 (0, 0)) := by
    rw [hw1, ← hsz1]
    exact blk_new _ _
  have hB1 : Below w.heap.size w w1 := by
    rw [hw1]
    exact below_alloc (below_alloc (Below.refl _ _) _) _
  rw [← hw1]
  clear hw1 hsz1
  have x0 := blk_cell hbx 0
  have x1 := blk_cell hbx 1
  have x2 := blk_cell hbx 2
  have x3 := blk_cell hbx 3
  have x4 := blk_cell hbx 4
  simp at x0 x1 x2 x3 x4
  have BX := Aside0.mk hbx
  have BR := Aside0.mk hbr
  have HB1 := Aside0.mk hB1
  have hz1 := blk_lt hbr
  clear hbx hbr hB1
  go_wp2_with fail
  refine (ho _).mono ?_
  rintro e w2 ⟨rfl, hb⟩
  have hz2 := hb.size
  have BX2 := Aside0.mk (blk_below BX.out hb)
  have BR2 := Aside0.mk (blk_below BR.out hb)
  have HB2 := Aside0.mk (HB1.out.trans (hb.mono (by omega)))
  clear hb x0 x1 x2 x3 x4
  go_upto_region 2 with (fail)
  obtain ⟨w3, hw3⟩ : ∃ w3, w3 = w2.alloc (.cells #[.int .i64 l, .int .u64 b0, .int .u64 b1, .int .u64 s0, .int .u64 s1] 29) := ⟨_, rfl⟩
  have hbt : w3.heap[w2.heap.size]? = some (.cells #[.int .i64 l, .int .u64 b0, .int .u64 b1, .int .u64 s0, .int .u64 s1] 29 (0, 0)) := by
    rw [hw3]
    exact blk_new _ _
  have BX3 := Aside0.mk (blk_alloc BX2.out (.cells #[.int .i64 l, .int .u64 b0, .int .u64 b1, .int .u64 s0, .int .u64 s1] 29))
  have BR3 := Aside0.mk (blk_alloc BR2.out (.cells #[.int .i64 l, .int .u64 b0, .int .u64 b1, .int .u64 s0, .int .u64 s1] 29))
  have HB3 := Aside0.mk (below_alloc HB2.out (.cells #[.int .i64 l, .int .u64 b0, .int .u64 b1, .int .u64 s0, .int .u64 s1] 29))
  rw [← hw3] at BX3 BR3 HB3
  rw [← hw3]
  have hz3 := blk_lt hbt
  clear hw3
  have x0 := blk_cell BX3.out 0
  have t0 := blk_cell hbt 0
  have tf := blk_frozen hbt
  simp at x0 t0
  have BT3 := Aside0.mk hbt
  have hne : ¬ w.heap.size = w2.heap.size := by omega
  clear hbt
  go_wp2_with fail
  obtain ⟨w4, hw4⟩ : ∃ w4, w4 = (w3.setCell ⟨w2.heap.size, 0, none⟩ (.int .i64 3)).alloc (.cells #[.int .u64 0, .int .u64 18446744073709551615, .int .u64 15, .int .u64 8191] 22) := ⟨_, rfl⟩
  have BT4 := Aside0.mk (blk_alloc (blk_put BT3.out 0 (.int .i64 3) rfl) (.cells #[.int .u64 0, .int .u64 18446744073709551615, .int .u64 15, .int .u64 8191] 22))
  have BR4 := Aside0.mk (blk_alloc (blk_far BR3.out (p := ⟨w2.heap.size, 0, none⟩) (by show ¬ w.heap.size + 1 = w2.heap.size; omega) (.int .i64 3)) (.cells #[.int .u64 0, .int .u64 18446744073709551615, .int .u64 15, .int .u64 8191] 22))
  have HB4 := Aside0.mk (below_alloc (Below.setCell (p := ⟨w2.heap.size, 0, none⟩) HB3.out (by show w.heap.size ≤ w2.heap.size; omega) (.int .i64 3)) (.cells #[.int .u64 0, .int .u64 18446744073709551615, .int .u64 15, .int .u64 8191] 22))
  rw [← hw4] at BT4 BR4 HB4
  rw [← hw4]
  have hz4 := blk_lt BT4.out
  clear hw4 x0 t0 tf
  go_loopw [19] (fun i wr => ∃ (j : Nat) (B0 B1 S0 S1 : Int), j ≤ 2 ∧ i = .int .i64 j ∧ B0 = (if 0 < j then andM b0 8190 else b0) ∧ B1 = (if 1 < j then andM b1 8190 else b1) ∧ S0 = (if 0 < j then andM s0 8191 else s0) ∧ S1 = (if 1 < j then andM s1 8191 else s1) ∧ wr.heap[w2.heap.size]? = some (.cells #[.int .i64 3, .int .u64 B0, .int .u64 B1, .int .u64 S0, .int .u64 S1] 29 (0, 0)) ∧ Below w2.heap.size w4 wr) (fun i _ => 2 - (intOf i).toNat)
  case atStart => exact ⟨0, b0, b1, s0, s1, by omega, rfl, rfl, rfl, rfl, rfl, BT4.out, Below.refl _ _⟩
  case round =>
    obtain ⟨j, B0, B1, S0, S1, hj, rfl, e0, e1, e2, e3, hbt, hb⟩ := hrel
    have HBR := Aside0.mk hb
    have BTR := Aside0.mk hbt
    have E := Aside0.mk (And.intro e0 (And.intro e1 (And.intro e2 e3)))
    have t0 := blk_cell hbt 0
    have t1 := blk_cell hbt 1
    have t2 := blk_cell hbt 2
    have t3 := blk_cell hbt 3
    have t4 := blk_cell hbt 4
    have tf := blk_frozen hbt
    simp at t0 t1 t2 t3 t4
    clear hb hbt e0 e1 e2 e3
    have hjj : j = 0 ∨ j = 1 ∨ j = 2 := by omega
    rcases hjj with rfl | rfl | rfl
    · go_wp2
      go_roundw
      case rel =>
        obtain ⟨e0, e1, e2, e3⟩ := E.out
        refine ⟨1, andM B0 8190, B1, andM S0 8191, S1, by omega, by first | rfl | go_num, by rw [e0]; rfl, by rw [e1]; rfl, by rw [e2]; rfl, by rw [e3]; rfl, ?_, ?_⟩
        · exact blk_put (blk_put BTR.out 1 _ rfl) 3 _ rfl
        · exact Below.setCell (p := ⟨w2.heap.size, 3, none⟩) (Below.setCell (p := ⟨w2.heap.size, 1, none⟩) HBR.out (Nat.le_refl _) _) (Nat.le_refl _) _
      case measure => simp [intOf]
    · go_wp2
      go_roundw
      case rel =>
        obtain ⟨e0, e1, e2, e3⟩ := E.out
        refine ⟨2, B0, andM B1 8190, S0, andM S1 8191, by omega, by first | rfl | go_num, by rw [e0]; rfl, by rw [e1]; rfl, by rw [e2]; rfl, by rw [e3]; rfl, ?_, ?_⟩
        · exact blk_put (blk_put BTR.out 2 _ rfl) 4 _ rfl
        · exact Below.setCell (p := ⟨w2.heap.size, 4, none⟩) (Below.setCell (p := ⟨w2.heap.size, 2, none⟩) HBR.out (Nat.le_refl _) _) (Nat.le_refl _) _
      case measure => simp [intOf]
    · obtain ⟨e0, e1, e2, e3⟩ := E.out
      have f0 : B0 = andM b0 8190 := e0
      have f1 : B1 = andM b1 8190 := e1
      have f2 : S0 = andM s0 8191 := e2
      have f3 : S1 = andM s1 8191 := e3
      clear e0 e1 e2 e3 E
      subst f0 f1 f2 f3
      have hr : wr.heap[w.heap.size + 1]? = _ := (HBR.out.block (w.heap.size + 1) (by omega)).trans BR4.out
      have rf := blk_frozen hr
      have q0 := blk_cell hr 0
      have q1 := blk_cell hr 1
      have q2 := blk_cell hr 2
      have q3 := blk_cell hr 3
      have q4 := blk_cell hr 4
      simp at q0 q1 q2 q3 q4
      have RR := Aside0.mk hr
      clear hr
      go_wp2
      have RR' := RR
      have hr := blk_set (blk_set (blk_set (blk_set (blk_set RR'.out 0 (.int .i64 (3))) 1 (.int .u64 (andM b0 8190))) 2 (.int .u64 (andM b1 8190))) 3 (.int .u64 (andM s0 8191))) 4 (.int .u64 (andM s1 8191))
      refine bodyPost_ret (results_cell_row rfl _ _ (w.heap.size + 1) 29 #[.int .i64 (3), .int .u64 (andM b0 8190), .int .u64 (andM b1 8190), .int .u64 (andM s0 8191), .int .u64 (andM s1 8191)] (0, 0) _ rfl hr Tryd.underlying29 rfl (by kernel_rfl)) rfl ⟨rfl, ?_⟩
      have hbb : Below w.heap.size w wr := HB4.out.trans (HBR.out.mono (by omega))
      exact Below.setCell (p := ⟨w.heap.size + 1, 4, none⟩) (Below.setCell (p := ⟨w.heap.size + 1, 3, none⟩) (Below.setCell (p := ⟨w.heap.size + 1, 2, none⟩) (Below.setCell (p := ⟨w.heap.size + 1, 1, none⟩) (Below.setCell (p := ⟨w.heap.size + 1, 0, none⟩) hbb (Nat.le_succ _) _) (Nat.le_succ _) _) (Nat.le_succ _) _) (Nat.le_succ _) _) (Nat.le_succ _) _
set_option maxRecDepth 100000 in
set_option maxHeartbeats 4000000 in
theorem some5_1 (l b0 b1 s0 s1 : Int) (w : World) (ht : l % 256 % 3 = 0) :
    Calls Tryd.prog 14 #[.agg #[.int .i64 l, .int .u64 b0, .int .u64 b1, .int .u64 s0, .int .u64 s1]] w fun e w' => e = .returned (.agg #[.int .i64 (1), .int .u64 (andM b0 18446744073709551614), .int .u64 (0), .int .u64 (andM s0 18446744073709551615), .int .u64 (0)]) ∧ Below w.heap.size w w' := by
  have ho := fun W => honeycomblaw05_Own.calls l b0 b1 s0 s1 l b0 b1 s0 s1 W rfl
  have hand : Go.bits .and .i64 l 255 = l % 256 := by rw [and_255]
  have hmod : (l % 256).tmod 3 = 0 := by rw [Int.tmod_eq_emod_of_nonneg (by omega), ht]
  have hnot : Go.bits .andNot .u64 18446744073709551615 1 = 18446744073709551614 := by decide
  go_enter Tryd.func14, Tryd.ntmps14
  go_upto_region 1 with (fail)
  obtain ⟨w1, hw1⟩ : ∃ w1, w1 = (w.alloc (.cells #[.int .i64 l, .int .u64 b0, .int .u64 b1, .int .u64 s0, .int .u64 s1] 25)).alloc (.cells #[.int .i64 0, .int .u64 0, .int .u64 0, .int .u64 0, .int .u64 0] 29) := ⟨_, rfl⟩
  have hsz1 : (w.alloc (.cells #[.int .i64 l, .int .u64 b0, .int .u64 b1, .int .u64 s0, .int .u64 s1] 25)).heap.size = w.heap.size + 1 := by simp
  have hbx : w1.heap[w.heap.size]? = some (.cells #[.int .i64 l, .int .u64 b0, .int .u64 b1, .int .u64 s0, .int .u64 s1] 25 (0, 0)) := by
    rw [hw1]
    exact blk_alloc (blk_new w _) _
  have hbr : w1.heap[w.heap.size + 1]? = some (.cells #[.int .i64 0, .int .u64 0, .int .u64 0, .int .u64 0, .int .u64 0] 29 (0, 0)) := by
    rw [hw1, ← hsz1]
    exact blk_new _ _
  have hB1 : Below w.heap.size w w1 := by
    rw [hw1]
    exact below_alloc (below_alloc (Below.refl _ _) _) _
  rw [← hw1]
  clear hw1 hsz1
  have x0 := blk_cell hbx 0
  have x1 := blk_cell hbx 1
  have x2 := blk_cell hbx 2
  have x3 := blk_cell hbx 3
  have x4 := blk_cell hbx 4
  simp at x0 x1 x2 x3 x4
  have BX := Aside0.mk hbx
  have BR := Aside0.mk hbr
  have HB1 := Aside0.mk hB1
  have hz1 := blk_lt hbr
  clear hbx hbr hB1
  go_wp2_with fail
  refine (ho _).mono ?_
  rintro e w2 ⟨rfl, hb⟩
  have hz2 := hb.size
  have BX2 := Aside0.mk (blk_below BX.out hb)
  have BR2 := Aside0.mk (blk_below BR.out hb)
  have HB2 := Aside0.mk (HB1.out.trans (hb.mono (by omega)))
  clear hb x0 x1 x2 x3 x4
  go_upto_region 2 with (fail)
  obtain ⟨w3, hw3⟩ : ∃ w3, w3 = w2.alloc (.cells #[.int .i64 l, .int .u64 b0, .int .u64 b1, .int .u64 s0, .int .u64 s1] 29) := ⟨_, rfl⟩
  have hbt : w3.heap[w2.heap.size]? = some (.cells #[.int .i64 l, .int .u64 b0, .int .u64 b1, .int .u64 s0, .int .u64 s1] 29 (0, 0)) := by
    rw [hw3]
    exact blk_new _ _
  have BX3 := Aside0.mk (blk_alloc BX2.out (.cells #[.int .i64 l, .int .u64 b0, .int .u64 b1, .int .u64 s0, .int .u64 s1] 29))
  have BR3 := Aside0.mk (blk_alloc BR2.out (.cells #[.int .i64 l, .int .u64 b0, .int .u64 b1, .int .u64 s0, .int .u64 s1] 29))
  have HB3 := Aside0.mk (below_alloc HB2.out (.cells #[.int .i64 l, .int .u64 b0, .int .u64 b1, .int .u64 s0, .int .u64 s1] 29))
  rw [← hw3] at BX3 BR3 HB3
  rw [← hw3]
  have hz3 := blk_lt hbt
  clear hw3
  have x0 := blk_cell BX3.out 0
  have t0 := blk_cell hbt 0
  have tf := blk_frozen hbt
  simp at x0 t0
  have BT3 := Aside0.mk hbt
  have hne : ¬ w.heap.size = w2.heap.size := by omega
  clear hbt
  go_wp2_with fail
  obtain ⟨w4, hw4⟩ : ∃ w4, w4 = (w3.setCell ⟨w2.heap.size, 0, none⟩ (.int .i64 1)).alloc (.cells #[.int .u64 0, .int .u64 18446744073709551615, .int .u64 15, .int .u64 8191] 22) := ⟨_, rfl⟩
  have BT4 := Aside0.mk (blk_alloc (blk_put BT3.out 0 (.int .i64 1) rfl) (.cells #[.int .u64 0, .int .u64 18446744073709551615, .int .u64 15, .int .u64 8191] 22))
  have BR4 := Aside0.mk (blk_alloc (blk_far BR3.out (p := ⟨w2.heap.size, 0, none⟩) (by show ¬ w.heap.size + 1 = w2.heap.size; omega) (.int .i64 1)) (.cells #[.int .u64 0, .int .u64 18446744073709551615, .int .u64 15, .int .u64 8191] 22))
  have HB4 := Aside0.mk (below_alloc (Below.setCell (p := ⟨w2.heap.size, 0, none⟩) HB3.out (by show w.heap.size ≤ w2.heap.size; omega) (.int .i64 1)) (.cells #[.int .u64 0, .int .u64 18446744073709551615, .int .u64 15, .int .u64 8191] 22))
  rw [← hw4] at BT4 BR4 HB4
  rw [← hw4]
  have hz4 := blk_lt BT4.out
  clear hw4 x0 t0 tf
  go_loopw [19] (fun i wr => ∃ (j : Nat) (B0 B1 S0 S1 : Int), j ≤ 2 ∧ i = .int .i64 j ∧ B0 = (if 0 < j then andM b0 18446744073709551614 else b0) ∧ B1 = (if 1 < j then andM b1 18446744073709551614 else b1) ∧ S0 = (if 0 < j then andM s0 18446744073709551615 else s0) ∧ S1 = (if 1 < j then andM s1 18446744073709551615 else s1) ∧ wr.heap[w2.heap.size]? = some (.cells #[.int .i64 1, .int .u64 B0, .int .u64 B1, .int .u64 S0, .int .u64 S1] 29 (0, 0)) ∧ Below w2.heap.size w4 wr) (fun i _ => 2 - (intOf i).toNat)
  case atStart => exact ⟨0, b0, b1, s0, s1, by omega, rfl, rfl, rfl, rfl, rfl, BT4.out, Below.refl _ _⟩
  case round =>
    obtain ⟨j, B0, B1, S0, S1, hj, rfl, e0, e1, e2, e3, hbt, hb⟩ := hrel
    have HBR := Aside0.mk hb
    have BTR := Aside0.mk hbt
    have E := Aside0.mk (And.intro e0 (And.intro e1 (And.intro e2 e3)))
    have t0 := blk_cell hbt 0
    have t1 := blk_cell hbt 1
    have t2 := blk_cell hbt 2
    have t3 := blk_cell hbt 3
    have t4 := blk_cell hbt 4
    have tf := blk_frozen hbt
    simp at t0 t1 t2 t3 t4
    clear hb hbt e0 e1 e2 e3
    have hjj : j = 0 ∨ j = 1 ∨ j = 2 := by omega
    rcases hjj with rfl | rfl | rfl
    · go_wp2
      go_roundw
      case rel =>
        obtain ⟨e0, e1, e2, e3⟩ := E.out
        refine ⟨1, andM B0 18446744073709551614, B1, andM S0 18446744073709551615, S1, by omega, by first | rfl | go_num, by rw [e0]; rfl, by rw [e1]; rfl, by rw [e2]; rfl, by rw [e3]; rfl, ?_, ?_⟩
        · exact blk_put (blk_put BTR.out 1 _ rfl) 3 _ rfl
        · exact Below.setCell (p := ⟨w2.heap.size, 3, none⟩) (Below.setCell (p := ⟨w2.heap.size, 1, none⟩) HBR.out (Nat.le_refl _) _) (Nat.le_refl _) _
      case measure => simp [intOf]
    · go_wp2
      go_roundw
      case rel =>
        obtain ⟨e0, e1, e2, e3⟩ := E.out
        refine ⟨2, B0, andM B1 18446744073709551614, S0, andM S1 18446744073709551615, by omega, by first | rfl | go_num, by rw [e0]; rfl, by rw [e1]; rfl, by rw [e2]; rfl, by rw [e3]; rfl, ?_, ?_⟩
        · exact blk_put (blk_put BTR.out 2 _ rfl) 4 _ rfl
        · exact Below.setCell (p := ⟨w2.heap.size, 4, none⟩) (Below.setCell (p := ⟨w2.heap.size, 2, none⟩) HBR.out (Nat.le_refl _) _) (Nat.le_refl _) _
      case measure => simp [intOf]
    · obtain ⟨e0, e1, e2, e3⟩ := E.out
      have f0 : B0 = andM b0 18446744073709551614 := e0
      have f1 : B1 = andM b1 18446744073709551614 := e1
      have f2 : S0 = andM s0 18446744073709551615 := e2
      have f3 : S1 = andM s1 18446744073709551615 := e3
      clear e0 e1 e2 e3 E
      subst f0 f1 f2 f3
      have hr : wr.heap[w.heap.size + 1]? = _ := (HBR.out.block (w.heap.size + 1) (by omega)).trans BR4.out
      have rf := blk_frozen hr
      have q0 := blk_cell hr 0
      have q1 := blk_cell hr 1
      have q2 := blk_cell hr 2
      have q3 := blk_cell hr 3
      have q4 := blk_cell hr 4
      simp at q0 q1 q2 q3 q4
      have RR := Aside0.mk hr
      clear hr
      go_wp2
      have RR' := Aside0.mk (blk_far (blk_far RR.out (p := ⟨w2.heap.size, 2, none⟩) (by show ¬ w.heap.size + 1 = w2.heap.size; omega) (.int .u64 0)) (p := ⟨w2.heap.size, 4, none⟩) (by show ¬ w.heap.size + 1 = w2.heap.size; omega) (.int .u64 0))
      have hr := blk_set (blk_set (blk_set (blk_set (blk_set RR'.out 0 (.int .i64 (1))) 1 (.int .u64 (andM b0 18446744073709551614))) 2 (.int .u64 (0))) 3 (.int .u64 (andM s0 18446744073709551615))) 4 (.int .u64 (0))
      refine bodyPost_ret (results_cell_row rfl _ _ (w.heap.size + 1) 29 #[.int .i64 (1), .int .u64 (andM b0 18446744073709551614), .int .u64 (0), .int .u64 (andM s0 18446744073709551615), .int .u64 (0)] (0, 0) _ rfl hr Tryd.underlying29 rfl (by kernel_rfl)) rfl ⟨rfl, ?_⟩
      have hbb : Below w.heap.size w ((wr.setCell ⟨w2.heap.size, 2, none⟩ (.int .u64 0)).setCell ⟨w2.heap.size, 4, none⟩ (.int .u64 0)) := Below.setCell (p := ⟨w2.heap.size, 4, none⟩) (Below.setCell (p := ⟨w2.heap.size, 2, none⟩) (HB4.out.trans (HBR.out.mono (by omega))) (by show w.heap.size ≤ w2.heap.size; omega) _) (by show w.heap.size ≤ w2.heap.size; omega) _
      exact Below.setCell (p := ⟨w.heap.size + 1, 4, none⟩) (Below.setCell (p := ⟨w.heap.size + 1, 3, none⟩) (Below.setCell (p := ⟨w.heap.size + 1, 2, none⟩) (Below.setCell (p := ⟨w.heap.size + 1, 1, none⟩) (Below.setCell (p := ⟨w.heap.size + 1, 0, none⟩) hbb (Nat.le_succ _) _) (Nat.le_succ _) _) (Nat.le_succ _) _) (Nat.le_succ _) _) (Nat.le_succ _) _
def latT (l : Int) : Int := 1 + l % 256 % 3
def maskT (t : Int) : Int := if t = 1 then 18446744073709551615 else if t = 2 then 15 else 8191
def bornT (t : Int) : Int := if t = 1 then 18446744073709551614 else if t = 2 then 14 else 8190
def XSome5.f (l b0 b1 s0 s1 : Int) : Option (Int × Int × Int × Int × Int) := some (latT l, andM b0 (bornT (latT l)), if latT l = 1 then 0 else andM b1 (bornT (latT l)), andM s0 (maskT (latT l)), if latT l = 1 then 0 else andM s1 (maskT (latT l)))
theorem XSome5.calls (a0_0 : Int) (a0_1 : Int) (a0_2 : Int) (a0_3 : Int) (a0_4 : Int) (r1 : Int) (r2 : Int) (r3 : Int) (r4 : Int) (r5 : Int) (w : World) (h : XSome5.f a0_0 a0_1 a0_2 a0_3 a0_4 = some (r1, r2, r3, r4, r5)) :
    Calls Tryd.prog 14 #[.agg #[.int .i64 a0_0, .int .u64 a0_1, .int .u64 a0_2, .int .u64 a0_3, .int .u64 a0_4]] w fun e w' => e = .returned (.agg #[.int .i64 r1, .int .u64 r2, .int .u64 r3, .int .u64 r4, .int .u64 r5]) ∧ Below w.heap.size w w' := by
  simp only [XSome5.f, Option.some.injEq, Prod.mk.injEq] at h
  obtain ⟨rfl, rfl, rfl, rfl, rfl⟩ := h
  have hc : a0_0 % 256 % 3 = 0 ∨ a0_0 % 256 % 3 = 1 ∨ a0_0 % 256 % 3 = 2 := by omega
  rcases hc with hc | hc | hc
  · have e : latT a0_0 = 1 := by unfold latT; omega
    rw [e]
    exact some5_1 _ _ _ _ _ w hc
  · have e : latT a0_0 = 2 := by unfold latT; omega
    rw [e]
    exact some5_2 _ _ _ _ _ w hc
  · have e : latT a0_0 = 3 := by unfold latT; omega
    rw [e]
    exact some5_3 _ _ _ _ _ w hc
end Go.Proofs.YtaeenefdbahfoaaDoor
