/- Parts of the proof of LeafAgain, merged out of our texts by wip/tools/pack.py. -/
import Derived.Test.YtieekbdododkkaaDoorKLeafAgain1
import Derived.Test.YtieekbdododkkaaDoorKLeafAgain2
import Derived.Test.YtieekbdododkkaaDoorKLeafAgain0
import Derived.BigRegion
import Derived.Deep.RegionLaw
namespace Go.Proofs.YtieekbdododkkaaDoor
set_option linter.unusedSimpArgs false
set_option linter.unusedVariables false
set_option maxRecDepth 100000
set_option maxHeartbeats 16000000
open Go.RowKit Go.Proofs.YtieekbdododkkaaDoorW.PrintWords Go.Proofs.YtieekbdododkkaaDoorW.PrintLast Go.Proofs.YtieekbdododkkaaDoorW.PrintMore
namespace H
attribute [local go_sem] max2_int min2_int max_two min_two max_three min_three max_four min_four
def table_most.f (a0 : Int) : Option (Int) := if a0 = 1 then (some 63) else (if a0 = 2 then (some 3) else (some 12))
theorem table_most.calls (a0 : Int) (r : Int) (w : World) (h : table_most.f a0 = some r) :
  Calls Tryd.prog 62 #[.int .i64 a0] w fun e w' => e = .returned (.int .i64 r) ∧ Drawn0 w w' := by
 have H : (if a0 = 1 then (some 63) else (if a0 = 2 then (some 3) else (some 12))) = some r := h
 clear h
 by_cases c2 : a0 = 1
 ·
  rw [if_pos c2] at H
  have c2b0 : (a0 == 1) = true := beq_iff_eq.mpr c2
  have c2b1 : (a0 != 1) = false := bne_eq_false_iff_eq.mpr c2
  clear c2
  obtain rfl := Option.some.inj H
  go_enter Tryd.func62, Tryd.ntmps62
  go_wp2
  go_ret
  exact ⟨by first | rfl | (simp; done) | (simp [*]; done), by repeat (first | exact Drawn0.refl _ | apply Drawn0.step)⟩
 ·
  rw [if_neg c2] at H
  have c2b0 : (a0 == 1) = false := beq_eq_false_iff_ne.mpr c2
  have c2b1 : (a0 != 1) = true := bne_iff_ne.mpr c2
  by_cases c3 : a0 = 2
  ·
   rw [if_pos c3] at H
   have c3b0 : (a0 == 2) = true := beq_iff_eq.mpr c3
   have c3b1 : (a0 != 2) = false := bne_eq_false_iff_eq.mpr c3
   clear c3
   obtain rfl := Option.some.inj H
   go_enter Tryd.func62, Tryd.ntmps62
   go_wp2
   go_ret
   exact ⟨by first | rfl | (simp; done) | (simp [*]; done), by repeat (first | exact Drawn0.refl _ | apply Drawn0.step)⟩
  ·
   rw [if_neg c3] at H
   have c3b0 : (a0 == 2) = false := beq_eq_false_iff_ne.mpr c3
   have c3b1 : (a0 != 2) = true := bne_iff_ne.mpr c3
   obtain rfl := Option.some.inj H
   go_enter Tryd.func62, Tryd.ntmps62
   go_wp2
   go_ret
   exact ⟨by first | rfl | (simp; done) | (simp [*]; done), by repeat (first | exact Drawn0.refl _ | apply Drawn0.step)⟩
def honeycomblaw05_Own.f (a0_0 : Int) (a0_1 : Int) (a0_2 : Int) (a0_3 : Int) (a0_4 : Int) : Option (Int × Int × Int × Int × Int) := some (a0_0, a0_1, a0_2, a0_3, a0_4)
theorem honeycomblaw05_Own.calls (a0_0 : Int) (a0_1 : Int) (a0_2 : Int) (a0_3 : Int) (a0_4 : Int) (r1 : Int) (r2 : Int) (r3 : Int) (r4 : Int) (r5 : Int) (w : World) (h : honeycomblaw05_Own.f a0_0 a0_1 a0_2 a0_3 a0_4 = some (r1, r2, r3, r4, r5)) :
  Calls Tryd.prog 36 #[.agg #[.int .i64 a0_0, .int .u64 a0_1, .int .u64 a0_2, .int .u64 a0_3, .int .u64 a0_4]] w fun e w' => e = .returned (.agg #[.int .i64 r1, .int .u64 r2, .int .u64 r3, .int .u64 r4, .int .u64 r5]) ∧ Below w.heap.size w w' := by
 have hu25 := Tryd.underlying25
 have hu32 := Tryd.underlying32
 have hu23 := Tryd.underlying23
 have HB := Aside0.mk (Below.refl w.heap.size w)
 have H : (some (a0_0, a0_1, a0_2, a0_3, a0_4)) = some (r1, r2, r3, r4, r5) := h
 clear h
 simp only [Option.some.injEq, Prod.mk.injEq] at H
 obtain ⟨rfl, rfl, rfl, rfl, rfl⟩ := H
 go_enter Tryd.func36, Tryd.ntmps36
 go_wp2_with (first | ((with_reducible refine gate_dst (N := 1) rfl ?_); refine box_event ?hg (N := 1) ?hd (cs := #[.int .i64 a0_0, .int .u64 a0_1, .int .u64 a0_2, .int .u64 a0_3, .int .u64 a0_4]) (t := 25) ?hr ?_; (case hd => rfl); (case hg => rfl); (case hr => first | (go_simp; done) | (go_simp; rfl)); intro gb228 hg w2 hbox hb; have n0_ := Aside0.mk (below_step (by repeat (first | (with_reducible first | exact HB.out | apply ba_ | apply bn_ | apply bd_) | exact HB.out)) hb); have n1_ := Aside0.mk (hbox); have n2_ := Aside0.mk ((by rw [hg]; exact (below_size (by repeat (first | (with_reducible first | exact HB.out | apply ba_ | apply bn_ | apply bd_) | exact HB.out))) : w.heap.size ≤ gb228)); have n3_ := Aside0.mk ((by rw [hg]; exact (below_size (by repeat (first | (with_reducible first | exact HB.out | apply ba_ | apply bn_ | apply bd_) | exact HB.out))) : w.heap.size ≤ gb228)); clear HB; have HB := n0_; have BK228 := n1_; have GW228 := n2_; have GE228 := n3_; clear n0_ n1_ n2_ n3_; clear hb hbox hg) | ((with_reducible refine gate_dst (N := 2) rfl ?_); refine box_event ?hg (N := 2) ?hd (cs := #[.int .i64 0, .int .u64 0, .int .u64 0, .int .u64 0, .int .u64 0]) (t := 32) ?hr ?_; (case hd => rfl); (case hg => rfl); (case hr => first | (go_simp; done) | (go_simp; rfl)); intro gb229 hg w3 hbox hb; have n0_ := Aside0.mk (blk_below (g := gb228) (o := .cells #[.int .i64 a0_0, .int .u64 a0_1, .int .u64 a0_2, .int .u64 a0_3, .int .u64 a0_4] 25 (0, 0)) (by (with_reducible repeat (first | apply bN_ | apply bD_ | apply bA_)); exact BK228.out) hb); have n1_ := Aside0.mk (below_step (by repeat (first | (with_reducible first | exact HB.out | apply ba_ | apply bn_ | apply bd_ | refine below_set ?_ GE228.out) | exact HB.out)) hb); have n2_ := Aside0.mk (hbox); have n3_ := Aside0.mk ((by rw [hg]; exact (below_size (by repeat (first | (with_reducible first | exact HB.out | apply ba_ | apply bn_ | apply bd_ | refine below_set ?_ GE228.out) | exact HB.out))) : w.heap.size ≤ gb229)); have n4_ := Aside0.mk ((by rw [hg]; exact (below_size (by repeat (first | (with_reducible first | exact HB.out | apply ba_ | apply bn_ | apply bd_ | refine below_set ?_ GE228.out) | exact HB.out))) : w.heap.size ≤ gb229)); have n5_ := Aside0.mk ((by rw [hg]; exact Nat.ne_of_lt (blk_lt (g := gb228) (o := .cells #[.int .i64 a0_0, .int .u64 a0_1, .int .u64 a0_2, .int .u64 a0_3, .int .u64 a0_4] 25 (0, 0)) (by (with_reducible repeat (first | apply bN_ | apply bD_ | apply bA_)); exact BK228.out)) : gb228 ≠ gb229)); have n6_ := Aside0.mk ((by rw [hg]; exact Nat.ne_of_gt (blk_lt (g := gb228) (o := .cells #[.int .i64 a0_0, .int .u64 a0_1, .int .u64 a0_2, .int .u64 a0_3, .int .u64 a0_4] 25 (0, 0)) (by (with_reducible repeat (first | apply bN_ | apply bD_ | apply bA_)); exact BK228.out)) : gb229 ≠ gb228)); clear BK228; clear HB; have BK228 := n0_; have HB := n1_; have BK229 := n2_; have GW229 := n3_; have GE229 := n4_; have NB228_229 := n5_; have NB229_228 := n6_; clear n0_ n1_ n2_ n3_ n4_ n5_ n6_; clear hb hbox hg; have hnb4 := NB228_229.out; have hnc4 := NB229_228.out; have hcz5_0 : w3.cell? ⟨gb228, 0, none⟩ = some (.int .i64 a0_0) := (blk_cell BK228.out 0).trans rfl; have hcz5_1 : w3.cell? ⟨gb228, 1, none⟩ = some (.int .u64 a0_1) := (blk_cell BK228.out 1).trans rfl; have hcz5_2 : w3.cell? ⟨gb228, 2, none⟩ = some (.int .u64 a0_2) := (blk_cell BK228.out 2).trans rfl; have hcz5_3 : w3.cell? ⟨gb228, 3, none⟩ = some (.int .u64 a0_3) := (blk_cell BK228.out 3).trans rfl; have hcz5_4 : w3.cell? ⟨gb228, 4, none⟩ = some (.int .u64 a0_4) := (blk_cell BK228.out 4).trans rfl; have hfz5_0 := blk_frozen BK228.out 0; have hfz5_1 := blk_frozen BK228.out 1; have hfz5_2 := blk_frozen BK228.out 2; have hfz5_3 := blk_frozen BK228.out 3; have hfz5_4 := blk_frozen BK228.out 4; have hcz6_0 : w3.cell? ⟨gb229, 0, none⟩ = some (.int .i64 0) := (blk_cell BK229.out 0).trans rfl; have hcz6_1 : w3.cell? ⟨gb229, 1, none⟩ = some (.int .u64 0) := (blk_cell BK229.out 1).trans rfl; have hcz6_2 : w3.cell? ⟨gb229, 2, none⟩ = some (.int .u64 0) := (blk_cell BK229.out 2).trans rfl; have hcz6_3 : w3.cell? ⟨gb229, 3, none⟩ = some (.int .u64 0) := (blk_cell BK229.out 3).trans rfl; have hcz6_4 : w3.cell? ⟨gb229, 4, none⟩ = some (.int .u64 0) := (blk_cell BK229.out 4).trans rfl; have hfz6_0 := blk_frozen BK229.out 0; have hfz6_1 := blk_frozen BK229.out 1; have hfz6_2 := blk_frozen BK229.out 2; have hfz6_3 := blk_frozen BK229.out 3; have hfz6_4 := blk_frozen BK229.out 4))
 refine bodyPost_ret (results_cell_row rfl _ _ gb229 32 #[.int .i64 a0_0, .int .u64 a0_1, .int .u64 a0_2, .int .u64 a0_3, .int .u64 a0_4] (0, 0) _ rfl (by (with_reducible repeat (first | apply bN_ | apply bD_ | apply bA_)); refine blk_put (cs := #[.int .i64 a0_0, .int .u64 a0_1, .int .u64 a0_2, .int .u64 a0_3, .int .u64 0]) ?_ 4 _ rfl; (with_reducible repeat (first | apply bN_ | apply bD_ | apply bA_)); refine blk_put (cs := #[.int .i64 a0_0, .int .u64 a0_1, .int .u64 a0_2, .int .u64 0, .int .u64 0]) ?_ 3 _ rfl; (with_reducible repeat (first | apply bN_ | apply bD_ | apply bA_)); refine blk_put (cs := #[.int .i64 a0_0, .int .u64 a0_1, .int .u64 0, .int .u64 0, .int .u64 0]) ?_ 2 _ rfl; (with_reducible repeat (first | apply bN_ | apply bD_ | apply bA_)); refine blk_put (cs := #[.int .i64 a0_0, .int .u64 0, .int .u64 0, .int .u64 0, .int .u64 0]) ?_ 1 _ rfl; (with_reducible repeat (first | apply bN_ | apply bD_ | apply bA_)); refine blk_put (cs := #[.int .i64 0, .int .u64 0, .int .u64 0, .int .u64 0, .int .u64 0]) ?_ 0 _ rfl; (with_reducible repeat (first | apply bN_ | apply bD_ | apply bA_)); exact BK229.out) Tryd.underlying32 rfl (by kernel_rfl)) rfl ?_
 exact ⟨by first | rfl | (simp [errW_none, errW_some] <;> rfl) | (simp [*, errW_none, errW_some] <;> rfl), by repeat (first | (with_reducible first | exact HB.out | apply ba_ | apply bn_ | apply bd_ | refine below_set ?_ GE228.out | refine below_set ?_ GE229.out) | exact HB.out)⟩
end H
open H
theorem tgood (l : Int) (w : World) : Calls Tryd.prog 61 #[.int .i64 l] w fun e w' => e = .returned (.bool (decide (1 ≤ l ∧ l ≤ 3))) ∧ Below w.heap.size w w' :=
  (lgood_any l w).mono fun _ _ h => ⟨h.1, h.2 ▸ Below.refl _ _⟩
theorem thalves (l : Int) (w : World) : Calls Tryd.prog 49 #[.int .i64 l] w fun e w' => e = .returned (.int .i64 (halvesR l)) ∧ Below w.heap.size w w' :=
  (halves_any l w).mono fun _ _ h => ⟨h.1, h.2 ▸ Below.refl _ _⟩
theorem tmost (l m : Int) (h : table_most.f l = some m) (w : World) : Calls Tryd.prog 62 #[.int .i64 l] w fun e w' => e = .returned (.int .i64 m) ∧ Below w.heap.size w w' :=
  (table_most.calls l m w h).mono fun _ _ h => ⟨h.1, h.2.below⟩
theorem tcheck_bad (l b0 b1 s0 s1 : Int) (w : World) (hl : ¬ (1 ≤ l ∧ l ≤ 3)) :
    Calls Tryd.prog 42 #[.agg #[.int .i64 l, .int .u64 b0, .int .u64 b1, .int .u64 s0, .int .u64 s1]] w fun e w' => e = .returned (errW (some 11)) ∧ Below w.heap.size w w' := by
  have hg := fun W => tgood l W
  rw [decide_eq_false hl] at hg
  go_enter Tryd.func42, Tryd.ntmps42
  go_wp2_with fail
  obtain ⟨w1, hw1, hcc, hsz, hB1⟩ := one_new w #[.int .i64 l, .int .u64 b0, .int .u64 b1, .int .u64 s0, .int .u64 s1] 32
  rw [← hw1]
  have HB1 := Aside0.mk hB1
  clear hw1 hcc
  refine (hg _).mono ?_
  rintro e w2 ⟨rfl, hb⟩
  have HB := Aside0.mk (HB1.out.trans (hb.mono (by omega)))
  clear hb hB1
  go_wp2
  go_ret
  exact ⟨rfl, HB.out⟩
def badH (b s out : Int) : Bool := (Go.bits .and .u64 b (Go.bits .or .u64 out 1) != 0) || (Go.bits .and .u64 s out != 0)
theorem tcheck_1 (b0 b1 s0 s1 : Int) (w : World) (X : Option Int) (hX : X = if (badH b0 s0 0 || badH b1 s1 18446744073709551615) = true then some 5 else none) :
    Calls Tryd.prog 42 #[.agg #[.int .i64 1, .int .u64 b0, .int .u64 b1, .int .u64 s0, .int .u64 s1]] w fun e w' => e = .returned (errW X) ∧ Below w.heap.size w w' := by
  have HX := Aside0.mk hX
  clear hX
  have hg := fun W => tgood 1 W
  have hm := fun W => tmost 1 63 rfl W
  have hh := fun W => thalves 1 W
  rw [decide_eq_true (by decide)] at hg
  rw [show halvesR 1 = 1 from rfl] at hh
  go_enter Tryd.func42, Tryd.ntmps42
  go_wp2_with fail
  obtain ⟨w1, hw1, hcc, hsz, hB1⟩ := one_new w #[.int .i64 1, .int .u64 b0, .int .u64 b1, .int .u64 s0, .int .u64 s1] 32
  rw [← hw1]
  have y0 : w1.cell? ⟨w.heap.size, 0, none⟩ = some (.int .i64 1) := hcc 0 _ rfl
  have y1 : w1.cell? ⟨w.heap.size, 1, none⟩ = some (.int .u64 b0) := hcc 1 _ rfl
  have y2 : w1.cell? ⟨w.heap.size, 2, none⟩ = some (.int .u64 b1) := hcc 2 _ rfl
  have y3 : w1.cell? ⟨w.heap.size, 3, none⟩ = some (.int .u64 s0) := hcc 3 _ rfl
  have y4 : w1.cell? ⟨w.heap.size, 4, none⟩ = some (.int .u64 s1) := hcc 4 _ rfl
  have HB1 := Aside0.mk hB1
  clear hw1 hcc hB1
  refine (hg _).mono ?_
  rintro e w2 ⟨rfl, hb⟩
  have y0 := pw_cell_below hb y0
  have y1 := pw_cell_below hb y1
  have y2 := pw_cell_below hb y2
  have y3 := pw_cell_below hb y3
  have y4 := pw_cell_below hb y4
  have HB := Aside0.mk (HB1.out.trans (hb.mono (by omega)))
  clear hb
  go_wp2_with fail
  refine (hm _).mono ?_
  rintro e w3 ⟨rfl, hb⟩
  have y0 := pw_cell_below hb y0
  have y1 := pw_cell_below hb y1
  have y2 := pw_cell_below hb y2
  have y3 := pw_cell_below hb y3
  have y4 := pw_cell_below hb y4
  have hz3 := hb.size
  have HB := Aside0.mk (HB.out.trans (hb.mono (by have := HB.out.size; omega)))
  clear hb
  go_wp2_with fail
  have Y0 := Aside0.mk y0
  have Y1 := Aside0.mk y1
  have Y2 := Aside0.mk y2
  have Y3 := Aside0.mk y3
  have Y4 := Aside0.mk y4
  clear y0 y1 y2 y3 y4
  have hzw := HB.out.size
  go_loopw [20] (fun i wr => ∃ j : Nat, j ≤ 2 ∧ i = .int .i64 j ∧ (0 < j → badH b0 s0 0 = false) ∧ (1 < j → badH b1 s1 18446744073709551615 = false) ∧ Below w3.heap.size w3 wr) (fun i _ => 2 - (intOf i).toNat)
  case atStart => exact ⟨0, by omega, rfl, fun h => absurd h (by omega), fun h => absurd h (by omega), Below.refl _ _⟩
  case round =>
    obtain ⟨j, hj, rfl, g0, g1, hb⟩ := hrel
    have G0 := Aside0.mk g0
    have G1 := Aside0.mk g1
    clear g0 g1
    have y0 := pw_cell_below hb Y0.out
    have y1 := pw_cell_below hb Y1.out
    have y2 := pw_cell_below hb Y2.out
    have y3 := pw_cell_below hb Y3.out
    have y4 := pw_cell_below hb Y4.out
    have HBR := Aside0.mk hb
    clear hb
    have hjj : j = 0 ∨ j = 1 ∨ j = 2 := by omega
    rcases hjj with rfl | rfl | rfl
    · go_wp2_with fail
      refine (hh _).mono ?_
      rintro e w4 ⟨rfl, hb⟩
      have z0 := pw_cell_below hb y0
      have z1 := pw_cell_below hb y1
      have z2 := pw_cell_below hb y2
      have z3 := pw_cell_below hb y3
      have z4 := pw_cell_below hb y4
      have hzr := HBR.out.size
      have HB4 := Aside0.mk (HBR.out.trans (hb.mono (by omega)))
      clear y0 y1 y2 y3 y4 hb
      go_wp2_with fail
      all_goals first
        | (go_roundw; (case rel => exact ⟨1, by omega, by first | rfl | go_num, fun _ => by simp [badH, *], fun h => absurd h (by omega), HB4.out⟩); (case measure => simp [intOf]))
        | (go_ret; refine ⟨?_, HB.out.trans (HB4.out.mono (by omega))⟩; rw [HX.out]; simp [badH, errW, *])
    · go_wp2_with fail
      refine (hh _).mono ?_
      rintro e w4 ⟨rfl, hb⟩
      have z0 := pw_cell_below hb y0
      have z1 := pw_cell_below hb y1
      have z2 := pw_cell_below hb y2
      have z3 := pw_cell_below hb y3
      have z4 := pw_cell_below hb y4
      have hzr := HBR.out.size
      have HB4 := Aside0.mk (HBR.out.trans (hb.mono (by omega)))
      clear y0 y1 y2 y3 y4 hb
      go_wp2_with fail
      all_goals first
        | (go_roundw; (case rel => exact ⟨2, by omega, by first | rfl | go_num, fun _ => G0.out (by omega), fun _ => by simp [badH, *], HB4.out⟩); (case measure => simp [intOf]))
        | (go_ret; refine ⟨?_, HB.out.trans (HB4.out.mono (by omega))⟩; rw [HX.out]; simp [badH, errW, *])
    · have r0 := G0.out (by omega)
      have r1 := G1.out (by omega)
      have hX : X = none := by rw [HX.out, r0, r1]; rfl
      subst hX
      clear y0 y1 y2 y3 y4
      go_wp2
      go_ret
      exact ⟨rfl, HB.out.trans (HBR.out.mono (by have := HB.out.size; omega))⟩
theorem tcheck_2 (b0 b1 s0 s1 : Int) (w : World) (X : Option Int) (hX : X = if (badH b0 s0 18446744073709551600 || badH b1 s1 18446744073709551600) = true then some 5 else none) :
    Calls Tryd.prog 42 #[.agg #[.int .i64 2, .int .u64 b0, .int .u64 b1, .int .u64 s0, .int .u64 s1]] w fun e w' => e = .returned (errW X) ∧ Below w.heap.size w w' := by
  have hwr : IntKind.u64.wrap 295147905179352825840 = 18446744073709551600 := by decide
  have HX := Aside0.mk hX
  clear hX
  have hg := fun W => tgood 2 W
  have hm := fun W => tmost 2 3 rfl W
  have hh := fun W => thalves 2 W
  rw [decide_eq_true (by decide)] at hg
  rw [show halvesR 2 = 2 from rfl] at hh
  go_enter Tryd.func42, Tryd.ntmps42
  go_wp2_with fail
  obtain ⟨w1, hw1, hcc, hsz, hB1⟩ := one_new w #[.int .i64 2, .int .u64 b0, .int .u64 b1, .int .u64 s0, .int .u64 s1] 32
  rw [← hw1]
  have y0 : w1.cell? ⟨w.heap.size, 0, none⟩ = some (.int .i64 2) := hcc 0 _ rfl
  have y1 : w1.cell? ⟨w.heap.size, 1, none⟩ = some (.int .u64 b0) := hcc 1 _ rfl
  have y2 : w1.cell? ⟨w.heap.size, 2, none⟩ = some (.int .u64 b1) := hcc 2 _ rfl
  have y3 : w1.cell? ⟨w.heap.size, 3, none⟩ = some (.int .u64 s0) := hcc 3 _ rfl
  have y4 : w1.cell? ⟨w.heap.size, 4, none⟩ = some (.int .u64 s1) := hcc 4 _ rfl
  have HB1 := Aside0.mk hB1
  clear hw1 hcc hB1
  refine (hg _).mono ?_
  rintro e w2 ⟨rfl, hb⟩
  have y0 := pw_cell_below hb y0
  have y1 := pw_cell_below hb y1
  have y2 := pw_cell_below hb y2
  have y3 := pw_cell_below hb y3
  have y4 := pw_cell_below hb y4
  have HB := Aside0.mk (HB1.out.trans (hb.mono (by omega)))
  clear hb
  go_wp2_with fail
  refine (hm _).mono ?_
  rintro e w3 ⟨rfl, hb⟩
  have y0 := pw_cell_below hb y0
  have y1 := pw_cell_below hb y1
  have y2 := pw_cell_below hb y2
  have y3 := pw_cell_below hb y3
  have y4 := pw_cell_below hb y4
  have hz3 := hb.size
  have HB := Aside0.mk (HB.out.trans (hb.mono (by have := HB.out.size; omega)))
  clear hb
  go_wp2_with fail
  have Y0 := Aside0.mk y0
  have Y1 := Aside0.mk y1
  have Y2 := Aside0.mk y2
  have Y3 := Aside0.mk y3
  have Y4 := Aside0.mk y4
  clear y0 y1 y2 y3 y4
  have hzw := HB.out.size
  go_loopw [20] (fun i wr => ∃ j : Nat, j ≤ 2 ∧ i = .int .i64 j ∧ (0 < j → badH b0 s0 18446744073709551600 = false) ∧ (1 < j → badH b1 s1 18446744073709551600 = false) ∧ Below w3.heap.size w3 wr) (fun i _ => 2 - (intOf i).toNat)
  case atStart => exact ⟨0, by omega, rfl, fun h => absurd h (by omega), fun h => absurd h (by omega), Below.refl _ _⟩
  case round =>
    obtain ⟨j, hj, rfl, g0, g1, hb⟩ := hrel
    have G0 := Aside0.mk g0
    have G1 := Aside0.mk g1
    clear g0 g1
    have y0 := pw_cell_below hb Y0.out
    have y1 := pw_cell_below hb Y1.out
    have y2 := pw_cell_below hb Y2.out
    have y3 := pw_cell_below hb Y3.out
    have y4 := pw_cell_below hb Y4.out
    have HBR := Aside0.mk hb
    clear hb
    have hjj : j = 0 ∨ j = 1 ∨ j = 2 := by omega
    rcases hjj with rfl | rfl | rfl
    · go_wp2_with fail
      refine (hh _).mono ?_
      rintro e w4 ⟨rfl, hb⟩
      have z0 := pw_cell_below hb y0
      have z1 := pw_cell_below hb y1
      have z2 := pw_cell_below hb y2
      have z3 := pw_cell_below hb y3
      have z4 := pw_cell_below hb y4
      have hzr := HBR.out.size
      have HB4 := Aside0.mk (HBR.out.trans (hb.mono (by omega)))
      clear y0 y1 y2 y3 y4 hb
      go_wp2_with fail
      all_goals first
        | (go_roundw; (case rel => exact ⟨1, by omega, by first | rfl | go_num, fun _ => by simp [badH, *], fun h => absurd h (by omega), HB4.out⟩); (case measure => simp [intOf]))
        | (go_ret; refine ⟨?_, HB.out.trans (HB4.out.mono (by omega))⟩; rw [HX.out]; simp [badH, errW, *])
    · go_wp2_with fail
      refine (hh _).mono ?_
      rintro e w4 ⟨rfl, hb⟩
      have z0 := pw_cell_below hb y0
      have z1 := pw_cell_below hb y1
      have z2 := pw_cell_below hb y2
      have z3 := pw_cell_below hb y3
      have z4 := pw_cell_below hb y4
      have hzr := HBR.out.size
      have HB4 := Aside0.mk (HBR.out.trans (hb.mono (by omega)))
      clear y0 y1 y2 y3 y4 hb
      go_wp2_with fail
      all_goals first
        | (go_roundw; (case rel => exact ⟨2, by omega, by first | rfl | go_num, fun _ => G0.out (by omega), fun _ => by simp [badH, *], HB4.out⟩); (case measure => simp [intOf]))
        | (go_ret; refine ⟨?_, HB.out.trans (HB4.out.mono (by omega))⟩; rw [HX.out]; simp [badH, errW, *])
    · have r0 := G0.out (by omega)
      have r1 := G1.out (by omega)
      have hX : X = none := by rw [HX.out, r0, r1]; rfl
      subst hX
      clear y0 y1 y2 y3 y4
      go_wp2
      go_ret
      exact ⟨rfl, HB.out.trans (HBR.out.mono (by have := HB.out.size; omega))⟩
theorem tcheck_3 (b0 b1 s0 s1 : Int) (w : World) (X : Option Int) (hX : X = if (badH b0 s0 18446744073709543424 || badH b1 s1 18446744073709543424) = true then some 5 else none) :
    Calls Tryd.prog 42 #[.agg #[.int .i64 3, .int .u64 b0, .int .u64 b1, .int .u64 s0, .int .u64 s1]] w fun e w' => e = .returned (errW X) ∧ Below w.heap.size w w' := by
  have hwr : IntKind.u64.wrap 151115727451828646830080 = 18446744073709543424 := by decide
  have HX := Aside0.mk hX
  clear hX
  have hg := fun W => tgood 3 W
  have hm := fun W => tmost 3 12 rfl W
  have hh := fun W => thalves 3 W
  rw [decide_eq_true (by decide)] at hg
  rw [show halvesR 3 = 2 from rfl] at hh
  go_enter Tryd.func42, Tryd.ntmps42
  go_wp2_with fail
  obtain ⟨w1, hw1, hcc, hsz, hB1⟩ := one_new w #[.int .i64 3, .int .u64 b0, .int .u64 b1, .int .u64 s0, .int .u64 s1] 32
  rw [← hw1]
  have y0 : w1.cell? ⟨w.heap.size, 0, none⟩ = some (.int .i64 3) := hcc 0 _ rfl
  have y1 : w1.cell? ⟨w.heap.size, 1, none⟩ = some (.int .u64 b0) := hcc 1 _ rfl
  have y2 : w1.cell? ⟨w.heap.size, 2, none⟩ = some (.int .u64 b1) := hcc 2 _ rfl
  have y3 : w1.cell? ⟨w.heap.size, 3, none⟩ = some (.int .u64 s0) := hcc 3 _ rfl
  have y4 : w1.cell? ⟨w.heap.size, 4, none⟩ = some (.int .u64 s1) := hcc 4 _ rfl
  have HB1 := Aside0.mk hB1
  clear hw1 hcc hB1
  refine (hg _).mono ?_
  rintro e w2 ⟨rfl, hb⟩
  have y0 := pw_cell_below hb y0
  have y1 := pw_cell_below hb y1
  have y2 := pw_cell_below hb y2
  have y3 := pw_cell_below hb y3
  have y4 := pw_cell_below hb y4
  have HB := Aside0.mk (HB1.out.trans (hb.mono (by omega)))
  clear hb
  go_wp2_with fail
  refine (hm _).mono ?_
  rintro e w3 ⟨rfl, hb⟩
  have y0 := pw_cell_below hb y0
  have y1 := pw_cell_below hb y1
  have y2 := pw_cell_below hb y2
  have y3 := pw_cell_below hb y3
  have y4 := pw_cell_below hb y4
  have hz3 := hb.size
  have HB := Aside0.mk (HB.out.trans (hb.mono (by have := HB.out.size; omega)))
  clear hb
  go_wp2_with fail
  have Y0 := Aside0.mk y0
  have Y1 := Aside0.mk y1
  have Y2 := Aside0.mk y2
  have Y3 := Aside0.mk y3
  have Y4 := Aside0.mk y4
  clear y0 y1 y2 y3 y4
  have hzw := HB.out.size
  go_loopw [20] (fun i wr => ∃ j : Nat, j ≤ 2 ∧ i = .int .i64 j ∧ (0 < j → badH b0 s0 18446744073709543424 = false) ∧ (1 < j → badH b1 s1 18446744073709543424 = false) ∧ Below w3.heap.size w3 wr) (fun i _ => 2 - (intOf i).toNat)
  case atStart => exact ⟨0, by omega, rfl, fun h => absurd h (by omega), fun h => absurd h (by omega), Below.refl _ _⟩
  case round =>
    obtain ⟨j, hj, rfl, g0, g1, hb⟩ := hrel
    have G0 := Aside0.mk g0
    have G1 := Aside0.mk g1
    clear g0 g1
    have y0 := pw_cell_below hb Y0.out
    have y1 := pw_cell_below hb Y1.out
    have y2 := pw_cell_below hb Y2.out
    have y3 := pw_cell_below hb Y3.out
    have y4 := pw_cell_below hb Y4.out
    have HBR := Aside0.mk hb
    clear hb
    have hjj : j = 0 ∨ j = 1 ∨ j = 2 := by omega
    rcases hjj with rfl | rfl | rfl
    · go_wp2_with fail
      refine (hh _).mono ?_
      rintro e w4 ⟨rfl, hb⟩
      have z0 := pw_cell_below hb y0
      have z1 := pw_cell_below hb y1
      have z2 := pw_cell_below hb y2
      have z3 := pw_cell_below hb y3
      have z4 := pw_cell_below hb y4
      have hzr := HBR.out.size
      have HB4 := Aside0.mk (HBR.out.trans (hb.mono (by omega)))
      clear y0 y1 y2 y3 y4 hb
      go_wp2_with fail
      all_goals first
        | (go_roundw; (case rel => exact ⟨1, by omega, by first | rfl | go_num, fun _ => by simp [badH, *], fun h => absurd h (by omega), HB4.out⟩); (case measure => simp [intOf]))
        | (go_ret; refine ⟨?_, HB.out.trans (HB4.out.mono (by omega))⟩; rw [HX.out]; simp [badH, errW, *])
    · go_wp2_with fail
      refine (hh _).mono ?_
      rintro e w4 ⟨rfl, hb⟩
      have z0 := pw_cell_below hb y0
      have z1 := pw_cell_below hb y1
      have z2 := pw_cell_below hb y2
      have z3 := pw_cell_below hb y3
      have z4 := pw_cell_below hb y4
      have hzr := HBR.out.size
      have HB4 := Aside0.mk (HBR.out.trans (hb.mono (by omega)))
      clear y0 y1 y2 y3 y4 hb
      go_wp2_with fail
      all_goals first
        | (go_roundw; (case rel => exact ⟨2, by omega, by first | rfl | go_num, fun _ => G0.out (by omega), fun _ => by simp [badH, *], HB4.out⟩); (case measure => simp [intOf]))
        | (go_ret; refine ⟨?_, HB.out.trans (HB4.out.mono (by omega))⟩; rw [HX.out]; simp [badH, errW, *])
    · have r0 := G0.out (by omega)
      have r1 := G1.out (by omega)
      have hX : X = none := by rw [HX.out, r0, r1]; rfl
      subst hX
      clear y0 y1 y2 y3 y4
      go_wp2
      go_ret
      exact ⟨rfl, HB.out.trans (HBR.out.mono (by have := HB.out.size; omega))⟩
/-- what may be of a table, beyond its lattice -/
def restT (l : Int) : Int := if l = 1 then 0 else if l = 2 then 18446744073709551600 else 18446744073709543424
def outT (l : Int) : Int := if l = 1 then 18446744073709551615 else restT l
def checkT (l b0 b1 s0 s1 : Int) : Option Int := if 1 ≤ l ∧ l ≤ 3 then (if (badH b0 s0 (restT l) || badH b1 s1 (outT l)) = true then some 5 else none) else some 11
def XTCheck.f (l b0 b1 s0 s1 : Int) : Option (Option Int) := some (checkT l b0 b1 s0 s1)
theorem XTCheck.calls (a0_0 : Int) (a0_1 : Int) (a0_2 : Int) (a0_3 : Int) (a0_4 : Int) (r : Option Int) (w : World) (h : XTCheck.f a0_0 a0_1 a0_2 a0_3 a0_4 = some r) :
    Calls Tryd.prog 42 #[.agg #[.int .i64 a0_0, .int .u64 a0_1, .int .u64 a0_2, .int .u64 a0_3, .int .u64 a0_4]] w fun e w' => e = .returned (errW r) ∧ Below w.heap.size w w' := by
  unfold XTCheck.f at h
  obtain rfl := Option.some.inj h
  unfold checkT
  by_cases hl : 1 ≤ a0_0 ∧ a0_0 ≤ 3
  · rw [if_pos hl]
    have hc : a0_0 = 1 ∨ a0_0 = 2 ∨ a0_0 = 3 := by omega
    rcases hc with rfl | rfl | rfl
    · exact tcheck_1 _ _ _ _ w _ rfl
    · exact tcheck_2 _ _ _ _ w _ rfl
    · exact tcheck_3 _ _ _ _ w _ rfl
  · rw [if_neg hl]
    exact tcheck_bad _ _ _ _ _ w hl
def XSix.f : Option (Int × Int × Int × Int × Int × Int × Int × Int × Int × Int × Int × Int) := some (1, 0, 0, 1, -1, 1, -1, 0, 0, -1, 1, -1)
theorem XSix.calls (r1 r2 r3 r4 r5 r6 r7 r8 r9 r10 r11 r12 : Int) (w : World) (hGSix : Six w) (h : XSix.f = some (r1, r2, r3, r4, r5, r6, r7, r8, r9, r10, r11, r12)) :
    Calls Tryd.prog 43 #[] w fun e w' => e = .returned (.agg #[.int .i64 r1, .int .i64 r2, .int .i64 r3, .int .i64 r4, .int .i64 r5, .int .i64 r6, .int .i64 r7, .int .i64 r8, .int .i64 r9, .int .i64 r10, .int .i64 r11, .int .i64 r12]) ∧ Below w.heap.size w w' := by
  simp only [XSix.f, Option.some.injEq, Prod.mk.injEq] at h
  obtain ⟨rfl, rfl, rfl, rfl, rfl, rfl, rfl, rfl, rfl, rfl, rfl, rfl⟩ := h
  exact six_any w hGSix
def kxA : Nat → Int
  | 0 => 1 | 1 => 0 | 2 => -1 | 3 => -1 | 4 => 0 | 5 => 1 | _ => 0
def kxB : Nat → Int
  | 0 => 0 | 1 => 1 | 2 => 1 | 3 => 0 | 4 => -1 | 5 => -1 | _ => 0
theorem kx_index (k : Nat) (hk : k < 6) : ∀ (w : World), (Instr.index 96 (.agg #[.int .i64 1, .int .i64 0, .int .i64 0, .int .i64 1, .int .i64 (-1), .int .i64 1, .int .i64 (-1), .int .i64 0, .int .i64 0, .int .i64 (-1), .int .i64 1, .int .i64 (-1)]) (.int .i64 k)).run Tryd.prog w = .ok (.agg #[.int .i64 (kxA k), .int .i64 (kxB k)]) w := by
  have : k = 0 ∨ k = 1 ∨ k = 2 ∨ k = 3 ∨ k = 4 ∨ k = 5 := by omega
  rcases this with rfl | rfl | rfl | rfl | rfl | rfl <;> exact fun w => by kernel_rfl
theorem nearK_hex (k : Nat) (hk : k < 6) : (nearK 1 0).take (k + 1) = (nearK 1 0).take k ++ [⟨kxA k, kxB k, 0, 2 ^ k⟩] := by
  have : k = 0 ∨ k = 1 ∨ k = 2 ∨ k = 3 ∨ k = 4 ∨ k = 5 := by omega
  rcases this with rfl | rfl | rfl | rfl | rfl | rfl <;> rfl
theorem take_map_snoc {α β : Type} (f : α → β) (L : List α) (k : Nat) (h : k < L.length) : (L.map f).take (k + 1) = (L.map f).take k ++ [f L[k]] := by
  rw [List.take_add_one, List.getElem?_eq_getElem (by simpa using h)]
  simp
theorem sh_00 (x : CL) : sh 0 0 x = x := by
  obtain ⟨⟨a, b⟩, h⟩ := x
  simp [sh]
theorem besid (l h : Int) (hl : l = 2 ∨ l = 3) (hh : h = 0 ∨ h = 1) : XBeside.f l 0 0 h = some ((offs l h).map (sh 0 0), none) := by
  rcases hl with rfl | rfl <;> rcases hh with rfl | rfl <;> decide
abbrev kerO (l b0 b1 s0 s1 : Int) (v0 v1 : Value) : Obj := .cells #[.int .i64 l, .int .u64 b0, .int .u64 b1, .int .u64 s0, .int .u64 s1, v0, v1] 95 (0, 0)
theorem bnew_hex (b0 b1 s0 s1 : Int) (w : World) (h : checkT 1 b0 b1 s0 s1 = none) (hG : Six w) :
    Calls Tryd.prog 11 #[.agg #[.int .i64 1, .int .u64 b0, .int .u64 b1, .int .u64 s0, .int .u64 s1]] w fun e w' => ∃ gk : Nat, e = .returned (.tuple #[.pointer (some ⟨gk, 0, none⟩), .nilIface]) ∧ KerAt w' gk 1 b0 b1 s0 s1 ∧ w.heap.size ≤ gk ∧ Below w.heap.size w w' := by
  have hc := fun W => XTCheck.calls 1 b0 b1 s0 s1 none W (by unfold XTCheck.f; rw [h])
  simp only [errW_none] at hc
  have HC := Aside0.mk hc
  have HG := Aside0.mk hG
  clear hc h hG
  have hsix := fun W hW => XSix.calls 1 0 0 1 (-1) 1 (-1) 0 0 (-1) 1 (-1) W hW rfl
  have HSIX := Aside0.mk hsix
  clear hsix
  go_enter Tryd.func11, Tryd.ntmps11
  go_wp2_with fail
  obtain ⟨w1, hw1⟩ : ∃ W, W = w.alloc (.cells #[.int .i64 1, .int .u64 b0, .int .u64 b1, .int .u64 s0, .int .u64 s1] 32 (0, 0)) := ⟨_, rfl⟩
  have bt : w1.heap[w.heap.size]? = some (.cells #[.int .i64 1, .int .u64 b0, .int .u64 b1, .int .u64 s0, .int .u64 s1] 32 (0, 0)) := by rw [hw1]; exact blk_new _ _
  have hB : Below w.heap.size w w1 := by rw [hw1]; exact (by with_reducible repeat (first | apply below_alloc | apply pw_below_drewN | apply below_drew | refine bset ?_ _ _ (by omega) _ | exact Below.refl _ _))
  rw [← hw1]
  obtain ⟨g1, hg1⟩ : ∃ g, g = w.heap.size := ⟨_, rfl⟩
  rw [← hg1] at bt ⊢
  have l1 : w.heap.size ≤ g1 := by omega
  clear hw1 hg1
  refine (HC.out _).mono ?_
  rintro e w2 ⟨rfl, hb⟩
  have bt2 := blk_below bt hb
  have hB2 := hB.trans (hb.mono hB.size)
  clear bt hB hb
  have t0 := blk_cell bt2 0
  have t1 := blk_cell bt2 1
  have t2 := blk_cell bt2 2
  have t3 := blk_cell bt2 3
  have t4 := blk_cell bt2 4
  simp only [List.getElem?_toArray, List.getElem?_cons_zero, List.getElem?_cons_succ] at t0 t1 t2 t3 t4
  go_upto_region 5 with (fail)
  obtain ⟨w3, hw3⟩ : ∃ W, W = w2.alloc (kerO 1 b0 b1 s0 s1 (.slice none 0 0) (.slice none 0 0)) := ⟨_, rfl⟩
  have bk3 : w3.heap[w2.heap.size]? = some (kerO 1 b0 b1 s0 s1 (.slice none 0 0) (.slice none 0 0)) := by rw [hw3]; exact blk_new _ _
  have bt3 : w3.heap[g1]? = some (.cells #[.int .i64 1, .int .u64 b0, .int .u64 b1, .int .u64 s0, .int .u64 s1] 32 (0, 0)) := by rw [hw3]; exact blk_alloc bt2 _
  have hB3 : Below w.heap.size w w3 := by rw [hw3]; exact below_alloc hB2 _
  have hz3 : w2.heap.size < w3.heap.size := by rw [hw3, World.size_alloc]; omega
  rw [← hw3]
  obtain ⟨g5, hg5⟩ : ∃ g, g = w2.heap.size := ⟨_, rfl⟩
  have l5 : w.heap.size ≤ g5 := by have := hB2.size; omega
  have n15 : g1 ≠ g5 := by have := blk_lt bt2; omega
  rw [← hg5] at bk3 hz3 ⊢
  clear t0 t1 t2 t3 t4 hw3 hg5 bt2 hB2
  have t0 := blk_cell bt3 0
  simp only [List.getElem?_toArray, List.getElem?_cons_zero, List.getElem?_cons_succ] at t0
  go_wp2_with fail
  refine (HSIX.out _ (HG.out.below hB3)).mono ?_
  rintro e w4 ⟨rfl, hb4⟩
  have bk4 := blk_below bk3 hb4
  have hB4 := hB3.trans (hb4.mono hB3.size)
  have hz4 := hb4.size
  clear t0 bk3 bt3 hB3 hb4
  go_wp2_with fail
  go_loopw [25] (fun kv wr => ∃ (k : Nat) (v : Value), k ≤ 6 ∧ kv = .int .i64 k ∧ wr.heap[g5]? = some (kerO 1 b0 b1 s0 s1 v (.slice none 0 0)) ∧ Kd.R k99 99 wr w.heap.size (fun k => k ≠ g5) v ((nearK 1 0).take k) ∧ Below w.heap.size w wr) (fun kv _ => 6 - (intOf kv).toNat)
  case atStart => exact ⟨0, _, by omega, rfl, bk4, Kd.R_nil _ _ _ _ _, hB4⟩
  case round =>
    obtain ⟨k, v, hk, rfl, bk, hR, hB⟩ := hrel
    have BK := Aside0.mk bk
    have RR := Aside0.mk hR
    have HB := Aside0.mk hB
    have hkl := blk_lt bk
    have hBz := hB.size
    clear bk4 hB4 hR hB
    by_cases hk6 : k < 6
    · have hix := kx_index k hk6
      have hnx := nearK_hex k hk6
      have HNX := Aside0.mk hnx
      have hlen : ((nearK 1 0).take k).length ≤ 6 := by rw [List.length_take]; exact Nat.min_le_right _ _
      have hwp : IntKind.i64.wrap (2 ^ k) = 2 ^ k := by
        have hkk : k = 0 ∨ k = 1 ∨ k = 2 ∨ k = 3 ∨ k = 4 ∨ k = 5 := by omega
        rcases hkk with rfl | rfl | rfl | rfl | rfl | rfl <;> decide
      have hsh : 0 ≤ (k : Int) ∧ (k : Int) ≤ 64 := by omega
      obtain ⟨hsh1, hsh2⟩ := hsh
      clear hnx bk
      go_upto_region 9 with (fail)
      obtain ⟨w5, hw5⟩ : ∃ W, W = wr.alloc (.cells #[.int .i64 (kxA k), .int .i64 (kxB k)] 45 (0, 0)) := ⟨_, rfl⟩
      have bp5 : w5.heap[wr.heap.size]? = some (.cells #[.int .i64 (kxA k), .int .i64 (kxB k)] 45 (0, 0)) := by rw [hw5]; exact blk_new _ _
      have hb5 : Below wr.heap.size wr w5 := by rw [hw5]; exact below_alloc (Below.refl _ _) _
      rw [← hw5]
      obtain ⟨g7, hg7⟩ : ∃ g, g = wr.heap.size := ⟨_, rfl⟩
      rw [← hg7] at bp5 ⊢
      have BK5 := Aside0.mk (blk_below BK.out hb5)
      have RR5 := Aside0.mk (Kd.R_below RR.out hb5)
      have HB5 := Aside0.mk (HB.out.trans (hb5.mono hBz))
      have hz5 : g5 < w5.drew.heap.size := by have := hb5.size; show g5 < w5.heap.size; omega
      have n5 := blk_cell (blk_drew BK5.out) 5
      have nf := blk_frozen (blk_drew BK5.out)
      have p0 := blk_cell (blk_drew bp5) 0
      have p1 := blk_cell (blk_drew bp5) 1
      simp only [List.getElem?_toArray, List.getElem?_cons_zero, List.getElem?_cons_succ] at n5 p0 p1
      have n5' := blk_cell BK5.out 5
      have n5'' := blk_cell (blk_alloc BK5.out (.cells #[.int .i64 (kxA k), .int .i64 (kxB k), .int .i64 0, .int .i64 (2 ^ k)] 99 (0, 0))) 5
      have p0' := blk_cell bp5 0
      have p1' := blk_cell bp5 1
      simp only [List.getElem?_toArray, List.getElem?_cons_zero, List.getElem?_cons_succ] at n5' n5'' p0' p1'
      clear hw5 hg7 hb5 BK RR HB bp5
      go_region_law (first
        | (refine Kd.R_append_step k99 (w0 := w) (W := w5.drew) w.heap.size rfl (.tmp 34) (.tmp 42) 92 99 (.agg #[.int .i64 0, .int .i64 0, .int .i64 0, .int .i64 0]) 32 rfl Tryd.underlying92 info99 rfl (by decide) (by decide) v ((nearK 1 0).take k) ⟨kxA k, kxB k, 0, 2 ^ k⟩ [.int .i64 (kxA k), .int .i64 (kxB k), .int .i64 0, .int .i64 (2 ^ k)] (fun k => k ≠ g5) (fun _ => False) rfl rfl (k99_mkM _ _ _ _) (fun _ h => h.elim) (fun j hj => by have := hz5; omega) (Kd.R_drew RR5.out) (below_drew HB5.out) (below_drew HB5.out).size (by omega) ?_
           intro v1 w6 hr6 hb6 hg6 hat6
           obtain ⟨A6, c6, e6, hl6, _⟩ := Kd.R_reads hr6
           generalize List.length _ = n6 at e6
           subst e6
           have bk6 := (hg6.block g5 hz5 (fun e => (RR5.out.1 g5 e.symm) rfl)).trans (blk_drew BK5.out)
           have m5 := blk_cell bk6 5
           have mf := blk_frozen bk6
           simp only [List.getElem?_toArray, List.getElem?_cons_zero, List.getElem?_cons_succ] at m5
           have BK6 := Aside0.mk bk6
           have RR6 := Aside0.mk hr6
           have HB6 := Aside0.mk hb6
           clear bk6 hr6 hb6 hg6 hat6))
      all_goals
        clear n5 n5' n5'' nf p0 p1 p0' p1' mf m5 hix hwp hsh1 hsh2
        go_wp2
        go_roundw
        case rel => exact ⟨k + 1, _, by omega, by go_num, blk_put BK6.out 5 _ rfl, by rw [HNX.out]; exact Kd.R_far RR6.out (p := ⟨g5, 5, none⟩) (fun _ h => h) _, Below.setCell (p := ⟨g5, 5, none⟩) HB6.out l5 _⟩
        case measure => simp [intOf]; omega
    · obtain rfl : k = 6 := by omega
      clear bk
      go_wp2
      go_ret2
      obtain ⟨A, c, rfl, hlc, hC⟩ := Kd.R_reads RR.out
      obtain ⟨A1, c1, e1, _, hC1⟩ := Kd.R_reads (Kd.R_nil k99 99 wr 0 (fun _ => True))
      cases e1
      exact ⟨g5, rfl, ⟨A, c, none, 0, BK.out, hC, hC1⟩, l5, HB.out⟩
theorem ofG_bd (q0 q1 q2 q3 : Int) (h0 : 0 ≤ q0 ∧ q0 < 4294967296) (h1 : 0 ≤ q1 ∧ q1 < 4294967296) (h2 : 0 ≤ q2 ∧ q2 < 4294967296) (h3 : 0 ≤ q3 ∧ q3 < 4294967296) (k : Nat) : 0 ≤ ofG q0 q1 q2 q3 k ∧ ofG q0 q1 q2 q3 k < 65536 := by
  unfold ofG ofRow
  split <;> omega
abbrev S8 (gx : Nat) (W : World) : Prop := W.cell? ⟨gx, 0, none⟩ = some (.int .u16 1) ∧ W.cell? ⟨gx, 1, none⟩ = some (.int .u16 0) ∧ W.cell? ⟨gx, 2, none⟩ = some (.int .u16 0) ∧ W.cell? ⟨gx, 3, none⟩ = some (.int .u16 0) ∧ W.cell? ⟨gx, 4, none⟩ = some (.int .u16 0) ∧ W.cell? ⟨gx, 5, none⟩ = some (.int .u16 0) ∧ W.cell? ⟨gx, 6, none⟩ = some (.int .u16 0) ∧ W.cell? ⟨gx, 7, none⟩ = some (.int .u16 0)
abbrev oneO : Obj := .cells #[.int .u16 1, .int .u16 0, .int .u16 0, .int .u16 0, .int .u16 0, .int .u16 0, .int .u16 0, .int .u16 0] 52 (0, 0)
theorem S8.of {W : World} {gx : Nat} (h : W.heap[gx]? = some oneO) : S8 gx W := ⟨blk_cell h 0, blk_cell h 1, blk_cell h 2, blk_cell h 3, blk_cell h 4, blk_cell h 5, blk_cell h 6, blk_cell h 7⟩
section
open Go.ChangeMaps Go.MapKept Go.WideShapes
attribute [local go_sem] max2_int min2_int max_two min_two max_three min_three max_four min_four
/-- so many generations on -/
def genG (l b0 b1 s0 s1 : Int) : Nat → (Nat → Int) → Nat → Int
  | 0, g => g
  | n + 1, g => stepG l b0 b1 s0 s1 (genG l b0 b1 s0 s1 n g)
/-- the generations that count: none to two -/
def capN (n : Int) : Nat := if n ≤ 0 then 0 else if n = 1 then 1 else 2
/-- what comes of an ask: the leaf, what is known behind it, how many more were made -/
def askK (l b0 b1 s0 s1 most : Int) (L : Kn) (q0 q1 q2 q3 n : Int) : Int × Kn × Int :=
  if capN n = 0 ∨ noneQ q0 q1 q2 q3 = true then (midF (ofG q0 q1 q2 q3) 4, L, 0)
  else match getK L (q0, q1, q2, q3, (capN n : Int)) with
    | some v => (v, L, 0)
    | none => (midF (genG l b0 b1 s0 s1 (capN n) (ofG q0 q1 q2 q3)) 4, (if most ≤ (L.length : Int) then [] else L) ++ (if 0 < most then [((q0, q1, q2, q3, (capN n : Int)), midF (genG l b0 b1 s0 s1 (capN n) (ofG q0 q1 q2 q3)) 4)] else []), 1)
theorem genG_bd (l b0 b1 s0 s1 : Int) (g : Nat → Int) (hg : ∀ k, k < 8 → 0 ≤ g k ∧ g k < 65536) (n : Nat) : ∀ k, k < 8 → 0 ≤ genG l b0 b1 s0 s1 n g k ∧ genG l b0 b1 s0 s1 n g k < 65536 := by
  cases n with
  | zero => exact hg
  | succ n => intro k _; exact rowS_bd (bitQ l b0 b1 s0 s1 (genG l b0 b1 s0 s1 n g) k) 16
/-- what a call of the memo may have changed: the memo and its map alone -/
structure Fr (w w' : World) (gm mb : Nat) : Prop where
  size : w.heap.size ≤ w'.heap.size
  low : ∀ B, B ≤ gm → B ≤ mb → B ≤ w.heap.size → Below B w w'
  far : ∀ k, k < w.heap.size → k ≠ gm → k ≠ mb → w'.heap[k]? = w.heap[k]?
theorem Fr.of_below {w w' : World} {gm mb : Nat} (h : Below w.heap.size w w') : Fr w w' gm mb := ⟨h.size, fun B _ _ hB => h.mono hB, fun k hk _ _ => h.block k hk⟩
theorem Fr.trans {w w1 w2 : World} {gm mb : Nat} (h1 : Fr w w1 gm mb) (h2 : Fr w1 w2 gm mb) : Fr w w2 gm mb :=
  ⟨Nat.le_trans h1.size h2.size, fun B a b c => (h1.low B a b c).trans (h2.low B a b (Nat.le_trans c h1.size)), fun k hk a b => (h2.far k (Nat.lt_of_lt_of_le hk h1.size) a b).trans (h1.far k hk a b)⟩
theorem Fr.cell {w : World} {gm mb : Nat} (j : Nat) (v : Value) : Fr w (w.setCell ⟨gm, j, none⟩ v) gm mb :=
  ⟨(Below.setCell (p := ⟨gm, j, none⟩) (Below.refl gm w) (Nat.le_refl _) v).size, fun B a _ _ => Below.setCell (p := ⟨gm, j, none⟩) (Below.refl B w) a v, fun k _ a _ => Below.heap_setCell w ⟨gm, j, none⟩ v k a⟩
theorem Fr.turned {w w1 : World} {gm mb : Nat} (ht : w.mapTurned w1 mb) : Fr w w1 gm mb :=
  ⟨ht.grown.size, fun B _ b c => pw_below_grown (Below.refl B w) _ c ht.grown (fun k hk => by cases hk; exact b), fun k _ _ b => mapTurned_heap ht b⟩
abbrev keyO (q0 q1 q2 q3 n : Int) : Obj := .cells #[.int .u32 q0, .int .u32 q1, .int .u32 q2, .int .u32 q3, .int .i64 n] 123 (0, 0)
abbrev leafO (q0 q1 q2 q3 : Int) : Obj := .cells #[.int .u32 q0, .int .u32 q1, .int .u32 q2, .int .u32 q3] 56 (0, 0)
/-- no generation, or nothing lives -/
theorem res_none (l b0 b1 s0 s1 q0 q1 q2 q3 n most made : Int) (L : Kn) (gm mb gk : Nat) (w : World) (h0 : 0 ≤ q0 ∧ q0 < 4294967296) (h1 : 0 ≤ q1 ∧ q1 < 4294967296) (h2 : 0 ≤ q2 ∧ q2 < 4294967296) (h3 : 0 ≤ q3 ∧ q3 < 4294967296) (hn : capN n = 0) :
    Calls Tryd.prog 30 #[.pointer (some ⟨gm, 0, none⟩), .agg #[.int .u32 q0, .int .u32 q1, .int .u32 q2, .int .u32 q3], .int .i64 n] w fun e w' => e = .returned (.int .u32 (midF (ofG q0 q1 q2 q3) 4)) ∧ Below w.heap.size w w' := by
  have cOf := fun W => bof_any q0 q1 q2 q3 W h0 h1 h2 h3
  have cMid := fun W => bmid_any (ofG q0 q1 q2 q3) W (fun k _ => ofG_bd _ _ _ _ h0 h1 h2 h3 k)
  have hn0 : n ≤ 0 := by
    unfold capN at hn
    split at hn
    · assumption
    · split at hn <;> omega
  have hn2 : n < 0 ∨ n = 0 := by omega
  obtain ⟨g, hg⟩ : ∃ g, g = ofG q0 q1 q2 q3 := ⟨_, rfl⟩
  rw [← hg] at cOf cMid ⊢
  have COF := Aside0.mk cOf
  have CMID := Aside0.mk cMid
  clear cOf cMid hn hn0 h0 h1 h2 h3 hg
  rcases hn2 with hn2 | rfl
  all_goals
    go_enter Tryd.func30, Tryd.ntmps30
    go_upto_region 2 with (fail)
    obtain ⟨w1, hw1⟩ : ∃ W, W = w.alloc (leafO q0 q1 q2 q3) := ⟨_, rfl⟩
    have bl := by have := blk_new w (leafO q0 q1 q2 q3); rw [← hw1] at this; exact this
    have hB1 : Below w.heap.size w w1 := by rw [hw1]; exact (by with_reducible repeat (first | apply below_alloc | apply pw_below_drewN | apply below_drew | refine bset ?_ _ _ (by omega) _ | exact Below.refl _ _))
    rw [← hw1]
    obtain ⟨gl, hgl⟩ : ∃ g, g = w.heap.size := ⟨_, rfl⟩
    rw [← hgl] at bl ⊢
    clear hw1 hgl
    have c0 := blk_cell bl 0
    have c1 := blk_cell bl 1
    have c2 := blk_cell bl 2
    have c3 := blk_cell bl 3
    simp only [List.getElem?_toArray, List.getElem?_cons_zero, List.getElem?_cons_succ] at c0 c1 c2 c3
    go_wp2_with fail
    refine (COF.out _).mono ?_
    rintro e w2 ⟨rfl, hb2⟩
    have hB2 := hB1.trans (hb2.mono hB1.size)
    clear hb2 hB1 c0 c1 c2 c3 bl
    go_upto_region 3 with (fail)
    obtain ⟨w3, hw3⟩ : ∃ W, W = w2.alloc (blkO g 52) := ⟨_, rfl⟩
    have bx := by have := blk_new w2 (blkO g 52); rw [← hw3] at this; exact this
    have hB3 : Below w.heap.size w w3 := by rw [hw3]; exact below_alloc hB2 _
    rw [← hw3]
    obtain ⟨gx, hgx⟩ : ∃ g, g = w2.heap.size := ⟨_, rfl⟩
    rw [← hgx] at bx ⊢
    have XO := And.intro (blk_cell bx 0) (And.intro (blk_cell bx 1) (And.intro (blk_cell bx 2) (And.intro (blk_cell bx 3) (And.intro (blk_cell bx 4) (And.intro (blk_cell bx 5) (And.intro (blk_cell bx 6) (blk_cell bx 7)))))))
    simp only [List.getElem?_toArray, List.getElem?_cons_zero, List.getElem?_cons_succ] at XO
    obtain ⟨x0, x1, x2, x3, x4, x5, x6, x7⟩ := XO
    clear hw3 hgx hB2
    go_wp2_with fail
    refine (CMID.out _).mono ?_
    rintro e w4 ⟨rfl, hb4⟩
    have HB := Aside0.mk (hB3.trans (hb4.mono hB3.size))
    clear hb4 hB3 x0 x1 x2 x3 x4 x5 x6 x7 bx
    go_wp2
    go_ret
    exact ⟨rfl, HB.out⟩
end
section
open Go.ChangeMaps Go.MapKept Go.WideShapes
attribute [local go_sem] max2_int min2_int max_two min_two max_three min_three max_four min_four
theorem capN_pos {n : Int} (h : capN n ≠ 0) : n = 1 ∨ n = 2 ∨ 2 < n := by
  unfold capN at h
  split at h
  · omega
  · split at h <;> omega
abbrev S6 (gm mb gy : Nat) (q0 q1 q2 q3 m : Int) (W : World) : Prop := W.cell? ⟨gm, 2, none⟩ = some (.map (some mb)) ∧ (W.cell? ⟨gy, 0, none⟩ = some (.int .u32 q0) ∧ W.cell? ⟨gy, 1, none⟩ = some (.int .u32 q1) ∧ W.cell? ⟨gy, 2, none⟩ = some (.int .u32 q2) ∧ W.cell? ⟨gy, 3, none⟩ = some (.int .u32 q3) ∧ W.cell? ⟨gy, 4, none⟩ = some (.int .i64 m))
theorem S6.of {W : World} {gm mb gk gy : Nat} {q0 q1 q2 q3 m most made : Int} (h1 : W.heap[gm]? = some (memO gk mb most made)) (h2 : W.heap[gy]? = some (keyO q0 q1 q2 q3 m)) : S6 gm mb gy q0 q1 q2 q3 m W :=
  ⟨blk_cell h1 2, blk_cell h2 0, blk_cell h2 1, blk_cell h2 2, blk_cell h2 3, blk_cell h2 4⟩
theorem Fr.new_set {w W : World} {gm mb g : Nat} (h : Fr w W gm mb) (hg : w.heap.size ≤ g) (j : Nat) (v : Value) : Fr w (W.setCell ⟨g, j, none⟩ v) gm mb :=
  ⟨Nat.le_trans h.size (Below.setCell (p := ⟨g, j, none⟩) (Below.refl g W) (Nat.le_refl _) v).size, fun B a b c => Below.setCell (p := ⟨g, j, none⟩) (h.low B a b c) (Nat.le_trans c hg) v, fun k hk a b => (Below.heap_setCell W ⟨g, j, none⟩ v k (by show ¬ k = g; omega)).trans (h.far k hk a b)⟩
theorem Fr.new_set8 {w W : World} {gm mb g : Nat} (h : Fr w W gm mb) (hg : w.heap.size ≤ g) (v : Nat → Int) : Fr w (set8 W g v) gm mb :=
  (((((((h.new_set hg 0 _).new_set hg 1 _).new_set hg 2 _).new_set hg 3 _).new_set hg 4 _).new_set hg 5 _).new_set hg 6 _).new_set hg 7 _
theorem MemoAt.set_far {w : World} {gm mb gk g : Nat} {l b0 b1 s0 s1 most made : Int} {L : Kn} (h : MemoAt w gm mb gk l b0 b1 s0 s1 most made L) (h1 : gm < g) (h2 : mb < g) (j : Nat) (v : Value) : MemoAt (w.setCell ⟨g, j, none⟩ v) gm mb gk l b0 b1 s0 s1 most made L := by
  obtain ⟨wk, k1, k2, k3, k4⟩ := h.ker
  exact ⟨(Below.heap_setCell w ⟨g, j, none⟩ v gm (by show ¬ gm = g; omega)).trans h.blk, h.map.of_heap (Below.heap_setCell w ⟨g, j, none⟩ v mb (by show ¬ mb = g; omega)), ⟨wk, k1, Below.setCell (p := ⟨g, j, none⟩) k2 (by show wk.heap.size ≤ g; omega) v, k3, k4⟩, h.ne⟩
theorem MemoAt.set8_far {w : World} {gm mb gk g : Nat} {l b0 b1 s0 s1 most made : Int} {L : Kn} (h : MemoAt w gm mb gk l b0 b1 s0 s1 most made L) (h1 : gm < g) (h2 : mb < g) (v : Nat → Int) : MemoAt (set8 w g v) gm mb gk l b0 b1 s0 s1 most made L :=
  (((((((h.set_far h1 h2 0 _).set_far h1 h2 1 _).set_far h1 h2 2 _).set_far h1 h2 3 _).set_far h1 h2 4 _).set_far h1 h2 5 _).set_far h1 h2 6 _).set_far h1 h2 7 _
theorem key_far {W : World} {g gy j : Nat} {q0 q1 q2 q3 m : Int} (v : Value) (h : W.heap[gy]? = some (keyO q0 q1 q2 q3 m)) (hne : gy ≠ g) : (W.setCell ⟨g, j, none⟩ v).heap[gy]? = some (keyO q0 q1 q2 q3 m) := (Below.heap_setCell W ⟨g, j, none⟩ v gy hne).trans h
theorem key_far8 {W : World} {g gy : Nat} {q0 q1 q2 q3 m : Int} (v : Nat → Int) (h : W.heap[gy]? = some (keyO q0 q1 q2 q3 m)) (hne : gy ≠ g) : (set8 W g v).heap[gy]? = some (keyO q0 q1 q2 q3 m) :=
  key_far _ (key_far _ (key_far _ (key_far _ (key_far _ (key_far _ (key_far _ (key_far _ h hne) hne) hne) hne) hne) hne) hne) hne
theorem res_empty (l b0 b1 s0 s1 q0 q1 q2 q3 n most made : Int) (L : Kn) (gm mb gk : Nat) (w : World) (hl : 1 ≤ l ∧ l ≤ 3) (h0 : 0 ≤ q0 ∧ q0 < 4294967296) (h1 : 0 ≤ q1 ∧ q1 < 4294967296) (h2 : 0 ≤ q2 ∧ q2 < 4294967296) (h3 : 0 ≤ q3 ∧ q3 < 4294967296) (hn : capN n ≠ 0) (hM : MemoAt w gm mb gk l b0 b1 s0 s1 most made L) (he : noneQ q0 q1 q2 q3 = true) :
    Calls Tryd.prog 30 #[.pointer (some ⟨gm, 0, none⟩), .agg #[.int .u32 q0, .int .u32 q1, .int .u32 q2, .int .u32 q3], .int .i64 n] w fun e w' => e = .returned (.int .u32 (midF (ofG q0 q1 q2 q3) 4)) ∧ Below w.heap.size w w' := by
  have cOf := fun W => bof_any q0 q1 q2 q3 W h0 h1 h2 h3
  have gb : ∀ k, k < 8 → 0 ≤ ofG q0 q1 q2 q3 k ∧ ofG q0 q1 q2 q3 k < 65536 := fun k _ => ofG_bd _ _ _ _ h0 h1 h2 h3 k
  obtain ⟨em, hem⟩ : ∃ em, em = noneQ q0 q1 q2 q3 := ⟨_, rfl⟩
  have cEmp := fun W => block_Block_Empty.calls (ofG q0 q1 q2 q3 0) (ofG q0 q1 q2 q3 1) (ofG q0 q1 q2 q3 2) (ofG q0 q1 q2 q3 3) (ofG q0 q1 q2 q3 4) (ofG q0 q1 q2 q3 5) (ofG q0 q1 q2 q3 6) (ofG q0 q1 q2 q3 7) em W (by rw [hem]; exact empty_of _ _ _ _ h0 h1 h2 h3)
  obtain ⟨g, hg⟩ : ∃ g, g = ofG q0 q1 q2 q3 := ⟨_, rfl⟩
  rw [← hg] at cOf cEmp gb
  have cMid := fun (j : Nat) W => bmid_any (genG l b0 b1 s0 s1 j g) W (genG_bd l b0 b1 s0 s1 g gb j)
  have cStep := fun (j : Nat) gk W h => bstep_any l b0 b1 s0 s1 (genG l b0 b1 s0 s1 j g) gk W hl (genG_bd l b0 b1 s0 s1 g gb j) h
  have COF := Aside0.mk cOf
  have CEMP := Aside0.mk cEmp
  have CMID := Aside0.mk cMid
  have CSTEP := Aside0.mk cStep
  have lm := blk_lt hM.blk
  have lb := hM.map.lt
  have HM := Aside0.mk hM
  have hpos := capN_pos hn
  have HQ := Aside0.mk (And.intro h0 (And.intro h1 (And.intro h2 h3)))
  have HGG := Aside0.mk hg
  clear cOf cMid cEmp cStep gb hM hn h0 h1 h2 h3 hl hg
  rw [he] at hem
  subst hem
  rcases hpos with rfl | rfl | hn2
  all_goals
    go_enter Tryd.func30, Tryd.ntmps30
    go_upto_region 2 with (fail)
    obtain ⟨w1, hw1⟩ : ∃ W, W = w.alloc (leafO q0 q1 q2 q3) := ⟨_, rfl⟩
    have bl := by have := blk_new w (leafO q0 q1 q2 q3); rw [← hw1] at this; exact this
    have hB1 : Below w.heap.size w w1 := by rw [hw1]; exact (by with_reducible repeat (first | apply below_alloc | apply pw_below_drewN | apply below_drew | refine bset ?_ _ _ (by omega) _ | exact Below.refl _ _))
    rw [← hw1]
    obtain ⟨gl, hgl⟩ : ∃ g, g = w.heap.size := ⟨_, rfl⟩
    rw [← hgl] at bl ⊢
    have n1 : gm < gl := by omega
    have n2 : mb < gl := by omega
    clear hw1 hgl
    have c0 := blk_cell bl 0
    have c1 := blk_cell bl 1
    have c2 := blk_cell bl 2
    have c3 := blk_cell bl 3
    simp only [List.getElem?_toArray, List.getElem?_cons_zero, List.getElem?_cons_succ] at c0 c1 c2 c3
    go_wp2_with fail
    refine (COF.out _).mono ?_
    rintro e w2 ⟨rfl, hb2⟩
    have hB2 := hB1.trans (hb2.mono hB1.size)
    have bl2 := blk_below bl hb2
    clear hb2 hB1 c0 c1 c2 c3 bl
    go_upto_region 3 with (fail)
    obtain ⟨w3, hw3⟩ : ∃ W, W = w2.alloc (blkO g 52) := ⟨_, rfl⟩
    have bx := by have := blk_new w2 (blkO g 52); rw [← hw3] at this; exact this
    have hB3 : Below w.heap.size w w3 := by rw [hw3]; exact below_alloc hB2 _
    have bl3 := by have := blk_alloc bl2 (blkO g 52); rw [← hw3] at this; exact this
    rw [← hw3]
    obtain ⟨gx, hgx⟩ : ∃ g, g = w2.heap.size := ⟨_, rfl⟩
    rw [← hgx] at bx ⊢
    have lx : w.heap.size ≤ gx := by have := hB2.size; omega
    have XO := And.intro (blk_cell bx 0) (And.intro (blk_cell bx 1) (And.intro (blk_cell bx 2) (And.intro (blk_cell bx 3) (And.intro (blk_cell bx 4) (And.intro (blk_cell bx 5) (And.intro (blk_cell bx 6) (blk_cell bx 7)))))))
    simp only [List.getElem?_toArray, List.getElem?_cons_zero, List.getElem?_cons_succ] at XO
    obtain ⟨x0, x1, x2, x3, x4, x5, x6, x7⟩ := XO
    clear hw3 hgx hB2 bl2
    go_wp2_with fail
    refine (CEMP.out _).mono ?_
    rintro e w4 ⟨rfl, hb4⟩
    have hB4 := hB3.trans (hb4.mono hB3.size)
    have bl4 := blk_below bl3 hb4
    have bx4 := blk_below bx hb4
    clear hb4 hB3 x0 x1 x2 x3 x4 x5 x6 x7 bx bl3 COF CEMP
    have XO := And.intro (blk_cell bx4 0) (And.intro (blk_cell bx4 1) (And.intro (blk_cell bx4 2) (And.intro (blk_cell bx4 3) (And.intro (blk_cell bx4 4) (And.intro (blk_cell bx4 5) (And.intro (blk_cell bx4 6) (blk_cell bx4 7)))))))
    simp only [List.getElem?_toArray, List.getElem?_cons_zero, List.getElem?_cons_succ] at XO
    obtain ⟨x0, x1, x2, x3, x4, x5, x6, x7⟩ := XO
    go_wp2_with fail
    refine (CMID.out 0 _).mono ?_
    rintro e w5 ⟨rfl, hb5⟩
    have HB := Aside0.mk (hB4.trans (hb5.mono hB4.size))
    clear hb5 hB4 x0 x1 x2 x3 x4 x5 x6 x7 bx4 bl4
    go_wp2
    go_ret
    exact ⟨by rw [← HGG.out]; rfl, HB.out⟩
theorem res_known (l b0 b1 s0 s1 q0 q1 q2 q3 n most made : Int) (L : Kn) (gm mb gk : Nat) (w : World) (hl : 1 ≤ l ∧ l ≤ 3) (h0 : 0 ≤ q0 ∧ q0 < 4294967296) (h1 : 0 ≤ q1 ∧ q1 < 4294967296) (h2 : 0 ≤ q2 ∧ q2 < 4294967296) (h3 : 0 ≤ q3 ∧ q3 < 4294967296) (hn : capN n ≠ 0) (hM : MemoAt w gm mb gk l b0 b1 s0 s1 most made L) (he : noneQ q0 q1 q2 q3 = false) (v : Int) (hv : getK L (q0, q1, q2, q3, (capN n : Int)) = some v) :
    Calls Tryd.prog 30 #[.pointer (some ⟨gm, 0, none⟩), .agg #[.int .u32 q0, .int .u32 q1, .int .u32 q2, .int .u32 q3], .int .i64 n] w fun e w' => e = .returned (.int .u32 v) ∧ Below w.heap.size w w' := by
  have cOf := fun W => bof_any q0 q1 q2 q3 W h0 h1 h2 h3
  have gb : ∀ k, k < 8 → 0 ≤ ofG q0 q1 q2 q3 k ∧ ofG q0 q1 q2 q3 k < 65536 := fun k _ => ofG_bd _ _ _ _ h0 h1 h2 h3 k
  obtain ⟨em, hem⟩ : ∃ em, em = noneQ q0 q1 q2 q3 := ⟨_, rfl⟩
  have cEmp := fun W => block_Block_Empty.calls (ofG q0 q1 q2 q3 0) (ofG q0 q1 q2 q3 1) (ofG q0 q1 q2 q3 2) (ofG q0 q1 q2 q3 3) (ofG q0 q1 q2 q3 4) (ofG q0 q1 q2 q3 5) (ofG q0 q1 q2 q3 6) (ofG q0 q1 q2 q3 7) em W (by rw [hem]; exact empty_of _ _ _ _ h0 h1 h2 h3)
  obtain ⟨g, hg⟩ : ∃ g, g = ofG q0 q1 q2 q3 := ⟨_, rfl⟩
  rw [← hg] at cOf cEmp gb
  have cMid := fun (j : Nat) W => bmid_any (genG l b0 b1 s0 s1 j g) W (genG_bd l b0 b1 s0 s1 g gb j)
  have cStep := fun (j : Nat) gk W h => bstep_any l b0 b1 s0 s1 (genG l b0 b1 s0 s1 j g) gk W hl (genG_bd l b0 b1 s0 s1 g gb j) h
  have COF := Aside0.mk cOf
  have CEMP := Aside0.mk cEmp
  have CMID := Aside0.mk cMid
  have CSTEP := Aside0.mk cStep
  have lm := blk_lt hM.blk
  have lb := hM.map.lt
  have HM := Aside0.mk hM
  have hpos := capN_pos hn
  have HQ := Aside0.mk (And.intro h0 (And.intro h1 (And.intro h2 h3)))
  have HGG := Aside0.mk hg
  clear cOf cMid cEmp cStep gb hM hn h0 h1 h2 h3 hl hg
  rw [he] at hem
  subst hem
  have hcap : ∀ m : Int, ((n = 1 ∧ m = 1) ∨ (n = 2 ∧ m = 2) ∨ (2 < n ∧ m = 2)) → (capN n : Int) = m := fun m h => by unfold capN; (repeat' split) <;> omega
  have HC := Aside0.mk hcap
  have HV := Aside0.mk hv
  clear hcap hv
  have hcase : ∃ m : Int, (m = 1 ∨ m = 2) ∧ ((n = 1 ∧ m = 1) ∨ (n = 2 ∧ m = 2) ∨ (2 < n ∧ m = 2)) := by
    rcases hpos with h | h | h
    · exact ⟨1, .inl rfl, .inl ⟨h, rfl⟩⟩
    · exact ⟨2, .inr rfl, .inr (.inl ⟨h, rfl⟩)⟩
    · exact ⟨2, .inr rfl, .inr (.inr ⟨h, rfl⟩)⟩
  obtain ⟨m, hm12, hcs⟩ := hcase
  have hv2 := HV.out
  rw [HC.out m hcs] at hv2
  have HV2 := Aside0.mk hv2
  clear hv2 HV HC hpos
  rcases hcs with ⟨rfl, rfl⟩ | ⟨rfl, rfl⟩ | ⟨hn2, rfl⟩
  · go_enter Tryd.func30, Tryd.ntmps30
    go_upto_region 2 with (fail)
    obtain ⟨w1, hw1⟩ : ∃ W, W = w.alloc (leafO q0 q1 q2 q3) := ⟨_, rfl⟩
    have bl := by have := blk_new w (leafO q0 q1 q2 q3); rw [← hw1] at this; exact this
    have hB1 : Below w.heap.size w w1 := by rw [hw1]; exact (by with_reducible repeat (first | apply below_alloc | apply pw_below_drewN | apply below_drew | refine bset ?_ _ _ (by omega) _ | exact Below.refl _ _))
    rw [← hw1]
    obtain ⟨gl, hgl⟩ : ∃ g, g = w.heap.size := ⟨_, rfl⟩
    rw [← hgl] at bl ⊢
    have n1 : gm < gl := by omega
    have n2 : mb < gl := by omega
    clear hw1 hgl
    have c0 := blk_cell bl 0
    have c1 := blk_cell bl 1
    have c2 := blk_cell bl 2
    have c3 := blk_cell bl 3
    simp only [List.getElem?_toArray, List.getElem?_cons_zero, List.getElem?_cons_succ] at c0 c1 c2 c3
    go_wp2_with fail
    refine (COF.out _).mono ?_
    rintro e w2 ⟨rfl, hb2⟩
    have hB2 := hB1.trans (hb2.mono hB1.size)
    have bl2 := blk_below bl hb2
    clear hb2 hB1 c0 c1 c2 c3 bl
    go_upto_region 3 with (fail)
    obtain ⟨w3, hw3⟩ : ∃ W, W = w2.alloc (blkO g 52) := ⟨_, rfl⟩
    have bx := by have := blk_new w2 (blkO g 52); rw [← hw3] at this; exact this
    have hB3 : Below w.heap.size w w3 := by rw [hw3]; exact below_alloc hB2 _
    have bl3 := by have := blk_alloc bl2 (blkO g 52); rw [← hw3] at this; exact this
    rw [← hw3]
    obtain ⟨gx, hgx⟩ : ∃ g, g = w2.heap.size := ⟨_, rfl⟩
    rw [← hgx] at bx ⊢
    have lx : w.heap.size ≤ gx := by have := hB2.size; omega
    have XO := And.intro (blk_cell bx 0) (And.intro (blk_cell bx 1) (And.intro (blk_cell bx 2) (And.intro (blk_cell bx 3) (And.intro (blk_cell bx 4) (And.intro (blk_cell bx 5) (And.intro (blk_cell bx 6) (blk_cell bx 7)))))))
    simp only [List.getElem?_toArray, List.getElem?_cons_zero, List.getElem?_cons_succ] at XO
    obtain ⟨x0, x1, x2, x3, x4, x5, x6, x7⟩ := XO
    clear hw3 hgx hB2 bl2
    go_wp2_with fail
    refine (CEMP.out _).mono ?_
    rintro e w4 ⟨rfl, hb4⟩
    have hB4 := hB3.trans (hb4.mono hB3.size)
    have bl4 := blk_below bl3 hb4
    have bx4 := blk_below bx hb4
    clear hb4 hB3 x0 x1 x2 x3 x4 x5 x6 x7 bx bl3 COF CEMP
    have c0 := blk_cell bl4 0
    have c1 := blk_cell bl4 1
    have c2 := blk_cell bl4 2
    have c3 := blk_cell bl4 3
    simp only [List.getElem?_toArray, List.getElem?_cons_zero, List.getElem?_cons_succ] at c0 c1 c2 c3
    go_upto_region 6 with (fail)
    obtain ⟨w5, hw5⟩ : ∃ W, W = w4.alloc (keyO q0 q1 q2 q3 1) := ⟨_, rfl⟩
    have by5 := by have := blk_new w4 (keyO q0 q1 q2 q3 1); rw [← hw5] at this; exact this
    have hB5 : Below w.heap.size w w5 := by rw [hw5]; exact below_alloc hB4 _
    have bx5 := by have := blk_alloc bx4 (keyO q0 q1 q2 q3 1); rw [← hw5] at this; exact this
    rw [← hw5]
    obtain ⟨gy, hgy⟩ : ∃ g, g = w4.heap.size := ⟨_, rfl⟩
    rw [← hgy] at by5 ⊢
    have nyx : gy ≠ gx := by have := blk_lt bx4; omega
    have ly : w.heap.size ≤ gy := by have := hB4.size; omega
    clear hw5 hgy hB4 c0 c1 c2 c3 bl4 bx4
    have M5 := HM.out.below hB5
    have MD := M5.below (below_drew (Below.refl w5.heap.size w5))
    obtain ⟨hlk, hno⟩ := look_K MD.map (q0, q1, q2, q3, 1) ⟨HQ.out.1, HQ.out.2.1, HQ.out.2.2.1, HQ.out.2.2.2, ⟨show (0 : Int) ≤ 1 by decide, show (1 : Int) ≤ 2 by decide⟩⟩
    have hSD : S6 gm mb gy q0 q1 q2 q3 1 w5.drew := S6.of MD.blk (blk_drew by5)
    have hfound := hlk v HV2.out
    have HB := Aside0.mk (below_drew hB5)
    clear hlk hno M5 MD hB5 by5 bx5
    go_region_held3 (fun W => W.cell? ⟨gm, 2, none⟩ = some (.map (some mb)) ∧ (W.cell? ⟨gy, 0, none⟩ = some (.int .u32 q0) ∧ W.cell? ⟨gy, 1, none⟩ = some (.int .u32 q1) ∧ W.cell? ⟨gy, 2, none⟩ = some (.int .u32 q2) ∧ W.cell? ⟨gy, 3, none⟩ = some (.int .u32 q3) ∧ W.cell? ⟨gy, 4, none⟩ = some (.int .i64 1)))
      (with_reducible assumption) (fail)
    all_goals
      clear hfound
      go_wp2
      go_ret
      exact ⟨rfl, HB.out⟩
  · go_enter Tryd.func30, Tryd.ntmps30
    go_upto_region 2 with (fail)
    obtain ⟨w1, hw1⟩ : ∃ W, W = w.alloc (leafO q0 q1 q2 q3) := ⟨_, rfl⟩
    have bl := by have := blk_new w (leafO q0 q1 q2 q3); rw [← hw1] at this; exact this
    have hB1 : Below w.heap.size w w1 := by rw [hw1]; exact (by with_reducible repeat (first | apply below_alloc | apply pw_below_drewN | apply below_drew | refine bset ?_ _ _ (by omega) _ | exact Below.refl _ _))
    rw [← hw1]
    obtain ⟨gl, hgl⟩ : ∃ g, g = w.heap.size := ⟨_, rfl⟩
    rw [← hgl] at bl ⊢
    have n1 : gm < gl := by omega
    have n2 : mb < gl := by omega
    clear hw1 hgl
    have c0 := blk_cell bl 0
    have c1 := blk_cell bl 1
    have c2 := blk_cell bl 2
    have c3 := blk_cell bl 3
    simp only [List.getElem?_toArray, List.getElem?_cons_zero, List.getElem?_cons_succ] at c0 c1 c2 c3
    go_wp2_with fail
    refine (COF.out _).mono ?_
    rintro e w2 ⟨rfl, hb2⟩
    have hB2 := hB1.trans (hb2.mono hB1.size)
    have bl2 := blk_below bl hb2
    clear hb2 hB1 c0 c1 c2 c3 bl
    go_upto_region 3 with (fail)
    obtain ⟨w3, hw3⟩ : ∃ W, W = w2.alloc (blkO g 52) := ⟨_, rfl⟩
    have bx := by have := blk_new w2 (blkO g 52); rw [← hw3] at this; exact this
    have hB3 : Below w.heap.size w w3 := by rw [hw3]; exact below_alloc hB2 _
    have bl3 := by have := blk_alloc bl2 (blkO g 52); rw [← hw3] at this; exact this
    rw [← hw3]
    obtain ⟨gx, hgx⟩ : ∃ g, g = w2.heap.size := ⟨_, rfl⟩
    rw [← hgx] at bx ⊢
    have lx : w.heap.size ≤ gx := by have := hB2.size; omega
    have XO := And.intro (blk_cell bx 0) (And.intro (blk_cell bx 1) (And.intro (blk_cell bx 2) (And.intro (blk_cell bx 3) (And.intro (blk_cell bx 4) (And.intro (blk_cell bx 5) (And.intro (blk_cell bx 6) (blk_cell bx 7)))))))
    simp only [List.getElem?_toArray, List.getElem?_cons_zero, List.getElem?_cons_succ] at XO
    obtain ⟨x0, x1, x2, x3, x4, x5, x6, x7⟩ := XO
    clear hw3 hgx hB2 bl2
    go_wp2_with fail
    refine (CEMP.out _).mono ?_
    rintro e w4 ⟨rfl, hb4⟩
    have hB4 := hB3.trans (hb4.mono hB3.size)
    have bl4 := blk_below bl3 hb4
    have bx4 := blk_below bx hb4
    clear hb4 hB3 x0 x1 x2 x3 x4 x5 x6 x7 bx bl3 COF CEMP
    have c0 := blk_cell bl4 0
    have c1 := blk_cell bl4 1
    have c2 := blk_cell bl4 2
    have c3 := blk_cell bl4 3
    simp only [List.getElem?_toArray, List.getElem?_cons_zero, List.getElem?_cons_succ] at c0 c1 c2 c3
    go_upto_region 6 with (fail)
    obtain ⟨w5, hw5⟩ : ∃ W, W = w4.alloc (keyO q0 q1 q2 q3 2) := ⟨_, rfl⟩
    have by5 := by have := blk_new w4 (keyO q0 q1 q2 q3 2); rw [← hw5] at this; exact this
    have hB5 : Below w.heap.size w w5 := by rw [hw5]; exact below_alloc hB4 _
    have bx5 := by have := blk_alloc bx4 (keyO q0 q1 q2 q3 2); rw [← hw5] at this; exact this
    rw [← hw5]
    obtain ⟨gy, hgy⟩ : ∃ g, g = w4.heap.size := ⟨_, rfl⟩
    rw [← hgy] at by5 ⊢
    have nyx : gy ≠ gx := by have := blk_lt bx4; omega
    have ly : w.heap.size ≤ gy := by have := hB4.size; omega
    clear hw5 hgy hB4 c0 c1 c2 c3 bl4 bx4
    have M5 := HM.out.below hB5
    have MD := M5.below (below_drew (Below.refl w5.heap.size w5))
    obtain ⟨hlk, hno⟩ := look_K MD.map (q0, q1, q2, q3, 2) ⟨HQ.out.1, HQ.out.2.1, HQ.out.2.2.1, HQ.out.2.2.2, ⟨show (0 : Int) ≤ 2 by decide, show (2 : Int) ≤ 2 by decide⟩⟩
    have hSD : S6 gm mb gy q0 q1 q2 q3 2 w5.drew := S6.of MD.blk (blk_drew by5)
    have hfound := hlk v HV2.out
    have HB := Aside0.mk (below_drew hB5)
    clear hlk hno M5 MD hB5 by5 bx5
    go_region_held3 (fun W => W.cell? ⟨gm, 2, none⟩ = some (.map (some mb)) ∧ (W.cell? ⟨gy, 0, none⟩ = some (.int .u32 q0) ∧ W.cell? ⟨gy, 1, none⟩ = some (.int .u32 q1) ∧ W.cell? ⟨gy, 2, none⟩ = some (.int .u32 q2) ∧ W.cell? ⟨gy, 3, none⟩ = some (.int .u32 q3) ∧ W.cell? ⟨gy, 4, none⟩ = some (.int .i64 2)))
      (with_reducible assumption) (fail)
    all_goals
      clear hfound
      go_wp2
      go_ret
      exact ⟨rfl, HB.out⟩
  · go_enter Tryd.func30, Tryd.ntmps30
    go_upto_region 2 with (fail)
    obtain ⟨w1, hw1⟩ : ∃ W, W = w.alloc (leafO q0 q1 q2 q3) := ⟨_, rfl⟩
    have bl := by have := blk_new w (leafO q0 q1 q2 q3); rw [← hw1] at this; exact this
    have hB1 : Below w.heap.size w w1 := by rw [hw1]; exact (by with_reducible repeat (first | apply below_alloc | apply pw_below_drewN | apply below_drew | refine bset ?_ _ _ (by omega) _ | exact Below.refl _ _))
    rw [← hw1]
    obtain ⟨gl, hgl⟩ : ∃ g, g = w.heap.size := ⟨_, rfl⟩
    rw [← hgl] at bl ⊢
    have n1 : gm < gl := by omega
    have n2 : mb < gl := by omega
    clear hw1 hgl
    have c0 := blk_cell bl 0
    have c1 := blk_cell bl 1
    have c2 := blk_cell bl 2
    have c3 := blk_cell bl 3
    simp only [List.getElem?_toArray, List.getElem?_cons_zero, List.getElem?_cons_succ] at c0 c1 c2 c3
    go_wp2_with fail
    refine (COF.out _).mono ?_
    rintro e w2 ⟨rfl, hb2⟩
    have hB2 := hB1.trans (hb2.mono hB1.size)
    have bl2 := blk_below bl hb2
    clear hb2 hB1 c0 c1 c2 c3 bl
    go_upto_region 3 with (fail)
    obtain ⟨w3, hw3⟩ : ∃ W, W = w2.alloc (blkO g 52) := ⟨_, rfl⟩
    have bx := by have := blk_new w2 (blkO g 52); rw [← hw3] at this; exact this
    have hB3 : Below w.heap.size w w3 := by rw [hw3]; exact below_alloc hB2 _
    have bl3 := by have := blk_alloc bl2 (blkO g 52); rw [← hw3] at this; exact this
    rw [← hw3]
    obtain ⟨gx, hgx⟩ : ∃ g, g = w2.heap.size := ⟨_, rfl⟩
    rw [← hgx] at bx ⊢
    have lx : w.heap.size ≤ gx := by have := hB2.size; omega
    have XO := And.intro (blk_cell bx 0) (And.intro (blk_cell bx 1) (And.intro (blk_cell bx 2) (And.intro (blk_cell bx 3) (And.intro (blk_cell bx 4) (And.intro (blk_cell bx 5) (And.intro (blk_cell bx 6) (blk_cell bx 7)))))))
    simp only [List.getElem?_toArray, List.getElem?_cons_zero, List.getElem?_cons_succ] at XO
    obtain ⟨x0, x1, x2, x3, x4, x5, x6, x7⟩ := XO
    clear hw3 hgx hB2 bl2
    go_wp2_with fail
    refine (CEMP.out _).mono ?_
    rintro e w4 ⟨rfl, hb4⟩
    have hB4 := hB3.trans (hb4.mono hB3.size)
    have bl4 := blk_below bl3 hb4
    have bx4 := blk_below bx hb4
    clear hb4 hB3 x0 x1 x2 x3 x4 x5 x6 x7 bx bl3 COF CEMP
    have c0 := blk_cell bl4 0
    have c1 := blk_cell bl4 1
    have c2 := blk_cell bl4 2
    have c3 := blk_cell bl4 3
    simp only [List.getElem?_toArray, List.getElem?_cons_zero, List.getElem?_cons_succ] at c0 c1 c2 c3
    go_upto_region 6 with (fail)
    obtain ⟨w5, hw5⟩ : ∃ W, W = w4.alloc (keyO q0 q1 q2 q3 2) := ⟨_, rfl⟩
    have by5 := by have := blk_new w4 (keyO q0 q1 q2 q3 2); rw [← hw5] at this; exact this
    have hB5 : Below w.heap.size w w5 := by rw [hw5]; exact below_alloc hB4 _
    have bx5 := by have := blk_alloc bx4 (keyO q0 q1 q2 q3 2); rw [← hw5] at this; exact this
    rw [← hw5]
    obtain ⟨gy, hgy⟩ : ∃ g, g = w4.heap.size := ⟨_, rfl⟩
    rw [← hgy] at by5 ⊢
    have nyx : gy ≠ gx := by have := blk_lt bx4; omega
    have ly : w.heap.size ≤ gy := by have := hB4.size; omega
    clear hw5 hgy hB4 c0 c1 c2 c3 bl4 bx4
    have M5 := HM.out.below hB5
    have MD := M5.below (below_drew (Below.refl w5.heap.size w5))
    obtain ⟨hlk, hno⟩ := look_K MD.map (q0, q1, q2, q3, 2) ⟨HQ.out.1, HQ.out.2.1, HQ.out.2.2.1, HQ.out.2.2.2, ⟨show (0 : Int) ≤ 2 by decide, show (2 : Int) ≤ 2 by decide⟩⟩
    have hSD : S6 gm mb gy q0 q1 q2 q3 2 w5.drew := S6.of MD.blk (blk_drew by5)
    have hfound := hlk v HV2.out
    have HB := Aside0.mk (below_drew hB5)
    clear hlk hno M5 MD hB5 by5 bx5
    go_region_held3 (fun W => W.cell? ⟨gm, 2, none⟩ = some (.map (some mb)) ∧ (W.cell? ⟨gy, 0, none⟩ = some (.int .u32 q0) ∧ W.cell? ⟨gy, 1, none⟩ = some (.int .u32 q1) ∧ W.cell? ⟨gy, 2, none⟩ = some (.int .u32 q2) ∧ W.cell? ⟨gy, 3, none⟩ = some (.int .u32 q3) ∧ W.cell? ⟨gy, 4, none⟩ = some (.int .i64 2)))
      (with_reducible assumption) (fail)
    all_goals
      clear hfound
      go_wp2
      go_ret
      exact ⟨rfl, HB.out⟩
end
end Go.Proofs.YtieekbdododkkaaDoor
