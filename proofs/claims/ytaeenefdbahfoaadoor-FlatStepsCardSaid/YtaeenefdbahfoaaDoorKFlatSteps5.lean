/- Parts of the proof (FlatSteps), merged out of our texts by wip/tools/pack.py: HSmall, XTCheck, PSet0, Mp3, XStep, HflatSteps, XSome3. -/
import Derived.Test.YtaeenefdbahfoaaDoorKFlatSteps1
import Derived.Test.YtaeenefdbahfoaaDoorKFlatSteps3
import Derived.Test.YtaeenefdbahfoaaDoorKFlatSteps2
import Derived.Test.YtaeenefdbahfoaaDoorKFlatSteps4
import Derived.Maps.RangeRun
namespace Go.Proofs.YtaeenefdbahfoaaDoor.H
open Go.RowKit Go.Proofs.YtaeenefdbahfoaaDoorW.PrintWords Go.Proofs.YtaeenefdbahfoaaDoorW.PrintLast Go.Proofs.YtaeenefdbahfoaaDoorW.PrintMore
attribute [local go_sem] max2_int min2_int max_two min_two max_three min_three max_four min_four   -- for this text's walks alone
set_option linter.unusedVariables false
set_option linter.unusedSimpArgs false
attribute [local go_sem high] eqA63
def table_most.f (a0 : Int) : Option (Int) := if a0 = 1 then (some 63) else (if a0 = 2 then (some 3) else (some 12))
set_option maxHeartbeats 8000000 in
set_option maxRecDepth 100000 in
theorem table_most.calls (a0 : Int) (r : Int) (w : World) (h : table_most.f a0 = some r) :
  Calls Tryd.prog 86 #[.int .i64 a0] w fun e w' => e = .returned (.int .i64 r) ∧ Drawn0 w w' := by
 have H : (if a0 = 1 then (some 63) else (if a0 = 2 then (some 3) else (some 12))) = some r := h
 clear h
 by_cases c2 : a0 = 1
 ·
  rw [if_pos c2] at H
  have c2b0 : (a0 == 1) = true := beq_iff_eq.mpr c2
  have c2b1 : (a0 != 1) = false := bne_eq_false_iff_eq.mpr c2
  clear c2
  obtain rfl := Option.some.inj H
  go_enter Tryd.func86, Tryd.ntmps86
  go_wp2
  go_ret
  exact ⟨by first | rfl | (simp; done) | (simp [*]; done), by repeat (first | exact Drawn0.refl _ | apply Drawn0.step)⟩
 ·
  rw [if_neg c2] at H
  have c2b0 : (a0 == 1) = false := beq_eq_false_iff_ne.mpr c2
  have c2b1 : (a0 != 1) = true := bne_iff_ne.mpr c2
  by_cases c3 : a0 = 2
  ·
   rw [if_pos c3] at H
   have c3b0 : (a0 == 2) = true := beq_iff_eq.mpr c3
   have c3b1 : (a0 != 2) = false := bne_eq_false_iff_eq.mpr c3
   clear c3
   obtain rfl := Option.some.inj H
   go_enter Tryd.func86, Tryd.ntmps86
   go_wp2
   go_ret
   exact ⟨by first | rfl | (simp; done) | (simp [*]; done), by repeat (first | exact Drawn0.refl _ | apply Drawn0.step)⟩
  ·
   rw [if_neg c3] at H
   have c3b0 : (a0 == 2) = false := beq_eq_false_iff_ne.mpr c3
   have c3b1 : (a0 != 2) = true := bne_iff_ne.mpr c3
   obtain rfl := Option.some.inj H
   go_enter Tryd.func86, Tryd.ntmps86
   go_wp2
   go_ret
   exact ⟨by first | rfl | (simp; done) | (simp [*]; done), by repeat (first | exact Drawn0.refl _ | apply Drawn0.step)⟩
def honeycomblaw05_Own.f (a0_0 : Int) (a0_1 : Int) (a0_2 : Int) (a0_3 : Int) (a0_4 : Int) : Option (Int × Int × Int × Int × Int) := some (a0_0, a0_1, a0_2, a0_3, a0_4)
set_option maxHeartbeats 8000000 in
set_option maxRecDepth 100000 in
theorem honeycomblaw05_Own.calls (a0_0 : Int) (a0_1 : Int) (a0_2 : Int) (a0_3 : Int) (a0_4 : Int) (r1 : Int) (r2 : Int) (r3 : Int) (r4 : Int) (r5 : Int) (w : World) (h : honeycomblaw05_Own.f a0_0 a0_1 a0_2 a0_3 a0_4 = some (r1, r2, r3, r4, r5)) :
  Calls Tryd.prog 46 #[.agg #[.int .i64 a0_0, .int .u64 a0_1, .int .u64 a0_2, .int .u64 a0_3, .int .u64 a0_4]] w fun e w' => e = .returned (.agg #[.int .i64 r1, .int .u64 r2, .int .u64 r3, .int .u64 r4, .int .u64 r5]) ∧ Below w.heap.size w w' := by
 have hu25 := Tryd.underlying25
 have hu29 := Tryd.underlying29
 have hu23 := Tryd.underlying23
 have HB := Aside0.mk (Below.refl w.heap.size w)
 have H : (some (a0_0, a0_1, a0_2, a0_3, a0_4)) = some (r1, r2, r3, r4, r5) := h
 clear h
 simp only [Option.some.injEq, Prod.mk.injEq] at H
 obtain ⟨rfl, rfl, rfl, rfl, rfl⟩ := H
 go_enter Tryd.func46, Tryd.ntmps46
 go_wp2_with (first | ((with_reducible refine gate_dst (N := 1) rfl ?_); refine box_event ?hg (N := 1) ?hd (cs := #[.int .i64 a0_0, .int .u64 a0_1, .int .u64 a0_2, .int .u64 a0_3, .int .u64 a0_4]) (t := 25) ?hr ?_; (case hd => rfl); (case hg => rfl); (case hr => first | (go_simp; done) | (go_simp; rfl)); intro gb207 hg w2 hbox hb; have n0_ := Aside0.mk (below_step (by repeat (first | (with_reducible first | exact HB.out | apply ba_ | apply bn_ | apply bd_) | exact HB.out)) hb); have n1_ := Aside0.mk (hbox); have n2_ := Aside0.mk ((by rw [hg]; exact (below_size (by repeat (first | (with_reducible first | exact HB.out | apply ba_ | apply bn_ | apply bd_) | exact HB.out))) : w.heap.size ≤ gb207)); have n3_ := Aside0.mk ((by rw [hg]; exact (below_size (by repeat (first | (with_reducible first | exact HB.out | apply ba_ | apply bn_ | apply bd_) | exact HB.out))) : w.heap.size ≤ gb207)); clear HB; have HB := n0_; have BK207 := n1_; have GW207 := n2_; have GE207 := n3_; clear n0_ n1_ n2_ n3_; clear hb hbox hg) | ((with_reducible refine gate_dst (N := 2) rfl ?_); refine box_event ?hg (N := 2) ?hd (cs := #[.int .i64 0, .int .u64 0, .int .u64 0, .int .u64 0, .int .u64 0]) (t := 29) ?hr ?_; (case hd => rfl); (case hg => rfl); (case hr => first | (go_simp; done) | (go_simp; rfl)); intro gb208 hg w3 hbox hb; have n0_ := Aside0.mk (blk_below (g := gb207) (o := .cells #[.int .i64 a0_0, .int .u64 a0_1, .int .u64 a0_2, .int .u64 a0_3, .int .u64 a0_4] 25 (0, 0)) (by (with_reducible repeat (first | apply bN_ | apply bD_ | apply bA_)); exact BK207.out) hb); have n1_ := Aside0.mk (below_step (by repeat (first | (with_reducible first | exact HB.out | apply ba_ | apply bn_ | apply bd_ | refine below_set ?_ GE207.out) | exact HB.out)) hb); have n2_ := Aside0.mk (hbox); have n3_ := Aside0.mk ((by rw [hg]; exact (below_size (by repeat (first | (with_reducible first | exact HB.out | apply ba_ | apply bn_ | apply bd_ | refine below_set ?_ GE207.out) | exact HB.out))) : w.heap.size ≤ gb208)); have n4_ := Aside0.mk ((by rw [hg]; exact (below_size (by repeat (first | (with_reducible first | exact HB.out | apply ba_ | apply bn_ | apply bd_ | refine below_set ?_ GE207.out) | exact HB.out))) : w.heap.size ≤ gb208)); have n5_ := Aside0.mk ((by rw [hg]; exact Nat.ne_of_lt (blk_lt (g := gb207) (o := .cells #[.int .i64 a0_0, .int .u64 a0_1, .int .u64 a0_2, .int .u64 a0_3, .int .u64 a0_4] 25 (0, 0)) (by (with_reducible repeat (first | apply bN_ | apply bD_ | apply bA_)); exact BK207.out)) : gb207 ≠ gb208)); have n6_ := Aside0.mk ((by rw [hg]; exact Nat.ne_of_gt (blk_lt (g := gb207) (o := .cells #[.int .i64 a0_0, .int .u64 a0_1, .int .u64 a0_2, .int .u64 a0_3, .int .u64 a0_4] 25 (0, 0)) (by (with_reducible repeat (first | apply bN_ | apply bD_ | apply bA_)); exact BK207.out)) : gb208 ≠ gb207)); clear BK207; clear HB; have BK207 := n0_; have HB := n1_; have BK208 := n2_; have GW208 := n3_; have GE208 := n4_; have NB207_208 := n5_; have NB208_207 := n6_; clear n0_ n1_ n2_ n3_ n4_ n5_ n6_; clear hb hbox hg; have hnb4 := NB207_208.out; have hnc4 := NB208_207.out; have hcz5_0 : w3.cell? ⟨gb207, 0, none⟩ = some (.int .i64 a0_0) := (blk_cell BK207.out 0).trans rfl; have hcz5_1 : w3.cell? ⟨gb207, 1, none⟩ = some (.int .u64 a0_1) := (blk_cell BK207.out 1).trans rfl; have hcz5_2 : w3.cell? ⟨gb207, 2, none⟩ = some (.int .u64 a0_2) := (blk_cell BK207.out 2).trans rfl; have hcz5_3 : w3.cell? ⟨gb207, 3, none⟩ = some (.int .u64 a0_3) := (blk_cell BK207.out 3).trans rfl; have hcz5_4 : w3.cell? ⟨gb207, 4, none⟩ = some (.int .u64 a0_4) := (blk_cell BK207.out 4).trans rfl; have hfz5_0 := blk_frozen BK207.out 0; have hfz5_1 := blk_frozen BK207.out 1; have hfz5_2 := blk_frozen BK207.out 2; have hfz5_3 := blk_frozen BK207.out 3; have hfz5_4 := blk_frozen BK207.out 4; have hcz6_0 : w3.cell? ⟨gb208, 0, none⟩ = some (.int .i64 0) := (blk_cell BK208.out 0).trans rfl; have hcz6_1 : w3.cell? ⟨gb208, 1, none⟩ = some (.int .u64 0) := (blk_cell BK208.out 1).trans rfl; have hcz6_2 : w3.cell? ⟨gb208, 2, none⟩ = some (.int .u64 0) := (blk_cell BK208.out 2).trans rfl; have hcz6_3 : w3.cell? ⟨gb208, 3, none⟩ = some (.int .u64 0) := (blk_cell BK208.out 3).trans rfl; have hcz6_4 : w3.cell? ⟨gb208, 4, none⟩ = some (.int .u64 0) := (blk_cell BK208.out 4).trans rfl; have hfz6_0 := blk_frozen BK208.out 0; have hfz6_1 := blk_frozen BK208.out 1; have hfz6_2 := blk_frozen BK208.out 2; have hfz6_3 := blk_frozen BK208.out 3; have hfz6_4 := blk_frozen BK208.out 4))
 refine bodyPost_ret (results_cell_row rfl _ _ gb208 29 #[.int .i64 a0_0, .int .u64 a0_1, .int .u64 a0_2, .int .u64 a0_3, .int .u64 a0_4] (0, 0) _ rfl (by (with_reducible repeat (first | apply bN_ | apply bD_ | apply bA_)); refine blk_put (cs := #[.int .i64 a0_0, .int .u64 a0_1, .int .u64 a0_2, .int .u64 a0_3, .int .u64 0]) ?_ 4 _ rfl; (with_reducible repeat (first | apply bN_ | apply bD_ | apply bA_)); refine blk_put (cs := #[.int .i64 a0_0, .int .u64 a0_1, .int .u64 a0_2, .int .u64 0, .int .u64 0]) ?_ 3 _ rfl; (with_reducible repeat (first | apply bN_ | apply bD_ | apply bA_)); refine blk_put (cs := #[.int .i64 a0_0, .int .u64 a0_1, .int .u64 0, .int .u64 0, .int .u64 0]) ?_ 2 _ rfl; (with_reducible repeat (first | apply bN_ | apply bD_ | apply bA_)); refine blk_put (cs := #[.int .i64 a0_0, .int .u64 0, .int .u64 0, .int .u64 0, .int .u64 0]) ?_ 1 _ rfl; (with_reducible repeat (first | apply bN_ | apply bD_ | apply bA_)); refine blk_put (cs := #[.int .i64 0, .int .u64 0, .int .u64 0, .int .u64 0, .int .u64 0]) ?_ 0 _ rfl; (with_reducible repeat (first | apply bN_ | apply bD_ | apply bA_)); exact BK208.out) Tryd.underlying29 rfl (by kernel_rfl)) rfl ?_
 exact ⟨by first | rfl | (simp [errW_none, errW_some] <;> rfl) | (simp [*, errW_none, errW_some] <;> rfl), by repeat (first | (with_reducible first | exact HB.out | apply ba_ | apply bn_ | apply bd_ | refine below_set ?_ GE207.out | refine below_set ?_ GE208.out) | exact HB.out)⟩
def bits_OnesCount64.f (a0 : Int) : Option (Int) := some (Go.bits .and .i64 (wrap64 (IntKind.u64.wrap ((IntKind.u64.wrap ((IntKind.u64.wrap ((Go.bits .and .u64 (IntKind.u64.wrap (((IntKind.u64.wrap ((Go.bits .and .u64 ((IntKind.u64.wrap ((Go.bits .and .u64 (a0 / 2) 6148914691236517205) + (Go.bits .and .u64 a0 6148914691236517205))) / 4) 3689348814741910323) + (Go.bits .and .u64 (IntKind.u64.wrap ((Go.bits .and .u64 (a0 / 2) 6148914691236517205) + (Go.bits .and .u64 a0 6148914691236517205))) 3689348814741910323))) / 16) + (IntKind.u64.wrap ((Go.bits .and .u64 ((IntKind.u64.wrap ((Go.bits .and .u64 (a0 / 2) 6148914691236517205) + (Go.bits .and .u64 a0 6148914691236517205))) / 4) 3689348814741910323) + (Go.bits .and .u64 (IntKind.u64.wrap ((Go.bits .and .u64 (a0 / 2) 6148914691236517205) + (Go.bits .and .u64 a0 6148914691236517205))) 3689348814741910323))))) 1085102592571150095) + ((Go.bits .and .u64 (IntKind.u64.wrap (((IntKind.u64.wrap ((Go.bits .and .u64 ((IntKind.u64.wrap ((Go.bits .and .u64 (a0 / 2) 6148914691236517205) + (Go.bits .and .u64 a0 6148914691236517205))) / 4) 3689348814741910323) + (Go.bits .and .u64 (IntKind.u64.wrap ((Go.bits .and .u64 (a0 / 2) 6148914691236517205) + (Go.bits .and .u64 a0 6148914691236517205))) 3689348814741910323))) / 16) + (IntKind.u64.wrap ((Go.bits .and .u64 ((IntKind.u64.wrap ((Go.bits .and .u64 (a0 / 2) 6148914691236517205) + (Go.bits .and .u64 a0 6148914691236517205))) / 4) 3689348814741910323) + (Go.bits .and .u64 (IntKind.u64.wrap ((Go.bits .and .u64 (a0 / 2) 6148914691236517205) + (Go.bits .and .u64 a0 6148914691236517205))) 3689348814741910323))))) 1085102592571150095) / 256))) + ((IntKind.u64.wrap ((Go.bits .and .u64 (IntKind.u64.wrap (((IntKind.u64.wrap ((Go.bits .and .u64 ((IntKind.u64.wrap ((Go.bits .and .u64 (a0 / 2) 6148914691236517205) + (Go.bits .and .u64 a0 6148914691236517205))) / 4) 3689348814741910323) + (Go.bits .and .u64 (IntKind.u64.wrap ((Go.bits .and .u64 (a0 / 2) 6148914691236517205) + (Go.bits .and .u64 a0 6148914691236517205))) 3689348814741910323))) / 16) + (IntKind.u64.wrap ((Go.bits .and .u64 ((IntKind.u64.wrap ((Go.bits .and .u64 (a0 / 2) 6148914691236517205) + (Go.bits .and .u64 a0 6148914691236517205))) / 4) 3689348814741910323) + (Go.bits .and .u64 (IntKind.u64.wrap ((Go.bits .and .u64 (a0 / 2) 6148914691236517205) + (Go.bits .and .u64 a0 6148914691236517205))) 3689348814741910323))))) 1085102592571150095) + ((Go.bits .and .u64 (IntKind.u64.wrap (((IntKind.u64.wrap ((Go.bits .and .u64 ((IntKind.u64.wrap ((Go.bits .and .u64 (a0 / 2) 6148914691236517205) + (Go.bits .and .u64 a0 6148914691236517205))) / 4) 3689348814741910323) + (Go.bits .and .u64 (IntKind.u64.wrap ((Go.bits .and .u64 (a0 / 2) 6148914691236517205) + (Go.bits .and .u64 a0 6148914691236517205))) 3689348814741910323))) / 16) + (IntKind.u64.wrap ((Go.bits .and .u64 ((IntKind.u64.wrap ((Go.bits .and .u64 (a0 / 2) 6148914691236517205) + (Go.bits .and .u64 a0 6148914691236517205))) / 4) 3689348814741910323) + (Go.bits .and .u64 (IntKind.u64.wrap ((Go.bits .and .u64 (a0 / 2) 6148914691236517205) + (Go.bits .and .u64 a0 6148914691236517205))) 3689348814741910323))))) 1085102592571150095) / 256))) / 65536))) + ((IntKind.u64.wrap ((IntKind.u64.wrap ((Go.bits .and .u64 (IntKind.u64.wrap (((IntKind.u64.wrap ((Go.bits .and .u64 ((IntKind.u64.wrap ((Go.bits .and .u64 (a0 / 2) 6148914691236517205) + (Go.bits .and .u64 a0 6148914691236517205))) / 4) 3689348814741910323) + (Go.bits .and .u64 (IntKind.u64.wrap ((Go.bits .and .u64 (a0 / 2) 6148914691236517205) + (Go.bits .and .u64 a0 6148914691236517205))) 3689348814741910323))) / 16) + (IntKind.u64.wrap ((Go.bits .and .u64 ((IntKind.u64.wrap ((Go.bits .and .u64 (a0 / 2) 6148914691236517205) + (Go.bits .and .u64 a0 6148914691236517205))) / 4) 3689348814741910323) + (Go.bits .and .u64 (IntKind.u64.wrap ((Go.bits .and .u64 (a0 / 2) 6148914691236517205) + (Go.bits .and .u64 a0 6148914691236517205))) 3689348814741910323))))) 1085102592571150095) + ((Go.bits .and .u64 (IntKind.u64.wrap (((IntKind.u64.wrap ((Go.bits .and .u64 ((IntKind.u64.wrap ((Go.bits .and .u64 (a0 / 2) 6148914691236517205) + (Go.bits .and .u64 a0 6148914691236517205))) / 4) 3689348814741910323) + (Go.bits .and .u64 (IntKind.u64.wrap ((Go.bits .and .u64 (a0 / 2) 6148914691236517205) + (Go.bits .and .u64 a0 6148914691236517205))) 3689348814741910323))) / 16) + (IntKind.u64.wrap ((Go.bits .and .u64 ((IntKind.u64.wrap ((Go.bits .and .u64 (a0 / 2) 6148914691236517205) + (Go.bits .and .u64 a0 6148914691236517205))) / 4) 3689348814741910323) + (Go.bits .and .u64 (IntKind.u64.wrap ((Go.bits .and .u64 (a0 / 2) 6148914691236517205) + (Go.bits .and .u64 a0 6148914691236517205))) 3689348814741910323))))) 1085102592571150095) / 256))) + ((IntKind.u64.wrap ((Go.bits .and .u64 (IntKind.u64.wrap (((IntKind.u64.wrap ((Go.bits .and .u64 ((IntKind.u64.wrap ((Go.bits .and .u64 (a0 / 2) 6148914691236517205) + (Go.bits .and .u64 a0 6148914691236517205))) / 4) 3689348814741910323) + (Go.bits .and .u64 (IntKind.u64.wrap ((Go.bits .and .u64 (a0 / 2) 6148914691236517205) + (Go.bits .and .u64 a0 6148914691236517205))) 3689348814741910323))) / 16) + (IntKind.u64.wrap ((Go.bits .and .u64 ((IntKind.u64.wrap ((Go.bits .and .u64 (a0 / 2) 6148914691236517205) + (Go.bits .and .u64 a0 6148914691236517205))) / 4) 3689348814741910323) + (Go.bits .and .u64 (IntKind.u64.wrap ((Go.bits .and .u64 (a0 / 2) 6148914691236517205) + (Go.bits .and .u64 a0 6148914691236517205))) 3689348814741910323))))) 1085102592571150095) + ((Go.bits .and .u64 (IntKind.u64.wrap (((IntKind.u64.wrap ((Go.bits .and .u64 ((IntKind.u64.wrap ((Go.bits .and .u64 (a0 / 2) 6148914691236517205) + (Go.bits .and .u64 a0 6148914691236517205))) / 4) 3689348814741910323) + (Go.bits .and .u64 (IntKind.u64.wrap ((Go.bits .and .u64 (a0 / 2) 6148914691236517205) + (Go.bits .and .u64 a0 6148914691236517205))) 3689348814741910323))) / 16) + (IntKind.u64.wrap ((Go.bits .and .u64 ((IntKind.u64.wrap ((Go.bits .and .u64 (a0 / 2) 6148914691236517205) + (Go.bits .and .u64 a0 6148914691236517205))) / 4) 3689348814741910323) + (Go.bits .and .u64 (IntKind.u64.wrap ((Go.bits .and .u64 (a0 / 2) 6148914691236517205) + (Go.bits .and .u64 a0 6148914691236517205))) 3689348814741910323))))) 1085102592571150095) / 256))) / 65536))) / 4294967296)))) 127)
set_option maxHeartbeats 8000000 in
set_option maxRecDepth 100000 in
theorem bits_OnesCount64.calls (a0 : Int) (r : Int) (w : World) (h : bits_OnesCount64.f a0 = some r) :
  Calls Tryd.prog 127 #[.int .u64 a0] w fun e w' => e = .returned (.int .i64 r) ∧ Drawn0 w w' := by
 have H : (some (Go.bits .and .i64 (wrap64 (IntKind.u64.wrap ((IntKind.u64.wrap ((IntKind.u64.wrap ((Go.bits .and .u64 (IntKind.u64.wrap (((IntKind.u64.wrap ((Go.bits .and .u64 ((IntKind.u64.wrap ((Go.bits .and .u64 (a0 / 2) 6148914691236517205) + (Go.bits .and .u64 a0 6148914691236517205))) / 4) 3689348814741910323) + (Go.bits .and .u64 (IntKind.u64.wrap ((Go.bits .and .u64 (a0 / 2) 6148914691236517205) + (Go.bits .and .u64 a0 6148914691236517205))) 3689348814741910323))) / 16) + (IntKind.u64.wrap ((Go.bits .and .u64 ((IntKind.u64.wrap ((Go.bits .and .u64 (a0 / 2) 6148914691236517205) + (Go.bits .and .u64 a0 6148914691236517205))) / 4) 3689348814741910323) + (Go.bits .and .u64 (IntKind.u64.wrap ((Go.bits .and .u64 (a0 / 2) 6148914691236517205) + (Go.bits .and .u64 a0 6148914691236517205))) 3689348814741910323))))) 1085102592571150095) + ((Go.bits .and .u64 (IntKind.u64.wrap (((IntKind.u64.wrap ((Go.bits .and .u64 ((IntKind.u64.wrap ((Go.bits .and .u64 (a0 / 2) 6148914691236517205) + (Go.bits .and .u64 a0 6148914691236517205))) / 4) 3689348814741910323) + (Go.bits .and .u64 (IntKind.u64.wrap ((Go.bits .and .u64 (a0 / 2) 6148914691236517205) + (Go.bits .and .u64 a0 6148914691236517205))) 3689348814741910323))) / 16) + (IntKind.u64.wrap ((Go.bits .and .u64 ((IntKind.u64.wrap ((Go.bits .and .u64 (a0 / 2) 6148914691236517205) + (Go.bits .and .u64 a0 6148914691236517205))) / 4) 3689348814741910323) + (Go.bits .and .u64 (IntKind.u64.wrap ((Go.bits .and .u64 (a0 / 2) 6148914691236517205) + (Go.bits .and .u64 a0 6148914691236517205))) 3689348814741910323))))) 1085102592571150095) / 256))) + ((IntKind.u64.wrap ((Go.bits .and .u64 (IntKind.u64.wrap (((IntKind.u64.wrap ((Go.bits .and .u64 ((IntKind.u64.wrap ((Go.bits .and .u64 (a0 / 2) 6148914691236517205) + (Go.bits .and .u64 a0 6148914691236517205))) / 4) 3689348814741910323) + (Go.bits .and .u64 (IntKind.u64.wrap ((Go.bits .and .u64 (a0 / 2) 6148914691236517205) + (Go.bits .and .u64 a0 6148914691236517205))) 3689348814741910323))) / 16) + (IntKind.u64.wrap ((Go.bits .and .u64 ((IntKind.u64.wrap ((Go.bits .and .u64 (a0 / 2) 6148914691236517205) + (Go.bits .and .u64 a0 6148914691236517205))) / 4) 3689348814741910323) + (Go.bits .and .u64 (IntKind.u64.wrap ((Go.bits .and .u64 (a0 / 2) 6148914691236517205) + (Go.bits .and .u64 a0 6148914691236517205))) 3689348814741910323))))) 1085102592571150095) + ((Go.bits .and .u64 (IntKind.u64.wrap (((IntKind.u64.wrap ((Go.bits .and .u64 ((IntKind.u64.wrap ((Go.bits .and .u64 (a0 / 2) 6148914691236517205) + (Go.bits .and .u64 a0 6148914691236517205))) / 4) 3689348814741910323) + (Go.bits .and .u64 (IntKind.u64.wrap ((Go.bits .and .u64 (a0 / 2) 6148914691236517205) + (Go.bits .and .u64 a0 6148914691236517205))) 3689348814741910323))) / 16) + (IntKind.u64.wrap ((Go.bits .and .u64 ((IntKind.u64.wrap ((Go.bits .and .u64 (a0 / 2) 6148914691236517205) + (Go.bits .and .u64 a0 6148914691236517205))) / 4) 3689348814741910323) + (Go.bits .and .u64 (IntKind.u64.wrap ((Go.bits .and .u64 (a0 / 2) 6148914691236517205) + (Go.bits .and .u64 a0 6148914691236517205))) 3689348814741910323))))) 1085102592571150095) / 256))) / 65536))) + ((IntKind.u64.wrap ((IntKind.u64.wrap ((Go.bits .and .u64 (IntKind.u64.wrap (((IntKind.u64.wrap ((Go.bits .and .u64 ((IntKind.u64.wrap ((Go.bits .and .u64 (a0 / 2) 6148914691236517205) + (Go.bits .and .u64 a0 6148914691236517205))) / 4) 3689348814741910323) + (Go.bits .and .u64 (IntKind.u64.wrap ((Go.bits .and .u64 (a0 / 2) 6148914691236517205) + (Go.bits .and .u64 a0 6148914691236517205))) 3689348814741910323))) / 16) + (IntKind.u64.wrap ((Go.bits .and .u64 ((IntKind.u64.wrap ((Go.bits .and .u64 (a0 / 2) 6148914691236517205) + (Go.bits .and .u64 a0 6148914691236517205))) / 4) 3689348814741910323) + (Go.bits .and .u64 (IntKind.u64.wrap ((Go.bits .and .u64 (a0 / 2) 6148914691236517205) + (Go.bits .and .u64 a0 6148914691236517205))) 3689348814741910323))))) 1085102592571150095) + ((Go.bits .and .u64 (IntKind.u64.wrap (((IntKind.u64.wrap ((Go.bits .and .u64 ((IntKind.u64.wrap ((Go.bits .and .u64 (a0 / 2) 6148914691236517205) + (Go.bits .and .u64 a0 6148914691236517205))) / 4) 3689348814741910323) + (Go.bits .and .u64 (IntKind.u64.wrap ((Go.bits .and .u64 (a0 / 2) 6148914691236517205) + (Go.bits .and .u64 a0 6148914691236517205))) 3689348814741910323))) / 16) + (IntKind.u64.wrap ((Go.bits .and .u64 ((IntKind.u64.wrap ((Go.bits .and .u64 (a0 / 2) 6148914691236517205) + (Go.bits .and .u64 a0 6148914691236517205))) / 4) 3689348814741910323) + (Go.bits .and .u64 (IntKind.u64.wrap ((Go.bits .and .u64 (a0 / 2) 6148914691236517205) + (Go.bits .and .u64 a0 6148914691236517205))) 3689348814741910323))))) 1085102592571150095) / 256))) + ((IntKind.u64.wrap ((Go.bits .and .u64 (IntKind.u64.wrap (((IntKind.u64.wrap ((Go.bits .and .u64 ((IntKind.u64.wrap ((Go.bits .and .u64 (a0 / 2) 6148914691236517205) + (Go.bits .and .u64 a0 6148914691236517205))) / 4) 3689348814741910323) + (Go.bits .and .u64 (IntKind.u64.wrap ((Go.bits .and .u64 (a0 / 2) 6148914691236517205) + (Go.bits .and .u64 a0 6148914691236517205))) 3689348814741910323))) / 16) + (IntKind.u64.wrap ((Go.bits .and .u64 ((IntKind.u64.wrap ((Go.bits .and .u64 (a0 / 2) 6148914691236517205) + (Go.bits .and .u64 a0 6148914691236517205))) / 4) 3689348814741910323) + (Go.bits .and .u64 (IntKind.u64.wrap ((Go.bits .and .u64 (a0 / 2) 6148914691236517205) + (Go.bits .and .u64 a0 6148914691236517205))) 3689348814741910323))))) 1085102592571150095) + ((Go.bits .and .u64 (IntKind.u64.wrap (((IntKind.u64.wrap ((Go.bits .and .u64 ((IntKind.u64.wrap ((Go.bits .and .u64 (a0 / 2) 6148914691236517205) + (Go.bits .and .u64 a0 6148914691236517205))) / 4) 3689348814741910323) + (Go.bits .and .u64 (IntKind.u64.wrap ((Go.bits .and .u64 (a0 / 2) 6148914691236517205) + (Go.bits .and .u64 a0 6148914691236517205))) 3689348814741910323))) / 16) + (IntKind.u64.wrap ((Go.bits .and .u64 ((IntKind.u64.wrap ((Go.bits .and .u64 (a0 / 2) 6148914691236517205) + (Go.bits .and .u64 a0 6148914691236517205))) / 4) 3689348814741910323) + (Go.bits .and .u64 (IntKind.u64.wrap ((Go.bits .and .u64 (a0 / 2) 6148914691236517205) + (Go.bits .and .u64 a0 6148914691236517205))) 3689348814741910323))))) 1085102592571150095) / 256))) / 65536))) / 4294967296)))) 127)) = some r := h
 clear h
 obtain rfl := Option.some.inj H
 go_enter Tryd.func127, Tryd.ntmps127
 go_wp2
 go_ret
 exact ⟨by first | rfl | (simp; done) | (simp [*]; done), by repeat (first | exact Drawn0.refl _ | apply Drawn0.step)⟩
def bits_OnesCount.f (a0 : Int) : Option (Int) := (bits_OnesCount64.f a0).bind fun t279 => (some t279)
set_option maxHeartbeats 8000000 in
set_option maxRecDepth 100000 in
theorem bits_OnesCount.calls (a0 : Int) (r : Int) (w : World) (h : bits_OnesCount.f a0 = some r) :
  Calls Tryd.prog 108 #[.int .u64 a0] w fun e w' => e = .returned (.int .i64 r) ∧ Drawn0 w w' := by
 have H : ((bits_OnesCount64.f a0).bind fun t279 => (some t279)) = some r := h
 clear h
 replace H := Option.bind_eq_some_iff.mp H
 obtain ⟨t279, A20, H⟩ := H
 replace H : (some t279) = some r := H
 have A2 := Aside0.mk A20
 clear A20
 obtain rfl := Option.some.inj H
 go_enter Tryd.func108, Tryd.ntmps108
 go_wp2_with (first | ((with_reducible refine gate_callee (f := 127) rfl ?_); refine goesL_ (some 7) rfl rfl Tryd.func127 (by kernel_rfl) rfl #[.int .u64 a0] rfl (by (try simp only [List.map_toArray, List.map_cons, List.map_nil]); first | done | rfl | (simp only [List.length_drop, List.length_take]; rfl)) ?_; (with_reducible refine (bits_OnesCount64.calls a0 t279 _ A2.out).mono ?_); rintro e w' ⟨rfl, ⟨nd, rfl⟩⟩; refine ⟨_, rfl, ?_⟩))
 go_ret
 exact ⟨by first | rfl | (simp; done) | (simp [*]; done), by repeat (first | exact Drawn0.refl _ | apply Drawn0.step)⟩
def table_turned.f (a0 : Int) (a1 : Int) : Option (Int) := if 0 ≤ a1 then (if 0 ≤ (wrap64 (6 - a1)) then (some (Go.bits .and .i64 (Go.bits .or .i64 (shl .i64 a0 a1) (shr .i64 a0 (wrap64 (6 - a1)))) 63)) else (none)) else (none)
set_option maxHeartbeats 8000000 in
set_option maxRecDepth 100000 in
theorem table_turned.calls (a0 : Int) (a1 : Int) (r : Int) (w : World) (h : table_turned.f a0 a1 = some r) :
  Calls Tryd.prog 128 #[.int .i64 a0, .int .i64 a1] w fun e w' => e = .returned (.int .i64 r) ∧ Drawn0 w w' := by
 have H : (if 0 ≤ a1 then (if 0 ≤ (wrap64 (6 - a1)) then (some (Go.bits .and .i64 (Go.bits .or .i64 (shl .i64 a0 a1) (shr .i64 a0 (wrap64 (6 - a1)))) 63)) else (none)) else (none)) = some r := h
 clear h
 by_cases c3 : 0 ≤ a1
 ·
  rw [if_pos c3] at H
  have c3b0 := eq_true c3
  have c3b1 : decide (0 ≤ a1) = true := decide_eq_true c3
  clear c3
  obtain ⟨ji4, hji4⟩ : ∃ j_ : Int, (shl .i64 a0 a1) = j_ := ⟨_, rfl⟩
  replace H : (if 0 ≤ (wrap64 (6 - a1)) then (some (Go.bits .and .i64 (Go.bits .or .i64 (ji4) (shr .i64 a0 (wrap64 (6 - a1)))) 63)) else (none)) = some r := by first | (rw [hji4] at H; exact H) | (simp only [hji4] at H ⊢; exact H)
  have hji4_ : (IntKind.i64.wrap (a0 * 2 ^ min a1.toNat 64)) = ji4 := hji4
  have hji4z : a1 ≤ 64 → (IntKind.i64.wrap (a0 * 2 ^ a1.toNat)) = ji4 := shl_small hji4
  have hji4y : (wrap64 (a0 * 2 ^ min a1.toNat 64)) = ji4 := (i64_w _).symm.trans hji4_
  have hji4x : a1 ≤ 64 → (wrap64 (a0 * 2 ^ a1.toNat)) = ji4 := fun h_ => (i64_w _).symm.trans (hji4z h_)
  obtain ⟨ji5, hji5⟩ : ∃ j_ : Int, (wrap64 (6 - a1)) = j_ := ⟨_, rfl⟩
  replace H : (if 0 ≤ (ji5) then (some (Go.bits .and .i64 (Go.bits .or .i64 (ji4) (shr .i64 a0 (ji5))) 63)) else (none)) = some r := by first | (rw [hji5] at H; exact H) | (simp only [hji5] at H ⊢; exact H)
  have hji5w : (IntKind.i64.wrap (6 - a1)) = ji5 := (i64_w _).trans hji5
  by_cases c6 : 0 ≤ (ji5)
  ·
   rw [if_pos c6] at H
   have c6b0 := eq_true c6
   have c6b1 : decide (0 ≤ (ji5)) = true := decide_eq_true c6
   clear c6
   obtain ⟨ji7, hji7⟩ : ∃ j_ : Int, (shr .i64 a0 (ji5)) = j_ := ⟨_, rfl⟩
   replace H : (some (Go.bits .and .i64 (Go.bits .or .i64 (ji4) (ji7)) 63)) = some r := by first | (rw [hji7] at H; exact H) | (simp only [hji7] at H ⊢; exact H)
   have hji7_ : (a0 / 2 ^ min (ji5).toNat 64) = ji7 := hji7
   have hji7z : (ji5) ≤ 64 → (a0 / 2 ^ (ji5).toNat) = ji7 := shr_small hji7
   obtain rfl := Option.some.inj H
   go_enter Tryd.func128, Tryd.ntmps128
   go_wp2
   repeat (go_quiet (fail); try go_wp2)
   go_ret
   exact ⟨by first | rfl | (simp; done) | (simp only [← hji4, ← hji5, ← hji7] <;> (first | rfl | simp)) | (simp [*]; done), by repeat (first | exact Drawn0.refl _ | apply Drawn0.step)⟩
  ·
   rw [if_neg c6] at H
   exact absurd H (by simp)
 ·
  rw [if_neg c3] at H
  exact absurd H (by simp)
end Go.Proofs.YtaeenefdbahfoaaDoor.H
namespace Go.Proofs.YtaeenefdbahfoaaDoor
set_option linter.unusedSimpArgs false
set_option linter.unusedVariables false
open Go.RowKit Go.Proofs.YtaeenefdbahfoaaDoorW.PrintWords Go.Proofs.YtaeenefdbahfoaaDoorW.PrintLast Go.Proofs.YtaeenefdbahfoaaDoorW.PrintMore
open H
open Go.RowKit
theorem tgood (l : Int) (w : World) : Calls Tryd.prog 80 #[.int .i64 l] w fun e w' => e = .returned (.bool (decide (1 ≤ l ∧ l ≤ 3))) ∧ Below w.heap.size w w' :=
  (lgood_any l w).mono fun _ _ h => ⟨h.1, h.2 ▸ Below.refl _ _⟩
theorem thalves (l : Int) (w : World) : Calls Tryd.prog 87 #[.int .i64 l] w fun e w' => e = .returned (.int .i64 (halvesR l)) ∧ Below w.heap.size w w' :=
  (halves_any l w).mono fun _ _ h => ⟨h.1, h.2 ▸ Below.refl _ _⟩
theorem tmost (l m : Int) (h : table_most.f l = some m) (w : World) : Calls Tryd.prog 86 #[.int .i64 l] w fun e w' => e = .returned (.int .i64 m) ∧ Below w.heap.size w w' :=
  (table_most.calls l m w h).mono fun _ _ h => ⟨h.1, h.2.below⟩
set_option maxRecDepth 100000 in
theorem tcheck_bad (l b0 b1 s0 s1 : Int) (w : World) (hl : ¬ (1 ≤ l ∧ l ≤ 3)) :
    Calls Tryd.prog 53 #[.agg #[.int .i64 l, .int .u64 b0, .int .u64 b1, .int .u64 s0, .int .u64 s1]] w fun e w' => e = .returned (errW (some 11)) ∧ Below w.heap.size w w' := by
  have hg := fun W => tgood l W
  rw [decide_eq_false hl] at hg
  go_enter Tryd.func53, Tryd.ntmps53
  go_wp2_with fail
  obtain ⟨w1, hw1, hcc, hsz, hB1⟩ := one_new w #[.int .i64 l, .int .u64 b0, .int .u64 b1, .int .u64 s0, .int .u64 s1] 29
  rw [← hw1]
  have HB1 := Aside0.mk hB1
  clear hw1 hcc
  refine (hg _).mono ?_
  rintro e w2 ⟨rfl, hb⟩
  have HB := Aside0.mk (HB1.out.trans (hb.mono (by omega)))
  clear hb hB1
  go_wp2
  go_ret
  exact ⟨rfl, HB.out⟩
def badH (b s out : Int) : Bool := (Go.bits .and .u64 b (Go.bits .or .u64 out 1) != 0) || (Go.bits .and .u64 s out != 0)
set_option maxRecDepth 100000 in
set_option maxHeartbeats 2000000 in
theorem tcheck_1 (b0 b1 s0 s1 : Int) (w : World) (X : Option Int) (hX : X = if (badH b0 s0 0 || badH b1 s1 18446744073709551615) = true then some 5 else none) :
    Calls Tryd.prog 53 #[.agg #[.int .i64 1, .int .u64 b0, .int .u64 b1, .int .u64 s0, .int .u64 s1]] w fun e w' => e = .returned (errW X) ∧ Below w.heap.size w w' := by
  have HX := Aside0.mk hX
  clear hX
  have hg := fun W => tgood 1 W
  have hm := fun W => tmost 1 63 rfl W
  have hh := fun W => thalves 1 W
  rw [decide_eq_true (by decide)] at hg
  rw [show halvesR 1 = 1 from rfl] at hh
  go_enter Tryd.func53, Tryd.ntmps53
  go_wp2_with fail
  obtain ⟨w1, hw1, hcc, hsz, hB1⟩ := one_new w #[.int .i64 1, .int .u64 b0, .int .u64 b1, .int .u64 s0, .int .u64 s1] 29
  rw [← hw1]
  have y0 : w1.cell? ⟨w.heap.size, 0, none⟩ = some (.int .i64 1) := hcc 0 _ rfl
  have y1 : w1.cell? ⟨w.heap.size, 1, none⟩ = some (.int .u64 b0) := hcc 1 _ rfl
  have y2 : w1.cell? ⟨w.heap.size, 2, none⟩ = some (.int .u64 b1) := hcc 2 _ rfl
  have y3 : w1.cell? ⟨w.heap.size, 3, none⟩ = some (.int .u64 s0) := hcc 3 _ rfl
  have y4 : w1.cell? ⟨w.heap.size, 4, none⟩ = some (.int .u64 s1) := hcc 4 _ rfl
  have HB1 := Aside0.mk hB1
  clear hw1 hcc hB1
  refine (hg _).mono ?_
  rintro e w2 ⟨rfl, hb⟩
  have y0 := pw_cell_below hb y0
  have y1 := pw_cell_below hb y1
  have y2 := pw_cell_below hb y2
  have y3 := pw_cell_below hb y3
  have y4 := pw_cell_below hb y4
  have HB := Aside0.mk (HB1.out.trans (hb.mono (by omega)))
  clear hb
  go_wp2_with fail
  refine (hm _).mono ?_
  rintro e w3 ⟨rfl, hb⟩
  have y0 := pw_cell_below hb y0
  have y1 := pw_cell_below hb y1
  have y2 := pw_cell_below hb y2
  have y3 := pw_cell_below hb y3
  have y4 := pw_cell_below hb y4
  have hz3 := hb.size
  have HB := Aside0.mk (HB.out.trans (hb.mono (by have := HB.out.size; omega)))
  clear hb
  go_wp2_with fail
  have Y0 := Aside0.mk y0
  have Y1 := Aside0.mk y1
  have Y2 := Aside0.mk y2
  have Y3 := Aside0.mk y3
  have Y4 := Aside0.mk y4
  clear y0 y1 y2 y3 y4
  have hzw := HB.out.size
  go_loopw [20] (fun i wr => ∃ j : Nat, j ≤ 2 ∧ i = .int .i64 j ∧ (0 < j → badH b0 s0 0 = false) ∧ (1 < j → badH b1 s1 18446744073709551615 = false) ∧ Below w3.heap.size w3 wr) (fun i _ => 2 - (intOf i).toNat)
  case atStart => exact ⟨0, by omega, rfl, fun h => absurd h (by omega), fun h => absurd h (by omega), Below.refl _ _⟩
  case round =>
    obtain ⟨j, hj, rfl, g0, g1, hb⟩ := hrel
    have G0 := Aside0.mk g0
    have G1 := Aside0.mk g1
    clear g0 g1
    have y0 := pw_cell_below hb Y0.out
    have y1 := pw_cell_below hb Y1.out
    have y2 := pw_cell_below hb Y2.out
    have y3 := pw_cell_below hb Y3.out
    have y4 := pw_cell_below hb Y4.out
    have HBR := Aside0.mk hb
    clear hb
    have hjj : j = 0 ∨ j = 1 ∨ j = 2 := by omega
    rcases hjj with rfl | rfl | rfl
    · go_wp2_with fail
      refine (hh _).mono ?_
      rintro e w4 ⟨rfl, hb⟩
      have z0 := pw_cell_below hb y0
      have z1 := pw_cell_below hb y1
      have z2 := pw_cell_below hb y2
      have z3 := pw_cell_below hb y3
      have z4 := pw_cell_below hb y4
      have hzr := HBR.out.size
      have HB4 := Aside0.mk (HBR.out.trans (hb.mono (by omega)))
      clear y0 y1 y2 y3 y4 hb
      go_wp2_with fail
      all_goals first
        | (go_roundw; (case rel => exact ⟨1, by omega, by first | rfl | go_num, fun _ => by simp [badH, *], fun h => absurd h (by omega), HB4.out⟩); (case measure => simp [intOf]))
        | (go_ret; refine ⟨?_, HB.out.trans (HB4.out.mono (by omega))⟩; rw [HX.out]; simp [badH, errW, *])
    · go_wp2_with fail
      refine (hh _).mono ?_
      rintro e w4 ⟨rfl, hb⟩
      have z0 := pw_cell_below hb y0
      have z1 := pw_cell_below hb y1
      have z2 := pw_cell_below hb y2
      have z3 := pw_cell_below hb y3
      have z4 := pw_cell_below hb y4
      have hzr := HBR.out.size
      have HB4 := Aside0.mk (HBR.out.trans (hb.mono (by omega)))
      clear y0 y1 y2 y3 y4 hb
      go_wp2_with fail
      all_goals first
        | (go_roundw; (case rel => exact ⟨2, by omega, by first | rfl | go_num, fun _ => G0.out (by omega), fun _ => by simp [badH, *], HB4.out⟩); (case measure => simp [intOf]))
        | (go_ret; refine ⟨?_, HB.out.trans (HB4.out.mono (by omega))⟩; rw [HX.out]; simp [badH, errW, *])
    · have r0 := G0.out (by omega)
      have r1 := G1.out (by omega)
      have hX : X = none := by rw [HX.out, r0, r1]; rfl
      subst hX
      clear y0 y1 y2 y3 y4
      go_wp2
      go_ret
      exact ⟨rfl, HB.out.trans (HBR.out.mono (by have := HB.out.size; omega))⟩
set_option maxRecDepth 100000 in
set_option maxHeartbeats 2000000 in
theorem tcheck_2 (b0 b1 s0 s1 : Int) (w : World) (X : Option Int) (hX : X = if (badH b0 s0 18446744073709551600 || badH b1 s1 18446744073709551600) = true then some 5 else none) :
    Calls Tryd.prog 53 #[.agg #[.int .i64 2, .int .u64 b0, .int .u64 b1, .int .u64 s0, .int .u64 s1]] w fun e w' => e = .returned (errW X) ∧ Below w.heap.size w w' := by
  have hwr : IntKind.u64.wrap 295147905179352825840 = 18446744073709551600 := by decide
  have HX := Aside0.mk hX
  clear hX
  have hg := fun W => tgood 2 W
  have hm := fun W => tmost 2 3 rfl W
  have hh := fun W => thalves 2 W
  rw [decide_eq_true (by decide)] at hg
  rw [show halvesR 2 = 2 from rfl] at hh
  go_enter Tryd.func53, Tryd.ntmps53
  go_wp2_with fail
  obtain ⟨w1, hw1, hcc, hsz, hB1⟩ := one_new w #[.int .i64 2, .int .u64 b0, .int .u64 b1, .int .u64 s0, .int .u64 s1] 29
  rw [← hw1]
  have y0 : w1.cell? ⟨w.heap.size, 0, none⟩ = some (.int .i64 2) := hcc 0 _ rfl
  have y1 : w1.cell? ⟨w.heap.size, 1, none⟩ = some (.int .u64 b0) := hcc 1 _ rfl
  have y2 : w1.cell? ⟨w.heap.size, 2, none⟩ = some (.int .u64 b1) := hcc 2 _ rfl
  have y3 : w1.cell? ⟨w.heap.size, 3, none⟩ = some (.int .u64 s0) := hcc 3 _ rfl
  have y4 : w1.cell? ⟨w.heap.size, 4, none⟩ = some (.int .u64 s1) := hcc 4 _ rfl
  have HB1 := Aside0.mk hB1
  clear hw1 hcc hB1
  refine (hg _).mono ?_
  rintro e w2 ⟨rfl, hb⟩
  have y0 := pw_cell_below hb y0
  have y1 := pw_cell_below hb y1
  have y2 := pw_cell_below hb y2
  have y3 := pw_cell_below hb y3
  have y4 := pw_cell_below hb y4
  have HB := Aside0.mk (HB1.out.trans (hb.mono (by omega)))
  clear hb
  go_wp2_with fail
  refine (hm _).mono ?_
  rintro e w3 ⟨rfl, hb⟩
  have y0 := pw_cell_below hb y0
  have y1 := pw_cell_below hb y1
  have y2 := pw_cell_below hb y2
  have y3 := pw_cell_below hb y3
  have y4 := pw_cell_below hb y4
  have hz3 := hb.size
  have HB := Aside0.mk (HB.out.trans (hb.mono (by have := HB.out.size; omega)))
  clear hb
  go_wp2_with fail
  have Y0 := Aside0.mk y0
  have Y1 := Aside0.mk y1
  have Y2 := Aside0.mk y2
  have Y3 := Aside0.mk y3
  have Y4 := Aside0.mk y4
  clear y0 y1 y2 y3 y4
  have hzw := HB.out.size
  go_loopw [20] (fun i wr => ∃ j : Nat, j ≤ 2 ∧ i = .int .i64 j ∧ (0 < j → badH b0 s0 18446744073709551600 = false) ∧ (1 < j → badH b1 s1 18446744073709551600 = false) ∧ Below w3.heap.size w3 wr) (fun i _ => 2 - (intOf i).toNat)
  case atStart => exact ⟨0, by omega, rfl, fun h => absurd h (by omega), fun h => absurd h (by omega), Below.refl _ _⟩
  case round =>
    obtain ⟨j, hj, rfl, g0, g1, hb⟩ := hrel
    have G0 := Aside0.mk g0
    have G1 := Aside0.mk g1
    clear g0 g1
    have y0 := pw_cell_below hb Y0.out
    have y1 := pw_cell_below hb Y1.out
    have y2 := pw_cell_below hb Y2.out
    have y3 := pw_cell_below hb Y3.out
    have y4 := pw_cell_below hb Y4.out
    have HBR := Aside0.mk hb
    clear hb
    have hjj : j = 0 ∨ j = 1 ∨ j = 2 := by omega
    rcases hjj with rfl | rfl | rfl
    · go_wp2_with fail
      refine (hh _).mono ?_
      rintro e w4 ⟨rfl, hb⟩
      have z0 := pw_cell_below hb y0
      have z1 := pw_cell_below hb y1
      have z2 := pw_cell_below hb y2
      have z3 := pw_cell_below hb y3
      have z4 := pw_cell_below hb y4
      have hzr := HBR.out.size
      have HB4 := Aside0.mk (HBR.out.trans (hb.mono (by omega)))
      clear y0 y1 y2 y3 y4 hb
      go_wp2_with fail
      all_goals first
        | (go_roundw; (case rel => exact ⟨1, by omega, by first | rfl | go_num, fun _ => by simp [badH, *], fun h => absurd h (by omega), HB4.out⟩); (case measure => simp [intOf]))
        | (go_ret; refine ⟨?_, HB.out.trans (HB4.out.mono (by omega))⟩; rw [HX.out]; simp [badH, errW, *])
    · go_wp2_with fail
      refine (hh _).mono ?_
      rintro e w4 ⟨rfl, hb⟩
      have z0 := pw_cell_below hb y0
      have z1 := pw_cell_below hb y1
      have z2 := pw_cell_below hb y2
      have z3 := pw_cell_below hb y3
      have z4 := pw_cell_below hb y4
      have hzr := HBR.out.size
      have HB4 := Aside0.mk (HBR.out.trans (hb.mono (by omega)))
      clear y0 y1 y2 y3 y4 hb
      go_wp2_with fail
      all_goals first
        | (go_roundw; (case rel => exact ⟨2, by omega, by first | rfl | go_num, fun _ => G0.out (by omega), fun _ => by simp [badH, *], HB4.out⟩); (case measure => simp [intOf]))
        | (go_ret; refine ⟨?_, HB.out.trans (HB4.out.mono (by omega))⟩; rw [HX.out]; simp [badH, errW, *])
    · have r0 := G0.out (by omega)
      have r1 := G1.out (by omega)
      have hX : X = none := by rw [HX.out, r0, r1]; rfl
      subst hX
      clear y0 y1 y2 y3 y4
      go_wp2
      go_ret
      exact ⟨rfl, HB.out.trans (HBR.out.mono (by have := HB.out.size; omega))⟩
set_option maxRecDepth 100000 in
set_option maxHeartbeats 2000000 in
theorem tcheck_3 (b0 b1 s0 s1 : Int) (w : World) (X : Option Int) (hX : X = if (badH b0 s0 18446744073709543424 || badH b1 s1 18446744073709543424) = true then some 5 else none) :
    Calls Tryd.prog 53 #[.agg #[.int .i64 3, .int .u64 b0, .int .u64 b1, .int .u64 s0, .int .u64 s1]] w fun e w' => e = .returned (errW X) ∧ Below w.heap.size w w' := by
  have hwr : IntKind.u64.wrap 151115727451828646830080 = 18446744073709543424 := by decide
  have HX := Aside0.mk hX
  clear hX
  have hg := fun W => tgood 3 W
  have hm := fun W => tmost 3 12 rfl W
  have hh := fun W => thalves 3 W
  rw [decide_eq_true (by decide)] at hg
  rw [show halvesR 3 = 2 from rfl] at hh
  go_enter Tryd.func53, Tryd.ntmps53
  go_wp2_with fail
  obtain ⟨w1, hw1, hcc, hsz, hB1⟩ := one_new w #[.int .i64 3, .int .u64 b0, .int .u64 b1, .int .u64 s0, .int .u64 s1] 29
  rw [← hw1]
  have y0 : w1.cell? ⟨w.heap.size, 0, none⟩ = some (.int .i64 3) := hcc 0 _ rfl
  have y1 : w1.cell? ⟨w.heap.size, 1, none⟩ = some (.int .u64 b0) := hcc 1 _ rfl
  have y2 : w1.cell? ⟨w.heap.size, 2, none⟩ = some (.int .u64 b1) := hcc 2 _ rfl
  have y3 : w1.cell? ⟨w.heap.size, 3, none⟩ = some (.int .u64 s0) := hcc 3 _ rfl
  have y4 : w1.cell? ⟨w.heap.size, 4, none⟩ = some (.int .u64 s1) := hcc 4 _ rfl
  have HB1 := Aside0.mk hB1
  clear hw1 hcc hB1
  refine (hg _).mono ?_
  rintro e w2 ⟨rfl, hb⟩
  have y0 := pw_cell_below hb y0
  have y1 := pw_cell_below hb y1
  have y2 := pw_cell_below hb y2
  have y3 := pw_cell_below hb y3
  have y4 := pw_cell_below hb y4
  have HB := Aside0.mk (HB1.out.trans (hb.mono (by omega)))
  clear hb
  go_wp2_with fail
  refine (hm _).mono ?_
  rintro e w3 ⟨rfl, hb⟩
  have y0 := pw_cell_below hb y0
  have y1 := pw_cell_below hb y1
  have y2 := pw_cell_below hb y2
  have y3 := pw_cell_below hb y3
  have y4 := pw_cell_below hb y4
  have hz3 := hb.size
  have HB := Aside0.mk (HB.out.trans (hb.mono (by have := HB.out.size; omega)))
  clear hb
  go_wp2_with fail
  have Y0 := Aside0.mk y0
  have Y1 := Aside0.mk y1
  have Y2 := Aside0.mk y2
  have Y3 := Aside0.mk y3
  have Y4 := Aside0.mk y4
  clear y0 y1 y2 y3 y4
  have hzw := HB.out.size
  go_loopw [20] (fun i wr => ∃ j : Nat, j ≤ 2 ∧ i = .int .i64 j ∧ (0 < j → badH b0 s0 18446744073709543424 = false) ∧ (1 < j → badH b1 s1 18446744073709543424 = false) ∧ Below w3.heap.size w3 wr) (fun i _ => 2 - (intOf i).toNat)
  case atStart => exact ⟨0, by omega, rfl, fun h => absurd h (by omega), fun h => absurd h (by omega), Below.refl _ _⟩
  case round =>
    obtain ⟨j, hj, rfl, g0, g1, hb⟩ := hrel
    have G0 := Aside0.mk g0
    have G1 := Aside0.mk g1
    clear g0 g1
    have y0 := pw_cell_below hb Y0.out
    have y1 := pw_cell_below hb Y1.out
    have y2 := pw_cell_below hb Y2.out
    have y3 := pw_cell_below hb Y3.out
    have y4 := pw_cell_below hb Y4.out
    have HBR := Aside0.mk hb
    clear hb
    have hjj : j = 0 ∨ j = 1 ∨ j = 2 := by omega
    rcases hjj with rfl | rfl | rfl
    · go_wp2_with fail
      refine (hh _).mono ?_
      rintro e w4 ⟨rfl, hb⟩
      have z0 := pw_cell_below hb y0
      have z1 := pw_cell_below hb y1
      have z2 := pw_cell_below hb y2
      have z3 := pw_cell_below hb y3
      have z4 := pw_cell_below hb y4
      have hzr := HBR.out.size
      have HB4 := Aside0.mk (HBR.out.trans (hb.mono (by omega)))
      clear y0 y1 y2 y3 y4 hb
      go_wp2_with fail
      all_goals first
        | (go_roundw; (case rel => exact ⟨1, by omega, by first | rfl | go_num, fun _ => by simp [badH, *], fun h => absurd h (by omega), HB4.out⟩); (case measure => simp [intOf]))
        | (go_ret; refine ⟨?_, HB.out.trans (HB4.out.mono (by omega))⟩; rw [HX.out]; simp [badH, errW, *])
    · go_wp2_with fail
      refine (hh _).mono ?_
      rintro e w4 ⟨rfl, hb⟩
      have z0 := pw_cell_below hb y0
      have z1 := pw_cell_below hb y1
      have z2 := pw_cell_below hb y2
      have z3 := pw_cell_below hb y3
      have z4 := pw_cell_below hb y4
      have hzr := HBR.out.size
      have HB4 := Aside0.mk (HBR.out.trans (hb.mono (by omega)))
      clear y0 y1 y2 y3 y4 hb
      go_wp2_with fail
      all_goals first
        | (go_roundw; (case rel => exact ⟨2, by omega, by first | rfl | go_num, fun _ => G0.out (by omega), fun _ => by simp [badH, *], HB4.out⟩); (case measure => simp [intOf]))
        | (go_ret; refine ⟨?_, HB.out.trans (HB4.out.mono (by omega))⟩; rw [HX.out]; simp [badH, errW, *])
    · have r0 := G0.out (by omega)
      have r1 := G1.out (by omega)
      have hX : X = none := by rw [HX.out, r0, r1]; rfl
      subst hX
      clear y0 y1 y2 y3 y4
      go_wp2
      go_ret
      exact ⟨rfl, HB.out.trans (HBR.out.mono (by have := HB.out.size; omega))⟩
/-- what may be of a table, beyond its lattice -/
def restT (l : Int) : Int := if l = 1 then 0 else if l = 2 then 18446744073709551600 else 18446744073709543424
def outT (l : Int) : Int := if l = 1 then 18446744073709551615 else restT l
def checkT (l b0 b1 s0 s1 : Int) : Option Int := if 1 ≤ l ∧ l ≤ 3 then (if (badH b0 s0 (restT l) || badH b1 s1 (outT l)) = true then some 5 else none) else some 11
def XTCheck.f (l b0 b1 s0 s1 : Int) : Option (Option Int) := some (checkT l b0 b1 s0 s1)
theorem XTCheck.calls (a0_0 : Int) (a0_1 : Int) (a0_2 : Int) (a0_3 : Int) (a0_4 : Int) (r : Option Int) (w : World) (h : XTCheck.f a0_0 a0_1 a0_2 a0_3 a0_4 = some r) :
    Calls Tryd.prog 53 #[.agg #[.int .i64 a0_0, .int .u64 a0_1, .int .u64 a0_2, .int .u64 a0_3, .int .u64 a0_4]] w fun e w' => e = .returned (errW r) ∧ Below w.heap.size w w' := by
  unfold XTCheck.f at h
  obtain rfl := Option.some.inj h
  unfold checkT
  by_cases hl : 1 ≤ a0_0 ∧ a0_0 ≤ 3
  · rw [if_pos hl]
    have hc : a0_0 = 1 ∨ a0_0 = 2 ∨ a0_0 = 3 := by omega
    rcases hc with rfl | rfl | rfl
    · exact tcheck_1 _ _ _ _ w _ rfl
    · exact tcheck_2 _ _ _ _ w _ rfl
    · exact tcheck_3 _ _ _ _ w _ rfl
  · rw [if_neg hl]
    exact tcheck_bad _ _ _ _ _ w hl
end Go.Proofs.YtaeenefdbahfoaaDoor
namespace Go.Proofs.YtaeenefdbahfoaaDoor
set_option linter.unusedSimpArgs false
set_option linter.unusedVariables false
open Go.RowKit Go.Proofs.YtaeenefdbahfoaaDoorW.PrintWords Go.Proofs.YtaeenefdbahfoaaDoorW.PrintLast Go.Proofs.YtaeenefdbahfoaaDoorW.PrintMore
open H
open Go.RowKit
theorem rdC (l : List CL) (j : Nat) (hj : j < l.length) : rd_T65 l j = l[j] := by simp [rd_T65, hj]
theorem rdR (l : List RC) (j : Nat) (hj : j < l.length) : rd_T60 l j = l[j] := by simp [rd_T60, hj]
theorem neq_cell (x y : CL) : ((!(x.f0.f0 == y.f0.f0) || (!(x.f0.f1 == y.f0.f1))) || (!(x.f1 == y.f1))) = !decide (x = y) := by
  by_cases h : x = y
  · subst h; simp
  · rw [decide_eq_false h]
    by_cases h0 : x.f0.f0 = y.f0.f0
    · by_cases h1 : x.f0.f1 = y.f0.f1
      · have h2 : ¬ x.f1 = y.f1 := fun e => h (cl_ext h0 h1 e)
        simp [h2]
      · simp [h1]
    · simp [h0]
theorem chk_l0 (l : List CL) (t : Int) (hs : Srt l) (hc : ∀ x ∈ l, checkR t x.f0.f0 x.f0.f1 x.f1 = none) (hn : l.length < 1099511627776) : ∀ (d k : Nat) (j : Nat), j + d = l.length → d + 1 < k → set_Set_Check.l0 k l t l l.length j = some none := by
  intro d
  induction d with
  | zero =>
    intro k j hj hk
    obtain ⟨k, rfl⟩ : ∃ m, k = m + 1 := ⟨k - 1, by omega⟩
    simp only [set_Set_Check.l0]
    rw [if_neg (by omega)]
  | succ d ih =>
    intro k j hj hk
    obtain ⟨k, rfl⟩ : ∃ m, k = m + 2 := ⟨k - 2, by omega⟩
    have h1 : j < l.length := by omega
    have hij := ih (k + 1) (j + 1) (by omega) (by omega)
    simp only [Int.natCast_add, Int.cast_ofNat_Int] at hij
    rw [show k + 2 = (k + 1) + 1 from rfl, set_Set_Check.l0, if_pos (by omega), if_pos (by omega), if_pos (by omega), rdC l j h1, check_f, hc _ (List.getElem_mem h1)]
    simp only [Option.bind_some, Option.isNone_none, ↓reduceIte]
    rw [w64i ((j : Int) + 1) (by omega) (by omega)]
    by_cases hj0 : j = 0
    · subst hj0
      rw [if_neg (by omega)]
      exact hij
    · obtain ⟨i, rfl⟩ : ∃ i, j = i + 1 := ⟨j - 1, by omega⟩
      rw [if_pos (by omega), w64i (((i + 1 : Nat) : Int) - 1) (by omega) (by omega), show (((i + 1 : Nat) : Int) - 1) = (i : Int) by omega, if_pos (by omega), if_pos (by omega), rdC l i (by omega), cmp_f]
      have hlt : cmpCell l[i] l[i + 1] < 0 := List.pairwise_iff_getElem.1 hs i (i + 1) (by omega) h1 (by omega)
      simp only [Option.bind_some]
      rw [if_neg (by omega)]
      exact hij
theorem chk_f (k : Nat) (l : List CL) (t : Int) (h1 : 1 ≤ t) (h3 : t ≤ 3) (hs : Srt l) (hc : ∀ x ∈ l, checkR t x.f0.f0 x.f0.f1 x.f1 = none) (hn : l.length < 1099511627776) (hk : l.length + 1 < k) : set_Set_Check.f k l t = some none := by
  unfold set_Set_Check.f
  rw [lGood_f, decide_eq_true ⟨h1, h3⟩]
  simp only [Option.bind_some, ↓reduceIte]
  have := chk_l0 l t hs hc hn l.length k 0 (by omega) hk
  simpa using this
end Go.Proofs.YtaeenefdbahfoaaDoor
namespace Go.Proofs.YtaeenefdbahfoaaDoor
set_option linter.unusedSimpArgs false
set_option linter.unusedVariables false
open Go.ChangeMaps Go.MapKept Go.WideShapes
open Go.Maps (Keyed)
section
variable {P : Program} {k e t : TypeId} {w : World} {b r : Nat} {l todo : List (Value × Value)}
/-- block r of w is an iterator over the map in block b (entries l), and these are still to come, in some order -/
def RangeAt (P : Program) (k : TypeId) (w : World) (b r : Nat) (l todo : List (Value × Value)) : Prop :=
  ∃ es clock since seen c0, w.heap[b]? = some (.map es clock) ∧ Stamped es clock ∧ (∀ x ∈ es.toList, ∃ kl, keyOf P k x.key = some kl) ∧ es.toList.map (fun e => (e.key, e.val)) = l ∧
    w.heap[r]? = some (.mapIter (some b) since seen c0) ∧ (∀ x ∈ es.toList, x.born < since) ∧ since ≤ c0 ∧ since ≤ clock ∧ ((leftOf es seen).toList.map (fun e => (e.key, e.val))).Perm todo
theorem RangeAt.map (h : RangeAt P k w b r l todo) : MapAt P k w b l := by
  obtain ⟨es, clock, _, _, _, h1, h2, h3, h4, _⟩ := h
  exact ⟨es, clock, h1, h2, h3, h4⟩
theorem RangeAt.of_heap {w' : World} (h : RangeAt P k w b r l todo) (hb : w'.heap[b]? = w.heap[b]?) (hr : w'.heap[r]? = w.heap[r]?) : RangeAt P k w' b r l todo := by
  obtain ⟨es, clock, since, seen, c0, h1, h2, h3, h4, h5, h6⟩ := h
  exact ⟨es, clock, since, seen, c0, hb.trans h1, h2, h3, h4, hr.trans h5, h6⟩
theorem MapAt.range (h : MapAt P k w b l) (ht : P.underlying t = some (.map k e)) :
    ∃ o : Obj, (Instr.range t (.map (some b))).run P w = .ok (.pointer (some ⟨w.heap.size, 0, none⟩)) (w.alloc o) ∧ RangeAt P k (w.alloc o) b w.heap.size l l := by
  have hlt := h.lt
  obtain ⟨es, clock, hb, hs, hk, hl⟩ := h
  refine ⟨.mapIter (some b) clock #[] clock, ?_, es, clock, clock, #[], clock, ?_, hs, hk, hl, (MapKept.heap_alloc w _).1, hs.1, Nat.le_refl _, Nat.le_refl _, ?_⟩
  · simp [Instr.range, run_underlying ht, MapKept.run_getObj_map hb, Result.andThen]
  · rw [(MapKept.heap_alloc w _).2 b (by omega)]
    exact hb
  · have : (leftOf es #[]).toList = es.toList := by simp [leftOf]
    rw [this, hl]
theorem RangeAt.next (h : RangeAt P k w b r l todo) (hne : r ≠ b) (ty : TypeId) :
    (todo = [] ∧ (Instr.next (.pointer (some ⟨r, 0, none⟩)) false ty).run P w = .ok (.tuple #[.bool false]) w) ∨
    ∃ p todo' w1, todo.Perm (p :: todo') ∧ p ∈ l ∧ (Instr.next (.pointer (some ⟨r, 0, none⟩)) false ty).run P w = .ok (.tuple #[.bool true, p.1, p.2]) w1 ∧ RangeAt P k w1 b r l todo' ∧
      (∀ W : World, W.heap[b]? = w1.heap[b]? → W.heap[r]? = w1.heap[r]? → (Instr.entry (.pointer (some ⟨r, 0, none⟩))).run P W = .ok (.tuple #[p.1, p.2]) W) ∧
      w1.os = w.os ∧ w1.tape = w.tape ∧ w1.output = w.output ∧ w1.heap.size = w.heap.size ∧ ∀ i, i ≠ r → w1.heap[i]? = w.heap[i]? := by
  obtain ⟨es, clock, since, seen, c0, hb, hs, hk, hl, hr, hold, hsc, hscl, hp⟩ := h
  rcases run_next_at (P := P) w ty r b since c0 seen es clock hr hb hold hsc with ⟨h0, hrun⟩ | ⟨x, hx, w1, hw1, hrun⟩
  · refine .inl ⟨?_, hrun⟩
    have : leftOf es seen = #[] := Array.eq_empty_of_size_eq_zero h0
    rw [this] at hp
    exact List.nil_perm.1 (by simpa using hp)
  · have hxe : x ∈ es.toList := by
      have hx' := hx
      simp [leftOf] at hx'
      simpa using hx'.1
    have hheap : w1.heap = w.heap := by rcases hw1 with rfl | rfl <;> rfl
    have hrest : ∃ rest, (leftOf es seen).toList.Perm (x :: rest) ∧ (leftOf es (seen.push x.born)).toList = rest := by
      refine ⟨(leftOf es (seen.push x.born)).toList, ?_, rfl⟩
      have hnd : (leftOf es seen).toList.Nodup := by
        have : es.toList.Nodup := List.Pairwise.of_map (·.born) (fun a b h e => h (congrArg _ e)) hs.2.1
        have e0 : (leftOf es seen).toList = es.toList.filter (fun e => !seen.contains e.born) := by simp [leftOf]
        rw [e0]
        exact List.Pairwise.filter _ this
      have heq : (leftOf es (seen.push x.born)).toList = (leftOf es seen).toList.filter (fun y => !(y.born == x.born)) := by
        simp only [leftOf, Array.toList_filter, List.filter_filter]
        refine List.filter_congr fun y _ => ?_
        by_cases h : y.born = x.born <;> simp [h]
      rw [heq]
      have hbn : ∀ y ∈ (leftOf es seen).toList, (y.born == x.born) = true → y = x := by
        intro y hy hyb
        have hye : y ∈ es.toList := by
          simp [leftOf] at hy
          simpa using hy.1
        obtain ⟨i, hi⟩ := List.mem_iff_getElem?.1 hye
        obtain ⟨j, hj⟩ := List.mem_iff_getElem?.1 hxe
        have := nodup_idx (x := x.born) hs.2.1 (by rw [List.getElem?_map, hi]; exact congrArg some (by simpa using hyb)) (by rw [List.getElem?_map, hj]; rfl)
        subst this
        rw [hi] at hj
        exact Option.some.inj hj
      have : ∀ L : List MapEntry, L.Nodup → x ∈ L → (∀ y ∈ L, (y.born == x.born) = true → y = x) → L.Perm (x :: L.filter (fun y => !(y.born == x.born))) := by
        intro L
        induction L with
        | nil => intro _ h; cases h
        | cons a L ih =>
          intro hnd hmem hall
          rw [List.nodup_cons] at hnd
          by_cases hax : a = x
          · subst hax
            have hfl : L.filter (fun y => !(y.born == a.born)) = L := List.filter_eq_self.2 fun y hy => by
              cases hyb : (y.born == a.born) with
              | false => rfl
              | true => exact absurd (hall y (List.mem_cons_of_mem _ hy) hyb ▸ hy) hnd.1
            simp [hfl]
          · have hmL : x ∈ L := by
              rcases List.mem_cons.1 hmem with h | h
              · exact absurd h.symm hax
              · exact h
            have hab : (a.born == x.born) = false := by
              cases h : (a.born == x.born) with
              | false => rfl
              | true => exact absurd (hall a List.mem_cons_self h) hax
            rw [List.filter_cons, hab]
            simp only [Bool.not_false, ↓reduceIte]
            exact ((ih hnd.2 hmL fun y hy => hall y (List.mem_cons_of_mem _ hy)).cons a).trans (List.Perm.swap _ _ _)
      exact this _ hnd hx hbn
    obtain ⟨rest, hperm, hrest⟩ := hrest
    have hb1 : (setBlock w1 r (.mapIter (some b) since (seen.push x.born) clock)).heap[b]? = some (.map es clock) := by
      unfold setBlock
      rw [Array.getElem?_setIfInBounds_ne hne, hheap]
      exact hb
    have hlt : r < w1.heap.size := by rw [hheap]; exact (Array.getElem?_eq_some_iff.1 hr).1
    have hr1 : (setBlock w1 r (.mapIter (some b) since (seen.push x.born) clock)).heap[r]? = some (.mapIter (some b) since (seen.push x.born) clock) := by
      unfold setBlock
      simp [hlt]
    refine .inr ⟨(x.key, x.val), rest.map (fun e => (e.key, e.val)), setBlock w1 r (.mapIter (some b) since (seen.push x.born) clock), ?_, ?_, hrun, ⟨es, clock, since, seen.push x.born, clock, hb1, hs, hk, hl, hr1, hold, hscl, hscl, ?_⟩, ?_, ?_, ?_, ?_, ?_, ?_⟩
    · exact hp.symm.trans (hperm.map _)
    · rw [← hl]
      exact List.mem_map.2 ⟨x, hxe, rfl⟩
    · rw [hrest]
    · intro W hWb hWr
      exact run_entry_at W r b since seen es clock x (hWr.trans hr1) (hWb.trans hb1) hxe hs.2.1
    · rcases hw1 with rfl | rfl <;> rfl
    · rcases hw1 with rfl | rfl <;> rfl
    · rcases hw1 with rfl | rfl <;> rfl
    · rcases hw1 with rfl | rfl <;> simp [setBlock]
    · intro i hi
      unfold setBlock
      rw [Array.getElem?_setIfInBounds_ne (fun h => hi h.symm), hheap]
end
end Go.Proofs.YtaeenefdbahfoaaDoor
namespace Go.Proofs.YtaeenefdbahfoaaDoor
open Go.RowKit Go.Proofs.YtaeenefdbahfoaaDoorW.PrintWords Go.Proofs.YtaeenefdbahfoaaDoorW.PrintLast Go.Proofs.YtaeenefdbahfoaaDoorW.PrintMore
open H
open Go.Shelf Go.RowKit Go.Lib Go.Sort
open Go.ChangeMaps Go.MapKept Go.WideShapes
set_option linter.unusedSimpArgs false
abbrev TB (l b0 b1 s0 s1 : Int) : Obj := .cells #[.int .i64 l, .int .u64 b0, .int .u64 b1, .int .u64 s0, .int .u64 s1] 29 (0, 0)
abbrev S5t (g : Nat) (l b0 b1 s0 s1 : Int) (W : World) : Prop := W.cell? ⟨g, 0, none⟩ = some (.int .i64 l) ∧ W.cell? ⟨g, 1, none⟩ = some (.int .u64 b0) ∧ W.cell? ⟨g, 2, none⟩ = some (.int .u64 b1) ∧ W.cell? ⟨g, 3, none⟩ = some (.int .u64 s0) ∧ W.cell? ⟨g, 4, none⟩ = some (.int .u64 s1)
theorem S5t.of {W : World} {g : Nat} {l b0 b1 s0 s1 : Int} (h : W.heap[g]? = some (TB l b0 b1 s0 s1)) : S5t g l b0 b1 s0 s1 W := ⟨blk_cell h 0, blk_cell h 1, blk_cell h 2, blk_cell h 3, blk_cell h 4⟩
abbrev SK (gm g2 g12 : Nat) (l b0 b1 s0 s1 : Int) (c : CL) (X : Int) (W : World) : Prop :=
  W.cell? ⟨g2, 0, none⟩ = some (.int .i64 l) ∧ W.cell? ⟨g2, 1, none⟩ = some (.int .u64 b0) ∧ W.cell? ⟨g2, 2, none⟩ = some (.int .u64 b1) ∧ W.cell? ⟨g2, 3, none⟩ = some (.int .u64 s0) ∧ W.cell? ⟨g2, 4, none⟩ = some (.int .u64 s1) ∧
  W.cell? ⟨g12, 0, none⟩ = some (.int .i64 c.f0.f0) ∧ W.cell? ⟨g12, 1, none⟩ = some (.int .i64 c.f0.f1) ∧ W.cell? ⟨g12, 2, none⟩ = some (.int .i64 c.f1) ∧
  (Instr.lookup 106 (.map (some gm)) (.agg #[.int .i64 c.f0.f0, .int .i64 c.f0.f1, .int .i64 c.f1]) false).run Tryd.prog W = .ok (.int .i64 X) W
theorem R_map {w w1 : World} {gm base : Nat} {ok : Nat → Prop} {v : Value} {xs : List CL} (h : Kd.R k65 65 w base ok v xs) (ht : w.mapTurned w1 gm) (hg : gm < base) : Kd.R k65 65 w1 base ok v xs :=
  Kd.R_mono (Kd.R_grown (Kd.R_bound h) ht.grown (fun k hk e => by have := hk.2.1; cases e; omega)) (fun _ hk => hk.1)
theorem inR_of_good {q : CL} (h : goodP q.f0.f0 q.f0.f1) (hh : 0 ≤ q.f1 ∧ q.f1 ≤ 1) : inR q := by
  obtain ⟨h1, h2, h3, h4⟩ := h
  exact ⟨⟨by omega, by omega⟩, ⟨by omega, by omega⟩, ⟨by omega, by omega⟩⟩
theorem offs_half (l h : Int) : ∀ d ∈ offs l h, 0 ≤ d.f1 ∧ d.f1 ≤ 1 := by
  intro d hd
  unfold offs at hd
  split at hd
  · have := (by decide : ∀ d ∈ [mk 0 (-1) 0, mk 1 (-1) 0, mk (-1) 0 0, mk 1 0 0, mk (-1) 1 0, mk 0 1 0], 0 ≤ d.f1 ∧ d.f1 ≤ 1) d hd
    exact this
  · split at hd
    · split at hd
      · exact (by decide : ∀ d ∈ [mk 0 (-1) 1, mk (-1) 0 1, mk 0 0 1], 0 ≤ d.f1 ∧ d.f1 ≤ 1) d hd
      · exact (by decide : ∀ d ∈ [mk 0 0 0, mk 1 0 0, mk 0 1 0], 0 ≤ d.f1 ∧ d.f1 ≤ 1) d hd
    · split at hd
      · exact (by decide : ∀ d ∈ [mk (-1) (-1) 1, mk 0 (-1) 0, mk 0 (-1) 1, mk 1 (-1) 0, mk 1 (-1) 1, mk (-1) 0 0, mk (-1) 0 1, mk 0 0 1, mk 1 0 0, mk (-1) 1 0, mk (-1) 1 1, mk 0 1 0], 0 ≤ d.f1 ∧ d.f1 ≤ 1) d hd
      · exact (by decide : ∀ d ∈ [mk 0 (-1) 1, mk 1 (-1) 0, mk 1 (-1) 1, mk (-1) 0 1, mk 0 0 0, mk 1 0 0, mk 1 0 1, mk (-1) 1 0, mk (-1) 1 1, mk 0 1 0, mk 0 1 1, mk 1 1 0], 0 ≤ d.f1 ∧ d.f1 ≤ 1) d hd
theorem bes_good {l a b h : Int} (hb : XBeside.f l a b h = some ((offs l h).map (sh a b), none)) : ∀ d ∈ (offs l h).map (sh a b), goodP d.f0.f0 d.f0.f1 := by
  unfold XBeside.f at hb
  have hb := Option.some.inj hb
  split at hb
  · cases (Prod.mk.inj hb).2
  · split at hb
    · next hall => exact fun d hd => of_decide_eq_true (List.all_eq_true.1 hall d hd)
    · cases (Prod.mk.inj hb).2
theorem bes_inR {l : Int} {c : CL} (hb : XBeside.f l c.f0.f0 c.f0.f1 c.f1 = some (besL l c, none)) : ∀ d ∈ besL l c, inR d := by
  intro d hd
  have h1 := bes_good hb d hd
  obtain ⟨e, he, rfl⟩ := List.mem_map.1 hd
  exact inR_of_good h1 (offs_half _ _ e he)
/-- how many are still to come -/
def leftN (w : World) (b r : Nat) : Nat := match w.heap[b]?, w.heap[r]? with
  | some (.map es _), some (.mapIter _ _ seen _) => (leftOf es seen).size
  | _, _ => 0
theorem RangeAt.left {P : Program} {k : TypeId} {w : World} {b r : Nat} {l todo : List (Value × Value)} (h : RangeAt P k w b r l todo) : leftN w b r = todo.length := by
  obtain ⟨es, clock, since, seen, c0, hb, _, _, _, hr, _, _, _, hp⟩ := h
  unfold leftN
  rw [hb, hr]
  have := hp.length_eq
  simpa using this
theorem app1k {P : Program} {ops : Array Oper} {rest : List Oper} {o : Oper} {a : Act} {Q : Exit → Act → World → Prop} (ok : Nat → Prop) {α : Type} (d : Kd α) (base : Nat) (s x : Operand) (t e : TypeId) (z : Value) (bytes : Nat) {W : World} (v : Value) (xs : List α) (p : α) (cs : List Value) (B : Nat)
    (hgd : o.guard = none) (ho : o.op = .call { callee := .builtin .append, args := #[s, x], argTypes := #[t, t] })
    (ht : P.underlying t = some (.slice e)) (hinfo : (P.info? e).map (fun i => (i.zero, i.size, i.bytes)) = some (some z, d.sz, bytes)) (hz : z.cells.size = d.sz) (hs0 : 0 < d.sz) (hb0 : 0 < bytes)
    (hs : a.eval s = v) (hB : W.heap.size = B) (hx : a.eval x = .slice (some ⟨B, 0, none⟩) 1 1) (hp : d.M W base (fun _ => False) p cs)
    (hfresh : ∀ k, W.heap.size ≤ k → ok k) (HO : d.R e W base ok v xs) (hbase : base ≤ W.heap.size) (hl : (xs.length + 1) * bytes ≤ 140737488355328)
    (h : ∀ v1 w1, d.R e w1 base ok v1 (xs ++ [p]) → Below base W w1 → (∀ k, k < W.heap.size → ¬ ok k → w1.heap[k]? = W.heap[k]?) → wpList P ops Q rest (a.put o.dst v1) w1) :
    wpList P ops Q (o :: rest) a (W.alloc (.cells cs.toArray e)) := by
  subst hB
  exact Kd.R_append d base hgd s x t e z bytes ho ht hinfo hz hs0 hb0 v xs p cs ok (fun _ => False) hs hx hp (fun _ h => h.elim) hfresh HO (Below.refl _ _) hbase hl (fun v1 w1 h1 h2 h3 _ => h v1 w1 h1 h2 (fun k hk hnk => h3.block k hk (fun e => hnk (HO.1 k e.symm))))
theorem del_C' {w : World} {b : Nat} {L : Tot} (h : MapAt Tryd.prog 65 w b (L.map encC)) (q : CL) (hq : inR q) :
    ∃ w1, (∀ ty, (Builtin.delete_ #[106, 65] ty #[.map (some b), .agg #[.int .i64 q.f0.f0, .int .i64 q.f0.f1, .int .i64 q.f1]]).run Tryd.prog w = .ok (.tuple #[]) w1) ∧ MapAt Tryd.prog 65 w1 b ((delC L q).map encC) ∧ w.mapTurned w1 b := by
  obtain ⟨w1, h1, h2, h3⟩ := del_C h q hq 0
  exact ⟨w1, fun ty => h1, h2, h3⟩
theorem RangeAt.lt_r {P : Program} {k : TypeId} {w : World} {b r : Nat} {l todo : List (Value × Value)} (h : RangeAt P k w b r l todo) : r < w.heap.size := by
  obtain ⟨es, clock, since, seen, c0, hb, _, _, _, hr, _⟩ := h
  exact (Array.getElem?_eq_some_iff.1 hr).1
theorem R_moved {w w1 : World} {r base : Nat} {v : Value} {xs : List CL} (h : Kd.R k65 65 w base (fun k => k ≠ r) v xs) (ho : ∀ i, i ≠ r → w1.heap[i]? = w.heap[i]?) : Kd.R k65 65 w1 base (fun k => k ≠ r) v xs := Kd.R_step h (fun k hk _ => ho k hk)
theorem range_any {w : World} {b : Nat} {L : Tot} (h : MapAt Tryd.prog 65 w b (L.map encC)) :
    ∃ r w1, (Instr.range 106 (.map (some b))).run Tryd.prog w = .ok (.pointer (some ⟨r, 0, none⟩)) w1 ∧ RangeAt Tryd.prog 65 w1 b r (L.map encC) (L.map encC) ∧ w.heap.size ≤ r ∧ Below w.heap.size w w1 := by
  obtain ⟨o, h1, h2⟩ := h.range Tryd.underlying106
  exact ⟨_, _, h1, h2, Nat.le_refl _, below_alloc (Below.refl _ _) _⟩
set_option maxRecDepth 100000 in
set_option maxHeartbeats 8000000 in
theorem step_any (l b0 b1 s0 s1 : Int) (s : List CL) (A0 : Option Addr) (c0 : Nat) (w : World) (hr0 : Kd.C k65 w A0 s.length s) (hc0 : s.length ≤ c0) (hn : s.length < 1073741824) (hT : checkT l b0 b1 s0 s1 = none) (hS : Srt s)
    (hok : ∀ c ∈ s, checkR l c.f0.f0 c.f0.f1 c.f1 = none ∧ XBeside.f l c.f0.f0 c.f0.f1 c.f1 = some (besL l c, none)) (hG : Six w) :
    Calls Tryd.prog 24 #[.agg #[.int .i64 l, .int .u64 b0, .int .u64 b1, .int .u64 s0, .int .u64 s1], .slice A0 s.length c0] w fun e w' => ∃ v, e = .returned (.tuple #[v, .nilIface]) ∧ Kd.R k65 65 w' w.heap.size (fun _ => True) v (nextL (nxtV b0 b1 s0 s1) l s) ∧ Below w.heap.size w w' := by
  have hl : 1 ≤ l ∧ l ≤ 3 := by
    unfold checkT at hT
    by_cases h : 1 ≤ l ∧ l ≤ 3
    · exact h
    · rw [if_neg h] at hT; cases hT
  have htc := fun W => XTCheck.calls l b0 b1 s0 s1 none W (by unfold XTCheck.f; rw [hT])
  have hck := fun A c W hR hc => set_Set_Check.calls (s.length + 2) A c s l none W hR hc (chk_f _ s l hl.1 hl.2 hS (fun c hc => (hok c hc).1) (by omega) (by omega))
  have har := fun A c W hR hG => flat_around_any l s A c W hR (by omega) (fun c hc => ⟨(checkR_ok (hok c hc).1).2.2.1, (hok c hc).2, bes_inR (hok c hc).2⟩) hG
  simp only [errW_none] at htc hck
  have HTC := Aside0.mk htc
  have HCK := Aside0.mk hck
  have HAR := Aside0.mk har
  have HOK := Aside0.mk hok
  have HR := Aside0.mk hr0
  have HG := Aside0.mk hG
  clear htc hck har hok hr0 hG hT hS
  obtain ⟨nx, hnx⟩ : ∃ nx, nx = nxtV b0 b1 s0 s1 := ⟨_, rfl⟩
  have hnf : ∀ W half live n, Calls Tryd.prog 58 #[.agg #[.int .i64 l, .int .u64 b0, .int .u64 b1, .int .u64 s0, .int .u64 s1], .int .i64 half, .bool live, .int .i64 n] W fun e w' => e = .returned (.bool (nx half live n)) ∧ Below W.heap.size W w' := fun W half live n => by rw [hnx]; exact XNext.calls l b0 b1 s0 s1 half live n _ W (nxt_f _ _ _ _ _ _ _ _)
  rw [← hnx]
  have HNF := Aside0.mk hnf
  clear hnx hnf
  go_enter Tryd.func24, Tryd.ntmps24
  go_wp2_with fail
  obtain ⟨w1, hw1⟩ : ∃ W, W = w.alloc (TB l b0 b1 s0 s1) := ⟨_, rfl⟩
  have t1 : w1.heap[w.heap.size]? = some (TB l b0 b1 s0 s1) := by rw [hw1]; exact blk_new _ _
  have hB1 : Below w.heap.size w w1 := by rw [hw1]; exact below_alloc (Below.refl _ _) _
  rw [← hw1]
  obtain ⟨g2, hg2⟩ : ∃ g, g = w.heap.size := ⟨_, rfl⟩
  rw [← hg2] at t1 ⊢
  have hg2z : w.heap.size ≤ g2 := by omega
  have HB1 := Aside0.mk hB1
  have hz1 := hB1.size
  clear hw1 hg2 hB1
  refine (HTC.out _).mono ?_
  rintro e w2 ⟨rfl, hb2⟩
  have t2 := blk_below t1 hb2
  have q0 := blk_cell t2 0
  simp only [List.getElem?_toArray, List.getElem?_cons_zero] at q0
  have hz2 := hb2.size
  have HB2 := Aside0.mk (HB1.out.trans (hb2.mono (by omega)))
  have T2 := Aside0.mk t2
  clear hb2 t1 t2 HB1 HTC
  go_wp2_with fail
  refine (HCK.out _ _ _ (Kd.C_below HR.out HB2.out) hc0).mono ?_
  rintro e w3 ⟨rfl, hb3⟩
  have t3 := blk_below T2.out hb3
  clear q0
  have q0 := blk_cell t3 0
  simp only [List.getElem?_toArray, List.getElem?_cons_zero] at q0
  have hz3 := hb3.size
  have HB3 := Aside0.mk (HB2.out.trans (hb3.mono (by omega)))
  have T3 := Aside0.mk t3
  clear hb3 t3 HB2 T2 HCK
  go_wp2_with fail
  refine (HAR.out _ _ _ (Kd.C_below HR.out HB3.out) (HG.out.below HB3.out)).mono ?_
  rintro e w4 ⟨gm, rfl, hM4, hgm4, hb4⟩
  have t4 := blk_below T3.out hb4
  have hz4 := hb4.size
  have l4 := hM4.lt
  have l3 := blk_lt T3.out
  have HB4 := Aside0.mk (HB3.out.trans (hb4.mono (by omega)))
  have T4 := Aside0.mk t4
  have M4 := Aside0.mk hM4
  have hne2 : g2 ≠ gm := by omega
  have hgz : w.heap.size ≤ gm := by omega
  obtain ⟨n4, hn4⟩ : ∃ n, n = w4.heap.size := ⟨_, rfl⟩
  have hgn : gm < n4 := by omega
  have hg2n : g2 < n4 := by omega
  have hwn : w.heap.size ≤ n4 := by omega
  have hn4' : n4 ≤ w4.heap.size := by omega
  obtain ⟨M0, hM0⟩ : ∃ M0, M0 = arL l s := ⟨_, rfl⟩
  rw [← hM0] at M4
  have hMl : M0.length ≤ 12 * s.length := by rw [hM0]; exact arL_le l s
  have HM0 := Aside0.mk hM0
  clear hb4 t4 hM4 HB3 T3 HAR q0 hgm4 hz1 hz2 hz3 hz4 hn4 l3 l4 hM0
  go_wp2_with fail
  go_loopw [39, 10] (fun iv ov wr => ∃ i : Nat, i ≤ s.length ∧ iv = .int .i64 i ∧ MapAt Tryd.prog 65 wr gm ((keepL nx M0 (s.take i)).1.map encC) ∧ Kd.R k65 65 wr n4 (fun _ => True) ov (keepL nx M0 (s.take i)).2 ∧ wr.heap[g2]? = some (TB l b0 b1 s0 s1) ∧ Below w.heap.size w wr ∧ n4 ≤ wr.heap.size) (fun iv _ _ => s.length - (intOf iv).toNat)
  case atStart => exact ⟨0, by omega, rfl, M4.out, Kd.R_nil _ _ _ _ _, T4.out, HB4.out, hn4'⟩
  case round =>
    obtain ⟨i, hi, rfl, hM, hO, hT, hB, hzr⟩ := hrel
    have M := Aside0.mk hM
    have HB := Aside0.mk hB
    have HO := Aside0.mk hO
    have HT := Aside0.mk hT
    have R2 := Aside0.mk (Kd.C_below HR.out hB)
    have hkl := keep_le nx M0 (s.take i)
    have htl : (s.take i).length ≤ s.length := by rw [List.length_take]; omega
    clear hM hB hO hT M4 T4 HB4
    by_cases hlt : i < s.length
    · obtain ⟨ad, hAd, a0, a1, a2⟩ := at_T65 R2.out i (by omega) (by omega)
      rw [Int.toNat_natCast] at a0 a1 a2
      have hx : rd_T65 s i = s[i] := by simp [rd_T65, hlt]
      obtain ⟨hck, hbs⟩ := HOK.out s[i] (List.getElem_mem hlt)
      have hnext := keep_take nx M0 s i hlt
      rw [hx] at a0 a1 a2
      obtain ⟨c, hc⟩ : ∃ c, c = s[i] := ⟨_, rfl⟩
      rw [← hc] at a0 a1 a2 hck hbs hnext
      obtain ⟨p1, p2, p3, p4, p5⟩ := checkR_ok hck
      have hin : inR c := inR_of_good p3 (by omega)
      obtain ⟨K, hK⟩ : ∃ K, K = keepL nx M0 (s.take i) := ⟨_, rfl⟩
      rw [← hK] at hnext M HO hkl
      obtain ⟨X, hX⟩ : ∃ X, X = cntC K.1 c := ⟨_, rfl⟩
      obtain ⟨B, hBv⟩ : ∃ B, B = nx c.f1 true X := ⟨_, rfl⟩
      have hnext2 : keepL nx M0 (s.take (i + 1)) = (delC K.1 c, if B = true then K.2 ++ [c] else K.2) := by rw [hnext, hBv, hX]; rfl
      have HNEXT := Aside0.mk hnext2
      have hnf2 := fun W => HNF.out W c.f1 true X
      rw [← hBv] at hnf2
      have HNF2 := Aside0.mk hnf2
      have HX := Aside0.mk hX
      clear hx hc hK hnext hnext2 hck hbs p1 p2 p3 p4 p5 hX hBv hnf2
      rw [hAd] at R2
      subst hAd
      go_upto_region 14 with (fail)
      obtain ⟨w5, hw5⟩ : ∃ W, W = wr.alloc (CB c) := ⟨_, rfl⟩
      have k12 : w5.heap[wr.heap.size]? = some (CB c) := by rw [hw5]; exact blk_new _ _
      have hB5 : Below wr.heap.size wr w5 := by rw [hw5]; exact below_alloc (Below.refl _ _) _
      rw [← hw5]
      have hz5 := hB5.size
      have M5 := Aside0.mk (M.out.below hB5)
      have HB5 := Aside0.mk (HB.out.trans (hB5.mono (by omega)))
      have ho5 : Kd.R k65 65 w5 n4 (fun k => k ≠ wr.heap.size) u10 K.2 := Kd.R_below (Kd.R_mono (Kd.R_bound HO.out) (fun k hk => by have := hk.2.2.1; omega)) hB5
      have HT5 := Aside0.mk (blk_below HT.out hB5)
      obtain ⟨g12, hg12⟩ : ∃ g, g = wr.heap.size := ⟨_, rfl⟩
      rw [← hg12] at k12 ho5 ⊢
      have HO5 := Aside0.mk ho5
      have hne12 : g12 ≠ gm := by omega
      have hn5 : n4 ≤ w5.heap.size := by omega
      have K12 := Aside0.mk k12
      clear hw5 hg12 hB5 k12 ho5 M HB HO HT R2 a0 a1 a2
      have hlk := look_C (w := w5.drew) M5.out c hin
      rw [← HX.out] at hlk
      have hS : SK gm g2 g12 l b0 b1 s0 s1 c X w5.drew := ⟨blk_cell HT5.out 0, blk_cell HT5.out 1, blk_cell HT5.out 2, blk_cell HT5.out 3, blk_cell HT5.out 4, blk_cell K12.out 0, blk_cell K12.out 1, blk_cell K12.out 2, hlk⟩
      clear hlk
      go_region_held3 (fun W => W.cell? ⟨g2, 0, none⟩ = some (.int .i64 l) ∧ W.cell? ⟨g2, 1, none⟩ = some (.int .u64 b0) ∧ W.cell? ⟨g2, 2, none⟩ = some (.int .u64 b1) ∧ W.cell? ⟨g2, 3, none⟩ = some (.int .u64 s0) ∧ W.cell? ⟨g2, 4, none⟩ = some (.int .u64 s1) ∧ W.cell? ⟨g12, 0, none⟩ = some (.int .i64 c.f0.f0) ∧ W.cell? ⟨g12, 1, none⟩ = some (.int .i64 c.f0.f1) ∧ W.cell? ⟨g12, 2, none⟩ = some (.int .i64 c.f1) ∧ (Instr.lookup 106 (.map (some gm)) (.agg #[.int .i64 c.f0.f0, .int .i64 c.f0.f1, .int .i64 c.f1]) false).run Tryd.prog W = .ok (.int .i64 X) W)
        (assumption)
        (first | (go_at_call 58; refine (HNF2.out _).mono ?_; rintro e w6 ⟨rfl, hb6⟩
                  have M6 := Aside0.mk (MapAt.below (w := w5.drew) M5.out hb6)
                  have T6 := Aside0.mk (blk_below (w := w5.drew) HT5.out hb6)
                  have K6 := Aside0.mk (blk_below (w := w5.drew) K12.out hb6)
                  have O6 := Aside0.mk (Kd.R_below (Kd.R_drew HO5.out) hb6)
                  have hlk6 := look_C M6.out c hin
                  rw [← HX.out] at hlk6
                  have hS6 : SK gm g2 g12 l b0 b1 s0 s1 c X w6 := ⟨blk_cell T6.out 0, blk_cell T6.out 1, blk_cell T6.out 2, blk_cell T6.out 3, blk_cell T6.out 4, blk_cell K6.out 0, blk_cell K6.out 1, blk_cell K6.out 2, hlk6⟩
                  have hz6 : w5.heap.size ≤ w6.heap.size := hb6.size
                  have B6 := Aside0.mk ((below_drew HB5.out).trans (hb6.mono (by show w.heap.size ≤ w5.heap.size; omega)))
                  clear hlk6 hb6))
      all_goals (
        clear hS6 hS
        have k0 := blk_cell K6.out 0
        have k1 := blk_cell K6.out 1
        have k2 := blk_cell K6.out 2
        simp only [List.getElem?_toArray, List.getElem?_cons_zero, List.getElem?_cons_succ] at k0 k1 k2
        have hn6 : n4 ≤ w6.heap.size := by omega
        have hfr := blk_lt K6.out
        clear M5 HT5 K12 HO5 HB5
        cases B with
        | true =>
          go_wp2_with (first
            | (at_builtin; refine app1k (fun k => k ≠ g12) k65 n4 (.tmp 50) (.tmp 52) 34 65 (.agg #[.int .i64 0, .int .i64 0, .int .i64 0]) 24 _ K.2 c [.int .i64 c.f0.f0, .int .i64 c.f0.f1, .int .i64 c.f1] _ rfl rfl Tryd.underlying34 info65 rfl (by decide) (by decide) rfl (by simp; done) rfl (k65_mkM _ _ _ _) (fun k hk => by omega) O6.out (by omega) (by omega) ?_
               intro v7 w7 ho7 hb7 hk7
               have K7 := Aside0.mk ((hk7 g12 hfr (fun h => h rfl)).trans K6.out)
               have j0 := blk_cell K7.out 0
               have j1 := blk_cell K7.out 1
               have j2 := blk_cell K7.out 2
               simp only [List.getElem?_toArray, List.getElem?_cons_zero, List.getElem?_cons_succ] at j0 j1 j2
               have O7 := Aside0.mk ho7
               have hz7 := hb7.size
               have M7 := Aside0.mk (M6.out.of_heap (hb7.block gm hgn))
               have T7 := Aside0.mk ((hb7.block g2 hg2n).trans T6.out)
               have HB7 := Aside0.mk (B6.out.trans (hb7.mono hwn))
               obtain ⟨w8, hrun8, hm8, htu8⟩ := del_C' M7.out c hin
               have hrun := hrun8 0
               have M8 := Aside0.mk hm8
               have HTU8 := Aside0.mk htu8
               clear ho7 hb7 hk7 k0 k1 k2 hrun8 hm8 htu8))
          have htu8 := HTU8.out
          have T8 := Aside0.mk ((mapTurned_heap htu8 hne2).trans T7.out)
          have O8 := Aside0.mk (R_map O7.out htu8 hgn)
          have HB8 := Aside0.mk (pw_below_grown HB7.out _ HB7.out.size htu8.grown (fun k hk => by cases hk; exact hgz))
          have hz8 := htu8.grown.size
          have hnx := HNEXT.out
          rw [if_pos rfl] at hnx
          have HNX := Aside0.mk hnx
          clear htu8 hrun hnx HNEXT
          go_roundw
          case rel => exact ⟨i + 1, by omega, by go_num, by rw [HNX.out]; exact M8.out, by rw [HNX.out]; exact Kd.R_mono O8.out (fun _ _ => trivial), T8.out, HB8.out, by omega⟩
          case measure => simp [intOf]; omega
        | false =>
          obtain ⟨w8, hrun8, hm8, htu8⟩ := del_C' M6.out c hin
          have hrun := hrun8 0
          have M8 := Aside0.mk hm8
          have HTU8 := Aside0.mk htu8
          clear hrun8 hm8 htu8
          go_wp2
          have htu8 := HTU8.out
          have T8 := Aside0.mk ((mapTurned_heap htu8 hne2).trans T6.out)
          have O8 := Aside0.mk (R_map O6.out htu8 hgn)
          have HB8 := Aside0.mk (pw_below_grown B6.out _ B6.out.size htu8.grown (fun k hk => by cases hk; exact hgz))
          have hz8 := htu8.grown.size
          have hnx := HNEXT.out
          rw [if_neg (by decide)] at hnx
          have HNX := Aside0.mk hnx
          clear htu8 hrun hnx HNEXT
          go_roundw
          case rel => exact ⟨i + 1, by omega, by go_num, by rw [HNX.out]; exact M8.out, by rw [HNX.out]; exact Kd.R_mono O8.out (fun _ _ => trivial), T8.out, HB8.out, by omega⟩
          case measure => simp [intOf]; omega)
    · obtain rfl : i = s.length := by omega
      rw [keep_all] at M HO hkl
      obtain ⟨K, hK⟩ : ∃ K, K = keepL nx M0 s := ⟨_, rfl⟩
      rw [← hK] at M HO hkl
      have HK := Aside0.mk hK
      clear hK
      obtain ⟨r, w10, hrun, hRG, hrz, hb10⟩ := range_any M.out
      have RG := Aside0.mk hRG
      have hz10 := hb10.size
      have HB10 := Aside0.mk (HB.out.trans (hb10.mono (by have := HB.out.size; omega)))
      have HT10 := Aside0.mk (blk_below HT.out hb10)
      have HO10 := Aside0.mk (Kd.R_below (Kd.R_mono (Kd.R_bound HO.out) (fun k hk => by have := hk.2.2.1; omega) : Kd.R k65 65 wr n4 (fun k => k ≠ r) u10 K.2) hb10)
      have hrn : n4 ≤ r := by omega
      have hrg : r ≠ gm := by omega
      clear hRG hb10 M HO HT HB R2
      go_wp2_with fail
      clear hrun
      go_loopw [10] (fun ov ws => ∃ (todo : List (Value × Value)) (D : Tot), (K.1.map encC).Perm (D.map encC ++ todo) ∧ RangeAt Tryd.prog 65 ws gm r (K.1.map encC) todo ∧ Kd.R k65 65 ws n4 (fun k => k ≠ r) ov (K.2 ++ bornL nx D) ∧ ws.heap[g2]? = some (TB l b0 b1 s0 s1) ∧ Below w.heap.size w ws ∧ r < ws.heap.size) (fun _ ws => leftN ws gm r)
      case atStart => exact ⟨_, [], by simp, RG.out, by simpa [bornL] using HO10.out, HT10.out, HB10.out, RG.out.lt_r⟩
      case round =>
        obtain ⟨todo, D, hP, hRG, hO, hT, hB, hrs⟩ := hrel
        have PP := Aside0.mk hP
        have RG1 := Aside0.mk hRG
        have O1 := Aside0.mk hO
        have T1 := Aside0.mk hT
        have B1 := Aside0.mk hB
        have hDl : D.length ≤ K.1.length := by have := hP.length_eq; simp at this; omega
        have hbl := bornL_le nx D
        clear hP hO hT hB RG HO10 HT10 HB10
        rcases hRG.next hrg 0 with ⟨htodo, hrun⟩ | ⟨p, todo', w11, hperm, hp, hrun, hRG1, hent, e1, e2, e3, hsz, hoth⟩
        · clear hRG
          have hfin : ofL (K.2 ++ bornL nx D) = nextL nx l s := by
            subst htodo
            unfold nextL nextRaw
            rw [← HM0.out, ← HK.out]
            refine ofL_ext fun x => ?_
            have := bornL_mem (nx := nx) (fun p => enc_mem (D := D) (M := K.1) (by simpa using PP.out) p) x
            rw [List.mem_append, List.mem_append, this]
          have HFIN := Aside0.mk hfin
          clear hfin htodo
          have hlen : (K.2 ++ bornL nx D).length < 5864062014805 := by rw [List.length_append]; omega
          obtain ⟨xs, hxs⟩ : ∃ xs, xs = K.2 ++ bornL nx D := ⟨_, rfl⟩
          rw [← hxs] at O1 hlen HFIN
          obtain ⟨A, cA, rfl, hlA, hC⟩ := Kd.R_reads O1.out
          have hof := XOf.calls A cA xs _ wr hC hlA (by unfold XOf.f; rw [if_pos hlen])
          have HOF := Aside0.mk hof
          clear hof hC hxs
          go_wp2_with fail
          refine HOF.out.mono ?_
          rintro e w12 ⟨v, rfl, hR, hb12⟩
          have HB12 := Aside0.mk (B1.out.trans (hb12.mono B1.out.size))
          have HR12 := Aside0.mk (Kd.R_lower hR B1.out.size)
          clear hR hb12
          go_wp2
          go_ret2
          exact ⟨_, rfl, by rw [← HFIN.out]; exact HR12.out, HB12.out⟩
        · clear hRG
          obtain ⟨⟨c, n⟩, hm, rfl⟩ := List.mem_map.1 hp
          simp only [encC] at hrun hent
          have hrun2 := hent w11 rfl rfl
          have hPn : (K.1.map encC).Perm ((D ++ [(c, n)]).map encC ++ todo') := PP.out.trans ((List.Perm.append_left _ hperm).trans (List.Perm.of_eq (by simp)))
          have PN := Aside0.mk hPn
          have RG2 := Aside0.mk hRG1
          have htl : todo.length = todo'.length + 1 := by have := hperm.length_eq; simpa using this
          have hb11 : Below w.heap.size w w11 := B1.out.trans ⟨e1, e2, e3, by omega, fun k hk => hoth k (by omega)⟩
          have hrs2 : r < w11.heap.size := by omega
          have B2 := Aside0.mk hb11
          have T2 := Aside0.mk ((hoth g2 (by omega)).trans T1.out)
          have O2 := Aside0.mk (R_moved O1.out (fun k hk => hoth k hk))
          have hbs := bornL_snoc nx D (c, n)
          simp only at hbs
          obtain ⟨B, hBv⟩ : ∃ B, B = nx c.f1 false n := ⟨_, rfl⟩
          rw [← hBv] at hbs
          have hnf2 := fun W => HNF.out W c.f1 false n
          rw [← hBv] at hnf2
          have HNF2 := Aside0.mk hnf2
          have HBS := Aside0.mk hbs
          clear hPn hperm hp hm hRG1 hb11 hent hoth hbs hBv hnf2 B1 T1 O1 PP hsz e1 e2 e3
          go_upto_region 21 with (fail)
          obtain ⟨w5, hw5⟩ : ∃ W, W = w11.alloc (CB c) := ⟨_, rfl⟩
          have k12 : w5.heap[w11.heap.size]? = some (CB c) := by rw [hw5]; exact blk_new _ _
          have hB5 : Below w11.heap.size w11 w5 := by rw [hw5]; exact below_alloc (Below.refl _ _) _
          rw [← hw5]
          have hz5 := hB5.size
          have hzw := B2.out.size
          have B5 := Aside0.mk (B2.out.trans (hB5.mono hzw))
          have T5 := Aside0.mk (blk_below T2.out hB5)
          have RG5 := Aside0.mk (RG2.out.of_heap (hB5.block gm (by omega)) (hB5.block r (by omega)))
          have ho5 : Kd.R k65 65 w5 n4 (fun k => k ≠ r ∧ k ≠ w11.heap.size) u10 (K.2 ++ bornL nx D) := Kd.R_below (Kd.R_mono (Kd.R_bound O2.out) (fun k hk => ⟨hk.1, by have := hk.2.2.1; omega⟩)) hB5
          obtain ⟨g13, hg13⟩ : ∃ g, g = w11.heap.size := ⟨_, rfl⟩
          rw [← hg13] at k12 ho5 ⊢
          have O5 := Aside0.mk ho5
          have K5 := Aside0.mk k12
          have hfr := blk_lt k12
          have hr5 : r < w5.heap.size := by omega
          have hg13n : n4 ≤ g13 := by omega
          have hn5 : n4 ≤ w5.heap.size := by omega
          clear hw5 hg13 hB5 ho5 k12 hrun hrun2
          have q0 := blk_cell T5.out 0
          have q1 := blk_cell T5.out 1
          have q2 := blk_cell T5.out 2
          have q3 := blk_cell T5.out 3
          have q4 := blk_cell T5.out 4
          have k0 := blk_cell K5.out 0
          have k1 := blk_cell K5.out 1
          have k2 := blk_cell K5.out 2
          simp only [List.getElem?_toArray, List.getElem?_cons_zero, List.getElem?_cons_succ] at q0 q1 q2 q3 q4 k0 k1 k2
          go_wp2_with fail
          refine (HNF2.out _).mono ?_
          rintro e w6 ⟨rfl, hb6⟩
          have hz6 := hb6.size
          have B6 := Aside0.mk (B5.out.trans (hb6.mono B5.out.size))
          have T6 := Aside0.mk (blk_below T5.out hb6)
          have K6 := Aside0.mk (blk_below K5.out hb6)
          have RG6 := Aside0.mk (RG5.out.of_heap (hb6.block gm (by omega)) (hb6.block r (by omega)))
          have O6 := Aside0.mk (Kd.R_below O5.out hb6)
          have hr6 : r < w6.heap.size := by omega
          have hg6 : g13 < w6.heap.size := by omega
          have hn6 : n4 ≤ w6.heap.size := by omega
          clear q0 q1 q2 q3 q4 k0 k1 k2 hb6 B5 T5 K5 RG5 O5
          have k0 := blk_cell K6.out 0
          have k1 := blk_cell K6.out 1
          have k2 := blk_cell K6.out 2
          simp only [List.getElem?_toArray, List.getElem?_cons_zero, List.getElem?_cons_succ] at k0 k1 k2
          cases B with
          | true =>
            go_wp2_with (first
              | (at_builtin; refine app1k (fun k => k ≠ r ∧ k ≠ g13) k65 n4 (.tmp 69) (.tmp 71) 34 65 (.agg #[.int .i64 0, .int .i64 0, .int .i64 0]) 24 _ (K.2 ++ bornL nx D) c [.int .i64 c.f0.f0, .int .i64 c.f0.f1, .int .i64 c.f1] _ rfl rfl Tryd.underlying34 info65 rfl (by decide) (by decide) rfl (by simp; done) rfl (k65_mkM _ _ _ _) (fun k hk => ⟨by omega, by omega⟩) O6.out (by omega) (by rw [List.length_append]; omega) ?_
                 intro v7 w7 ho7 hb7 hk7
                 have O7 := Aside0.mk ho7
                 have RG7 := Aside0.mk (RG6.out.of_heap (hb7.block gm hgn) (hk7 r hr6 (fun h => h.1 rfl)))
                 have T7 := Aside0.mk ((hb7.block g2 hg2n).trans T6.out)
                 have HB7 := Aside0.mk (B6.out.trans (hb7.mono hwn))
                 clear ho7 hb7 hk7 k0 k1 k2))
            have hbs := HBS.out
            simp only [↓reduceIte] at hbs
            have HBS1 := Aside0.mk hbs
            clear hbs HBS
            go_roundw
            case rel => exact ⟨todo', D ++ [(c, n)], PN.out, RG7.out, by rw [HBS1.out, ← List.append_assoc]; exact Kd.R_mono O7.out (fun k hk => hk.1), T7.out, HB7.out, RG7.out.lt_r⟩
            case measure => rw [RG7.out.left, RG1.out.left]; omega
          | false =>
            go_wp2
            have hbs := HBS.out
            simp only [Bool.false_eq_true, ↓reduceIte] at hbs
            have HBS1 := Aside0.mk hbs
            clear hbs HBS
            go_roundw
            case rel => exact ⟨todo', D ++ [(c, n)], PN.out, RG6.out, by rw [HBS1.out]; exact Kd.R_mono O6.out (fun k hk => hk.1), T6.out, B6.out, RG6.out.lt_r⟩
            case measure => rw [RG6.out.left, RG1.out.left]; omega
/-- a cell that may be, and those beside it -/
def okC (l : Int) (c : CL) : Bool := (checkR l c.f0.f0 c.f0.f1 c.f1 == none) && (besL l c).all fun d => decide (goodP d.f0.f0 d.f0.f1)
def XStep.f (l b0 b1 s0 s1 : Int) (s : List CL) : Option (List CL × Option Int) := if s.length < 1073741824 ∧ checkT l b0 b1 s0 s1 = none ∧ Srt s ∧ (s.all fun c => okC l c) = true then some (nextL (nxtV b0 b1 s0 s1) l s, none) else none
theorem okC_is {l : Int} {c : CL} (h : okC l c = true) : checkR l c.f0.f0 c.f0.f1 c.f1 = none ∧ XBeside.f l c.f0.f0 c.f0.f1 c.f1 = some (besL l c, none) := by
  unfold okC at h
  rw [Bool.and_eq_true] at h
  have h1 : checkR l c.f0.f0 c.f0.f1 c.f1 = none := by simpa using h.1
  refine ⟨h1, ?_⟩
  unfold XBeside.f
  rw [h1]
  have h2 : ((offs l c.f1).map (sh c.f0.f0 c.f0.f1)).all (fun x => decide (goodP x.f0.f0 x.f0.f1)) = true := h.2
  simp only [h2, ↓reduceIte]
  rfl
theorem XStep.calls (a0_0 a0_1 a0_2 a0_3 a0_4 : Int) (A1 : Option Addr) (c1 : Nat) (l1 : List S65) (r1 : List S65) (r2 : Option Int) (w : World) (hGSix : Six w) (hr1 : Kd.C k65 w A1 l1.length l1) (hc1 : l1.length ≤ c1) (h : XStep.f a0_0 a0_1 a0_2 a0_3 a0_4 l1 = some (r1, r2)) :
    Calls Tryd.prog 24 #[.agg #[.int .i64 a0_0, .int .u64 a0_1, .int .u64 a0_2, .int .u64 a0_3, .int .u64 a0_4], .slice A1 l1.length c1] w fun e w' => ∃ v0_ : Value, e = .returned (.tuple #[v0_, errW r2]) ∧ Kd.R k65 65 w' w.heap.size (fun _ => True) v0_ r1 ∧ Below w.heap.size w w' := by
  unfold XStep.f at h
  by_cases hc : l1.length < 1073741824 ∧ checkT a0_0 a0_1 a0_2 a0_3 a0_4 = none ∧ Srt l1 ∧ (l1.all fun c => okC a0_0 c) = true
  · rw [if_pos hc] at h
    simp only [Option.some.injEq, Prod.mk.injEq] at h
    obtain ⟨rfl, rfl⟩ := h
    obtain ⟨h1, h2, h3, h4⟩ := hc
    rw [errW_none]
    exact step_any a0_0 a0_1 a0_2 a0_3 a0_4 l1 A1 c1 w hr1 hc1 h1 h2 h3 (fun c hm => okC_is (List.all_eq_true.1 h4 c hm)) hGSix
  · rw [if_neg hc] at h
    cases h
end Go.Proofs.YtaeenefdbahfoaaDoor
namespace Go.Proofs.YtaeenefdbahfoaaDoor.H
open Go.RowKit Go.Proofs.YtaeenefdbahfoaaDoorW.PrintWords Go.Proofs.YtaeenefdbahfoaaDoorW.PrintLast Go.Proofs.YtaeenefdbahfoaaDoorW.PrintMore
attribute [local go_sem] max2_int min2_int max_two min_two max_three min_three max_four min_four   -- for this text's walks alone
set_option linter.unusedVariables false
set_option linter.unusedSimpArgs false
def flat_Steps.l0 : Nat → List (S65) → Int → Int → Int → Int → Int → Int → Int → Option ((List (S65)) × Option Int)
 | 0, _, _, _, _, _, _, _, _ => none
 | k + 1, x1, x28, x29, x351000, x351001, x351002, x351003, x351004 => if x29 < x28 then (if (x1.length : Int) = 0 then ((XOf.f x1).bind fun t358 => (some (t358, none))) else ((XStep.f x351000 x351001 x351002 x351003 x351004 x1).bind fun bt361 => (if bt361.2.isNone = true then (flat_Steps.l0 k bt361.1 x28 (wrap64 (x29 + 1)) x351000 x351001 x351002 x351003 x351004) else ((XWrap.f (⟨#[103, 101, 110, 101, 114, 97, 116, 105, 111, 110]⟩ : ByteArray) x29 (some (bt361.2.getD 0))).bind fun t366 => (some (([] : List (S65)), t366)))))) else ((XOf.f x1).bind fun t355 => (some (t355, none)))
def flat_Steps.f (k : Nat) (a0_0 : Int) (a0_1 : Int) (a0_2 : Int) (a0_3 : Int) (a0_4 : Int) (l1 : List (S65)) (a2 : Int) : Option ((List (S65)) × Option Int) := if a2 < 0 then (some (([] : List (S65)), some 4)) else ((XTCheck.f a0_0 a0_1 a0_2 a0_3 a0_4).bind fun t351 => (if t351.isNone = true then ((set_Set_Check.f k l1 a0_0).bind fun t353 => (if t353.isNone = true then (flat_Steps.l0 k l1 a2 0 a0_0 a0_1 a0_2 a0_3 a0_4) else (some (([] : List (S65)), some (t353.getD 0))))) else (some (([] : List (S65)), some (t351.getD 0)))))
set_option maxHeartbeats 8000000 in
set_option maxRecDepth 100000 in
theorem flat_Steps.calls (k : Nat) (a0_0 : Int) (a0_1 : Int) (a0_2 : Int) (a0_3 : Int) (a0_4 : Int) (P1_ : Nat → Prop) (A1 : Option Addr) (c1 : Nat) (l1 : List (S65)) (a2 : Int) (r1 : List (S65)) (r2 : Option Int) (w : World) (hGSix : Six w) (hs1 : Kd.V k65 65 w w.heap.size (fun k_ => P1_ k_) (.slice A1 l1.length c1) l1) (h : flat_Steps.f k a0_0 a0_1 a0_2 a0_3 a0_4 l1 a2 = some (r1, r2)) :
  Calls Tryd.prog 23 #[.agg #[.int .i64 a0_0, .int .u64 a0_1, .int .u64 a0_2, .int .u64 a0_3, .int .u64 a0_4], .slice A1 l1.length c1, .int .i64 a2] w fun e w' => ∃ v0_ : Value, e = .returned (.tuple #[v0_, errW r2]) ∧ Kd.R k65 65 w' w.heap.size (fun k_ => (w.heap.size ≤ k_)) v0_ r1 ∧ Below w.heap.size w w' := by
 have hu29 := Tryd.underlying29
 have hu39 := Tryd.underlying39
 have hu87 := Tryd.underlying87
 have HO1 := Aside0.mk (show Kd.V k65 65 w w.heap.size (fun k_ => (P1_ k_ ∨ w.heap.size ≤ k_)) (.slice A1 l1.length c1) l1 from Kd.V_mono hs1 (fun k_ hk => .inl hk))
 have HB := Aside0.mk (Below.refl w.heap.size w)
 have HGSix := Aside0.mk hGSix
 clear hGSix
 have H : (if a2 < 0 then (some (([] : List (S65)), some 4)) else ((XTCheck.f a0_0 a0_1 a0_2 a0_3 a0_4).bind fun t351 => (if t351.isNone = true then ((set_Set_Check.f k l1 a0_0).bind fun t353 => (if t353.isNone = true then (flat_Steps.l0 k l1 a2 0 a0_0 a0_1 a0_2 a0_3 a0_4) else (some (([] : List (S65)), some (t353.getD 0))))) else (some (([] : List (S65)), some (t351.getD 0)))))) = some (r1, r2) := h
 clear h
 by_cases c4 : a2 < 0
 ·
  rw [if_pos c4] at H
  have c4b0 : decide (a2 < 0) = true := decide_eq_true c4
  clear c4
  simp only [Option.some.injEq, Prod.mk.injEq] at H
  obtain ⟨rfl, rfl⟩ := H
  go_enter Tryd.func23, Tryd.ntmps23
  go_wp2_with (first | ((with_reducible refine gate_dst (N := 3) rfl ?_); refine box_event ?hg (N := 3) ?hd (cs := #[.int .i64 a0_0, .int .u64 a0_1, .int .u64 a0_2, .int .u64 a0_3, .int .u64 a0_4]) (t := 29) ?hr ?_; (case hd => rfl); (case hg => rfl); (case hr => first | (go_simp; done) | (go_simp; rfl)); intro gb350 hg w5 hbox hb; have n0_ := Aside0.mk (Kd.V_below (Kd.V_elderB (by (with_reducible repeat (first | apply Kd.V_alloc | apply Kd.V_drewN | apply Kd.V_drew)); exact HO1.out) gb350 (Nat.le_of_eq hg.symm)) hb); have n1_ := Aside0.mk (below_step (by repeat (first | (with_reducible first | exact HB.out | apply ba_ | apply bn_ | apply bd_) | exact HB.out)) hb); have n2_ := Aside0.mk (hbox); have n3_ := Aside0.mk ((by rw [hg]; exact (below_size (by repeat (first | (with_reducible first | exact HB.out | apply ba_ | apply bn_ | apply bd_) | exact HB.out))) : w.heap.size ≤ gb350)); have n4_ := Aside0.mk ((by rw [hg]; exact (below_size (by repeat (first | (with_reducible first | exact HB.out | apply ba_ | apply bn_ | apply bd_) | exact HB.out))) : w.heap.size ≤ gb350)); clear HO1; clear HB; have HO1 := n0_; have HB := n1_; have BK350 := n2_; have GW350 := n3_; have GE350 := n4_; clear n0_ n1_ n2_ n3_ n4_; clear hb hbox hg))
  go_ret2
  exact ⟨_, by first | rfl | (simp [errW_none, errW_some] <;> rfl) | (simp [*, errW_none, errW_some] <;> rfl), by first | exact Kd.R_nil _ _ _ _ _ | exact Kd.N_nil _ _ _ _ _ | exact Kd.V_nil _ _ _ _ _ | exact Kd.Q_nil _ _ _ _ _ | exact Kd.S_nil _ _ _ _ _, by repeat (first | (with_reducible first | exact HB.out | apply ba_ | apply bn_ | apply bd_ | refine below_set ?_ GE350.out) | exact HB.out)⟩
 ·
  rw [if_neg c4] at H
  have c4b0 : decide (a2 < 0) = false := decide_eq_false c4
  clear c4
  replace H := Option.bind_eq_some_iff.mp H
  obtain ⟨t351, A60, H⟩ := H
  replace H : (if t351.isNone = true then ((set_Set_Check.f k l1 a0_0).bind fun t353 => (if t353.isNone = true then (flat_Steps.l0 k l1 a2 0 a0_0 a0_1 a0_2 a0_3 a0_4) else (some (([] : List (S65)), some (t353.getD 0))))) else (some (([] : List (S65)), some (t351.getD 0)))) = some (r1, r2) := H
  have A6 := Aside0.mk A60
  clear A60
  rcases t351 with _ | q352
  ·
   have H1 : ((set_Set_Check.f k l1 a0_0).bind fun t353 => (if t353.isNone = true then (flat_Steps.l0 k l1 a2 0 a0_0 a0_1 a0_2 a0_3 a0_4) else (some (([] : List (S65)), some (t353.getD 0))))) = some (r1, r2) := by rw [if_pos (show (none : Option Int).isNone = true by rfl)] at H; exact H
   clear H
   have H := H1
   clear H1
   try simp only [errW_none, errW_some]
   replace H := Option.bind_eq_some_iff.mp H
   obtain ⟨t353, A70, H⟩ := H
   replace H : (if t353.isNone = true then (flat_Steps.l0 k l1 a2 0 a0_0 a0_1 a0_2 a0_3 a0_4) else (some (([] : List (S65)), some (t353.getD 0)))) = some (r1, r2) := H
   have A7 := Aside0.mk A70
   clear A70
   rcases t353 with _ | q354
   ·
    have H1 : (flat_Steps.l0 k l1 a2 0 a0_0 a0_1 a0_2 a0_3 a0_4) = some (r1, r2) := by rw [if_pos (show (none : Option Int).isNone = true by rfl)] at H; exact H
    clear H
    have H := H1
    clear H1
    try simp only [errW_none, errW_some]
    have H' := Aside0.mk H
    clear H
    go_enter Tryd.func23, Tryd.ntmps23
    go_wp2_with (first | ((with_reducible refine gate_dst (N := 3) rfl ?_); refine box_event ?hg (N := 3) ?hd (cs := #[.int .i64 a0_0, .int .u64 a0_1, .int .u64 a0_2, .int .u64 a0_3, .int .u64 a0_4]) (t := 29) ?hr ?_; (case hd => rfl); (case hg => rfl); (case hr => first | (go_simp; done) | (go_simp; rfl)); intro gb350 hg w8 hbox hb; have n0_ := Aside0.mk (Kd.V_below (Kd.V_elderB (by (with_reducible repeat (first | apply Kd.V_alloc | apply Kd.V_drewN | apply Kd.V_drew)); exact HO1.out) gb350 (Nat.le_of_eq hg.symm)) hb); have n1_ := Aside0.mk (below_step (by repeat (first | (with_reducible first | exact HB.out | apply ba_ | apply bn_ | apply bd_) | exact HB.out)) hb); have n2_ := Aside0.mk (hbox); have n3_ := Aside0.mk ((by rw [hg]; exact (below_size (by repeat (first | (with_reducible first | exact HB.out | apply ba_ | apply bn_ | apply bd_) | exact HB.out))) : w.heap.size ≤ gb350)); have n4_ := Aside0.mk ((by rw [hg]; exact (below_size (by repeat (first | (with_reducible first | exact HB.out | apply ba_ | apply bn_ | apply bd_) | exact HB.out))) : w.heap.size ≤ gb350)); clear HO1; clear HB; have HO1 := n0_; have HB := n1_; have BK350 := n2_; have GW350 := n3_; have GE350 := n4_; clear n0_ n1_ n2_ n3_ n4_; clear hb hbox hg; have hcz9_0 : w8.cell? ⟨gb350, 0, none⟩ = some (.int .i64 a0_0) := (blk_cell BK350.out 0).trans rfl; have hcz9_1 : w8.cell? ⟨gb350, 1, none⟩ = some (.int .u64 a0_1) := (blk_cell BK350.out 1).trans rfl; have hcz9_2 : w8.cell? ⟨gb350, 2, none⟩ = some (.int .u64 a0_2) := (blk_cell BK350.out 2).trans rfl; have hcz9_3 : w8.cell? ⟨gb350, 3, none⟩ = some (.int .u64 a0_3) := (blk_cell BK350.out 3).trans rfl; have hcz9_4 : w8.cell? ⟨gb350, 4, none⟩ = some (.int .u64 a0_4) := (blk_cell BK350.out 4).trans rfl; have hfz9_0 := blk_frozen BK350.out 0; have hfz9_1 := blk_frozen BK350.out 1; have hfz9_2 := blk_frozen BK350.out 2; have hfz9_3 := blk_frozen BK350.out 3; have hfz9_4 := blk_frozen BK350.out 4) | ((with_reducible refine gate_callee (f := 53) rfl ?_); refine goesL_ (some 17) rfl rfl Tryd.func53 (by kernel_rfl) rfl #[.agg #[.int .i64 a0_0, .int .u64 a0_1, .int .u64 a0_2, .int .u64 a0_3, .int .u64 a0_4]] rfl (by (try simp only [List.map_toArray, List.map_cons, List.map_nil]); first | done | rfl | (simp only [List.length_drop, List.length_take]; rfl)) ?_; (with_reducible refine (XTCheck.calls a0_0 a0_1 a0_2 a0_3 a0_4 none _ A6.out).mono ?_); rintro e w10 ⟨rfl, hb⟩; refine ⟨_, rfl, ?_⟩; have n0_ := Aside0.mk (Kd.V_below (by (with_reducible repeat (first | apply Kd.V_alloc | apply Kd.V_drewN | apply Kd.V_drew)); exact HO1.out) hb); have n1_ := Aside0.mk (blk_below (g := gb350) (o := .cells #[.int .i64 a0_0, .int .u64 a0_1, .int .u64 a0_2, .int .u64 a0_3, .int .u64 a0_4] 29 (0, 0)) (by (with_reducible repeat (first | apply bN_ | apply bD_ | apply bA_)); exact BK350.out) hb); have n2_ := Aside0.mk (below_step (by repeat (first | (with_reducible first | exact HB.out | apply ba_ | apply bn_ | apply bd_ | refine below_set ?_ GE350.out) | exact HB.out)) hb); clear HO1; clear BK350; clear HB; have HO1 := n0_; have BK350 := n1_; have HB := n2_; clear n0_ n1_ n2_; (try clear hb); (try clear hb2); (try clear hk); (try clear hi); (try simp only [errW_none, errW_some]); have hcz11_0 : w10.cell? ⟨gb350, 0, none⟩ = some (.int .i64 a0_0) := (blk_cell BK350.out 0).trans rfl; have hcz11_1 : w10.cell? ⟨gb350, 1, none⟩ = some (.int .u64 a0_1) := (blk_cell BK350.out 1).trans rfl; have hcz11_2 : w10.cell? ⟨gb350, 2, none⟩ = some (.int .u64 a0_2) := (blk_cell BK350.out 2).trans rfl; have hcz11_3 : w10.cell? ⟨gb350, 3, none⟩ = some (.int .u64 a0_3) := (blk_cell BK350.out 3).trans rfl; have hcz11_4 : w10.cell? ⟨gb350, 4, none⟩ = some (.int .u64 a0_4) := (blk_cell BK350.out 4).trans rfl; have hfz11_0 := blk_frozen BK350.out 0; have hfz11_1 := blk_frozen BK350.out 1; have hfz11_2 := blk_frozen BK350.out 2; have hfz11_3 := blk_frozen BK350.out 3; have hfz11_4 := blk_frozen BK350.out 4) | ((with_reducible refine gate_callee (f := 43) rfl ?_); refine goesL_ (some 24) rfl rfl Tryd.func43 (by kernel_rfl) rfl #[.slice A1 l1.length c1, .int .i64 a0_0] rfl (by (try simp only [List.map_toArray, List.map_cons, List.map_nil]); first | done | rfl | (simp only [List.length_drop, List.length_take]; rfl)) ?_; (with_reducible refine (set_Set_Check.calls k _ _ l1 a0_0 none _ ?side1 ?side2 A7.out).mono ?_); (case side1 => repeat (first | exact (Kd.V_reads' HO1.out).2.2 | (with_reducible refine Kd.C_alloc ?_ _) | (with_reducible refine Kd.C_drewN ?_ _) | (with_reducible refine Kd.C_drew ?_))); (case side2 => exact (Kd.V_reads' HO1.out).2.1); rintro e w12 ⟨rfl, hb⟩; refine ⟨_, rfl, ?_⟩; have n0_ := Aside0.mk (Kd.V_below (by (with_reducible repeat (first | apply Kd.V_alloc | apply Kd.V_drewN | apply Kd.V_drew)); exact HO1.out) hb); have n1_ := Aside0.mk (blk_below (g := gb350) (o := .cells #[.int .i64 a0_0, .int .u64 a0_1, .int .u64 a0_2, .int .u64 a0_3, .int .u64 a0_4] 29 (0, 0)) (by (with_reducible repeat (first | apply bN_ | apply bD_ | apply bA_)); exact BK350.out) hb); have n2_ := Aside0.mk (below_step (by repeat (first | (with_reducible first | exact HB.out | apply ba_ | apply bn_ | apply bd_ | refine below_set ?_ GE350.out) | exact HB.out)) hb); clear HO1; clear BK350; clear HB; have HO1 := n0_; have BK350 := n1_; have HB := n2_; clear n0_ n1_ n2_; (try clear hb); (try clear hb2); (try clear hk); (try clear hi); (try simp only [errW_none, errW_some])))
    go_loopg [1, 29] k (fun kq v1 v29 w' => ∃ (x1_1 : List (S65)) (x29_1 : Int), v29 = .int .i64 x29_1 ∧ Aside0 (flat_Steps.l0 kq x1_1 a2 x29_1 a0_0 a0_1 a0_2 a0_3 a0_4 = some (r1, r2)) ∧ Aside0 (kq ≤ k) ∧ Aside0 (Kd.V k65 65 w' w.heap.size (fun k_ => (P1_ k_ ∨ w.heap.size ≤ k_) ∧ k_ ≠ gb350) v1 x1_1) ∧ Aside0 (w'.heap[gb350]? = some (.cells #[.int .i64 a0_0, .int .u64 a0_1, .int .u64 a0_2, .int .u64 a0_3, .int .u64 a0_4] 29 (0, 0))) ∧ Aside0 (Below w.heap.size w w'))
    case atStart => exact ⟨(l1), (0), (by first | rfl | (simp; done) | (simp [*]; done)), H', ⟨Nat.le_refl _⟩, ⟨by (with_reducible repeat (first | apply Kd.V_alloc | apply Kd.V_drewN | apply Kd.V_drew)); exact HO1.out⟩, ⟨by (with_reducible repeat (first | apply bN_ | apply bD_ | apply bA_)); exact BK350.out⟩, ⟨by repeat (first | (with_reducible first | exact HB.out | apply ba_ | apply bn_ | apply bd_ | refine below_set ?_ GE350.out) | exact HB.out)⟩⟩
    case round =>
     clear H'
     try clear c1
     try clear c2
     try clear p2
     try clear q3
     try clear c4
     try clear c4b0
     try clear c5
     try clear hcz11_0
     try clear hcz11_1
     try clear hcz11_2
     try clear hcz11_3
     try clear hcz11_4
     try clear hcz9_0
     try clear hcz9_1
     try clear hcz9_2
     try clear hcz9_3
     try clear hcz9_4
     try clear hfz11_0
     try clear hfz11_1
     try clear hfz11_2
     try clear hfz11_3
     try clear hfz11_4
     try clear hfz9_0
     try clear hfz9_1
     try clear hfz9_2
     try clear hfz9_3
     try clear hfz9_4
     try clear q352
     try clear q354
     obtain ⟨x1_1, x29_1, rfl, HA, HK1, HO_1, BK350, HB⟩ := hrel
     cases gk with
     | zero => exact absurd HA.out (by simp [flat_Steps.l0])
     | succ k1 =>
      have H := HA.out
      clear HA
      simp only [flat_Steps.l0] at H
      by_cases c13 : x29_1 < a2
      ·
       rw [if_pos c13] at H
       have c13b0 : decide (x29_1 < a2) = true := decide_eq_true c13
       clear c13
       by_cases c14 : (x1_1.length : Int) = 0
       ·
        rw [if_pos c14] at H
        have c14b0 : ((x1_1.length : Int) == 0) = true := beq_iff_eq.mpr c14
        have c14b1 : ((x1_1.length : Int) != 0) = false := bne_eq_false_iff_eq.mpr c14
        clear c14
        replace H := Option.bind_eq_some_iff.mp H
        obtain ⟨t358, A150, H⟩ := H
        replace H : (some (t358, none)) = some (r1, r2) := H
        have A15 := Aside0.mk A150
        clear A150
        simp only [Option.some.injEq, Prod.mk.injEq] at H
        obtain ⟨rfl, rfl⟩ := H
        obtain ⟨Ao16, co16, eo16⟩ := Kd.V_slice HO_1.out
        subst eo16
        go_wp2_with (first | ((with_reducible refine gate_callee (f := 37) rfl ?_); refine goesL_ (some 49) rfl rfl Tryd.func37 (by kernel_rfl) rfl #[.slice Ao16 x1_1.length co16] rfl (by (try simp only [List.map_toArray, List.map_cons, List.map_nil]); first | done | rfl | (simp only [List.length_drop, List.length_take]; rfl)) ?_; (with_reducible refine (XOf.calls _ _ x1_1 t358 _ ?side1 ?side2 A15.out).mono ?_); (case side1 => repeat (first | exact (Kd.V_reads' HO_1.out).2.2 | (with_reducible refine Kd.C_alloc ?_ _) | (with_reducible refine Kd.C_drewN ?_ _) | (with_reducible refine Kd.C_drew ?_))); (case side2 => exact (Kd.V_reads' HO_1.out).2.1); rintro e w17 ⟨v359, rfl, ho0, hb⟩; refine ⟨_, rfl, ?_⟩; have n0_ := Aside0.mk (Kd.V_elder' (by (with_reducible repeat (first | apply Kd.V_alloc | apply Kd.V_drewN | apply Kd.V_drew)); exact HO_1.out) (Kd.R_base ho0) hb); have n1_ := Aside0.mk (Kd.R_lower (Kd.R_newM (M := fun k_ => (w.heap.size ≤ k_)) ho0 (below_size (by repeat (first | (with_reducible first | exact HB.out | apply ba_ | apply bn_ | apply bd_ | refine below_set ?_ GE350.out) | exact HB.out))) (fun k_ h_ => h_)) (below_size (by repeat (first | (with_reducible first | exact HB.out | apply ba_ | apply bn_ | apply bd_ | refine below_set ?_ GE350.out) | exact HB.out)))); have n2_ := Aside0.mk (blk_below (g := gb350) (o := .cells #[.int .i64 a0_0, .int .u64 a0_1, .int .u64 a0_2, .int .u64 a0_3, .int .u64 a0_4] 29 (0, 0)) (by (with_reducible repeat (first | apply bN_ | apply bD_ | apply bA_)); exact BK350.out) hb); have n3_ := Aside0.mk (below_step (by repeat (first | (with_reducible first | exact HB.out | apply ba_ | apply bn_ | apply bd_ | refine below_set ?_ GE350.out) | exact HB.out)) hb); clear HO_1; clear BK350; clear HB; have HO_1 := n0_; have HO360 := n1_; have BK350 := n2_; have HB := n3_; clear n0_ n1_ n2_ n3_; (try clear hb); (try clear hb2); (try clear hk); (try clear hi); (try clear ho0)))
        go_ret2
        exact ⟨_, by first | rfl | (simp [errW_none, errW_some] <;> rfl) | (simp [*, errW_none, errW_some] <;> rfl), by (with_reducible repeat (first | apply Kd.R_alloc | apply Kd.R_drewN | apply Kd.R_drew)); exact Kd.R_mono HO360.out (fun _ hk => hk.1), by repeat (first | (with_reducible first | exact HB.out | apply ba_ | apply bn_ | apply bd_ | refine below_set ?_ GE350.out) | exact HB.out)⟩
       ·
        rw [if_neg c14] at H
        have c14b0 : ((x1_1.length : Int) == 0) = false := beq_eq_false_iff_ne.mpr c14
        have c14b1 : ((x1_1.length : Int) != 0) = true := bne_iff_ne.mpr c14
        have c14b2 : ¬ (x1_1 = []) := fun h_ => c14 (by rw [h_]; rfl)
        replace H := Option.bind_eq_some_iff.mp H
        obtain ⟨⟨t361, t364⟩, A180, H⟩ := H
        replace H : (if t364.isNone = true then (flat_Steps.l0 k1 t361 a2 (wrap64 (x29_1 + 1)) a0_0 a0_1 a0_2 a0_3 a0_4) else ((XWrap.f (⟨#[103, 101, 110, 101, 114, 97, 116, 105, 111, 110]⟩ : ByteArray) x29_1 (some (t364.getD 0))).bind fun t366 => (some (([] : List (S65)), t366)))) = some (r1, r2) := H
        have A18 := Aside0.mk A180
        clear A180
        rcases t364 with _ | q365
        ·
         have H1 : (flat_Steps.l0 k1 t361 a2 (wrap64 (x29_1 + 1)) a0_0 a0_1 a0_2 a0_3 a0_4) = some (r1, r2) := by rw [if_pos (show (none : Option Int).isNone = true by rfl)] at H; exact H
         clear H
         have H := H1
         clear H1
         try simp only [errW_none, errW_some]
         have H' := Aside0.mk H
         clear H
         obtain ⟨Ao19, co19, eo19⟩ := Kd.V_slice HO_1.out
         subst eo19
         have hcz20_0 : wr.cell? ⟨gb350, 0, none⟩ = some (.int .i64 a0_0) := (blk_cell BK350.out 0).trans rfl
         have hcz20_1 : wr.cell? ⟨gb350, 1, none⟩ = some (.int .u64 a0_1) := (blk_cell BK350.out 1).trans rfl
         have hcz20_2 : wr.cell? ⟨gb350, 2, none⟩ = some (.int .u64 a0_2) := (blk_cell BK350.out 2).trans rfl
         have hcz20_3 : wr.cell? ⟨gb350, 3, none⟩ = some (.int .u64 a0_3) := (blk_cell BK350.out 3).trans rfl
         have hcz20_4 : wr.cell? ⟨gb350, 4, none⟩ = some (.int .u64 a0_4) := (blk_cell BK350.out 4).trans rfl
         have hfz20_0 := blk_frozen BK350.out 0
         have hfz20_1 := blk_frozen BK350.out 1
         have hfz20_2 := blk_frozen BK350.out 2
         have hfz20_3 := blk_frozen BK350.out 3
         have hfz20_4 := blk_frozen BK350.out 4
         go_wp2_with (first | ((with_reducible refine gate_callee (f := 24) rfl ?_); refine goesL_ (some 38) rfl rfl Tryd.func24 (by kernel_rfl) rfl #[.agg #[.int .i64 a0_0, .int .u64 a0_1, .int .u64 a0_2, .int .u64 a0_3, .int .u64 a0_4], .slice Ao19 x1_1.length co19] rfl (by (try simp only [List.map_toArray, List.map_cons, List.map_nil]); first | done | rfl | (simp only [List.length_drop, List.length_take]; rfl)) ?_; (with_reducible refine (XStep.calls a0_0 a0_1 a0_2 a0_3 a0_4 _ _ x1_1 t361 none _ ?side1 ?side2 ?side3 A18.out).mono ?_); (case side1 => exact HGSix.out.below (by repeat (first | (with_reducible first | exact HB.out | apply ba_ | apply bn_ | apply bd_ | refine below_set ?_ GE350.out) | exact HB.out))); (case side2 => repeat (first | exact (Kd.V_reads' HO_1.out).2.2 | (with_reducible refine Kd.C_alloc ?_ _) | (with_reducible refine Kd.C_drewN ?_ _) | (with_reducible refine Kd.C_drew ?_))); (case side3 => exact (Kd.V_reads' HO_1.out).2.1); rintro e w21 ⟨v362, rfl, ho0, hb⟩; refine ⟨_, rfl, ?_⟩; have n0_ := Aside0.mk (Kd.V_elder' (by (with_reducible repeat (first | apply Kd.V_alloc | apply Kd.V_drewN | apply Kd.V_drew)); exact HO_1.out) (Kd.R_base ho0) hb); have n1_ := Aside0.mk (Kd.R_lower (Kd.R_newM (M := fun k_ => (w.heap.size ≤ k_)) ho0 (below_size (by repeat (first | (with_reducible first | exact HB.out | apply ba_ | apply bn_ | apply bd_ | refine below_set ?_ GE350.out) | exact HB.out))) (fun k_ h_ => h_)) (below_size (by repeat (first | (with_reducible first | exact HB.out | apply ba_ | apply bn_ | apply bd_ | refine below_set ?_ GE350.out) | exact HB.out)))); have n2_ := Aside0.mk (blk_below (g := gb350) (o := .cells #[.int .i64 a0_0, .int .u64 a0_1, .int .u64 a0_2, .int .u64 a0_3, .int .u64 a0_4] 29 (0, 0)) (by (with_reducible repeat (first | apply bN_ | apply bD_ | apply bA_)); exact BK350.out) hb); have n3_ := Aside0.mk (below_step (by repeat (first | (with_reducible first | exact HB.out | apply ba_ | apply bn_ | apply bd_ | refine below_set ?_ GE350.out) | exact HB.out)) hb); clear HO_1; clear BK350; clear HB; have HO_1 := n0_; have HO363 := n1_; have BK350 := n2_; have HB := n3_; clear n0_ n1_ n2_ n3_; (try clear hb); (try clear hb2); (try clear hk); (try clear hi); (try clear ho0); (try simp only [errW_none, errW_some])))
         go_roundg k1
         case measure => have := HK1.out; omega
         case rel => exact ⟨(t361), (wrap64 (x29_1 + 1)), (by first | rfl | (simp; done) | (simp [*]; done)), H', ⟨by have := HK1.out; omega⟩, ⟨Kd.V_mono (Kd.R_V (by (with_reducible repeat (first | apply Kd.R_alloc | apply Kd.R_drewN | apply Kd.R_drew)); exact Kd.R_types HO363.out BK350.out (by decide))) (fun k_ hk => by first | exact ⟨(.inr (hk.1.1)), hk.2⟩ | exact ⟨(.inr (hk.1)), hk.2⟩ | exact (.inr (hk)))⟩, ⟨by (with_reducible repeat (first | apply bN_ | apply bD_ | apply bA_)); exact BK350.out⟩, ⟨by repeat (first | (with_reducible first | exact HB.out | apply ba_ | apply bn_ | apply bd_ | refine below_set ?_ GE350.out) | exact HB.out)⟩⟩
        ·
         have H1 : ((XWrap.f (⟨#[103, 101, 110, 101, 114, 97, 116, 105, 111, 110]⟩ : ByteArray) x29_1 (some q365)).bind fun t366 => (some (([] : List (S65)), t366))) = some (r1, r2) := by rw [if_neg (show ¬ (some q365).isNone = true by simp)] at H; exact H
         clear H
         have H := H1
         clear H1
         try simp only [errW_none, errW_some]
         replace H := Option.bind_eq_some_iff.mp H
         obtain ⟨t366, A220, H⟩ := H
         replace H : (some (([] : List (S65)), t366)) = some (r1, r2) := H
         have A22 := Aside0.mk A220
         clear A220
         simp only [Option.some.injEq, Prod.mk.injEq] at H
         obtain ⟨rfl, rfl⟩ := H
         obtain ⟨Ao23, co23, eo23⟩ := Kd.V_slice HO_1.out
         subst eo23
         have hcz24_0 : wr.cell? ⟨gb350, 0, none⟩ = some (.int .i64 a0_0) := (blk_cell BK350.out 0).trans rfl
         have hcz24_1 : wr.cell? ⟨gb350, 1, none⟩ = some (.int .u64 a0_1) := (blk_cell BK350.out 1).trans rfl
         have hcz24_2 : wr.cell? ⟨gb350, 2, none⟩ = some (.int .u64 a0_2) := (blk_cell BK350.out 2).trans rfl
         have hcz24_3 : wr.cell? ⟨gb350, 3, none⟩ = some (.int .u64 a0_3) := (blk_cell BK350.out 3).trans rfl
         have hcz24_4 : wr.cell? ⟨gb350, 4, none⟩ = some (.int .u64 a0_4) := (blk_cell BK350.out 4).trans rfl
         have hfz24_0 := blk_frozen BK350.out 0
         have hfz24_1 := blk_frozen BK350.out 1
         have hfz24_2 := blk_frozen BK350.out 2
         have hfz24_3 := blk_frozen BK350.out 3
         have hfz24_4 := blk_frozen BK350.out 4
         go_wp2_with (first | ((with_reducible refine gate_callee (f := 24) rfl ?_); refine goesL_ (some 38) rfl rfl Tryd.func24 (by kernel_rfl) rfl #[.agg #[.int .i64 a0_0, .int .u64 a0_1, .int .u64 a0_2, .int .u64 a0_3, .int .u64 a0_4], .slice Ao23 x1_1.length co23] rfl (by (try simp only [List.map_toArray, List.map_cons, List.map_nil]); first | done | rfl | (simp only [List.length_drop, List.length_take]; rfl)) ?_; (with_reducible refine (XStep.calls a0_0 a0_1 a0_2 a0_3 a0_4 _ _ x1_1 t361 (some q365) _ ?side1 ?side2 ?side3 A18.out).mono ?_); (case side1 => exact HGSix.out.below (by repeat (first | (with_reducible first | exact HB.out | apply ba_ | apply bn_ | apply bd_ | refine below_set ?_ GE350.out) | exact HB.out))); (case side2 => repeat (first | exact (Kd.V_reads' HO_1.out).2.2 | (with_reducible refine Kd.C_alloc ?_ _) | (with_reducible refine Kd.C_drewN ?_ _) | (with_reducible refine Kd.C_drew ?_))); (case side3 => exact (Kd.V_reads' HO_1.out).2.1); rintro e w25 ⟨v362, rfl, ho0, hb⟩; refine ⟨_, rfl, ?_⟩; have n0_ := Aside0.mk (Kd.V_elder' (by (with_reducible repeat (first | apply Kd.V_alloc | apply Kd.V_drewN | apply Kd.V_drew)); exact HO_1.out) (Kd.R_base ho0) hb); have n1_ := Aside0.mk (Kd.R_lower (Kd.R_newM (M := fun k_ => (w.heap.size ≤ k_)) ho0 (below_size (by repeat (first | (with_reducible first | exact HB.out | apply ba_ | apply bn_ | apply bd_ | refine below_set ?_ GE350.out) | exact HB.out))) (fun k_ h_ => h_)) (below_size (by repeat (first | (with_reducible first | exact HB.out | apply ba_ | apply bn_ | apply bd_ | refine below_set ?_ GE350.out) | exact HB.out)))); have n2_ := Aside0.mk (blk_below (g := gb350) (o := .cells #[.int .i64 a0_0, .int .u64 a0_1, .int .u64 a0_2, .int .u64 a0_3, .int .u64 a0_4] 29 (0, 0)) (by (with_reducible repeat (first | apply bN_ | apply bD_ | apply bA_)); exact BK350.out) hb); have n3_ := Aside0.mk (below_step (by repeat (first | (with_reducible first | exact HB.out | apply ba_ | apply bn_ | apply bd_ | refine below_set ?_ GE350.out) | exact HB.out)) hb); clear HO_1; clear BK350; clear HB; have HO_1 := n0_; have HO363 := n1_; have BK350 := n2_; have HB := n3_; clear n0_ n1_ n2_ n3_; (try clear hb); (try clear hb2); (try clear hk); (try clear hi); (try clear ho0); (try simp only [errW_none, errW_some]); have CA22 := fun W => XWrap.calls (⟨#[103, 101, 110, 101, 114, 97, 116, 105, 111, 110]⟩ : ByteArray) x29_1 (some q365) t366 W A22.out; try simp only [errW_none, errW_some] at CA22) | (go_at_call 60; (with_reducible refine (CA22 _).mono ?_); rintro e w26 ⟨rfl, hb⟩; have n0_ := Aside0.mk (Kd.V_below (by (with_reducible repeat (first | apply Kd.V_alloc | apply Kd.V_drewN | apply Kd.V_drew)); exact HO_1.out) hb); have n1_ := Aside0.mk (Kd.R_below (by (with_reducible repeat (first | apply Kd.R_alloc | apply Kd.R_drewN | apply Kd.R_drew)); exact HO363.out) hb); have n2_ := Aside0.mk (blk_below (g := gb350) (o := .cells #[.int .i64 a0_0, .int .u64 a0_1, .int .u64 a0_2, .int .u64 a0_3, .int .u64 a0_4] 29 (0, 0)) (by (with_reducible repeat (first | apply bN_ | apply bD_ | apply bA_)); exact BK350.out) hb); have n3_ := Aside0.mk (below_step (by repeat (first | (with_reducible first | exact HB.out | apply ba_ | apply bn_ | apply bd_ | refine below_set ?_ GE350.out) | exact HB.out)) hb); clear HO_1; clear HO363; clear BK350; clear HB; have HO_1 := n0_; have HO363 := n1_; have BK350 := n2_; have HB := n3_; clear n0_ n1_ n2_ n3_; (try clear hb); (try clear hb2); (try clear hk); (try clear hi); (try simp only [errW_none, errW_some])))
         go_ret2
         exact ⟨_, by first | rfl | (simp [errW_none, errW_some] <;> rfl) | (simp [*, errW_none, errW_some] <;> rfl), by first | exact Kd.R_nil _ _ _ _ _ | exact Kd.N_nil _ _ _ _ _ | exact Kd.V_nil _ _ _ _ _ | exact Kd.Q_nil _ _ _ _ _ | exact Kd.S_nil _ _ _ _ _, by repeat (first | (with_reducible first | exact HB.out | apply ba_ | apply bn_ | apply bd_ | refine below_set ?_ GE350.out) | exact HB.out)⟩
      ·
       rw [if_neg c13] at H
       have c13b0 : decide (x29_1 < a2) = false := decide_eq_false c13
       clear c13
       replace H := Option.bind_eq_some_iff.mp H
       obtain ⟨t355, A270, H⟩ := H
       replace H : (some (t355, none)) = some (r1, r2) := H
       have A27 := Aside0.mk A270
       clear A270
       simp only [Option.some.injEq, Prod.mk.injEq] at H
       obtain ⟨rfl, rfl⟩ := H
       obtain ⟨Ao28, co28, eo28⟩ := Kd.V_slice HO_1.out
       subst eo28
       go_wp2_with (first | ((with_reducible refine gate_callee (f := 37) rfl ?_); refine goesL_ (some 49) rfl rfl Tryd.func37 (by kernel_rfl) rfl #[.slice Ao28 x1_1.length co28] rfl (by (try simp only [List.map_toArray, List.map_cons, List.map_nil]); first | done | rfl | (simp only [List.length_drop, List.length_take]; rfl)) ?_; (with_reducible refine (XOf.calls _ _ x1_1 t355 _ ?side1 ?side2 A27.out).mono ?_); (case side1 => repeat (first | exact (Kd.V_reads' HO_1.out).2.2 | (with_reducible refine Kd.C_alloc ?_ _) | (with_reducible refine Kd.C_drewN ?_ _) | (with_reducible refine Kd.C_drew ?_))); (case side2 => exact (Kd.V_reads' HO_1.out).2.1); rintro e w29 ⟨v356, rfl, ho0, hb⟩; refine ⟨_, rfl, ?_⟩; have n0_ := Aside0.mk (Kd.V_elder' (by (with_reducible repeat (first | apply Kd.V_alloc | apply Kd.V_drewN | apply Kd.V_drew)); exact HO_1.out) (Kd.R_base ho0) hb); have n1_ := Aside0.mk (Kd.R_lower (Kd.R_newM (M := fun k_ => (w.heap.size ≤ k_)) ho0 (below_size (by repeat (first | (with_reducible first | exact HB.out | apply ba_ | apply bn_ | apply bd_ | refine below_set ?_ GE350.out) | exact HB.out))) (fun k_ h_ => h_)) (below_size (by repeat (first | (with_reducible first | exact HB.out | apply ba_ | apply bn_ | apply bd_ | refine below_set ?_ GE350.out) | exact HB.out)))); have n2_ := Aside0.mk (blk_below (g := gb350) (o := .cells #[.int .i64 a0_0, .int .u64 a0_1, .int .u64 a0_2, .int .u64 a0_3, .int .u64 a0_4] 29 (0, 0)) (by (with_reducible repeat (first | apply bN_ | apply bD_ | apply bA_)); exact BK350.out) hb); have n3_ := Aside0.mk (below_step (by repeat (first | (with_reducible first | exact HB.out | apply ba_ | apply bn_ | apply bd_ | refine below_set ?_ GE350.out) | exact HB.out)) hb); clear HO_1; clear BK350; clear HB; have HO_1 := n0_; have HO357 := n1_; have BK350 := n2_; have HB := n3_; clear n0_ n1_ n2_ n3_; (try clear hb); (try clear hb2); (try clear hk); (try clear hi); (try clear ho0)))
       go_ret2
       exact ⟨_, by first | rfl | (simp [errW_none, errW_some] <;> rfl) | (simp [*, errW_none, errW_some] <;> rfl), by (with_reducible repeat (first | apply Kd.R_alloc | apply Kd.R_drewN | apply Kd.R_drew)); exact Kd.R_mono HO357.out (fun _ hk => hk.1), by repeat (first | (with_reducible first | exact HB.out | apply ba_ | apply bn_ | apply bd_ | refine below_set ?_ GE350.out) | exact HB.out)⟩
   ·
    have H1 : (some (([] : List (S65)), some q354)) = some (r1, r2) := by rw [if_neg (show ¬ (some q354).isNone = true by simp)] at H; exact H
    clear H
    have H := H1
    clear H1
    try simp only [errW_none, errW_some]
    simp only [Option.some.injEq, Prod.mk.injEq] at H
    obtain ⟨rfl, rfl⟩ := H
    go_enter Tryd.func23, Tryd.ntmps23
    go_wp2_with (first | ((with_reducible refine gate_dst (N := 3) rfl ?_); refine box_event ?hg (N := 3) ?hd (cs := #[.int .i64 a0_0, .int .u64 a0_1, .int .u64 a0_2, .int .u64 a0_3, .int .u64 a0_4]) (t := 29) ?hr ?_; (case hd => rfl); (case hg => rfl); (case hr => first | (go_simp; done) | (go_simp; rfl)); intro gb350 hg w30 hbox hb; have n0_ := Aside0.mk (Kd.V_below (Kd.V_elderB (by (with_reducible repeat (first | apply Kd.V_alloc | apply Kd.V_drewN | apply Kd.V_drew)); exact HO1.out) gb350 (Nat.le_of_eq hg.symm)) hb); have n1_ := Aside0.mk (below_step (by repeat (first | (with_reducible first | exact HB.out | apply ba_ | apply bn_ | apply bd_) | exact HB.out)) hb); have n2_ := Aside0.mk (hbox); have n3_ := Aside0.mk ((by rw [hg]; exact (below_size (by repeat (first | (with_reducible first | exact HB.out | apply ba_ | apply bn_ | apply bd_) | exact HB.out))) : w.heap.size ≤ gb350)); have n4_ := Aside0.mk ((by rw [hg]; exact (below_size (by repeat (first | (with_reducible first | exact HB.out | apply ba_ | apply bn_ | apply bd_) | exact HB.out))) : w.heap.size ≤ gb350)); clear HO1; clear HB; have HO1 := n0_; have HB := n1_; have BK350 := n2_; have GW350 := n3_; have GE350 := n4_; clear n0_ n1_ n2_ n3_ n4_; clear hb hbox hg; have hcz31_0 : w30.cell? ⟨gb350, 0, none⟩ = some (.int .i64 a0_0) := (blk_cell BK350.out 0).trans rfl; have hcz31_1 : w30.cell? ⟨gb350, 1, none⟩ = some (.int .u64 a0_1) := (blk_cell BK350.out 1).trans rfl; have hcz31_2 : w30.cell? ⟨gb350, 2, none⟩ = some (.int .u64 a0_2) := (blk_cell BK350.out 2).trans rfl; have hcz31_3 : w30.cell? ⟨gb350, 3, none⟩ = some (.int .u64 a0_3) := (blk_cell BK350.out 3).trans rfl; have hcz31_4 : w30.cell? ⟨gb350, 4, none⟩ = some (.int .u64 a0_4) := (blk_cell BK350.out 4).trans rfl; have hfz31_0 := blk_frozen BK350.out 0; have hfz31_1 := blk_frozen BK350.out 1; have hfz31_2 := blk_frozen BK350.out 2; have hfz31_3 := blk_frozen BK350.out 3; have hfz31_4 := blk_frozen BK350.out 4) | ((with_reducible refine gate_callee (f := 53) rfl ?_); refine goesL_ (some 17) rfl rfl Tryd.func53 (by kernel_rfl) rfl #[.agg #[.int .i64 a0_0, .int .u64 a0_1, .int .u64 a0_2, .int .u64 a0_3, .int .u64 a0_4]] rfl (by (try simp only [List.map_toArray, List.map_cons, List.map_nil]); first | done | rfl | (simp only [List.length_drop, List.length_take]; rfl)) ?_; (with_reducible refine (XTCheck.calls a0_0 a0_1 a0_2 a0_3 a0_4 none _ A6.out).mono ?_); rintro e w32 ⟨rfl, hb⟩; refine ⟨_, rfl, ?_⟩; have n0_ := Aside0.mk (Kd.V_below (by (with_reducible repeat (first | apply Kd.V_alloc | apply Kd.V_drewN | apply Kd.V_drew)); exact HO1.out) hb); have n1_ := Aside0.mk (blk_below (g := gb350) (o := .cells #[.int .i64 a0_0, .int .u64 a0_1, .int .u64 a0_2, .int .u64 a0_3, .int .u64 a0_4] 29 (0, 0)) (by (with_reducible repeat (first | apply bN_ | apply bD_ | apply bA_)); exact BK350.out) hb); have n2_ := Aside0.mk (below_step (by repeat (first | (with_reducible first | exact HB.out | apply ba_ | apply bn_ | apply bd_ | refine below_set ?_ GE350.out) | exact HB.out)) hb); clear HO1; clear BK350; clear HB; have HO1 := n0_; have BK350 := n1_; have HB := n2_; clear n0_ n1_ n2_; (try clear hb); (try clear hb2); (try clear hk); (try clear hi); (try simp only [errW_none, errW_some]); have hcz33_0 : w32.cell? ⟨gb350, 0, none⟩ = some (.int .i64 a0_0) := (blk_cell BK350.out 0).trans rfl; have hcz33_1 : w32.cell? ⟨gb350, 1, none⟩ = some (.int .u64 a0_1) := (blk_cell BK350.out 1).trans rfl; have hcz33_2 : w32.cell? ⟨gb350, 2, none⟩ = some (.int .u64 a0_2) := (blk_cell BK350.out 2).trans rfl; have hcz33_3 : w32.cell? ⟨gb350, 3, none⟩ = some (.int .u64 a0_3) := (blk_cell BK350.out 3).trans rfl; have hcz33_4 : w32.cell? ⟨gb350, 4, none⟩ = some (.int .u64 a0_4) := (blk_cell BK350.out 4).trans rfl; have hfz33_0 := blk_frozen BK350.out 0; have hfz33_1 := blk_frozen BK350.out 1; have hfz33_2 := blk_frozen BK350.out 2; have hfz33_3 := blk_frozen BK350.out 3; have hfz33_4 := blk_frozen BK350.out 4) | ((with_reducible refine gate_callee (f := 43) rfl ?_); refine goesL_ (some 24) rfl rfl Tryd.func43 (by kernel_rfl) rfl #[.slice A1 l1.length c1, .int .i64 a0_0] rfl (by (try simp only [List.map_toArray, List.map_cons, List.map_nil]); first | done | rfl | (simp only [List.length_drop, List.length_take]; rfl)) ?_; (with_reducible refine (set_Set_Check.calls k _ _ l1 a0_0 (some q354) _ ?side1 ?side2 A7.out).mono ?_); (case side1 => repeat (first | exact (Kd.V_reads' HO1.out).2.2 | (with_reducible refine Kd.C_alloc ?_ _) | (with_reducible refine Kd.C_drewN ?_ _) | (with_reducible refine Kd.C_drew ?_))); (case side2 => exact (Kd.V_reads' HO1.out).2.1); rintro e w34 ⟨rfl, hb⟩; refine ⟨_, rfl, ?_⟩; have n0_ := Aside0.mk (Kd.V_below (by (with_reducible repeat (first | apply Kd.V_alloc | apply Kd.V_drewN | apply Kd.V_drew)); exact HO1.out) hb); have n1_ := Aside0.mk (blk_below (g := gb350) (o := .cells #[.int .i64 a0_0, .int .u64 a0_1, .int .u64 a0_2, .int .u64 a0_3, .int .u64 a0_4] 29 (0, 0)) (by (with_reducible repeat (first | apply bN_ | apply bD_ | apply bA_)); exact BK350.out) hb); have n2_ := Aside0.mk (below_step (by repeat (first | (with_reducible first | exact HB.out | apply ba_ | apply bn_ | apply bd_ | refine below_set ?_ GE350.out) | exact HB.out)) hb); clear HO1; clear BK350; clear HB; have HO1 := n0_; have BK350 := n1_; have HB := n2_; clear n0_ n1_ n2_; (try clear hb); (try clear hb2); (try clear hk); (try clear hi); (try simp only [errW_none, errW_some])))
    go_ret2
    exact ⟨_, by first | rfl | (simp [errW_none, errW_some] <;> rfl) | (simp [*, errW_none, errW_some] <;> rfl), by first | exact Kd.R_nil _ _ _ _ _ | exact Kd.N_nil _ _ _ _ _ | exact Kd.V_nil _ _ _ _ _ | exact Kd.Q_nil _ _ _ _ _ | exact Kd.S_nil _ _ _ _ _, by repeat (first | (with_reducible first | exact HB.out | apply ba_ | apply bn_ | apply bd_ | refine below_set ?_ GE350.out) | exact HB.out)⟩
  ·
   have H1 : (some (([] : List (S65)), some q352)) = some (r1, r2) := by rw [if_neg (show ¬ (some q352).isNone = true by simp)] at H; exact H
   clear H
   have H := H1
   clear H1
   try simp only [errW_none, errW_some]
   simp only [Option.some.injEq, Prod.mk.injEq] at H
   obtain ⟨rfl, rfl⟩ := H
   go_enter Tryd.func23, Tryd.ntmps23
   go_wp2_with (first | ((with_reducible refine gate_dst (N := 3) rfl ?_); refine box_event ?hg (N := 3) ?hd (cs := #[.int .i64 a0_0, .int .u64 a0_1, .int .u64 a0_2, .int .u64 a0_3, .int .u64 a0_4]) (t := 29) ?hr ?_; (case hd => rfl); (case hg => rfl); (case hr => first | (go_simp; done) | (go_simp; rfl)); intro gb350 hg w35 hbox hb; have n0_ := Aside0.mk (Kd.V_below (Kd.V_elderB (by (with_reducible repeat (first | apply Kd.V_alloc | apply Kd.V_drewN | apply Kd.V_drew)); exact HO1.out) gb350 (Nat.le_of_eq hg.symm)) hb); have n1_ := Aside0.mk (below_step (by repeat (first | (with_reducible first | exact HB.out | apply ba_ | apply bn_ | apply bd_) | exact HB.out)) hb); have n2_ := Aside0.mk (hbox); have n3_ := Aside0.mk ((by rw [hg]; exact (below_size (by repeat (first | (with_reducible first | exact HB.out | apply ba_ | apply bn_ | apply bd_) | exact HB.out))) : w.heap.size ≤ gb350)); have n4_ := Aside0.mk ((by rw [hg]; exact (below_size (by repeat (first | (with_reducible first | exact HB.out | apply ba_ | apply bn_ | apply bd_) | exact HB.out))) : w.heap.size ≤ gb350)); clear HO1; clear HB; have HO1 := n0_; have HB := n1_; have BK350 := n2_; have GW350 := n3_; have GE350 := n4_; clear n0_ n1_ n2_ n3_ n4_; clear hb hbox hg; have hcz36_0 : w35.cell? ⟨gb350, 0, none⟩ = some (.int .i64 a0_0) := (blk_cell BK350.out 0).trans rfl; have hcz36_1 : w35.cell? ⟨gb350, 1, none⟩ = some (.int .u64 a0_1) := (blk_cell BK350.out 1).trans rfl; have hcz36_2 : w35.cell? ⟨gb350, 2, none⟩ = some (.int .u64 a0_2) := (blk_cell BK350.out 2).trans rfl; have hcz36_3 : w35.cell? ⟨gb350, 3, none⟩ = some (.int .u64 a0_3) := (blk_cell BK350.out 3).trans rfl; have hcz36_4 : w35.cell? ⟨gb350, 4, none⟩ = some (.int .u64 a0_4) := (blk_cell BK350.out 4).trans rfl; have hfz36_0 := blk_frozen BK350.out 0; have hfz36_1 := blk_frozen BK350.out 1; have hfz36_2 := blk_frozen BK350.out 2; have hfz36_3 := blk_frozen BK350.out 3; have hfz36_4 := blk_frozen BK350.out 4) | ((with_reducible refine gate_callee (f := 53) rfl ?_); refine goesL_ (some 17) rfl rfl Tryd.func53 (by kernel_rfl) rfl #[.agg #[.int .i64 a0_0, .int .u64 a0_1, .int .u64 a0_2, .int .u64 a0_3, .int .u64 a0_4]] rfl (by (try simp only [List.map_toArray, List.map_cons, List.map_nil]); first | done | rfl | (simp only [List.length_drop, List.length_take]; rfl)) ?_; (with_reducible refine (XTCheck.calls a0_0 a0_1 a0_2 a0_3 a0_4 (some q352) _ A6.out).mono ?_); rintro e w37 ⟨rfl, hb⟩; refine ⟨_, rfl, ?_⟩; have n0_ := Aside0.mk (Kd.V_below (by (with_reducible repeat (first | apply Kd.V_alloc | apply Kd.V_drewN | apply Kd.V_drew)); exact HO1.out) hb); have n1_ := Aside0.mk (blk_below (g := gb350) (o := .cells #[.int .i64 a0_0, .int .u64 a0_1, .int .u64 a0_2, .int .u64 a0_3, .int .u64 a0_4] 29 (0, 0)) (by (with_reducible repeat (first | apply bN_ | apply bD_ | apply bA_)); exact BK350.out) hb); have n2_ := Aside0.mk (below_step (by repeat (first | (with_reducible first | exact HB.out | apply ba_ | apply bn_ | apply bd_ | refine below_set ?_ GE350.out) | exact HB.out)) hb); clear HO1; clear BK350; clear HB; have HO1 := n0_; have BK350 := n1_; have HB := n2_; clear n0_ n1_ n2_; (try clear hb); (try clear hb2); (try clear hk); (try clear hi); (try simp only [errW_none, errW_some])))
   go_ret2
   exact ⟨_, by first | rfl | (simp [errW_none, errW_some] <;> rfl) | (simp [*, errW_none, errW_some] <;> rfl), by first | exact Kd.R_nil _ _ _ _ _ | exact Kd.N_nil _ _ _ _ _ | exact Kd.V_nil _ _ _ _ _ | exact Kd.Q_nil _ _ _ _ _ | exact Kd.S_nil _ _ _ _ _, by repeat (first | (with_reducible first | exact HB.out | apply ba_ | apply bn_ | apply bd_ | refine below_set ?_ GE350.out) | exact HB.out)⟩
end Go.Proofs.YtaeenefdbahfoaaDoor.H
namespace Go.Proofs.YtaeenefdbahfoaaDoor
set_option linter.unusedSimpArgs false
set_option linter.unusedVariables false
open Go.RowKit Go.Proofs.YtaeenefdbahfoaaDoorW.PrintWords Go.Proofs.YtaeenefdbahfoaaDoorW.PrintLast Go.Proofs.YtaeenefdbahfoaaDoorW.PrintMore
open H
def XSome3.f (l a b h : Int) : Option (Int × Int × Int) := some (a.tmod 100, b.tmod 100, if l = 1 then 0 else h % 2)
set_option maxHeartbeats 1000000 in
theorem XSome3.calls (a0 : Int) (a1_0 : Int) (a1_1 : Int) (a1_2 : Int) (r1 : Int) (r2 : Int) (r3 : Int) (w : World) (h : XSome3.f a0 a1_0 a1_1 a1_2 = some (r1, r2, r3)) :
    Calls Tryd.prog 30 #[.int .i64 a0, .agg #[.int .i64 a1_0, .int .i64 a1_1, .int .i64 a1_2]] w fun e w' => e = .returned (.agg #[.int .i64 r1, .int .i64 r2, .int .i64 r3]) ∧ Below w.heap.size w w' := by
  simp only [XSome3.f, Option.some.injEq, Prod.mk.injEq] at h
  obtain ⟨rfl, rfl, rfl⟩ := h
  have ha1 := tmod_range a1_0 100 (by omega)
  have hb1 := tmod_range a1_1 100 (by omega)
  have hb := and_1 a1_2
  generalize hx : bits BinOp.and IntKind.i64 a1_2 1 = x at hb
  by_cases hl : a0 = 1
  · rw [if_pos hl]
    go_enter Tryd.func30, Tryd.ntmps30
    go_wp2
    refine bodyPost_ret (v := .agg #[.int .i64 (a1_0.tmod 100), .int .i64 (a1_1.tmod 100), .int .i64 0]) (by simp [results, Tryd.results34, go_sem]) rfl ?_
    go_wp2
    exact bodyPost_ret (v := .agg #[.int .i64 (a1_0.tmod 100), .int .i64 (a1_1.tmod 100), .int .i64 0]) (by simp [results, Tryd.results30, go_sem]) rfl ⟨rfl, (by with_reducible repeat (first | apply below_alloc | apply pw_below_drewN | apply below_drew | refine bset ?_ _ _ (by omega) _ | exact Below.refl _ _))⟩
  · rw [if_neg hl]
    have HX := Aside0.mk hb
    clear hb
    go_enter Tryd.func30, Tryd.ntmps30
    go_wp2
    refine bodyPost_ret (v := .agg #[.int .i64 (a1_0.tmod 100), .int .i64 (a1_1.tmod 100), .int .i64 x]) (by simp [results, Tryd.results34, go_sem]) rfl ?_
    go_wp2
    exact bodyPost_ret (v := .agg #[.int .i64 (a1_0.tmod 100), .int .i64 (a1_1.tmod 100), .int .i64 x]) (by simp [results, Tryd.results30, go_sem]) rfl ⟨by rw [← HX.out], (by with_reducible repeat (first | apply below_alloc | apply pw_below_drewN | apply below_drew | refine bset ?_ _ _ (by omega) _ | exact Below.refl _ _))⟩
end Go.Proofs.YtaeenefdbahfoaaDoor
