/- Parts of the proof (IsoCommutes), merged out of our texts by wip/tools/pack.py: HCell1, HCell2, PCell0, Ord, StepP, PAlive, Find, XFind, XWrap, HSet4, XAround, PSet0, Mp3, XStep, HflatSteps, XSome3, HLaw4, Hhoneycomblaw08Few, Plus, App2, Each, Shift0, PSteps, Hhoneycombref05bit. -/
import Derived.Test.YtaeenefdbahfoaaDoorKIsoCommutes1
import Derived.Test.YtaeenefdbahfoaaDoorKIsoCommutes2
import Derived.Test.YtaeenefdbahfoaaDoorKIsoCommutes4
import Derived.Test.YtaeenefdbahfoaaDoorKIsoCommutes5
import Derived.Deep.RegionHeld3
import Derived.Carry
import Derived.BigRegion
import Derived.Maps.RangeRun
import Derived.Test.YtaeenefdbahfoaaDoorKIsoCommutes3
namespace Go.Proofs.YtaeenefdbahfoaaDoor.H
open Go.RowKit Go.Proofs.YtaeenefdbahfoaaDoorW.PrintWords Go.Proofs.YtaeenefdbahfoaaDoorW.PrintLast Go.Proofs.YtaeenefdbahfoaaDoorW.PrintMore
attribute [local go_sem] max2_int min2_int max_two min_two max_three min_three max_four min_four
set_option linter.unusedVariables false
set_option linter.unusedSimpArgs false
attribute [local go_sem high] eqA65
def honeycomblaw03_Told.f (a0_0 : Int) (a0_1 : Int) (a0_2 : Int) : Option (Int × Int × Int) := some (a0_0, a0_1, a0_2)
set_option maxHeartbeats 8000000 in
set_option maxRecDepth 100000 in
theorem honeycomblaw03_Told.calls (a0_0 : Int) (a0_1 : Int) (a0_2 : Int) (r1 : Int) (r2 : Int) (r3 : Int) (w : World) (h : honeycomblaw03_Told.f a0_0 a0_1 a0_2 = some (r1, r2, r3)) :
  Calls Tryd.prog 29 #[.agg #[.int .i64 a0_0, .int .i64 a0_1, .int .i64 a0_2]] w fun e w' => e = .returned (.agg #[.int .i64 r1, .int .i64 r2, .int .i64 r3]) ∧ Below w.heap.size w w' := by
 have hu65 := Tryd.underlying65
 have hu60 := Tryd.underlying60
 have HB := Aside0.mk (Below.refl w.heap.size w)
 have H : (some (a0_0, a0_1, a0_2)) = some (r1, r2, r3) := h
 clear h
 simp only [Option.some.injEq, Prod.mk.injEq] at H
 obtain ⟨rfl, rfl, rfl⟩ := H
 go_enter Tryd.func29, Tryd.ntmps29
 go_wp2_with (first | ((with_reducible refine gate_dst (N := 1) rfl ?_); refine box_event ?hg (N := 1) ?hd (cs := #[.int .i64 a0_0, .int .i64 a0_1, .int .i64 a0_2]) (t := 65) ?hr ?_; (case hd => rfl); (case hg => rfl); (case hr => first | (go_simp; done) | (go_simp; rfl)); intro gb337 hg w2 hbox hb; have n0_ := Aside0.mk (below_step hb_ hb); have n1_ := Aside0.mk (hbox); have n2_ := Aside0.mk ((by rw [hg]; exact (below_size hb_) : w.heap.size ≤ gb337)); have n3_ := Aside0.mk ((by rw [hg]; exact (below_size hb_) : w.heap.size ≤ gb337)); clear HB; have HB := n0_; have BK337 := n1_; have GW337 := n2_; have GE337 := n3_; clear n0_ n1_ n2_ n3_; clear hb hbox hg) | ((with_reducible refine gate_dst (N := 2) rfl ?_); refine box_event ?hg (N := 2) ?hd (cs := #[.int .i64 0, .int .i64 0, .int .i64 0]) (t := 60) ?hr ?_; (case hd => rfl); (case hg => rfl); (case hr => first | (go_simp; done) | (go_simp; rfl)); intro gb338 hg w3 hbox hb; have n0_ := Aside0.mk (blk_below (g := gb337) (o := .cells #[.int .i64 a0_0, .int .i64 a0_1, .int .i64 a0_2] 65 (0, 0)) (bk_ BK337.out) hb); have n1_ := Aside0.mk (below_step (hg_ GE337.out) hb); have n2_ := Aside0.mk (hbox); have n3_ := Aside0.mk ((by rw [hg]; exact (below_size (hg_ GE337.out)) : w.heap.size ≤ gb338)); have n4_ := Aside0.mk ((by rw [hg]; exact (below_size (hg_ GE337.out)) : w.heap.size ≤ gb338)); have n5_ := Aside0.mk ((by rw [hg]; exact Nat.ne_of_lt (blk_lt (g := gb337) (o := .cells #[.int .i64 a0_0, .int .i64 a0_1, .int .i64 a0_2] 65 (0, 0)) (bk_ BK337.out)) : gb337 ≠ gb338)); have n6_ := Aside0.mk ((by rw [hg]; exact Nat.ne_of_gt (blk_lt (g := gb337) (o := .cells #[.int .i64 a0_0, .int .i64 a0_1, .int .i64 a0_2] 65 (0, 0)) (bk_ BK337.out)) : gb338 ≠ gb337)); clear BK337; clear HB; have BK337 := n0_; have HB := n1_; have BK338 := n2_; have GW338 := n3_; have GE338 := n4_; have NB337_338 := n5_; have NB338_337 := n6_; clear n0_ n1_ n2_ n3_ n4_ n5_ n6_; clear hb hbox hg; have hnb4 := NB337_338.out; have hnc4 := NB338_337.out; have hcz5_0 : w3.cell? ⟨gb337, 0, none⟩ = some (.int .i64 a0_0) := (blk_cell BK337.out 0).trans rfl; have hcz5_1 : w3.cell? ⟨gb337, 1, none⟩ = some (.int .i64 a0_1) := (blk_cell BK337.out 1).trans rfl; have hcz5_2 : w3.cell? ⟨gb337, 2, none⟩ = some (.int .i64 a0_2) := (blk_cell BK337.out 2).trans rfl; have hfz5_0 := blk_frozen BK337.out 0; have hfz5_1 := blk_frozen BK337.out 1; have hfz5_2 := blk_frozen BK337.out 2; have hcz6_0 : w3.cell? ⟨gb338, 0, none⟩ = some (.int .i64 0) := (blk_cell BK338.out 0).trans rfl; have hcz6_1 : w3.cell? ⟨gb338, 1, none⟩ = some (.int .i64 0) := (blk_cell BK338.out 1).trans rfl; have hcz6_2 : w3.cell? ⟨gb338, 2, none⟩ = some (.int .i64 0) := (blk_cell BK338.out 2).trans rfl; have hfz6_0 := blk_frozen BK338.out 0; have hfz6_1 := blk_frozen BK338.out 1; have hfz6_2 := blk_frozen BK338.out 2))
 refine bodyPost_ret (results_cell_row rfl _ _ gb338 60 #[.int .i64 a0_0, .int .i64 a0_1, .int .i64 a0_2] (0, 0) _ rfl (by (with_reducible repeat (first | apply bN_ | apply bD_ | apply bA_)); refine blk_put (cs := #[.int .i64 a0_0, .int .i64 a0_1, .int .i64 0]) ?_ 2 _ rfl; (with_reducible repeat (first | apply bN_ | apply bD_ | apply bA_)); refine blk_put (cs := #[.int .i64 a0_0, .int .i64 0, .int .i64 0]) ?_ 1 _ rfl; (with_reducible repeat (first | apply bN_ | apply bD_ | apply bA_)); refine blk_put (cs := #[.int .i64 0, .int .i64 0, .int .i64 0]) ?_ 0 _ rfl; (with_reducible repeat (first | apply bN_ | apply bD_ | apply bA_)); exact BK338.out) Tryd.underlying60 rfl (by kernel_rfl)) rfl ?_
 exact ⟨er_, hg2_ GE337.out GE338.out⟩
def honeycombref03_Ahead.f (a0_0 : Int) (a0_1 : Int) (a0_2 : Int) (a1_0 : Int) (a1_1 : Int) (a1_2 : Int) : Option (Bool) := if a0_1 = a1_1 then (if a0_0 = a1_0 then (some (decide (a0_2 < a1_2))) else (some (decide (a0_0 < a1_0)))) else (some (decide (a0_1 < a1_1)))
set_option maxHeartbeats 8000000 in
set_option maxRecDepth 100000 in
theorem honeycombref03_Ahead.calls (a0_0 : Int) (a0_1 : Int) (a0_2 : Int) (a1_0 : Int) (a1_1 : Int) (a1_2 : Int) (r : Bool) (w : World) (h : honeycombref03_Ahead.f a0_0 a0_1 a0_2 a1_0 a1_1 a1_2 = some r) :
  Calls Tryd.prog 84 #[.agg #[.int .i64 a0_0, .int .i64 a0_1, .int .i64 a0_2], .agg #[.int .i64 a1_0, .int .i64 a1_1, .int .i64 a1_2]] w fun e w' => e = .returned (.bool r) ∧ Below w.heap.size w w' := by
 have hu60 := Tryd.underlying60
 have HB := Aside0.mk (Below.refl w.heap.size w)
 have H : (if a0_1 = a1_1 then (if a0_0 = a1_0 then (some (decide (a0_2 < a1_2))) else (some (decide (a0_0 < a1_0)))) else (some (decide (a0_1 < a1_1)))) = some r := h
 clear h
 by_cases c3 : a0_1 = a1_1
 rotate_left
 ·
  rw [if_neg c3] at H
  have c3b0 : (a0_1 == a1_1) = false := beq_eq_false_iff_ne.mpr c3
  have c3b1 : (a0_1 != a1_1) = true := bne_iff_ne.mpr c3
  obtain rfl := Option.some.inj H
  go_enter Tryd.func84, Tryd.ntmps84
  go_wp2_with (first | ((with_reducible refine gate_dst (N := 2) rfl ?_); refine box_event ?hg (N := 2) ?hd (cs := #[.int .i64 a0_0, .int .i64 a0_1, .int .i64 a0_2]) (t := 60) ?hr ?_; (case hd => rfl); (case hg => rfl); (case hr => first | (go_simp; done) | (go_simp; rfl)); intro gb448 hg w15 hbox hb; have n0_ := Aside0.mk (below_step hb_ hb); have n1_ := Aside0.mk (hbox); have n2_ := Aside0.mk ((by rw [hg]; exact (below_size hb_) : w.heap.size ≤ gb448)); have n3_ := Aside0.mk ((by rw [hg]; exact (below_size hb_) : w.heap.size ≤ gb448)); clear HB; have HB := n0_; have BK448 := n1_; have GW448 := n2_; have GE448 := n3_; clear n0_ n1_ n2_ n3_; clear hb hbox hg) | ((with_reducible refine gate_dst (N := 3) rfl ?_); refine box_event ?hg (N := 3) ?hd (cs := #[.int .i64 a1_0, .int .i64 a1_1, .int .i64 a1_2]) (t := 60) ?hr ?_; (case hd => rfl); (case hg => rfl); (case hr => first | (go_simp; done) | (go_simp; rfl)); intro gb449 hg w16 hbox hb; have n0_ := Aside0.mk (blk_below (g := gb448) (o := .cells #[.int .i64 a0_0, .int .i64 a0_1, .int .i64 a0_2] 60 (0, 0)) (bk_ BK448.out) hb); have n1_ := Aside0.mk (below_step (hg_ GE448.out) hb); have n2_ := Aside0.mk (hbox); have n3_ := Aside0.mk ((by rw [hg]; exact (below_size (hg_ GE448.out)) : w.heap.size ≤ gb449)); have n4_ := Aside0.mk ((by rw [hg]; exact (below_size (hg_ GE448.out)) : w.heap.size ≤ gb449)); have n5_ := Aside0.mk ((by rw [hg]; exact Nat.ne_of_lt (blk_lt (g := gb448) (o := .cells #[.int .i64 a0_0, .int .i64 a0_1, .int .i64 a0_2] 60 (0, 0)) (bk_ BK448.out)) : gb448 ≠ gb449)); have n6_ := Aside0.mk ((by rw [hg]; exact Nat.ne_of_gt (blk_lt (g := gb448) (o := .cells #[.int .i64 a0_0, .int .i64 a0_1, .int .i64 a0_2] 60 (0, 0)) (bk_ BK448.out)) : gb449 ≠ gb448)); clear BK448; clear HB; have BK448 := n0_; have HB := n1_; have BK449 := n2_; have GW449 := n3_; have GE449 := n4_; have NB448_449 := n5_; have NB449_448 := n6_; clear n0_ n1_ n2_ n3_ n4_ n5_ n6_; clear hb hbox hg; have hnb17 := NB448_449.out; have hnc17 := NB449_448.out; have hcz18_0 : w16.cell? ⟨gb448, 0, none⟩ = some (.int .i64 a0_0) := (blk_cell BK448.out 0).trans rfl; have hcz18_1 : w16.cell? ⟨gb448, 1, none⟩ = some (.int .i64 a0_1) := (blk_cell BK448.out 1).trans rfl; have hcz18_2 : w16.cell? ⟨gb448, 2, none⟩ = some (.int .i64 a0_2) := (blk_cell BK448.out 2).trans rfl; have hfz18_0 := blk_frozen BK448.out 0; have hfz18_1 := blk_frozen BK448.out 1; have hfz18_2 := blk_frozen BK448.out 2; have hcz19_0 : w16.cell? ⟨gb449, 0, none⟩ = some (.int .i64 a1_0) := (blk_cell BK449.out 0).trans rfl; have hcz19_1 : w16.cell? ⟨gb449, 1, none⟩ = some (.int .i64 a1_1) := (blk_cell BK449.out 1).trans rfl; have hcz19_2 : w16.cell? ⟨gb449, 2, none⟩ = some (.int .i64 a1_2) := (blk_cell BK449.out 2).trans rfl; have hfz19_0 := blk_frozen BK449.out 0; have hfz19_1 := blk_frozen BK449.out 1; have hfz19_2 := blk_frozen BK449.out 2))
  go_ret
  exact ⟨er_, hg2_ GE448.out GE449.out⟩
 rw [if_pos c3] at H
 have c3b0 : (a0_1 == a1_1) = true := beq_iff_eq.mpr c3
 have c3b1 : (a0_1 != a1_1) = false := bne_eq_false_iff_eq.mpr c3
 clear c3
 by_cases c4 : a0_0 = a1_0
 ·
  rw [if_pos c4] at H
  have c4b0 : (a0_0 == a1_0) = true := beq_iff_eq.mpr c4
  have c4b1 : (a0_0 != a1_0) = false := bne_eq_false_iff_eq.mpr c4
  clear c4
  obtain rfl := Option.some.inj H
  go_enter Tryd.func84, Tryd.ntmps84
  go_wp2_with (first | ((with_reducible refine gate_dst (N := 2) rfl ?_); refine box_event ?hg (N := 2) ?hd (cs := #[.int .i64 a0_0, .int .i64 a0_1, .int .i64 a0_2]) (t := 60) ?hr ?_; (case hd => rfl); (case hg => rfl); (case hr => first | (go_simp; done) | (go_simp; rfl)); intro gb448 hg w5 hbox hb; have n0_ := Aside0.mk (below_step hb_ hb); have n1_ := Aside0.mk (hbox); have n2_ := Aside0.mk ((by rw [hg]; exact (below_size hb_) : w.heap.size ≤ gb448)); have n3_ := Aside0.mk ((by rw [hg]; exact (below_size hb_) : w.heap.size ≤ gb448)); clear HB; have HB := n0_; have BK448 := n1_; have GW448 := n2_; have GE448 := n3_; clear n0_ n1_ n2_ n3_; clear hb hbox hg) | ((with_reducible refine gate_dst (N := 3) rfl ?_); refine box_event ?hg (N := 3) ?hd (cs := #[.int .i64 a1_0, .int .i64 a1_1, .int .i64 a1_2]) (t := 60) ?hr ?_; (case hd => rfl); (case hg => rfl); (case hr => first | (go_simp; done) | (go_simp; rfl)); intro gb449 hg w6 hbox hb; have n0_ := Aside0.mk (blk_below (g := gb448) (o := .cells #[.int .i64 a0_0, .int .i64 a0_1, .int .i64 a0_2] 60 (0, 0)) (bk_ BK448.out) hb); have n1_ := Aside0.mk (below_step (hg_ GE448.out) hb); have n2_ := Aside0.mk (hbox); have n3_ := Aside0.mk ((by rw [hg]; exact (below_size (hg_ GE448.out)) : w.heap.size ≤ gb449)); have n4_ := Aside0.mk ((by rw [hg]; exact (below_size (hg_ GE448.out)) : w.heap.size ≤ gb449)); have n5_ := Aside0.mk ((by rw [hg]; exact Nat.ne_of_lt (blk_lt (g := gb448) (o := .cells #[.int .i64 a0_0, .int .i64 a0_1, .int .i64 a0_2] 60 (0, 0)) (bk_ BK448.out)) : gb448 ≠ gb449)); have n6_ := Aside0.mk ((by rw [hg]; exact Nat.ne_of_gt (blk_lt (g := gb448) (o := .cells #[.int .i64 a0_0, .int .i64 a0_1, .int .i64 a0_2] 60 (0, 0)) (bk_ BK448.out)) : gb449 ≠ gb448)); clear BK448; clear HB; have BK448 := n0_; have HB := n1_; have BK449 := n2_; have GW449 := n3_; have GE449 := n4_; have NB448_449 := n5_; have NB449_448 := n6_; clear n0_ n1_ n2_ n3_ n4_ n5_ n6_; clear hb hbox hg; have hnb7 := NB448_449.out; have hnc7 := NB449_448.out; have hcz8_0 : w6.cell? ⟨gb448, 0, none⟩ = some (.int .i64 a0_0) := (blk_cell BK448.out 0).trans rfl; have hcz8_1 : w6.cell? ⟨gb448, 1, none⟩ = some (.int .i64 a0_1) := (blk_cell BK448.out 1).trans rfl; have hcz8_2 : w6.cell? ⟨gb448, 2, none⟩ = some (.int .i64 a0_2) := (blk_cell BK448.out 2).trans rfl; have hfz8_0 := blk_frozen BK448.out 0; have hfz8_1 := blk_frozen BK448.out 1; have hfz8_2 := blk_frozen BK448.out 2; have hcz9_0 : w6.cell? ⟨gb449, 0, none⟩ = some (.int .i64 a1_0) := (blk_cell BK449.out 0).trans rfl; have hcz9_1 : w6.cell? ⟨gb449, 1, none⟩ = some (.int .i64 a1_1) := (blk_cell BK449.out 1).trans rfl; have hcz9_2 : w6.cell? ⟨gb449, 2, none⟩ = some (.int .i64 a1_2) := (blk_cell BK449.out 2).trans rfl; have hfz9_0 := blk_frozen BK449.out 0; have hfz9_1 := blk_frozen BK449.out 1; have hfz9_2 := blk_frozen BK449.out 2))
  go_ret
  exact ⟨er_, hg2_ GE448.out GE449.out⟩
 rw [if_neg c4] at H
 have c4b0 : (a0_0 == a1_0) = false := beq_eq_false_iff_ne.mpr c4
 have c4b1 : (a0_0 != a1_0) = true := bne_iff_ne.mpr c4
 obtain rfl := Option.some.inj H
 go_enter Tryd.func84, Tryd.ntmps84
 go_wp2_with (first | ((with_reducible refine gate_dst (N := 2) rfl ?_); refine box_event ?hg (N := 2) ?hd (cs := #[.int .i64 a0_0, .int .i64 a0_1, .int .i64 a0_2]) (t := 60) ?hr ?_; (case hd => rfl); (case hg => rfl); (case hr => first | (go_simp; done) | (go_simp; rfl)); intro gb448 hg w10 hbox hb; have n0_ := Aside0.mk (below_step hb_ hb); have n1_ := Aside0.mk (hbox); have n2_ := Aside0.mk ((by rw [hg]; exact (below_size hb_) : w.heap.size ≤ gb448)); have n3_ := Aside0.mk ((by rw [hg]; exact (below_size hb_) : w.heap.size ≤ gb448)); clear HB; have HB := n0_; have BK448 := n1_; have GW448 := n2_; have GE448 := n3_; clear n0_ n1_ n2_ n3_; clear hb hbox hg) | ((with_reducible refine gate_dst (N := 3) rfl ?_); refine box_event ?hg (N := 3) ?hd (cs := #[.int .i64 a1_0, .int .i64 a1_1, .int .i64 a1_2]) (t := 60) ?hr ?_; (case hd => rfl); (case hg => rfl); (case hr => first | (go_simp; done) | (go_simp; rfl)); intro gb449 hg w11 hbox hb; have n0_ := Aside0.mk (blk_below (g := gb448) (o := .cells #[.int .i64 a0_0, .int .i64 a0_1, .int .i64 a0_2] 60 (0, 0)) (bk_ BK448.out) hb); have n1_ := Aside0.mk (below_step (hg_ GE448.out) hb); have n2_ := Aside0.mk (hbox); have n3_ := Aside0.mk ((by rw [hg]; exact (below_size (hg_ GE448.out)) : w.heap.size ≤ gb449)); have n4_ := Aside0.mk ((by rw [hg]; exact (below_size (hg_ GE448.out)) : w.heap.size ≤ gb449)); have n5_ := Aside0.mk ((by rw [hg]; exact Nat.ne_of_lt (blk_lt (g := gb448) (o := .cells #[.int .i64 a0_0, .int .i64 a0_1, .int .i64 a0_2] 60 (0, 0)) (bk_ BK448.out)) : gb448 ≠ gb449)); have n6_ := Aside0.mk ((by rw [hg]; exact Nat.ne_of_gt (blk_lt (g := gb448) (o := .cells #[.int .i64 a0_0, .int .i64 a0_1, .int .i64 a0_2] 60 (0, 0)) (bk_ BK448.out)) : gb449 ≠ gb448)); clear BK448; clear HB; have BK448 := n0_; have HB := n1_; have BK449 := n2_; have GW449 := n3_; have GE449 := n4_; have NB448_449 := n5_; have NB449_448 := n6_; clear n0_ n1_ n2_ n3_ n4_ n5_ n6_; clear hb hbox hg; have hnb12 := NB448_449.out; have hnc12 := NB449_448.out; have hcz13_0 : w11.cell? ⟨gb448, 0, none⟩ = some (.int .i64 a0_0) := (blk_cell BK448.out 0).trans rfl; have hcz13_1 : w11.cell? ⟨gb448, 1, none⟩ = some (.int .i64 a0_1) := (blk_cell BK448.out 1).trans rfl; have hcz13_2 : w11.cell? ⟨gb448, 2, none⟩ = some (.int .i64 a0_2) := (blk_cell BK448.out 2).trans rfl; have hfz13_0 := blk_frozen BK448.out 0; have hfz13_1 := blk_frozen BK448.out 1; have hfz13_2 := blk_frozen BK448.out 2; have hcz14_0 : w11.cell? ⟨gb449, 0, none⟩ = some (.int .i64 a1_0) := (blk_cell BK449.out 0).trans rfl; have hcz14_1 : w11.cell? ⟨gb449, 1, none⟩ = some (.int .i64 a1_1) := (blk_cell BK449.out 1).trans rfl; have hcz14_2 : w11.cell? ⟨gb449, 2, none⟩ = some (.int .i64 a1_2) := (blk_cell BK449.out 2).trans rfl; have hfz14_0 := blk_frozen BK449.out 0; have hfz14_1 := blk_frozen BK449.out 1; have hfz14_2 := blk_frozen BK449.out 2))
 go_ret
 exact ⟨er_, hg2_ GE448.out GE449.out⟩
def honeycombref01_Good.f (a0 : Int) (a1 : Int) : Option (Bool) := if a0 ≤ 1099511627776 then (if a0 ≥ (-1099511627776) then (if a1 ≤ 1099511627776 then (some (decide (a1 ≥ (-1099511627776)))) else (some false)) else (some false)) else (some false)
set_option maxHeartbeats 8000000 in
set_option maxRecDepth 100000 in
theorem honeycombref01_Good.calls (a0 : Int) (a1 : Int) (r : Bool) (w : World) (h : honeycombref01_Good.f a0 a1 = some r) :
  Calls Tryd.prog 67 #[.int .i64 a0, .int .i64 a1] w fun e w' => e = .returned (.bool r) ∧ Drawn0 w w' := by
 have H : (if a0 ≤ 1099511627776 then (if a0 ≥ (-1099511627776) then (if a1 ≤ 1099511627776 then (some (decide (a1 ≥ (-1099511627776)))) else (some false)) else (some false)) else (some false)) = some r := h
 clear h
 by_cases c3 : a0 ≤ 1099511627776
 rotate_left
 ·
  rw [if_neg c3] at H
  have c3b0 : decide (a0 ≤ 1099511627776) = false := decide_eq_false c3
  clear c3
  obtain rfl := Option.some.inj H
  go_enter Tryd.func67, Tryd.ntmps67
  go_wp2
  go_ret
  exact ⟨by first | rfl | (simp; done) | (simp [*]; done), by repeat (first | exact Drawn0.refl _ | apply Drawn0.step)⟩
 rw [if_pos c3] at H
 have c3b0 : decide (a0 ≤ 1099511627776) = true := decide_eq_true c3
 clear c3
 by_cases c4 : a0 ≥ (-1099511627776)
 rotate_left
 ·
  rw [if_neg c4] at H
  have c4b0 : decide ((-1099511627776) ≤ a0) = false := decide_eq_false c4
  clear c4
  obtain rfl := Option.some.inj H
  go_enter Tryd.func67, Tryd.ntmps67
  go_wp2
  go_ret
  exact ⟨by first | rfl | (simp; done) | (simp [*]; done), by repeat (first | exact Drawn0.refl _ | apply Drawn0.step)⟩
 rw [if_pos c4] at H
 have c4b0 : decide ((-1099511627776) ≤ a0) = true := decide_eq_true c4
 clear c4
 by_cases c5 : a1 ≤ 1099511627776
 ·
  rw [if_pos c5] at H
  have c5b0 : decide (a1 ≤ 1099511627776) = true := decide_eq_true c5
  clear c5
  obtain rfl := Option.some.inj H
  go_enter Tryd.func67, Tryd.ntmps67
  go_wp2
  go_ret
  exact ⟨by first | rfl | (simp; done) | (simp [*]; done), by repeat (first | exact Drawn0.refl _ | apply Drawn0.step)⟩
 rw [if_neg c5] at H
 have c5b0 : decide (a1 ≤ 1099511627776) = false := decide_eq_false c5
 clear c5
 obtain rfl := Option.some.inj H
 go_enter Tryd.func67, Tryd.ntmps67
 go_wp2
 go_ret
 exact ⟨by first | rfl | (simp; done) | (simp [*]; done), by repeat (first | exact Drawn0.refl _ | apply Drawn0.step)⟩
mutual
def honeycombref03_Check.j0 : Nat → Int → Bool → Int → Int → Int → Option (Int)
 | 0, _, _, _, _, _ => none
 | k + 1, x0, x5, x683000, x683001, x683002 => if x5 = true then (some 11) else (if x683002 < 0 then (honeycombref03_Check.j1 k true x683000 x683001 x683002) else (if x683002 > 1 then (honeycombref03_Check.j1 k true x683000 x683001 x683002) else (if x0 = 1 then (honeycombref03_Check.j1 k (decide (x683002 > 0)) x683000 x683001 x683002) else (honeycombref03_Check.j1 k false x683000 x683001 x683002))))
def honeycombref03_Check.j1 : Nat → Bool → Int → Int → Int → Option (Int)
 | 0, _, _, _, _ => none
 | k + 1, x12, x683000, x683001, x683002 => if x12 = true then (some 4) else ((honeycombref01_Good.f x683000 x683001).bind fun t683 => (if t683 = true then (some 0) else (some 6)))
end
def honeycombref03_Check.f (k : Nat) (a0 : Int) (a1_0 : Int) (a1_1 : Int) (a1_2 : Int) : Option (Int) := if a0 < 1 then (honeycombref03_Check.j0 k a0 true a1_0 a1_1 a1_2) else (honeycombref03_Check.j0 k a0 (decide (a0 > 3)) a1_0 a1_1 a1_2)
set_option maxHeartbeats 8000000 in
set_option maxRecDepth 100000 in
theorem honeycombref03_Check.calls (k : Nat) (a0 : Int) (a1_0 : Int) (a1_1 : Int) (a1_2 : Int) (r : Int) (w : World) (h : honeycombref03_Check.f k a0 a1_0 a1_1 a1_2 = some r) :
  Calls Tryd.prog 83 #[.int .i64 a0, .agg #[.int .i64 a1_0, .int .i64 a1_1, .int .i64 a1_2]] w fun e w' => e = .returned (.int .i64 r) ∧ Below w.heap.size w w' := by
 have hu60 := Tryd.underlying60
 have HB := Aside0.mk (Below.refl w.heap.size w)
 have H : (if a0 < 1 then (honeycombref03_Check.j0 k a0 true a1_0 a1_1 a1_2) else (honeycombref03_Check.j0 k a0 (decide (a0 > 3)) a1_0 a1_1 a1_2)) = some r := h
 clear h
 have HC3 := Aside0.mk H
 clear H
 go_enter Tryd.func83, Tryd.ntmps83
 go_upto_region 1 with (first | ((with_reducible refine gate_dst (N := 3) rfl ?_); refine box_event ?hg (N := 3) ?hd (cs := #[.int .i64 a1_0, .int .i64 a1_1, .int .i64 a1_2]) (t := 60) ?hr ?_; (case hd => rfl); (case hg => rfl); (case hr => first | (go_simp; done) | (go_simp; rfl)); intro gb682 hg w4 hbox hb; have n0_ := Aside0.mk (below_step hb_ hb); have n1_ := Aside0.mk (hbox); have n2_ := Aside0.mk ((by rw [hg]; exact (below_size hb_) : w.heap.size ≤ gb682)); have n3_ := Aside0.mk ((by rw [hg]; exact (below_size hb_) : w.heap.size ≤ gb682)); clear HB; have HB := n0_; have BK682 := n1_; have GW682 := n2_; have GE682 := n3_; clear n0_ n1_ n2_ n3_; clear hb hbox hg))
 (try simp only [Act.put, List.setIfInBounds_toArray, List.set_cons_zero, List.set_cons_succ])
 go_cut [5] (fun v5 wc => ∃ (kq : Nat) (x5_2 : Bool), v5 = .bool x5_2 ∧ Aside0 (honeycombref03_Check.j0 kq a0 x5_2 a1_0 a1_1 a1_2 = some r) ∧ Aside0 (kq ≤ k) ∧ Aside0 (wc.heap[gb682]? = some (.cells #[.int .i64 a1_0, .int .i64 a1_1, .int .i64 a1_2] 60 (0, 0))) ∧ Aside0 (Below w.heap.size w wc))
 case first =>
  have H := HC3.out
  clear HC3
  by_cases c5 : a0 < 1
  ·
   rw [if_pos c5] at H
   have c5b0 : decide (a0 < 1) = true := decide_eq_true c5
   clear c5
   (first | rw [c5b0] | (simp only [i64_w, i32_w]; rw [c5b0]) | skip)
   have H' := Aside0.mk H
   clear H
   go_wp2
   go_meet
   case rel => exact ⟨_, (true), rs_, H', ⟨by first | omega | exact Nat.le_refl _⟩, ⟨bk_ BK682.out⟩, ⟨by repeat (first | (with_reducible first | exact HB.out | apply ba_ | apply bn_ | apply bd_ | refine below_set ?_ GE682.out) | exact HB.out)⟩⟩
  rw [if_neg c5] at H
  have c5b0 : decide (a0 < 1) = false := decide_eq_false c5
  clear c5
  (first | rw [c5b0] | (simp only [i64_w, i32_w]; rw [c5b0]) | skip)
  have H' := Aside0.mk H
  clear H
  go_wp2
  go_meet
  case rel => exact ⟨_, (decide (a0 > 3)), rs_, H', ⟨by first | omega | exact Nat.le_refl _⟩, ⟨bk_ BK682.out⟩, ⟨by repeat (first | (with_reducible first | exact HB.out | apply ba_ | apply bn_ | apply bd_ | refine below_set ?_ GE682.out) | exact HB.out)⟩⟩
 case rest =>
  clear HC3
  try clear p2
  try clear c5
  try clear c5b0
  obtain ⟨kq, x5_2, rfl, HA, HJ2, BK682, HB⟩ := hcut
  cases kq with
  | zero => exact absurd HA.out (by simp [honeycombref03_Check.j0])
  | succ kj2 =>
   have H := HA.out
   clear HA
   simp only [honeycombref03_Check.j0] at H
   by_cases c6 : x5_2 = true
   ·
    subst c6
    have H1 : (some 11) = some r := by rw [if_pos rfl] at H; exact H
    clear H
    have H := H1
    clear H1
    obtain rfl := Option.some.inj H
    go_wp2
    go_ret
    exact ⟨er_, hg_ GE682.out⟩
   replace c6 := Bool.eq_false_iff.mpr c6
   subst c6
   have H1 : (if a1_2 < 0 then (honeycombref03_Check.j1 kj2 true a1_0 a1_1 a1_2) else (if a1_2 > 1 then (honeycombref03_Check.j1 kj2 true a1_0 a1_1 a1_2) else (if a0 = 1 then (honeycombref03_Check.j1 kj2 (decide (a1_2 > 0)) a1_0 a1_1 a1_2) else (honeycombref03_Check.j1 kj2 false a1_0 a1_1 a1_2)))) = some r := by rw [if_neg (show ¬ (false = true) by decide)] at H; exact H
   clear H
   have H := H1
   clear H1
   have HC7 := Aside0.mk H
   clear H
   go_upto_region 3 with (fail)
   go_cut [12] (fun v12 wc => ∃ (kq : Nat) (x12_6 : Bool), v12 = .bool x12_6 ∧ Aside0 (honeycombref03_Check.j1 kq x12_6 a1_0 a1_1 a1_2 = some r) ∧ Aside0 (kq ≤ kj2) ∧ Aside0 (wc.heap[gb682]? = some (.cells #[.int .i64 a1_0, .int .i64 a1_1, .int .i64 a1_2] 60 (0, 0))) ∧ Aside0 (Below w.heap.size w wc))
   case first =>
    have H := HC7.out
    clear HC7
    by_cases c8 : a1_2 < 0
    ·
     rw [if_pos c8] at H
     have c8b0 : decide (a1_2 < 0) = true := decide_eq_true c8
     clear c8
     (first | rw [c8b0] | (simp only [i64_w, i32_w]; rw [c8b0]) | skip)
     have H' := Aside0.mk H
     clear H
     have hcz9_0 : wc.cell? ⟨gb682, 0, none⟩ = some (.int .i64 a1_0) := (blk_cell BK682.out 0).trans rfl
     have hcz9_1 : wc.cell? ⟨gb682, 1, none⟩ = some (.int .i64 a1_1) := (blk_cell BK682.out 1).trans rfl
     have hcz9_2 : wc.cell? ⟨gb682, 2, none⟩ = some (.int .i64 a1_2) := (blk_cell BK682.out 2).trans rfl
     have hfz9_0 := blk_frozen BK682.out 0
     have hfz9_1 := blk_frozen BK682.out 1
     have hfz9_2 := blk_frozen BK682.out 2
     go_wp2
     go_meet
     case rel => exact ⟨_, (true), rs_, H', ⟨by have := HJ2.out; first | omega | exact Nat.le_refl _⟩, ⟨bk_ BK682.out⟩, ⟨by repeat (first | (with_reducible first | exact HB.out | apply ba_ | apply bn_ | apply bd_ | refine below_set ?_ GE682.out) | exact HB.out)⟩⟩
    rw [if_neg c8] at H
    have c8b0 : decide (a1_2 < 0) = false := decide_eq_false c8
    clear c8
    (first | rw [c8b0] | (simp only [i64_w, i32_w]; rw [c8b0]) | skip)
    by_cases c10 : a1_2 > 1
    ·
     rw [if_pos c10] at H
     have c10b0 : decide (1 < a1_2) = true := decide_eq_true c10
     clear c10
     have H' := Aside0.mk H
     clear H
     have hcz11_0 : wc.cell? ⟨gb682, 0, none⟩ = some (.int .i64 a1_0) := (blk_cell BK682.out 0).trans rfl
     have hcz11_1 : wc.cell? ⟨gb682, 1, none⟩ = some (.int .i64 a1_1) := (blk_cell BK682.out 1).trans rfl
     have hcz11_2 : wc.cell? ⟨gb682, 2, none⟩ = some (.int .i64 a1_2) := (blk_cell BK682.out 2).trans rfl
     have hfz11_0 := blk_frozen BK682.out 0
     have hfz11_1 := blk_frozen BK682.out 1
     have hfz11_2 := blk_frozen BK682.out 2
     go_wp2
     go_meet
     case rel => exact ⟨_, (true), rs_, H', ⟨by have := HJ2.out; first | omega | exact Nat.le_refl _⟩, ⟨bk_ BK682.out⟩, ⟨by repeat (first | (with_reducible first | exact HB.out | apply ba_ | apply bn_ | apply bd_ | refine below_set ?_ GE682.out) | exact HB.out)⟩⟩
    rw [if_neg c10] at H
    have c10b0 : decide (1 < a1_2) = false := decide_eq_false c10
    clear c10
    by_cases c12 : a0 = 1
    rotate_left
    ·
     rw [if_neg c12] at H
     have c12b0 : (a0 == 1) = false := beq_eq_false_iff_ne.mpr c12
     have c12b1 : (a0 != 1) = true := bne_iff_ne.mpr c12
     have H' := Aside0.mk H
     clear H
     have hcz14_0 : wc.cell? ⟨gb682, 0, none⟩ = some (.int .i64 a1_0) := (blk_cell BK682.out 0).trans rfl
     have hcz14_1 : wc.cell? ⟨gb682, 1, none⟩ = some (.int .i64 a1_1) := (blk_cell BK682.out 1).trans rfl
     have hcz14_2 : wc.cell? ⟨gb682, 2, none⟩ = some (.int .i64 a1_2) := (blk_cell BK682.out 2).trans rfl
     have hfz14_0 := blk_frozen BK682.out 0
     have hfz14_1 := blk_frozen BK682.out 1
     have hfz14_2 := blk_frozen BK682.out 2
     go_wp2
     go_meet
     case rel => exact ⟨_, (false), rs_, H', ⟨by have := HJ2.out; first | omega | exact Nat.le_refl _⟩, ⟨bk_ BK682.out⟩, ⟨by repeat (first | (with_reducible first | exact HB.out | apply ba_ | apply bn_ | apply bd_ | refine below_set ?_ GE682.out) | exact HB.out)⟩⟩
    rw [if_pos c12] at H
    have c12b0 : (a0 == 1) = true := beq_iff_eq.mpr c12
    have c12b1 : (a0 != 1) = false := bne_eq_false_iff_eq.mpr c12
    clear c12
    have H' := Aside0.mk H
    clear H
    have hcz13_0 : wc.cell? ⟨gb682, 0, none⟩ = some (.int .i64 a1_0) := (blk_cell BK682.out 0).trans rfl
    have hcz13_1 : wc.cell? ⟨gb682, 1, none⟩ = some (.int .i64 a1_1) := (blk_cell BK682.out 1).trans rfl
    have hcz13_2 : wc.cell? ⟨gb682, 2, none⟩ = some (.int .i64 a1_2) := (blk_cell BK682.out 2).trans rfl
    have hfz13_0 := blk_frozen BK682.out 0
    have hfz13_1 := blk_frozen BK682.out 1
    have hfz13_2 := blk_frozen BK682.out 2
    go_wp2
    go_meet
    case rel => exact ⟨_, (decide (a1_2 > 0)), rs_, H', ⟨by have := HJ2.out; first | omega | exact Nat.le_refl _⟩, ⟨bk_ BK682.out⟩, ⟨by repeat (first | (with_reducible first | exact HB.out | apply ba_ | apply bn_ | apply bd_ | refine below_set ?_ GE682.out) | exact HB.out)⟩⟩
   case rest =>
    clear HC7
    try clear c1
    try clear p2
    try clear c5
    try clear c5b0
    try clear c6
    try clear c8
    try clear c8b0
    try clear c10
    try clear c10b0
    try clear c12
    try clear c12b0
    try clear c12b1
    try clear hcz11_0
    try clear hcz11_1
    try clear hcz11_2
    try clear hcz13_0
    try clear hcz13_1
    try clear hcz13_2
    try clear hcz14_0
    try clear hcz14_1
    try clear hcz14_2
    try clear hcz9_0
    try clear hcz9_1
    try clear hcz9_2
    try clear hfz11_0
    try clear hfz11_1
    try clear hfz11_2
    try clear hfz13_0
    try clear hfz13_1
    try clear hfz13_2
    try clear hfz14_0
    try clear hfz14_1
    try clear hfz14_2
    try clear hfz9_0
    try clear hfz9_1
    try clear hfz9_2
    try clear p2
    obtain ⟨kq, x12_6, rfl, HA, HJ6, BK682, HB⟩ := hcut
    cases kq with
    | zero => exact absurd HA.out (by simp [honeycombref03_Check.j1])
    | succ kj6 =>
     have H := HA.out
     clear HA
     simp only [honeycombref03_Check.j1] at H
     by_cases c15 : x12_6 = true
     ·
      subst c15
      have H1 : (some 4) = some r := by rw [if_pos rfl] at H; exact H
      clear H
      have H := H1
      clear H1
      obtain rfl := Option.some.inj H
      go_wp2
      go_ret
      exact ⟨er_, hg_ GE682.out⟩
     replace c15 := Bool.eq_false_iff.mpr c15
     subst c15
     have H1 : ((honeycombref01_Good.f a1_0 a1_1).bind fun t683 => (if t683 = true then (some 0) else (some 6))) = some r := by rw [if_neg (show ¬ (false = true) by decide)] at H; exact H
     clear H
     have H := H1
     clear H1
     replace H := Option.bind_eq_some_iff.mp H
     obtain ⟨t683, A160, H⟩ := H
     replace H : (if t683 = true then (some 0) else (some 6)) = some r := H
     have A16 := Aside0.mk A160
     clear A160
     by_cases c17 : t683 = true
     ·
      subst c17
      have H1 : (some 0) = some r := by rw [if_pos rfl] at H; exact H
      clear H
      have H := H1
      clear H1
      obtain rfl := Option.some.inj H
      have hcz18_0 : wc.cell? ⟨gb682, 0, none⟩ = some (.int .i64 a1_0) := (blk_cell BK682.out 0).trans rfl
      have hcz18_1 : wc.cell? ⟨gb682, 1, none⟩ = some (.int .i64 a1_1) := (blk_cell BK682.out 1).trans rfl
      have hcz18_2 : wc.cell? ⟨gb682, 2, none⟩ = some (.int .i64 a1_2) := (blk_cell BK682.out 2).trans rfl
      have hfz18_0 := blk_frozen BK682.out 0
      have hfz18_1 := blk_frozen BK682.out 1
      have hfz18_2 := blk_frozen BK682.out 2
      go_wp2_with (first | ((with_reducible refine gate_callee (f := 67) rfl ?_); refine goesL_ (some 35) rfl rfl Tryd.func67 (by kernel_rfl) rfl #[.int .i64 a1_0, .int .i64 a1_1] rfl ar_ ?_; (with_reducible refine (honeycombref01_Good.calls a1_0 a1_1 true _ A16.out).mono ?_); rintro e w' ⟨rfl, ⟨nd, rfl⟩⟩; refine ⟨_, rfl, ?_⟩))
      go_ret
      exact ⟨er_, hg_ GE682.out⟩
     replace c17 := Bool.eq_false_iff.mpr c17
     subst c17
     have H1 : (some 6) = some r := by rw [if_neg (show ¬ (false = true) by decide)] at H; exact H
     clear H
     have H := H1
     clear H1
     obtain rfl := Option.some.inj H
     have hcz19_0 : wc.cell? ⟨gb682, 0, none⟩ = some (.int .i64 a1_0) := (blk_cell BK682.out 0).trans rfl
     have hcz19_1 : wc.cell? ⟨gb682, 1, none⟩ = some (.int .i64 a1_1) := (blk_cell BK682.out 1).trans rfl
     have hcz19_2 : wc.cell? ⟨gb682, 2, none⟩ = some (.int .i64 a1_2) := (blk_cell BK682.out 2).trans rfl
     have hfz19_0 := blk_frozen BK682.out 0
     have hfz19_1 := blk_frozen BK682.out 1
     have hfz19_2 := blk_frozen BK682.out 2
     go_wp2_with (first | ((with_reducible refine gate_callee (f := 67) rfl ?_); refine goesL_ (some 35) rfl rfl Tryd.func67 (by kernel_rfl) rfl #[.int .i64 a1_0, .int .i64 a1_1] rfl ar_ ?_; (with_reducible refine (honeycombref01_Good.calls a1_0 a1_1 false _ A16.out).mono ?_); rintro e w' ⟨rfl, ⟨nd, rfl⟩⟩; refine ⟨_, rfl, ?_⟩))
     go_ret
     exact ⟨er_, hg_ GE682.out⟩
end Go.Proofs.YtaeenefdbahfoaaDoor.H
namespace Go.Proofs.YtaeenefdbahfoaaDoor.H
open Go.RowKit Go.Proofs.YtaeenefdbahfoaaDoorW.PrintWords Go.Proofs.YtaeenefdbahfoaaDoorW.PrintLast Go.Proofs.YtaeenefdbahfoaaDoorW.PrintMore
attribute [local go_sem] max2_int min2_int max_two min_two max_three min_three max_four min_four
set_option linter.unusedVariables false
set_option linter.unusedSimpArgs false
attribute [local go_sem high] eqA63 eqA65
end Go.Proofs.YtaeenefdbahfoaaDoor.H
namespace Go.Proofs.YtaeenefdbahfoaaDoor
set_option linter.unusedSimpArgs false
set_option linter.unusedVariables false
open Go.RowKit Go.Proofs.YtaeenefdbahfoaaDoorW.PrintWords Go.Proofs.YtaeenefdbahfoaaDoorW.PrintLast Go.Proofs.YtaeenefdbahfoaaDoorW.PrintMore
open H
open Go.RowKit
abbrev RC := S60
def aheadP (a b h c d k : Int) : Prop := b < d ∨ (b = d ∧ (a < c ∨ (a = c ∧ h < k)))
instance (a b h c d k : Int) : Decidable (aheadP a b h c d k) := by unfold aheadP; infer_instance
theorem ahead_f (a b h c d k : Int) : honeycombref03_Ahead.f a b h c d k = some (decide (aheadP a b h c d k)) := by
  unfold honeycombref03_Ahead.f
  by_cases h2 : b = d
  · by_cases h4 : a = c
    · rw [if_pos h2, if_pos h4]
      simp [aheadP, h2, h4]
    · rw [if_pos h2, if_neg h4]
      simp [aheadP, h2, h4]
  · rw [if_neg h2]
    simp [aheadP, h2]
end Go.Proofs.YtaeenefdbahfoaaDoor
namespace Go.Proofs.YtaeenefdbahfoaaDoor
set_option linter.unusedSimpArgs false
set_option linter.unusedVariables false
open Go.RowKit Go.Proofs.YtaeenefdbahfoaaDoorW.PrintWords Go.Proofs.YtaeenefdbahfoaaDoorW.PrintLast Go.Proofs.YtaeenefdbahfoaaDoorW.PrintMore
open H
open Go.Shelf Go.RowKit Go.Lib Go.Sort
theorem cmp_lt (x y : CL) : cmpCell x y < 0 ↔ x.f0.f1 < y.f0.f1 ∨ (x.f0.f1 = y.f0.f1 ∧ (x.f0.f0 < y.f0.f0 ∨ (x.f0.f0 = y.f0.f0 ∧ x.f1 < y.f1))) := by
  unfold cmpCell
  split
  · rename_i h; exact ⟨fun _ => h, fun _ => by omega⟩
  · rename_i h
    split
    · exact ⟨fun h' => by omega, fun h' => absurd h' h⟩
    · exact ⟨fun h' => by omega, fun h' => absurd h' h⟩
theorem cl_ext {x y : CL} (h0 : x.f0.f0 = y.f0.f0) (h1 : x.f0.f1 = y.f0.f1) (h2 : x.f1 = y.f1) : x = y := by
  obtain ⟨⟨a, b⟩, h⟩ := x
  obtain ⟨⟨c, d⟩, k⟩ := y
  simp only at h0 h1 h2
  rw [h0, h1, h2]
def ltC (x y : CL) : Prop := cmpCell x y < 0
instance (x y : CL) : Decidable (ltC x y) := by unfold ltC; infer_instance
theorem ltC_irrefl (x : CL) : ¬ ltC x x := by unfold ltC; rw [cmp_lt]; omega
theorem ltC_trans {x y z : CL} (h1 : ltC x y) (h2 : ltC y z) : ltC x z := by unfold ltC at *; rw [cmp_lt] at *; omega
theorem ltC_tri (x y : CL) : ltC x y ∨ x = y ∨ ltC y x := by
  by_cases h : x = y
  · exact .inr (.inl h)
  · unfold ltC
    rw [cmp_lt, cmp_lt]
    have : ¬ (x.f0.f0 = y.f0.f0 ∧ x.f0.f1 = y.f0.f1 ∧ x.f1 = y.f1) := fun e => h (cl_ext e.1 e.2.1 e.2.2)
    omega
theorem ltC_asymm {x y : CL} (h : ltC x y) : ¬ ltC y x := fun h' => ltC_irrefl x (ltC_trans h h')
theorem ltC_le_trans {x y z : CL} (h1 : ¬ ltC y x) (h2 : ltC y z) : ltC x z := by
  rcases ltC_tri x y with h | rfl | h
  · exact ltC_trans h h2
  · exact h2
  · exact absurd h h1
/-- rising, each once -/
def Srt (l : List CL) : Prop := l.Pairwise ltC
instance (l : List CL) : Decidable (Srt l) := by unfold Srt; infer_instance
theorem srt_ext : ∀ {xs ys : List CL}, Srt xs → Srt ys → (∀ x, x ∈ xs ↔ x ∈ ys) → xs = ys
  | [], [], _, _, _ => rfl
  | [], y :: ys, _, _, h => absurd ((h y).2 (by simp)) (by simp)
  | x :: xs, [], _, _, h => absurd ((h x).1 (by simp)) (by simp)
  | x :: xs, y :: ys, hx, hy, h => by
    obtain ⟨hx1, hx2⟩ := List.pairwise_cons.1 hx
    obtain ⟨hy1, hy2⟩ := List.pairwise_cons.1 hy
    have e : x = y := by
      rcases List.mem_cons.1 ((h x).1 (by simp)) with e | e
      · exact e
      · rcases List.mem_cons.1 ((h y).2 (by simp)) with e' | e'
        · exact e'.symm
        · exact absurd (hx1 y e') (ltC_asymm (hy1 x e))
    subst e
    rw [srt_ext hx2 hy2 (fun z => ?_)]
    have hz := h z
    simp only [List.mem_cons] at hz
    constructor
    · intro hm
      rcases hz.1 (.inr hm) with e | e
      · subst e; exact absurd (hx1 _ hm) (ltC_irrefl _)
      · exact e
    · intro hm
      rcases hz.2 (.inr hm) with e | e
      · subst e; exact absurd (hy1 _ hm) (ltC_irrefl _)
      · exact e
theorem sort_pair (l : List CL) : (sortCells l).Pairwise fun x y => ¬ ltC y x := by
  have h : (sortCells l).Pairwise fun x y => (!(ltOf cmpCell) y x) = true := by
    unfold sortCells
    apply List.pairwise_mergeSort
    · intro a b c h1 h2
      simp only [Bool.not_eq_true', lt_cell, decide_eq_false_iff_not] at *
      omega
    · intro a b
      simp only [Bool.or_eq_true, Bool.not_eq_true', lt_cell, decide_eq_false_iff_not]
      omega
  refine h.imp fun {a b} hab => ?_
  simp only [Bool.not_eq_true', lt_cell, decide_eq_false_iff_not] at hab
  unfold ltC
  rw [cmp_lt]
  exact hab
theorem sort_mem (l : List CL) (x : CL) : x ∈ sortCells l ↔ x ∈ l := List.mem_mergeSort
theorem comp_srt (d : Array CL) (hd : ∀ i j, i ≤ j → j < d.size → ¬ ltC d[j]! d[i]!) : ∀ m, m ≤ d.size → Srt (compactUpTo d m) ∧ ∀ x, x ∈ compactUpTo d m ↔ ∃ j, j < m ∧ d[j]! = x
  | 0, _ => by simp [compactUpTo, Srt]
  | m + 1, hm => by
    obtain ⟨hs, hx⟩ := comp_srt d hd m (by omega)
    rw [compactUpTo_succ]
    by_cases hk : keeps d m = true
    · rw [if_pos hk]
      refine ⟨List.pairwise_append.2 ⟨hs, by simp, fun a ha b hb => ?_⟩, fun x => ?_⟩
      · obtain rfl : b = d[m]! := by simpa using hb
        obtain ⟨j, hj, rfl⟩ := (hx a).1 ha
        have hne : d[m]! ≠ d[m - 1]! := by
          have : m = 0 ∨ d[m]! ≠ d[m - 1]! := by simpa [keeps] using hk
          rcases this with h | h
          · omega
          · exact h
        have h1 := hd j (m - 1) (by omega) (by omega)
        have h2 := hd (m - 1) m (by omega) (by omega)
        rcases ltC_tri d[m - 1]! d[m]! with h | h | h
        · exact ltC_le_trans h1 h
        · exact absurd h.symm hne
        · exact absurd h h2
      · rw [List.mem_append, hx]
        constructor
        · rintro (⟨j, hj, e⟩ | h)
          · exact ⟨j, by omega, e⟩
          · exact ⟨m, by omega, by simpa using (Eq.symm (by simpa using h))⟩
        · rintro ⟨j, hj, e⟩
          by_cases h : j < m
          · exact .inl ⟨j, h, e⟩
          · obtain rfl : j = m := by omega
            exact .inr (by simp [e])
    · rw [if_neg hk, List.append_nil]
      refine ⟨hs, fun x => ?_⟩
      rw [hx]
      constructor
      · rintro ⟨j, hj, e⟩
        exact ⟨j, by omega, e⟩
      · rintro ⟨j, hj, e⟩
        by_cases h : j < m
        · exact ⟨j, h, e⟩
        · obtain rfl : j = m := by omega
          have : ¬ (j = 0 ∨ d[j]! ≠ d[j - 1]!) := by simpa [keeps] using hk
          have h2 : d[j]! = d[j - 1]! := by
            by_cases h' : d[j]! = d[j - 1]!
            · exact h'
            · exact absurd (.inr h') this
          exact ⟨j - 1, by omega, h2.symm.trans e⟩
theorem ofL_both (l : List CL) : Srt (ofL l) ∧ ∀ x, x ∈ ofL l ↔ x ∈ l := by
  have hp := sort_pair l
  have := comp_srt (sortCells l).toArray (fun i j hij hj => by
    have hj' : j < (sortCells l).length := by simpa using hj
    have e : ∀ k, k < (sortCells l).length → (sortCells l).toArray[k]! = (sortCells l)[k]! := fun k hk => by simp
    rw [e j hj', e i (by omega)]
    rcases Nat.lt_or_ge i j with h | h
    · have := List.pairwise_iff_getElem.1 hp i j (by omega) hj' h
      rwa [getElem!_pos (sortCells l) j hj', getElem!_pos (sortCells l) i (by omega)]
    · obtain rfl : i = j := by omega
      exact ltC_irrefl _) (sortCells l).toArray.size (Nat.le_refl _)
  refine ⟨this.1, fun x => ?_⟩
  rw [ofL, this.2, ← sort_mem l x]
  constructor
  · rintro ⟨j, hj, e⟩
    have hj' : j < (sortCells l).length := by simpa using hj
    rw [← e]
    simp [hj']
  · intro hm
    obtain ⟨j, hj, e⟩ := List.getElem_of_mem hm
    exact ⟨j, by simpa using hj, by simp [hj, e]⟩
theorem ofL_srt (l : List CL) : Srt (ofL l) := (ofL_both l).1
theorem ofL_mem (l : List CL) (x : CL) : x ∈ ofL l ↔ x ∈ l := (ofL_both l).2 x
theorem ofL_of_srt {l : List CL} (h : Srt l) : ofL l = l := srt_ext (ofL_srt l) h (ofL_mem l)
/-- how many are ahead of a cell -/
def lo (l : List CL) (c : CL) : Nat := (l.filter fun x => decide (ltC x c)).length
end Go.Proofs.YtaeenefdbahfoaaDoor
namespace Go.Proofs.YtaeenefdbahfoaaDoor
set_option linter.unusedSimpArgs false
set_option linter.unusedVariables false
open Go.RowKit Go.Proofs.YtaeenefdbahfoaaDoorW.PrintWords Go.Proofs.YtaeenefdbahfoaaDoorW.PrintLast Go.Proofs.YtaeenefdbahfoaaDoorW.PrintMore
open H
def nxtV (b0 b1 s0 s1 : Int) (half : Int) (live : Bool) (n : Int) : Bool := if half < 0 ∨ 1 < half ∨ n < 0 ∨ 63 < n then false else nxB (if live = true then (if half = 0 then s0 else s1) else (if half = 0 then b0 else b1)) n
/-- a rule: of a half, that lives or not, with a neighbourhood -/
abbrev Rul := Int → Bool → Int → Bool
def keepStep (nx : Rul) (st : Tot × List CL) (c : CL) : Tot × List CL := (delC st.1 c, if nx c.f1 true (cntC st.1 c) = true then st.2 ++ [c] else st.2)
def keepL (nx : Rul) (M : Tot) (s : List CL) : Tot × List CL := s.foldl (keepStep nx) (M, [])
def bornL (nx : Rul) (M : Tot) : List CL := (M.filter fun p => nx p.1.f1 false p.2).map (·.1)
/-- the cells that live then, in some order -/
def nextRaw (nx : Rul) (l : Int) (s : List CL) : List CL := (keepL nx (arL l s) s).2 ++ bornL nx (keepL nx (arL l s) s).1
def nextL (nx : Rul) (l : Int) (s : List CL) : List CL := ofL (nextRaw nx l s)
theorem offs_le0 (l h : Int) : (offs l h).length ≤ 12 := by
  unfold offs
  split
  · decide
  · split
    · split <;> decide
    · split <;> decide
theorem cntC_cons (p : CL × Int) (M : Tot) (q : CL) : cntC (p :: M) q = if p.1 = q then p.2 else cntC M q := by
  unfold cntC
  rw [List.findIdx?_cons]
  by_cases h : p.1 = q
  · simp [h]
  · simp only [h, decide_false, Bool.false_eq_true, ↓reduceIte]
    cases M.findIdx? (fun p => decide (p.1 = q)) <;> simp
theorem putC_cons (p : CL × Int) (M : Tot) (q : CL) (x : Int) : putC (p :: M) q x = if p.1 = q then (q, x) :: M else p :: putC M q x := by
  unfold putC
  rw [List.findIdx?_cons]
  by_cases h : p.1 = q
  · simp [h]
  · simp only [h, decide_false, Bool.false_eq_true, ↓reduceIte]
    cases M.findIdx? (fun p => decide (p.1 = q)) <;> simp
theorem delC_cons (p : CL × Int) (M : Tot) (q : CL) : delC (p :: M) q = if p.1 = q then M else p :: delC M q := by
  unfold delC
  rw [List.findIdx?_cons]
  by_cases h : p.1 = q
  · simp [h]
  · simp only [h, decide_false, Bool.false_eq_true, ↓reduceIte]
    cases M.findIdx? (fun p => decide (p.1 = q)) <;> simp
theorem cnt_put (q : CL) (x : Int) (r : CL) : ∀ M : Tot, cntC (putC M q x) r = if q = r then x else cntC M r
  | [] => by
    rw [show putC [] q x = [(q, x)] from rfl, cntC_cons]
  | p :: M => by
    rw [putC_cons]
    by_cases h : p.1 = q
    · rw [if_pos h, cntC_cons, cntC_cons]
      by_cases hr : q = r
      · simp [hr]
      · rw [if_neg hr, if_neg hr, if_neg (fun e => hr (h.symm.trans e))]
    · rw [if_neg h, cntC_cons, cntC_cons, cnt_put q x r M]
      by_cases hp : p.1 = r
      · rw [if_pos hp, if_pos hp, if_neg (fun e => h (hp.trans e.symm))]
      · rw [if_neg hp, if_neg hp]
/-- no key twice -/
def KN (M : Tot) : Prop := (M.map (·.1)).Nodup
theorem KN_nil : KN [] := List.nodup_nil
theorem put_key (q : CL) (x : Int) (r : CL) : ∀ M : Tot, r ∈ (putC M q x).map (·.1) ↔ r = q ∨ r ∈ M.map (·.1)
  | [] => by simp [show putC [] q x = [(q, x)] from rfl]
  | p :: M => by
    rw [putC_cons]
    by_cases h : p.1 = q
    · rw [if_pos h]
      simp only [List.map_cons, List.mem_cons, h]
      constructor
      · rintro (h | h) <;> simp [h]
      · rintro (h | h | h) <;> simp [h]
    · rw [if_neg h]
      simp only [List.map_cons, List.mem_cons, put_key q x r M]
      constructor
      · rintro (h | h | h) <;> simp [h]
      · rintro (h | h | h) <;> simp [h]
theorem KN_put (q : CL) (x : Int) : ∀ M : Tot, KN M → KN (putC M q x)
  | [], _ => by simp [KN, show putC [] q x = [(q, x)] from rfl]
  | p :: M, h => by
    unfold KN at *
    rw [List.map_cons, List.nodup_cons] at h
    rw [putC_cons]
    by_cases hp : p.1 = q
    · rw [if_pos hp, List.map_cons, List.nodup_cons]
      exact ⟨by rw [← hp]; exact h.1, h.2⟩
    · rw [if_neg hp, List.map_cons, List.nodup_cons]
      refine ⟨fun hm => ?_, KN_put q x M h.2⟩
      rcases (put_key q x p.1 M).1 hm with e | e
      · exact hp e
      · exact h.1 e
theorem cnt_no (q : CL) : ∀ M : Tot, q ∉ M.map (·.1) → cntC M q = 0
  | [], _ => rfl
  | p :: M, h => by
    rw [List.map_cons, List.mem_cons, not_or] at h
    rw [cntC_cons, if_neg (fun e => h.1 e.symm), cnt_no q M h.2]
theorem cnt_mem (q : CL) (n : Int) : ∀ M : Tot, KN M → (q, n) ∈ M → cntC M q = n
  | [], _, h => by cases h
  | p :: M, hk, h => by
    unfold KN at hk
    rw [List.map_cons, List.nodup_cons] at hk
    rw [cntC_cons]
    rcases List.mem_cons.1 h with e | e
    · subst e; simp
    · rw [if_neg (fun hp => hk.1 (List.mem_map.2 ⟨_, e, hp.symm⟩)), cnt_mem q n M hk.2 e]
theorem del_mem (q : CL) (p : CL × Int) : ∀ M : Tot, KN M → (p ∈ delC M q ↔ p ∈ M ∧ p.1 ≠ q)
  | [], _ => by simp [show delC [] q = [] from rfl]
  | a :: M, hk => by
    unfold KN at hk
    rw [List.map_cons, List.nodup_cons] at hk
    rw [delC_cons]
    by_cases h : a.1 = q
    · rw [if_pos h]
      constructor
      · intro hm
        exact ⟨List.mem_cons_of_mem _ hm, fun e => hk.1 (List.mem_map.2 ⟨p, hm, e.trans h.symm⟩)⟩
      · rintro ⟨hm, hn⟩
        rcases List.mem_cons.1 hm with rfl | hm
        · exact absurd h hn
        · exact hm
    · rw [if_neg h, List.mem_cons, List.mem_cons, del_mem q p M hk.2]
      constructor
      · rintro (rfl | h')
        · exact ⟨.inl rfl, h⟩
        · exact ⟨.inr h'.1, h'.2⟩
      · rintro ⟨rfl | h', hn⟩
        · exact .inl rfl
        · exact .inr ⟨h', hn⟩
theorem KN_del (q : CL) : ∀ M : Tot, KN M → KN (delC M q)
  | [], _ => KN_nil
  | a :: M, hk => by
    have hk0 := hk
    unfold KN at hk
    rw [List.map_cons, List.nodup_cons] at hk
    rw [delC_cons]
    by_cases h : a.1 = q
    · rw [if_pos h]; exact hk.2
    · rw [if_neg h]
      unfold KN
      rw [List.map_cons, List.nodup_cons]
      refine ⟨fun hm => ?_, KN_del q M hk.2⟩
      obtain ⟨p, hp, e⟩ := List.mem_map.1 hm
      exact hk.1 (List.mem_map.2 ⟨p, ((del_mem q p M hk.2).1 hp).1, e⟩)
theorem cnt_del (q r : CL) (M : Tot) (hk : KN M) (h : r ≠ q) : cntC (delC M q) r = cntC M r := by
  induction M with
  | nil => rfl
  | cons a M ih =>
    unfold KN at hk
    rw [List.map_cons, List.nodup_cons] at hk
    rw [delC_cons]
    by_cases ha : a.1 = q
    · rw [if_pos ha, cntC_cons, if_neg (fun e => h (e.symm.trans ha))]
    · rw [if_neg ha, cntC_cons, cntC_cons, ih hk.2]
/-- the loop over those that live -/
theorem keep_fold (nx : Rul) : ∀ (s : List CL) (M : Tot) (acc : List CL), KN M → s.Nodup →
    (s.foldl (keepStep nx) (M, acc)).2 = acc ++ s.filter (fun c => nx c.f1 true (cntC M c)) ∧ KN (s.foldl (keepStep nx) (M, acc)).1 ∧ ∀ p, p ∈ (s.foldl (keepStep nx) (M, acc)).1 ↔ p ∈ M ∧ p.1 ∉ s
  | [], M, acc, hk, _ => by simp [hk]
  | c :: s, M, acc, hk, hs => by
    rw [List.nodup_cons] at hs
    rw [List.foldl_cons]
    obtain ⟨h1, h2, h3⟩ := keep_fold nx s (delC M c) (if nx c.f1 true (cntC M c) = true then acc ++ [c] else acc) (KN_del c M hk) hs.2
    refine ⟨?_, h2, fun p => ?_⟩
    · refine h1.trans ?_
      have e : s.filter (fun d => nx d.f1 true (cntC (delC M c) d)) = s.filter (fun d => nx d.f1 true (cntC M d)) := List.filter_congr fun d hd => by rw [cnt_del c d M hk (fun e => hs.1 (e ▸ hd))]
      rw [e, List.filter_cons]
      split <;> simp
    · refine (h3 p).trans ?_
      rw [del_mem c p M hk, List.mem_cons, not_or]
      exact ⟨fun h => ⟨h.1.1, h.1.2, h.2⟩, fun h => ⟨⟨h.1, h.2.1⟩, h.2.2⟩⟩
theorem raw_mem (nx : Rul) (M : Tot) (s : List CL) (hk : KN M) (hs : s.Nodup) (h0 : ∀ h, nx h false 0 = false) (x : CL) :
    x ∈ (keepL nx M s).2 ++ bornL nx (keepL nx M s).1 ↔ nx x.f1 (decide (x ∈ s)) (cntC M x) = true := by
  obtain ⟨h1, _, h3⟩ := keep_fold nx s M [] hk hs
  rw [List.mem_append]
  unfold keepL
  rw [h1, List.nil_append, List.mem_filter]
  unfold bornL
  simp only [List.mem_map, List.mem_filter, h3]
  by_cases hx : x ∈ s
  · rw [decide_eq_true hx]
    constructor
    · rintro (h | ⟨p, ⟨⟨_, hn⟩, _⟩, rfl⟩)
      · exact h.2
      · exact absurd hx hn
    · exact fun h => .inl ⟨hx, h⟩
  · rw [decide_eq_false hx]
    constructor
    · rintro (h | ⟨p, ⟨⟨hm, _⟩, hb⟩, rfl⟩)
      · exact absurd h.1 hx
      · rw [cnt_mem p.1 p.2 M hk hm]; exact hb
    · intro h
      refine .inr ⟨(x, cntC M x), ⟨⟨?_, hx⟩, h⟩, rfl⟩
      by_cases hm : x ∈ M.map (·.1)
      · obtain ⟨p, hp, rfl⟩ := List.mem_map.1 hm
        rw [cnt_mem p.1 p.2 M hk hp]
        exact hp
      · rw [cnt_no x M hm, h0] at h; cases h
/-- the keys of all neighbourhoods -/
theorem KN_tri (ds : List CL) : ∀ M : Tot, KN M → KN (ds.foldl triStep M) := by
  induction ds with
  | nil => exact fun M h => h
  | cons d ds ih => exact fun M h => ih _ (KN_put _ _ _ h)
theorem KN_hex (c : CL) (ks : List Nat) : ∀ M : Tot, KN M → KN (ks.foldl (hexStep c) M) := by
  induction ks with
  | nil => exact fun M h => h
  | cons d ds ih => exact fun M h => ih _ (KN_put _ _ _ h)
theorem KN_ar (l : Int) (s : List CL) : ∀ M : Tot, KN M → KN (s.foldl (arStep l) M) := by
  induction s with
  | nil => exact fun M h => h
  | cons c s ih =>
    intro M h
    refine ih _ ?_
    unfold arStep
    split
    · exact KN_hex c _ M h
    · exact KN_tri _ M h
theorem KN_arL (l : Int) (s : List CL) : KN (arL l s) := KN_ar l s [] KN_nil
theorem tri_key (ds : List CL) (r : CL) : ∀ M : Tot, r ∈ (ds.foldl triStep M).map (·.1) → r ∈ ds ∨ r ∈ M.map (·.1) := by
  induction ds with
  | nil => exact fun M h => .inr h
  | cons d ds ih =>
    intro M h
    rcases ih _ h with h | h
    · exact .inl (List.mem_cons_of_mem _ h)
    · rcases (put_key _ _ r M).1 h with e | e
      · exact .inl (by rw [e]; exact List.mem_cons_self)
      · exact .inr e
theorem hex_key (c : CL) (r : CL) (ks : List Nat) : ∀ M : Tot, r ∈ (ks.foldl (hexStep c) M).map (·.1) → r.f1 = 0 ∨ r ∈ M.map (·.1) := by
  induction ks with
  | nil => exact fun M h => .inr h
  | cons d ds ih =>
    intro M h
    rcases ih _ h with h | h
    · exact .inl h
    · rcases (put_key _ _ r M).1 h with e | e
      · exact .inl (by rw [e]; rfl)
      · exact .inr e
/-- a half that may be -/
def hOK (l h : Int) : Prop := (h = 0 ∨ h = 1) ∧ (l = 1 → h = 0)
theorem offs_hOK (l h : Int) (hl : 1 ≤ l ∧ l ≤ 3) : ∀ d ∈ offs l h, hOK l d.f1 := by
  obtain ⟨h1, h2⟩ := hl
  have : l = 1 ∨ l = 2 ∨ l = 3 := by omega
  intro d hd
  unfold offs at hd
  rcases this with rfl | rfl | rfl
  · rw [if_pos rfl] at hd
    exact (by decide : ∀ d ∈ [mk 0 (-1) 0, mk 1 (-1) 0, mk (-1) 0 0, mk 1 0 0, mk (-1) 1 0, mk 0 1 0], (d.f1 = 0 ∨ d.f1 = 1) ∧ ((1 : Int) = 1 → d.f1 = 0)) d hd
  · simp only [show ¬ ((2 : Int) = 1) by omega, ↓reduceIte] at hd
    split at hd
    · exact (by decide : ∀ d ∈ [mk 0 (-1) 1, mk (-1) 0 1, mk 0 0 1], (d.f1 = 0 ∨ d.f1 = 1) ∧ ((2 : Int) = 1 → d.f1 = 0)) d hd
    · exact (by decide : ∀ d ∈ [mk 0 0 0, mk 1 0 0, mk 0 1 0], (d.f1 = 0 ∨ d.f1 = 1) ∧ ((2 : Int) = 1 → d.f1 = 0)) d hd
  · simp only [show ¬ ((3 : Int) = 1) by omega, show ¬ ((3 : Int) = 2) by omega, ↓reduceIte] at hd
    split at hd
    · exact (by decide : ∀ d ∈ [mk (-1) (-1) 1, mk 0 (-1) 0, mk 0 (-1) 1, mk 1 (-1) 0, mk 1 (-1) 1, mk (-1) 0 0, mk (-1) 0 1, mk 0 0 1, mk 1 0 0, mk (-1) 1 0, mk (-1) 1 1, mk 0 1 0], (d.f1 = 0 ∨ d.f1 = 1) ∧ ((3 : Int) = 1 → d.f1 = 0)) d hd
    · exact (by decide : ∀ d ∈ [mk 0 (-1) 1, mk 1 (-1) 0, mk 1 (-1) 1, mk (-1) 0 1, mk 0 0 0, mk 1 0 0, mk 1 0 1, mk (-1) 1 0, mk (-1) 1 1, mk 0 1 0, mk 0 1 1, mk 1 1 0], (d.f1 = 0 ∨ d.f1 = 1) ∧ ((3 : Int) = 1 → d.f1 = 0)) d hd
theorem bes_hOK (l : Int) (c : CL) (hl : 1 ≤ l ∧ l ≤ 3) : ∀ d ∈ besL l c, hOK l d.f1 := by
  intro d hd
  obtain ⟨e, he, rfl⟩ := List.mem_map.1 hd
  exact offs_hOK l _ hl e he
theorem ar_key (l : Int) (hl : 1 ≤ l ∧ l ≤ 3) (r : CL) (s : List CL) : ∀ M : Tot, r ∈ (s.foldl (arStep l) M).map (·.1) → hOK l r.f1 ∨ r ∈ M.map (·.1) := by
  induction s with
  | nil => exact fun M h => .inr h
  | cons c s ih =>
    intro M h
    rcases ih _ h with h | h
    · exact .inl h
    · unfold arStep at h
      split at h
      · rcases hex_key c r _ M h with h | h
        · exact .inl ⟨.inl h, fun _ => h⟩
        · exact .inr h
      · rcases tri_key _ r M h with h | h
        · exact .inl (bes_hOK l c hl r h)
        · exact .inr h
theorem arL_key (l : Int) (hl : 1 ≤ l ∧ l ≤ 3) (r : CL) (s : List CL) (h : r ∈ (arL l s).map (·.1)) : hOK l r.f1 := by
  rcases ar_key l hl r s [] h with h | h
  · exact h
  · cases h
/-- those beside: both ways -/
theorem mut_pure (l r : Int) (hl : 1 ≤ l ∧ l ≤ 3) (hr : hOK l r) : (∀ y ∈ offs l r, (-1 ≤ y.f0.f0 ∧ y.f0.f0 ≤ 1 ∧ -1 ≤ y.f0.f1 ∧ y.f0.f1 ≤ 1) ∧ mk (-y.f0.f0) (-y.f0.f1) r ∈ offs l y.f1) ∧ (offs l r).Nodup := by
  obtain ⟨hr, h1⟩ := hr
  have : l = 1 ∨ l = 2 ∨ l = 3 := by omega
  rcases this with rfl | rfl | rfl
  · obtain rfl := h1 rfl
    exact ⟨by decide, by decide⟩
  · rcases hr with rfl | rfl <;> exact ⟨by decide, by decide⟩
  · rcases hr with rfl | rfl <;> exact ⟨by decide, by decide⟩
theorem bes_near (l : Int) (c d : CL) (hl : 1 ≤ l ∧ l ≤ 3) (hc : hOK l c.f1) (h : d ∈ besL l c) : c.f0.f0 - 1 ≤ d.f0.f0 ∧ d.f0.f0 ≤ c.f0.f0 + 1 ∧ c.f0.f1 - 1 ≤ d.f0.f1 ∧ d.f0.f1 ≤ c.f0.f1 + 1 := by
  obtain ⟨e, he, rfl⟩ := List.mem_map.1 h
  have := ((mut_pure l c.f1 hl hc).1 e he).1
  simp only [sh]
  omega
theorem bes_mut1 (l : Int) (c d : CL) (hl : 1 ≤ l ∧ l ≤ 3) (hc : hOK l c.f1) (h : d ∈ besL l c) : c ∈ besL l d := by
  obtain ⟨e, he, rfl⟩ := List.mem_map.1 h
  have h2 := ((mut_pure l c.f1 hl hc).1 e he).2
  refine List.mem_map.2 ⟨_, h2, ?_⟩
  refine cl_of ?_ ?_ ?_
  · simp only [sh, mk]; omega
  · simp only [sh, mk]; omega
  · rfl
theorem bes_mut (l : Int) (c d : CL) (hl : 1 ≤ l ∧ l ≤ 3) (hc : hOK l c.f1) (hd : hOK l d.f1) : d ∈ besL l c ↔ c ∈ besL l d := ⟨bes_mut1 l c d hl hc, bes_mut1 l d c hl hd⟩
theorem sh_inj' (a b : Int) {x y : CL} (h : sh a b x = sh a b y) : x = y := by
  have h0 := congrArg (fun z : CL => z.f0.f0) h
  have h1 := congrArg (fun z : CL => z.f0.f1) h
  have h2 := congrArg (fun z : CL => z.f1) h
  simp only [sh] at h0 h1 h2
  exact cl_of (by omega) (by omega) h2
theorem nd_map {α β : Type} (f : α → β) (hf : ∀ x y, f x = f y → x = y) : ∀ xs : List α, xs.Nodup → (xs.map f).Nodup
  | [], _ => List.nodup_nil
  | x :: xs, h => by
    rw [List.nodup_cons] at h
    rw [List.map_cons, List.nodup_cons]
    refine ⟨fun hm => ?_, nd_map f hf xs h.2⟩
    obtain ⟨y, hy, e⟩ := List.mem_map.1 hm
    exact h.1 (hf _ _ e ▸ hy)
theorem bes_nodup (l : Int) (c : CL) (hl : 1 ≤ l ∧ l ≤ 3) (hc : hOK l c.f1) : (besL l c).Nodup := nd_map _ (fun _ _ => sh_inj' _ _) _ (mut_pure l c.f1 hl hc).2
/-- how often one is told -/
theorem tri_cnt (q : CL) (ds : List CL) : ∀ M : Tot, ds.Nodup → cntC (ds.foldl triStep M) q = cntC M q + (if q ∈ ds then 1 else 0) := by
  induction ds with
  | nil => intro M _; simp
  | cons d ds ih =>
    intro M h
    rw [List.nodup_cons] at h
    rw [List.foldl_cons, ih _ h.2]
    unfold triStep
    rw [cnt_put]
    by_cases e : d = q
    · subst e
      rw [if_pos rfl, if_neg h.1, if_pos List.mem_cons_self]; omega
    · rw [if_neg e]
      congr 1
      simp only [List.mem_cons]
      by_cases hq : q ∈ ds
      · rw [if_pos hq, if_pos (.inr hq)]
      · rw [if_neg hq, if_neg (fun h => h.elim (fun e' => e e'.symm) hq)]
theorem ar_cnt (l : Int) (hl : 1 ≤ l ∧ l ≤ 3) (h1 : ¬ l = 1) (q : CL) (s : List CL) : ∀ M : Tot, (∀ c ∈ s, hOK l c.f1) → cntC (s.foldl (arStep l) M) q = cntC M q + ((s.filter fun c => decide (q ∈ besL l c)).length : Int) := by
  induction s with
  | nil => intro M _; simp
  | cons c s ih =>
    intro M h
    rw [List.foldl_cons, ih _ (fun d hd => h d (List.mem_cons_of_mem _ hd))]
    unfold arStep
    rw [if_neg h1, tri_cnt q _ M (bes_nodup l c hl (h c List.mem_cons_self)), List.filter_cons]
    by_cases e : q ∈ besL l c
    · simp [e]; omega
    · simp [e]
theorem both_len {α : Type} [DecidableEq α] (a b : List α) (ha : a.Nodup) (hb : b.Nodup) : (a.filter fun x => decide (x ∈ b)).length = (b.filter fun x => decide (x ∈ a)).length := by
  have h : (a.filter fun x => decide (x ∈ b)).Perm (b.filter fun x => decide (x ∈ a)) := by
    rw [List.perm_ext_iff_of_nodup (List.Pairwise.filter _ ha) (List.Pairwise.filter _ hb)]
    intro x
    simp [and_comm]
  exact h.length_eq
/-- hex: bit by bit -/
def bitOf (x : Int) (j : Nat) : Bool := x.toNat.testBit j
theorem or_bit : ∀ (x : Fin 64) (j k : Fin 6), (Go.bits .or .i64 (x.1 : Int) ((2 : Int) ^ j.1)).toNat.testBit k.1 = (x.1.testBit k.1 || decide (j.1 = k.1)) := by decide +kernel
theorem or_bit' (x : Int) (h0 : 0 ≤ x) (h1 : x ≤ 63) (j k : Nat) (hj : j < 6) (hk : k < 6) : bitOf (Go.bits .or .i64 x ((2 : Int) ^ j)) k = (bitOf x k || decide (j = k)) := by
  have := or_bit ⟨x.toNat, by omega⟩ ⟨j, hj⟩ ⟨k, hk⟩
  simp only [show ((x.toNat : Nat) : Int) = x from Int.toNat_of_nonneg h0] at this
  exact this
theorem bit_ext0 : ∀ (x y : Fin 64), (∀ j : Fin 6, x.1.testBit j.1 = y.1.testBit j.1) → x = y := by decide +kernel
theorem bit_ext (x y : Int) (h0 : 0 ≤ x) (h1 : x ≤ 63) (h2 : 0 ≤ y) (h3 : y ≤ 63) (h : ∀ j, j < 6 → bitOf x j = bitOf y j) : x = y := by
  have := bit_ext0 ⟨x.toNat, by omega⟩ ⟨y.toNat, by omega⟩ (fun j => h j.1 j.2)
  have := congrArg Fin.val this
  simp only at this
  omega
theorem hex_bit (c q : CL) (j : Nat) (hj : j < 6) (ks : List Nat) : ∀ M : Tot, Bd M 63 → bitOf (cntC (ks.foldl (hexStep c) M) q) j = (bitOf (cntC M q) j || ks.any fun k => decide (hexQ c k = q ∧ (k + 3) % 6 = j)) := by
  induction ks with
  | nil => intro M _; simp
  | cons k ks ih =>
    intro M h
    have hc := h.cnt (by omega) (hexQ c k)
    have hj6 : (k + 3) % 6 < 6 := Nat.mod_lt _ (by omega)
    obtain ⟨h1, h2⟩ := or63' _ hc.1 hc.2 ((k + 3) % 6) hj6
    rw [List.foldl_cons, ih (hexStep c M k) (h.put _ _ h1 h2), List.any_cons]
    unfold hexStep
    rw [cnt_put]
    by_cases e : hexQ c k = q
    · rw [if_pos e, or_bit' _ hc.1 hc.2 _ _ hj6 hj, e]
      simp [Bool.or_assoc]
    · rw [if_neg e]
      simp [e]
theorem six_back : ∀ k : Fin 6, ∀ j : Fin 6, (k.1 + 3) % 6 = j.1 → sxA k.1 = - sxA j.1 ∧ sxB k.1 = - sxB j.1 := by decide
theorem hex_any (c q : CL) (j : Nat) (hj : j < 6) (hc : c.f1 = 0) (hq : q.f1 = 0) : ((List.range 6).any fun k => decide (hexQ c k = q ∧ (k + 3) % 6 = j)) = decide (c = hexQ q j) := by
  rw [Bool.eq_iff_iff]
  simp only [List.any_eq_true, List.mem_range, decide_eq_true_eq]
  constructor
  · rintro ⟨k, hk, rfl, h2⟩
    have := six_back ⟨k, hk⟩ ⟨j, hj⟩ h2
    simp only at this
    refine cl_of ?_ ?_ ?_
    · simp only [hexQ, mk]; omega
    · simp only [hexQ, mk]; omega
    · rw [hc]; rfl
  · rintro rfl
    have hm : ((j + 3) % 6 + 3) % 6 = j := by omega
    refine ⟨(j + 3) % 6, Nat.mod_lt _ (by omega), ?_, hm⟩
    have := six_back ⟨(j + 3) % 6, Nat.mod_lt _ (by omega)⟩ ⟨j, hj⟩ hm
    simp only at this
    refine cl_of ?_ ?_ ?_
    · simp only [hexQ, mk]; omega
    · simp only [hexQ, mk]; omega
    · rw [hq]; rfl
theorem hex_cnt (q : CL) (hq : q.f1 = 0) (j : Nat) (hj : j < 6) (s : List CL) : ∀ M : Tot, Bd M 63 → (∀ c ∈ s, c.f1 = 0) → bitOf (cntC (s.foldl (arStep 1) M) q) j = (bitOf (cntC M q) j || decide (hexQ q j ∈ s)) := by
  induction s with
  | nil => intro M _ _; simp
  | cons c s ih =>
    intro M h hs
    have hb : Bd (arStep 1 M c) 63 := hex_bd c _ M h
    rw [List.foldl_cons, ih _ hb (fun d hd => hs d (List.mem_cons_of_mem _ hd))]
    have e : cntC (arStep 1 M c) q = cntC ((List.range 6).foldl (hexStep c) M) q := rfl
    rw [e, hex_bit c q j hj _ M h, hex_any c q j hj (hs c List.mem_cons_self) hq, Bool.or_assoc]
    congr 1
    rw [Bool.eq_iff_iff]
    simp only [Bool.or_eq_true, decide_eq_true_eq, List.mem_cons]
    constructor
    · rintro (h | h)
      · exact .inl h.symm
      · exact .inr h
    · rintro (h | h)
      · exact .inl h.symm
      · exact .inr h
def b2 (p : Bool) (n : Int) : Int := if p = true then n else 0
/-- the six that may be beside a cell, as a number -/
def hexN (s : List CL) (q : CL) : Int := b2 (decide (hexQ q 0 ∈ s)) 1 + b2 (decide (hexQ q 1 ∈ s)) 2 + b2 (decide (hexQ q 2 ∈ s)) 4 + b2 (decide (hexQ q 3 ∈ s)) 8 + b2 (decide (hexQ q 4 ∈ s)) 16 + b2 (decide (hexQ q 5 ∈ s)) 32
theorem six_bits : ∀ (p0 p1 p2 p3 p4 p5 : Bool), (0 ≤ b2 p0 1 + b2 p1 2 + b2 p2 4 + b2 p3 8 + b2 p4 16 + b2 p5 32 ∧ b2 p0 1 + b2 p1 2 + b2 p2 4 + b2 p3 8 + b2 p4 16 + b2 p5 32 ≤ 63) ∧
    bitOf (b2 p0 1 + b2 p1 2 + b2 p2 4 + b2 p3 8 + b2 p4 16 + b2 p5 32) 0 = p0 ∧ bitOf (b2 p0 1 + b2 p1 2 + b2 p2 4 + b2 p3 8 + b2 p4 16 + b2 p5 32) 1 = p1 ∧ bitOf (b2 p0 1 + b2 p1 2 + b2 p2 4 + b2 p3 8 + b2 p4 16 + b2 p5 32) 2 = p2 ∧
    bitOf (b2 p0 1 + b2 p1 2 + b2 p2 4 + b2 p3 8 + b2 p4 16 + b2 p5 32) 3 = p3 ∧ bitOf (b2 p0 1 + b2 p1 2 + b2 p2 4 + b2 p3 8 + b2 p4 16 + b2 p5 32) 4 = p4 ∧ bitOf (b2 p0 1 + b2 p1 2 + b2 p2 4 + b2 p3 8 + b2 p4 16 + b2 p5 32) 5 = p5 := by decide +kernel
theorem hexN_bd (s : List CL) (q : CL) : 0 ≤ hexN s q ∧ hexN s q ≤ 63 := (six_bits _ _ _ _ _ _).1
theorem hexN_bit (s : List CL) (q : CL) (j : Nat) (hj : j < 6) : bitOf (hexN s q) j = decide (hexQ q j ∈ s) := by
  obtain ⟨_, h0, h1, h2, h3, h4, h5⟩ := six_bits (decide (hexQ q 0 ∈ s)) (decide (hexQ q 1 ∈ s)) (decide (hexQ q 2 ∈ s)) (decide (hexQ q 3 ∈ s)) (decide (hexQ q 4 ∈ s)) (decide (hexQ q 5 ∈ s))
  have : j = 0 ∨ j = 1 ∨ j = 2 ∨ j = 3 ∨ j = 4 ∨ j = 5 := by omega
  rcases this with rfl | rfl | rfl | rfl | rfl | rfl
  · exact h0
  · exact h1
  · exact h2
  · exact h3
  · exact h4
  · exact h5
/-- the neighbourhood of a cell in a set -/
def ngh (l : Int) (s : List CL) (q : CL) : Int := if l = 1 then hexN s q else (((besL l q).filter fun d => decide (d ∈ s)).length : Int)
theorem cnt_arL (l : Int) (hl : 1 ≤ l ∧ l ≤ 3) (s : List CL) (hn : s.Nodup) (hs : ∀ c ∈ s, hOK l c.f1) (q : CL) (hq : hOK l q.f1) : cntC (arL l s) q = ngh l s q := by
  unfold ngh
  by_cases h1 : l = 1
  · rw [if_pos h1]
    subst h1
    have hb := ar_bd_hex s [] (Bd_nil 63)
    have hc := hb.cnt (by omega) q
    refine bit_ext _ _ hc.1 hc.2 (hexN_bd s q).1 (hexN_bd s q).2 (fun j hj => ?_)
    rw [hexN_bit s q j hj]
    have := hex_cnt q (hq.2 rfl) j hj s [] (Bd_nil 63) (fun c hc => (hs c hc).2 rfl)
    refine this.trans ?_
    rw [show bitOf (cntC [] q) j = false by simp [cntC, bitOf], Bool.false_or]
  · rw [if_neg h1]
    unfold arL
    rw [ar_cnt l hl h1 q s [] hs, show cntC [] q = 0 from rfl, Int.zero_add]
    congr 1
    rw [← both_len s (besL l q) hn (bes_nodup l q hl hq)]
    congr 1
    exact List.filter_congr fun c hc => by rw [decide_eq_decide]; exact bes_mut l c q hl (hs c hc) hq
/-- who lives then -/
theorem next_mem (nx : Rul) (l : Int) (hl : 1 ≤ l ∧ l ≤ 3) (h0 : ∀ h, nx h false 0 = false) (s : List CL) (hn : s.Nodup) (hs : ∀ c ∈ s, hOK l c.f1) (x : CL) :
    x ∈ nextL nx l s ↔ hOK l x.f1 ∧ nx x.f1 (decide (x ∈ s)) (ngh l s x) = true := by
  have h := raw_mem nx (arL l s) s (KN_arL l s) hn h0 x
  unfold nextL nextRaw
  rw [ofL_mem, h]
  by_cases hx : hOK l x.f1
  · rw [cnt_arL l hl s hn hs x hx]
    exact ⟨fun h => ⟨hx, h⟩, fun h => h.2⟩
  · have hxs : x ∉ s := fun h => hx (hs x h)
    have hk : x ∉ (arL l s).map (·.1) := fun h => hx (arL_key l hl x s h)
    rw [cnt_no x _ hk, decide_eq_false hxs, h0]
    exact ⟨fun h => (by cases h), fun h => absurd h.1 hx⟩
theorem hexQ_bes (q : CL) (j : Nat) (hj : j < 6) : hexQ q j ∈ besL 1 q := by
  refine List.mem_map.2 ⟨mk (sxA j) (sxB j) 0, ?_, rfl⟩
  have : ∀ j : Fin 6, mk (sxA j.1) (sxB j.1) 0 ∈ offs 1 q.f1 := by
    unfold offs
    rw [if_pos rfl]
    decide
  exact this ⟨j, hj⟩
/-- the neighbourhood is of those beside alone -/
theorem ngh_congr (l : Int) (s s' : List CL) (q : CL) (h : ∀ d ∈ besL l q, d ∈ s ↔ d ∈ s') : ngh l s q = ngh l s' q := by
  unfold ngh
  by_cases h1 : l = 1
  · subst h1
    rw [if_pos rfl, if_pos rfl]
    have e : ∀ j, j < 6 → decide (hexQ q j ∈ s) = decide (hexQ q j ∈ s') := fun j hj => by rw [decide_eq_decide]; exact h _ (hexQ_bes q j hj)
    unfold hexN
    rw [e 0 (by omega), e 1 (by omega), e 2 (by omega), e 3 (by omega), e 4 (by omega), e 5 (by omega)]
  · rw [if_neg h1, if_neg h1]
    congr 2
    exact List.filter_congr fun d hd => by rw [decide_eq_decide]; exact h d hd
theorem ngh_nil (l : Int) (q : CL) : ngh l [] q = 0 := by
  unfold ngh
  split
  · simp [hexN, b2]
  · simp
theorem ngh_ne (l : Int) (s : List CL) (q : CL) (h : ¬ ngh l s q = 0) : ∃ d ∈ besL l q, d ∈ s := by
  apply Classical.byContradiction
  intro hn
  refine h ((ngh_congr l s [] q fun d hd => ?_).trans (ngh_nil l q))
  exact ⟨fun hm => absurd ⟨d, hd, hm⟩ hn, fun hm => by cases hm⟩
theorem next_near (nx : Rul) (l : Int) (hl : 1 ≤ l ∧ l ≤ 3) (h0 : ∀ h, nx h false 0 = false) (s : List CL) (hn : s.Nodup) (hs : ∀ c ∈ s, hOK l c.f1) (x : CL) (hx : x ∈ nextL nx l s) :
    ∃ c ∈ s, c.f0.f0 - 1 ≤ x.f0.f0 ∧ x.f0.f0 ≤ c.f0.f0 + 1 ∧ c.f0.f1 - 1 ≤ x.f0.f1 ∧ x.f0.f1 ≤ c.f0.f1 + 1 := by
  obtain ⟨hok, h⟩ := (next_mem nx l hl h0 s hn hs x).1 hx
  by_cases hxs : x ∈ s
  · exact ⟨x, hxs, by omega, by omega, by omega, by omega⟩
  · rw [decide_eq_false hxs] at h
    obtain ⟨d, hd, hds⟩ := ngh_ne l s x (fun e => by rw [e, h0] at h; cases h)
    have := bes_near l x d hl hok hd
    exact ⟨d, hds, by omega, by omega, by omega, by omega⟩
theorem next_srt (nx : Rul) (l : Int) (s : List CL) : Srt (nextL nx l s) := ofL_srt _
theorem srt_nodup {s : List CL} (h : Srt s) : s.Nodup := h.imp fun {a b} hab e => by subst e; exact ltC_irrefl _ hab
theorem next_halves (nx : Rul) (l : Int) (hl : 1 ≤ l ∧ l ≤ 3) (h0 : ∀ h, nx h false 0 = false) (s : List CL) (hn : s.Nodup) (hs : ∀ c ∈ s, hOK l c.f1) : ∀ c ∈ nextL nx l s, hOK l c.f1 := fun c hc => ((next_mem nx l hl h0 s hn hs c).1 hc).1
end Go.Proofs.YtaeenefdbahfoaaDoor
namespace Go.Proofs.YtaeenefdbahfoaaDoor
set_option linter.unusedSimpArgs false
set_option linter.unusedVariables false
open Go.RowKit Go.Proofs.YtaeenefdbahfoaaDoorW.PrintWords Go.Proofs.YtaeenefdbahfoaaDoorW.PrintLast Go.Proofs.YtaeenefdbahfoaaDoorW.PrintMore
open H
open Go.Shelf Go.RowKit Go.Lib Go.Sort
/-- an element's cells, and another cell's; nothing has turned that was there -/
abbrev SB (B : Nat) (w0 : World) (ad : Addr) (g : Nat) (x y : CL) (W : World) : Prop :=
  W.cell? ad = some (.int .i64 x.f0.f0) ∧ W.cell? ⟨ad.block, ad.off + 1, none⟩ = some (.int .i64 x.f0.f1) ∧ W.cell? ⟨ad.block, ad.off + 2, none⟩ = some (.int .i64 x.f1) ∧ W.cell? ⟨g, 0, none⟩ = some (.int .i64 y.f0.f0) ∧ W.cell? ⟨g, 1, none⟩ = some (.int .i64 y.f0.f1) ∧ W.cell? ⟨g, 2, none⟩ = some (.int .i64 y.f1) ∧ Below B w0 W ∧ B ≤ W.heap.size
theorem SB.below {B : Nat} {w0 : World} {ad : Addr} {g : Nat} {x y : CL} {W w1 : World} (h : SB B w0 ad g x y W) (hb : Below W.heap.size W w1) : SB B w0 ad g x y w1 := by
  obtain ⟨h0, h1, h2, h3, h4, h5, h6, h7⟩ := h
  exact ⟨pw_cell_below hb h0, pw_cell_below hb h1, pw_cell_below hb h2, pw_cell_below hb h3, pw_cell_below hb h4, pw_cell_below hb h5, h6.trans (hb.mono h7), Nat.le_trans h7 hb.size⟩
end Go.Proofs.YtaeenefdbahfoaaDoor
namespace Go.Proofs.YtaeenefdbahfoaaDoor
set_option linter.unusedSimpArgs false
set_option linter.unusedVariables false
open Go.RowKit Go.Proofs.YtaeenefdbahfoaaDoorW.PrintWords Go.Proofs.YtaeenefdbahfoaaDoorW.PrintLast Go.Proofs.YtaeenefdbahfoaaDoorW.PrintMore
open H
end Go.Proofs.YtaeenefdbahfoaaDoor
namespace Go.Proofs.YtaeenefdbahfoaaDoor.H
open Go.RowKit Go.Proofs.YtaeenefdbahfoaaDoorW.PrintWords Go.Proofs.YtaeenefdbahfoaaDoorW.PrintLast Go.Proofs.YtaeenefdbahfoaaDoorW.PrintMore
attribute [local go_sem] max2_int min2_int max_two min_two max_three min_three max_four min_four
set_option linter.unusedVariables false
set_option linter.unusedSimpArgs false
end Go.Proofs.YtaeenefdbahfoaaDoor.H
namespace Go.Proofs.YtaeenefdbahfoaaDoor
open Go.RowKit Go.Proofs.YtaeenefdbahfoaaDoorW.PrintWords Go.Proofs.YtaeenefdbahfoaaDoorW.PrintLast Go.Proofs.YtaeenefdbahfoaaDoorW.PrintMore
open H
open Go.RowKit
set_option linter.unusedSimpArgs false
end Go.Proofs.YtaeenefdbahfoaaDoor
namespace Go.Proofs.YtaeenefdbahfoaaDoor
set_option linter.unusedSimpArgs false
set_option linter.unusedVariables false
open Go.RowKit Go.Proofs.YtaeenefdbahfoaaDoorW.PrintWords Go.Proofs.YtaeenefdbahfoaaDoorW.PrintLast Go.Proofs.YtaeenefdbahfoaaDoorW.PrintMore
open H
open Go.RowKit
theorem rdC (l : List CL) (j : Nat) (hj : j < l.length) : rd_T65 l j = l[j] := by simp [rd_T65, hj]
theorem rdR (l : List RC) (j : Nat) (hj : j < l.length) : rd_T60 l j = l[j] := by simp [rd_T60, hj]
theorem neq_cell (x y : CL) : ((!(x.f0.f0 == y.f0.f0) || (!(x.f0.f1 == y.f0.f1))) || (!(x.f1 == y.f1))) = !decide (x = y) := by
  by_cases h : x = y
  · subst h; simp
  · rw [decide_eq_false h]
    by_cases h0 : x.f0.f0 = y.f0.f0
    · by_cases h1 : x.f0.f1 = y.f0.f1
      · have h2 : ¬ x.f1 = y.f1 := fun e => h (cl_ext h0 h1 e)
        simp [h2]
      · simp [h1]
    · simp [h0]
end Go.Proofs.YtaeenefdbahfoaaDoor
namespace Go.Proofs.YtaeenefdbahfoaaDoor
set_option linter.unusedSimpArgs false
set_option linter.unusedVariables false
open Go.ChangeMaps Go.MapKept Go.WideShapes
open Go.Maps (Keyed)
section
variable {P : Program} {k e t : TypeId} {w : World} {b r : Nat} {l todo : List (Value × Value)}
/-- block r of w is an iterator over the map in block b (entries l), and these are still to come, in some order -/
def RangeAt (P : Program) (k : TypeId) (w : World) (b r : Nat) (l todo : List (Value × Value)) : Prop :=
  ∃ es clock since seen c0, w.heap[b]? = some (.map es clock) ∧ Stamped es clock ∧ (∀ x ∈ es.toList, ∃ kl, keyOf P k x.key = some kl) ∧ es.toList.map (fun e => (e.key, e.val)) = l ∧
    w.heap[r]? = some (.mapIter (some b) since seen c0) ∧ (∀ x ∈ es.toList, x.born < since) ∧ since ≤ c0 ∧ since ≤ clock ∧ ((leftOf es seen).toList.map (fun e => (e.key, e.val))).Perm todo
theorem RangeAt.map (h : RangeAt P k w b r l todo) : MapAt P k w b l := by
  obtain ⟨es, clock, _, _, _, h1, h2, h3, h4, _⟩ := h
  exact ⟨es, clock, h1, h2, h3, h4⟩
theorem RangeAt.of_heap {w' : World} (h : RangeAt P k w b r l todo) (hb : w'.heap[b]? = w.heap[b]?) (hr : w'.heap[r]? = w.heap[r]?) : RangeAt P k w' b r l todo := by
  obtain ⟨es, clock, since, seen, c0, h1, h2, h3, h4, h5, h6⟩ := h
  exact ⟨es, clock, since, seen, c0, hb.trans h1, h2, h3, h4, hr.trans h5, h6⟩
theorem MapAt.range (h : MapAt P k w b l) (ht : P.underlying t = some (.map k e)) :
    ∃ o : Obj, (Instr.range t (.map (some b))).run P w = .ok (.pointer (some ⟨w.heap.size, 0, none⟩)) (w.alloc o) ∧ RangeAt P k (w.alloc o) b w.heap.size l l := by
  have hlt := h.lt
  obtain ⟨es, clock, hb, hs, hk, hl⟩ := h
  refine ⟨.mapIter (some b) clock #[] clock, ?_, es, clock, clock, #[], clock, ?_, hs, hk, hl, (MapKept.heap_alloc w _).1, hs.1, Nat.le_refl _, Nat.le_refl _, ?_⟩
  · simp [Instr.range, run_underlying ht, MapKept.run_getObj_map hb, Result.andThen]
  · rw [(MapKept.heap_alloc w _).2 b (by omega)]
    exact hb
  · have : (leftOf es #[]).toList = es.toList := by simp [leftOf]
    rw [this, hl]
theorem RangeAt.next (h : RangeAt P k w b r l todo) (hne : r ≠ b) (ty : TypeId) :
    (todo = [] ∧ (Instr.next (.pointer (some ⟨r, 0, none⟩)) false ty).run P w = .ok (.tuple #[.bool false]) w) ∨
    ∃ p todo' w1, todo.Perm (p :: todo') ∧ p ∈ l ∧ (Instr.next (.pointer (some ⟨r, 0, none⟩)) false ty).run P w = .ok (.tuple #[.bool true, p.1, p.2]) w1 ∧ RangeAt P k w1 b r l todo' ∧
      (∀ W : World, W.heap[b]? = w1.heap[b]? → W.heap[r]? = w1.heap[r]? → (Instr.entry (.pointer (some ⟨r, 0, none⟩))).run P W = .ok (.tuple #[p.1, p.2]) W) ∧
      w1.os = w.os ∧ w1.tape = w.tape ∧ w1.output = w.output ∧ w1.heap.size = w.heap.size ∧ ∀ i, i ≠ r → w1.heap[i]? = w.heap[i]? := by
  obtain ⟨es, clock, since, seen, c0, hb, hs, hk, hl, hr, hold, hsc, hscl, hp⟩ := h
  rcases run_next_at (P := P) w ty r b since c0 seen es clock hr hb hold hsc with ⟨h0, hrun⟩ | ⟨x, hx, w1, hw1, hrun⟩
  · refine .inl ⟨?_, hrun⟩
    have : leftOf es seen = #[] := Array.eq_empty_of_size_eq_zero h0
    rw [this] at hp
    exact List.nil_perm.1 (by simpa using hp)
  · have hxe : x ∈ es.toList := by
      have hx' := hx
      simp [leftOf] at hx'
      simpa using hx'.1
    have hheap : w1.heap = w.heap := by rcases hw1 with rfl | rfl <;> rfl
    have hrest : ∃ rest, (leftOf es seen).toList.Perm (x :: rest) ∧ (leftOf es (seen.push x.born)).toList = rest := by
      refine ⟨(leftOf es (seen.push x.born)).toList, ?_, rfl⟩
      have hnd : (leftOf es seen).toList.Nodup := by
        have : es.toList.Nodup := List.Pairwise.of_map (·.born) (fun a b h e => h (congrArg _ e)) hs.2.1
        have e0 : (leftOf es seen).toList = es.toList.filter (fun e => !seen.contains e.born) := by simp [leftOf]
        rw [e0]
        exact List.Pairwise.filter _ this
      have heq : (leftOf es (seen.push x.born)).toList = (leftOf es seen).toList.filter (fun y => !(y.born == x.born)) := by
        simp only [leftOf, Array.toList_filter, List.filter_filter]
        refine List.filter_congr fun y _ => ?_
        by_cases h : y.born = x.born <;> simp [h]
      rw [heq]
      have hbn : ∀ y ∈ (leftOf es seen).toList, (y.born == x.born) = true → y = x := by
        intro y hy hyb
        have hye : y ∈ es.toList := by
          simp [leftOf] at hy
          simpa using hy.1
        obtain ⟨i, hi⟩ := List.mem_iff_getElem?.1 hye
        obtain ⟨j, hj⟩ := List.mem_iff_getElem?.1 hxe
        have := nodup_idx (x := x.born) hs.2.1 (by rw [List.getElem?_map, hi]; exact congrArg some (by simpa using hyb)) (by rw [List.getElem?_map, hj]; rfl)
        subst this
        rw [hi] at hj
        exact Option.some.inj hj
      have : ∀ L : List MapEntry, L.Nodup → x ∈ L → (∀ y ∈ L, (y.born == x.born) = true → y = x) → L.Perm (x :: L.filter (fun y => !(y.born == x.born))) := by
        intro L
        induction L with
        | nil => intro _ h; cases h
        | cons a L ih =>
          intro hnd hmem hall
          rw [List.nodup_cons] at hnd
          by_cases hax : a = x
          · subst hax
            have hfl : L.filter (fun y => !(y.born == a.born)) = L := List.filter_eq_self.2 fun y hy => by
              cases hyb : (y.born == a.born) with
              | false => rfl
              | true => exact absurd (hall y (List.mem_cons_of_mem _ hy) hyb ▸ hy) hnd.1
            simp [hfl]
          · have hmL : x ∈ L := by
              rcases List.mem_cons.1 hmem with h | h
              · exact absurd h.symm hax
              · exact h
            have hab : (a.born == x.born) = false := by
              cases h : (a.born == x.born) with
              | false => rfl
              | true => exact absurd (hall a List.mem_cons_self h) hax
            rw [List.filter_cons, hab]
            simp only [Bool.not_false, ↓reduceIte]
            exact ((ih hnd.2 hmL fun y hy => hall y (List.mem_cons_of_mem _ hy)).cons a).trans (List.Perm.swap _ _ _)
      exact this _ hnd hx hbn
    obtain ⟨rest, hperm, hrest⟩ := hrest
    have hb1 : (setBlock w1 r (.mapIter (some b) since (seen.push x.born) clock)).heap[b]? = some (.map es clock) := by
      unfold setBlock
      rw [Array.getElem?_setIfInBounds_ne hne, hheap]
      exact hb
    have hlt : r < w1.heap.size := by rw [hheap]; exact (Array.getElem?_eq_some_iff.1 hr).1
    have hr1 : (setBlock w1 r (.mapIter (some b) since (seen.push x.born) clock)).heap[r]? = some (.mapIter (some b) since (seen.push x.born) clock) := by
      unfold setBlock
      simp [hlt]
    refine .inr ⟨(x.key, x.val), rest.map (fun e => (e.key, e.val)), setBlock w1 r (.mapIter (some b) since (seen.push x.born) clock), ?_, ?_, hrun, ⟨es, clock, since, seen.push x.born, clock, hb1, hs, hk, hl, hr1, hold, hscl, hscl, ?_⟩, ?_, ?_, ?_, ?_, ?_, ?_⟩
    · exact hp.symm.trans (hperm.map _)
    · rw [← hl]
      exact List.mem_map.2 ⟨x, hxe, rfl⟩
    · rw [hrest]
    · intro W hWb hWr
      exact run_entry_at W r b since seen es clock x (hWr.trans hr1) (hWb.trans hb1) hxe hs.2.1
    · rcases hw1 with rfl | rfl <;> rfl
    · rcases hw1 with rfl | rfl <;> rfl
    · rcases hw1 with rfl | rfl <;> rfl
    · rcases hw1 with rfl | rfl <;> simp [setBlock]
    · intro i hi
      unfold setBlock
      rw [Array.getElem?_setIfInBounds_ne (fun h => hi h.symm), hheap]
end
end Go.Proofs.YtaeenefdbahfoaaDoor
namespace Go.Proofs.YtaeenefdbahfoaaDoor
open Go.RowKit Go.Proofs.YtaeenefdbahfoaaDoorW.PrintWords Go.Proofs.YtaeenefdbahfoaaDoorW.PrintLast Go.Proofs.YtaeenefdbahfoaaDoorW.PrintMore
open H
open Go.Shelf Go.RowKit Go.Lib Go.Sort
open Go.ChangeMaps Go.MapKept Go.WideShapes
set_option linter.unusedSimpArgs false
/-- how many are still to come -/
def leftN (w : World) (b r : Nat) : Nat := match w.heap[b]?, w.heap[r]? with
  | some (.map es _), some (.mapIter _ _ seen _) => (leftOf es seen).size
  | _, _ => 0
theorem RangeAt.left {P : Program} {k : TypeId} {w : World} {b r : Nat} {l todo : List (Value × Value)} (h : RangeAt P k w b r l todo) : leftN w b r = todo.length := by
  obtain ⟨es, clock, since, seen, c0, hb, _, _, _, hr, _, _, _, hp⟩ := h
  unfold leftN
  rw [hb, hr]
  have := hp.length_eq
  simpa using this
theorem app1k {P : Program} {ops : Array Oper} {rest : List Oper} {o : Oper} {a : Act} {Q : Exit → Act → World → Prop} (ok : Nat → Prop) {α : Type} (d : Kd α) (base : Nat) (s x : Operand) (t e : TypeId) (z : Value) (bytes : Nat) {W : World} (v : Value) (xs : List α) (p : α) (cs : List Value) (B : Nat)
    (hgd : o.guard = none) (ho : o.op = .call { callee := .builtin .append, args := #[s, x], argTypes := #[t, t] })
    (ht : P.underlying t = some (.slice e)) (hinfo : (P.info? e).map (fun i => (i.zero, i.size, i.bytes)) = some (some z, d.sz, bytes)) (hz : z.cells.size = d.sz) (hs0 : 0 < d.sz) (hb0 : 0 < bytes)
    (hs : a.eval s = v) (hB : W.heap.size = B) (hx : a.eval x = .slice (some ⟨B, 0, none⟩) 1 1) (hp : d.M W base (fun _ => False) p cs)
    (hfresh : ∀ k, W.heap.size ≤ k → ok k) (HO : d.R e W base ok v xs) (hbase : base ≤ W.heap.size) (hl : (xs.length + 1) * bytes ≤ 140737488355328)
    (h : ∀ v1 w1, d.R e w1 base ok v1 (xs ++ [p]) → Below base W w1 → (∀ k, k < W.heap.size → ¬ ok k → w1.heap[k]? = W.heap[k]?) → wpList P ops Q rest (a.put o.dst v1) w1) :
    wpList P ops Q (o :: rest) a (W.alloc (.cells cs.toArray e)) := by
  subst hB
  exact Kd.R_append d base hgd s x t e z bytes ho ht hinfo hz hs0 hb0 v xs p cs ok (fun _ => False) hs hx hp (fun _ h => h.elim) hfresh HO (Below.refl _ _) hbase hl (fun v1 w1 h1 h2 h3 _ => h v1 w1 h1 h2 (fun k hk hnk => h3.block k hk (fun e => hnk (HO.1 k e.symm))))
/-- a cell that may be, and those beside it -/
def okC (l : Int) (c : CL) : Bool := (checkR l c.f0.f0 c.f0.f1 c.f1 == none) && (besL l c).all fun d => decide (goodP d.f0.f0 d.f0.f1)
end Go.Proofs.YtaeenefdbahfoaaDoor
namespace Go.Proofs.YtaeenefdbahfoaaDoor.H
open Go.RowKit Go.Proofs.YtaeenefdbahfoaaDoorW.PrintWords Go.Proofs.YtaeenefdbahfoaaDoorW.PrintLast Go.Proofs.YtaeenefdbahfoaaDoorW.PrintMore
attribute [local go_sem] max2_int min2_int max_two min_two max_three min_three max_four min_four
set_option linter.unusedVariables false
set_option linter.unusedSimpArgs false
end Go.Proofs.YtaeenefdbahfoaaDoor.H
namespace Go.Proofs.YtaeenefdbahfoaaDoor
set_option linter.unusedSimpArgs false
set_option linter.unusedVariables false
open Go.RowKit Go.Proofs.YtaeenefdbahfoaaDoorW.PrintWords Go.Proofs.YtaeenefdbahfoaaDoorW.PrintLast Go.Proofs.YtaeenefdbahfoaaDoorW.PrintMore
open H
def XSome3.f (l a b h : Int) : Option (Int × Int × Int) := some (a.tmod 100, b.tmod 100, if l = 1 then 0 else h % 2)
set_option maxHeartbeats 1000000 in
theorem XSome3.calls (a0 : Int) (a1_0 : Int) (a1_1 : Int) (a1_2 : Int) (r1 : Int) (r2 : Int) (r3 : Int) (w : World) (h : XSome3.f a0 a1_0 a1_1 a1_2 = some (r1, r2, r3)) :
    Calls Tryd.prog 30 #[.int .i64 a0, .agg #[.int .i64 a1_0, .int .i64 a1_1, .int .i64 a1_2]] w fun e w' => e = .returned (.agg #[.int .i64 r1, .int .i64 r2, .int .i64 r3]) ∧ Below w.heap.size w w' := by
  simp only [XSome3.f, Option.some.injEq, Prod.mk.injEq] at h
  obtain ⟨rfl, rfl, rfl⟩ := h
  have ha1 := tmod_range a1_0 100 (by omega)
  have hb1 := tmod_range a1_1 100 (by omega)
  have hb := and_1 a1_2
  generalize hx : bits BinOp.and IntKind.i64 a1_2 1 = x at hb
  by_cases hl : a0 = 1
  · rw [if_pos hl]
    go_enter Tryd.func30, Tryd.ntmps30
    go_wp2
    refine bodyPost_ret (v := .agg #[.int .i64 (a1_0.tmod 100), .int .i64 (a1_1.tmod 100), .int .i64 0]) (by simp [results, Tryd.results34, go_sem]) rfl ?_
    go_wp2
    exact bodyPost_ret (v := .agg #[.int .i64 (a1_0.tmod 100), .int .i64 (a1_1.tmod 100), .int .i64 0]) (by simp [results, Tryd.results30, go_sem]) rfl ⟨rfl, (by with_reducible repeat (first | apply below_alloc | apply pw_below_drewN | apply below_drew | refine bset ?_ _ _ (by omega) _ | exact Below.refl _ _))⟩
  · rw [if_neg hl]
    have HX := Aside0.mk hb
    clear hb
    go_enter Tryd.func30, Tryd.ntmps30
    go_wp2
    refine bodyPost_ret (v := .agg #[.int .i64 (a1_0.tmod 100), .int .i64 (a1_1.tmod 100), .int .i64 x]) (by simp [results, Tryd.results34, go_sem]) rfl ?_
    go_wp2
    exact bodyPost_ret (v := .agg #[.int .i64 (a1_0.tmod 100), .int .i64 (a1_1.tmod 100), .int .i64 x]) (by simp [results, Tryd.results30, go_sem]) rfl ⟨by rw [← HX.out], (by with_reducible repeat (first | apply below_alloc | apply pw_below_drewN | apply below_drew | refine bset ?_ _ _ (by omega) _ | exact Below.refl _ _))⟩
end Go.Proofs.YtaeenefdbahfoaaDoor
namespace Go.Proofs.YtaeenefdbahfoaaDoor.H
open Go.RowKit Go.Proofs.YtaeenefdbahfoaaDoorW.PrintWords Go.Proofs.YtaeenefdbahfoaaDoorW.PrintLast Go.Proofs.YtaeenefdbahfoaaDoorW.PrintMore
attribute [local go_sem] max2_int min2_int max_two min_two max_three min_three max_four min_four
set_option linter.unusedVariables false
set_option linter.unusedSimpArgs false
attribute [local go_sem high] eqA60
def honeycomblaw04_Some.l0 : Nat → Int → List (S60) → List (S65) → Int → Option ((List (S65)))
 | 0, _, _, _, _ => none
 | k + 1, x0, x1, x5, x6 => if x6 < (x1.length : Int) then (if x6 < 40 then (if 0 ≤ x6 then ((XSome3.f x0 ((rd_T60 x1 x6).f0) ((rd_T60 x1 x6).f1) ((rd_T60 x1 x6).f2)).bind fun bt310 => (if x5.length < 5864062014805 then (honeycomblaw04_Some.l0 k x0 x1 (x5 ++ [(⟨(⟨bt310.1, bt310.2.1⟩ : S63), bt310.2.2⟩ : S65)]) (wrap64 (x6 + 1))) else (none))) else (none)) else ((XOf.f x5).bind fun t316 => (some t316))) else ((XOf.f x5).bind fun t319 => (some t319))
def honeycomblaw04_Some.f (k : Nat) (a0 : Int) (l1 : List (S60)) : Option ((List (S65))) := honeycomblaw04_Some.l0 k a0 l1 (([] : List (S65))) 0
set_option maxHeartbeats 8000000 in
set_option maxRecDepth 100000 in
theorem honeycomblaw04_Some.calls (k : Nat) (a0 : Int) (A1 : Option Addr) (c1 : Nat) (l1 : List (S60)) (r : List (S65)) (w : World) (hr1 : Kd.C k60 w A1 l1.length l1) (hc1 : l1.length ≤ c1) (h : honeycomblaw04_Some.f k a0 l1 = some r) :
  Calls Tryd.prog 40 #[.int .i64 a0, .slice A1 l1.length c1] w fun e w' => ∃ v0_ : Value, e = .returned (v0_) ∧ Kd.R k65 65 w' w.heap.size (fun _ => True) v0_ r ∧ Below w.heap.size w w' := by
 have hu60 := Tryd.underlying60
 have HR1 := Aside0.mk hr1
 have HC1 := Aside0.mk hc1
 clear hr1 hc1
 have HB := Aside0.mk (Below.refl w.heap.size w)
 have H : (honeycomblaw04_Some.l0 k a0 l1 (([] : List (S65))) 0) = some r := h
 clear h
 obtain ⟨y306, hy306⟩ : ∃ y_ : List (S65), y_ = (([] : List (S65))) := ⟨_, rfl⟩
 replace H : (honeycomblaw04_Some.l0 k a0 l1 y306 0) = some r := by first | (rw [hy306]; with_reducible exact H) | (have H2_ := (Option.bind_some _ _).symm.trans H; rw [hy306]; with_reducible exact H2_) | (have H2_ := (Option.bind_some _ _).symm.trans H; with_reducible exact H2_) | with_reducible exact H | (rw [hy306]; exact H) | exact H
 have Ny306 := Aside0.mk hy306
 clear hy306
 have H' := Aside0.mk H
 clear H
 go_enter Tryd.func40, Tryd.ntmps40
 go_wp2_with (first | ((with_reducible refine gate_dst (N := 7) rfl ?_); refine Kd.R_lit k65 _ 65 ?hg (N := 7) ?hd (xs := ([] : List (S65))) (inner := []) (ok := fun _ => True) (okp := fun _ => True) ?hr ?hp (fun _ hk => hk) trivial (Below.refl _ _) (Nat.le_refl _) (by simp) ?_; (case hd => rfl); (case hg => rfl); (case hr => first | (go_simp; done) | (go_simp; rfl)); (case hp => exact (Reps.none _ _)); intro v307 w3 ho4 hb hg_ hnew_; clear hg_ hnew_; (first | rw [← Ny306.out] at ho4 | (simp only [Int.reduceToNat] at ho4; rw [← Ny306.out] at ho4)); have n0_ := Aside0.mk (Kd.R_lower ho4 (below_size hb_)); have n1_ := Aside0.mk (below_step hb_ hb); clear HB; have HO308 := n0_; have HB := n1_; clear n0_ n1_; clear hb ho4))
 go_loopg [5, 6] k (fun kq v5 v6 w' => ∃ (x5_1 : List (S65)) (x6_1 : Int), v6 = .int .i64 x6_1 ∧ Aside0 (honeycomblaw04_Some.l0 kq a0 l1 x5_1 x6_1 = some r) ∧ Aside0 (kq ≤ k) ∧ Aside0 (Kd.R k65 65 w' w.heap.size (fun _ => True) v5 x5_1) ∧ Aside0 (Below w.heap.size w w'))
 case atStart => exact ⟨(y306), (0), rs_, H', ⟨Nat.le_refl _⟩, ⟨kr_ HO308.out⟩, ⟨by repeat (first | (with_reducible first | exact HB.out | apply ba_ | apply bn_ | apply bd_) | exact HB.out)⟩⟩
 case round =>
  clear H'
  try clear c1
  try clear p2
  try clear c4
  obtain ⟨x5_1, x6_1, rfl, HA, HK1, HO_5, HB⟩ := hrel
  cases gk with
  | zero => exact absurd HA.out (by simp [honeycomblaw04_Some.l0])
  | succ k1 =>
   have H := HA.out
   clear HA
   simp only [honeycomblaw04_Some.l0] at H
   by_cases c5 : x6_1 < (l1.length : Int)
   rotate_left
   ·
    rw [if_neg c5] at H
    have c5b0 : decide (x6_1 < (l1.length : Int)) = false := decide_eq_false c5
    clear c5
    replace H := Option.bind_eq_some_iff.mp H
    obtain ⟨t319, A150, H⟩ := H
    replace H : (some t319) = some r := H
    have A15 := Aside0.mk A150
    clear A150
    obtain rfl := Option.some.inj H
    obtain ⟨Ao16, co16, eo16⟩ := Kd.R_slice HO_5.out
    subst eo16
    go_wp2_with (first | ((with_reducible refine gate_callee (f := 37) rfl ?_); refine goesL_ (some 28) rfl rfl Tryd.func37 (by kernel_rfl) rfl #[.slice Ao16 x5_1.length co16] rfl ar_ ?_; (with_reducible refine (XOf.calls _ _ x5_1 t319 _ ?side1 ?side2 A15.out).mono ?_); (case side1 => repeat (first | exact (Kd.R_reads' HO_5.out).2.2 | (with_reducible refine Kd.C_alloc ?_ _) | (with_reducible refine Kd.C_drewN ?_ _) | (with_reducible refine Kd.C_drew ?_))); (case side2 => exact (Kd.R_reads' HO_5.out).2.1); rintro e w17 ⟨v320, rfl, ho0, hb⟩; refine ⟨_, rfl, ?_⟩; have n0_ := Aside0.mk (Kd.R_elder' (kr_ HO_5.out) (Kd.R_base ho0) hb); have n1_ := Aside0.mk (Kd.R_lower (Kd.R_new' ho0 (Kd.R_lt (kr_ HO_5.out))) (below_size hb_)); have n2_ := Aside0.mk (below_step hb_ hb); clear HO_5; clear HB; have HO_5 := n0_; have HO321 := n1_; have HB := n2_; clear n0_ n1_ n2_; (try clear hb); (try clear hb2); (try clear hk); (try clear hi); (try clear ho0)))
    go_ret
    exact ⟨_, by first | rfl | (simp [errW_none, errW_some] <;> rfl) | (simp [*, errW_none, errW_some] <;> rfl), by (with_reducible repeat (first | apply Kd.R_alloc | apply Kd.R_drewN | apply Kd.R_drew)); exact Kd.R_mono HO321.out (fun _ hk => trivial), by repeat (first | (with_reducible first | exact HB.out | apply ba_ | apply bn_ | apply bd_) | exact HB.out)⟩
   rw [if_pos c5] at H
   have c5b0 : decide (x6_1 < (l1.length : Int)) = true := decide_eq_true c5
   clear c5
   by_cases c6 : x6_1 < 40
   rotate_left
   ·
    rw [if_neg c6] at H
    have c6b0 : decide (x6_1 < 40) = false := decide_eq_false c6
    clear c6
    replace H := Option.bind_eq_some_iff.mp H
    obtain ⟨t316, A120, H⟩ := H
    replace H : (some t316) = some r := H
    have A12 := Aside0.mk A120
    clear A120
    obtain rfl := Option.some.inj H
    obtain ⟨Ao13, co13, eo13⟩ := Kd.R_slice HO_5.out
    subst eo13
    go_wp2_with (first | ((with_reducible refine gate_callee (f := 37) rfl ?_); refine goesL_ (some 28) rfl rfl Tryd.func37 (by kernel_rfl) rfl #[.slice Ao13 x5_1.length co13] rfl ar_ ?_; (with_reducible refine (XOf.calls _ _ x5_1 t316 _ ?side1 ?side2 A12.out).mono ?_); (case side1 => repeat (first | exact (Kd.R_reads' HO_5.out).2.2 | (with_reducible refine Kd.C_alloc ?_ _) | (with_reducible refine Kd.C_drewN ?_ _) | (with_reducible refine Kd.C_drew ?_))); (case side2 => exact (Kd.R_reads' HO_5.out).2.1); rintro e w14 ⟨v317, rfl, ho0, hb⟩; refine ⟨_, rfl, ?_⟩; have n0_ := Aside0.mk (Kd.R_elder' (kr_ HO_5.out) (Kd.R_base ho0) hb); have n1_ := Aside0.mk (Kd.R_lower (Kd.R_new' ho0 (Kd.R_lt (kr_ HO_5.out))) (below_size hb_)); have n2_ := Aside0.mk (below_step hb_ hb); clear HO_5; clear HB; have HO_5 := n0_; have HO318 := n1_; have HB := n2_; clear n0_ n1_ n2_; (try clear hb); (try clear hb2); (try clear hk); (try clear hi); (try clear ho0)))
    go_ret
    exact ⟨_, by first | rfl | (simp [errW_none, errW_some] <;> rfl) | (simp [*, errW_none, errW_some] <;> rfl), by (with_reducible repeat (first | apply Kd.R_alloc | apply Kd.R_drewN | apply Kd.R_drew)); exact Kd.R_mono HO318.out (fun _ hk => trivial), by repeat (first | (with_reducible first | exact HB.out | apply ba_ | apply bn_ | apply bd_) | exact HB.out)⟩
   rw [if_pos c6] at H
   have c6b0 : decide (x6_1 < 40) = true := decide_eq_true c6
   clear c6
   by_cases c7 : 0 ≤ x6_1
   rotate_left
   ·
    rw [if_neg c7] at H
    exact absurd H (by simp)
   rw [if_pos c7] at H
   have c7b0 : decide (0 ≤ x6_1) = true := decide_eq_true c7
   clear c7
   replace H := Option.bind_eq_some_iff.mp H
   obtain ⟨⟨t310, t311, t312⟩, A80, H⟩ := H
   replace H : (if x5_1.length < 5864062014805 then (honeycomblaw04_Some.l0 k1 a0 l1 (x5_1 ++ [(⟨(⟨t310, t311⟩ : S63), t312⟩ : S65)]) (wrap64 (x6_1 + 1))) else (none)) = some r := H
   have A8 := Aside0.mk A80
   clear A80
   by_cases c9 : x5_1.length < 5864062014805
   rotate_left
   ·
    rw [if_neg c9] at H
    exact absurd H (by simp)
   rw [if_pos c9] at H
   have LMc9 := Aside0.mk c9
   clear c9
   obtain ⟨y313, hy313⟩ : ∃ y_ : List (S65), y_ = (x5_1 ++ [(⟨(⟨t310, t311⟩ : S63), t312⟩ : S65)]) := ⟨_, rfl⟩
   replace H : (honeycomblaw04_Some.l0 k1 a0 l1 y313 (wrap64 (x6_1 + 1))) = some r := by first | (rw [hy313]; with_reducible exact H) | (have H2_ := (Option.bind_some _ _).symm.trans H; rw [hy313]; with_reducible exact H2_) | (have H2_ := (Option.bind_some _ _).symm.trans H; with_reducible exact H2_) | with_reducible exact H | (rw [hy313]; exact H) | exact H
   have Ny313 := Aside0.mk hy313
   clear hy313
   have H' := Aside0.mk H
   clear H
   have p309 : 0 ≤ (x6_1 : Int) := of_decide_eq_true as_
   have q309 : x6_1 < (l1.length : Int) := of_decide_eq_true as_
   obtain ⟨ad309, e309, hx309_0, hx309_1, hx309_2⟩ := at_T60 HR1.out x6_1 p309 q309
   cases e309
   try replace hx309_0 := (HB.out.cell (World.block_lt_of_cell? w _ hx309_0)).trans hx309_0
   try replace hx309_1 := (HB.out.cell (World.block_lt_of_cell? w _ hx309_1)).trans hx309_1
   try replace hx309_2 := (HB.out.cell (World.block_lt_of_cell? w _ hx309_2)).trans hx309_2
   replace p309 := eq_true p309
   replace q309 := eq_true q309
   go_wp2_with (first | ((with_reducible refine gate_callee (f := 30) rfl ?_); refine goesL_ (some 24) rfl rfl Tryd.func30 (by kernel_rfl) rfl #[.int .i64 a0, .agg #[.int .i64 ((rd_T60 l1 x6_1).f0), .int .i64 ((rd_T60 l1 x6_1).f1), .int .i64 ((rd_T60 l1 x6_1).f2)]] rfl ar_ ?_; (with_reducible refine (XSome3.calls a0 ((rd_T60 l1 x6_1).f0) ((rd_T60 l1 x6_1).f1) ((rd_T60 l1 x6_1).f2) t310 t311 t312 _ A8.out).mono ?_); rintro e w10 ⟨rfl, hb⟩; refine ⟨_, rfl, ?_⟩; have n0_ := Aside0.mk (Kd.R_below (kr_ HO_5.out) hb); have n1_ := Aside0.mk (below_step hb_ hb); clear HO_5; clear HB; have HO_5 := n0_; have HB := n1_; clear n0_ n1_; (try clear hb); (try clear hb2); (try clear hk); (try clear hi)) | ((with_reducible refine gate_builtin (b := .append) (xs := #[.tmp 18, .tmp 25]) rfl ?_); at_builtin; refine Kd.R_append k65 (w0 := w) w.heap.size rfl (.tmp 18) (.tmp 25) 34 65 (.agg #[(.int .i64 0), (.int .i64 0), (.int .i64 0)]) 24 rfl Tryd.underlying34 info65 rfl (by decide) (by omega) u5 x5_1 (⟨(⟨t310, t311⟩ : S63), t312⟩ : S65) [.int .i64 t310, .int .i64 t311, .int .i64 t312] (fun _ => True) (fun _ => False) rfl rfl ?aP (fun _ hk => hk.elim) ?aF ?aO ?aB ?aS ?aL ?_; (case aP => exact k65_mkM _ _ _ (⟨(⟨t310, t311⟩ : S63), t312⟩ : S65)); (case aB => exact hb_); (case aF => exact (fun _ _ => trivial)); (case aO => exact (kr_ HO_5.out)); (case aS => exact (below_size hb_)); (case aL => have := LMc9.out; omega); intro v314 w11 ho hb hg hat; rw [← Ny313.out] at ho; have n0_ := Aside0.mk (hb); have n1_ := Aside0.mk (ho); clear HB; clear HO_5; have HB := n0_; have HO315 := n1_; clear n0_ n1_; clear ho hb hg hat))
   go_roundg k1
   case measure => have := HK1.out; omega
   case rel => exact ⟨(y313), (wrap64 (x6_1 + 1)), rs_, H', ⟨by have := HK1.out; omega⟩, ⟨kr_ HO315.out⟩, ⟨by repeat (first | (with_reducible first | exact HB.out | apply ba_ | apply bn_ | apply bd_) | exact HB.out)⟩⟩
def honeycomblaw04_Told.l0 : Nat → List (S60) → List (S65) → Int → Int → Option ((List (S60)))
 | 0, _, _, _, _ => none
 | k + 1, x3, x7, x8, x9 => if x9 < x8 then (if 0 ≤ x9 then (if x9 < (x7.length : Int) then ((honeycomblaw03_Told.f ((rd_T65 x7 x9).f0.f0) ((rd_T65 x7 x9).f0.f1) ((rd_T65 x7 x9).f1)).bind fun bt344 => (if x3.length < 5864062014805 then (honeycomblaw04_Told.l0 k (x3 ++ [(⟨bt344.1, bt344.2.1, bt344.2.2⟩ : S60)]) x7 x8 (wrap64 (x9 + 1))) else (none))) else (none)) else (none)) else (some x3)
def honeycomblaw04_Told.f (k : Nat) (l0 : List (S65)) : Option ((List (S60))) := honeycomblaw04_Told.l0 k (([] : List (S60))) l0 (l0.length : Int) 0
set_option maxHeartbeats 8000000 in
set_option maxRecDepth 100000 in
theorem honeycomblaw04_Told.calls (k : Nat) (A0 : Option Addr) (c0 : Nat) (l0 : List (S65)) (r : List (S60)) (w : World) (hr0 : Kd.C k65 w A0 l0.length l0) (hc0 : l0.length ≤ c0) (h : honeycomblaw04_Told.f k l0 = some r) :
  Calls Tryd.prog 22 #[.slice A0 l0.length c0] w fun e w' => ∃ v0_ : Value, e = .returned (v0_) ∧ Kd.R k60 60 w' w.heap.size (fun _ => True) v0_ r ∧ Below w.heap.size w w' := by
 have hu65 := Tryd.underlying65
 have HR0 := Aside0.mk hr0
 have HC0 := Aside0.mk hc0
 clear hr0 hc0
 have HB := Aside0.mk (Below.refl w.heap.size w)
 have H : (honeycomblaw04_Told.l0 k (([] : List (S60))) l0 (l0.length : Int) 0) = some r := h
 clear h
 obtain ⟨y339, hy339⟩ : ∃ y_ : List (S60), y_ = (([] : List (S60))) := ⟨_, rfl⟩
 replace H : (honeycomblaw04_Told.l0 k y339 l0 (l0.length : Int) 0) = some r := by first | (rw [hy339]; with_reducible exact H) | (have H2_ := (Option.bind_some _ _).symm.trans H; rw [hy339]; with_reducible exact H2_) | (have H2_ := (Option.bind_some _ _).symm.trans H; with_reducible exact H2_) | with_reducible exact H | (rw [hy339]; exact H) | exact H
 have Ny339 := Aside0.mk hy339
 clear hy339
 have H' := Aside0.mk H
 clear H
 go_enter Tryd.func22, Tryd.ntmps22
 go_wp2_with (first | ((with_reducible refine gate_dst (N := 6) rfl ?_); refine Kd.R_lit k60 _ 60 ?hg (N := 6) ?hd (xs := ([] : List (S60))) (inner := []) (ok := fun _ => True) (okp := fun _ => True) ?hr ?hp (fun _ hk => hk) trivial (Below.refl _ _) (Nat.le_refl _) (by simp) ?_; (case hd => rfl); (case hg => rfl); (case hr => first | (go_simp; done) | (go_simp; rfl)); (case hp => exact (Reps.none _ _)); intro v340 w2 ho3 hb hg_ hnew_; clear hg_ hnew_; (first | rw [← Ny339.out] at ho3 | (simp only [Int.reduceToNat] at ho3; rw [← Ny339.out] at ho3)); have n0_ := Aside0.mk (Kd.R_lower ho3 (below_size hb_)); have n1_ := Aside0.mk (below_step hb_ hb); clear HB; have HO341 := n0_; have HB := n1_; clear n0_ n1_; clear hb ho3))
 go_loopg [3, 9] k (fun kq v3 v9 w' => ∃ (x3_1 : List (S60)) (x9_1 : Int), v9 = .int .i64 x9_1 ∧ Aside0 (honeycomblaw04_Told.l0 kq x3_1 l0 (l0.length : Int) x9_1 = some r) ∧ Aside0 (kq ≤ k) ∧ Aside0 (Kd.R k60 60 w' w.heap.size (fun _ => True) v3 x3_1) ∧ Aside0 (Below w.heap.size w w'))
 case atStart => exact ⟨(y339), (0), rs_, H', ⟨Nat.le_refl _⟩, ⟨kr_ HO341.out⟩, ⟨by repeat (first | (with_reducible first | exact HB.out | apply ba_ | apply bn_ | apply bd_) | exact HB.out)⟩⟩
 case round =>
  clear H'
  try clear c2
  try clear p2
  obtain ⟨x3_1, x9_1, rfl, HA, HK1, HO_3, HB⟩ := hrel
  cases gk with
  | zero => exact absurd HA.out (by simp [honeycomblaw04_Told.l0])
  | succ k1 =>
   have H := HA.out
   clear HA
   simp only [honeycomblaw04_Told.l0] at H
   by_cases c4 : x9_1 < (l0.length : Int)
   rotate_left
   ·
    rw [if_neg c4] at H
    have c4b0 : decide (x9_1 < (l0.length : Int)) = false := decide_eq_false c4
    clear c4
    obtain rfl := Option.some.inj H
    go_wp2
    go_ret
    exact ⟨_, by first | rfl | (simp [errW_none, errW_some] <;> rfl) | (simp [*, errW_none, errW_some] <;> rfl), kr_ HO_3.out, by repeat (first | (with_reducible first | exact HB.out | apply ba_ | apply bn_ | apply bd_) | exact HB.out)⟩
   rw [if_pos c4] at H
   have c4b0 : decide (x9_1 < (l0.length : Int)) = true := decide_eq_true c4
   clear c4
   by_cases c5 : 0 ≤ x9_1
   rotate_left
   ·
    rw [if_neg c5] at H
    exact absurd H (by simp)
   rw [if_pos c5] at H
   have c5b0 : decide (0 ≤ x9_1) = true := decide_eq_true c5
   clear c5
   by_cases c6 : x9_1 < (l0.length : Int)
   rotate_left
   ·
    rw [if_neg c6] at H
    exact absurd H (by simp)
   rw [if_pos c6] at H
   have c6b0 : decide (x9_1 < (l0.length : Int)) = true := decide_eq_true c6
   clear c6
   replace H := Option.bind_eq_some_iff.mp H
   obtain ⟨⟨t344, t345, t346⟩, A70, H⟩ := H
   replace H : (if x3_1.length < 5864062014805 then (honeycomblaw04_Told.l0 k1 (x3_1 ++ [(⟨t344, t345, t346⟩ : S60)]) l0 (l0.length : Int) (wrap64 (x9_1 + 1))) else (none)) = some r := H
   have A7 := Aside0.mk A70
   clear A70
   by_cases c8 : x3_1.length < 5864062014805
   rotate_left
   ·
    rw [if_neg c8] at H
    exact absurd H (by simp)
   rw [if_pos c8] at H
   have LMc8 := Aside0.mk c8
   clear c8
   obtain ⟨y347, hy347⟩ : ∃ y_ : List (S60), y_ = (x3_1 ++ [(⟨t344, t345, t346⟩ : S60)]) := ⟨_, rfl⟩
   replace H : (honeycomblaw04_Told.l0 k1 y347 l0 (l0.length : Int) (wrap64 (x9_1 + 1))) = some r := by first | (rw [hy347]; with_reducible exact H) | (have H2_ := (Option.bind_some _ _).symm.trans H; rw [hy347]; with_reducible exact H2_) | (have H2_ := (Option.bind_some _ _).symm.trans H; with_reducible exact H2_) | with_reducible exact H | (rw [hy347]; exact H) | exact H
   have Ny347 := Aside0.mk hy347
   clear hy347
   have H' := Aside0.mk H
   clear H
   have p342 : 0 ≤ (x9_1 : Int) := of_decide_eq_true as_
   have q342 : x9_1 < (l0.length : Int) := of_decide_eq_true as_
   obtain ⟨ad342, e342, hx342_0, hx342_1, hx342_2⟩ := at_T65 HR0.out x9_1 p342 q342
   cases e342
   try replace hx342_0 := (HB.out.cell (World.block_lt_of_cell? w _ hx342_0)).trans hx342_0
   try replace hx342_1 := (HB.out.cell (World.block_lt_of_cell? w _ hx342_1)).trans hx342_1
   try replace hx342_2 := (HB.out.cell (World.block_lt_of_cell? w _ hx342_2)).trans hx342_2
   replace p342 := eq_true p342
   replace q342 := eq_true q342
   go_wp2_with (first | ((with_reducible refine gate_dst (N := 5) rfl ?_); refine box_event ?hg (N := 5) ?hd (cs := #[.int .i64 0, .int .i64 0, .int .i64 0]) (t := 65) ?hr ?_; (case hd => rfl); (case hg => rfl); (case hr => first | (go_simp; done) | (go_simp; rfl)); intro gb343 hg w9 hbox hb; have n0_ := Aside0.mk (Kd.R_below (kr_ HO_3.out) hb); have n1_ := Aside0.mk (below_step hb_ hb); have n2_ := Aside0.mk (hbox); have n3_ := Aside0.mk ((by rw [hg]; exact (below_size hb_) : w.heap.size ≤ gb343)); have n4_ := Aside0.mk ((by rw [hg]; exact (below_size hb_) : w.heap.size ≤ gb343)); clear HO_3; clear HB; have HO_3 := n0_; have HB := n1_; have BK343 := n2_; have GW343 := n3_; have GE343 := n4_; clear n0_ n1_ n2_ n3_ n4_; clear hb hbox hg; have hcz10_0 : w9.cell? ⟨gb343, 0, none⟩ = some (.int .i64 0) := (blk_cell BK343.out 0).trans rfl; have hcz10_1 : w9.cell? ⟨gb343, 1, none⟩ = some (.int .i64 0) := (blk_cell BK343.out 1).trans rfl; have hcz10_2 : w9.cell? ⟨gb343, 2, none⟩ = some (.int .i64 0) := (blk_cell BK343.out 2).trans rfl; have hfz10_0 := blk_frozen BK343.out 0; have hfz10_1 := blk_frozen BK343.out 1; have hfz10_2 := blk_frozen BK343.out 2) | ((with_reducible refine gate_callee (f := 29) rfl ?_); refine goesL_ (some 15) rfl rfl Tryd.func29 (by kernel_rfl) rfl #[.agg #[.int .i64 ((rd_T65 l0 x9_1).f0.f0), .int .i64 ((rd_T65 l0 x9_1).f0.f1), .int .i64 ((rd_T65 l0 x9_1).f1)]] rfl ar_ ?_; (with_reducible refine (honeycomblaw03_Told.calls ((rd_T65 l0 x9_1).f0.f0) ((rd_T65 l0 x9_1).f0.f1) ((rd_T65 l0 x9_1).f1) t344 t345 t346 _ A7.out).mono ?_); rintro e w11 ⟨rfl, hb⟩; refine ⟨_, rfl, ?_⟩; have n0_ := Aside0.mk (Kd.R_below (by (with_reducible repeat (first | apply Kd.R_alloc | apply Kd.R_drewN | apply Kd.R_drew)); exact (Kd.R_mono (Kd.R_far (p := ⟨gb343, 2, none⟩) (Kd.R_far (p := ⟨gb343, 1, none⟩) (Kd.R_far (p := ⟨gb343, 0, none⟩) (Kd.R_types HO_3.out BK343.out (by decide)) (fun _ hk => hk.2) (.int .i64 ((rd_T65 l0 x9_1).f0.f0))) (fun _ hk => hk.2) (.int .i64 ((rd_T65 l0 x9_1).f0.f1))) (fun _ hk => hk.2) (.int .i64 ((rd_T65 l0 x9_1).f1))) (fun _ h_ => h_.1))) hb); have n1_ := Aside0.mk (blk_below (g := gb343) (o := .cells #[.int .i64 ((rd_T65 l0 x9_1).f0.f0), .int .i64 ((rd_T65 l0 x9_1).f0.f1), .int .i64 ((rd_T65 l0 x9_1).f1)] 65 (0, 0)) (by (with_reducible repeat (first | apply bN_ | apply bD_ | apply bA_)); refine blk_put (cs := #[.int .i64 ((rd_T65 l0 x9_1).f0.f0), .int .i64 ((rd_T65 l0 x9_1).f0.f1), .int .i64 0]) ?_ 2 _ rfl; (with_reducible repeat (first | apply bN_ | apply bD_ | apply bA_)); refine blk_put (cs := #[.int .i64 ((rd_T65 l0 x9_1).f0.f0), .int .i64 0, .int .i64 0]) ?_ 1 _ rfl; (with_reducible repeat (first | apply bN_ | apply bD_ | apply bA_)); refine blk_put (cs := #[.int .i64 0, .int .i64 0, .int .i64 0]) ?_ 0 _ rfl; (with_reducible repeat (first | apply bN_ | apply bD_ | apply bA_)); exact BK343.out) hb); have n2_ := Aside0.mk (below_step (hg_ GE343.out) hb); clear HO_3; clear BK343; clear HB; have HO_3 := n0_; have BK343 := n1_; have HB := n2_; clear n0_ n1_ n2_; (try clear hb); (try clear hb2); (try clear hk); (try clear hi)) | ((with_reducible refine gate_builtin (b := .append) (xs := #[.tmp 13, .tmp 16]) rfl ?_); at_builtin; refine Kd.R_append k60 (w0 := w) w.heap.size rfl (.tmp 13) (.tmp 16) 45 60 (.agg #[(.int .i64 0), (.int .i64 0), (.int .i64 0)]) 24 rfl Tryd.underlying45 info60 rfl (by decide) (by omega) u3 x3_1 (⟨t344, t345, t346⟩ : S60) [.int .i64 t344, .int .i64 t345, .int .i64 t346] (fun _ => True) (fun _ => False) rfl rfl ?aP (fun _ hk => hk.elim) ?aF ?aO ?aB ?aS ?aL ?_; (case aP => exact k60_mkM _ _ _ (⟨t344, t345, t346⟩ : S60)); (case aB => exact (hg_ GE343.out)); (case aF => exact (fun _ _ => trivial)); (case aO => exact (kr_ HO_3.out)); (case aS => exact (below_size (hg_ GE343.out))); (case aL => have := LMc8.out; omega); intro v348 w12 ho hb hg hat; rw [← Ny347.out] at ho; have n0_ := Aside0.mk (blk_grown (g := gb343) (o := .cells #[.int .i64 ((rd_T65 l0 x9_1).f0.f0), .int .i64 ((rd_T65 l0 x9_1).f0.f1), .int .i64 ((rd_T65 l0 x9_1).f1)] 65 (0, 0)) (bk_ BK343.out) hg (Kd.R_ne HO_3.out BK343.out (by decide))); have n1_ := Aside0.mk (hb); have n2_ := Aside0.mk (ho); clear BK343; clear HB; clear HO_3; have BK343 := n0_; have HB := n1_; have HO349 := n2_; clear n0_ n1_ n2_; clear ho hb hg hat))
   go_roundg k1
   case measure => have := HK1.out; omega
   case rel => exact ⟨(y347), (wrap64 (x9_1 + 1)), rs_, H', ⟨by have := HK1.out; omega⟩, ⟨kr_ HO349.out⟩, ⟨by repeat (first | (with_reducible first | exact HB.out | apply ba_ | apply bn_ | apply bd_ | refine below_set ?_ GE343.out) | exact HB.out)⟩⟩
end Go.Proofs.YtaeenefdbahfoaaDoor.H
namespace Go.Proofs.YtaeenefdbahfoaaDoor.H
open Go.RowKit Go.Proofs.YtaeenefdbahfoaaDoorW.PrintWords Go.Proofs.YtaeenefdbahfoaaDoorW.PrintLast Go.Proofs.YtaeenefdbahfoaaDoorW.PrintMore
attribute [local go_sem] max2_int min2_int max_two min_two max_three min_three max_four min_four
set_option linter.unusedVariables false
set_option linter.unusedSimpArgs false
end Go.Proofs.YtaeenefdbahfoaaDoor.H
namespace Go.Proofs.YtaeenefdbahfoaaDoor
set_option linter.unusedSimpArgs false
set_option linter.unusedVariables false
open Go.RowKit Go.Proofs.YtaeenefdbahfoaaDoorW.PrintWords Go.Proofs.YtaeenefdbahfoaaDoorW.PrintLast Go.Proofs.YtaeenefdbahfoaaDoorW.PrintMore
open H
open Go.Shelf Go.RowKit Go.Lib Go.Sort
end Go.Proofs.YtaeenefdbahfoaaDoor
namespace Go.Proofs.YtaeenefdbahfoaaDoor
set_option linter.unusedSimpArgs false
set_option linter.unusedVariables false
open Go.RowKit Go.Proofs.YtaeenefdbahfoaaDoorW.PrintWords Go.Proofs.YtaeenefdbahfoaaDoorW.PrintLast Go.Proofs.YtaeenefdbahfoaaDoorW.PrintMore
open H
open Go.RowKit
end Go.Proofs.YtaeenefdbahfoaaDoor
namespace Go.Proofs.YtaeenefdbahfoaaDoor
set_option linter.unusedSimpArgs false
set_option linter.unusedVariables false
open Go.RowKit Go.Proofs.YtaeenefdbahfoaaDoorW.PrintWords Go.Proofs.YtaeenefdbahfoaaDoorW.PrintLast Go.Proofs.YtaeenefdbahfoaaDoorW.PrintMore
open H
open Go.Shelf Go.RowKit Go.Lib Go.Sort
end Go.Proofs.YtaeenefdbahfoaaDoor
namespace Go.Proofs.YtaeenefdbahfoaaDoor
set_option linter.unusedSimpArgs false
set_option linter.unusedVariables false
open Go.RowKit Go.Proofs.YtaeenefdbahfoaaDoorW.PrintWords Go.Proofs.YtaeenefdbahfoaaDoorW.PrintLast Go.Proofs.YtaeenefdbahfoaaDoorW.PrintMore
open H
open Go.RowKit
theorem u64N (n : Nat) (h : n < 18446744073709551616) : IntKind.u64.wrap (n : Int) = n := by
  have : IntKind.u64.wrap (n : Int) = (n : Int) % 18446744073709551616 := by simp [IntKind.wrap, IntKind.signed, IntKind.bits]
  rw [this]
  omega
theorem ofIntN (n : Nat) (h : n < 18446744073709551616) : (BitVec.ofInt 64 (n : Int)).toNat = n := by
  rw [BitVec.toNat_ofInt]
  omega
theorem andN (a c : Nat) (ha : a < 18446744073709551616) (hc : c < 18446744073709551616) : Go.bits .and .u64 (a : Int) (c : Int) = ((a &&& c : Nat) : Int) := by
  have key : (BitVec.ofInt 64 (a : Int) &&& BitVec.ofInt 64 (c : Int)).toNat = a &&& c := by rw [BitVec.toNat_and, ofIntN a ha, ofIntN c hc]
  show IntKind.u64.wrap ((BitVec.ofInt 64 (a : Int) &&& BitVec.ofInt 64 (c : Int)).toNat : Nat) = _
  rw [key]
  exact u64N _ (Nat.lt_of_le_of_lt Nat.and_le_left ha)
theorem orN (a c : Nat) (ha : a < 18446744073709551616) (hc : c < 18446744073709551616) : Go.bits .or .u64 (a : Int) (c : Int) = ((a ||| c : Nat) : Int) := by
  have key : (BitVec.ofInt 64 (a : Int) ||| BitVec.ofInt 64 (c : Int)).toNat = a ||| c := by rw [BitVec.toNat_or, ofIntN a ha, ofIntN c hc]
  show IntKind.u64.wrap ((BitVec.ofInt 64 (a : Int) ||| BitVec.ofInt 64 (c : Int)).toNat : Nat) = _
  rw [key]
  exact u64N _ (Nat.or_lt_two_pow (n := 64) ha hc)
theorem badN (B S m1 m2 o : Nat) (hB : B < 18446744073709551616) (hS : S < 18446744073709551616) (ho : o < 18446744073709551616) (h1 : m1 &&& (o ||| 1) = 0) (h2 : m2 &&& o = 0) : badH ((B &&& m1 : Nat) : Int) ((S &&& m2 : Nat) : Int) (o : Int) = false := by
  unfold badH
  have e := orN o 1 ho (by decide)
  rw [show ((1 : Nat) : Int) = 1 from rfl] at e
  rw [e, andN _ _ (Nat.lt_of_le_of_lt Nat.and_le_left hB) (Nat.or_lt_two_pow (n := 64) ho (by decide)), andN _ _ (Nat.lt_of_le_of_lt Nat.and_le_left hS) ho, Nat.and_assoc, Nat.and_assoc, h1, h2]
  simp
theorem badZ (o : Int) (ho : o = 18446744073709551615) : badH 0 0 o = false := by subst ho; decide +kernel
theorem even_and (B m : Nat) (h : m % 2 = 0) : (B &&& m) % 2 = 0 := by
  have := Nat.and_mod_two_pow (a := B) (b := m) (n := 1)
  simp only [Nat.pow_one] at this
  rw [this, h, Nat.and_zero]
/-- a table as the law makes it: the numbers, and that it may be -/
def Tb (L : Int) (b0 b1 s0 s1 : Nat) : Prop := (1 ≤ L ∧ L ≤ 3) ∧ checkT L b0 b1 s0 s1 = none ∧ b0 % 2 = 0 ∧ b1 % 2 = 0 ∧ b0 < 18446744073709551616 ∧ b1 < 18446744073709551616 ∧ s0 < 18446744073709551616 ∧ s1 < 18446744073709551616 ∧ (L = 1 → b1 = 0 ∧ s1 = 0)
theorem some_rule (l : Int) (B B1 S S1 : Nat) (hB : B < 18446744073709551616) (hB1 : B1 < 18446744073709551616) (hS : S < 18446744073709551616) (hS1 : S1 < 18446744073709551616) :
    ∃ (L : Int) (b0 b1 s0 s1 : Nat), XSome5.f l B B1 S S1 = some (L, (b0 : Int), (b1 : Int), (s0 : Int), (s1 : Int)) ∧ Tb L b0 b1 s0 s1 := by
  have hL : latT l = 1 ∨ latT l = 2 ∨ latT l = 3 := by unfold latT; omega
  have lt := fun (a b : Nat) (h : a < 18446744073709551616) => Nat.lt_of_le_of_lt (Nat.and_le_left (n := a) (m := b)) h
  unfold XSome5.f
  rcases hL with hL | hL | hL <;> rw [hL]
  · have e1 : andM B (bornT 1) = ((B &&& 18446744073709551614 : Nat) : Int) := andN B 18446744073709551614 hB (by decide)
    have e2 : andM S (maskT 1) = ((S &&& 18446744073709551615 : Nat) : Int) := andN S 18446744073709551615 hS (by decide)
    have h0' : badH ((B &&& 18446744073709551614 : Nat) : Int) ((S &&& 18446744073709551615 : Nat) : Int) (restT 1) = false := badN B S 18446744073709551614 18446744073709551615 0 hB hS (by decide) (by decide +kernel) (by decide +kernel)
    refine ⟨1, B &&& 18446744073709551614, 0, S &&& 18446744073709551615, 0, ?_, ⟨by decide, by decide⟩, ?_, even_and _ _ rfl, rfl, lt _ _ hB, by decide, lt _ _ hS, by decide, fun _ => ⟨rfl, rfl⟩⟩
    · rw [e1, e2, if_pos rfl, if_pos rfl]; rfl
    · unfold checkT
      rw [if_pos (by decide), if_neg (by rw [h0', show ((0 : Nat) : Int) = 0 from rfl, badZ (outT 1) rfl]; decide)]
  · have e1 : andM B (bornT 2) = ((B &&& 14 : Nat) : Int) := andN B 14 hB (by decide)
    have e1' : andM B1 (bornT 2) = ((B1 &&& 14 : Nat) : Int) := andN B1 14 hB1 (by decide)
    have e2 : andM S (maskT 2) = ((S &&& 15 : Nat) : Int) := andN S 15 hS (by decide)
    have e2' : andM S1 (maskT 2) = ((S1 &&& 15 : Nat) : Int) := andN S1 15 hS1 (by decide)
    have h0 : badH ((B &&& 14 : Nat) : Int) ((S &&& 15 : Nat) : Int) (restT 2) = false := badN B S 14 15 18446744073709551600 hB hS (by decide) (by decide +kernel) (by decide +kernel)
    have h0' : badH ((B1 &&& 14 : Nat) : Int) ((S1 &&& 15 : Nat) : Int) (outT 2) = false := badN B1 S1 14 15 18446744073709551600 hB1 hS1 (by decide) (by decide +kernel) (by decide +kernel)
    refine ⟨2, B &&& 14, B1 &&& 14, S &&& 15, S1 &&& 15, ?_, ⟨by decide, by decide⟩, ?_, even_and _ _ rfl, even_and _ _ rfl, lt _ _ hB, lt _ _ hB1, lt _ _ hS, lt _ _ hS1, fun h => absurd h (by decide)⟩
    · rw [if_neg (by decide), if_neg (by decide), e1, e1', e2, e2']
    · unfold checkT
      rw [if_pos (by decide), if_neg (by rw [h0, h0']; decide)]
  · have e1 : andM B (bornT 3) = ((B &&& 8190 : Nat) : Int) := andN B 8190 hB (by decide)
    have e1' : andM B1 (bornT 3) = ((B1 &&& 8190 : Nat) : Int) := andN B1 8190 hB1 (by decide)
    have e2 : andM S (maskT 3) = ((S &&& 8191 : Nat) : Int) := andN S 8191 hS (by decide)
    have e2' : andM S1 (maskT 3) = ((S1 &&& 8191 : Nat) : Int) := andN S1 8191 hS1 (by decide)
    have h0 : badH ((B &&& 8190 : Nat) : Int) ((S &&& 8191 : Nat) : Int) (restT 3) = false := badN B S 8190 8191 18446744073709543424 hB hS (by decide) (by decide +kernel) (by decide +kernel)
    have h0' : badH ((B1 &&& 8190 : Nat) : Int) ((S1 &&& 8191 : Nat) : Int) (outT 3) = false := badN B1 S1 8190 8191 18446744073709543424 hB1 hS1 (by decide) (by decide +kernel) (by decide +kernel)
    refine ⟨3, B &&& 8190, B1 &&& 8190, S &&& 8191, S1 &&& 8191, ?_, ⟨by decide, by decide⟩, ?_, even_and _ _ rfl, even_and _ _ rfl, lt _ _ hB, lt _ _ hB1, lt _ _ hS, lt _ _ hS1, fun h => absurd h (by decide)⟩
    · rw [if_neg (by decide), if_neg (by decide), e1, e1', e2, e2']
    · unfold checkT
      rw [if_pos (by decide), if_neg (by rw [h0, h0']; decide)]
theorem nxB_zero (b : Nat) (hb : b < 18446744073709551616) (h : b % 2 = 0) : nxB (b : Int) 0 = false := by
  unfold nxB
  have e : (b : Int) / 2 ^ (0 : Int).toNat = (b : Int) := by simp
  have := andN b 1 hb (by decide)
  rw [e]
  rw [show ((1 : Nat) : Int) = 1 from rfl] at this
  rw [this, Nat.and_one_is_mod, h]
  rfl
theorem rule_zero {L : Int} {b0 b1 s0 s1 : Nat} (h : Tb L b0 b1 s0 s1) : ∀ x, nxtV b0 b1 s0 s1 x false 0 = false := by
  intro x
  obtain ⟨_, _, h0, h1, l0, l1, _⟩ := h
  unfold nxtV
  split
  · rfl
  · rw [if_neg (by decide)]
    split
    · exact nxB_zero b0 l0 h0
    · exact nxB_zero b1 l1 h1
def Bx (l R : Int) (s : List CL) : Prop := ∀ c ∈ s, hOK l c.f1 ∧ (-R ≤ c.f0.f0 ∧ c.f0.f0 ≤ R) ∧ (-R ≤ c.f0.f1 ∧ c.f0.f1 ≤ R)
theorem Bx.half {l R : Int} {s : List CL} (h : Bx l R s) : ∀ c ∈ s, hOK l c.f1 := fun c hc => (h c hc).1
theorem Bx.mono {l R R' : Int} {s : List CL} (h : Bx l R s) (hR : R ≤ R') : Bx l R' s := fun c hc => by
  obtain ⟨h1, h2, h3⟩ := h c hc
  exact ⟨h1, by omega, by omega⟩
theorem Bx.chk {l R : Int} {s : List CL} (hl : 1 ≤ l ∧ l ≤ 3) (hR : R ≤ 1000000000) (h : Bx l R s) : ∀ c ∈ s, checkR l c.f0.f0 c.f0.f1 c.f1 = none := fun c hc => by
  obtain ⟨h1, h2, h3⟩ := h c hc
  unfold checkR
  rw [if_pos hl, if_neg, if_pos (by unfold goodP; omega)]
  unfold hOK at h1
  by_cases e : l = 1
  · rw [if_pos e]; have := h1.2 e; omega
  · rw [if_neg e]; omega
theorem Bx.ok {l R : Int} {s : List CL} (hl : 1 ≤ l ∧ l ≤ 3) (hR : R ≤ 1000000000) (h : Bx l R s) : (s.all fun c => okC l c) = true := by
  rw [List.all_eq_true]
  intro c hc
  unfold okC
  rw [Bool.and_eq_true]
  refine ⟨by rw [h.chk hl hR c hc]; rfl, ?_⟩
  rw [List.all_eq_true]
  intro d hd
  obtain ⟨h1, h2, h3⟩ := h c hc
  have := bes_near l c d hl h1 hd
  exact decide_eq_true (by unfold goodP; omega)
theorem Bx.next {l R : Int} {s : List CL} {nx : Rul} (hl : 1 ≤ l ∧ l ≤ 3) (h0 : ∀ x, nx x false 0 = false) (hs : Srt s) (h : Bx l R s) : Bx l (R + 1) (nextL nx l s) := fun c hc => by
  have hh := ((next_mem nx l hl h0 s (srt_nodup hs) h.half c).1 hc).1
  obtain ⟨d, hd, h1, h2, h3, h4⟩ := next_near nx l hl h0 s (srt_nodup hs) h.half c hc
  obtain ⟨_, h5, h6⟩ := h d hd
  exact ⟨hh, by omega, by omega⟩
def someG (l : Int) (r : RC) : CL := ⟨⟨Int.tmod r.f0 100, Int.tmod r.f1 100⟩, if l = 1 then 0 else r.f2 % 2⟩
theorem rdRC (l : List RC) (j : Nat) (hj : j < l.length) : rd_T60 l j = l[j] := by simp [rd_T60, hj]
theorem some4_l0 (l : Int) (raw : List RC) : ∀ (d k i : Nat) (acc : List CL), i + d = min raw.length 40 → d < k → acc.length ≤ i → honeycomblaw04_Some.l0 k l raw acc i = some (ofL (acc ++ ((raw.take (i + d)).drop i).map (someG l))) := by
  intro d
  induction d with
  | zero =>
    intro k i acc hi hk ha
    obtain ⟨k, rfl⟩ : ∃ m, k = m + 1 := ⟨k - 1, by omega⟩
    have hof : XOf.f acc = some (ofL acc) := by unfold XOf.f; rw [if_pos (by omega)]
    have hd : ((raw.take (i + 0)).drop i).map (someG l) = [] := by rw [List.drop_eq_nil_of_le (by rw [List.length_take]; omega)]; rfl
    rw [hd, List.append_nil]
    simp only [honeycomblaw04_Some.l0, hof, Option.bind_some]
    by_cases h : i < raw.length
    · rw [if_pos (by omega), if_neg (by omega)]
    · rw [if_neg (by omega)]
  | succ d ih =>
    intro k i acc hi hk ha
    obtain ⟨k, rfl⟩ : ∃ m, k = m + 1 := ⟨k - 1, by omega⟩
    have h1 : i < raw.length := by omega
    simp only [honeycomblaw04_Some.l0]
    rw [if_pos (by omega), if_pos (by omega), if_pos (by omega), rdRC raw i h1]
    unfold XSome3.f
    simp only [Option.bind_some]
    rw [if_pos (by omega), w64i ((i : Int) + 1) (by omega) (by omega)]
    have := ih k (i + 1) (acc ++ [someG l raw[i]]) (by omega) (by omega) (by rw [List.length_append]; simp; omega)
    simp only [Int.natCast_add, Int.cast_ofNat_Int] at this
    refine this.trans ?_
    have hd : (raw.take (i + (d + 1))).drop i = raw[i] :: (raw.take (i + 1 + d)).drop (i + 1) := by
      have hl : i < (raw.take (i + (d + 1))).length := by rw [List.length_take]; omega
      rw [List.drop_eq_getElem_cons hl, List.getElem_take]
      congr 3
      omega
    rw [hd, List.map_cons, List.append_assoc, List.singleton_append]
theorem some4_f (K : Nat) (l : Int) (raw : List RC) (hK : 41 ≤ K) : honeycomblaw04_Some.f K l raw = some (ofL ((raw.take 40).map (someG l))) := by
  unfold honeycomblaw04_Some.f
  have := some4_l0 l raw (min raw.length 40) K 0 [] (by omega) (by omega) (by simp)
  refine this.trans ?_
  rw [List.nil_append, List.drop_zero, Nat.zero_add]
  congr 3
  rw [List.take_eq_take_iff]
  omega
end Go.Proofs.YtaeenefdbahfoaaDoor
namespace Go.Proofs.YtaeenefdbahfoaaDoor.H
open Go.RowKit Go.Proofs.YtaeenefdbahfoaaDoorW.PrintWords Go.Proofs.YtaeenefdbahfoaaDoorW.PrintLast Go.Proofs.YtaeenefdbahfoaaDoorW.PrintMore
attribute [local go_sem] max2_int min2_int max_two min_two max_three min_three max_four min_four
set_option linter.unusedVariables false
set_option linter.unusedSimpArgs false
def honeycombref05_bit.l0 : Nat → Int → Int → Int → Option (Int)
 | 0, _, _, _ => none
 | k + 1, x0, x1, x5 => if x5 < x1 then (honeycombref05_bit.l0 k (IntKind.u64.wrap (Int.tdiv x0 2)) x1 (wrap64 (x5 + 1))) else (some (wrap64 (Int.tmod x0 2)))
def honeycombref05_bit.f (k : Nat) (a0 : Int) (a1 : Int) : Option (Int) := honeycombref05_bit.l0 k a0 a1 0
set_option maxHeartbeats 8000000 in
set_option maxRecDepth 100000 in
theorem honeycombref05_bit.calls (k : Nat) (a0 : Int) (a1 : Int) (r : Int) (w : World) (h : honeycombref05_bit.f k a0 a1 = some r) :
  Calls Tryd.prog 69 #[.int .u64 a0, .int .i64 a1] w fun e w' => e = .returned (.int .i64 r) ∧ Drawn0 w w' := by
 have H : (honeycombref05_bit.l0 k a0 a1 0) = some r := h
 clear h
 have H' := Aside0.mk H
 clear H
 go_enter Tryd.func69, Tryd.ntmps69
 go_wp2
 go_loopg [0, 5] k (fun kq v0 v5 w' => ∃ (x0_1 : Int) (x5_1 : Int), v0 = .int .u64 x0_1 ∧ v5 = .int .i64 x5_1 ∧ Aside0 (honeycombref05_bit.l0 kq x0_1 a1 x5_1 = some r) ∧ Aside0 (kq ≤ k) ∧ Drawn0 w w')
 case atStart => exact ⟨(a0), (0), rs_, rs_, H', ⟨Nat.le_refl _⟩, by repeat (first | exact Drawn0.refl _ | apply Drawn0.step)⟩
 case round =>
  clear H'
  try clear p2
  obtain ⟨x0_1, x5_1, rfl, rfl, HA, HK1, ⟨m1, rfl⟩⟩ := hrel
  cases gk with
  | zero => exact absurd HA.out (by simp [honeycombref05_bit.l0])
  | succ k1 =>
   have H := HA.out
   clear HA
   simp only [honeycombref05_bit.l0] at H
   by_cases c3 : x5_1 < a1
   rotate_left
   ·
    rw [if_neg c3] at H
    have c3b0 : decide (x5_1 < a1) = false := decide_eq_false c3
    clear c3
    obtain rfl := Option.some.inj H
    go_wp2
    go_ret
    exact ⟨by first | rfl | (simp; done) | (simp [*]; done), by repeat (first | exact Drawn0.refl _ | apply Drawn0.step)⟩
   rw [if_pos c3] at H
   have c3b0 : decide (x5_1 < a1) = true := decide_eq_true c3
   clear c3
   have H' := Aside0.mk H
   clear H
   go_wp2
   go_roundg k1
   case measure => have := HK1.out; omega
   case rel => exact ⟨(IntKind.u64.wrap (Int.tdiv x0_1 2)), (wrap64 (x5_1 + 1)), rs_, rs_, H', ⟨by have := HK1.out; omega⟩, by repeat (first | exact Drawn0.refl _ | apply Drawn0.step)⟩
end Go.Proofs.YtaeenefdbahfoaaDoor.H
