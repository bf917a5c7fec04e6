/- Parts of the proof (FlatOne), merged out of our texts by wip/tools/pack.py: Hhoneycomblaw08awake, PAwake8, XTold5, PCell1. -/
import Derived.Test.YtaeenefdbahfoaaDoorKFlatOne6
import Derived.Test.YtaeenefdbahfoaaDoorKFlatOne1
import Derived.Test.YtaeenefdbahfoaaDoorKFlatOne3
import Derived.Test.YtaeenefdbahfoaaDoorKFlatOne5
import Derived.Test.YtaeenefdbahfoaaDoorKFlatOne2
import Derived.BigRegion
import Derived.Deep.RegionHeld3
import Derived.Test.YtaeenefdbahfoaaDoorKFlatOne4
namespace Go.Proofs.YtaeenefdbahfoaaDoor.H
open Go.RowKit Go.Proofs.YtaeenefdbahfoaaDoorW.PrintWords Go.Proofs.YtaeenefdbahfoaaDoorW.PrintLast Go.Proofs.YtaeenefdbahfoaaDoorW.PrintMore
attribute [local go_sem] max2_int min2_int max_two min_two max_three min_three max_four min_four   -- for this text's walks alone
set_option linter.unusedVariables false
set_option linter.unusedSimpArgs false
attribute [local go_sem high] eqA65
def honeycomblaw08_awake.f (k : Nat)  : Option (Bool) := (table_Rings.f k 2 111).bind fun t287 => ((table_Rings.f k 2 109).bind fun t288 => ((table_Rings.f k 2 112).bind fun t289 => ((XOf.f (([(⟨(⟨0, 0⟩ : S63), 0⟩ : S65), (⟨(⟨1, 0⟩ : S63), 0⟩ : S65)] : List (S65)))).bind fun t294 => ((XStep.f 1 (Go.bits .or .u64 (Go.bits .or .u64 t287 t288) t289) 0 0 0 t294).bind fun bt297 => (if bt297.2.isNone = true then (if (bt297.1.length : Int) = 2 then (if 0 < (bt297.1.length : Int) then (if ((((rd_T65 bt297.1 0).f0.f0) == 1 && (((rd_T65 bt297.1 0).f0.f1) == (-1))) && (((rd_T65 bt297.1 0).f1) == 0)) = true then (if 1 < (bt297.1.length : Int) then (some ((((rd_T65 bt297.1 1).f0.f0) == 0 && (((rd_T65 bt297.1 1).f0.f1) == 1)) && (((rd_T65 bt297.1 1).f1) == 0))) else (none)) else (some false)) else (none)) else (some false)) else (some false))))))
def honeycomblaw08_awake.T2 : Bool × List (List Nat × List Nat) := (true, [([], []), ([], []), ([], []), ([2], [2]), ([1, 3], [1, 3]), ([4], [4]), ([0, 5, 5], [0, 5]), ([6], [6]), ([7], [7]), ([7], [7]), ([8, 6, 0, 1, 2, 3, 4, 5, 6, 7, 8], [8]), ([9, 10, 0, 1, 2, 3, 4, 5, 6, 7, 8, 9, 10], [9])])
def honeycomblaw08_awake.B2 : List Nat := [0, 0, 0, 4, 14, 30, 63, 127, 255, 255, 511, 2047]
theorem honeycomblaw08_awake.tab2 : rtab .any (opsOf Tryd.f20 2) = honeycomblaw08_awake.T2 := by kernel_rfl
theorem honeycomblaw08_awake.bits2 : waitsOk honeycomblaw08_awake.T2.2 honeycomblaw08_awake.B2 = true := by kernel_rfl
set_option maxHeartbeats 8000000 in
set_option maxRecDepth 100000 in
theorem honeycomblaw08_awake.calls (k : Nat)  (r : Bool) (w : World) (hGSix : Six w) (h : honeycomblaw08_awake.f k  = some r) (hr_ : r = true) :
  Calls Tryd.prog 20 #[] w fun e w' => e = .returned (.bool r) ∧ Below w.heap.size w w' := by
 have Hr_ := Aside0.mk hr_
 clear hr_
 have hu104 := Tryd.underlying104
 have hu23 := Tryd.underlying23
 have hu29 := Tryd.underlying29
 have hu65 := Tryd.underlying65
 have hu63 := Tryd.underlying63
 have hu39 := Tryd.underlying39
 have hu87 := Tryd.underlying87
 have HB := Aside0.mk (Below.refl w.heap.size w)
 have HGSix := Aside0.mk hGSix
 clear hGSix
 have H : ((table_Rings.f k 2 111).bind fun t287 => ((table_Rings.f k 2 109).bind fun t288 => ((table_Rings.f k 2 112).bind fun t289 => ((XOf.f (([(⟨(⟨0, 0⟩ : S63), 0⟩ : S65), (⟨(⟨1, 0⟩ : S63), 0⟩ : S65)] : List (S65)))).bind fun t294 => ((XStep.f 1 (Go.bits .or .u64 (Go.bits .or .u64 t287 t288) t289) 0 0 0 t294).bind fun bt297 => (if bt297.2.isNone = true then (if (bt297.1.length : Int) = 2 then (if 0 < (bt297.1.length : Int) then (if ((((rd_T65 bt297.1 0).f0.f0) == 1 && (((rd_T65 bt297.1 0).f0.f1) == (-1))) && (((rd_T65 bt297.1 0).f1) == 0)) = true then (if 1 < (bt297.1.length : Int) then (some ((((rd_T65 bt297.1 1).f0.f0) == 0 && (((rd_T65 bt297.1 1).f0.f1) == 1)) && (((rd_T65 bt297.1 1).f1) == 0))) else (none)) else (some false)) else (none)) else (some false)) else (some false))))))) = some r := h
 clear h
 replace H := Option.bind_eq_some_iff.mp H
 obtain ⟨t287, A10, H⟩ := H
 replace H : ((table_Rings.f k 2 109).bind fun t288 => ((table_Rings.f k 2 112).bind fun t289 => ((XOf.f (([(⟨(⟨0, 0⟩ : S63), 0⟩ : S65), (⟨(⟨1, 0⟩ : S63), 0⟩ : S65)] : List (S65)))).bind fun t294 => ((XStep.f 1 (Go.bits .or .u64 (Go.bits .or .u64 t287 t288) t289) 0 0 0 t294).bind fun bt297 => (if bt297.2.isNone = true then (if (bt297.1.length : Int) = 2 then (if 0 < (bt297.1.length : Int) then (if ((((rd_T65 bt297.1 0).f0.f0) == 1 && (((rd_T65 bt297.1 0).f0.f1) == (-1))) && (((rd_T65 bt297.1 0).f1) == 0)) = true then (if 1 < (bt297.1.length : Int) then (some ((((rd_T65 bt297.1 1).f0.f0) == 0 && (((rd_T65 bt297.1 1).f0.f1) == 1)) && (((rd_T65 bt297.1 1).f1) == 0))) else (none)) else (some false)) else (none)) else (some false)) else (some false)))))) = some r := H
 have A1 := Aside0.mk A10
 clear A10
 replace H := Option.bind_eq_some_iff.mp H
 obtain ⟨t288, A20, H⟩ := H
 replace H : ((table_Rings.f k 2 112).bind fun t289 => ((XOf.f (([(⟨(⟨0, 0⟩ : S63), 0⟩ : S65), (⟨(⟨1, 0⟩ : S63), 0⟩ : S65)] : List (S65)))).bind fun t294 => ((XStep.f 1 (Go.bits .or .u64 (Go.bits .or .u64 t287 t288) t289) 0 0 0 t294).bind fun bt297 => (if bt297.2.isNone = true then (if (bt297.1.length : Int) = 2 then (if 0 < (bt297.1.length : Int) then (if ((((rd_T65 bt297.1 0).f0.f0) == 1 && (((rd_T65 bt297.1 0).f0.f1) == (-1))) && (((rd_T65 bt297.1 0).f1) == 0)) = true then (if 1 < (bt297.1.length : Int) then (some ((((rd_T65 bt297.1 1).f0.f0) == 0 && (((rd_T65 bt297.1 1).f0.f1) == 1)) && (((rd_T65 bt297.1 1).f1) == 0))) else (none)) else (some false)) else (none)) else (some false)) else (some false))))) = some r := H
 have A2 := Aside0.mk A20
 clear A20
 replace H := Option.bind_eq_some_iff.mp H
 obtain ⟨t289, A30, H⟩ := H
 replace H : ((XOf.f (([(⟨(⟨0, 0⟩ : S63), 0⟩ : S65), (⟨(⟨1, 0⟩ : S63), 0⟩ : S65)] : List (S65)))).bind fun t294 => ((XStep.f 1 (Go.bits .or .u64 (Go.bits .or .u64 t287 t288) t289) 0 0 0 t294).bind fun bt297 => (if bt297.2.isNone = true then (if (bt297.1.length : Int) = 2 then (if 0 < (bt297.1.length : Int) then (if ((((rd_T65 bt297.1 0).f0.f0) == 1 && (((rd_T65 bt297.1 0).f0.f1) == (-1))) && (((rd_T65 bt297.1 0).f1) == 0)) = true then (if 1 < (bt297.1.length : Int) then (some ((((rd_T65 bt297.1 1).f0.f0) == 0 && (((rd_T65 bt297.1 1).f0.f1) == 1)) && (((rd_T65 bt297.1 1).f1) == 0))) else (none)) else (some false)) else (none)) else (some false)) else (some false)))) = some r := H
 have A3 := Aside0.mk A30
 clear A30
 obtain ⟨y291, hy291⟩ : ∃ y_ : List (S65), y_ = (([(⟨(⟨0, 0⟩ : S63), 0⟩ : S65), (⟨(⟨1, 0⟩ : S63), 0⟩ : S65)] : List (S65))) := ⟨_, rfl⟩
 replace H : ((XOf.f y291).bind fun t294 => ((XStep.f 1 (Go.bits .or .u64 (Go.bits .or .u64 t287 t288) t289) 0 0 0 t294).bind fun bt297 => (if bt297.2.isNone = true then (if (bt297.1.length : Int) = 2 then (if 0 < (bt297.1.length : Int) then (if ((((rd_T65 bt297.1 0).f0.f0) == 1 && (((rd_T65 bt297.1 0).f0.f1) == (-1))) && (((rd_T65 bt297.1 0).f1) == 0)) = true then (if 1 < (bt297.1.length : Int) then (some ((((rd_T65 bt297.1 1).f0.f0) == 0 && (((rd_T65 bt297.1 1).f0.f1) == 1)) && (((rd_T65 bt297.1 1).f1) == 0))) else (none)) else (some false)) else (none)) else (some false)) else (some false)))) = some r := by first | (rw [hy291]; with_reducible exact H) | (have H2_ := (Option.bind_some _ _).symm.trans H; rw [hy291]; with_reducible exact H2_) | (have H2_ := (Option.bind_some _ _).symm.trans H; with_reducible exact H2_) | with_reducible exact H | (rw [hy291]; exact H) | exact H
 have Ny291 := Aside0.mk hy291
 clear hy291
 replace H := Option.bind_eq_some_iff.mp H
 obtain ⟨t294, A40, H⟩ := H
 replace H : ((XStep.f 1 (Go.bits .or .u64 (Go.bits .or .u64 t287 t288) t289) 0 0 0 t294).bind fun bt297 => (if bt297.2.isNone = true then (if (bt297.1.length : Int) = 2 then (if 0 < (bt297.1.length : Int) then (if ((((rd_T65 bt297.1 0).f0.f0) == 1 && (((rd_T65 bt297.1 0).f0.f1) == (-1))) && (((rd_T65 bt297.1 0).f1) == 0)) = true then (if 1 < (bt297.1.length : Int) then (some ((((rd_T65 bt297.1 1).f0.f0) == 0 && (((rd_T65 bt297.1 1).f0.f1) == 1)) && (((rd_T65 bt297.1 1).f1) == 0))) else (none)) else (some false)) else (none)) else (some false)) else (some false))) = some r := H
 have A4 := Aside0.mk A40
 clear A40
 replace H := Option.bind_eq_some_iff.mp H
 obtain ⟨⟨t297, t300⟩, A50, H⟩ := H
 replace H : (if t300.isNone = true then (if (t297.length : Int) = 2 then (if 0 < (t297.length : Int) then (if ((((rd_T65 t297 0).f0.f0) == 1 && (((rd_T65 t297 0).f0.f1) == (-1))) && (((rd_T65 t297 0).f1) == 0)) = true then (if 1 < (t297.length : Int) then (some ((((rd_T65 t297 1).f0.f0) == 0 && (((rd_T65 t297 1).f0.f1) == 1)) && (((rd_T65 t297 1).f1) == 0))) else (none)) else (some false)) else (none)) else (some false)) else (some false)) = some r := H
 have A5 := Aside0.mk A50
 clear A50
 rcases t300 with _ | q301
 ·
  have H1 : (if (t297.length : Int) = 2 then (if 0 < (t297.length : Int) then (if ((((rd_T65 t297 0).f0.f0) == 1 && (((rd_T65 t297 0).f0.f1) == (-1))) && (((rd_T65 t297 0).f1) == 0)) = true then (if 1 < (t297.length : Int) then (some ((((rd_T65 t297 1).f0.f0) == 0 && (((rd_T65 t297 1).f0.f1) == 1)) && (((rd_T65 t297 1).f1) == 0))) else (none)) else (some false)) else (none)) else (some false)) = some r := by rw [if_pos (show (none : Option Int).isNone = true by rfl)] at H; exact H
  clear H
  have H := H1
  clear H1
  try simp only [errW_none, errW_some]
  by_cases c6 : (t297.length : Int) = 2
  ·
   rw [if_pos c6] at H
   have c6b0 : ((t297.length : Int) == 2) = true := beq_iff_eq.mpr c6
   have c6b1 : ((t297.length : Int) != 2) = false := bne_eq_false_iff_eq.mpr c6
   clear c6
   by_cases c7 : 0 < (t297.length : Int)
   ·
    rw [if_pos c7] at H
    have c7b0 : decide (0 < (t297.length : Int)) = true := decide_eq_true c7
    have c7b1 : decide (0 < t297.length) = true := decide_eq_true (by omega)
    clear c7
    by_cases c8 : ((((rd_T65 t297 0).f0.f0) == 1 && (((rd_T65 t297 0).f0.f1) == (-1))) && (((rd_T65 t297 0).f1) == 0)) = true
    ·
     rw [if_pos c8] at H
     have c8b0 : ((((rd_T65 t297 0).f0.f0) == 1 && (((rd_T65 t297 0).f0.f1) == (-1))) && (((rd_T65 t297 0).f1) == 0)) = true := c8
     clear c8
     by_cases c9 : 1 < (t297.length : Int)
     ·
      rw [if_pos c9] at H
      have c9b0 : decide (1 < (t297.length : Int)) = true := decide_eq_true c9
      have c9b1 : decide (1 < t297.length) = true := decide_eq_true (by omega)
      clear c9
      obtain rfl := Option.some.inj H
      go_enter Tryd.func20, Tryd.ntmps20
      try go_wp2_with (first | ((with_reducible refine gate_callee (f := 59) rfl ?_); refine goesL_ (some 5) rfl rfl Tryd.func59 (by kernel_rfl) rfl #[.agg #[.int .i64 2, .int .u8 111]] rfl (by (try simp only [List.map_toArray, List.map_cons, List.map_nil]); first | done | rfl | (simp only [List.length_drop, List.length_take]; rfl)) ?_; (with_reducible refine (table_Rings.calls k 2 111 t287 _ A1.out).mono ?_); rintro e w10 ⟨rfl, hb⟩; refine ⟨_, rfl, ?_⟩; have n0_ := Aside0.mk (below_step (by repeat (first | (with_reducible first | exact HB.out | apply ba_ | apply bn_ | apply bd_) | exact HB.out)) hb); clear HB; have HB := n0_; clear n0_; (try clear hb); (try clear hb2); (try clear hk); (try clear hi)) | ((with_reducible refine gate_callee (f := 59) rfl ?_); refine goesL_ (some 7) rfl rfl Tryd.func59 (by kernel_rfl) rfl #[.agg #[.int .i64 2, .int .u8 109]] rfl (by (try simp only [List.map_toArray, List.map_cons, List.map_nil]); first | done | rfl | (simp only [List.length_drop, List.length_take]; rfl)) ?_; (with_reducible refine (table_Rings.calls k 2 109 t288 _ A2.out).mono ?_); rintro e w11 ⟨rfl, hb⟩; refine ⟨_, rfl, ?_⟩; have n0_ := Aside0.mk (below_step (by repeat (first | (with_reducible first | exact HB.out | apply ba_ | apply bn_ | apply bd_) | exact HB.out)) hb); clear HB; have HB := n0_; clear n0_; (try clear hb); (try clear hb2); (try clear hk); (try clear hi)) | ((with_reducible refine gate_callee (f := 59) rfl ?_); refine goesL_ (some 10) rfl rfl Tryd.func59 (by kernel_rfl) rfl #[.agg #[.int .i64 2, .int .u8 112]] rfl (by (try simp only [List.map_toArray, List.map_cons, List.map_nil]); first | done | rfl | (simp only [List.length_drop, List.length_take]; rfl)) ?_; (with_reducible refine (table_Rings.calls k 2 112 t289 _ A3.out).mono ?_); rintro e w12 ⟨rfl, hb⟩; refine ⟨_, rfl, ?_⟩; have n0_ := Aside0.mk (below_step (by repeat (first | (with_reducible first | exact HB.out | apply ba_ | apply bn_ | apply bd_) | exact HB.out)) hb); clear HB; have HB := n0_; clear n0_; (try clear hb); (try clear hb2); (try clear hk); (try clear hi)) | ((with_reducible refine gate_dst (N := 1) rfl ?_); (try (refine gate_guard (by rfl) ?_; dsimp only)); refine box_event ?hg (N := 1) ?hd (cs := #[.int .i64 0, .int .u64 0, .int .u64 0, .int .u64 0, .int .u64 0]) (t := 29) ?hr ?_; (case hd => rfl); (case hg => rfl); (case hr => first | (go_simp; done) | (go_simp; rfl)); intro gb290 hg w13 hbox hb; have n0_ := Aside0.mk (below_step (by repeat (first | (with_reducible first | exact HB.out | apply ba_ | apply bn_ | apply bd_) | exact HB.out)) hb); have n1_ := Aside0.mk (hbox); have n2_ := Aside0.mk ((by rw [hg]; exact (below_size (by repeat (first | (with_reducible first | exact HB.out | apply ba_ | apply bn_ | apply bd_) | exact HB.out))) : w.heap.size ≤ gb290)); have n3_ := Aside0.mk ((by rw [hg]; exact (below_size (by repeat (first | (with_reducible first | exact HB.out | apply ba_ | apply bn_ | apply bd_) | exact HB.out))) : w.heap.size ≤ gb290)); clear HB; have HB := n0_; have BK290 := n1_; have GW290 := n2_; have GE290 := n3_; clear n0_ n1_ n2_ n3_; clear hb hbox hg; have hcz14_0 : w13.cell? ⟨gb290, 0, none⟩ = some (.int .i64 0) := (blk_cell BK290.out 0).trans rfl; have hcz14_1 : w13.cell? ⟨gb290, 1, none⟩ = some (.int .u64 0) := (blk_cell BK290.out 1).trans rfl; have hcz14_2 : w13.cell? ⟨gb290, 2, none⟩ = some (.int .u64 0) := (blk_cell BK290.out 2).trans rfl; have hcz14_3 : w13.cell? ⟨gb290, 3, none⟩ = some (.int .u64 0) := (blk_cell BK290.out 3).trans rfl; have hcz14_4 : w13.cell? ⟨gb290, 4, none⟩ = some (.int .u64 0) := (blk_cell BK290.out 4).trans rfl; have hfz14_0 := blk_frozen BK290.out 0; have hfz14_1 := blk_frozen BK290.out 1; have hfz14_2 := blk_frozen BK290.out 2; have hfz14_3 := blk_frozen BK290.out 3; have hfz14_4 := blk_frozen BK290.out 4))
      have n0_ : Aside0 ((((((w13.setCell ⟨gb290, 0, none⟩ (.int .i64 1)).setCell ⟨gb290, 1, none⟩ (.int .u64 (Go.bits .or .u64 (Go.bits .or .u64 t287 t288) t289))).setCell ⟨gb290, 2, none⟩ (.int .u64 0)).setCell ⟨gb290, 3, none⟩ (.int .u64 0)).setCell ⟨gb290, 4, none⟩ (.int .u64 0)).heap[gb290]? = some (.cells #[.int .i64 1, .int .u64 (Go.bits .or .u64 (Go.bits .or .u64 t287 t288) t289), .int .u64 0, .int .u64 0, .int .u64 0] 29 (0, 0))) := ⟨by (with_reducible repeat (first | apply bN_ | apply bD_ | apply bA_)); refine blk_put (cs := #[.int .i64 1, .int .u64 (Go.bits .or .u64 (Go.bits .or .u64 t287 t288) t289), .int .u64 0, .int .u64 0, .int .u64 0]) ?_ 4 _ rfl; (with_reducible repeat (first | apply bN_ | apply bD_ | apply bA_)); refine blk_put (cs := #[.int .i64 1, .int .u64 (Go.bits .or .u64 (Go.bits .or .u64 t287 t288) t289), .int .u64 0, .int .u64 0, .int .u64 0]) ?_ 3 _ rfl; (with_reducible repeat (first | apply bN_ | apply bD_ | apply bA_)); refine blk_put (cs := #[.int .i64 1, .int .u64 (Go.bits .or .u64 (Go.bits .or .u64 t287 t288) t289), .int .u64 0, .int .u64 0, .int .u64 0]) ?_ 2 _ rfl; (with_reducible repeat (first | apply bN_ | apply bD_ | apply bA_)); refine blk_put (cs := #[.int .i64 1, .int .u64 0, .int .u64 0, .int .u64 0, .int .u64 0]) ?_ 1 _ rfl; (with_reducible repeat (first | apply bN_ | apply bD_ | apply bA_)); refine blk_put (cs := #[.int .i64 0, .int .u64 0, .int .u64 0, .int .u64 0, .int .u64 0]) ?_ 0 _ rfl; (with_reducible repeat (first | apply bN_ | apply bD_ | apply bA_)); exact BK290.out⟩
      have n1_ : Aside0 (Below w.heap.size w (((((w13.setCell ⟨gb290, 0, none⟩ (.int .i64 1)).setCell ⟨gb290, 1, none⟩ (.int .u64 (Go.bits .or .u64 (Go.bits .or .u64 t287 t288) t289))).setCell ⟨gb290, 2, none⟩ (.int .u64 0)).setCell ⟨gb290, 3, none⟩ (.int .u64 0)).setCell ⟨gb290, 4, none⟩ (.int .u64 0))) := ⟨by repeat (first | (with_reducible first | exact HB.out | apply ba_ | apply bn_ | apply bd_ | refine below_set ?_ GE290.out) | exact HB.out)⟩
      (try clear BK290)
      (try clear HB)
      generalize (((((w13.setCell ⟨gb290, 0, none⟩ (.int .i64 1)).setCell ⟨gb290, 1, none⟩ (.int .u64 (Go.bits .or .u64 (Go.bits .or .u64 t287 t288) t289))).setCell ⟨gb290, 2, none⟩ (.int .u64 0)).setCell ⟨gb290, 3, none⟩ (.int .u64 0)).setCell ⟨gb290, 4, none⟩ (.int .u64 0)) = w15 at n0_ n1_ ⊢
      have BK290 := n0_
      have HB := n1_
      clear n0_ n1_
      have n0_ := Aside0.mk (blk_drew BK290.out)
      have n1_ := Aside0.mk (below_drew1 HB.out)
      clear BK290
      clear HB
      have BK290 := n0_
      have HB := n1_
      clear n0_ n1_
      refine start_ (n := 12) (S := fun w' => w'.cell? ⟨gb290, 0, none⟩ = some (.int .i64 1) ∧ w'.cell? ⟨gb290, 1, none⟩ = some (.int .u64 (Go.bits .or .u64 (Go.bits .or .u64 t287 t288) t289)) ∧ w'.cell? ⟨gb290, 2, none⟩ = some (.int .u64 0) ∧ w'.cell? ⟨gb290, 3, none⟩ = some (.int .u64 0) ∧ w'.cell? ⟨gb290, 4, none⟩ = some (.int .u64 0)) (ds := []) #[false, false, false, false, false, false, false, false, false, false, false, false] (by kernel_rfl) rfl rfl ⟨(blk_cell BK290.out 0).trans rfl, (blk_cell BK290.out 1).trans rfl, (blk_cell BK290.out 2).trans rfl, (blk_cell BK290.out 3).trans rfl, (blk_cell BK290.out 4).trans rfl⟩ (fun hHeld => ?_); refine with_tabW honeycomblaw08_awake.tab2 honeycomblaw08_awake.bits2 (fun HT_ HW_ => ?_)
      generalize w15.drew = w16 at BK290 HB hHeld ⊢
      refine pure_ (i := 1) (N := some 16) (v := ?_) (a' := ?_) #[false, true, false, false, false, false, false, false, false, false, false, false] rfl rfl (any_of HT_.out (by kernel_rfl)) (fun _ _ _ h => h) (Or.inl ⟨by rfl, ?_⟩) ?_ ?_
      rotate_left
      ·
       intro w'
       go_simp
       with_reducible rfl
      rotate_left
      ·
       simp only [Act.put, List.setIfInBounds_toArray, List.set_cons_zero, List.set_cons_succ, i64_w, i32_w]
       rfl
      refine pure_ (i := 2) (N := some 17) (v := ?_) (a' := ?_) #[false, true, true, false, false, false, false, false, false, false, false, false] rfl rfl (any_of HT_.out (by kernel_rfl)) (fun _ _ _ h => h) (Or.inl ⟨by rfl, ?_⟩) ?_ ?_
      rotate_left
      ·
       intro w'
       go_simp
       with_reducible rfl
      rotate_left
      ·
       simp only [Act.put, List.setIfInBounds_toArray, List.set_cons_zero, List.set_cons_succ, i64_w, i32_w]
       rfl
      refine pure_ (i := 3) (N := some 18) (v := ?_) (a' := ?_) #[false, true, true, true, false, false, false, false, false, false, false, false] rfl rfl (any_of HT_.out (by kernel_rfl)) (fun _ _ _ h => h) (Or.inl ⟨by rfl, ?_⟩) ?_ ?_
      rotate_left
      ·
       intro w'
       go_simp
       with_reducible rfl
      rotate_left
      ·
       simp only [Act.put, List.setIfInBounds_toArray, List.set_cons_zero, List.set_cons_succ, i64_w, i32_w]
       rfl
      refine take_ (i := 0) (N := some 15) (v := ?_) (a' := ?_) #[true, true, true, true, false, false, false, false, false, false, false, false] rfl rfl (take_ofW HT_.out HW_.out (by kernel_rfl)) (fun _ _ _ h => h) (Or.inl ⟨by rfl, ?_⟩) hHeld ?_ ?_
      rotate_left
      ·
       rintro w' ⟨s0, s1, s2, s3, s4⟩
       go_simp
       with_reducible rfl
      rotate_left
      ·
       simp only [Act.put, List.setIfInBounds_toArray, List.set_cons_zero, List.set_cons_succ, i64_w, i32_w]
       rfl
      refine one_ (i := 4) (N := some 19) #[true, true, true, true, true, false, false, false, false, false, false, false] rfl rfl (one_of HT_.out (by kernel_rfl)) (by decide) (fun K hK => ?_)
      refine Kd.R_lit_step k65 _ 65 ?hg (N := 19) ?hd (xs := ([(⟨(⟨0, 0⟩ : S63), 0⟩ : S65), (⟨(⟨1, 0⟩ : S63), 0⟩ : S65)] : List (S65))) (inner := [.int .i64 0, .int .i64 0, .int .i64 0, .int .i64 1, .int .i64 0, .int .i64 0]) (ok := fun _ => True) (okp := fun _ => True) ?hr ?hp (fun _ hk => hk) trivial (Below.refl _ _) (Nat.le_refl _) (by simp) ?_; (case hd => rfl); (case hg => rfl); (case hr => first | (go_simp; done) | (go_simp; rfl)); (case hp => exact (Reps.c3 (show Kd.M k65 _ _ _ (⟨(⟨0, 0⟩ : S63), 0⟩ : S65) [.int .i64 0, .int .i64 0, .int .i64 0] from (k65_mkM _ _ _ (⟨(⟨0, 0⟩ : S63), 0⟩ : S65) )) (Reps.c3 (show Kd.M k65 _ _ _ (⟨(⟨1, 0⟩ : S63), 0⟩ : S65) [.int .i64 1, .int .i64 0, .int .i64 0] from (k65_mkM _ _ _ (⟨(⟨1, 0⟩ : S63), 0⟩ : S65) )) (Reps.none _ _))))
      intro v292 w17 ho18 hb hg_ hnew_
      clear hg_ hnew_
      (first | rw [← Ny291.out] at ho18 | (simp only [Int.reduceToNat] at ho18; rw [← Ny291.out] at ho18))
      have n0_ := Aside0.mk (Kd.R_lower ho18 (below_size (by repeat (first | (with_reducible first | exact HB.out | apply ba_ | apply bn_ | apply bd_ | refine below_set ?_ GE290.out) | exact HB.out))))
      have n1_ := Aside0.mk (blk_below (g := gb290) (o := .cells #[.int .i64 1, .int .u64 (Go.bits .or .u64 (Go.bits .or .u64 t287 t288) t289), .int .u64 0, .int .u64 0, .int .u64 0] 29 (0, 0)) (by (with_reducible repeat (first | apply bN_ | apply bD_ | apply bA_)); exact BK290.out) hb)
      have n2_ := Aside0.mk (below_step (by repeat (first | (with_reducible first | exact HB.out | apply ba_ | apply bn_ | apply bd_ | refine below_set ?_ GE290.out) | exact HB.out)) hb)
      clear BK290
      clear HB
      have HO293 := n0_
      have BK290 := n1_
      have HB := n2_
      clear n0_ n1_ n2_
      clear hb ho18
      obtain ⟨Ao19, co19, eo19⟩ := Kd.R_slice HO293.out
      (first | subst eo19 | (injection eo19 with f1_ f2_ f3_; have f4_ := f1_.symm; have f5_ := f3_.symm; clear f1_ f2_ f3_; subst f4_; subst f5_))
      refine hK.out _ _ ⟨(blk_cell BK290.out 0).trans rfl, (blk_cell BK290.out 1).trans rfl, (blk_cell BK290.out 2).trans rfl, (blk_cell BK290.out 3).trans rfl, (blk_cell BK290.out 4).trans rfl⟩ (fun hHeld => ?_)
      clear hK K
      refine norm_ (a' := ?_) ?_ ?_
      rotate_left
      ·
       show Act.put _ (some 19) _ = _
       simp only [Act.put, List.setIfInBounds_toArray, List.set_cons_zero, List.set_cons_succ, i64_w, i32_w]
       rfl
      refine one_ (i := 5) (N := some 20) #[true, true, true, true, true, true, false, false, false, false, false, false] rfl rfl (one_of HT_.out (by kernel_rfl)) (by decide) (fun K hK => ?_)
      refine goes_ Tryd.func37 (by kernel_rfl) rfl #[.slice Ao19 y291.length co19] (by rfl) rfl rfl (by (try simp only [List.map_toArray, List.map_cons, List.map_nil]); first | done | rfl | (simp only [List.length_drop, List.length_take]; rfl)) ?_
      with_reducible refine (XOf.calls _ _ y291 t294 _ ?side1 ?side2 A4.out).mono ?_
      (case side1 => repeat (first | exact (Kd.R_reads' HO293.out).2.2 | (with_reducible refine Kd.C_alloc ?_ _) | (with_reducible refine Kd.C_drewN ?_ _) | (with_reducible refine Kd.C_drew ?_)))
      (case side2 => exact (Kd.R_reads' HO293.out).2.1)
      rintro e w20 ⟨v295, rfl, ho0, hb⟩
      refine ⟨_, rfl, ?_⟩
      have n0_ := Aside0.mk (Kd.R_elder' (by (with_reducible repeat (first | apply Kd.R_alloc | apply Kd.R_drewN | apply Kd.R_drew)); exact HO293.out) (Kd.R_base ho0) hb)
      have n1_ := Aside0.mk (Kd.R_lower (Kd.R_new' ho0 (Kd.R_lt (by (with_reducible repeat (first | apply Kd.R_alloc | apply Kd.R_drewN | apply Kd.R_drew)); exact HO293.out))) (below_size (by repeat (first | (with_reducible first | exact HB.out | apply ba_ | apply bn_ | apply bd_ | refine below_set ?_ GE290.out) | exact HB.out))))
      have n2_ := Aside0.mk (blk_below (g := gb290) (o := .cells #[.int .i64 1, .int .u64 (Go.bits .or .u64 (Go.bits .or .u64 t287 t288) t289), .int .u64 0, .int .u64 0, .int .u64 0] 29 (0, 0)) (by (with_reducible repeat (first | apply bN_ | apply bD_ | apply bA_)); exact BK290.out) hb)
      have n3_ := Aside0.mk (below_step (by repeat (first | (with_reducible first | exact HB.out | apply ba_ | apply bn_ | apply bd_ | refine below_set ?_ GE290.out) | exact HB.out)) hb)
      clear HO293
      clear BK290
      clear HB
      have HO293 := n0_
      have HO296 := n1_
      have BK290 := n2_
      have HB := n3_
      clear n0_ n1_ n2_ n3_
      (try clear hb)
      (try clear hb2)
      (try clear hk)
      (try clear hi)
      (try clear ho0)
      obtain ⟨Ao21, co21, eo21⟩ := Kd.R_slice HO296.out
      (first | subst eo21 | (injection eo21 with f1_ f2_ f3_; have f4_ := f1_.symm; have f5_ := f3_.symm; clear f1_ f2_ f3_; subst f4_; subst f5_))
      refine hK.out _ _ ⟨(blk_cell BK290.out 0).trans rfl, (blk_cell BK290.out 1).trans rfl, (blk_cell BK290.out 2).trans rfl, (blk_cell BK290.out 3).trans rfl, (blk_cell BK290.out 4).trans rfl⟩ (fun hHeld => ?_)
      clear hK K
      refine norm_ (a' := ?_) ?_ ?_
      rotate_left
      ·
       show Act.put _ (some 20) _ = _
       simp only [Act.put, List.setIfInBounds_toArray, List.set_cons_zero, List.set_cons_succ, i64_w, i32_w]
       rfl
      refine one_ (i := 6) (N := some 21) #[true, true, true, true, true, true, true, false, false, false, false, false] rfl rfl (one_of HT_.out (by kernel_rfl)) (by decide) (fun K hK => ?_)
      refine goes_ Tryd.func24 (by kernel_rfl) rfl #[.agg #[.int .i64 1, .int .u64 (Go.bits .or .u64 (Go.bits .or .u64 t287 t288) t289), .int .u64 0, .int .u64 0, .int .u64 0], .slice Ao21 t294.length co21] (by rfl) rfl rfl (by (try simp only [List.map_toArray, List.map_cons, List.map_nil]); first | done | rfl | (simp only [List.length_drop, List.length_take]; rfl)) ?_
      with_reducible refine (XStep.calls 1 (Go.bits .or .u64 (Go.bits .or .u64 t287 t288) t289) 0 0 0 _ _ t294 t297 none _ ?side1 ?side2 ?side3 A5.out).mono ?_
      (case side1 => exact HGSix.out.below (by repeat (first | (with_reducible first | exact HB.out | apply ba_ | apply bn_ | apply bd_ | refine below_set ?_ GE290.out) | exact HB.out)))
      (case side2 => repeat (first | exact (Kd.R_reads' HO296.out).2.2 | (with_reducible refine Kd.C_alloc ?_ _) | (with_reducible refine Kd.C_drewN ?_ _) | (with_reducible refine Kd.C_drew ?_)))
      (case side3 => exact (Kd.R_reads' HO296.out).2.1)
      rintro e w22 ⟨v298, rfl, ho0, hb⟩
      refine ⟨_, rfl, ?_⟩
      have n0_ := Aside0.mk (Kd.R_elder' (by (with_reducible repeat (first | apply Kd.R_alloc | apply Kd.R_drewN | apply Kd.R_drew)); exact HO293.out) (Kd.R_base ho0) hb)
      have n1_ := Aside0.mk (Kd.R_elder' (by (with_reducible repeat (first | apply Kd.R_alloc | apply Kd.R_drewN | apply Kd.R_drew)); exact HO296.out) (Kd.R_base ho0) hb)
      have n2_ := Aside0.mk (Kd.R_lower (Kd.R_new' (Kd.R_new' ho0 (Kd.R_lt (by (with_reducible repeat (first | apply Kd.R_alloc | apply Kd.R_drewN | apply Kd.R_drew)); exact HO293.out))) (Kd.R_lt (by (with_reducible repeat (first | apply Kd.R_alloc | apply Kd.R_drewN | apply Kd.R_drew)); exact HO296.out))) (below_size (by repeat (first | (with_reducible first | exact HB.out | apply ba_ | apply bn_ | apply bd_ | refine below_set ?_ GE290.out) | exact HB.out))))
      have n3_ := Aside0.mk (blk_below (g := gb290) (o := .cells #[.int .i64 1, .int .u64 (Go.bits .or .u64 (Go.bits .or .u64 t287 t288) t289), .int .u64 0, .int .u64 0, .int .u64 0] 29 (0, 0)) (by (with_reducible repeat (first | apply bN_ | apply bD_ | apply bA_)); exact BK290.out) hb)
      have n4_ := Aside0.mk (below_step (by repeat (first | (with_reducible first | exact HB.out | apply ba_ | apply bn_ | apply bd_ | refine below_set ?_ GE290.out) | exact HB.out)) hb)
      clear HO293
      clear HO296
      clear BK290
      clear HB
      have HO293 := n0_
      have HO296 := n1_
      have HO299 := n2_
      have BK290 := n3_
      have HB := n4_
      clear n0_ n1_ n2_ n3_ n4_
      (try clear hb)
      (try clear hb2)
      (try clear hk)
      (try clear hi)
      (try clear ho0)
      (try simp only [errW_none, errW_some])
      refine hK.out _ _ ⟨(blk_cell BK290.out 0).trans rfl, (blk_cell BK290.out 1).trans rfl, (blk_cell BK290.out 2).trans rfl, (blk_cell BK290.out 3).trans rfl, (blk_cell BK290.out 4).trans rfl⟩ (fun hHeld => ?_)
      clear hK K
      refine norm_ (a' := ?_) ?_ ?_
      rotate_left
      ·
       show Act.put _ (some 21) _ = _
       simp only [Act.put, List.setIfInBounds_toArray, List.set_cons_zero, List.set_cons_succ, i64_w, i32_w]
       rfl
      refine pure_ (i := 7) (N := some 14) (v := ?_) (a' := ?_) #[true, true, true, true, true, true, true, true, false, false, false, false] rfl rfl (any_of HT_.out (by kernel_rfl)) (fun _ _ _ h => h) (Or.inl ⟨by rfl, ?_⟩) ?_ ?_
      rotate_left
      ·
       intro w'
       go_simp
       with_reducible rfl
      rotate_left
      ·
       simp only [Act.put, List.setIfInBounds_toArray, List.set_cons_zero, List.set_cons_succ, i64_w, i32_w]
       rfl
      refine pure_ (i := 8) (N := some 22) (v := ?_) (a' := ?_) #[true, true, true, true, true, true, true, true, true, false, false, false] rfl rfl (any_of HT_.out (by kernel_rfl)) (fun _ _ _ h => h) (Or.inl ⟨by rfl, ?_⟩) ?_ ?_
      rotate_left
      ·
       intro w'
       go_simp
       with_reducible rfl
      rotate_left
      ·
       simp only [Act.put, List.setIfInBounds_toArray, List.set_cons_zero, List.set_cons_succ, i64_w, i32_w]
       rfl
      refine pure_ (i := 9) (N := some 23) (v := ?_) (a' := ?_) #[true, true, true, true, true, true, true, true, true, true, false, false] rfl rfl (any_of HT_.out (by kernel_rfl)) (fun _ _ _ h => h) (Or.inl ⟨by rfl, ?_⟩) ?_ ?_
      rotate_left
      ·
       intro w'
       go_simp
       with_reducible rfl
      rotate_left
      ·
       simp only [Act.put, List.setIfInBounds_toArray, List.set_cons_zero, List.set_cons_succ, i64_w, i32_w]
       rfl
      refine pure_ (i := 10) (N := some 2) (v := ?_) (a' := ?_) #[true, true, true, true, true, true, true, true, true, true, true, false] rfl rfl (any_of HT_.out (by kernel_rfl)) (fun _ _ _ h => h) (Or.inl ⟨by rfl, ?_⟩) ?_ ?_
      rotate_left
      ·
       intro w'
       go_simp
       with_reducible rfl
      rotate_left
      ·
       simp only [Act.put, List.setIfInBounds_toArray, List.set_cons_zero, List.set_cons_succ, i64_w, i32_w]
       rfl
      refine pure_ (i := 11) (N := some 3) (v := ?_) (a' := ?_) #[true, true, true, true, true, true, true, true, true, true, true, true] rfl rfl (any_of HT_.out (by kernel_rfl)) (fun _ _ _ h => h) (Or.inl ⟨by rfl, ?_⟩) ?_ ?_
      rotate_left
      ·
       intro w'
       go_simp
       with_reducible rfl
      rotate_left
      ·
       simp only [Act.put, List.setIfInBounds_toArray, List.set_cons_zero, List.set_cons_succ, i64_w, i32_w]
       rfl
      refine done_ (done_of HT_.out (by kernel_rfl)) ?_
      obtain ⟨Ao23, co23, eo23⟩ := Kd.R_slice HO299.out
      subst eo23
      have p302 : 0 ≤ (0 : Int) := (by omega)
      have q302 : 0 < (t297.length : Int) := of_decide_eq_true (by first | (with_reducible assumption) | assumption)
      obtain ⟨ad302, e302, hx302_0, hx302_1, hx302_2⟩ := at_T65 (Kd.R_reads' HO299.out).2.2 0 p302 q302
      cases e302
      have qi302 : (0 < t297.length) = True := eq_true (by omega)
      (try rw [show ((0 : Int)).toNat = 0 from rfl] at hx302_0)
      (try rw [show 0 * 3 = 0 from rfl] at hx302_0)
      (try rw [Addr.add_zero'] at hx302_0)
      (try rw [show ((0 : Int)).toNat = 0 from rfl] at hx302_1)
      (try rw [show 0 * 3 = 0 from rfl] at hx302_1)
      (try rw [Addr.add_zero'] at hx302_1)
      (try rw [show ((0 : Int)).toNat = 0 from rfl] at hx302_2)
      (try rw [show 0 * 3 = 0 from rfl] at hx302_2)
      (try rw [Addr.add_zero'] at hx302_2)
      replace p302 := eq_true p302
      replace q302 := eq_true q302
      have p303 : 0 ≤ (1 : Int) := (by omega)
      have q303 : 1 < (t297.length : Int) := of_decide_eq_true (by first | (with_reducible assumption) | assumption)
      obtain ⟨ad303, e303, hx303_0, hx303_1, hx303_2⟩ := at_T65 (Kd.R_reads' HO299.out).2.2 1 p303 q303
      obtain rfl : ad302 = ad303 := (by injection e303)
      (try simp only [show (1 : Int).toNat = 1 from rfl, Nat.reduceMul, Nat.reduceEqDiff, Go.Addr.add, ↓reduceIte] at hx303_0)
      (try simp only [show (1 : Int).toNat = 1 from rfl, Nat.reduceMul, Nat.reduceEqDiff, Go.Addr.add, ↓reduceIte] at hx303_1)
      (try simp only [show (1 : Int).toNat = 1 from rfl, Nat.reduceMul, Nat.reduceEqDiff, Go.Addr.add, ↓reduceIte] at hx303_2)
      have qi303 : (1 < t297.length) = True := eq_true (by omega)
      (try rw [show ((1 : Int)).toNat = 1 from rfl] at hx303_0)
      (try rw [show 1 * 3 = 3 from rfl] at hx303_0)
      (try rw [show ((1 : Int)).toNat = 1 from rfl] at hx303_1)
      (try rw [show 1 * 3 = 3 from rfl] at hx303_1)
      (try rw [show ((1 : Int)).toNat = 1 from rfl] at hx303_2)
      (try rw [show 1 * 3 = 3 from rfl] at hx303_2)
      replace p303 := eq_true p303
      replace q303 := eq_true q303
      try go_wp2
      go_ret
      exact ⟨by first | rfl | (simp [errW_none, errW_some] <;> rfl) | (simp [*, errW_none, errW_some] <;> rfl), by repeat (first | (with_reducible first | exact HB.out | apply ba_ | apply bn_ | apply bd_ | refine below_set ?_ GE290.out) | exact HB.out)⟩
     ·
      rw [if_neg c9] at H
      exact absurd H (by simp)
    ·
     rw [if_neg c8] at H
     have c8b0 : ((((rd_T65 t297 0).f0.f0) == 1 && (((rd_T65 t297 0).f0.f1) == (-1))) && (((rd_T65 t297 0).f1) == 0)) = false := by simpa using c8
     clear c8
     exact absurd ((Option.some.inj H).trans Hr_.out) (by decide)
   ·
    rw [if_neg c7] at H
    exact absurd H (by simp)
  ·
   rw [if_neg c6] at H
   have c6b0 : ((t297.length : Int) == 2) = false := beq_eq_false_iff_ne.mpr c6
   have c6b1 : ((t297.length : Int) != 2) = true := bne_iff_ne.mpr c6
   exact absurd ((Option.some.inj H).trans Hr_.out) (by decide)
 ·
  have H1 : (some false) = some r := by rw [if_neg (show ¬ (some q301).isNone = true by simp)] at H; exact H
  clear H
  have H := H1
  clear H1
  try simp only [errW_none, errW_some]
  exact absurd ((Option.some.inj H).trans Hr_.out) (by decide)
end Go.Proofs.YtaeenefdbahfoaaDoor.H
namespace Go.Proofs.YtaeenefdbahfoaaDoor
set_option linter.unusedSimpArgs false
set_option linter.unusedVariables false
open Go.RowKit Go.Proofs.YtaeenefdbahfoaaDoorW.PrintWords Go.Proofs.YtaeenefdbahfoaaDoorW.PrintLast Go.Proofs.YtaeenefdbahfoaaDoorW.PrintMore
open H
open Go.RowKit
theorem ring_o : table_Rings.f 150 2 111 = some 281483583426632 := by decide +kernel
theorem ring_m : table_Rings.f 150 2 109 = some 1116692677664 := by decide +kernel
theorem ring_p : table_Rings.f 150 2 112 = some 68719739392 := by decide +kernel
theorem ring_all : Go.bits .or .u64 (Go.bits .or .u64 281483583426632 1116692677664) 68719739392 = 282668995843688 := by decide +kernel
def awS : List CL := [(⟨(⟨0, 0⟩ : S63), 0⟩ : CL), (⟨(⟨1, 0⟩ : S63), 0⟩ : CL)]
def awT : List CL := [(⟨(⟨1, -1⟩ : S63), 0⟩ : CL), (⟨(⟨0, 1⟩ : S63), 0⟩ : CL)]
theorem awS_srt : Srt awS := by decide
theorem awT_srt : Srt awT := by decide
theorem awT_sub : ∀ x ∈ awT, x ∈ nextRaw (nxtV 282668995843688 0 0 0) 1 awS := by decide +kernel
theorem awT_sup : ∀ x ∈ nextRaw (nxtV 282668995843688 0 0 0) 1 awS, x ∈ awT := by decide +kernel
theorem aw_next : nextL (nxtV 282668995843688 0 0 0) 1 awS = awT := srt_ext (ofL_srt _) awT_srt (fun x => by unfold nextL; rw [ofL_mem]; exact ⟨awT_sup x, awT_sub x⟩)
theorem aw_step : XStep.f 1 282668995843688 0 0 0 awS = some (awT, none) := by
  unfold XStep.f
  rw [if_pos ⟨by decide, by decide +kernel, awS_srt, by decide +kernel⟩, aw_next]
theorem awake8_f (K : Nat) (hK : 150 ≤ K) : honeycomblaw08_awake.f K = some true := by
  unfold honeycomblaw08_awake.f
  rw [leO_geG (g := fun k => table_Rings.f k 2 111) (fun k => table_Rings.mono _ _ k) ring_o K hK, leO_geG (g := fun k => table_Rings.f k 2 109) (fun k => table_Rings.mono _ _ k) ring_m K hK, leO_geG (g := fun k => table_Rings.f k 2 112) (fun k => table_Rings.mono _ _ k) ring_p K hK]
  simp only [Option.bind_some]
  rw [ring_all]
  have h1 : XOf.f [(⟨(⟨0, 0⟩ : S63), 0⟩ : CL), (⟨(⟨1, 0⟩ : S63), 0⟩ : CL)] = some awS := XOf_srt awS_srt (by decide)
  rw [h1]
  simp only [Option.bind_some]
  rw [aw_step]
  decide
end Go.Proofs.YtaeenefdbahfoaaDoor
namespace Go.Proofs.YtaeenefdbahfoaaDoor
set_option linter.unusedSimpArgs false
set_option linter.unusedVariables false
open Go.RowKit Go.Proofs.YtaeenefdbahfoaaDoorW.PrintWords Go.Proofs.YtaeenefdbahfoaaDoorW.PrintLast Go.Proofs.YtaeenefdbahfoaaDoorW.PrintMore
open H
open Go.RowKit
def XTold5.f (l b0 b1 s0 s1 : Int) : Option (Int × List Int × List Int) := some (l, [b0, b1], [s0, s1])
set_option maxRecDepth 100000 in
set_option maxHeartbeats 2000000 in
theorem told5_any (l b0 b1 s0 s1 : Int) (w : World) :
    Calls Tryd.prog 27 #[.agg #[.int .i64 l, .int .u64 b0, .int .u64 b1, .int .u64 s0, .int .u64 s1]] w fun e w' => ∃ g : Nat, e = .returned (.agg #[.int .i64 l, .slice (some ⟨g, 1, none⟩) 2 2, .slice (some ⟨g, 3, none⟩) 2 2]) ∧ w'.heap[g]? = some (.cells #[.int .i64 l, .int .u64 b0, .int .u64 b1, .int .u64 s0, .int .u64 s1] 29 (0, 0)) ∧ w.heap.size ≤ g ∧ Below w.heap.size w w' := by
  go_enter Tryd.func27, Tryd.ntmps27
  go_upto_region 1 with (fail)
  obtain ⟨w2, hw2⟩ : ∃ W, W = (w.alloc (.cells #[.int .i64 l, .int .u64 b0, .int .u64 b1, .int .u64 s0, .int .u64 s1] 29 (0, 0))).alloc (.cells #[.int .i64 0, .slice none 0 0, .slice none 0 0] 55 (0, 0)) := ⟨_, rfl⟩
  have t1 : w2.heap[w.heap.size]? = some (.cells #[.int .i64 l, .int .u64 b0, .int .u64 b1, .int .u64 s0, .int .u64 s1] 29 (0, 0)) := by rw [hw2]; exact blk_alloc (blk_new _ _) _
  have t2 : w2.heap[w.heap.size + 1]? = some (.cells #[.int .i64 0, .slice none 0 0, .slice none 0 0] 55 (0, 0)) := by
    have := blk_new (w.alloc (.cells #[.int .i64 l, .int .u64 b0, .int .u64 b1, .int .u64 s0, .int .u64 s1] 29 (0, 0))) (.cells #[.int .i64 0, .slice none 0 0, .slice none 0 0] 55 (0, 0))
    rw [World.size_alloc] at this
    rw [hw2]
    exact this
  have hB : Below w.heap.size w w2 := by rw [hw2]; exact below_alloc2 (below_alloc (Below.refl _ _) _) (by simp) _
  rw [← hw2]
  clear hw2
  have hz := hB.size
  have hB2 := Aside0.mk hB
  have T1 := Aside0.mk t1
  have T2 := Aside0.mk t2
  obtain ⟨g1, hg1⟩ : ∃ g, g = w.heap.size := ⟨_, rfl⟩
  obtain ⟨g2, hg2⟩ : ∃ g, g = w.heap.size + 1 := ⟨_, rfl⟩
  rw [← hg1] at t1 T1
  rw [← hg2] at t2 T2 ⊢
  rw [← hg1]
  have hne : g2 ≠ g1 := by omega
  have hne' : g1 ≠ g2 := by omega
  have hgz1 : w.heap.size ≤ g1 := by omega
  have hgz2 : w.heap.size ≤ g2 := by omega
  have q0 := blk_cell t1 0
  have c0 := blk_cell t2 0
  have c1 := blk_cell t2 1
  have c2 := blk_cell t2 2
  have f0 := blk_frozen t2 0
  have f1 := blk_frozen t2 1
  have f2 := blk_frozen t2 2
  simp only [List.getElem?_toArray, List.getElem?_cons_zero, List.getElem?_cons_succ] at q0 c0 c1 c2
  clear hg1 hg2 t1 t2 hB
  go_region
  all_goals
    clear q0 f0 f1 f2 c0 c1 c2
    go_wp2
    have hr := blk_set (blk_set (blk_set (blk_drew T2.out) 0 (.int .i64 l)) 1 (.slice (some ⟨g1, 1, none⟩) 2 2)) 2 (.slice (some ⟨g1, 3, none⟩) 2 2)
    refine bodyPost_ret (results_cell_row rfl _ _ g2 55 #[.int .i64 l, .slice (some ⟨g1, 1, none⟩) 2 2, .slice (some ⟨g1, 3, none⟩) 2 2] (0, 0) _ rfl hr Tryd.underlying55 rfl (by kernel_rfl)) rfl ⟨g1, rfl, ?_, hgz1, ?_⟩
    · exact (Below.heap_setCell _ ⟨g2, 2, none⟩ _ g1 hne').trans ((Below.heap_setCell _ ⟨g2, 1, none⟩ _ g1 hne').trans ((Below.heap_setCell _ ⟨g2, 0, none⟩ _ g1 hne').trans T1.out))
    · exact Below.setCell (p := ⟨g2, 2, none⟩) (Below.setCell (p := ⟨g2, 1, none⟩) (Below.setCell (p := ⟨g2, 0, none⟩) (below_drew hB2.out) hgz2 _) hgz2 _) hgz2 _
theorem V_two {w : World} {g o t : Nat} {cells : Array Value} {ok : Nat → Prop} (e base : Nat) (a b : Int) (hb : w.heap[g]? = some (.cells cells t (0, 0))) (h0 : cells[o]? = some (.int .u64 a)) (h1 : cells[o + 1]? = some (.int .u64 b)) (hok : ok g) :
    Kd.V (Kd.int .u64) e w base ok (.slice (some ⟨g, o, none⟩) 2 2) [a, b] := by
  refine ⟨some ⟨g, o, none⟩, 2, rfl, Nat.le_refl _, fun W hW => ?_⟩
  have hlt := blk_lt hb
  have hb2 : W.heap[g]? = some (.cells cells t (0, 0)) := (hW g hok hlt).trans hb
  have e0 : W.cell? ⟨g, o, none⟩ = some (.int .u64 a) := (blk_cell hb2 o).trans h0
  have e1 : W.cell? ⟨g, o + 1, none⟩ = some (.int .u64 b) := (blk_cell hb2 (o + 1)).trans h1
  refine ⟨rfl, by simp, fun _ => ⟨_, rfl, fun j p hp => ?_⟩⟩
  have : j = 0 ∨ j = 1 := by
    have := (List.getElem?_eq_some_iff.1 hp).1
    simp at this
    omega
  rcases this with rfl | rfl
  · obtain rfl : a = p := by simpa using hp
    refine ⟨[.int .u64 a], rfl, rfl, fun u v huv => ?_⟩
    have : u = 0 := by
      have := (List.getElem?_eq_some_iff.1 huv).1
      simp at this
      omega
    subst this
    obtain rfl : Value.int .u64 a = v := by simpa using huv
    exact e0
  · obtain rfl : b = p := by simpa using hp
    refine ⟨[.int .u64 b], rfl, rfl, fun u v huv => ?_⟩
    have : u = 0 := by
      have := (List.getElem?_eq_some_iff.1 huv).1
      simp at this
      omega
    subst this
    obtain rfl : Value.int .u64 b = v := by simpa using huv
    exact e1
theorem XTold5.calls (a0_0 a0_1 a0_2 a0_3 a0_4 : Int) (r1 : Int) (r2 r3 : List Int) (w : World) (h : XTold5.f a0_0 a0_1 a0_2 a0_3 a0_4 = some (r1, r2, r3)) :
    Calls Tryd.prog 27 #[.agg #[.int .i64 a0_0, .int .u64 a0_1, .int .u64 a0_2, .int .u64 a0_3, .int .u64 a0_4]] w fun e w' => ∃ v0_ v1_ : Value, e = .returned (.agg #[.int .i64 r1, v0_, v1_]) ∧ Kd.V (Kd.int .u64) 22 w' w.heap.size (fun k_ => w.heap.size ≤ k_) v0_ r2 ∧ Kd.V (Kd.int .u64) 22 w' w.heap.size (fun k_ => w.heap.size ≤ k_) v1_ r3 ∧ Below w.heap.size w w' := by
  simp only [XTold5.f, Option.some.injEq, Prod.mk.injEq] at h
  obtain ⟨rfl, rfl, rfl⟩ := h
  refine (told5_any a0_0 a0_1 a0_2 a0_3 a0_4 w).mono ?_
  rintro e w' ⟨g, rfl, hg, hgz, hb⟩
  exact ⟨_, _, rfl, V_two _ _ _ _ hg rfl rfl hgz, V_two _ _ _ _ hg rfl rfl hgz, hb⟩
end Go.Proofs.YtaeenefdbahfoaaDoor
namespace Go.Proofs.YtaeenefdbahfoaaDoor
set_option linter.unusedSimpArgs false
set_option linter.unusedVariables false
open Go.RowKit Go.Proofs.YtaeenefdbahfoaaDoorW.PrintWords Go.Proofs.YtaeenefdbahfoaaDoorW.PrintLast Go.Proofs.YtaeenefdbahfoaaDoorW.PrintMore
open H
open Go.RowKit
theorem refGood_f (a b : Int) : honeycombref01_Good.f a b = some (decide (goodP a b)) := by
  unfold honeycombref01_Good.f
  by_cases hg : goodP a b
  · rw [decide_eq_true hg]
    obtain ⟨h1, h2, h3, h4⟩ := hg
    rw [if_pos h2, if_pos h1, if_pos h4, decide_eq_true h3]
  · rw [decide_eq_false hg]
    simp only [goodP] at hg
    by_cases h1 : a ≤ 1099511627776
    · by_cases h2 : a ≥ -1099511627776
      · by_cases h3 : b ≤ 1099511627776
        · rw [if_pos h1, if_pos h2, if_pos h3, decide_eq_false (by omega)]
        · rw [if_pos h1, if_pos h2, if_neg h3]
      · rw [if_pos h1, if_neg h2]
    · rw [if_neg h1]
end Go.Proofs.YtaeenefdbahfoaaDoor
