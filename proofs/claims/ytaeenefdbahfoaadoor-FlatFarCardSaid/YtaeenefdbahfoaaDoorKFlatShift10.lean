/- FlatShift is true for every input, with what its row says of the package variables that it reads. Merged out of our texts: Hhoneycomblaw08awake, PAwake8, Hhoneycomblaw08FlatShift, PFlatShift, RowFlatShift. -/
import Derived.Test.YtaeenefdbahfoaaDoorKFlatShift8
import Derived.Test.YtaeenefdbahfoaaDoorKFlatShift1
import Derived.Test.YtaeenefdbahfoaaDoorKFlatShift3
import Derived.Test.YtaeenefdbahfoaaDoorKFlatShift9
import Derived.Test.YtaeenefdbahfoaaDoorKFlatShift6
import Derived.Test.YtaeenefdbahfoaaDoorKFlatShift7
import Derived.ChangeOld
import Derived.SizedLaws
import Derived.Test.YtaeenefdbahfoaaDoorCards
namespace Go.Proofs.YtaeenefdbahfoaaDoor.H
open Go.RowKit Go.Proofs.YtaeenefdbahfoaaDoorW.PrintWords Go.Proofs.YtaeenefdbahfoaaDoorW.PrintLast Go.Proofs.YtaeenefdbahfoaaDoorW.PrintMore
attribute [local go_sem] max2_int min2_int max_two min_two max_three min_three max_four min_four   -- for this text's walks alone
set_option linter.unusedVariables false
set_option linter.unusedSimpArgs false
attribute [local go_sem high] eqA65
def honeycomblaw08_awake.f (k : Nat)  : Option (Bool) := (table_Rings.f k 2 111).bind fun t287 => ((table_Rings.f k 2 109).bind fun t288 => ((table_Rings.f k 2 112).bind fun t289 => ((XOf.f (([(⟨(⟨0, 0⟩ : S63), 0⟩ : S65), (⟨(⟨1, 0⟩ : S63), 0⟩ : S65)] : List (S65)))).bind fun t294 => ((XStep.f 1 (Go.bits .or .u64 (Go.bits .or .u64 t287 t288) t289) 0 0 0 t294).bind fun bt297 => (if bt297.2.isNone = true then (if (bt297.1.length : Int) = 2 then (if 0 < (bt297.1.length : Int) then (if ((((rd_T65 bt297.1 0).f0.f0) == 1 && (((rd_T65 bt297.1 0).f0.f1) == (-1))) && (((rd_T65 bt297.1 0).f1) == 0)) = true then (if 1 < (bt297.1.length : Int) then (some ((((rd_T65 bt297.1 1).f0.f0) == 0 && (((rd_T65 bt297.1 1).f0.f1) == 1)) && (((rd_T65 bt297.1 1).f1) == 0))) else (none)) else (some false)) else (none)) else (some false)) else (some false))))))
theorem honeycomblaw08_awake.mono : ∀ k, LeO (honeycomblaw08_awake.f k ) (honeycomblaw08_awake.f (k + 1) ) := by
 intro  k
 unfold honeycomblaw08_awake.f
 repeat' first
   | (with_reducible exact table_Rings.mono _ _ _)
   | (with_reducible exact LeO.refl _)
   | (with_reducible exact LeO.none _)
   | (with_reducible refine LeO.ite ?_ ?_)
   | (with_reducible refine LeO.bind ?_ (fun _ => ?_))
   | exact table_Rings.mono _ _ _
   | exact LeO.none _
   | refine LeO.ite ?_ ?_
   | refine LeO.bind ?_ (fun _ => ?_)
def honeycomblaw08_awake.T2 : Bool × List (List Nat × List Nat) := (true, [([], []), ([], []), ([], []), ([2], [2]), ([1, 3], [1, 3]), ([4], [4]), ([0, 5, 5], [0, 5]), ([6], [6]), ([7], [7]), ([7], [7]), ([8, 6, 0, 1, 2, 3, 4, 5, 6, 7, 8], [8]), ([9, 10, 0, 1, 2, 3, 4, 5, 6, 7, 8, 9, 10], [9])])
def honeycomblaw08_awake.B2 : List Nat := [0, 0, 0, 4, 14, 30, 63, 127, 255, 255, 511, 2047]
theorem honeycomblaw08_awake.tab2 : rtab .any (opsOf Tryd.f20 2) = honeycomblaw08_awake.T2 := by kernel_rfl
theorem honeycomblaw08_awake.bits2 : waitsOk honeycomblaw08_awake.T2.2 honeycomblaw08_awake.B2 = true := by kernel_rfl
set_option maxHeartbeats 8000000 in
set_option maxRecDepth 100000 in
theorem honeycomblaw08_awake.calls (k : Nat)  (r : Bool) (w : World) (hGSix : Six w) (h : honeycomblaw08_awake.f k  = some r) (hr_ : r = true) :
  Calls Tryd.prog 20 #[] w fun e w' => e = .returned (.bool r) ∧ Below w.heap.size w w' := by
 have Hr_ := Aside0.mk hr_
 clear hr_
 have hu104 := Tryd.underlying104
 have hu23 := Tryd.underlying23
 have hu29 := Tryd.underlying29
 have hu65 := Tryd.underlying65
 have hu63 := Tryd.underlying63
 have hu39 := Tryd.underlying39
 have hu87 := Tryd.underlying87
 have HB := Aside0.mk (Below.refl w.heap.size w)
 have HGSix := Aside0.mk hGSix
 clear hGSix
 have H : ((table_Rings.f k 2 111).bind fun t287 => ((table_Rings.f k 2 109).bind fun t288 => ((table_Rings.f k 2 112).bind fun t289 => ((XOf.f (([(⟨(⟨0, 0⟩ : S63), 0⟩ : S65), (⟨(⟨1, 0⟩ : S63), 0⟩ : S65)] : List (S65)))).bind fun t294 => ((XStep.f 1 (Go.bits .or .u64 (Go.bits .or .u64 t287 t288) t289) 0 0 0 t294).bind fun bt297 => (if bt297.2.isNone = true then (if (bt297.1.length : Int) = 2 then (if 0 < (bt297.1.length : Int) then (if ((((rd_T65 bt297.1 0).f0.f0) == 1 && (((rd_T65 bt297.1 0).f0.f1) == (-1))) && (((rd_T65 bt297.1 0).f1) == 0)) = true then (if 1 < (bt297.1.length : Int) then (some ((((rd_T65 bt297.1 1).f0.f0) == 0 && (((rd_T65 bt297.1 1).f0.f1) == 1)) && (((rd_T65 bt297.1 1).f1) == 0))) else (none)) else (some false)) else (none)) else (some false)) else (some false))))))) = some r := h
 clear h
 replace H := Option.bind_eq_some_iff.mp H
 obtain ⟨t287, A10, H⟩ := H
 replace H : ((table_Rings.f k 2 109).bind fun t288 => ((table_Rings.f k 2 112).bind fun t289 => ((XOf.f (([(⟨(⟨0, 0⟩ : S63), 0⟩ : S65), (⟨(⟨1, 0⟩ : S63), 0⟩ : S65)] : List (S65)))).bind fun t294 => ((XStep.f 1 (Go.bits .or .u64 (Go.bits .or .u64 t287 t288) t289) 0 0 0 t294).bind fun bt297 => (if bt297.2.isNone = true then (if (bt297.1.length : Int) = 2 then (if 0 < (bt297.1.length : Int) then (if ((((rd_T65 bt297.1 0).f0.f0) == 1 && (((rd_T65 bt297.1 0).f0.f1) == (-1))) && (((rd_T65 bt297.1 0).f1) == 0)) = true then (if 1 < (bt297.1.length : Int) then (some ((((rd_T65 bt297.1 1).f0.f0) == 0 && (((rd_T65 bt297.1 1).f0.f1) == 1)) && (((rd_T65 bt297.1 1).f1) == 0))) else (none)) else (some false)) else (none)) else (some false)) else (some false)))))) = some r := H
 have A1 := Aside0.mk A10
 clear A10
 replace H := Option.bind_eq_some_iff.mp H
 obtain ⟨t288, A20, H⟩ := H
 replace H : ((table_Rings.f k 2 112).bind fun t289 => ((XOf.f (([(⟨(⟨0, 0⟩ : S63), 0⟩ : S65), (⟨(⟨1, 0⟩ : S63), 0⟩ : S65)] : List (S65)))).bind fun t294 => ((XStep.f 1 (Go.bits .or .u64 (Go.bits .or .u64 t287 t288) t289) 0 0 0 t294).bind fun bt297 => (if bt297.2.isNone = true then (if (bt297.1.length : Int) = 2 then (if 0 < (bt297.1.length : Int) then (if ((((rd_T65 bt297.1 0).f0.f0) == 1 && (((rd_T65 bt297.1 0).f0.f1) == (-1))) && (((rd_T65 bt297.1 0).f1) == 0)) = true then (if 1 < (bt297.1.length : Int) then (some ((((rd_T65 bt297.1 1).f0.f0) == 0 && (((rd_T65 bt297.1 1).f0.f1) == 1)) && (((rd_T65 bt297.1 1).f1) == 0))) else (none)) else (some false)) else (none)) else (some false)) else (some false))))) = some r := H
 have A2 := Aside0.mk A20
 clear A20
 replace H := Option.bind_eq_some_iff.mp H
 obtain ⟨t289, A30, H⟩ := H
 replace H : ((XOf.f (([(⟨(⟨0, 0⟩ : S63), 0⟩ : S65), (⟨(⟨1, 0⟩ : S63), 0⟩ : S65)] : List (S65)))).bind fun t294 => ((XStep.f 1 (Go.bits .or .u64 (Go.bits .or .u64 t287 t288) t289) 0 0 0 t294).bind fun bt297 => (if bt297.2.isNone = true then (if (bt297.1.length : Int) = 2 then (if 0 < (bt297.1.length : Int) then (if ((((rd_T65 bt297.1 0).f0.f0) == 1 && (((rd_T65 bt297.1 0).f0.f1) == (-1))) && (((rd_T65 bt297.1 0).f1) == 0)) = true then (if 1 < (bt297.1.length : Int) then (some ((((rd_T65 bt297.1 1).f0.f0) == 0 && (((rd_T65 bt297.1 1).f0.f1) == 1)) && (((rd_T65 bt297.1 1).f1) == 0))) else (none)) else (some false)) else (none)) else (some false)) else (some false)))) = some r := H
 have A3 := Aside0.mk A30
 clear A30
 obtain ⟨y291, hy291⟩ : ∃ y_ : List (S65), y_ = (([(⟨(⟨0, 0⟩ : S63), 0⟩ : S65), (⟨(⟨1, 0⟩ : S63), 0⟩ : S65)] : List (S65))) := ⟨_, rfl⟩
 replace H : ((XOf.f y291).bind fun t294 => ((XStep.f 1 (Go.bits .or .u64 (Go.bits .or .u64 t287 t288) t289) 0 0 0 t294).bind fun bt297 => (if bt297.2.isNone = true then (if (bt297.1.length : Int) = 2 then (if 0 < (bt297.1.length : Int) then (if ((((rd_T65 bt297.1 0).f0.f0) == 1 && (((rd_T65 bt297.1 0).f0.f1) == (-1))) && (((rd_T65 bt297.1 0).f1) == 0)) = true then (if 1 < (bt297.1.length : Int) then (some ((((rd_T65 bt297.1 1).f0.f0) == 0 && (((rd_T65 bt297.1 1).f0.f1) == 1)) && (((rd_T65 bt297.1 1).f1) == 0))) else (none)) else (some false)) else (none)) else (some false)) else (some false)))) = some r := by first | (rw [hy291]; with_reducible exact H) | (have H2_ := (Option.bind_some _ _).symm.trans H; rw [hy291]; with_reducible exact H2_) | (have H2_ := (Option.bind_some _ _).symm.trans H; with_reducible exact H2_) | with_reducible exact H | (rw [hy291]; exact H) | exact H
 have Ny291 := Aside0.mk hy291
 clear hy291
 replace H := Option.bind_eq_some_iff.mp H
 obtain ⟨t294, A40, H⟩ := H
 replace H : ((XStep.f 1 (Go.bits .or .u64 (Go.bits .or .u64 t287 t288) t289) 0 0 0 t294).bind fun bt297 => (if bt297.2.isNone = true then (if (bt297.1.length : Int) = 2 then (if 0 < (bt297.1.length : Int) then (if ((((rd_T65 bt297.1 0).f0.f0) == 1 && (((rd_T65 bt297.1 0).f0.f1) == (-1))) && (((rd_T65 bt297.1 0).f1) == 0)) = true then (if 1 < (bt297.1.length : Int) then (some ((((rd_T65 bt297.1 1).f0.f0) == 0 && (((rd_T65 bt297.1 1).f0.f1) == 1)) && (((rd_T65 bt297.1 1).f1) == 0))) else (none)) else (some false)) else (none)) else (some false)) else (some false))) = some r := H
 have A4 := Aside0.mk A40
 clear A40
 replace H := Option.bind_eq_some_iff.mp H
 obtain ⟨⟨t297, t300⟩, A50, H⟩ := H
 replace H : (if t300.isNone = true then (if (t297.length : Int) = 2 then (if 0 < (t297.length : Int) then (if ((((rd_T65 t297 0).f0.f0) == 1 && (((rd_T65 t297 0).f0.f1) == (-1))) && (((rd_T65 t297 0).f1) == 0)) = true then (if 1 < (t297.length : Int) then (some ((((rd_T65 t297 1).f0.f0) == 0 && (((rd_T65 t297 1).f0.f1) == 1)) && (((rd_T65 t297 1).f1) == 0))) else (none)) else (some false)) else (none)) else (some false)) else (some false)) = some r := H
 have A5 := Aside0.mk A50
 clear A50
 rcases t300 with _ | q301
 ·
  have H1 : (if (t297.length : Int) = 2 then (if 0 < (t297.length : Int) then (if ((((rd_T65 t297 0).f0.f0) == 1 && (((rd_T65 t297 0).f0.f1) == (-1))) && (((rd_T65 t297 0).f1) == 0)) = true then (if 1 < (t297.length : Int) then (some ((((rd_T65 t297 1).f0.f0) == 0 && (((rd_T65 t297 1).f0.f1) == 1)) && (((rd_T65 t297 1).f1) == 0))) else (none)) else (some false)) else (none)) else (some false)) = some r := by rw [if_pos (show (none : Option Int).isNone = true by rfl)] at H; exact H
  clear H
  have H := H1
  clear H1
  try simp only [errW_none, errW_some]
  by_cases c6 : (t297.length : Int) = 2
  ·
   rw [if_pos c6] at H
   have c6b0 : ((t297.length : Int) == 2) = true := beq_iff_eq.mpr c6
   have c6b1 : ((t297.length : Int) != 2) = false := bne_eq_false_iff_eq.mpr c6
   clear c6
   by_cases c7 : 0 < (t297.length : Int)
   ·
    rw [if_pos c7] at H
    have c7b0 : decide (0 < (t297.length : Int)) = true := decide_eq_true c7
    have c7b1 : decide (0 < t297.length) = true := decide_eq_true (by omega)
    clear c7
    by_cases c8 : ((((rd_T65 t297 0).f0.f0) == 1 && (((rd_T65 t297 0).f0.f1) == (-1))) && (((rd_T65 t297 0).f1) == 0)) = true
    ·
     rw [if_pos c8] at H
     have c8b0 : ((((rd_T65 t297 0).f0.f0) == 1 && (((rd_T65 t297 0).f0.f1) == (-1))) && (((rd_T65 t297 0).f1) == 0)) = true := c8
     clear c8
     by_cases c9 : 1 < (t297.length : Int)
     ·
      rw [if_pos c9] at H
      have c9b0 : decide (1 < (t297.length : Int)) = true := decide_eq_true c9
      have c9b1 : decide (1 < t297.length) = true := decide_eq_true (by omega)
      clear c9
      obtain rfl := Option.some.inj H
      go_enter Tryd.func20, Tryd.ntmps20
      try go_wp2_with (first | ((with_reducible refine gate_callee (f := 59) rfl ?_); refine goesL_ (some 5) rfl rfl Tryd.func59 (by kernel_rfl) rfl #[.agg #[.int .i64 2, .int .u8 111]] rfl (by (try simp only [List.map_toArray, List.map_cons, List.map_nil]); first | done | rfl | (simp only [List.length_drop, List.length_take]; rfl)) ?_; (with_reducible refine (table_Rings.calls k 2 111 t287 _ A1.out).mono ?_); rintro e w10 ⟨rfl, hb⟩; refine ⟨_, rfl, ?_⟩; have n0_ := Aside0.mk (below_step (by repeat (first | (with_reducible first | exact HB.out | apply ba_ | apply bn_ | apply bd_) | exact HB.out)) hb); clear HB; have HB := n0_; clear n0_; (try clear hb); (try clear hb2); (try clear hk); (try clear hi)) | ((with_reducible refine gate_callee (f := 59) rfl ?_); refine goesL_ (some 7) rfl rfl Tryd.func59 (by kernel_rfl) rfl #[.agg #[.int .i64 2, .int .u8 109]] rfl (by (try simp only [List.map_toArray, List.map_cons, List.map_nil]); first | done | rfl | (simp only [List.length_drop, List.length_take]; rfl)) ?_; (with_reducible refine (table_Rings.calls k 2 109 t288 _ A2.out).mono ?_); rintro e w11 ⟨rfl, hb⟩; refine ⟨_, rfl, ?_⟩; have n0_ := Aside0.mk (below_step (by repeat (first | (with_reducible first | exact HB.out | apply ba_ | apply bn_ | apply bd_) | exact HB.out)) hb); clear HB; have HB := n0_; clear n0_; (try clear hb); (try clear hb2); (try clear hk); (try clear hi)) | ((with_reducible refine gate_callee (f := 59) rfl ?_); refine goesL_ (some 10) rfl rfl Tryd.func59 (by kernel_rfl) rfl #[.agg #[.int .i64 2, .int .u8 112]] rfl (by (try simp only [List.map_toArray, List.map_cons, List.map_nil]); first | done | rfl | (simp only [List.length_drop, List.length_take]; rfl)) ?_; (with_reducible refine (table_Rings.calls k 2 112 t289 _ A3.out).mono ?_); rintro e w12 ⟨rfl, hb⟩; refine ⟨_, rfl, ?_⟩; have n0_ := Aside0.mk (below_step (by repeat (first | (with_reducible first | exact HB.out | apply ba_ | apply bn_ | apply bd_) | exact HB.out)) hb); clear HB; have HB := n0_; clear n0_; (try clear hb); (try clear hb2); (try clear hk); (try clear hi)) | ((with_reducible refine gate_dst (N := 1) rfl ?_); (try (refine gate_guard (by rfl) ?_; dsimp only)); refine box_event ?hg (N := 1) ?hd (cs := #[.int .i64 0, .int .u64 0, .int .u64 0, .int .u64 0, .int .u64 0]) (t := 29) ?hr ?_; (case hd => rfl); (case hg => rfl); (case hr => first | (go_simp; done) | (go_simp; rfl)); intro gb290 hg w13 hbox hb; have n0_ := Aside0.mk (below_step (by repeat (first | (with_reducible first | exact HB.out | apply ba_ | apply bn_ | apply bd_) | exact HB.out)) hb); have n1_ := Aside0.mk (hbox); have n2_ := Aside0.mk ((by rw [hg]; exact (below_size (by repeat (first | (with_reducible first | exact HB.out | apply ba_ | apply bn_ | apply bd_) | exact HB.out))) : w.heap.size ≤ gb290)); have n3_ := Aside0.mk ((by rw [hg]; exact (below_size (by repeat (first | (with_reducible first | exact HB.out | apply ba_ | apply bn_ | apply bd_) | exact HB.out))) : w.heap.size ≤ gb290)); clear HB; have HB := n0_; have BK290 := n1_; have GW290 := n2_; have GE290 := n3_; clear n0_ n1_ n2_ n3_; clear hb hbox hg; have hcz14_0 : w13.cell? ⟨gb290, 0, none⟩ = some (.int .i64 0) := (blk_cell BK290.out 0).trans rfl; have hcz14_1 : w13.cell? ⟨gb290, 1, none⟩ = some (.int .u64 0) := (blk_cell BK290.out 1).trans rfl; have hcz14_2 : w13.cell? ⟨gb290, 2, none⟩ = some (.int .u64 0) := (blk_cell BK290.out 2).trans rfl; have hcz14_3 : w13.cell? ⟨gb290, 3, none⟩ = some (.int .u64 0) := (blk_cell BK290.out 3).trans rfl; have hcz14_4 : w13.cell? ⟨gb290, 4, none⟩ = some (.int .u64 0) := (blk_cell BK290.out 4).trans rfl; have hfz14_0 := blk_frozen BK290.out 0; have hfz14_1 := blk_frozen BK290.out 1; have hfz14_2 := blk_frozen BK290.out 2; have hfz14_3 := blk_frozen BK290.out 3; have hfz14_4 := blk_frozen BK290.out 4))
      have n0_ : Aside0 ((((((w13.setCell ⟨gb290, 0, none⟩ (.int .i64 1)).setCell ⟨gb290, 1, none⟩ (.int .u64 (Go.bits .or .u64 (Go.bits .or .u64 t287 t288) t289))).setCell ⟨gb290, 2, none⟩ (.int .u64 0)).setCell ⟨gb290, 3, none⟩ (.int .u64 0)).setCell ⟨gb290, 4, none⟩ (.int .u64 0)).heap[gb290]? = some (.cells #[.int .i64 1, .int .u64 (Go.bits .or .u64 (Go.bits .or .u64 t287 t288) t289), .int .u64 0, .int .u64 0, .int .u64 0] 29 (0, 0))) := ⟨by (with_reducible repeat (first | apply bN_ | apply bD_ | apply bA_)); refine blk_put (cs := #[.int .i64 1, .int .u64 (Go.bits .or .u64 (Go.bits .or .u64 t287 t288) t289), .int .u64 0, .int .u64 0, .int .u64 0]) ?_ 4 _ rfl; (with_reducible repeat (first | apply bN_ | apply bD_ | apply bA_)); refine blk_put (cs := #[.int .i64 1, .int .u64 (Go.bits .or .u64 (Go.bits .or .u64 t287 t288) t289), .int .u64 0, .int .u64 0, .int .u64 0]) ?_ 3 _ rfl; (with_reducible repeat (first | apply bN_ | apply bD_ | apply bA_)); refine blk_put (cs := #[.int .i64 1, .int .u64 (Go.bits .or .u64 (Go.bits .or .u64 t287 t288) t289), .int .u64 0, .int .u64 0, .int .u64 0]) ?_ 2 _ rfl; (with_reducible repeat (first | apply bN_ | apply bD_ | apply bA_)); refine blk_put (cs := #[.int .i64 1, .int .u64 0, .int .u64 0, .int .u64 0, .int .u64 0]) ?_ 1 _ rfl; (with_reducible repeat (first | apply bN_ | apply bD_ | apply bA_)); refine blk_put (cs := #[.int .i64 0, .int .u64 0, .int .u64 0, .int .u64 0, .int .u64 0]) ?_ 0 _ rfl; (with_reducible repeat (first | apply bN_ | apply bD_ | apply bA_)); exact BK290.out⟩
      have n1_ : Aside0 (Below w.heap.size w (((((w13.setCell ⟨gb290, 0, none⟩ (.int .i64 1)).setCell ⟨gb290, 1, none⟩ (.int .u64 (Go.bits .or .u64 (Go.bits .or .u64 t287 t288) t289))).setCell ⟨gb290, 2, none⟩ (.int .u64 0)).setCell ⟨gb290, 3, none⟩ (.int .u64 0)).setCell ⟨gb290, 4, none⟩ (.int .u64 0))) := ⟨by repeat (first | (with_reducible first | exact HB.out | apply ba_ | apply bn_ | apply bd_ | refine below_set ?_ GE290.out) | exact HB.out)⟩
      (try clear BK290)
      (try clear HB)
      generalize (((((w13.setCell ⟨gb290, 0, none⟩ (.int .i64 1)).setCell ⟨gb290, 1, none⟩ (.int .u64 (Go.bits .or .u64 (Go.bits .or .u64 t287 t288) t289))).setCell ⟨gb290, 2, none⟩ (.int .u64 0)).setCell ⟨gb290, 3, none⟩ (.int .u64 0)).setCell ⟨gb290, 4, none⟩ (.int .u64 0)) = w15 at n0_ n1_ ⊢
      have BK290 := n0_
      have HB := n1_
      clear n0_ n1_
      have n0_ := Aside0.mk (blk_drew BK290.out)
      have n1_ := Aside0.mk (below_drew1 HB.out)
      clear BK290
      clear HB
      have BK290 := n0_
      have HB := n1_
      clear n0_ n1_
      refine start_ (n := 12) (S := fun w' => w'.cell? ⟨gb290, 0, none⟩ = some (.int .i64 1) ∧ w'.cell? ⟨gb290, 1, none⟩ = some (.int .u64 (Go.bits .or .u64 (Go.bits .or .u64 t287 t288) t289)) ∧ w'.cell? ⟨gb290, 2, none⟩ = some (.int .u64 0) ∧ w'.cell? ⟨gb290, 3, none⟩ = some (.int .u64 0) ∧ w'.cell? ⟨gb290, 4, none⟩ = some (.int .u64 0)) (ds := []) #[false, false, false, false, false, false, false, false, false, false, false, false] (by kernel_rfl) rfl rfl ⟨(blk_cell BK290.out 0).trans rfl, (blk_cell BK290.out 1).trans rfl, (blk_cell BK290.out 2).trans rfl, (blk_cell BK290.out 3).trans rfl, (blk_cell BK290.out 4).trans rfl⟩ (fun hHeld => ?_); refine with_tabW honeycomblaw08_awake.tab2 honeycomblaw08_awake.bits2 (fun HT_ HW_ => ?_)
      generalize w15.drew = w16 at BK290 HB hHeld ⊢
      refine pure_ (i := 1) (N := some 16) (v := ?_) (a' := ?_) #[false, true, false, false, false, false, false, false, false, false, false, false] rfl rfl (any_of HT_.out (by kernel_rfl)) (fun _ _ _ h => h) (Or.inl ⟨by rfl, ?_⟩) ?_ ?_
      rotate_left
      ·
       intro w'
       go_simp
       with_reducible rfl
      rotate_left
      ·
       simp only [Act.put, List.setIfInBounds_toArray, List.set_cons_zero, List.set_cons_succ, i64_w, i32_w]
       rfl
      refine pure_ (i := 2) (N := some 17) (v := ?_) (a' := ?_) #[false, true, true, false, false, false, false, false, false, false, false, false] rfl rfl (any_of HT_.out (by kernel_rfl)) (fun _ _ _ h => h) (Or.inl ⟨by rfl, ?_⟩) ?_ ?_
      rotate_left
      ·
       intro w'
       go_simp
       with_reducible rfl
      rotate_left
      ·
       simp only [Act.put, List.setIfInBounds_toArray, List.set_cons_zero, List.set_cons_succ, i64_w, i32_w]
       rfl
      refine pure_ (i := 3) (N := some 18) (v := ?_) (a' := ?_) #[false, true, true, true, false, false, false, false, false, false, false, false] rfl rfl (any_of HT_.out (by kernel_rfl)) (fun _ _ _ h => h) (Or.inl ⟨by rfl, ?_⟩) ?_ ?_
      rotate_left
      ·
       intro w'
       go_simp
       with_reducible rfl
      rotate_left
      ·
       simp only [Act.put, List.setIfInBounds_toArray, List.set_cons_zero, List.set_cons_succ, i64_w, i32_w]
       rfl
      refine take_ (i := 0) (N := some 15) (v := ?_) (a' := ?_) #[true, true, true, true, false, false, false, false, false, false, false, false] rfl rfl (take_ofW HT_.out HW_.out (by kernel_rfl)) (fun _ _ _ h => h) (Or.inl ⟨by rfl, ?_⟩) hHeld ?_ ?_
      rotate_left
      ·
       rintro w' ⟨s0, s1, s2, s3, s4⟩
       go_simp
       with_reducible rfl
      rotate_left
      ·
       simp only [Act.put, List.setIfInBounds_toArray, List.set_cons_zero, List.set_cons_succ, i64_w, i32_w]
       rfl
      refine one_ (i := 4) (N := some 19) #[true, true, true, true, true, false, false, false, false, false, false, false] rfl rfl (one_of HT_.out (by kernel_rfl)) (by decide) (fun K hK => ?_)
      refine Kd.R_lit_step k65 _ 65 ?hg (N := 19) ?hd (xs := ([(⟨(⟨0, 0⟩ : S63), 0⟩ : S65), (⟨(⟨1, 0⟩ : S63), 0⟩ : S65)] : List (S65))) (inner := [.int .i64 0, .int .i64 0, .int .i64 0, .int .i64 1, .int .i64 0, .int .i64 0]) (ok := fun _ => True) (okp := fun _ => True) ?hr ?hp (fun _ hk => hk) trivial (Below.refl _ _) (Nat.le_refl _) (by simp) ?_; (case hd => rfl); (case hg => rfl); (case hr => first | (go_simp; done) | (go_simp; rfl)); (case hp => exact (Reps.c3 (show Kd.M k65 _ _ _ (⟨(⟨0, 0⟩ : S63), 0⟩ : S65) [.int .i64 0, .int .i64 0, .int .i64 0] from (k65_mkM _ _ _ (⟨(⟨0, 0⟩ : S63), 0⟩ : S65) )) (Reps.c3 (show Kd.M k65 _ _ _ (⟨(⟨1, 0⟩ : S63), 0⟩ : S65) [.int .i64 1, .int .i64 0, .int .i64 0] from (k65_mkM _ _ _ (⟨(⟨1, 0⟩ : S63), 0⟩ : S65) )) (Reps.none _ _))))
      intro v292 w17 ho18 hb hg_ hnew_
      clear hg_ hnew_
      (first | rw [← Ny291.out] at ho18 | (simp only [Int.reduceToNat] at ho18; rw [← Ny291.out] at ho18))
      have n0_ := Aside0.mk (Kd.R_lower ho18 (below_size (by repeat (first | (with_reducible first | exact HB.out | apply ba_ | apply bn_ | apply bd_ | refine below_set ?_ GE290.out) | exact HB.out))))
      have n1_ := Aside0.mk (blk_below (g := gb290) (o := .cells #[.int .i64 1, .int .u64 (Go.bits .or .u64 (Go.bits .or .u64 t287 t288) t289), .int .u64 0, .int .u64 0, .int .u64 0] 29 (0, 0)) (by (with_reducible repeat (first | apply bN_ | apply bD_ | apply bA_)); exact BK290.out) hb)
      have n2_ := Aside0.mk (below_step (by repeat (first | (with_reducible first | exact HB.out | apply ba_ | apply bn_ | apply bd_ | refine below_set ?_ GE290.out) | exact HB.out)) hb)
      clear BK290
      clear HB
      have HO293 := n0_
      have BK290 := n1_
      have HB := n2_
      clear n0_ n1_ n2_
      clear hb ho18
      obtain ⟨Ao19, co19, eo19⟩ := Kd.R_slice HO293.out
      (first | subst eo19 | (injection eo19 with f1_ f2_ f3_; have f4_ := f1_.symm; have f5_ := f3_.symm; clear f1_ f2_ f3_; subst f4_; subst f5_))
      refine hK.out _ _ ⟨(blk_cell BK290.out 0).trans rfl, (blk_cell BK290.out 1).trans rfl, (blk_cell BK290.out 2).trans rfl, (blk_cell BK290.out 3).trans rfl, (blk_cell BK290.out 4).trans rfl⟩ (fun hHeld => ?_)
      clear hK K
      refine norm_ (a' := ?_) ?_ ?_
      rotate_left
      ·
       show Act.put _ (some 19) _ = _
       simp only [Act.put, List.setIfInBounds_toArray, List.set_cons_zero, List.set_cons_succ, i64_w, i32_w]
       rfl
      refine one_ (i := 5) (N := some 20) #[true, true, true, true, true, true, false, false, false, false, false, false] rfl rfl (one_of HT_.out (by kernel_rfl)) (by decide) (fun K hK => ?_)
      refine goes_ Tryd.func37 (by kernel_rfl) rfl #[.slice Ao19 y291.length co19] (by rfl) rfl rfl (by (try simp only [List.map_toArray, List.map_cons, List.map_nil]); first | done | rfl | (simp only [List.length_drop, List.length_take]; rfl)) ?_
      with_reducible refine (XOf.calls _ _ y291 t294 _ ?side1 ?side2 A4.out).mono ?_
      (case side1 => repeat (first | exact (Kd.R_reads' HO293.out).2.2 | (with_reducible refine Kd.C_alloc ?_ _) | (with_reducible refine Kd.C_drewN ?_ _) | (with_reducible refine Kd.C_drew ?_)))
      (case side2 => exact (Kd.R_reads' HO293.out).2.1)
      rintro e w20 ⟨v295, rfl, ho0, hb⟩
      refine ⟨_, rfl, ?_⟩
      have n0_ := Aside0.mk (Kd.R_elder' (by (with_reducible repeat (first | apply Kd.R_alloc | apply Kd.R_drewN | apply Kd.R_drew)); exact HO293.out) (Kd.R_base ho0) hb)
      have n1_ := Aside0.mk (Kd.R_lower (Kd.R_new' ho0 (Kd.R_lt (by (with_reducible repeat (first | apply Kd.R_alloc | apply Kd.R_drewN | apply Kd.R_drew)); exact HO293.out))) (below_size (by repeat (first | (with_reducible first | exact HB.out | apply ba_ | apply bn_ | apply bd_ | refine below_set ?_ GE290.out) | exact HB.out))))
      have n2_ := Aside0.mk (blk_below (g := gb290) (o := .cells #[.int .i64 1, .int .u64 (Go.bits .or .u64 (Go.bits .or .u64 t287 t288) t289), .int .u64 0, .int .u64 0, .int .u64 0] 29 (0, 0)) (by (with_reducible repeat (first | apply bN_ | apply bD_ | apply bA_)); exact BK290.out) hb)
      have n3_ := Aside0.mk (below_step (by repeat (first | (with_reducible first | exact HB.out | apply ba_ | apply bn_ | apply bd_ | refine below_set ?_ GE290.out) | exact HB.out)) hb)
      clear HO293
      clear BK290
      clear HB
      have HO293 := n0_
      have HO296 := n1_
      have BK290 := n2_
      have HB := n3_
      clear n0_ n1_ n2_ n3_
      (try clear hb)
      (try clear hb2)
      (try clear hk)
      (try clear hi)
      (try clear ho0)
      obtain ⟨Ao21, co21, eo21⟩ := Kd.R_slice HO296.out
      (first | subst eo21 | (injection eo21 with f1_ f2_ f3_; have f4_ := f1_.symm; have f5_ := f3_.symm; clear f1_ f2_ f3_; subst f4_; subst f5_))
      refine hK.out _ _ ⟨(blk_cell BK290.out 0).trans rfl, (blk_cell BK290.out 1).trans rfl, (blk_cell BK290.out 2).trans rfl, (blk_cell BK290.out 3).trans rfl, (blk_cell BK290.out 4).trans rfl⟩ (fun hHeld => ?_)
      clear hK K
      refine norm_ (a' := ?_) ?_ ?_
      rotate_left
      ·
       show Act.put _ (some 20) _ = _
       simp only [Act.put, List.setIfInBounds_toArray, List.set_cons_zero, List.set_cons_succ, i64_w, i32_w]
       rfl
      refine one_ (i := 6) (N := some 21) #[true, true, true, true, true, true, true, false, false, false, false, false] rfl rfl (one_of HT_.out (by kernel_rfl)) (by decide) (fun K hK => ?_)
      refine goes_ Tryd.func24 (by kernel_rfl) rfl #[.agg #[.int .i64 1, .int .u64 (Go.bits .or .u64 (Go.bits .or .u64 t287 t288) t289), .int .u64 0, .int .u64 0, .int .u64 0], .slice Ao21 t294.length co21] (by rfl) rfl rfl (by (try simp only [List.map_toArray, List.map_cons, List.map_nil]); first | done | rfl | (simp only [List.length_drop, List.length_take]; rfl)) ?_
      with_reducible refine (XStep.calls 1 (Go.bits .or .u64 (Go.bits .or .u64 t287 t288) t289) 0 0 0 _ _ t294 t297 none _ ?side1 ?side2 ?side3 A5.out).mono ?_
      (case side1 => exact HGSix.out.below (by repeat (first | (with_reducible first | exact HB.out | apply ba_ | apply bn_ | apply bd_ | refine below_set ?_ GE290.out) | exact HB.out)))
      (case side2 => repeat (first | exact (Kd.R_reads' HO296.out).2.2 | (with_reducible refine Kd.C_alloc ?_ _) | (with_reducible refine Kd.C_drewN ?_ _) | (with_reducible refine Kd.C_drew ?_)))
      (case side3 => exact (Kd.R_reads' HO296.out).2.1)
      rintro e w22 ⟨v298, rfl, ho0, hb⟩
      refine ⟨_, rfl, ?_⟩
      have n0_ := Aside0.mk (Kd.R_elder' (by (with_reducible repeat (first | apply Kd.R_alloc | apply Kd.R_drewN | apply Kd.R_drew)); exact HO293.out) (Kd.R_base ho0) hb)
      have n1_ := Aside0.mk (Kd.R_elder' (by (with_reducible repeat (first | apply Kd.R_alloc | apply Kd.R_drewN | apply Kd.R_drew)); exact HO296.out) (Kd.R_base ho0) hb)
      have n2_ := Aside0.mk (Kd.R_lower (Kd.R_new' (Kd.R_new' ho0 (Kd.R_lt (by (with_reducible repeat (first | apply Kd.R_alloc | apply Kd.R_drewN | apply Kd.R_drew)); exact HO293.out))) (Kd.R_lt (by (with_reducible repeat (first | apply Kd.R_alloc | apply Kd.R_drewN | apply Kd.R_drew)); exact HO296.out))) (below_size (by repeat (first | (with_reducible first | exact HB.out | apply ba_ | apply bn_ | apply bd_ | refine below_set ?_ GE290.out) | exact HB.out))))
      have n3_ := Aside0.mk (blk_below (g := gb290) (o := .cells #[.int .i64 1, .int .u64 (Go.bits .or .u64 (Go.bits .or .u64 t287 t288) t289), .int .u64 0, .int .u64 0, .int .u64 0] 29 (0, 0)) (by (with_reducible repeat (first | apply bN_ | apply bD_ | apply bA_)); exact BK290.out) hb)
      have n4_ := Aside0.mk (below_step (by repeat (first | (with_reducible first | exact HB.out | apply ba_ | apply bn_ | apply bd_ | refine below_set ?_ GE290.out) | exact HB.out)) hb)
      clear HO293
      clear HO296
      clear BK290
      clear HB
      have HO293 := n0_
      have HO296 := n1_
      have HO299 := n2_
      have BK290 := n3_
      have HB := n4_
      clear n0_ n1_ n2_ n3_ n4_
      (try clear hb)
      (try clear hb2)
      (try clear hk)
      (try clear hi)
      (try clear ho0)
      (try simp only [errW_none, errW_some])
      refine hK.out _ _ ⟨(blk_cell BK290.out 0).trans rfl, (blk_cell BK290.out 1).trans rfl, (blk_cell BK290.out 2).trans rfl, (blk_cell BK290.out 3).trans rfl, (blk_cell BK290.out 4).trans rfl⟩ (fun hHeld => ?_)
      clear hK K
      refine norm_ (a' := ?_) ?_ ?_
      rotate_left
      ·
       show Act.put _ (some 21) _ = _
       simp only [Act.put, List.setIfInBounds_toArray, List.set_cons_zero, List.set_cons_succ, i64_w, i32_w]
       rfl
      refine pure_ (i := 7) (N := some 14) (v := ?_) (a' := ?_) #[true, true, true, true, true, true, true, true, false, false, false, false] rfl rfl (any_of HT_.out (by kernel_rfl)) (fun _ _ _ h => h) (Or.inl ⟨by rfl, ?_⟩) ?_ ?_
      rotate_left
      ·
       intro w'
       go_simp
       with_reducible rfl
      rotate_left
      ·
       simp only [Act.put, List.setIfInBounds_toArray, List.set_cons_zero, List.set_cons_succ, i64_w, i32_w]
       rfl
      refine pure_ (i := 8) (N := some 22) (v := ?_) (a' := ?_) #[true, true, true, true, true, true, true, true, true, false, false, false] rfl rfl (any_of HT_.out (by kernel_rfl)) (fun _ _ _ h => h) (Or.inl ⟨by rfl, ?_⟩) ?_ ?_
      rotate_left
      ·
       intro w'
       go_simp
       with_reducible rfl
      rotate_left
      ·
       simp only [Act.put, List.setIfInBounds_toArray, List.set_cons_zero, List.set_cons_succ, i64_w, i32_w]
       rfl
      refine pure_ (i := 9) (N := some 23) (v := ?_) (a' := ?_) #[true, true, true, true, true, true, true, true, true, true, false, false] rfl rfl (any_of HT_.out (by kernel_rfl)) (fun _ _ _ h => h) (Or.inl ⟨by rfl, ?_⟩) ?_ ?_
      rotate_left
      ·
       intro w'
       go_simp
       with_reducible rfl
      rotate_left
      ·
       simp only [Act.put, List.setIfInBounds_toArray, List.set_cons_zero, List.set_cons_succ, i64_w, i32_w]
       rfl
      refine pure_ (i := 10) (N := some 2) (v := ?_) (a' := ?_) #[true, true, true, true, true, true, true, true, true, true, true, false] rfl rfl (any_of HT_.out (by kernel_rfl)) (fun _ _ _ h => h) (Or.inl ⟨by rfl, ?_⟩) ?_ ?_
      rotate_left
      ·
       intro w'
       go_simp
       with_reducible rfl
      rotate_left
      ·
       simp only [Act.put, List.setIfInBounds_toArray, List.set_cons_zero, List.set_cons_succ, i64_w, i32_w]
       rfl
      refine pure_ (i := 11) (N := some 3) (v := ?_) (a' := ?_) #[true, true, true, true, true, true, true, true, true, true, true, true] rfl rfl (any_of HT_.out (by kernel_rfl)) (fun _ _ _ h => h) (Or.inl ⟨by rfl, ?_⟩) ?_ ?_
      rotate_left
      ·
       intro w'
       go_simp
       with_reducible rfl
      rotate_left
      ·
       simp only [Act.put, List.setIfInBounds_toArray, List.set_cons_zero, List.set_cons_succ, i64_w, i32_w]
       rfl
      refine done_ (done_of HT_.out (by kernel_rfl)) ?_
      obtain ⟨Ao23, co23, eo23⟩ := Kd.R_slice HO299.out
      subst eo23
      have p302 : 0 ≤ (0 : Int) := (by omega)
      have q302 : 0 < (t297.length : Int) := of_decide_eq_true (by first | (with_reducible assumption) | assumption)
      obtain ⟨ad302, e302, hx302_0, hx302_1, hx302_2⟩ := at_T65 (Kd.R_reads' HO299.out).2.2 0 p302 q302
      cases e302
      have qi302 : (0 < t297.length) = True := eq_true (by omega)
      (try rw [show ((0 : Int)).toNat = 0 from rfl] at hx302_0)
      (try rw [show 0 * 3 = 0 from rfl] at hx302_0)
      (try rw [Addr.add_zero'] at hx302_0)
      (try rw [show ((0 : Int)).toNat = 0 from rfl] at hx302_1)
      (try rw [show 0 * 3 = 0 from rfl] at hx302_1)
      (try rw [Addr.add_zero'] at hx302_1)
      (try rw [show ((0 : Int)).toNat = 0 from rfl] at hx302_2)
      (try rw [show 0 * 3 = 0 from rfl] at hx302_2)
      (try rw [Addr.add_zero'] at hx302_2)
      replace p302 := eq_true p302
      replace q302 := eq_true q302
      have p303 : 0 ≤ (1 : Int) := (by omega)
      have q303 : 1 < (t297.length : Int) := of_decide_eq_true (by first | (with_reducible assumption) | assumption)
      obtain ⟨ad303, e303, hx303_0, hx303_1, hx303_2⟩ := at_T65 (Kd.R_reads' HO299.out).2.2 1 p303 q303
      obtain rfl : ad302 = ad303 := (by injection e303)
      (try simp only [show (1 : Int).toNat = 1 from rfl, Nat.reduceMul, Nat.reduceEqDiff, Go.Addr.add, ↓reduceIte] at hx303_0)
      (try simp only [show (1 : Int).toNat = 1 from rfl, Nat.reduceMul, Nat.reduceEqDiff, Go.Addr.add, ↓reduceIte] at hx303_1)
      (try simp only [show (1 : Int).toNat = 1 from rfl, Nat.reduceMul, Nat.reduceEqDiff, Go.Addr.add, ↓reduceIte] at hx303_2)
      have qi303 : (1 < t297.length) = True := eq_true (by omega)
      (try rw [show ((1 : Int)).toNat = 1 from rfl] at hx303_0)
      (try rw [show 1 * 3 = 3 from rfl] at hx303_0)
      (try rw [show ((1 : Int)).toNat = 1 from rfl] at hx303_1)
      (try rw [show 1 * 3 = 3 from rfl] at hx303_1)
      (try rw [show ((1 : Int)).toNat = 1 from rfl] at hx303_2)
      (try rw [show 1 * 3 = 3 from rfl] at hx303_2)
      replace p303 := eq_true p303
      replace q303 := eq_true q303
      try go_wp2
      go_ret
      exact ⟨by first | rfl | (simp [errW_none, errW_some] <;> rfl) | (simp [*, errW_none, errW_some] <;> rfl), by repeat (first | (with_reducible first | exact HB.out | apply ba_ | apply bn_ | apply bd_ | refine below_set ?_ GE290.out) | exact HB.out)⟩
     ·
      rw [if_neg c9] at H
      exact absurd H (by simp)
    ·
     rw [if_neg c8] at H
     have c8b0 : ((((rd_T65 t297 0).f0.f0) == 1 && (((rd_T65 t297 0).f0.f1) == (-1))) && (((rd_T65 t297 0).f1) == 0)) = false := by simpa using c8
     clear c8
     exact absurd ((Option.some.inj H).trans Hr_.out) (by decide)
   ·
    rw [if_neg c7] at H
    exact absurd H (by simp)
  ·
   rw [if_neg c6] at H
   have c6b0 : ((t297.length : Int) == 2) = false := beq_eq_false_iff_ne.mpr c6
   have c6b1 : ((t297.length : Int) != 2) = true := bne_iff_ne.mpr c6
   exact absurd ((Option.some.inj H).trans Hr_.out) (by decide)
 ·
  have H1 : (some false) = some r := by rw [if_neg (show ¬ (some q301).isNone = true by simp)] at H; exact H
  clear H
  have H := H1
  clear H1
  try simp only [errW_none, errW_some]
  exact absurd ((Option.some.inj H).trans Hr_.out) (by decide)
end Go.Proofs.YtaeenefdbahfoaaDoor.H
namespace Go.Proofs.YtaeenefdbahfoaaDoor
open Go.RowKit Go.Proofs.YtaeenefdbahfoaaDoorW.PrintWords Go.Proofs.YtaeenefdbahfoaaDoorW.PrintLast Go.Proofs.YtaeenefdbahfoaaDoorW.PrintMore
open H
open Go.RowKit
theorem ring_o : table_Rings.f 150 2 111 = some 281483583426632 := by decide +kernel
theorem ring_m : table_Rings.f 150 2 109 = some 1116692677664 := by decide +kernel
theorem ring_p : table_Rings.f 150 2 112 = some 68719739392 := by decide +kernel
theorem ring_all : Go.bits .or .u64 (Go.bits .or .u64 281483583426632 1116692677664) 68719739392 = 282668995843688 := by decide +kernel
def awS : List CL := [(⟨(⟨0, 0⟩ : S63), 0⟩ : CL), (⟨(⟨1, 0⟩ : S63), 0⟩ : CL)]
def awT : List CL := [(⟨(⟨1, -1⟩ : S63), 0⟩ : CL), (⟨(⟨0, 1⟩ : S63), 0⟩ : CL)]
theorem awS_srt : Srt awS := by decide
theorem awT_srt : Srt awT := by decide
theorem awT_sub : ∀ x ∈ awT, x ∈ nextRaw (nxtV 282668995843688 0 0 0) 1 awS := by decide +kernel
theorem awT_sup : ∀ x ∈ nextRaw (nxtV 282668995843688 0 0 0) 1 awS, x ∈ awT := by decide +kernel
theorem aw_next : nextL (nxtV 282668995843688 0 0 0) 1 awS = awT := srt_ext (ofL_srt _) awT_srt (fun x => by unfold nextL; rw [ofL_mem]; exact ⟨awT_sup x, awT_sub x⟩)
theorem aw_step : XStep.f 1 282668995843688 0 0 0 awS = some (awT, none) := by
  unfold XStep.f
  rw [if_pos ⟨by decide, by decide +kernel, awS_srt, by decide +kernel⟩, aw_next]
theorem awake8_f (K : Nat) (hK : 150 ≤ K) : honeycomblaw08_awake.f K = some true := by
  unfold honeycomblaw08_awake.f
  rw [leO_geG (g := fun k => table_Rings.f k 2 111) (fun k => table_Rings.mono _ _ k) ring_o K hK, leO_geG (g := fun k => table_Rings.f k 2 109) (fun k => table_Rings.mono _ _ k) ring_m K hK, leO_geG (g := fun k => table_Rings.f k 2 112) (fun k => table_Rings.mono _ _ k) ring_p K hK]
  simp only [Option.bind_some]
  rw [ring_all]
  have h1 : XOf.f [(⟨(⟨0, 0⟩ : S63), 0⟩ : CL), (⟨(⟨1, 0⟩ : S63), 0⟩ : CL)] = some awS := XOf_srt awS_srt (by decide)
  rw [h1]
  simp only [Option.bind_some]
  rw [aw_step]
  decide
end Go.Proofs.YtaeenefdbahfoaaDoor
namespace Go.Proofs.YtaeenefdbahfoaaDoor.H
open Go.RowKit Go.Proofs.YtaeenefdbahfoaaDoorW.PrintWords Go.Proofs.YtaeenefdbahfoaaDoorW.PrintLast Go.Proofs.YtaeenefdbahfoaaDoorW.PrintMore
attribute [local go_sem] max2_int min2_int max_two min_two max_three min_three max_four min_four   -- for this text's walks alone
set_option linter.unusedVariables false
set_option linter.unusedSimpArgs false
def honeycomblaw08_FlatShift.f (k : Nat) (a0_0 : Int) (a0_1 : Int) (a0_2 : Int) (a0_3 : Int) (a0_4 : Int) (l1 : List (S60)) (a2 : Int) (a3_0 : Int) (a3_1 : Int) : Option (Bool) := (honeycomblaw08_awake.f k).bind fun t674 => (if t674 = true then ((XSome5.f a0_0 a0_1 a0_2 a0_3 a0_4).bind fun bt675 => ((honeycomblaw08_Few.f k bt675.1 l1).bind fun t681 => ((XShift.f t681 (Int.tmod a3_0 1000000) (Int.tmod a3_1 1000000)).bind fun bt684 => ((flat_Steps.f k bt675.1 bt675.2.1 bt675.2.2.1 bt675.2.2.2.1 bt675.2.2.2.2 bt684.1 (Int.tmod (Go.bits .and .i64 a2 255) 5)).bind fun bt688 => ((flat_Steps.f k bt675.1 bt675.2.1 bt675.2.2.1 bt675.2.2.2.1 bt675.2.2.2.2 t681 (Int.tmod (Go.bits .and .i64 a2 255) 5)).bind fun bt692 => ((XShift.f bt692.1 (Int.tmod a3_0 1000000) (Int.tmod a3_1 1000000)).bind fun bt696 => (if bt684.2.isNone = true then (if bt688.2.isNone = true then (if bt692.2.isNone = true then (if bt696.2.isNone = true then ((set_Set_Same.f k bt688.1 bt696.1).bind fun t704 => (some t704)) else (some false)) else (some false)) else (some false)) else (some false)))))))) else (some false))
theorem honeycomblaw08_FlatShift.mono : ∀ a0 a1 a2 a3 a4 a5 a6 a7 a8 k, LeO (honeycomblaw08_FlatShift.f k a0 a1 a2 a3 a4 a5 a6 a7 a8) (honeycomblaw08_FlatShift.f (k + 1) a0 a1 a2 a3 a4 a5 a6 a7 a8) := by
 intro a0 a1 a2 a3 a4 a5 a6 a7 a8 k
 unfold honeycomblaw08_FlatShift.f
 repeat' first
   | (with_reducible exact flat_Steps.mono _ _ _ _ _ _ _ _)
   | (with_reducible exact honeycomblaw08_Few.mono _ _ _)
   | (with_reducible exact honeycomblaw08_awake.mono _)
   | (with_reducible exact set_Set_Same.mono _ _ _)
   | (with_reducible exact LeO.refl _)
   | (with_reducible exact LeO.none _)
   | (with_reducible refine LeO.ite ?_ ?_)
   | (with_reducible refine LeO.bind ?_ (fun _ => ?_))
   | exact flat_Steps.mono _ _ _ _ _ _ _ _
   | exact honeycomblaw08_Few.mono _ _ _
   | exact honeycomblaw08_awake.mono _
   | exact set_Set_Same.mono _ _ _
   | exact LeO.none _
   | refine LeO.ite ?_ ?_
   | refine LeO.bind ?_ (fun _ => ?_)
set_option maxHeartbeats 8000000 in
set_option maxRecDepth 100000 in
theorem honeycomblaw08_FlatShift.calls (k : Nat) (a0_0 : Int) (a0_1 : Int) (a0_2 : Int) (a0_3 : Int) (a0_4 : Int) (A1 : Option Addr) (c1 : Nat) (l1 : List (S60)) (a2 : Int) (a3_0 : Int) (a3_1 : Int) (r : Bool) (w : World) (hGSix : Six w) (hr1 : Kd.C k60 w A1 l1.length l1) (hc1 : l1.length ≤ c1) (h : honeycomblaw08_FlatShift.f k a0_0 a0_1 a0_2 a0_3 a0_4 l1 a2 a3_0 a3_1 = some r) (hr_ : r = true) :
  Calls Tryd.prog 7 #[.agg #[.int .i64 a0_0, .int .u64 a0_1, .int .u64 a0_2, .int .u64 a0_3, .int .u64 a0_4], .slice A1 l1.length c1, .int .i64 a2, .agg #[.int .i64 a3_0, .int .i64 a3_1]] w fun e w' => e = .returned (.bool r) ∧ Below w.heap.size w w' := by
 have Hr_ := Aside0.mk hr_
 clear hr_
 have hu25 := Tryd.underlying25
 have hu63 := Tryd.underlying63
 have hu29 := Tryd.underlying29
 have hu39 := Tryd.underlying39
 have hu87 := Tryd.underlying87
 have HR1 := Aside0.mk hr1
 have HC1 := Aside0.mk hc1
 clear hr1 hc1
 have HB := Aside0.mk (Below.refl w.heap.size w)
 have HGSix := Aside0.mk hGSix
 clear hGSix
 have H : ((honeycomblaw08_awake.f k).bind fun t674 => (if t674 = true then ((XSome5.f a0_0 a0_1 a0_2 a0_3 a0_4).bind fun bt675 => ((honeycomblaw08_Few.f k bt675.1 l1).bind fun t681 => ((XShift.f t681 (Int.tmod a3_0 1000000) (Int.tmod a3_1 1000000)).bind fun bt684 => ((flat_Steps.f k bt675.1 bt675.2.1 bt675.2.2.1 bt675.2.2.2.1 bt675.2.2.2.2 bt684.1 (Int.tmod (Go.bits .and .i64 a2 255) 5)).bind fun bt688 => ((flat_Steps.f k bt675.1 bt675.2.1 bt675.2.2.1 bt675.2.2.2.1 bt675.2.2.2.2 t681 (Int.tmod (Go.bits .and .i64 a2 255) 5)).bind fun bt692 => ((XShift.f bt692.1 (Int.tmod a3_0 1000000) (Int.tmod a3_1 1000000)).bind fun bt696 => (if bt684.2.isNone = true then (if bt688.2.isNone = true then (if bt692.2.isNone = true then (if bt696.2.isNone = true then ((set_Set_Same.f k bt688.1 bt696.1).bind fun t704 => (some t704)) else (some false)) else (some false)) else (some false)) else (some false)))))))) else (some false))) = some r := h
 clear h
 replace H := Option.bind_eq_some_iff.mp H
 obtain ⟨t674, A50, H⟩ := H
 replace H : (if t674 = true then ((XSome5.f a0_0 a0_1 a0_2 a0_3 a0_4).bind fun bt675 => ((honeycomblaw08_Few.f k bt675.1 l1).bind fun t681 => ((XShift.f t681 (Int.tmod a3_0 1000000) (Int.tmod a3_1 1000000)).bind fun bt684 => ((flat_Steps.f k bt675.1 bt675.2.1 bt675.2.2.1 bt675.2.2.2.1 bt675.2.2.2.2 bt684.1 (Int.tmod (Go.bits .and .i64 a2 255) 5)).bind fun bt688 => ((flat_Steps.f k bt675.1 bt675.2.1 bt675.2.2.1 bt675.2.2.2.1 bt675.2.2.2.2 t681 (Int.tmod (Go.bits .and .i64 a2 255) 5)).bind fun bt692 => ((XShift.f bt692.1 (Int.tmod a3_0 1000000) (Int.tmod a3_1 1000000)).bind fun bt696 => (if bt684.2.isNone = true then (if bt688.2.isNone = true then (if bt692.2.isNone = true then (if bt696.2.isNone = true then ((set_Set_Same.f k bt688.1 bt696.1).bind fun t704 => (some t704)) else (some false)) else (some false)) else (some false)) else (some false)))))))) else (some false)) = some r := H
 have A5 := Aside0.mk A50
 clear A50
 by_cases c6 : t674 = true
 ·
  subst c6
  have H1 : ((XSome5.f a0_0 a0_1 a0_2 a0_3 a0_4).bind fun bt675 => ((honeycomblaw08_Few.f k bt675.1 l1).bind fun t681 => ((XShift.f t681 (Int.tmod a3_0 1000000) (Int.tmod a3_1 1000000)).bind fun bt684 => ((flat_Steps.f k bt675.1 bt675.2.1 bt675.2.2.1 bt675.2.2.2.1 bt675.2.2.2.2 bt684.1 (Int.tmod (Go.bits .and .i64 a2 255) 5)).bind fun bt688 => ((flat_Steps.f k bt675.1 bt675.2.1 bt675.2.2.1 bt675.2.2.2.1 bt675.2.2.2.2 t681 (Int.tmod (Go.bits .and .i64 a2 255) 5)).bind fun bt692 => ((XShift.f bt692.1 (Int.tmod a3_0 1000000) (Int.tmod a3_1 1000000)).bind fun bt696 => (if bt684.2.isNone = true then (if bt688.2.isNone = true then (if bt692.2.isNone = true then (if bt696.2.isNone = true then ((set_Set_Same.f k bt688.1 bt696.1).bind fun t704 => (some t704)) else (some false)) else (some false)) else (some false)) else (some false)))))))) = some r := by rw [if_pos rfl] at H; exact H
  clear H
  have H := H1
  clear H1
  replace H := Option.bind_eq_some_iff.mp H
  obtain ⟨⟨t675, t676, t677, t678, t679⟩, A70, H⟩ := H
  replace H : ((honeycomblaw08_Few.f k t675 l1).bind fun t681 => ((XShift.f t681 (Int.tmod a3_0 1000000) (Int.tmod a3_1 1000000)).bind fun bt684 => ((flat_Steps.f k t675 t676 t677 t678 t679 bt684.1 (Int.tmod (Go.bits .and .i64 a2 255) 5)).bind fun bt688 => ((flat_Steps.f k t675 t676 t677 t678 t679 t681 (Int.tmod (Go.bits .and .i64 a2 255) 5)).bind fun bt692 => ((XShift.f bt692.1 (Int.tmod a3_0 1000000) (Int.tmod a3_1 1000000)).bind fun bt696 => (if bt684.2.isNone = true then (if bt688.2.isNone = true then (if bt692.2.isNone = true then (if bt696.2.isNone = true then ((set_Set_Same.f k bt688.1 bt696.1).bind fun t704 => (some t704)) else (some false)) else (some false)) else (some false)) else (some false))))))) = some r := H
  have A7 := Aside0.mk A70
  clear A70
  replace H := Option.bind_eq_some_iff.mp H
  obtain ⟨t681, A80, H⟩ := H
  replace H : ((XShift.f t681 (Int.tmod a3_0 1000000) (Int.tmod a3_1 1000000)).bind fun bt684 => ((flat_Steps.f k t675 t676 t677 t678 t679 bt684.1 (Int.tmod (Go.bits .and .i64 a2 255) 5)).bind fun bt688 => ((flat_Steps.f k t675 t676 t677 t678 t679 t681 (Int.tmod (Go.bits .and .i64 a2 255) 5)).bind fun bt692 => ((XShift.f bt692.1 (Int.tmod a3_0 1000000) (Int.tmod a3_1 1000000)).bind fun bt696 => (if bt684.2.isNone = true then (if bt688.2.isNone = true then (if bt692.2.isNone = true then (if bt696.2.isNone = true then ((set_Set_Same.f k bt688.1 bt696.1).bind fun t704 => (some t704)) else (some false)) else (some false)) else (some false)) else (some false)))))) = some r := H
  have A8 := Aside0.mk A80
  clear A80
  replace H := Option.bind_eq_some_iff.mp H
  obtain ⟨⟨t684, t687⟩, A90, H⟩ := H
  replace H : ((flat_Steps.f k t675 t676 t677 t678 t679 t684 (Int.tmod (Go.bits .and .i64 a2 255) 5)).bind fun bt688 => ((flat_Steps.f k t675 t676 t677 t678 t679 t681 (Int.tmod (Go.bits .and .i64 a2 255) 5)).bind fun bt692 => ((XShift.f bt692.1 (Int.tmod a3_0 1000000) (Int.tmod a3_1 1000000)).bind fun bt696 => (if t687.isNone = true then (if bt688.2.isNone = true then (if bt692.2.isNone = true then (if bt696.2.isNone = true then ((set_Set_Same.f k bt688.1 bt696.1).bind fun t704 => (some t704)) else (some false)) else (some false)) else (some false)) else (some false))))) = some r := H
  have A9 := Aside0.mk A90
  clear A90
  replace H := Option.bind_eq_some_iff.mp H
  obtain ⟨⟨t688, t691⟩, A100, H⟩ := H
  replace H : ((flat_Steps.f k t675 t676 t677 t678 t679 t681 (Int.tmod (Go.bits .and .i64 a2 255) 5)).bind fun bt692 => ((XShift.f bt692.1 (Int.tmod a3_0 1000000) (Int.tmod a3_1 1000000)).bind fun bt696 => (if t687.isNone = true then (if t691.isNone = true then (if bt692.2.isNone = true then (if bt696.2.isNone = true then ((set_Set_Same.f k t688 bt696.1).bind fun t704 => (some t704)) else (some false)) else (some false)) else (some false)) else (some false)))) = some r := H
  have A10 := Aside0.mk A100
  clear A100
  replace H := Option.bind_eq_some_iff.mp H
  obtain ⟨⟨t692, t695⟩, A110, H⟩ := H
  replace H : ((XShift.f t692 (Int.tmod a3_0 1000000) (Int.tmod a3_1 1000000)).bind fun bt696 => (if t687.isNone = true then (if t691.isNone = true then (if t695.isNone = true then (if bt696.2.isNone = true then ((set_Set_Same.f k t688 bt696.1).bind fun t704 => (some t704)) else (some false)) else (some false)) else (some false)) else (some false))) = some r := H
  have A11 := Aside0.mk A110
  clear A110
  replace H := Option.bind_eq_some_iff.mp H
  obtain ⟨⟨t696, t699⟩, A120, H⟩ := H
  replace H : (if t687.isNone = true then (if t691.isNone = true then (if t695.isNone = true then (if t699.isNone = true then ((set_Set_Same.f k t688 t696).bind fun t704 => (some t704)) else (some false)) else (some false)) else (some false)) else (some false)) = some r := H
  have A12 := Aside0.mk A120
  clear A120
  rcases t687 with _ | q700
  ·
   have H1 : (if t691.isNone = true then (if t695.isNone = true then (if t699.isNone = true then ((set_Set_Same.f k t688 t696).bind fun t704 => (some t704)) else (some false)) else (some false)) else (some false)) = some r := by rw [if_pos (show (none : Option Int).isNone = true by rfl)] at H; exact H
   clear H
   have H := H1
   clear H1
   try simp only [errW_none, errW_some]
   rcases t691 with _ | q701
   ·
    have H1 : (if t695.isNone = true then (if t699.isNone = true then ((set_Set_Same.f k t688 t696).bind fun t704 => (some t704)) else (some false)) else (some false)) = some r := by rw [if_pos (show (none : Option Int).isNone = true by rfl)] at H; exact H
    clear H
    have H := H1
    clear H1
    try simp only [errW_none, errW_some]
    rcases t695 with _ | q702
    ·
     have H1 : (if t699.isNone = true then ((set_Set_Same.f k t688 t696).bind fun t704 => (some t704)) else (some false)) = some r := by rw [if_pos (show (none : Option Int).isNone = true by rfl)] at H; exact H
     clear H
     have H := H1
     clear H1
     try simp only [errW_none, errW_some]
     rcases t699 with _ | q703
     ·
      have H1 : ((set_Set_Same.f k t688 t696).bind fun t704 => (some t704)) = some r := by rw [if_pos (show (none : Option Int).isNone = true by rfl)] at H; exact H
      clear H
      have H := H1
      clear H1
      try simp only [errW_none, errW_some]
      replace H := Option.bind_eq_some_iff.mp H
      obtain ⟨t704, A130, H⟩ := H
      replace H : (some t704) = some r := H
      have A13 := Aside0.mk A130
      clear A130
      obtain rfl := Option.some.inj H
      go_enter Tryd.func7, Tryd.ntmps7
      go_wp2_with (first | ((with_reducible refine gate_dst (N := 4) rfl ?_); refine box_event ?hg (N := 4) ?hd (cs := #[.int .i64 a0_0, .int .u64 a0_1, .int .u64 a0_2, .int .u64 a0_3, .int .u64 a0_4]) (t := 25) ?hr ?_; (case hd => rfl); (case hg => rfl); (case hr => first | (go_simp; done) | (go_simp; rfl)); intro gb672 hg w14 hbox hb; have n0_ := Aside0.mk (below_step (by repeat (first | (with_reducible first | exact HB.out | apply ba_ | apply bn_ | apply bd_) | exact HB.out)) hb); have n1_ := Aside0.mk (hbox); have n2_ := Aside0.mk ((by rw [hg]; exact (below_size (by repeat (first | (with_reducible first | exact HB.out | apply ba_ | apply bn_ | apply bd_) | exact HB.out))) : w.heap.size ≤ gb672)); have n3_ := Aside0.mk ((by rw [hg]; exact (below_size (by repeat (first | (with_reducible first | exact HB.out | apply ba_ | apply bn_ | apply bd_) | exact HB.out))) : w.heap.size ≤ gb672)); clear HB; have HB := n0_; have BK672 := n1_; have GW672 := n2_; have GE672 := n3_; clear n0_ n1_ n2_ n3_; clear hb hbox hg) | ((with_reducible refine gate_dst (N := 7) rfl ?_); refine box_event ?hg (N := 7) ?hd (cs := #[.int .i64 a3_0, .int .i64 a3_1]) (t := 63) ?hr ?_; (case hd => rfl); (case hg => rfl); (case hr => first | (go_simp; done) | (go_simp; rfl)); intro gb673 hg w15 hbox hb; have n0_ := Aside0.mk (blk_below (g := gb672) (o := .cells #[.int .i64 a0_0, .int .u64 a0_1, .int .u64 a0_2, .int .u64 a0_3, .int .u64 a0_4] 25 (0, 0)) (by (with_reducible repeat (first | apply bN_ | apply bD_ | apply bA_)); exact BK672.out) hb); have n1_ := Aside0.mk (below_step (by repeat (first | (with_reducible first | exact HB.out | apply ba_ | apply bn_ | apply bd_ | refine below_set ?_ GE672.out) | exact HB.out)) hb); have n2_ := Aside0.mk (hbox); have n3_ := Aside0.mk ((by rw [hg]; exact (below_size (by repeat (first | (with_reducible first | exact HB.out | apply ba_ | apply bn_ | apply bd_ | refine below_set ?_ GE672.out) | exact HB.out))) : w.heap.size ≤ gb673)); have n4_ := Aside0.mk ((by rw [hg]; exact (below_size (by repeat (first | (with_reducible first | exact HB.out | apply ba_ | apply bn_ | apply bd_ | refine below_set ?_ GE672.out) | exact HB.out))) : w.heap.size ≤ gb673)); have n5_ := Aside0.mk ((by rw [hg]; exact Nat.ne_of_lt (blk_lt (g := gb672) (o := .cells #[.int .i64 a0_0, .int .u64 a0_1, .int .u64 a0_2, .int .u64 a0_3, .int .u64 a0_4] 25 (0, 0)) (by (with_reducible repeat (first | apply bN_ | apply bD_ | apply bA_)); exact BK672.out)) : gb672 ≠ gb673)); have n6_ := Aside0.mk ((by rw [hg]; exact Nat.ne_of_gt (blk_lt (g := gb672) (o := .cells #[.int .i64 a0_0, .int .u64 a0_1, .int .u64 a0_2, .int .u64 a0_3, .int .u64 a0_4] 25 (0, 0)) (by (with_reducible repeat (first | apply bN_ | apply bD_ | apply bA_)); exact BK672.out)) : gb673 ≠ gb672)); clear BK672; clear HB; have BK672 := n0_; have HB := n1_; have BK673 := n2_; have GW673 := n3_; have GE673 := n4_; have NB672_673 := n5_; have NB673_672 := n6_; clear n0_ n1_ n2_ n3_ n4_ n5_ n6_; clear hb hbox hg) | ((with_reducible refine gate_callee (f := 20) rfl ?_); refine goesL_ (some 19) rfl rfl Tryd.func20 (by kernel_rfl) rfl #[] rfl (by (try simp only [List.map_toArray, List.map_cons, List.map_nil]); first | done | rfl | (simp only [List.length_drop, List.length_take]; rfl)) ?_; (with_reducible refine (honeycomblaw08_awake.calls k  true _ ?side1 A5.out rfl).mono ?_); (case side1 => exact HGSix.out.below (by repeat (first | (with_reducible first | exact HB.out | apply ba_ | apply bn_ | apply bd_ | refine below_set ?_ GE672.out | refine below_set ?_ GE673.out) | exact HB.out))); rintro e w16 ⟨rfl, hb⟩; refine ⟨_, rfl, ?_⟩; have n0_ := Aside0.mk (blk_below (g := gb672) (o := .cells #[.int .i64 a0_0, .int .u64 a0_1, .int .u64 a0_2, .int .u64 a0_3, .int .u64 a0_4] 25 (0, 0)) (by (with_reducible repeat (first | apply bN_ | apply bD_ | apply bA_)); exact BK672.out) hb); have n1_ := Aside0.mk (blk_below (g := gb673) (o := .cells #[.int .i64 a3_0, .int .i64 a3_1] 63 (0, 0)) (by (with_reducible repeat (first | apply bN_ | apply bD_ | apply bA_)); exact BK673.out) hb); have n2_ := Aside0.mk (below_step (by repeat (first | (with_reducible first | exact HB.out | apply ba_ | apply bn_ | apply bd_ | refine below_set ?_ GE672.out | refine below_set ?_ GE673.out) | exact HB.out)) hb); clear BK672; clear BK673; clear HB; have BK672 := n0_; have BK673 := n1_; have HB := n2_; clear n0_ n1_ n2_; (try clear hb); (try clear hb2); (try clear hk); (try clear hi); have hnb17 := NB672_673.out; have hnc17 := NB673_672.out; have hcz18_0 : w16.cell? ⟨gb672, 0, none⟩ = some (.int .i64 a0_0) := (blk_cell BK672.out 0).trans rfl; have hcz18_1 : w16.cell? ⟨gb672, 1, none⟩ = some (.int .u64 a0_1) := (blk_cell BK672.out 1).trans rfl; have hcz18_2 : w16.cell? ⟨gb672, 2, none⟩ = some (.int .u64 a0_2) := (blk_cell BK672.out 2).trans rfl; have hcz18_3 : w16.cell? ⟨gb672, 3, none⟩ = some (.int .u64 a0_3) := (blk_cell BK672.out 3).trans rfl; have hcz18_4 : w16.cell? ⟨gb672, 4, none⟩ = some (.int .u64 a0_4) := (blk_cell BK672.out 4).trans rfl; have hfz18_0 := blk_frozen BK672.out 0; have hfz18_1 := blk_frozen BK672.out 1; have hfz18_2 := blk_frozen BK672.out 2; have hfz18_3 := blk_frozen BK672.out 3; have hfz18_4 := blk_frozen BK672.out 4) | ((with_reducible refine gate_callee (f := 14) rfl ?_); refine goesL_ (some 22) rfl rfl Tryd.func14 (by kernel_rfl) rfl #[.agg #[.int .i64 a0_0, .int .u64 a0_1, .int .u64 a0_2, .int .u64 a0_3, .int .u64 a0_4]] rfl (by (try simp only [List.map_toArray, List.map_cons, List.map_nil]); first | done | rfl | (simp only [List.length_drop, List.length_take]; rfl)) ?_; (with_reducible refine (XSome5.calls a0_0 a0_1 a0_2 a0_3 a0_4 t675 t676 t677 t678 t679 _ A7.out).mono ?_); rintro e w19 ⟨rfl, hb⟩; refine ⟨_, rfl, ?_⟩; have n0_ := Aside0.mk (blk_below (g := gb672) (o := .cells #[.int .i64 a0_0, .int .u64 a0_1, .int .u64 a0_2, .int .u64 a0_3, .int .u64 a0_4] 25 (0, 0)) (by (with_reducible repeat (first | apply bN_ | apply bD_ | apply bA_)); exact BK672.out) hb); have n1_ := Aside0.mk (blk_below (g := gb673) (o := .cells #[.int .i64 a3_0, .int .i64 a3_1] 63 (0, 0)) (by (with_reducible repeat (first | apply bN_ | apply bD_ | apply bA_)); exact BK673.out) hb); have n2_ := Aside0.mk (below_step (by repeat (first | (with_reducible first | exact HB.out | apply ba_ | apply bn_ | apply bd_ | refine below_set ?_ GE672.out | refine below_set ?_ GE673.out) | exact HB.out)) hb); clear BK672; clear BK673; clear HB; have BK672 := n0_; have BK673 := n1_; have HB := n2_; clear n0_ n1_ n2_; (try clear hb); (try clear hb2); (try clear hk); (try clear hi)) | ((with_reducible refine gate_dst (N := 9) rfl ?_); refine box_event ?hg (N := 9) ?hd (cs := #[.int .i64 0, .int .u64 0, .int .u64 0, .int .u64 0, .int .u64 0]) (t := 29) ?hr ?_; (case hd => rfl); (case hg => rfl); (case hr => first | (go_simp; done) | (go_simp; rfl)); intro gb680 hg w20 hbox hb; have n0_ := Aside0.mk (blk_below (g := gb672) (o := .cells #[.int .i64 a0_0, .int .u64 a0_1, .int .u64 a0_2, .int .u64 a0_3, .int .u64 a0_4] 25 (0, 0)) (by (with_reducible repeat (first | apply bN_ | apply bD_ | apply bA_)); exact BK672.out) hb); have n1_ := Aside0.mk (blk_below (g := gb673) (o := .cells #[.int .i64 a3_0, .int .i64 a3_1] 63 (0, 0)) (by (with_reducible repeat (first | apply bN_ | apply bD_ | apply bA_)); exact BK673.out) hb); have n2_ := Aside0.mk (below_step (by repeat (first | (with_reducible first | exact HB.out | apply ba_ | apply bn_ | apply bd_ | refine below_set ?_ GE672.out | refine below_set ?_ GE673.out) | exact HB.out)) hb); have n3_ := Aside0.mk (hbox); have n4_ := Aside0.mk ((by rw [hg]; exact (below_size (by repeat (first | (with_reducible first | exact HB.out | apply ba_ | apply bn_ | apply bd_ | refine below_set ?_ GE672.out | refine below_set ?_ GE673.out) | exact HB.out))) : w.heap.size ≤ gb680)); have n5_ := Aside0.mk ((by rw [hg]; exact (below_size (by repeat (first | (with_reducible first | exact HB.out | apply ba_ | apply bn_ | apply bd_ | refine below_set ?_ GE672.out | refine below_set ?_ GE673.out) | exact HB.out))) : w.heap.size ≤ gb680)); have n6_ := Aside0.mk ((by rw [hg]; exact Nat.ne_of_lt (blk_lt (g := gb672) (o := .cells #[.int .i64 a0_0, .int .u64 a0_1, .int .u64 a0_2, .int .u64 a0_3, .int .u64 a0_4] 25 (0, 0)) (by (with_reducible repeat (first | apply bN_ | apply bD_ | apply bA_)); exact BK672.out)) : gb672 ≠ gb680)); have n7_ := Aside0.mk ((by rw [hg]; exact Nat.ne_of_gt (blk_lt (g := gb672) (o := .cells #[.int .i64 a0_0, .int .u64 a0_1, .int .u64 a0_2, .int .u64 a0_3, .int .u64 a0_4] 25 (0, 0)) (by (with_reducible repeat (first | apply bN_ | apply bD_ | apply bA_)); exact BK672.out)) : gb680 ≠ gb672)); have n8_ := Aside0.mk ((by rw [hg]; exact Nat.ne_of_lt (blk_lt (g := gb673) (o := .cells #[.int .i64 a3_0, .int .i64 a3_1] 63 (0, 0)) (by (with_reducible repeat (first | apply bN_ | apply bD_ | apply bA_)); exact BK673.out)) : gb673 ≠ gb680)); have n9_ := Aside0.mk ((by rw [hg]; exact Nat.ne_of_gt (blk_lt (g := gb673) (o := .cells #[.int .i64 a3_0, .int .i64 a3_1] 63 (0, 0)) (by (with_reducible repeat (first | apply bN_ | apply bD_ | apply bA_)); exact BK673.out)) : gb680 ≠ gb673)); clear BK672; clear BK673; clear HB; have BK672 := n0_; have BK673 := n1_; have HB := n2_; have BK680 := n3_; have GW680 := n4_; have GE680 := n5_; have NB672_680 := n6_; have NB680_672 := n7_; have NB673_680 := n8_; have NB680_673 := n9_; clear n0_ n1_ n2_ n3_ n4_ n5_ n6_ n7_ n8_ n9_; clear hb hbox hg; have hnb21 := NB680_672.out; have hnc21 := NB672_680.out; have hnb22 := NB680_673.out; have hnc22 := NB673_680.out; have hcz23_0 : w20.cell? ⟨gb680, 0, none⟩ = some (.int .i64 0) := (blk_cell BK680.out 0).trans rfl; have hcz23_1 : w20.cell? ⟨gb680, 1, none⟩ = some (.int .u64 0) := (blk_cell BK680.out 1).trans rfl; have hcz23_2 : w20.cell? ⟨gb680, 2, none⟩ = some (.int .u64 0) := (blk_cell BK680.out 2).trans rfl; have hcz23_3 : w20.cell? ⟨gb680, 3, none⟩ = some (.int .u64 0) := (blk_cell BK680.out 3).trans rfl; have hcz23_4 : w20.cell? ⟨gb680, 4, none⟩ = some (.int .u64 0) := (blk_cell BK680.out 4).trans rfl; have hfz23_0 := blk_frozen BK680.out 0; have hfz23_1 := blk_frozen BK680.out 1; have hfz23_2 := blk_frozen BK680.out 2; have hfz23_3 := blk_frozen BK680.out 3; have hfz23_4 := blk_frozen BK680.out 4) | ((with_reducible refine gate_callee (f := 21) rfl ?_); refine goesL_ (some 26) rfl rfl Tryd.func21 (by kernel_rfl) rfl #[.int .i64 t675, .slice A1 l1.length c1] rfl (by (try simp only [List.map_toArray, List.map_cons, List.map_nil]); first | done | rfl | (simp only [List.length_drop, List.length_take]; rfl)) ?_; (with_reducible refine (honeycomblaw08_Few.calls k t675 _ _ l1 t681 _ ?side1 ?side2 A8.out).mono ?_); (case side1 => exact Kd.C_below HR1.out (by repeat (first | (with_reducible first | exact HB.out | apply ba_ | apply bn_ | apply bd_ | refine below_set ?_ GE672.out | refine below_set ?_ GE673.out | refine below_set ?_ GE680.out) | exact HB.out))); (case side2 => exact HC1.out); rintro e w24 ⟨v682, rfl, ho0, hb⟩; refine ⟨_, rfl, ?_⟩; have n0_ := Aside0.mk (Kd.R_lower ho0 (below_size (by repeat (first | (with_reducible first | exact HB.out | apply ba_ | apply bn_ | apply bd_ | refine below_set ?_ GE672.out | refine below_set ?_ GE673.out | refine below_set ?_ GE680.out) | exact HB.out)))); have n1_ := Aside0.mk (blk_below (g := gb672) (o := .cells #[.int .i64 a0_0, .int .u64 a0_1, .int .u64 a0_2, .int .u64 a0_3, .int .u64 a0_4] 25 (0, 0)) (by (with_reducible repeat (first | apply bN_ | apply bD_ | apply bA_)); refine blk_far ?_ NB672_680.out _; (with_reducible repeat (first | apply bN_ | apply bD_ | apply bA_)); refine blk_far ?_ NB672_680.out _; (with_reducible repeat (first | apply bN_ | apply bD_ | apply bA_)); refine blk_far ?_ NB672_680.out _; (with_reducible repeat (first | apply bN_ | apply bD_ | apply bA_)); refine blk_far ?_ NB672_680.out _; (with_reducible repeat (first | apply bN_ | apply bD_ | apply bA_)); refine blk_far ?_ NB672_680.out _; (with_reducible repeat (first | apply bN_ | apply bD_ | apply bA_)); exact BK672.out) hb); have n2_ := Aside0.mk (blk_below (g := gb673) (o := .cells #[.int .i64 a3_0, .int .i64 a3_1] 63 (0, 0)) (by (with_reducible repeat (first | apply bN_ | apply bD_ | apply bA_)); refine blk_far ?_ NB673_680.out _; (with_reducible repeat (first | apply bN_ | apply bD_ | apply bA_)); refine blk_far ?_ NB673_680.out _; (with_reducible repeat (first | apply bN_ | apply bD_ | apply bA_)); refine blk_far ?_ NB673_680.out _; (with_reducible repeat (first | apply bN_ | apply bD_ | apply bA_)); refine blk_far ?_ NB673_680.out _; (with_reducible repeat (first | apply bN_ | apply bD_ | apply bA_)); refine blk_far ?_ NB673_680.out _; (with_reducible repeat (first | apply bN_ | apply bD_ | apply bA_)); exact BK673.out) hb); have n3_ := Aside0.mk (blk_below (g := gb680) (o := .cells #[.int .i64 t675, .int .u64 t676, .int .u64 t677, .int .u64 t678, .int .u64 t679] 29 (0, 0)) (by (with_reducible repeat (first | apply bN_ | apply bD_ | apply bA_)); refine blk_put (cs := #[.int .i64 t675, .int .u64 t676, .int .u64 t677, .int .u64 t678, .int .u64 0]) ?_ 4 _ rfl; (with_reducible repeat (first | apply bN_ | apply bD_ | apply bA_)); refine blk_put (cs := #[.int .i64 t675, .int .u64 t676, .int .u64 t677, .int .u64 0, .int .u64 0]) ?_ 3 _ rfl; (with_reducible repeat (first | apply bN_ | apply bD_ | apply bA_)); refine blk_put (cs := #[.int .i64 t675, .int .u64 t676, .int .u64 0, .int .u64 0, .int .u64 0]) ?_ 2 _ rfl; (with_reducible repeat (first | apply bN_ | apply bD_ | apply bA_)); refine blk_put (cs := #[.int .i64 t675, .int .u64 0, .int .u64 0, .int .u64 0, .int .u64 0]) ?_ 1 _ rfl; (with_reducible repeat (first | apply bN_ | apply bD_ | apply bA_)); refine blk_put (cs := #[.int .i64 0, .int .u64 0, .int .u64 0, .int .u64 0, .int .u64 0]) ?_ 0 _ rfl; (with_reducible repeat (first | apply bN_ | apply bD_ | apply bA_)); exact BK680.out) hb); have n4_ := Aside0.mk (below_step (by repeat (first | (with_reducible first | exact HB.out | apply ba_ | apply bn_ | apply bd_ | refine below_set ?_ GE672.out | refine below_set ?_ GE673.out | refine below_set ?_ GE680.out) | exact HB.out)) hb); clear BK672; clear BK673; clear BK680; clear HB; have HO683 := n0_; have BK672 := n1_; have BK673 := n2_; have BK680 := n3_; have HB := n4_; clear n0_ n1_ n2_ n3_ n4_; (try clear hb); (try clear hb2); (try clear hk); (try clear hi); (try clear ho0); have hcz25_0 : w24.cell? ⟨gb673, 0, none⟩ = some (.int .i64 a3_0) := (blk_cell BK673.out 0).trans rfl; have hcz25_1 : w24.cell? ⟨gb673, 1, none⟩ = some (.int .i64 a3_1) := (blk_cell BK673.out 1).trans rfl; have hfz25_0 := blk_frozen BK673.out 0; have hfz25_1 := blk_frozen BK673.out 1; obtain ⟨Ao26, co26, eo26⟩ := Kd.R_slice HO683.out; subst eo26) | ((with_reducible refine gate_callee (f := 36) rfl ?_); refine goesL_ (some 40) rfl rfl Tryd.func36 (by kernel_rfl) rfl #[.slice Ao26 t681.length co26, .agg #[.int .i64 (Int.tmod a3_0 1000000), .int .i64 (Int.tmod a3_1 1000000)]] rfl (by (try simp only [List.map_toArray, List.map_cons, List.map_nil]); first | done | rfl | (simp only [List.length_drop, List.length_take]; rfl)) ?_; (with_reducible refine (XShift.calls _ _ t681 (Int.tmod a3_0 1000000) (Int.tmod a3_1 1000000) t684 none _ ?side1 ?side2 A9.out).mono ?_); (case side1 => refine (Kd.R_reads' (e := 65) (base := w.heap.size) (ok := fun k_ => True) (n := t681.length) (c := co26) ?_).2.2; exact (by (with_reducible repeat (first | apply Kd.R_alloc | apply Kd.R_drewN | apply Kd.R_drew)); exact (Kd.R_mono (Kd.R_far (p := ⟨gb673, 1, none⟩) (Kd.R_far (p := ⟨gb673, 0, none⟩) (Kd.R_types HO683.out BK673.out (by decide)) (fun _ hk => hk.2) (.int .i64 (Int.tmod a3_0 1000000))) (fun _ hk => hk.2) (.int .i64 (Int.tmod a3_1 1000000))) (fun _ h_ => h_.1)))); (case side2 => exact (Kd.R_reads' HO683.out).2.1); rintro e w27 ⟨v685, rfl, ho0, hb⟩; refine ⟨_, rfl, ?_⟩; have n0_ := Aside0.mk (Kd.R_elder' (by (with_reducible repeat (first | apply Kd.R_alloc | apply Kd.R_drewN | apply Kd.R_drew)); exact (Kd.R_mono (Kd.R_far (p := ⟨gb673, 1, none⟩) (Kd.R_far (p := ⟨gb673, 0, none⟩) (Kd.R_types HO683.out BK673.out (by decide)) (fun _ hk => hk.2) (.int .i64 (Int.tmod a3_0 1000000))) (fun _ hk => hk.2) (.int .i64 (Int.tmod a3_1 1000000))) (fun _ h_ => h_.1))) (Kd.R_base ho0) hb); have n1_ := Aside0.mk (Kd.R_lower (Kd.R_new' ho0 (Kd.R_lt (by (with_reducible repeat (first | apply Kd.R_alloc | apply Kd.R_drewN | apply Kd.R_drew)); exact (Kd.R_mono (Kd.R_far (p := ⟨gb673, 1, none⟩) (Kd.R_far (p := ⟨gb673, 0, none⟩) (Kd.R_types HO683.out BK673.out (by decide)) (fun _ hk => hk.2) (.int .i64 (Int.tmod a3_0 1000000))) (fun _ hk => hk.2) (.int .i64 (Int.tmod a3_1 1000000))) (fun _ h_ => h_.1))))) (below_size (by repeat (first | (with_reducible first | exact HB.out | apply ba_ | apply bn_ | apply bd_ | refine below_set ?_ GE672.out | refine below_set ?_ GE673.out | refine below_set ?_ GE680.out) | exact HB.out)))); have n2_ := Aside0.mk (blk_below (g := gb672) (o := .cells #[.int .i64 a0_0, .int .u64 a0_1, .int .u64 a0_2, .int .u64 a0_3, .int .u64 a0_4] 25 (0, 0)) (by (with_reducible repeat (first | apply bN_ | apply bD_ | apply bA_)); refine blk_far ?_ NB672_673.out _; (with_reducible repeat (first | apply bN_ | apply bD_ | apply bA_)); refine blk_far ?_ NB672_673.out _; (with_reducible repeat (first | apply bN_ | apply bD_ | apply bA_)); exact BK672.out) hb); have n3_ := Aside0.mk (blk_below (g := gb673) (o := .cells #[.int .i64 (Int.tmod a3_0 1000000), .int .i64 (Int.tmod a3_1 1000000)] 63 (0, 0)) (by (with_reducible repeat (first | apply bN_ | apply bD_ | apply bA_)); refine blk_put (cs := #[.int .i64 (Int.tmod a3_0 1000000), .int .i64 a3_1]) ?_ 1 _ rfl; (with_reducible repeat (first | apply bN_ | apply bD_ | apply bA_)); refine blk_put (cs := #[.int .i64 a3_0, .int .i64 a3_1]) ?_ 0 _ rfl; (with_reducible repeat (first | apply bN_ | apply bD_ | apply bA_)); exact BK673.out) hb); have n4_ := Aside0.mk (blk_below (g := gb680) (o := .cells #[.int .i64 t675, .int .u64 t676, .int .u64 t677, .int .u64 t678, .int .u64 t679] 29 (0, 0)) (by (with_reducible repeat (first | apply bN_ | apply bD_ | apply bA_)); refine blk_far ?_ NB680_673.out _; (with_reducible repeat (first | apply bN_ | apply bD_ | apply bA_)); refine blk_far ?_ NB680_673.out _; (with_reducible repeat (first | apply bN_ | apply bD_ | apply bA_)); exact BK680.out) hb); have n5_ := Aside0.mk (below_step (by repeat (first | (with_reducible first | exact HB.out | apply ba_ | apply bn_ | apply bd_ | refine below_set ?_ GE672.out | refine below_set ?_ GE673.out | refine below_set ?_ GE680.out) | exact HB.out)) hb); clear HO683; clear BK672; clear BK673; clear BK680; clear HB; have HO683 := n0_; have HO686 := n1_; have BK672 := n2_; have BK673 := n3_; have BK680 := n4_; have HB := n5_; clear n0_ n1_ n2_ n3_ n4_ n5_; (try clear hb); (try clear hb2); (try clear hk); (try clear hi); (try clear ho0); (try simp only [errW_none, errW_some]); have hcz28_0 : w27.cell? ⟨gb680, 0, none⟩ = some (.int .i64 t675) := (blk_cell BK680.out 0).trans rfl; have hcz28_1 : w27.cell? ⟨gb680, 1, none⟩ = some (.int .u64 t676) := (blk_cell BK680.out 1).trans rfl; have hcz28_2 : w27.cell? ⟨gb680, 2, none⟩ = some (.int .u64 t677) := (blk_cell BK680.out 2).trans rfl; have hcz28_3 : w27.cell? ⟨gb680, 3, none⟩ = some (.int .u64 t678) := (blk_cell BK680.out 3).trans rfl; have hcz28_4 : w27.cell? ⟨gb680, 4, none⟩ = some (.int .u64 t679) := (blk_cell BK680.out 4).trans rfl; have hfz28_0 := blk_frozen BK680.out 0; have hfz28_1 := blk_frozen BK680.out 1; have hfz28_2 := blk_frozen BK680.out 2; have hfz28_3 := blk_frozen BK680.out 3; have hfz28_4 := blk_frozen BK680.out 4; obtain ⟨Ao29, co29, eo29⟩ := Kd.R_slice HO686.out; subst eo29) | ((with_reducible refine gate_callee (f := 23) rfl ?_); refine goesL_ (some 47) rfl rfl Tryd.func23 (by kernel_rfl) rfl #[.agg #[.int .i64 t675, .int .u64 t676, .int .u64 t677, .int .u64 t678, .int .u64 t679], .slice Ao29 t684.length co29, .int .i64 (Int.tmod (Go.bits .and .i64 a2 255) 5)] rfl (by (try simp only [List.map_toArray, List.map_cons, List.map_nil]); first | done | rfl | (simp only [List.length_drop, List.length_take]; rfl)) ?_; (with_reducible refine (flat_Steps.calls k t675 t676 t677 t678 t679 (fun k_ => some k_ = (.slice Ao29 t684.length co29 : Value).ownBlock) _ _ t684 (Int.tmod (Go.bits .and .i64 a2 255) 5) t688 none _ ?side1 ?side2 A10.out).mono ?_); (case side1 => exact HGSix.out.below (by repeat (first | (with_reducible first | exact HB.out | apply ba_ | apply bn_ | apply bd_ | refine below_set ?_ GE672.out | refine below_set ?_ GE673.out | refine below_set ?_ GE680.out) | exact HB.out))); (case side2 => exact Kd.R_V (Kd.R_tight rfl (Kd.R_types (Kd.R_types (Kd.R_types (HO686.out) BK672.out (by decide)) BK673.out (by decide)) BK680.out (by decide)))); rintro e w30 ⟨v689, rfl, ho0, hb⟩; refine ⟨_, rfl, ?_⟩; have n0_ := Aside0.mk (Kd.R_elder' (by (with_reducible repeat (first | apply Kd.R_alloc | apply Kd.R_drewN | apply Kd.R_drew)); exact HO683.out) (Kd.R_base ho0) hb); have n1_ := Aside0.mk (Kd.R_elder' (by (with_reducible repeat (first | apply Kd.R_alloc | apply Kd.R_drewN | apply Kd.R_drew)); exact HO686.out) (Kd.R_base ho0) hb); have n2_ := Aside0.mk (Kd.R_lower (Kd.R_new' (Kd.R_new' (Kd.R_mono (ok' := fun k_ => True) ho0 (fun _ hk_ => trivial)) (Kd.R_lt (by (with_reducible repeat (first | apply Kd.R_alloc | apply Kd.R_drewN | apply Kd.R_drew)); exact HO683.out))) (Kd.R_lt (by (with_reducible repeat (first | apply Kd.R_alloc | apply Kd.R_drewN | apply Kd.R_drew)); exact HO686.out))) (below_size (by repeat (first | (with_reducible first | exact HB.out | apply ba_ | apply bn_ | apply bd_ | refine below_set ?_ GE672.out | refine below_set ?_ GE673.out | refine below_set ?_ GE680.out) | exact HB.out)))); have n3_ := Aside0.mk (blk_below (g := gb672) (o := .cells #[.int .i64 a0_0, .int .u64 a0_1, .int .u64 a0_2, .int .u64 a0_3, .int .u64 a0_4] 25 (0, 0)) (by (with_reducible repeat (first | apply bN_ | apply bD_ | apply bA_)); exact BK672.out) hb); have n4_ := Aside0.mk (blk_below (g := gb673) (o := .cells #[.int .i64 (Int.tmod a3_0 1000000), .int .i64 (Int.tmod a3_1 1000000)] 63 (0, 0)) (by (with_reducible repeat (first | apply bN_ | apply bD_ | apply bA_)); exact BK673.out) hb); have n5_ := Aside0.mk (blk_below (g := gb680) (o := .cells #[.int .i64 t675, .int .u64 t676, .int .u64 t677, .int .u64 t678, .int .u64 t679] 29 (0, 0)) (by (with_reducible repeat (first | apply bN_ | apply bD_ | apply bA_)); exact BK680.out) hb); have n6_ := Aside0.mk (below_step (by repeat (first | (with_reducible first | exact HB.out | apply ba_ | apply bn_ | apply bd_ | refine below_set ?_ GE672.out | refine below_set ?_ GE673.out | refine below_set ?_ GE680.out) | exact HB.out)) hb); clear HO683; clear HO686; clear BK672; clear BK673; clear BK680; clear HB; have HO683 := n0_; have HO686 := n1_; have HO690 := n2_; have BK672 := n3_; have BK673 := n4_; have BK680 := n5_; have HB := n6_; clear n0_ n1_ n2_ n3_ n4_ n5_ n6_; (try clear hb); (try clear hb2); (try clear hk); (try clear hi); (try clear ho0); (try simp only [errW_none, errW_some]); have hcz31_0 : w30.cell? ⟨gb680, 0, none⟩ = some (.int .i64 t675) := (blk_cell BK680.out 0).trans rfl; have hcz31_1 : w30.cell? ⟨gb680, 1, none⟩ = some (.int .u64 t676) := (blk_cell BK680.out 1).trans rfl; have hcz31_2 : w30.cell? ⟨gb680, 2, none⟩ = some (.int .u64 t677) := (blk_cell BK680.out 2).trans rfl; have hcz31_3 : w30.cell? ⟨gb680, 3, none⟩ = some (.int .u64 t678) := (blk_cell BK680.out 3).trans rfl; have hcz31_4 : w30.cell? ⟨gb680, 4, none⟩ = some (.int .u64 t679) := (blk_cell BK680.out 4).trans rfl; have hfz31_0 := blk_frozen BK680.out 0; have hfz31_1 := blk_frozen BK680.out 1; have hfz31_2 := blk_frozen BK680.out 2; have hfz31_3 := blk_frozen BK680.out 3; have hfz31_4 := blk_frozen BK680.out 4) | ((with_reducible refine gate_callee (f := 23) rfl ?_); refine goesL_ (some 54) rfl rfl Tryd.func23 (by kernel_rfl) rfl #[.agg #[.int .i64 t675, .int .u64 t676, .int .u64 t677, .int .u64 t678, .int .u64 t679], .slice Ao26 t681.length co26, .int .i64 (Int.tmod (Go.bits .and .i64 a2 255) 5)] rfl (by (try simp only [List.map_toArray, List.map_cons, List.map_nil]); first | done | rfl | (simp only [List.length_drop, List.length_take]; rfl)) ?_; (with_reducible refine (flat_Steps.calls k t675 t676 t677 t678 t679 (fun k_ => some k_ = (.slice Ao26 t681.length co26 : Value).ownBlock) _ _ t681 (Int.tmod (Go.bits .and .i64 a2 255) 5) t692 none _ ?side1 ?side2 A11.out).mono ?_); (case side1 => exact HGSix.out.below (by repeat (first | (with_reducible first | exact HB.out | apply ba_ | apply bn_ | apply bd_ | refine below_set ?_ GE672.out | refine below_set ?_ GE673.out | refine below_set ?_ GE680.out) | exact HB.out))); (case side2 => exact Kd.R_V (Kd.R_tight rfl (Kd.R_types (Kd.R_types (Kd.R_types (HO683.out) BK672.out (by decide)) BK673.out (by decide)) BK680.out (by decide)))); rintro e w32 ⟨v693, rfl, ho0, hb⟩; refine ⟨_, rfl, ?_⟩; have n0_ := Aside0.mk (Kd.R_elder' (by (with_reducible repeat (first | apply Kd.R_alloc | apply Kd.R_drewN | apply Kd.R_drew)); exact HO683.out) (Kd.R_base ho0) hb); have n1_ := Aside0.mk (Kd.R_elder' (by (with_reducible repeat (first | apply Kd.R_alloc | apply Kd.R_drewN | apply Kd.R_drew)); exact HO686.out) (Kd.R_base ho0) hb); have n2_ := Aside0.mk (Kd.R_elder' (by (with_reducible repeat (first | apply Kd.R_alloc | apply Kd.R_drewN | apply Kd.R_drew)); exact HO690.out) (Kd.R_base ho0) hb); have n3_ := Aside0.mk (Kd.R_lower (Kd.R_new' (Kd.R_new' (Kd.R_new' (Kd.R_mono (ok' := fun k_ => True) ho0 (fun _ hk_ => trivial)) (Kd.R_lt (by (with_reducible repeat (first | apply Kd.R_alloc | apply Kd.R_drewN | apply Kd.R_drew)); exact HO683.out))) (Kd.R_lt (by (with_reducible repeat (first | apply Kd.R_alloc | apply Kd.R_drewN | apply Kd.R_drew)); exact HO686.out))) (Kd.R_lt (by (with_reducible repeat (first | apply Kd.R_alloc | apply Kd.R_drewN | apply Kd.R_drew)); exact HO690.out))) (below_size (by repeat (first | (with_reducible first | exact HB.out | apply ba_ | apply bn_ | apply bd_ | refine below_set ?_ GE672.out | refine below_set ?_ GE673.out | refine below_set ?_ GE680.out) | exact HB.out)))); have n4_ := Aside0.mk (blk_below (g := gb672) (o := .cells #[.int .i64 a0_0, .int .u64 a0_1, .int .u64 a0_2, .int .u64 a0_3, .int .u64 a0_4] 25 (0, 0)) (by (with_reducible repeat (first | apply bN_ | apply bD_ | apply bA_)); exact BK672.out) hb); have n5_ := Aside0.mk (blk_below (g := gb673) (o := .cells #[.int .i64 (Int.tmod a3_0 1000000), .int .i64 (Int.tmod a3_1 1000000)] 63 (0, 0)) (by (with_reducible repeat (first | apply bN_ | apply bD_ | apply bA_)); exact BK673.out) hb); have n6_ := Aside0.mk (blk_below (g := gb680) (o := .cells #[.int .i64 t675, .int .u64 t676, .int .u64 t677, .int .u64 t678, .int .u64 t679] 29 (0, 0)) (by (with_reducible repeat (first | apply bN_ | apply bD_ | apply bA_)); exact BK680.out) hb); have n7_ := Aside0.mk (below_step (by repeat (first | (with_reducible first | exact HB.out | apply ba_ | apply bn_ | apply bd_ | refine below_set ?_ GE672.out | refine below_set ?_ GE673.out | refine below_set ?_ GE680.out) | exact HB.out)) hb); clear HO683; clear HO686; clear HO690; clear BK672; clear BK673; clear BK680; clear HB; have HO683 := n0_; have HO686 := n1_; have HO690 := n2_; have HO694 := n3_; have BK672 := n4_; have BK673 := n5_; have BK680 := n6_; have HB := n7_; clear n0_ n1_ n2_ n3_ n4_ n5_ n6_ n7_; (try clear hb); (try clear hb2); (try clear hk); (try clear hi); (try clear ho0); (try simp only [errW_none, errW_some]); have hcz33_0 : w32.cell? ⟨gb673, 0, none⟩ = some (.int .i64 (Int.tmod a3_0 1000000)) := (blk_cell BK673.out 0).trans rfl; have hcz33_1 : w32.cell? ⟨gb673, 1, none⟩ = some (.int .i64 (Int.tmod a3_1 1000000)) := (blk_cell BK673.out 1).trans rfl; have hfz33_0 := blk_frozen BK673.out 0; have hfz33_1 := blk_frozen BK673.out 1; obtain ⟨Ao34, co34, eo34⟩ := Kd.R_slice HO694.out; subst eo34) | ((with_reducible refine gate_callee (f := 36) rfl ?_); refine goesL_ (some 60) rfl rfl Tryd.func36 (by kernel_rfl) rfl #[.slice Ao34 t692.length co34, .agg #[.int .i64 (Int.tmod a3_0 1000000), .int .i64 (Int.tmod a3_1 1000000)]] rfl (by (try simp only [List.map_toArray, List.map_cons, List.map_nil]); first | done | rfl | (simp only [List.length_drop, List.length_take]; rfl)) ?_; (with_reducible refine (XShift.calls _ _ t692 (Int.tmod a3_0 1000000) (Int.tmod a3_1 1000000) t696 none _ ?side1 ?side2 A12.out).mono ?_); (case side1 => repeat (first | exact (Kd.R_reads' HO694.out).2.2 | (with_reducible refine Kd.C_alloc ?_ _) | (with_reducible refine Kd.C_drewN ?_ _) | (with_reducible refine Kd.C_drew ?_))); (case side2 => exact (Kd.R_reads' HO694.out).2.1); rintro e w35 ⟨v697, rfl, ho0, hb⟩; refine ⟨_, rfl, ?_⟩; have n0_ := Aside0.mk (Kd.R_elder' (by (with_reducible repeat (first | apply Kd.R_alloc | apply Kd.R_drewN | apply Kd.R_drew)); exact HO683.out) (Kd.R_base ho0) hb); have n1_ := Aside0.mk (Kd.R_elder' (by (with_reducible repeat (first | apply Kd.R_alloc | apply Kd.R_drewN | apply Kd.R_drew)); exact HO686.out) (Kd.R_base ho0) hb); have n2_ := Aside0.mk (Kd.R_elder' (by (with_reducible repeat (first | apply Kd.R_alloc | apply Kd.R_drewN | apply Kd.R_drew)); exact HO690.out) (Kd.R_base ho0) hb); have n3_ := Aside0.mk (Kd.R_elder' (by (with_reducible repeat (first | apply Kd.R_alloc | apply Kd.R_drewN | apply Kd.R_drew)); exact HO694.out) (Kd.R_base ho0) hb); have n4_ := Aside0.mk (Kd.R_lower (Kd.R_new' (Kd.R_new' (Kd.R_new' (Kd.R_new' ho0 (Kd.R_lt (by (with_reducible repeat (first | apply Kd.R_alloc | apply Kd.R_drewN | apply Kd.R_drew)); exact HO683.out))) (Kd.R_lt (by (with_reducible repeat (first | apply Kd.R_alloc | apply Kd.R_drewN | apply Kd.R_drew)); exact HO686.out))) (Kd.R_lt (by (with_reducible repeat (first | apply Kd.R_alloc | apply Kd.R_drewN | apply Kd.R_drew)); exact HO690.out))) (Kd.R_lt (by (with_reducible repeat (first | apply Kd.R_alloc | apply Kd.R_drewN | apply Kd.R_drew)); exact HO694.out))) (below_size (by repeat (first | (with_reducible first | exact HB.out | apply ba_ | apply bn_ | apply bd_ | refine below_set ?_ GE672.out | refine below_set ?_ GE673.out | refine below_set ?_ GE680.out) | exact HB.out)))); have n5_ := Aside0.mk (blk_below (g := gb672) (o := .cells #[.int .i64 a0_0, .int .u64 a0_1, .int .u64 a0_2, .int .u64 a0_3, .int .u64 a0_4] 25 (0, 0)) (by (with_reducible repeat (first | apply bN_ | apply bD_ | apply bA_)); exact BK672.out) hb); have n6_ := Aside0.mk (blk_below (g := gb673) (o := .cells #[.int .i64 (Int.tmod a3_0 1000000), .int .i64 (Int.tmod a3_1 1000000)] 63 (0, 0)) (by (with_reducible repeat (first | apply bN_ | apply bD_ | apply bA_)); exact BK673.out) hb); have n7_ := Aside0.mk (blk_below (g := gb680) (o := .cells #[.int .i64 t675, .int .u64 t676, .int .u64 t677, .int .u64 t678, .int .u64 t679] 29 (0, 0)) (by (with_reducible repeat (first | apply bN_ | apply bD_ | apply bA_)); exact BK680.out) hb); have n8_ := Aside0.mk (below_step (by repeat (first | (with_reducible first | exact HB.out | apply ba_ | apply bn_ | apply bd_ | refine below_set ?_ GE672.out | refine below_set ?_ GE673.out | refine below_set ?_ GE680.out) | exact HB.out)) hb); clear HO683; clear HO686; clear HO690; clear HO694; clear BK672; clear BK673; clear BK680; clear HB; have HO683 := n0_; have HO686 := n1_; have HO690 := n2_; have HO694 := n3_; have HO698 := n4_; have BK672 := n5_; have BK673 := n6_; have BK680 := n7_; have HB := n8_; clear n0_ n1_ n2_ n3_ n4_ n5_ n6_ n7_ n8_; (try clear hb); (try clear hb2); (try clear hk); (try clear hi); (try clear ho0); (try simp only [errW_none, errW_some]); obtain ⟨Ao36, co36, eo36⟩ := Kd.R_slice HO690.out; subst eo36; obtain ⟨Ao37, co37, eo37⟩ := Kd.R_slice HO698.out; subst eo37) | (go_at_call 38; (with_reducible refine (set_Set_Same.calls k _ _ t688 _ _ t696 t704 _ ?side1 ?side2 ?side3 ?side4 A13.out).mono ?_); (case side1 => repeat (first | exact (Kd.R_reads' HO690.out).2.2 | (with_reducible refine Kd.C_alloc ?_ _) | (with_reducible refine Kd.C_drewN ?_ _) | (with_reducible refine Kd.C_drew ?_))); (case side2 => exact (Kd.R_reads' HO690.out).2.1); (case side3 => repeat (first | exact (Kd.R_reads' HO698.out).2.2 | (with_reducible refine Kd.C_alloc ?_ _) | (with_reducible refine Kd.C_drewN ?_ _) | (with_reducible refine Kd.C_drew ?_))); (case side4 => exact (Kd.R_reads' HO698.out).2.1); rintro e w' ⟨rfl, ⟨nd, rfl⟩⟩))
      go_ret
      exact ⟨by first | rfl | (simp [errW_none, errW_some] <;> rfl) | (simp [*, errW_none, errW_some] <;> rfl), by repeat (first | (with_reducible first | exact HB.out | apply ba_ | apply bn_ | apply bd_ | refine below_set ?_ GE672.out | refine below_set ?_ GE673.out | refine below_set ?_ GE680.out) | exact HB.out)⟩
     ·
      have H1 : (some false) = some r := by rw [if_neg (show ¬ (some q703).isNone = true by simp)] at H; exact H
      clear H
      have H := H1
      clear H1
      try simp only [errW_none, errW_some]
      exact absurd ((Option.some.inj H).trans Hr_.out) (by decide)
    ·
     have H1 : (some false) = some r := by rw [if_neg (show ¬ (some q702).isNone = true by simp)] at H; exact H
     clear H
     have H := H1
     clear H1
     try simp only [errW_none, errW_some]
     exact absurd ((Option.some.inj H).trans Hr_.out) (by decide)
   ·
    have H1 : (some false) = some r := by rw [if_neg (show ¬ (some q701).isNone = true by simp)] at H; exact H
    clear H
    have H := H1
    clear H1
    try simp only [errW_none, errW_some]
    exact absurd ((Option.some.inj H).trans Hr_.out) (by decide)
  ·
   have H1 : (some false) = some r := by rw [if_neg (show ¬ (some q700).isNone = true by simp)] at H; exact H
   clear H
   have H := H1
   clear H1
   try simp only [errW_none, errW_some]
   exact absurd ((Option.some.inj H).trans Hr_.out) (by decide)
 ·
  replace c6 := Bool.eq_false_iff.mpr c6
  subst c6
  have H1 : (some false) = some r := by rw [if_neg (show ¬ (false = true) by decide)] at H; exact H
  clear H
  have H := H1
  clear H1
  exact absurd ((Option.some.inj H).trans Hr_.out) (by decide)
end Go.Proofs.YtaeenefdbahfoaaDoor.H
namespace Go.Proofs.YtaeenefdbahfoaaDoor
open Go.RowKit Go.Proofs.YtaeenefdbahfoaaDoorW.PrintWords Go.Proofs.YtaeenefdbahfoaaDoorW.PrintLast Go.Proofs.YtaeenefdbahfoaaDoorW.PrintMore
open H
open Go.RowKit
theorem gens (a : Int) : ∃ n : Nat, n < 5 ∧ Int.tmod (Go.bits .and .i64 a 255) 5 = n := by
  rw [and_255, Int.tmod_eq_emod_of_nonneg (by omega)]
  exact ⟨(a % 256 % 5).toNat, by omega, by omega⟩
theorem pow13 (n : Nat) (hn : n < 5) : 13 ^ n ≤ 28561 := by
  have : n = 0 ∨ n = 1 ∨ n = 2 ∨ n = 3 ∨ n = 4 := by omega
  rcases this with rfl | rfl | rfl | rfl | rfl <;> decide
theorem flatShift_pure (l a2 by0 by1 : Int) (B B1 S S1 : Nat) (raw : List RC) (hB : B < 18446744073709551616) (hB1 : B1 < 18446744073709551616) (hS : S < 18446744073709551616) (hS1 : S1 < 18446744073709551616) :
    ∃ K, honeycomblaw08_FlatShift.f K l B B1 S S1 raw a2 by0 by1 = some true := by
  obtain ⟨K, hK⟩ : ∃ K : Nat, 100000000 ≤ K := ⟨100000000, Nat.le_refl _⟩
  refine ⟨K, ?_⟩
  obtain ⟨n, hn, hN⟩ := gens a2
  obtain ⟨L, b0, b1, s0, s1, hsome, ht⟩ := some_rule l B B1 S S1 hB hB1 hS hS1
  obtain ⟨s, hfew, hs, hlen, hbx⟩ := few_f K L raw (by omega)
  have t0 := tmod_range by0 1000000 (by omega)
  have t1 := tmod_range by1 1000000 (by omega)
  obtain ⟨p, hp⟩ : ∃ p, p = Int.tmod by0 1000000 := ⟨_, rfl⟩
  obtain ⟨q, hq⟩ : ∃ q, q = Int.tmod by1 1000000 := ⟨_, rfl⟩
  rw [← hp] at t0
  rw [← hq] at t1
  have h13 := pow13 n hn
  have hl13 : s.length * 13 ^ n ≤ 16 * 28561 := Nat.mul_le_mul hlen h13
  have h0 := rule_zero ht
  have e1 := shift_f hs hbx p q 1000000 (by omega) (by omega) (by omega) (by omega) (by omega)
  have e2 := steps_f ht n (by omega) K (s.map (sh p q)) (6 + 1000000) (by omega) (by rw [List.length_map]; omega) (srt_sh p q hs) (by omega) (hbx.shift p q 1000000 (by omega) (by omega)) (by rw [List.length_map]; omega)
  have e3 := steps_f ht n (by omega) K s 6 (by omega) (by omega) hs (by omega) hbx (by omega)
  have hlw := stepsL_len (nxtV b0 b1 s0 s1) L n s
  have e4 := shift_f (stepsL_srt _ L n s hs) (stepsL_box ht.1 h0 n 6 s hs hbx) p q 1000000 (by omega) (by omega) (by omega) (by omega) (by omega)
  have e5 := stepsL_sh ht.1 h0 p q n s hs hbx.half
  unfold honeycomblaw08_FlatShift.f
  rw [awake8_f K (by omega), hsome]
  simp only [Option.bind_some, ↓reduceIte, hN, ← hp, ← hq, hfew, e1, e2, e3, e4, Option.isNone_none]
  rw [e5, same_f K _ _ (by rw [List.length_map]; omega) (by rw [List.length_map]; omega)]
  simp
theorem flatShift_walk (l b0 b1 s0 s1 : Int) (A1 : Option Addr) (c1 : Nat) (l1 : List RC) (a2 p q : Int) (w : World) (hG : Six w) (hb0 : 0 ≤ b0) (hb0' : b0 < 18446744073709551616) (hb1 : 0 ≤ b1) (hb1' : b1 < 18446744073709551616) (hs0 : 0 ≤ s0) (hs0' : s0 < 18446744073709551616) (hs1 : 0 ≤ s1) (hs1' : s1 < 18446744073709551616)
    (hr : Kd.C k60 w A1 l1.length l1) (hc : l1.length ≤ c1) :
    Calls Tryd.prog 7 #[.agg #[.int .i64 l, .int .u64 b0, .int .u64 b1, .int .u64 s0, .int .u64 s1], .slice A1 l1.length c1, .int .i64 a2, .agg #[.int .i64 p, .int .i64 q]] w fun e w' => e = .returned (.bool true) ∧ Below w.heap.size w w' := by
  obtain ⟨B, rfl⟩ := Int.eq_ofNat_of_zero_le hb0
  obtain ⟨B1, rfl⟩ := Int.eq_ofNat_of_zero_le hb1
  obtain ⟨S, rfl⟩ := Int.eq_ofNat_of_zero_le hs0
  obtain ⟨S1, rfl⟩ := Int.eq_ofNat_of_zero_le hs1
  obtain ⟨K, hK⟩ := flatShift_pure l a2 p q B B1 S S1 l1 (by omega) (by omega) (by omega) (by omega)
  exact honeycomblaw08_FlatShift.calls K l B B1 S S1 A1 c1 l1 a2 p q true w hG hr hc hK rfl
end Go.Proofs.YtaeenefdbahfoaaDoor
namespace Go.Proofs.YtaeenefdbahfoaaDoor
open Go.ChangeShapes Go.WideShapes Go.ChangeAt Go.RowKit
open Go.ChangeMaps (open_string shut_string)
open Go.Proofs.YtaeenefdbahfoaaDoorW.PrintWords
set_option linter.unusedVariables false
theorem flatShift_laidOut : laidOutB Tryd.prog = true := by kernel_rfl
set_option maxRecDepth 100000 in
theorem flatShift_lifted (os : Os) (started : os.Started) (H : Type) (enc : TypeId × Value → H) :
    ReturnsInHanded {} Tryd.checked os 7 .any (fun w args => (Rows.flatShiftSpec.pre enc Tryd.prog Tryd.f7 [] false w args ∧ laidMetH Tryd.prog laid1 w) ∧ sizedMet enc Tryd.prog Tryd.f7 (OpenSpec.ofChange Rows.flatShiftSpec) false w args)
      (Rows.flatShiftSpec.post enc Tryd.prog Tryd.f7 false true false false) := by
  refine returnsInHanded_of_change_and (C := Tryd.checked) (X := fun w _ => laidMetH Tryd.prog laid1 w) (fun _ _ _ hh h => h.of_heap hh) ownP started (by kernel_rfl) Tryd.func7
    (ChangeSpec.witness_shaped (enc := enc) (C := Tryd.checked) (os := os) (X := fun w _ => laidMetH Tryd.prog laid1 w) false (World.doorLaid Tryd.prog 27 os) #[.agg #[.int .i64 0, .int .u64 0, .int .u64 0, .int .u64 0, .int .u64 0], .slice none 0 0, .int .i64 0, .agg #[.int .i64 0, .int .i64 0]] 8 rfl (World.shaped_of_RefB (by kernel_rfl) (by kernel_rfl)) (by kernel_rfl) (by kernel_rfl) (by kernel_rfl) (door_met os _)) ?_
  intro W base args ds gs before hval0 hW _ _ hL _
  have hval : ∀ (j : Nat) t v, Tryd.f7.params[j]? = some t → args[j]? = some v → Value.okWide Tryd.prog W .any base t v := hval0
  have hW' := hW
  obtain ⟨p, q, hA0, hV, rfl, hfz, hnd⟩ := hW
  have hA : DataW.TrodAll enc Tryd.prog W 0 (fun _ => true) true Tryd.f7.params.toList args.toList ds p := hA0
  rw [Tryd.params7] at hA hval
  obtain ⟨v0, vs0, d0, ds0, p0, q0, hargs, rfl, rfl, h0, r0⟩ := trodAll_cons hA
  obtain ⟨v1, vs1, d1, ds1, p1, q1, rfl, rfl, rfl, h1, r1⟩ := trodAll_cons r0
  obtain ⟨v2, vs2, d2, ds2, p2, q2, rfl, rfl, rfl, h2, r2⟩ := trodAll_cons r1
  obtain ⟨v3, vs3, d3, ds3, p3, q3, rfl, rfl, rfl, h3, r3⟩ := trodAll_cons r2
  obtain ⟨rfl, rfl, rfl⟩ := trodAll_nil r3
  obtain rfl : args = #[v0, v1, v2, v3] := by cases args; simp_all
  obtain ⟨rfl, rfl⟩ := trodVars_none hV
  obtain ⟨l0, a0, b0, c0, e0, rfl, rfl, rfl, wl0, wa0, wb0, wc0, we0⟩ := open_raw (hval 0 _ v0 rfl rfl) h0
  obtain ⟨a1, len1, cap1, rfl⟩ := okWide_slice Tryd.underlying45 (hval 1 _ v1 rfl rfl)
  have k1 := h1
  have lt1 : ∀ x ∈ p1, x.block < W.heap.size := by obtain ⟨m, hm⟩ := k1; exact DataW.trod_lt m _ _ _ hm
  obtain ⟨l1, rfl, hc1, hr1⟩ := open_rows0 Tryd.underlying45 (by kernel_rfl) (fun fu cs y hy => el_rc fu cs y hy) h1
  obtain ⟨a2, rfl, rfl, rfl, w2⟩ := open_int Tryd.underlying3 (hval 2 _ v2 rfl rfl) h2
  obtain ⟨a3, b3, rfl, rfl, rfl, wa3, wb3⟩ := open_pt (hval 3 _ v3 rfl rfl) h3
  clear hA0 hval0
  refine (flatShift_walk l0 a0 b0 c0 e0 a1 cap1 l1 a2 a3 b3 W (six_of_laid hL) (u64_rng wa0).1 (u64_rng wa0).2 (u64_rng wb0).1 (u64_rng wb0).2 (u64_rng wc0).1 (u64_rng wc0).2 (u64_rng we0).1 (u64_rng we0).2 hr1 hc1).mono fun e W' ⟨he, bel⟩ => ?_
  subst he
  exact ⟨_, rfl, _, _, _, [], _, [], hW', trodAll_mk1 (shut_bool Tryd.underlying4 _), (trodAll_cons_mk (shut_raw wl0 wa0 wb0 wc0 we0) (trodAll_cons_mk (Below.trod flatShift_laidOut (by kernel_rfl) (of_decide_eq_true (by kernel_rfl)) k1 bel lt1) (trodAll_cons_mk (shut_int Tryd.underlying3 w2) (trodAll_cons_mk (shut_pt wa3 wb3) trodAll_mk0)))), rfl, bel.frame _, fun h => by cases h⟩
theorem flatShift_holds : Rows.FlatShiftSaid :=
  OpenClaim.holds_of_wide 7 Tryd.f7 rfl rfl rfl rfl rfl rfl rfl ⟨rfl, rfl, rfl, rfl, rfl⟩ rfl rfl rfl rfl rfl (by kernel_rfl) Tryd.func7 (by kernel_rfl)
    (of_decide_eq_true (by kernel_rfl)) (by unfold Func.isWrapper; first | (rw [if_pos (by decide +kernel)]; kernel_rfl) | (rw [if_neg (by decide +kernel)]; exact ⟨rfl, rfl⟩))
    (fun os started H enc _ => flatShift_lifted os started H enc)
theorem flatShift_card : Rows.FlatShiftCardSaid :=
  Claim7.holds_tied_plain_at .later [] [.data] true (true, "5343993735a6796f50623d127ce6b9207b28942770deceed6d4303fa040c3cfe") true
    flatShift_holds (fun _ h => by cases h) (by kernel_rfl) (fun _ h => by cases h) flatShift_row_tie rfl ⟨rfl, rfl⟩ (by kernel_rfl) rfl
    (fun f fn hf hfn => by
      obtain rfl : f = 7 := Option.some.inj ((show Tryd.prog.funcNamed "honeycomb/honeycomblaw08.FlatShift" = some 7 by kernel_rfl).symm.trans hf) |>.symm
      obtain rfl : fn = Tryd.f7 := (Option.some.inj (Tryd.func7.symm.trans hfn)).symm
      refine ⟨by kernel_rfl, fun j t ht => ?_⟩
      have hall : (Tryd.f7.params.toList.all fun t => !Tryd.prog.wantsStandIn t) = true := by kernel_rfl
      have hmem : t ∈ Tryd.f7.params.toList := by
        have := Array.mem_of_getElem? ht
        simpa using this
      have := List.all_eq_true.1 hall t hmem
      exact (by simpa using this : Tryd.prog.wantsStandIn t = false))
    (by kernel_rfl)
#print axioms flatShift_card
end Go.Proofs.YtaeenefdbahfoaaDoor
