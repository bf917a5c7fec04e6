/- Parts of the proof of BlockParts, merged out of our texts by wip/tools/pack.py. -/
import Derived.Test.YtieekbdododkkaaDoorKBlockParts0
import Derived.Test.YtieekbdododkkaaDoorKBlockParts1
import Derived.Laws.BitsAllLaws
import Derived.BigRegion
import Derived.Deep.RegionHeld3
namespace Go.Proofs.YtieekbdododkkaaDoor
set_option linter.unusedSimpArgs false
set_option linter.unusedVariables false
set_option maxRecDepth 100000
set_option maxHeartbeats 16000000
open Go.RowKit Go.Proofs.YtieekbdododkkaaDoorW.PrintWords Go.Proofs.YtieekbdododkkaaDoorW.PrintLast Go.Proofs.YtieekbdododkkaaDoorW.PrintMore
namespace H
attribute [local go_sem] max2_int min2_int max_two min_two max_three min_three max_four min_four
mutual
def honeycombref10_Cells.l0 : Nat → Int → List (S42) → List Int → Int → Int → Option ((List (S42)))
 | 0, _, _, _, _, _ => none
 | k + 1, x0, x5, x11, x12, x13 => if x13 < x12 then (if 0 ≤ x13 then (if x13 < (x11.length : Int) then ((honeycombref09_Cells.f k (rd x11 x13) (wrap64 ((Int.tmod x13 2) * 4)) (wrap64 ((wrap64 (Int.tdiv x13 2)) * 4))).bind fun t195 => (honeycombref10_Cells.l1 k x0 x5 x11 x12 x13 t195 (t195.length : Int) 0)) else (none)) else (none)) else ((honeycombref04_Of.f k x5).bind fun t191 => (some t191))
def honeycombref10_Cells.l1 : Nat → Int → List (S42) → List Int → Int → Int → List (S42) → Int → Int → Option ((List (S42)))
 | 0, _, _, _, _, _, _, _, _ => none
 | k + 1, x0, x5, x11, x12, x13, x25, x26, x27 => if x27 < x26 then (if 0 ≤ x27 then (if x27 < (x25.length : Int) then (if x0 > 1 then (if x5.length < 5864062014805 then (honeycombref10_Cells.l1 k x0 (x5 ++ [(⟨(rd_T42 x25 x27).f0, (rd_T42 x25 x27).f1, (rd_T42 x25 x27).f2⟩ : S42)]) x11 x12 x13 x25 x26 (wrap64 (x27 + 1))) else (none)) else (if ((rd_T42 x25 x27).f2) = 0 then (if x5.length < 5864062014805 then (honeycombref10_Cells.l1 k x0 (x5 ++ [(⟨(rd_T42 x25 x27).f0, (rd_T42 x25 x27).f1, (rd_T42 x25 x27).f2⟩ : S42)]) x11 x12 x13 x25 x26 (wrap64 (x27 + 1))) else (none)) else (honeycombref10_Cells.l1 k x0 x5 x11 x12 x13 x25 x26 (wrap64 (x27 + 1))))) else (none)) else (none)) else (honeycombref10_Cells.l0 k x0 x5 x11 x12 (wrap64 (x13 + 1)))
end
def honeycombref10_Cells.f (k : Nat) (a0 : Int) (l1 : List Int) : Option ((List (S42))) := honeycombref10_Cells.l0 k a0 (([] : List (S42))) l1 (l1.length : Int) 0
theorem honeycombref10_Cells.calls (k : Nat) (a0 : Int) (A1 : Option Addr) (c1 : Nat) (l1 : List Int) (r : List (S42)) (w : World) (hr1 : Kd.C (Kd.int .u32) w A1 l1.length l1) (hc1 : l1.length ≤ c1) (h : honeycombref10_Cells.f k a0 l1 = some r) :
  Calls Tryd.prog 12 #[.int .i64 a0, .slice A1 l1.length c1] w fun e w' => ∃ v0_ : Value, e = .returned (v0_) ∧ Kd.R k42 42 w' w.heap.size (fun _ => True) v0_ r ∧ Below w.heap.size w w' := by
 have hu42 := Tryd.underlying42
 have HR1 := Aside0.mk hr1
 have HC1 := Aside0.mk hc1
 clear hr1 hc1
 have HB := Aside0.mk (Below.refl w.heap.size w)
 have H : (honeycombref10_Cells.l0 k a0 (([] : List (S42))) l1 (l1.length : Int) 0) = some r := h
 clear h
 obtain ⟨y188, hy188⟩ : ∃ y_ : List (S42), y_ = (([] : List (S42))) := ⟨_, rfl⟩
 replace H : (honeycombref10_Cells.l0 k a0 y188 l1 (l1.length : Int) 0) = some r := by first | (rw [hy188]; with_reducible exact H) | (have H2_ := (Option.bind_some _ _).symm.trans H; rw [hy188]; with_reducible exact H2_) | (have H2_ := (Option.bind_some _ _).symm.trans H; with_reducible exact H2_) | with_reducible exact H | (rw [hy188]; exact H) | exact H
 have Ny188 := Aside0.mk hy188
 clear hy188
 have H' := Aside0.mk H
 clear H
 go_enter Tryd.func12, Tryd.ntmps12
 go_wp2_with (first | ((with_reducible refine gate_dst (N := 10) rfl ?_); refine Kd.R_lit k42 _ 42 ?hg (N := 10) ?hd (xs := ([] : List (S42))) (inner := []) (ok := fun _ => True) (okp := fun _ => True) ?hr ?hp (fun _ hk => hk) trivial (Below.refl _ _) (Nat.le_refl _) (by simp) ?_; (case hd => rfl); (case hg => rfl); (case hr => first | (go_simp; done) | (go_simp; rfl)); (case hp => exact (Reps.none _ _)); intro v189 w3 ho4 hb hg_ hnew_; clear hg_ hnew_; (first | rw [← Ny188.out] at ho4 | (simp only [Int.reduceToNat] at ho4; rw [← Ny188.out] at ho4)); have n0_ := Aside0.mk (Kd.R_lower ho4 (below_size (by repeat (first | (with_reducible first | exact HB.out | apply ba_ | apply bn_ | apply bd_) | exact HB.out)))); have n1_ := Aside0.mk (below_step (by repeat (first | (with_reducible first | exact HB.out | apply ba_ | apply bn_ | apply bd_) | exact HB.out)) hb); clear HB; have HO190 := n0_; have HB := n1_; clear n0_ n1_; clear hb ho4))
 go_loopg [5, 13] k (fun kq v5 v13 w' => ∃ (x5_1 : List (S42)) (x13_1 : Int), v13 = .int .i64 x13_1 ∧ Aside0 (honeycombref10_Cells.l0 kq a0 x5_1 l1 (l1.length : Int) x13_1 = some r) ∧ Aside0 (kq ≤ k) ∧ Aside0 (Kd.R k42 42 w' w.heap.size (fun _ => True) v5 x5_1) ∧ Aside0 (Below w.heap.size w w'))
 case atStart => exact ⟨(y188), (0), (by first | rfl | (simp; done) | (simp [*]; done)), H', ⟨Nat.le_refl _⟩, ⟨by (with_reducible repeat (first | apply Kd.R_alloc | apply Kd.R_drewN | apply Kd.R_drew)); exact HO190.out⟩, ⟨by repeat (first | (with_reducible first | exact HB.out | apply ba_ | apply bn_ | apply bd_) | exact HB.out)⟩⟩
 case round =>
  clear H'
  try clear c1
  try clear p2
  obtain ⟨x5_1, x13_1, rfl, HA, HK1, HO_5, HB⟩ := hrel
  cases gk with
  | zero => exact absurd HA.out (by simp [honeycombref10_Cells.l0])
  | succ k1 =>
   have H := HA.out
   clear HA
   simp only [honeycombref10_Cells.l0] at H
   by_cases c5 : x13_1 < (l1.length : Int)
   ·
    rw [if_pos c5] at H
    have c5b0 : decide (x13_1 < (l1.length : Int)) = true := decide_eq_true c5
    clear c5
    by_cases c6 : 0 ≤ x13_1
    ·
     rw [if_pos c6] at H
     have c6b0 : decide (0 ≤ x13_1) = true := decide_eq_true c6
     clear c6
     by_cases c7 : x13_1 < (l1.length : Int)
     ·
      rw [if_pos c7] at H
      have c7b0 : decide (x13_1 < (l1.length : Int)) = true := decide_eq_true c7
      clear c7
      replace H := Option.bind_eq_some_iff.mp H
      obtain ⟨t195, A80, H⟩ := H
      replace H : (honeycombref10_Cells.l1 k1 a0 x5_1 l1 (l1.length : Int) x13_1 t195 (t195.length : Int) 0) = some r := H
      have A8 := Aside0.mk A80
      clear A80
      have H' := Aside0.mk H
      clear H
      have p194 : 0 ≤ (x13_1 : Int) := of_decide_eq_true (by first | (with_reducible assumption) | assumption)
      have q194 : x13_1 < (l1.length : Int) := of_decide_eq_true (by first | (with_reducible assumption) | assumption)
      obtain ⟨ad194, e194, hx194_0⟩ := Kd.at_int HR1.out x13_1 p194 q194
      cases e194
      try replace hx194_0 := (HB.out.cell (World.block_lt_of_cell? w _ hx194_0)).trans hx194_0
      replace p194 := eq_true p194
      replace q194 := eq_true q194
      go_wp2_with (first | ((with_reducible refine gate_callee (f := 45) rfl ?_); refine goesL_ (some 25) rfl rfl Tryd.func45 (by kernel_rfl) rfl #[.int .u32 (rd l1 x13_1), .int .i64 (wrap64 ((Int.tmod x13_1 2) * 4)), .int .i64 (wrap64 ((wrap64 (Int.tdiv x13_1 2)) * 4))] rfl (by (try simp only [List.map_toArray, List.map_cons, List.map_nil]); first | done | rfl | (simp only [List.length_drop, List.length_take]; rfl)) ?_; (with_reducible refine (honeycombref09_Cells.calls k1 (rd l1 x13_1) (wrap64 ((Int.tmod x13_1 2) * 4)) (wrap64 ((wrap64 (Int.tdiv x13_1 2)) * 4)) t195 _ A8.out).mono ?_); rintro e w9 ⟨v196, rfl, ho0, hb⟩; refine ⟨_, rfl, ?_⟩; have n0_ := Aside0.mk (Kd.R_elder' (by (with_reducible repeat (first | apply Kd.R_alloc | apply Kd.R_drewN | apply Kd.R_drew)); exact HO_5.out) (Kd.R_base ho0) hb); have n1_ := Aside0.mk (Kd.R_lower (Kd.R_new' ho0 (Kd.R_lt (by (with_reducible repeat (first | apply Kd.R_alloc | apply Kd.R_drewN | apply Kd.R_drew)); exact HO_5.out))) (below_size (by repeat (first | (with_reducible first | exact HB.out | apply ba_ | apply bn_ | apply bd_) | exact HB.out)))); have n2_ := Aside0.mk (below_step (by repeat (first | (with_reducible first | exact HB.out | apply ba_ | apply bn_ | apply bd_) | exact HB.out)) hb); clear HO_5; clear HB; have HO_5 := n0_; have HO197 := n1_; have HB := n2_; clear n0_ n1_ n2_; (try clear hb); (try clear hb2); (try clear hk); (try clear hi); (try clear ho0); obtain ⟨Ao10, co10, eo10⟩ := Kd.R_slice HO197.out; subst eo10))
      go_loopg [5, 27] k1 (fun kq v5 v27 w' => ∃ (x5_2 : List (S42)) (x27_2 : Int), v27 = .int .i64 x27_2 ∧ Aside0 (honeycombref10_Cells.l1 kq a0 x5_2 l1 (l1.length : Int) x13_1 t195 (t195.length : Int) x27_2 = some r) ∧ Aside0 (kq ≤ k1) ∧ Aside0 (Kd.R k42 42 w' w.heap.size (fun k_ => some k_ ≠ ((.slice Ao10 t195.length co10) : Value).ownBlock) v5 x5_2) ∧ Aside0 (Kd.R k42 42 w' w.heap.size (fun k_ => some k_ ≠ (v5 : Value).ownBlock) (.slice Ao10 t195.length co10) t195) ∧ Aside0 (Below w.heap.size w w'))
      case atStart => exact ⟨(x5_1), (0), (by first | rfl | (simp; done) | (simp [*]; done)), H', ⟨Nat.le_refl _⟩, ⟨by (with_reducible repeat (first | apply Kd.R_alloc | apply Kd.R_drewN | apply Kd.R_drew)); exact Kd.R_mono HO_5.out (fun _ hk => hk.2)⟩, ⟨by (with_reducible repeat (first | apply Kd.R_alloc | apply Kd.R_drewN | apply Kd.R_drew)); exact Kd.R_mono HO197.out (fun _ hk => hk.2)⟩, ⟨by repeat (first | (with_reducible first | exact HB.out | apply ba_ | apply bn_ | apply bd_) | exact HB.out)⟩⟩
      case round =>
       clear H'
       try clear c1
       try clear p1
       try clear q1
       try clear hx1
       try clear p2
       try clear c4
       try clear c5
       try clear c5b0
       try clear c6
       try clear c6b0
       try clear p6
       try clear c7
       try clear c7b0
       try clear hx194_0
       try clear p194
       try clear p2
       try clear q194
       obtain ⟨x5_2, x27_2, rfl, HA, HK2, HO_5, HO_25, HB⟩ := hrel
       cases gk with
       | zero => exact absurd HA.out (by simp [honeycombref10_Cells.l1])
       | succ k2 =>
        have H := HA.out
        clear HA
        simp only [honeycombref10_Cells.l1] at H
        by_cases c11 : x27_2 < (t195.length : Int)
        ·
         rw [if_pos c11] at H
         have c11b0 : decide (x27_2 < (t195.length : Int)) = true := decide_eq_true c11
         clear c11
         by_cases c12 : 0 ≤ x27_2
         ·
          rw [if_pos c12] at H
          have c12b0 : decide (0 ≤ x27_2) = true := decide_eq_true c12
          clear c12
          by_cases c13 : x27_2 < (t195.length : Int)
          ·
           rw [if_pos c13] at H
           have c13b0 : decide (x27_2 < (t195.length : Int)) = true := decide_eq_true c13
           clear c13
           by_cases c14 : a0 > 1
           ·
            rw [if_pos c14] at H
            have c14b0 : decide (1 < a0) = true := decide_eq_true c14
            clear c14
            by_cases c15 : x5_2.length < 5864062014805
            ·
             rw [if_pos c15] at H
             have LMc15 := Aside0.mk c15
             clear c15
             obtain ⟨y200, hy200⟩ : ∃ y_ : List (S42), y_ = (x5_2 ++ [(⟨(rd_T42 t195 x27_2).f0, (rd_T42 t195 x27_2).f1, (rd_T42 t195 x27_2).f2⟩ : S42)]) := ⟨_, rfl⟩
             replace H : (honeycombref10_Cells.l1 k2 a0 y200 l1 (l1.length : Int) x13_1 t195 (t195.length : Int) (wrap64 (x27_2 + 1))) = some r := by first | (rw [hy200]; with_reducible exact H) | (have H2_ := (Option.bind_some _ _).symm.trans H; rw [hy200]; with_reducible exact H2_) | (have H2_ := (Option.bind_some _ _).symm.trans H; with_reducible exact H2_) | with_reducible exact H | (rw [hy200]; exact H) | exact H
             have Ny200 := Aside0.mk hy200
             clear hy200
             have H' := Aside0.mk H
             clear H
             have p198 : 0 ≤ (x27_2 : Int) := of_decide_eq_true (by first | (with_reducible assumption) | assumption)
             have q198 : x27_2 < (t195.length : Int) := of_decide_eq_true (by first | (with_reducible assumption) | assumption)
             obtain ⟨ad198, e198, hx198_0, hx198_1, hx198_2⟩ := at_T42 (Kd.R_reads' HO_25.out).2.2 x27_2 p198 q198
             cases e198
             replace p198 := eq_true p198
             replace q198 := eq_true q198
             go_wp2_with (first | ((with_reducible refine gate_dst (N := 9) rfl ?_); refine box_event ?hg (N := 9) ?hd (cs := #[.int .i64 0, .int .i64 0, .int .i64 0]) (t := 42) ?hr ?_; (case hd => rfl); (case hg => rfl); (case hr => first | (go_simp; done) | (go_simp; rfl)); intro gb199 hg w16 hbox hb; have n0_ := Aside0.mk (Kd.R_below (Kd.R_elderB (by (with_reducible repeat (first | apply Kd.R_alloc | apply Kd.R_drewN | apply Kd.R_drew)); exact HO_5.out) gb199 (Nat.le_of_eq hg.symm)) hb); have n1_ := Aside0.mk (Kd.R_below (Kd.R_elderB (by (with_reducible repeat (first | apply Kd.R_alloc | apply Kd.R_drewN | apply Kd.R_drew)); exact HO_25.out) gb199 (Nat.le_of_eq hg.symm)) hb); have n2_ := Aside0.mk (below_step (by repeat (first | (with_reducible first | exact HB.out | apply ba_ | apply bn_ | apply bd_) | exact HB.out)) hb); have n3_ := Aside0.mk (hbox); have n4_ := Aside0.mk ((by rw [hg]; exact (below_size (by repeat (first | (with_reducible first | exact HB.out | apply ba_ | apply bn_ | apply bd_) | exact HB.out))) : w.heap.size ≤ gb199)); have n5_ := Aside0.mk ((by rw [hg]; exact (below_size (by repeat (first | (with_reducible first | exact HB.out | apply ba_ | apply bn_ | apply bd_) | exact HB.out))) : w.heap.size ≤ gb199)); clear HO_5; clear HO_25; clear HB; have HO_5 := n0_; have HO_25 := n1_; have HB := n2_; have BK199 := n3_; have GW199 := n4_; have GE199 := n5_; clear n0_ n1_ n2_ n3_ n4_ n5_; clear hb hbox hg; have hcz17_0 : w16.cell? ⟨gb199, 0, none⟩ = some (.int .i64 0) := (blk_cell BK199.out 0).trans rfl; have hcz17_1 : w16.cell? ⟨gb199, 1, none⟩ = some (.int .i64 0) := (blk_cell BK199.out 1).trans rfl; have hcz17_2 : w16.cell? ⟨gb199, 2, none⟩ = some (.int .i64 0) := (blk_cell BK199.out 2).trans rfl; have hfz17_0 := blk_frozen BK199.out 0; have hfz17_1 := blk_frozen BK199.out 1; have hfz17_2 := blk_frozen BK199.out 2) | ((with_reducible refine gate_builtin (b := .append) (xs := #[.tmp 38, .tmp 40]) rfl ?_); at_builtin; refine Kd.R_append k42 (w0 := w) w.heap.size rfl (.tmp 38) (.tmp 40) 28 42 (.agg #[(.int .i64 0), (.int .i64 0), (.int .i64 0)]) 24 rfl Tryd.underlying28 info42 rfl (by decide) (by omega) u5 x5_2 (⟨(rd_T42 t195 x27_2).f0, (rd_T42 t195 x27_2).f1, (rd_T42 t195 x27_2).f2⟩ : S42) [.int .i64 ((rd_T42 t195 x27_2).f0), .int .i64 ((rd_T42 t195 x27_2).f1), .int .i64 ((rd_T42 t195 x27_2).f2)] (fun k_ => some k_ ≠ (.slice (some ad198) t195.length co10 : Value).ownBlock ∧ k_ ≠ gb199) (fun _ => False) rfl (by first | (go_simp; done) | (go_simp; rfl)) ?aP (fun _ hk => hk.elim) ?aF ?aO ?aB ?aS ?aL ?_; (case aP => exact k42_mkM _ _ _ (⟨(rd_T42 t195 x27_2).f0, (rd_T42 t195 x27_2).f1, (rd_T42 t195 x27_2).f2⟩ : S42)); (case aB => exact (by repeat (first | (with_reducible first | exact HB.out | apply ba_ | apply bn_ | apply bd_ | refine below_set ?_ GE199.out) | exact HB.out))); (case aF => exact (fun k_ hk => ⟨Kd.fresh' (Kd.R_lt (by (with_reducible repeat (first | apply Kd.R_alloc | apply Kd.R_drewN | apply Kd.R_drew)); exact (Kd.R_mono (Kd.R_far (p := ⟨gb199, 2, none⟩) (Kd.R_far (p := ⟨gb199, 1, none⟩) (Kd.R_far (p := ⟨gb199, 0, none⟩) (Kd.R_mono HO_25.out (fun k_ hk => (⟨hk, hk.2⟩ : _ ∧ k_ ≠ gb199))) (fun _ hk => hk.2) (.int .i64 ((rd_T42 t195 x27_2).f0))) (fun _ hk => hk.2) (.int .i64 ((rd_T42 t195 x27_2).f1))) (fun _ hk => hk.2) (.int .i64 ((rd_T42 t195 x27_2).f2))) (fun _ h_ => h_.1)))) k_ hk, Kd.freshB (g := gb199) (o := .cells #[.int .i64 ((rd_T42 t195 x27_2).f0), .int .i64 ((rd_T42 t195 x27_2).f1), .int .i64 ((rd_T42 t195 x27_2).f2)] 42 (0, 0)) (by (with_reducible repeat (first | apply bN_ | apply bD_ | apply bA_)); refine blk_put (cs := #[.int .i64 ((rd_T42 t195 x27_2).f0), .int .i64 ((rd_T42 t195 x27_2).f1), .int .i64 0]) ?_ 2 _ rfl; (with_reducible repeat (first | apply bN_ | apply bD_ | apply bA_)); refine blk_put (cs := #[.int .i64 ((rd_T42 t195 x27_2).f0), .int .i64 0, .int .i64 0]) ?_ 1 _ rfl; (with_reducible repeat (first | apply bN_ | apply bD_ | apply bA_)); refine blk_put (cs := #[.int .i64 0, .int .i64 0, .int .i64 0]) ?_ 0 _ rfl; (with_reducible repeat (first | apply bN_ | apply bD_ | apply bA_)); exact BK199.out) k_ hk⟩)); (case aO => exact (by (with_reducible repeat (first | apply Kd.R_alloc | apply Kd.R_drewN | apply Kd.R_drew)); exact Kd.R_mono (Kd.R_far (p := ⟨gb199, 2, none⟩) (Kd.R_far (p := ⟨gb199, 1, none⟩) (Kd.R_far (p := ⟨gb199, 0, none⟩) (Kd.R_mono HO_5.out (fun k_ hk => (⟨hk, hk.2⟩ : _ ∧ k_ ≠ gb199))) (fun _ hk => hk.2) (.int .i64 ((rd_T42 t195 x27_2).f0))) (fun _ hk => hk.2) (.int .i64 ((rd_T42 t195 x27_2).f1))) (fun _ hk => hk.2) (.int .i64 ((rd_T42 t195 x27_2).f2))) (fun _ hk => ⟨hk.1.1, hk.1.2⟩))); (case aS => exact (below_size (by repeat (first | (with_reducible first | exact HB.out | apply ba_ | apply bn_ | apply bd_ | refine below_set ?_ GE199.out) | exact HB.out)))); (case aL => have := LMc15.out; omega); intro v201 w18 ho hb hg hat; rw [← Ny200.out] at ho; have n0_ := Aside0.mk (Kd.R_after (ok := (fun k_ => k_ ≠ gb199)) (by (with_reducible repeat (first | apply Kd.R_alloc | apply Kd.R_drewN | apply Kd.R_drew)); exact Kd.R_mono (Kd.R_far (p := ⟨gb199, 2, none⟩) (Kd.R_far (p := ⟨gb199, 1, none⟩) (Kd.R_far (p := ⟨gb199, 0, none⟩) (Kd.R_mono HO_25.out (fun k_ hk => (⟨hk, hk.2⟩ : _ ∧ k_ ≠ gb199))) (fun _ hk => hk.2) (.int .i64 ((rd_T42 t195 x27_2).f0))) (fun _ hk => hk.2) (.int .i64 ((rd_T42 t195 x27_2).f1))) (fun _ hk => hk.2) (.int .i64 ((rd_T42 t195 x27_2).f2))) (fun _ hk => ⟨hk.1.2, hk.1.1⟩)) hg hat); have n1_ := Aside0.mk (blk_grown (g := gb199) (o := .cells #[.int .i64 ((rd_T42 t195 x27_2).f0), .int .i64 ((rd_T42 t195 x27_2).f1), .int .i64 ((rd_T42 t195 x27_2).f2)] 42 (0, 0)) (by (with_reducible repeat (first | apply bN_ | apply bD_ | apply bA_)); refine blk_put (cs := #[.int .i64 ((rd_T42 t195 x27_2).f0), .int .i64 ((rd_T42 t195 x27_2).f1), .int .i64 0]) ?_ 2 _ rfl; (with_reducible repeat (first | apply bN_ | apply bD_ | apply bA_)); refine blk_put (cs := #[.int .i64 ((rd_T42 t195 x27_2).f0), .int .i64 0, .int .i64 0]) ?_ 1 _ rfl; (with_reducible repeat (first | apply bN_ | apply bD_ | apply bA_)); refine blk_put (cs := #[.int .i64 0, .int .i64 0, .int .i64 0]) ?_ 0 _ rfl; (with_reducible repeat (first | apply bN_ | apply bD_ | apply bA_)); exact BK199.out) hg (Kd.R_away HO_5.out (fun _ hk => hk.2))); have n2_ := Aside0.mk (hb); have n3_ := Aside0.mk (ho); clear HO_25; clear BK199; clear HB; clear HO_5; have HO_25 := n0_; have BK199 := n1_; have HB := n2_; have HO202 := n3_; clear n0_ n1_ n2_ n3_; clear ho hb hg hat))
             go_roundg k2
             case measure => have := HK1.out; have := HK2.out; omega
             case rel => exact ⟨(y200), (wrap64 (x27_2 + 1)), (by first | rfl | (simp; done) | (simp [*]; done)), H', ⟨by have := HK1.out; have := HK2.out; omega⟩, ⟨by (with_reducible repeat (first | apply Kd.R_alloc | apply Kd.R_drewN | apply Kd.R_drew)); exact Kd.R_mono HO202.out (fun _ hk => hk.1)⟩, ⟨by (with_reducible repeat (first | apply Kd.R_alloc | apply Kd.R_drewN | apply Kd.R_drew)); exact Kd.R_mono HO_25.out (fun _ hk => hk.2)⟩, ⟨by repeat (first | (with_reducible first | exact HB.out | apply ba_ | apply bn_ | apply bd_ | refine below_set ?_ GE199.out) | exact HB.out)⟩⟩
            ·
             rw [if_neg c15] at H
             exact absurd H (by simp)
           ·
            rw [if_neg c14] at H
            have c14b0 : decide (1 < a0) = false := decide_eq_false c14
            clear c14
            by_cases c19 : ((rd_T42 t195 x27_2).f2) = 0
            ·
             rw [if_pos c19] at H
             have c19b0 : (((rd_T42 t195 x27_2).f2) == 0) = true := beq_iff_eq.mpr c19
             have c19b1 : (((rd_T42 t195 x27_2).f2) != 0) = false := bne_eq_false_iff_eq.mpr c19
             clear c19
             by_cases c20 : x5_2.length < 5864062014805
             ·
              rw [if_pos c20] at H
              have LMc20 := Aside0.mk c20
              clear c20
              obtain ⟨y203, hy203⟩ : ∃ y_ : List (S42), y_ = (x5_2 ++ [(⟨(rd_T42 t195 x27_2).f0, (rd_T42 t195 x27_2).f1, (rd_T42 t195 x27_2).f2⟩ : S42)]) := ⟨_, rfl⟩
              replace H : (honeycombref10_Cells.l1 k2 a0 y203 l1 (l1.length : Int) x13_1 t195 (t195.length : Int) (wrap64 (x27_2 + 1))) = some r := by first | (rw [hy203]; with_reducible exact H) | (have H2_ := (Option.bind_some _ _).symm.trans H; rw [hy203]; with_reducible exact H2_) | (have H2_ := (Option.bind_some _ _).symm.trans H; with_reducible exact H2_) | with_reducible exact H | (rw [hy203]; exact H) | exact H
              have Ny203 := Aside0.mk hy203
              clear hy203
              have H' := Aside0.mk H
              clear H
              have p198 : 0 ≤ (x27_2 : Int) := of_decide_eq_true (by first | (with_reducible assumption) | assumption)
              have q198 : x27_2 < (t195.length : Int) := of_decide_eq_true (by first | (with_reducible assumption) | assumption)
              obtain ⟨ad198, e198, hx198_0, hx198_1, hx198_2⟩ := at_T42 (Kd.R_reads' HO_25.out).2.2 x27_2 p198 q198
              cases e198
              replace p198 := eq_true p198
              replace q198 := eq_true q198
              go_wp2_with (first | ((with_reducible refine gate_dst (N := 9) rfl ?_); refine box_event ?hg (N := 9) ?hd (cs := #[.int .i64 0, .int .i64 0, .int .i64 0]) (t := 42) ?hr ?_; (case hd => rfl); (case hg => rfl); (case hr => first | (go_simp; done) | (go_simp; rfl)); intro gb199 hg w21 hbox hb; have n0_ := Aside0.mk (Kd.R_below (Kd.R_elderB (by (with_reducible repeat (first | apply Kd.R_alloc | apply Kd.R_drewN | apply Kd.R_drew)); exact HO_5.out) gb199 (Nat.le_of_eq hg.symm)) hb); have n1_ := Aside0.mk (Kd.R_below (Kd.R_elderB (by (with_reducible repeat (first | apply Kd.R_alloc | apply Kd.R_drewN | apply Kd.R_drew)); exact HO_25.out) gb199 (Nat.le_of_eq hg.symm)) hb); have n2_ := Aside0.mk (below_step (by repeat (first | (with_reducible first | exact HB.out | apply ba_ | apply bn_ | apply bd_) | exact HB.out)) hb); have n3_ := Aside0.mk (hbox); have n4_ := Aside0.mk ((by rw [hg]; exact (below_size (by repeat (first | (with_reducible first | exact HB.out | apply ba_ | apply bn_ | apply bd_) | exact HB.out))) : w.heap.size ≤ gb199)); have n5_ := Aside0.mk ((by rw [hg]; exact (below_size (by repeat (first | (with_reducible first | exact HB.out | apply ba_ | apply bn_ | apply bd_) | exact HB.out))) : w.heap.size ≤ gb199)); clear HO_5; clear HO_25; clear HB; have HO_5 := n0_; have HO_25 := n1_; have HB := n2_; have BK199 := n3_; have GW199 := n4_; have GE199 := n5_; clear n0_ n1_ n2_ n3_ n4_ n5_; clear hb hbox hg; have hcz22_0 : w21.cell? ⟨gb199, 0, none⟩ = some (.int .i64 0) := (blk_cell BK199.out 0).trans rfl; have hcz22_1 : w21.cell? ⟨gb199, 1, none⟩ = some (.int .i64 0) := (blk_cell BK199.out 1).trans rfl; have hcz22_2 : w21.cell? ⟨gb199, 2, none⟩ = some (.int .i64 0) := (blk_cell BK199.out 2).trans rfl; have hfz22_0 := blk_frozen BK199.out 0; have hfz22_1 := blk_frozen BK199.out 1; have hfz22_2 := blk_frozen BK199.out 2) | ((with_reducible refine gate_builtin (b := .append) (xs := #[.tmp 38, .tmp 40]) rfl ?_); at_builtin; refine Kd.R_append k42 (w0 := w) w.heap.size rfl (.tmp 38) (.tmp 40) 28 42 (.agg #[(.int .i64 0), (.int .i64 0), (.int .i64 0)]) 24 rfl Tryd.underlying28 info42 rfl (by decide) (by omega) u5 x5_2 (⟨(rd_T42 t195 x27_2).f0, (rd_T42 t195 x27_2).f1, (rd_T42 t195 x27_2).f2⟩ : S42) [.int .i64 ((rd_T42 t195 x27_2).f0), .int .i64 ((rd_T42 t195 x27_2).f1), .int .i64 ((rd_T42 t195 x27_2).f2)] (fun k_ => some k_ ≠ (.slice (some ad198) t195.length co10 : Value).ownBlock ∧ k_ ≠ gb199) (fun _ => False) rfl (by first | (go_simp; done) | (go_simp; rfl)) ?aP (fun _ hk => hk.elim) ?aF ?aO ?aB ?aS ?aL ?_; (case aP => exact k42_mkM _ _ _ (⟨(rd_T42 t195 x27_2).f0, (rd_T42 t195 x27_2).f1, (rd_T42 t195 x27_2).f2⟩ : S42)); (case aB => exact (by repeat (first | (with_reducible first | exact HB.out | apply ba_ | apply bn_ | apply bd_ | refine below_set ?_ GE199.out) | exact HB.out))); (case aF => exact (fun k_ hk => ⟨Kd.fresh' (Kd.R_lt (by (with_reducible repeat (first | apply Kd.R_alloc | apply Kd.R_drewN | apply Kd.R_drew)); exact (Kd.R_mono (Kd.R_far (p := ⟨gb199, 2, none⟩) (Kd.R_far (p := ⟨gb199, 1, none⟩) (Kd.R_far (p := ⟨gb199, 0, none⟩) (Kd.R_mono HO_25.out (fun k_ hk => (⟨hk, hk.2⟩ : _ ∧ k_ ≠ gb199))) (fun _ hk => hk.2) (.int .i64 ((rd_T42 t195 x27_2).f0))) (fun _ hk => hk.2) (.int .i64 ((rd_T42 t195 x27_2).f1))) (fun _ hk => hk.2) (.int .i64 ((rd_T42 t195 x27_2).f2))) (fun _ h_ => h_.1)))) k_ hk, Kd.freshB (g := gb199) (o := .cells #[.int .i64 ((rd_T42 t195 x27_2).f0), .int .i64 ((rd_T42 t195 x27_2).f1), .int .i64 ((rd_T42 t195 x27_2).f2)] 42 (0, 0)) (by (with_reducible repeat (first | apply bN_ | apply bD_ | apply bA_)); refine blk_put (cs := #[.int .i64 ((rd_T42 t195 x27_2).f0), .int .i64 ((rd_T42 t195 x27_2).f1), .int .i64 0]) ?_ 2 _ rfl; (with_reducible repeat (first | apply bN_ | apply bD_ | apply bA_)); refine blk_put (cs := #[.int .i64 ((rd_T42 t195 x27_2).f0), .int .i64 0, .int .i64 0]) ?_ 1 _ rfl; (with_reducible repeat (first | apply bN_ | apply bD_ | apply bA_)); refine blk_put (cs := #[.int .i64 0, .int .i64 0, .int .i64 0]) ?_ 0 _ rfl; (with_reducible repeat (first | apply bN_ | apply bD_ | apply bA_)); exact BK199.out) k_ hk⟩)); (case aO => exact (by (with_reducible repeat (first | apply Kd.R_alloc | apply Kd.R_drewN | apply Kd.R_drew)); exact Kd.R_mono (Kd.R_far (p := ⟨gb199, 2, none⟩) (Kd.R_far (p := ⟨gb199, 1, none⟩) (Kd.R_far (p := ⟨gb199, 0, none⟩) (Kd.R_mono HO_5.out (fun k_ hk => (⟨hk, hk.2⟩ : _ ∧ k_ ≠ gb199))) (fun _ hk => hk.2) (.int .i64 ((rd_T42 t195 x27_2).f0))) (fun _ hk => hk.2) (.int .i64 ((rd_T42 t195 x27_2).f1))) (fun _ hk => hk.2) (.int .i64 ((rd_T42 t195 x27_2).f2))) (fun _ hk => ⟨hk.1.1, hk.1.2⟩))); (case aS => exact (below_size (by repeat (first | (with_reducible first | exact HB.out | apply ba_ | apply bn_ | apply bd_ | refine below_set ?_ GE199.out) | exact HB.out)))); (case aL => have := LMc20.out; omega); intro v204 w23 ho hb hg hat; rw [← Ny203.out] at ho; have n0_ := Aside0.mk (Kd.R_after (ok := (fun k_ => k_ ≠ gb199)) (by (with_reducible repeat (first | apply Kd.R_alloc | apply Kd.R_drewN | apply Kd.R_drew)); exact Kd.R_mono (Kd.R_far (p := ⟨gb199, 2, none⟩) (Kd.R_far (p := ⟨gb199, 1, none⟩) (Kd.R_far (p := ⟨gb199, 0, none⟩) (Kd.R_mono HO_25.out (fun k_ hk => (⟨hk, hk.2⟩ : _ ∧ k_ ≠ gb199))) (fun _ hk => hk.2) (.int .i64 ((rd_T42 t195 x27_2).f0))) (fun _ hk => hk.2) (.int .i64 ((rd_T42 t195 x27_2).f1))) (fun _ hk => hk.2) (.int .i64 ((rd_T42 t195 x27_2).f2))) (fun _ hk => ⟨hk.1.2, hk.1.1⟩)) hg hat); have n1_ := Aside0.mk (blk_grown (g := gb199) (o := .cells #[.int .i64 ((rd_T42 t195 x27_2).f0), .int .i64 ((rd_T42 t195 x27_2).f1), .int .i64 ((rd_T42 t195 x27_2).f2)] 42 (0, 0)) (by (with_reducible repeat (first | apply bN_ | apply bD_ | apply bA_)); refine blk_put (cs := #[.int .i64 ((rd_T42 t195 x27_2).f0), .int .i64 ((rd_T42 t195 x27_2).f1), .int .i64 0]) ?_ 2 _ rfl; (with_reducible repeat (first | apply bN_ | apply bD_ | apply bA_)); refine blk_put (cs := #[.int .i64 ((rd_T42 t195 x27_2).f0), .int .i64 0, .int .i64 0]) ?_ 1 _ rfl; (with_reducible repeat (first | apply bN_ | apply bD_ | apply bA_)); refine blk_put (cs := #[.int .i64 0, .int .i64 0, .int .i64 0]) ?_ 0 _ rfl; (with_reducible repeat (first | apply bN_ | apply bD_ | apply bA_)); exact BK199.out) hg (Kd.R_away HO_5.out (fun _ hk => hk.2))); have n2_ := Aside0.mk (hb); have n3_ := Aside0.mk (ho); clear HO_25; clear BK199; clear HB; clear HO_5; have HO_25 := n0_; have BK199 := n1_; have HB := n2_; have HO205 := n3_; clear n0_ n1_ n2_ n3_; clear ho hb hg hat))
              go_roundg k2
              case measure => have := HK1.out; have := HK2.out; omega
              case rel => exact ⟨(y203), (wrap64 (x27_2 + 1)), (by first | rfl | (simp; done) | (simp [*]; done)), H', ⟨by have := HK1.out; have := HK2.out; omega⟩, ⟨by (with_reducible repeat (first | apply Kd.R_alloc | apply Kd.R_drewN | apply Kd.R_drew)); exact Kd.R_mono HO205.out (fun _ hk => hk.1)⟩, ⟨by (with_reducible repeat (first | apply Kd.R_alloc | apply Kd.R_drewN | apply Kd.R_drew)); exact Kd.R_mono HO_25.out (fun _ hk => hk.2)⟩, ⟨by repeat (first | (with_reducible first | exact HB.out | apply ba_ | apply bn_ | apply bd_ | refine below_set ?_ GE199.out) | exact HB.out)⟩⟩
             ·
              rw [if_neg c20] at H
              exact absurd H (by simp)
            ·
             rw [if_neg c19] at H
             have c19b0 : (((rd_T42 t195 x27_2).f2) == 0) = false := beq_eq_false_iff_ne.mpr c19
             have c19b1 : (((rd_T42 t195 x27_2).f2) != 0) = true := bne_iff_ne.mpr c19
             have H' := Aside0.mk H
             clear H
             have p198 : 0 ≤ (x27_2 : Int) := of_decide_eq_true (by first | (with_reducible assumption) | assumption)
             have q198 : x27_2 < (t195.length : Int) := of_decide_eq_true (by first | (with_reducible assumption) | assumption)
             obtain ⟨ad198, e198, hx198_0, hx198_1, hx198_2⟩ := at_T42 (Kd.R_reads' HO_25.out).2.2 x27_2 p198 q198
             cases e198
             replace p198 := eq_true p198
             replace q198 := eq_true q198
             go_wp2_with (first | ((with_reducible refine gate_dst (N := 9) rfl ?_); refine box_event ?hg (N := 9) ?hd (cs := #[.int .i64 0, .int .i64 0, .int .i64 0]) (t := 42) ?hr ?_; (case hd => rfl); (case hg => rfl); (case hr => first | (go_simp; done) | (go_simp; rfl)); intro gb199 hg w24 hbox hb; have n0_ := Aside0.mk (Kd.R_below (Kd.R_elderB (by (with_reducible repeat (first | apply Kd.R_alloc | apply Kd.R_drewN | apply Kd.R_drew)); exact HO_5.out) gb199 (Nat.le_of_eq hg.symm)) hb); have n1_ := Aside0.mk (Kd.R_below (Kd.R_elderB (by (with_reducible repeat (first | apply Kd.R_alloc | apply Kd.R_drewN | apply Kd.R_drew)); exact HO_25.out) gb199 (Nat.le_of_eq hg.symm)) hb); have n2_ := Aside0.mk (below_step (by repeat (first | (with_reducible first | exact HB.out | apply ba_ | apply bn_ | apply bd_) | exact HB.out)) hb); have n3_ := Aside0.mk (hbox); have n4_ := Aside0.mk ((by rw [hg]; exact (below_size (by repeat (first | (with_reducible first | exact HB.out | apply ba_ | apply bn_ | apply bd_) | exact HB.out))) : w.heap.size ≤ gb199)); have n5_ := Aside0.mk ((by rw [hg]; exact (below_size (by repeat (first | (with_reducible first | exact HB.out | apply ba_ | apply bn_ | apply bd_) | exact HB.out))) : w.heap.size ≤ gb199)); clear HO_5; clear HO_25; clear HB; have HO_5 := n0_; have HO_25 := n1_; have HB := n2_; have BK199 := n3_; have GW199 := n4_; have GE199 := n5_; clear n0_ n1_ n2_ n3_ n4_ n5_; clear hb hbox hg; have hcz25_0 : w24.cell? ⟨gb199, 0, none⟩ = some (.int .i64 0) := (blk_cell BK199.out 0).trans rfl; have hcz25_1 : w24.cell? ⟨gb199, 1, none⟩ = some (.int .i64 0) := (blk_cell BK199.out 1).trans rfl; have hcz25_2 : w24.cell? ⟨gb199, 2, none⟩ = some (.int .i64 0) := (blk_cell BK199.out 2).trans rfl; have hfz25_0 := blk_frozen BK199.out 0; have hfz25_1 := blk_frozen BK199.out 1; have hfz25_2 := blk_frozen BK199.out 2))
             go_roundg k2
             case measure => have := HK1.out; have := HK2.out; omega
             case rel => exact ⟨(x5_2), (wrap64 (x27_2 + 1)), (by first | rfl | (simp; done) | (simp [*]; done)), H', ⟨by have := HK1.out; have := HK2.out; omega⟩, ⟨by (with_reducible repeat (first | apply Kd.R_alloc | apply Kd.R_drewN | apply Kd.R_drew)); exact Kd.R_mono (Kd.R_far (p := ⟨gb199, 2, none⟩) (Kd.R_far (p := ⟨gb199, 1, none⟩) (Kd.R_far (p := ⟨gb199, 0, none⟩) (Kd.R_mono HO_5.out (fun k_ hk => (⟨hk, hk.2⟩ : _ ∧ k_ ≠ gb199))) (fun _ hk => hk.2) (.int .i64 ((rd_T42 t195 x27_2).f0))) (fun _ hk => hk.2) (.int .i64 ((rd_T42 t195 x27_2).f1))) (fun _ hk => hk.2) (.int .i64 ((rd_T42 t195 x27_2).f2))) (fun _ hk => hk.1.1)⟩, ⟨by (with_reducible repeat (first | apply Kd.R_alloc | apply Kd.R_drewN | apply Kd.R_drew)); exact Kd.R_mono (Kd.R_far (p := ⟨gb199, 2, none⟩) (Kd.R_far (p := ⟨gb199, 1, none⟩) (Kd.R_far (p := ⟨gb199, 0, none⟩) (Kd.R_mono HO_25.out (fun k_ hk => (⟨hk, hk.2⟩ : _ ∧ k_ ≠ gb199))) (fun _ hk => hk.2) (.int .i64 ((rd_T42 t195 x27_2).f0))) (fun _ hk => hk.2) (.int .i64 ((rd_T42 t195 x27_2).f1))) (fun _ hk => hk.2) (.int .i64 ((rd_T42 t195 x27_2).f2))) (fun _ hk => hk.1.1)⟩, ⟨by repeat (first | (with_reducible first | exact HB.out | apply ba_ | apply bn_ | apply bd_ | refine below_set ?_ GE199.out) | exact HB.out)⟩⟩
          ·
           rw [if_neg c13] at H
           exact absurd H (by simp)
         ·
          rw [if_neg c12] at H
          exact absurd H (by simp)
        ·
         rw [if_neg c11] at H
         have c11b0 : decide (x27_2 < (t195.length : Int)) = false := decide_eq_false c11
         clear c11
         have H' := Aside0.mk H
         clear H
         go_wp2
         go_roundg k2
         case measure => have := HK1.out; have := HK2.out; omega
         case rel => exact ⟨(x5_2), (wrap64 (x13_1 + 1)), (by first | rfl | (simp; done) | (simp [*]; done)), H', ⟨by have := HK1.out; have := HK2.out; omega⟩, ⟨by (with_reducible repeat (first | apply Kd.R_alloc | apply Kd.R_drewN | apply Kd.R_drew)); exact Kd.R_mono HO_5.out (fun _ hk => trivial)⟩, ⟨by repeat (first | (with_reducible first | exact HB.out | apply ba_ | apply bn_ | apply bd_) | exact HB.out)⟩⟩
     ·
      rw [if_neg c7] at H
      exact absurd H (by simp)
    ·
     rw [if_neg c6] at H
     exact absurd H (by simp)
   ·
    rw [if_neg c5] at H
    have c5b0 : decide (x13_1 < (l1.length : Int)) = false := decide_eq_false c5
    clear c5
    replace H := Option.bind_eq_some_iff.mp H
    obtain ⟨t191, A260, H⟩ := H
    replace H : (some t191) = some r := H
    have A26 := Aside0.mk A260
    clear A260
    obtain rfl := Option.some.inj H
    obtain ⟨Ao27, co27, eo27⟩ := Kd.R_slice HO_5.out
    subst eo27
    go_wp2_with (first | ((with_reducible refine gate_callee (f := 46) rfl ?_); refine goesL_ (some 45) rfl rfl Tryd.func46 (by kernel_rfl) rfl #[.slice Ao27 x5_1.length co27] rfl (by (try simp only [List.map_toArray, List.map_cons, List.map_nil]); first | done | rfl | (simp only [List.length_drop, List.length_take]; rfl)) ?_; (with_reducible refine (honeycombref04_Of.calls k1 _ _ x5_1 t191 _ ?side1 ?side2 A26.out).mono ?_); (case side1 => repeat (first | exact (Kd.R_reads' HO_5.out).2.2 | (with_reducible refine Kd.C_alloc ?_ _) | (with_reducible refine Kd.C_drewN ?_ _) | (with_reducible refine Kd.C_drew ?_))); (case side2 => exact (Kd.R_reads' HO_5.out).2.1); rintro e w28 ⟨v192, rfl, ho0, hb⟩; refine ⟨_, rfl, ?_⟩; have n0_ := Aside0.mk (Kd.R_elder' (by (with_reducible repeat (first | apply Kd.R_alloc | apply Kd.R_drewN | apply Kd.R_drew)); exact HO_5.out) (Kd.R_base ho0) hb); have n1_ := Aside0.mk (Kd.R_lower (Kd.R_new' ho0 (Kd.R_lt (by (with_reducible repeat (first | apply Kd.R_alloc | apply Kd.R_drewN | apply Kd.R_drew)); exact HO_5.out))) (below_size (by repeat (first | (with_reducible first | exact HB.out | apply ba_ | apply bn_ | apply bd_) | exact HB.out)))); have n2_ := Aside0.mk (below_step (by repeat (first | (with_reducible first | exact HB.out | apply ba_ | apply bn_ | apply bd_) | exact HB.out)) hb); clear HO_5; clear HB; have HO_5 := n0_; have HO193 := n1_; have HB := n2_; clear n0_ n1_ n2_; (try clear hb); (try clear hb2); (try clear hk); (try clear hi); (try clear ho0)))
    go_ret
    exact ⟨_, by first | rfl | (simp [errW_none, errW_some] <;> rfl) | (simp [*, errW_none, errW_some] <;> rfl), by (with_reducible repeat (first | apply Kd.R_alloc | apply Kd.R_drewN | apply Kd.R_drew)); exact Kd.R_mono HO193.out (fun _ hk => trivial), by repeat (first | (with_reducible first | exact HB.out | apply ba_ | apply bn_ | apply bd_) | exact HB.out)⟩
end H
namespace H
attribute [local go_sem] max2_int min2_int max_two min_two max_three min_three max_four min_four
def honeycombref09_Of.l0 : Nat → List Int → Int → Int → Option (Int)
 | 0, _, _, _ => none
 | k + 1, x0, x3, x4 => if x4 ≥ 0 then (if 0 ≤ x4 then (if x4 < (x0.length : Int) then (honeycombref09_Of.l0 k x0 ((((4 * x3) % 4294967296) + ((rd x0 x4) % 4294967296)) % 4294967296) (wrap64 (x4 - 1))) else (none)) else (none)) else (some x3)
def honeycombref09_Of.f (k : Nat) (l0 : List Int) : Option (Int) := honeycombref09_Of.l0 k l0 0 15
theorem honeycombref09_Of.calls (k : Nat) (A0 : Option Addr) (c0 : Nat) (l0 : List Int) (r : Int) (w : World) (hr0 : Kd.C (Kd.int .i64) w A0 l0.length l0) (hc0 : l0.length ≤ c0) (h : honeycombref09_Of.f k l0 = some r) :
  Calls Tryd.prog 56 #[.slice A0 l0.length c0] w fun e w' => e = .returned (.int .u32 r) ∧ Drawn0 w w' := by
 have HR0 := Aside0.mk hr0
 have HC0 := Aside0.mk hc0
 clear hr0 hc0
 have H : (honeycombref09_Of.l0 k l0 0 15) = some r := h
 clear h
 have H' := Aside0.mk H
 clear H
 go_enter Tryd.func56, Tryd.ntmps56
 go_wp2
 go_loopg [3, 4] k (fun kq v3 v4 w' => ∃ (x3_1 : Int) (x4_1 : Int), v3 = .int .u32 x3_1 ∧ v4 = .int .i64 x4_1 ∧ Aside0 (honeycombref09_Of.l0 kq l0 x3_1 x4_1 = some r) ∧ Aside0 (kq ≤ k) ∧ Drawn0 w w')
 case atStart => exact ⟨(0), (15), (by first | rfl | (simp; done) | (simp [*]; done)), (by first | rfl | (simp; done) | (simp [*]; done)), H', ⟨Nat.le_refl _⟩, by repeat (first | exact Drawn0.refl _ | apply Drawn0.step)⟩
 case round =>
  clear H'
  obtain ⟨x3_1, x4_1, rfl, rfl, HA, HK1, ⟨m1, rfl⟩⟩ := hrel
  cases gk with
  | zero => exact absurd HA.out (by simp [honeycombref09_Of.l0])
  | succ k1 =>
   have H := HA.out
   clear HA
   simp only [honeycombref09_Of.l0] at H
   by_cases c2 : x4_1 ≥ 0
   ·
    rw [if_pos c2] at H
    have c2b0 : decide (0 ≤ x4_1) = true := decide_eq_true c2
    clear c2
    by_cases c3 : 0 ≤ x4_1
    ·
     rw [if_pos c3] at H
     have c3b0 : decide (0 ≤ x4_1) = true := decide_eq_true c3
     clear c3
     by_cases c4 : x4_1 < (l0.length : Int)
     ·
      rw [if_pos c4] at H
      have c4b0 : decide (x4_1 < (l0.length : Int)) = true := decide_eq_true c4
      clear c4
      have H' := Aside0.mk H
      clear H
      have p211 : 0 ≤ (x4_1 : Int) := of_decide_eq_true (by first | (with_reducible assumption) | assumption)
      have q211 : x4_1 < (l0.length : Int) := of_decide_eq_true (by first | (with_reducible assumption) | assumption)
      obtain ⟨ad211, e211, hx211_0⟩ := Kd.at_int HR0.out x4_1 p211 q211
      cases e211
      replace p211 := eq_true p211
      replace q211 := eq_true q211
      go_wp2
      go_roundg k1
      case measure => have := HK1.out; omega
      case rel => exact ⟨((((4 * x3_1) % 4294967296) + ((rd l0 x4_1) % 4294967296)) % 4294967296), (wrap64 (x4_1 - 1)), (by first | rfl | (simp; done) | (simp [*]; done)), (by first | rfl | (simp; done) | (simp [*]; done)), H', ⟨by have := HK1.out; omega⟩, by repeat (first | exact Drawn0.refl _ | apply Drawn0.step)⟩
     ·
      rw [if_neg c4] at H
      exact absurd H (by simp)
    ·
     rw [if_neg c3] at H
     exact absurd H (by simp)
   ·
    rw [if_neg c2] at H
    have c2b0 : decide (0 ≤ x4_1) = false := decide_eq_false c2
    clear c2
    obtain rfl := Option.some.inj H
    go_wp2
    go_ret
    exact ⟨by first | rfl | (simp; done) | (simp [*]; done), by repeat (first | exact Drawn0.refl _ | apply Drawn0.step)⟩
end H
namespace H
attribute [local go_sem] max2_int min2_int max_two min_two max_three min_three max_four min_four
mutual
def honeycombref10_Leaf.l0 : Nat → List (S42) → Int → Int → List Int → Int → Option (Int)
 | 0, _, _, _, _, _ => none
 | k + 1, x0, x1, x2, x7, x8 => if x8 < (wrap64 (x2 + 4)) then (honeycombref10_Leaf.l1 k x0 x1 x2 x7 x8 x1) else ((honeycombref09_Of.f k x7).bind fun t215 => (some t215))
def honeycombref10_Leaf.l1 : Nat → List (S42) → Int → Int → List Int → Int → Int → Option (Int)
 | 0, _, _, _, _, _, _ => none
 | k + 1, x0, x1, x2, x7, x8, x9 => if x9 < (wrap64 (x1 + 4)) then ((honeycombref04_Has.f k x0 x9 x8 0).bind fun t216 => (if t216 = true then (honeycombref10_Leaf.j2 k x0 x1 x2 x7 x8 x9 (0 + 1)) else (honeycombref10_Leaf.j2 k x0 x1 x2 x7 x8 x9 0))) else (honeycombref10_Leaf.l0 k x0 x1 x2 x7 (wrap64 (x8 + 1)))
def honeycombref10_Leaf.j2 : Nat → List (S42) → Int → Int → List Int → Int → Int → Int → Option (Int)
 | 0, _, _, _, _, _, _, _ => none
 | k + 1, x0, x1, x2, x7, x8, x9, x10 => (honeycombref04_Has.f k x0 x9 x8 1).bind fun t217 => (if t217 = true then (if x7.length < 17592186044416 then (honeycombref10_Leaf.l1 k x0 x1 x2 (x7 ++ [wrap64 (x10 + 2)]) x8 (wrap64 (x9 + 1))) else (none)) else (if x7.length < 17592186044416 then (honeycombref10_Leaf.l1 k x0 x1 x2 (x7 ++ [x10]) x8 (wrap64 (x9 + 1))) else (none)))
end
def honeycombref10_Leaf.f (k : Nat) (l0 : List (S42)) (a1 : Int) (a2 : Int) : Option (Int) := honeycombref10_Leaf.l0 k l0 a1 a2 (([] : List Int)) a2
theorem honeycombref10_Leaf.calls (k : Nat) (A0 : Option Addr) (c0 : Nat) (l0 : List (S42)) (a1 : Int) (a2 : Int) (r : Int) (w : World) (hr0 : Kd.C k42 w A0 l0.length l0) (hc0 : l0.length ≤ c0) (h : honeycombref10_Leaf.f k l0 a1 a2 = some r) :
  Calls Tryd.prog 22 #[.slice A0 l0.length c0, .int .i64 a1, .int .i64 a2] w fun e w' => e = .returned (.int .u32 r) ∧ Below w.heap.size w w' := by
 have hu42 := Tryd.underlying42
 have HR0 := Aside0.mk hr0
 have HC0 := Aside0.mk hc0
 clear hr0 hc0
 have HB := Aside0.mk (Below.refl w.heap.size w)
 have H : (honeycombref10_Leaf.l0 k l0 a1 a2 (([] : List Int)) a2) = some r := h
 clear h
 obtain ⟨y212, hy212⟩ : ∃ y_ : List Int, y_ = (([] : List Int)) := ⟨_, rfl⟩
 replace H : (honeycombref10_Leaf.l0 k l0 a1 a2 y212 a2) = some r := by first | (rw [hy212]; with_reducible exact H) | (have H2_ := (Option.bind_some _ _).symm.trans H; rw [hy212]; with_reducible exact H2_) | (have H2_ := (Option.bind_some _ _).symm.trans H; with_reducible exact H2_) | with_reducible exact H | (rw [hy212]; exact H) | exact H
 have Ny212 := Aside0.mk hy212
 clear hy212
 have H' := Aside0.mk H
 clear H
 go_enter Tryd.func22, Tryd.ntmps22
 go_wp2_with (first | ((with_reducible refine gate_dst (N := 11) rfl ?_); refine Kd.R_lit (Kd.int .i64) _ 3 ?hg (N := 11) ?hd (xs := ([] : List Int)) (inner := []) (ok := fun _ => True) (okp := fun _ => True) ?hr ?hp (fun _ hk => hk) trivial (Below.refl _ _) (Nat.le_refl _) (by simp) ?_; (case hd => rfl); (case hg => rfl); (case hr => first | (go_simp; done) | (go_simp; rfl)); (case hp => exact (Reps.none _ _)); intro v213 w4 ho5 hb hg_ hnew_; clear hg_ hnew_; (first | rw [← Ny212.out] at ho5 | (simp only [Int.reduceToNat] at ho5; rw [← Ny212.out] at ho5)); have n0_ := Aside0.mk (Kd.R_lower ho5 (below_size (by repeat (first | (with_reducible first | exact HB.out | apply ba_ | apply bn_ | apply bd_) | exact HB.out)))); have n1_ := Aside0.mk (below_step (by repeat (first | (with_reducible first | exact HB.out | apply ba_ | apply bn_ | apply bd_) | exact HB.out)) hb); clear HB; have HO214 := n0_; have HB := n1_; clear n0_ n1_; clear hb ho5))
 go_loopg [7, 8] k (fun kq v7 v8 w' => ∃ (x7_1 : List Int) (x8_1 : Int), v8 = .int .i64 x8_1 ∧ Aside0 (honeycombref10_Leaf.l0 kq l0 a1 a2 x7_1 x8_1 = some r) ∧ Aside0 (kq ≤ k) ∧ Aside0 (Kd.R (Kd.int .i64) 3 w' w.heap.size (fun _ => True) v7 x7_1) ∧ Aside0 (Below w.heap.size w w'))
 case atStart => exact ⟨(y212), (a2), (by first | rfl | (simp; done) | (simp [*]; done)), H', ⟨Nat.le_refl _⟩, ⟨by (with_reducible repeat (first | apply Kd.R_alloc | apply Kd.R_drewN | apply Kd.R_drew)); exact HO214.out⟩, ⟨by repeat (first | (with_reducible first | exact HB.out | apply ba_ | apply bn_ | apply bd_) | exact HB.out)⟩⟩
 case round =>
  clear H'
  try clear c2
  try clear p2
  obtain ⟨x7_1, x8_1, rfl, HA, HK1, HO_7, HB⟩ := hrel
  cases gk with
  | zero => exact absurd HA.out (by simp [honeycombref10_Leaf.l0])
  | succ k1 =>
   have H := HA.out
   clear HA
   simp only [honeycombref10_Leaf.l0] at H
   by_cases c6 : x8_1 < (wrap64 (a2 + 4))
   ·
    rw [if_pos c6] at H
    have c6b0 : decide (x8_1 < (wrap64 (a2 + 4))) = true := decide_eq_true c6
    clear c6
    have H' := Aside0.mk H
    clear H
    go_wp2
    go_loopg [7, 9] k1 (fun kq v7 v9 w' => ∃ (x7_2 : List Int) (x9_2 : Int), v9 = .int .i64 x9_2 ∧ Aside0 (honeycombref10_Leaf.l1 kq l0 a1 a2 x7_2 x8_1 x9_2 = some r) ∧ Aside0 (kq ≤ k1) ∧ Aside0 (Kd.R (Kd.int .i64) 3 w' w.heap.size (fun _ => True) v7 x7_2) ∧ Aside0 (Below w.heap.size w w'))
    case atStart => exact ⟨(x7_1), (a1), (by first | rfl | (simp; done) | (simp [*]; done)), H', ⟨Nat.le_refl _⟩, ⟨by (with_reducible repeat (first | apply Kd.R_alloc | apply Kd.R_drewN | apply Kd.R_drew)); exact HO_7.out⟩, ⟨by repeat (first | (with_reducible first | exact HB.out | apply ba_ | apply bn_ | apply bd_) | exact HB.out)⟩⟩
    case round =>
     clear H'
     try clear c2
     try clear p2
     try clear c6
     try clear c6b0
     try clear p6
     try clear p2
     obtain ⟨x7_2, x9_2, rfl, HA, HK2, HO_7, HB⟩ := hrel
     cases gk with
     | zero => exact absurd HA.out (by simp [honeycombref10_Leaf.l1])
     | succ k2 =>
      have H := HA.out
      clear HA
      simp only [honeycombref10_Leaf.l1] at H
      by_cases c7 : x9_2 < (wrap64 (a1 + 4))
      ·
       rw [if_pos c7] at H
       have c7b0 : decide (x9_2 < (wrap64 (a1 + 4))) = true := decide_eq_true c7
       clear c7
       replace H := Option.bind_eq_some_iff.mp H
       obtain ⟨t216, A80, H⟩ := H
       replace H : (if t216 = true then (honeycombref10_Leaf.j2 k2 l0 a1 a2 x7_2 x8_1 x9_2 (0 + 1)) else (honeycombref10_Leaf.j2 k2 l0 a1 a2 x7_2 x8_1 x9_2 0)) = some r := H
       have A8 := Aside0.mk A80
       clear A80
       have HC9 := Aside0.mk H
       clear H
       go_upto_if 30 with (first | ((with_reducible refine gate_callee (f := 54) rfl ?_); refine goesL_ (some 30) rfl rfl Tryd.func54 (by kernel_rfl) rfl #[.slice A0 l0.length c0, .agg #[.int .i64 x9_2, .int .i64 x8_1, .int .i64 0]] rfl (by (try simp only [List.map_toArray, List.map_cons, List.map_nil]); first | done | rfl | (simp only [List.length_drop, List.length_take]; rfl)) ?_; (with_reducible refine (honeycombref04_Has.calls k2 _ _ l0 x9_2 x8_1 0 t216 _ ?side1 ?side2 A8.out).mono ?_); (case side1 => repeat (first | exact (Kd.C_below HR0.out HB.out) | (with_reducible refine Kd.C_alloc ?_ _) | (with_reducible refine Kd.C_drewN ?_ _) | (with_reducible refine Kd.C_drew ?_))); (case side2 => exact HC0.out); rintro e w10 ⟨rfl, hb⟩; refine ⟨_, rfl, ?_⟩; have n0_ := Aside0.mk (Kd.R_below (by (with_reducible repeat (first | apply Kd.R_alloc | apply Kd.R_drewN | apply Kd.R_drew)); exact HO_7.out) hb); have n1_ := Aside0.mk (below_step (by repeat (first | (with_reducible first | exact HB.out | apply ba_ | apply bn_ | apply bd_) | exact HB.out)) hb); clear HO_7; clear HB; have HO_7 := n0_; have HB := n1_; clear n0_ n1_; (try clear hb); (try clear hb2); (try clear hk); (try clear hi)))
       (try simp only [Act.put, List.setIfInBounds_toArray, List.set_cons_zero, List.set_cons_succ])
       go_cut [10] (fun v10 wc => ∃ (kq : Nat) (x10_8 : Int), v10 = .int .i64 x10_8 ∧ Aside0 (honeycombref10_Leaf.j2 kq l0 a1 a2 x7_2 x8_1 x9_2 x10_8 = some r) ∧ Aside0 (kq ≤ k2) ∧ Aside0 (Kd.R (Kd.int .i64) 3 wc w.heap.size (fun _ => True) u7 x7_2) ∧ Aside0 (Below w.heap.size w wc))
       case first =>
        have H := HC9.out
        clear HC9
        by_cases c11 : t216 = true
        ·
         subst c11
         have H1 : (honeycombref10_Leaf.j2 k2 l0 a1 a2 x7_2 x8_1 x9_2 (0 + 1)) = some r := by rw [if_pos rfl] at H; exact H
         clear H
         have H := H1
         clear H1
         have H' := Aside0.mk H
         clear H
         go_wp2
         go_meet
         case rel => exact ⟨_, (0 + 1), (by first | rfl | (simp; done) | (simp [*]; done)), H', ⟨by have := HK1.out; have := HK2.out; first | omega | exact Nat.le_refl _⟩, ⟨by (with_reducible repeat (first | apply Kd.R_alloc | apply Kd.R_drewN | apply Kd.R_drew)); exact HO_7.out⟩, ⟨by repeat (first | (with_reducible first | exact HB.out | apply ba_ | apply bn_ | apply bd_) | exact HB.out)⟩⟩
        ·
         replace c11 := Bool.eq_false_iff.mpr c11
         subst c11
         have H1 : (honeycombref10_Leaf.j2 k2 l0 a1 a2 x7_2 x8_1 x9_2 0) = some r := by rw [if_neg (show ¬ (false = true) by decide)] at H; exact H
         clear H
         have H := H1
         clear H1
         have H' := Aside0.mk H
         clear H
         go_wp2
         go_meet
         case rel => exact ⟨_, (0), (by first | rfl | (simp; done) | (simp [*]; done)), H', ⟨by have := HK1.out; have := HK2.out; first | omega | exact Nat.le_refl _⟩, ⟨by (with_reducible repeat (first | apply Kd.R_alloc | apply Kd.R_drewN | apply Kd.R_drew)); exact HO_7.out⟩, ⟨by repeat (first | (with_reducible first | exact HB.out | apply ba_ | apply bn_ | apply bd_) | exact HB.out)⟩⟩
       case rest =>
        clear HC9
        try clear c1
        try clear c2
        try clear p2
        try clear c5
        try clear c6
        try clear c6b0
        try clear p6
        try clear c7
        try clear c7b0
        try clear c11
        try clear p2
        try clear p6
        obtain ⟨kq, x10_8, rfl, HA, HJ8, HO_7, HB⟩ := hcut
        cases kq with
        | zero => exact absurd HA.out (by simp [honeycombref10_Leaf.j2])
        | succ kj8 =>
         have H := HA.out
         clear HA
         simp only [honeycombref10_Leaf.j2] at H
         replace H := Option.bind_eq_some_iff.mp H
         obtain ⟨t217, A120, H⟩ := H
         replace H : (if t217 = true then (if x7_2.length < 17592186044416 then (honeycombref10_Leaf.l1 kj8 l0 a1 a2 (x7_2 ++ [wrap64 (x10_8 + 2)]) x8_1 (wrap64 (x9_2 + 1))) else (none)) else (if x7_2.length < 17592186044416 then (honeycombref10_Leaf.l1 kj8 l0 a1 a2 (x7_2 ++ [x10_8]) x8_1 (wrap64 (x9_2 + 1))) else (none))) = some r := H
         have A12 := Aside0.mk A120
         clear A120
         by_cases c13 : t217 = true
         ·
          subst c13
          have H1 : (if x7_2.length < 17592186044416 then (honeycombref10_Leaf.l1 kj8 l0 a1 a2 (x7_2 ++ [wrap64 (x10_8 + 2)]) x8_1 (wrap64 (x9_2 + 1))) else (none)) = some r := by rw [if_pos rfl] at H; exact H
          clear H
          have H := H1
          clear H1
          by_cases c14 : x7_2.length < 17592186044416
          ·
           rw [if_pos c14] at H
           have LMc14 := Aside0.mk c14
           clear c14
           obtain ⟨y218, hy218⟩ : ∃ y_ : List Int, y_ = (x7_2 ++ [wrap64 (x10_8 + 2)]) := ⟨_, rfl⟩
           replace H : (honeycombref10_Leaf.l1 kj8 l0 a1 a2 y218 x8_1 (wrap64 (x9_2 + 1))) = some r := by first | (rw [hy218]; with_reducible exact H) | (have H2_ := (Option.bind_some _ _).symm.trans H; rw [hy218]; with_reducible exact H2_) | (have H2_ := (Option.bind_some _ _).symm.trans H; with_reducible exact H2_) | with_reducible exact H | (rw [hy218]; exact H) | exact H
           have Ny218 := Aside0.mk hy218
           clear hy218
           have H' := Aside0.mk H
           clear H
           go_wp2_with (first | ((with_reducible refine gate_callee (f := 54) rfl ?_); refine goesL_ (some 37) rfl rfl Tryd.func54 (by kernel_rfl) rfl #[.slice A0 l0.length c0, .agg #[.int .i64 x9_2, .int .i64 x8_1, .int .i64 1]] rfl (by (try simp only [List.map_toArray, List.map_cons, List.map_nil]); first | done | rfl | (simp only [List.length_drop, List.length_take]; rfl)) ?_; (with_reducible refine (honeycombref04_Has.calls kj8 _ _ l0 x9_2 x8_1 1 true _ ?side1 ?side2 A12.out).mono ?_); (case side1 => repeat (first | exact (Kd.C_below HR0.out HB.out) | (with_reducible refine Kd.C_alloc ?_ _) | (with_reducible refine Kd.C_drewN ?_ _) | (with_reducible refine Kd.C_drew ?_))); (case side2 => exact HC0.out); rintro e w15 ⟨rfl, hb⟩; refine ⟨_, rfl, ?_⟩; have n0_ := Aside0.mk (Kd.R_below (by (with_reducible repeat (first | apply Kd.R_alloc | apply Kd.R_drewN | apply Kd.R_drew)); exact HO_7.out) hb); have n1_ := Aside0.mk (below_step (by repeat (first | (with_reducible first | exact HB.out | apply ba_ | apply bn_ | apply bd_) | exact HB.out)) hb); clear HO_7; clear HB; have HO_7 := n0_; have HB := n1_; clear n0_ n1_; (try clear hb); (try clear hb2); (try clear hk); (try clear hi)) | ((with_reducible refine gate_builtin (b := .append) (xs := #[.tmp 40, .tmp 42]) rfl ?_); at_builtin; refine Kd.R_append (Kd.int .i64) (w0 := w) w.heap.size rfl (.tmp 40) (.tmp 42) 116 3 (.int .i64 0) 8 rfl Tryd.underlying116 info3 rfl (by decide) (by omega) u7 x7_2 (wrap64 (x10_8 + 2)) [.int .i64 (wrap64 (x10_8 + 2))] (fun _ => True) (fun _ => False) rfl rfl ?aP (fun _ hk => hk.elim) ?aF ?aO ?aB ?aS ?aL ?_; (case aP => exact rfl); (case aB => exact (by repeat (first | (with_reducible first | exact HB.out | apply ba_ | apply bn_ | apply bd_) | exact HB.out))); (case aF => exact (fun _ _ => trivial)); (case aO => exact (by (with_reducible repeat (first | apply Kd.R_alloc | apply Kd.R_drewN | apply Kd.R_drew)); exact HO_7.out)); (case aS => exact (below_size (by repeat (first | (with_reducible first | exact HB.out | apply ba_ | apply bn_ | apply bd_) | exact HB.out)))); (case aL => have := LMc14.out; omega); intro v219 w16 ho hb hg hat; rw [← Ny218.out] at ho; have n0_ := Aside0.mk (hb); have n1_ := Aside0.mk (ho); clear HB; clear HO_7; have HB := n0_; have HO220 := n1_; clear n0_ n1_; clear ho hb hg hat))
           go_roundg kj8
           case measure => have := HK1.out; have := HK2.out; have := HJ8.out; omega
           case rel => exact ⟨(y218), (wrap64 (x9_2 + 1)), (by first | rfl | (simp; done) | (simp [*]; done)), H', ⟨by have := HK1.out; have := HK2.out; have := HJ8.out; omega⟩, ⟨by (with_reducible repeat (first | apply Kd.R_alloc | apply Kd.R_drewN | apply Kd.R_drew)); exact HO220.out⟩, ⟨by repeat (first | (with_reducible first | exact HB.out | apply ba_ | apply bn_ | apply bd_) | exact HB.out)⟩⟩
          ·
           rw [if_neg c14] at H
           exact absurd H (by simp)
         ·
          replace c13 := Bool.eq_false_iff.mpr c13
          subst c13
          have H1 : (if x7_2.length < 17592186044416 then (honeycombref10_Leaf.l1 kj8 l0 a1 a2 (x7_2 ++ [x10_8]) x8_1 (wrap64 (x9_2 + 1))) else (none)) = some r := by rw [if_neg (show ¬ (false = true) by decide)] at H; exact H
          clear H
          have H := H1
          clear H1
          by_cases c17 : x7_2.length < 17592186044416
          ·
           rw [if_pos c17] at H
           have LMc17 := Aside0.mk c17
           clear c17
           obtain ⟨y221, hy221⟩ : ∃ y_ : List Int, y_ = (x7_2 ++ [x10_8]) := ⟨_, rfl⟩
           replace H : (honeycombref10_Leaf.l1 kj8 l0 a1 a2 y221 x8_1 (wrap64 (x9_2 + 1))) = some r := by first | (rw [hy221]; with_reducible exact H) | (have H2_ := (Option.bind_some _ _).symm.trans H; rw [hy221]; with_reducible exact H2_) | (have H2_ := (Option.bind_some _ _).symm.trans H; with_reducible exact H2_) | with_reducible exact H | (rw [hy221]; exact H) | exact H
           have Ny221 := Aside0.mk hy221
           clear hy221
           have H' := Aside0.mk H
           clear H
           go_wp2_with (first | ((with_reducible refine gate_callee (f := 54) rfl ?_); refine goesL_ (some 37) rfl rfl Tryd.func54 (by kernel_rfl) rfl #[.slice A0 l0.length c0, .agg #[.int .i64 x9_2, .int .i64 x8_1, .int .i64 1]] rfl (by (try simp only [List.map_toArray, List.map_cons, List.map_nil]); first | done | rfl | (simp only [List.length_drop, List.length_take]; rfl)) ?_; (with_reducible refine (honeycombref04_Has.calls kj8 _ _ l0 x9_2 x8_1 1 false _ ?side1 ?side2 A12.out).mono ?_); (case side1 => repeat (first | exact (Kd.C_below HR0.out HB.out) | (with_reducible refine Kd.C_alloc ?_ _) | (with_reducible refine Kd.C_drewN ?_ _) | (with_reducible refine Kd.C_drew ?_))); (case side2 => exact HC0.out); rintro e w18 ⟨rfl, hb⟩; refine ⟨_, rfl, ?_⟩; have n0_ := Aside0.mk (Kd.R_below (by (with_reducible repeat (first | apply Kd.R_alloc | apply Kd.R_drewN | apply Kd.R_drew)); exact HO_7.out) hb); have n1_ := Aside0.mk (below_step (by repeat (first | (with_reducible first | exact HB.out | apply ba_ | apply bn_ | apply bd_) | exact HB.out)) hb); clear HO_7; clear HB; have HO_7 := n0_; have HB := n1_; clear n0_ n1_; (try clear hb); (try clear hb2); (try clear hk); (try clear hi)) | ((with_reducible refine gate_builtin (b := .append) (xs := #[.tmp 40, .tmp 42]) rfl ?_); at_builtin; refine Kd.R_append (Kd.int .i64) (w0 := w) w.heap.size rfl (.tmp 40) (.tmp 42) 116 3 (.int .i64 0) 8 rfl Tryd.underlying116 info3 rfl (by decide) (by omega) u7 x7_2 x10_8 [.int .i64 x10_8] (fun _ => True) (fun _ => False) rfl rfl ?aP (fun _ hk => hk.elim) ?aF ?aO ?aB ?aS ?aL ?_; (case aP => exact rfl); (case aB => exact (by repeat (first | (with_reducible first | exact HB.out | apply ba_ | apply bn_ | apply bd_) | exact HB.out))); (case aF => exact (fun _ _ => trivial)); (case aO => exact (by (with_reducible repeat (first | apply Kd.R_alloc | apply Kd.R_drewN | apply Kd.R_drew)); exact HO_7.out)); (case aS => exact (below_size (by repeat (first | (with_reducible first | exact HB.out | apply ba_ | apply bn_ | apply bd_) | exact HB.out)))); (case aL => have := LMc17.out; omega); intro v222 w19 ho hb hg hat; rw [← Ny221.out] at ho; have n0_ := Aside0.mk (hb); have n1_ := Aside0.mk (ho); clear HB; clear HO_7; have HB := n0_; have HO223 := n1_; clear n0_ n1_; clear ho hb hg hat))
           go_roundg kj8
           case measure => have := HK1.out; have := HK2.out; have := HJ8.out; omega
           case rel => exact ⟨(y221), (wrap64 (x9_2 + 1)), (by first | rfl | (simp; done) | (simp [*]; done)), H', ⟨by have := HK1.out; have := HK2.out; have := HJ8.out; omega⟩, ⟨by (with_reducible repeat (first | apply Kd.R_alloc | apply Kd.R_drewN | apply Kd.R_drew)); exact HO223.out⟩, ⟨by repeat (first | (with_reducible first | exact HB.out | apply ba_ | apply bn_ | apply bd_) | exact HB.out)⟩⟩
          ·
           rw [if_neg c17] at H
           exact absurd H (by simp)
      ·
       rw [if_neg c7] at H
       have c7b0 : decide (x9_2 < (wrap64 (a1 + 4))) = false := decide_eq_false c7
       clear c7
       have H' := Aside0.mk H
       clear H
       go_wp2
       go_roundg k2
       case measure => have := HK1.out; have := HK2.out; omega
       case rel => exact ⟨(x7_2), (wrap64 (x8_1 + 1)), (by first | rfl | (simp; done) | (simp [*]; done)), H', ⟨by have := HK1.out; have := HK2.out; omega⟩, ⟨by (with_reducible repeat (first | apply Kd.R_alloc | apply Kd.R_drewN | apply Kd.R_drew)); exact HO_7.out⟩, ⟨by repeat (first | (with_reducible first | exact HB.out | apply ba_ | apply bn_ | apply bd_) | exact HB.out)⟩⟩
   ·
    rw [if_neg c6] at H
    have c6b0 : decide (x8_1 < (wrap64 (a2 + 4))) = false := decide_eq_false c6
    clear c6
    replace H := Option.bind_eq_some_iff.mp H
    obtain ⟨t215, A200, H⟩ := H
    replace H : (some t215) = some r := H
    have A20 := Aside0.mk A200
    clear A200
    obtain rfl := Option.some.inj H
    obtain ⟨Ao21, co21, eo21⟩ := Kd.R_slice HO_7.out
    subst eo21
    go_wp2_with (first | ((with_reducible refine gate_callee (f := 56) rfl ?_); refine goesL_ (some 45) rfl rfl Tryd.func56 (by kernel_rfl) rfl #[.slice Ao21 x7_1.length co21] rfl (by (try simp only [List.map_toArray, List.map_cons, List.map_nil]); first | done | rfl | (simp only [List.length_drop, List.length_take]; rfl)) ?_; (with_reducible refine (honeycombref09_Of.calls k1 _ _ x7_1 t215 _ ?side1 ?side2 A20.out).mono ?_); (case side1 => repeat (first | exact (Kd.R_reads' HO_7.out).2.2 | (with_reducible refine Kd.C_alloc ?_ _) | (with_reducible refine Kd.C_drewN ?_ _) | (with_reducible refine Kd.C_drew ?_))); (case side2 => exact (Kd.R_reads' HO_7.out).2.1); rintro e w' ⟨rfl, ⟨nd, rfl⟩⟩; refine ⟨_, rfl, ?_⟩))
    go_ret
    exact ⟨by first | rfl | (simp [errW_none, errW_some] <;> rfl) | (simp [*, errW_none, errW_some] <;> rfl), by repeat (first | (with_reducible first | exact HB.out | apply ba_ | apply bn_ | apply bd_) | exact HB.out)⟩
end H
open H
/-- a bit of a leaf -/
theorem bit9_l0 (n : Nat) (hn : n ≤ 64) : ∀ (d k j : Nat) (x : Int), j + d = n → d < k → 0 ≤ x → x < 4294967296 → honeycombref09_bit.l0 k x (n : Int) (j : Int) = some (x / 2 ^ d % 2) := by
  intro d
  induction d with
  | zero =>
    intro k j x hj hk h0 h1
    obtain ⟨k, rfl⟩ : ∃ m, k = m + 1 := ⟨k - 1, by omega⟩
    simp only [honeycombref09_bit.l0]
    rw [if_neg (by omega), Int.tmod_eq_emod_of_nonneg h0, w64i _ (by omega) (by omega)]
    simp
  | succ d ih =>
    intro k j x hj hk h0 h1
    obtain ⟨k, rfl⟩ : ∃ m, k = m + 1 := ⟨k - 1, by omega⟩
    have hw : wrap64 ((j : Int) + 1) = ((j + 1 : Nat) : Int) := by rw [w64i ((j : Int) + 1) (by omega) (by omega)]; rfl
    have hd : Int.tdiv x 2 % 4294967296 = x / 2 := by rw [Int.tdiv_eq_ediv_of_nonneg h0]; omega
    simp only [honeycombref09_bit.l0]
    rw [if_pos (by omega), hw, hd, ih k (j + 1) (x / 2) (by omega) (by omega) (by omega) (by omega), Int.pow_succ, Int.mul_comm (2 ^ d) 2, ← Int.ediv_ediv_of_nonneg (by omega)]
theorem bit9_f (k n : Nat) (x : Int) (hn : n ≤ 64) (hk : n < k) (h0 : 0 ≤ x) (h1 : x < 4294967296) : honeycombref09_bit.f k x (n : Int) = some (x / 2 ^ n % 2) := by
  unfold honeycombref09_bit.f
  exact bit9_l0 n hn n k 0 x (by omega) hk h0 h1
theorem st_two (x : Int) (n : Nat) : x / 2 ^ n % 2 + 2 * (x / 2 ^ (n + 1) % 2) = x / 2 ^ n % 4 := by
  rw [Int.pow_succ, ← Int.ediv_ediv_of_nonneg (Int.le_of_lt (Int.pow_pos (by decide)))]
  generalize x / 2 ^ n = y
  omega
theorem state9_f (k : Nat) (x : Int) (a b : Nat) (ha : a < 4) (hb : b < 4) (hk : 70 ≤ k) (h0 : 0 ≤ x) (h1 : x < 4294967296) : honeycombref09_State.f k x (a : Int) (b : Int) = some (x / 2 ^ (8 * b + 2 * a) % 4) := by
  obtain ⟨k, rfl⟩ : ∃ m, k = m + 1 := ⟨k - 1, by omega⟩
  have e1 : wrap64 (wrap64 (8 * (b : Int)) + wrap64 (2 * (a : Int))) = ((8 * b + 2 * a : Nat) : Int) := by
    rw [w64i (8 * (b : Int)) (by omega) (by omega), w64i (2 * (a : Int)) (by omega) (by omega), w64i _ (by omega) (by omega)]
    omega
  have e2 : wrap64 (((8 * b + 2 * a : Nat) : Int) + 1) = ((8 * b + 2 * a + 1 : Nat) : Int) := by
    rw [w64i _ (by omega) (by omega)]
    omega
  unfold honeycombref09_State.f
  rw [if_neg (by omega), if_neg (by omega), if_neg (by omega), decide_eq_false (by omega)]
  simp only [honeycombref09_State.j0, Bool.false_eq_true, ↓reduceIte]
  rw [e1, e2, bit9_f k _ x (by omega) (by omega) h0 h1, Option.bind_some, bit9_f k _ x (by omega) (by omega) h0 h1, Option.bind_some]
  have hy := st_two x (8 * b + 2 * a)
  have y0 : 0 ≤ x / 2 ^ (8 * b + 2 * a) % 2 ∧ x / 2 ^ (8 * b + 2 * a) % 2 ≤ 1 := by omega
  have y1 : 0 ≤ x / 2 ^ (8 * b + 2 * a + 1) % 2 ∧ x / 2 ^ (8 * b + 2 * a + 1) % 2 ≤ 1 := by omega
  generalize x / 2 ^ (8 * b + 2 * a) % 2 = u at *
  generalize x / 2 ^ (8 * b + 2 * a + 1) % 2 = v at *
  rw [w64i (2 * v) (by omega) (by omega), w64i _ (by omega) (by omega), hy]
/-- the states of a leaf, row by row -/
def stsL (x : Int) (n : Nat) : List Int := (List.range n).map fun i => x / 2 ^ (2 * i) % 4
theorem stsL_succ (x : Int) (n : Nat) : stsL x (n + 1) = stsL x n ++ [x / 2 ^ (2 * n) % 4] := by
  unfold stsL
  rw [List.range_succ, List.map_append]
  rfl
theorem stsL_len (x : Int) (n : Nat) : (stsL x n).length = n := by simp [stsL]
theorem states_l1 (x : Int) (h0 : 0 ≤ x) (h1 : x < 4294967296) (b : Nat) (hb : b < 4) : ∀ (d k a : Nat), a + d = 4 → d + 80 ≤ k → honeycombref09_States.l1 k x (stsL x (4 * b + a)) (b : Int) (a : Int) = honeycombref09_States.l0 (k - d - 1) x (stsL x (4 * (b + 1))) ((b + 1 : Nat) : Int) := by
  intro d
  induction d with
  | zero =>
    intro k a ha hk
    obtain ⟨k, rfl⟩ : ∃ m, k = m + 1 := ⟨k - 1, by omega⟩
    have hw : wrap64 ((b : Int) + 1) = ((b + 1 : Nat) : Int) := by rw [w64i ((b : Int) + 1) (by omega) (by omega)]; rfl
    rw [honeycombref09_States.l1, if_neg (by omega), hw, show 4 * b + a = 4 * (b + 1) by omega]
    rfl
  | succ d ih =>
    intro k a ha hk
    obtain ⟨k, rfl⟩ : ∃ m, k = m + 1 := ⟨k - 1, by omega⟩
    have hw : wrap64 ((a : Int) + 1) = ((a + 1 : Nat) : Int) := by rw [w64i ((a : Int) + 1) (by omega) (by omega)]; rfl
    rw [honeycombref09_States.l1, if_pos (by omega), state9_f k x a b (by omega) hb (by omega) h0 h1, Option.bind_some, if_pos (by rw [stsL_len]; omega), hw, show 8 * b + 2 * a = 2 * (4 * b + a) by omega, ← stsL_succ]
    rw [show 4 * b + a + 1 = 4 * b + (a + 1) by omega, ih k (a + 1) (by omega) (by omega)]
    congr 1
    omega
theorem states_f (k : Nat) (x : Int) (hk : 200 ≤ k) (h0 : 0 ≤ x) (h1 : x < 4294967296) : honeycombref09_States.f k x = some (stsL x 16) := by
  have step : ∀ (b m : Nat), b < 4 → 100 ≤ m → honeycombref09_States.l0 m x (stsL x (4 * b)) (b : Int) = honeycombref09_States.l0 (m - 6) x (stsL x (4 * (b + 1))) ((b + 1 : Nat) : Int) := by
    intro b m hb hm
    obtain ⟨m, rfl⟩ : ∃ q, m = q + 1 := ⟨m - 1, by omega⟩
    have h := states_l1 x h0 h1 b hb 4 m 0 (by omega) (by omega)
    rw [honeycombref09_States.l0, if_pos (by omega)]
    refine h.trans ?_
    congr 1
  unfold honeycombref09_States.f
  have e0 := step 0 k (by omega) (by omega)
  have e1 := step 1 (k - 6) (by omega) (by omega)
  have e2 := step 2 (k - 6 - 6) (by omega) (by omega)
  have e3 := step 3 (k - 6 - 6 - 6) (by omega) (by omega)
  refine (e0.trans (e1.trans (e2.trans e3))).trans ?_
  obtain ⟨m, hm⟩ : ∃ m, k - 6 - 6 - 6 - 6 = m + 1 := ⟨k - 25, by omega⟩
  rw [hm, honeycombref09_States.l0, if_neg (by omega)]
/-- the cells of one point of a leaf -/
def cell9 (x a b : Int) (i : Nat) : List CL :=
  (if x / 2 ^ (2 * i) % 4 % 2 = 1 then [mk (a + ((i % 4 : Nat) : Int)) (b + ((i / 4 : Nat) : Int)) 0] else []) ++ (if x / 2 ^ (2 * i) % 4 / 2 % 2 = 1 then [mk (a + ((i % 4 : Nat) : Int)) (b + ((i / 4 : Nat) : Int)) 1] else [])
def cells9L (x a b : Int) (n : Nat) : List CL := (List.range n).flatMap (cell9 x a b)
theorem cells9L_succ (x a b : Int) (n : Nat) : cells9L x a b (n + 1) = cells9L x a b n ++ cell9 x a b n := by
  unfold cells9L
  rw [List.range_succ, List.flatMap_append]
  simp
theorem cell9_len (x a b : Int) (i : Nat) : (cell9 x a b i).length ≤ 2 := by
  unfold cell9
  rw [List.length_append]
  split <;> split <;> simp
theorem cells9L_len (x a b : Int) (n : Nat) : (cells9L x a b n).length ≤ 2 * n := by
  induction n with
  | zero => simp [cells9L]
  | succ n ih =>
    rw [cells9L_succ, List.length_append]
    have := cell9_len x a b n
    omega
theorem cells9_l1 (x a b : Int) (ha : 0 ≤ a ∧ a ≤ 100) (hb : 0 ≤ b ∧ b ≤ 100) (L : List Int) (i k : Nat) (hi : i < 16) (out : List RC) (ho : out.length ≤ 1000) :
    honeycombref09_Cells.l1 (k + 3) a b out (i : Int) (x / 2 ^ (2 * i) % 4) 0 L 16 (i : Int) = honeycombref09_Cells.l0 k a b (out ++ (cell9 x a b i).map told) L 16 ((i + 1 : Nat) : Int) := by
  have hw : wrap64 ((i : Int) + 1) = ((i + 1 : Nat) : Int) := by rw [w64i ((i : Int) + 1) (by omega) (by omega)]; rfl
  have e1 : Int.tmod (i : Int) 4 = ((i % 4 : Nat) : Int) := by rw [Int.tmod_eq_emod_of_nonneg (by omega)]; omega
  have e2 : wrap64 (Int.tdiv (i : Int) 4) = ((i / 4 : Nat) : Int) := by rw [Int.tdiv_eq_ediv_of_nonneg (by omega), w64i _ (by omega) (by omega)]; omega
  have e3 : wrap64 (a + ((i % 4 : Nat) : Int)) = a + ((i % 4 : Nat) : Int) := w64i _ (by omega) (by omega)
  have e4 : wrap64 (b + ((i / 4 : Nat) : Int)) = b + ((i / 4 : Nat) : Int) := w64i _ (by omega) (by omega)
  unfold cell9
  have hs : x / 2 ^ (2 * i) % 4 = 0 ∨ x / 2 ^ (2 * i) % 4 = 1 ∨ x / 2 ^ (2 * i) % 4 = 2 ∨ x / 2 ^ (2 * i) % 4 = 3 := by omega
  generalize x / 2 ^ (2 * i) % 4 = s at hs ⊢
  rcases hs with rfl | rfl | rfl | rfl
  all_goals
    simp only [honeycombref09_Cells.l1, e1, e2, e3, e4, hw]
    have hl : out.length < 5864062014805 := by omega
    have hl2 : (out ++ [(⟨a + ((i % 4 : Nat) : Int), b + ((i / 4 : Nat) : Int), 0⟩ : RC)]).length < 5864062014805 := by rw [List.length_append]; simp; omega
    simp [hl, hl2, wrap64, told, mk]
    try (intro hc; exfalso; omega)
theorem cells9_l0 (x a b : Int) (ha : 0 ≤ a ∧ a ≤ 100) (hb : 0 ≤ b ∧ b ≤ 100) : ∀ (d k i : Nat), i + d = 16 → 4 * d + 1 ≤ k → honeycombref09_Cells.l0 k a b ((cells9L x a b i).map told) (stsL x 16) 16 (i : Int) = some ((cells9L x a b 16).map told) := by
  intro d
  induction d with
  | zero =>
    intro k i hi hk
    obtain ⟨k, rfl⟩ : ∃ m, k = m + 1 := ⟨k - 1, by omega⟩
    rw [honeycombref09_Cells.l0, if_neg (by omega), show i = 16 by omega]
  | succ d ih =>
    intro k i hi hk
    obtain ⟨k, rfl⟩ : ∃ m, k = m + 1 + 3 := ⟨k - 4, by omega⟩
    have hr : rd (stsL x 16) (i : Int) = x / 2 ^ (2 * i) % 4 := by
      unfold rd stsL
      rw [Int.toNat_natCast, List.getD_eq_getElem?_getD, List.getElem?_map, List.getElem?_range (by omega)]
      rfl
    rw [show k + 1 + 3 = (k + 3) + 1 by omega, honeycombref09_Cells.l0, if_pos (by omega), if_pos (by omega), if_pos (by rw [stsL_len]; omega), hr, cells9_l1 x a b ha hb _ i k (by omega) _ (by rw [List.length_map]; have := cells9L_len x a b i; omega)]
    rw [← List.map_append, ← cells9L_succ]
    exact ih k (i + 1) (by omega) (by omega)
theorem cells9_f (k : Nat) (x a b : Int) (hk : 300 ≤ k) (h0 : 0 ≤ x) (h1 : x < 4294967296) (ha : 0 ≤ a ∧ a ≤ 100) (hb : 0 ≤ b ∧ b ≤ 100) : honeycombref09_Cells.f k x a b = some ((cells9L x a b 16).map told) := by
  unfold honeycombref09_Cells.f
  rw [states_f k x (by omega) h0 h1, Option.bind_some, stsL_len]
  exact cells9_l0 x a b ha hb 16 k 0 (by omega) (by omega)
/-- of four leaves -/
def keepL (lat : Int) (c : CL) : Bool := decide (lat > 1 ∨ c.f1 = 0)
theorem cells10_l1 (lat : Int) (L : List Int) (n m : Int) (T : List CL) (hT : T.length ≤ 1000) : ∀ (d k j : Nat) (out : List CL), j + d = T.length → out.length + d ≤ 1000 → honeycombref10_Cells.l1 (k + d + 1) lat (out.map told) L n m (T.map told) ((T.map told).length : Int) (j : Int) = honeycombref10_Cells.l0 k lat ((out ++ (T.drop j).filter (keepL lat)).map told) L n (wrap64 (m + 1)) := by
  intro d
  induction d with
  | zero =>
    intro k j out hj ho
    rw [show k + 0 + 1 = k + 1 from rfl, honeycombref10_Cells.l1, if_neg (by rw [List.length_map]; omega), List.drop_eq_nil_of_le (by omega)]
    simp
  | succ d ih =>
    intro k j out hj ho
    have h1 : j < T.length := by omega
    have hw : wrap64 ((j : Int) + 1) = ((j + 1 : Nat) : Int) := by rw [w64i ((j : Int) + 1) (by omega) (by omega)]; rfl
    have hd : T.drop j = T[j] :: T.drop (j + 1) := List.drop_eq_getElem_cons h1
    rw [show k + (d + 1) + 1 = (k + d + 1) + 1 by omega, honeycombref10_Cells.l1, if_pos (by rw [List.length_map]; omega), if_pos (by omega), if_pos (by rw [List.length_map]; omega), rdT T j h1, hw, hd]
    have hlen : (out.map told).length < 5864062014805 := by rw [List.length_map]; omega
    have happ : out.map told ++ [(⟨(told T[j]).f0, (told T[j]).f1, (told T[j]).f2⟩ : RC)] = (out ++ [T[j]]).map told := by rw [List.map_append]; rfl
    by_cases hk : keepL lat T[j] = true
    · have hk' : lat > 1 ∨ T[j].f1 = 0 := of_decide_eq_true hk
      have hr := ih k (j + 1) (out ++ [T[j]]) (by omega) (by rw [List.length_append]; simp; omega)
      rw [List.filter_cons, hk, if_pos rfl, List.append_cons out T[j] ((T.drop (j + 1)).filter (keepL lat)), ← hr, if_pos hlen, happ]
      by_cases hl : lat > 1
      · rw [if_pos hl]
      · rw [if_neg hl, if_pos (show (told T[j]).f2 = 0 from hk'.resolve_left hl)]
    · have hk' : ¬ (lat > 1 ∨ T[j].f1 = 0) := fun e => hk (decide_eq_true e)
      have hr := ih k (j + 1) out (by omega) (by omega)
      rw [List.filter_cons, if_neg hk, ← hr, if_neg (fun e => hk' (.inl e)), if_neg (show ¬ (told T[j]).f2 = 0 from fun e => hk' (.inr e))]
def leafAt (l0 l1 l2 l3 : Int) (m : Nat) : Int := if m = 0 then l0 else if m = 1 then l1 else if m = 2 then l2 else l3
def cells10L (lat l0 l1 l2 l3 : Int) (n : Nat) : List CL := (List.range n).flatMap fun m => (cells9L (leafAt l0 l1 l2 l3 m) ((m % 2 * 4 : Nat) : Int) ((m / 2 * 4 : Nat) : Int) 16).filter (keepL lat)
theorem cells10L_succ (lat l0 l1 l2 l3 : Int) (n : Nat) : cells10L lat l0 l1 l2 l3 (n + 1) = cells10L lat l0 l1 l2 l3 n ++ (cells9L (leafAt l0 l1 l2 l3 n) ((n % 2 * 4 : Nat) : Int) ((n / 2 * 4 : Nat) : Int) 16).filter (keepL lat) := by
  unfold cells10L
  rw [List.range_succ, List.flatMap_append]
  simp
theorem cells10L_len (lat l0 l1 l2 l3 : Int) (n : Nat) : (cells10L lat l0 l1 l2 l3 n).length ≤ 32 * n := by
  induction n with
  | zero => simp [cells10L]
  | succ n ih =>
    rw [cells10L_succ, List.length_append]
    have h1 := List.length_filter_le (keepL lat) (cells9L (leafAt l0 l1 l2 l3 n) ((n % 2 * 4 : Nat) : Int) ((n / 2 * 4 : Nat) : Int) 16)
    have h2 := cells9L_len (leafAt l0 l1 l2 l3 n) ((n % 2 * 4 : Nat) : Int) ((n / 2 * 4 : Nat) : Int) 16
    omega
theorem cells10_l0 (lat l0 l1 l2 l3 : Int) (hl : ∀ m, 0 ≤ leafAt l0 l1 l2 l3 m ∧ leafAt l0 l1 l2 l3 m < 4294967296) : ∀ (d k m : Nat), m + d = 4 → 40 * d + 5000 ≤ k → honeycombref10_Cells.l0 k lat ((cells10L lat l0 l1 l2 l3 m).map told) [l0, l1, l2, l3] 4 (m : Int) = some ((ofL (cells10L lat l0 l1 l2 l3 4)).map told) := by
  intro d
  induction d with
  | zero =>
    intro k m hm hk
    obtain ⟨k, rfl⟩ : ∃ q, k = q + 1 := ⟨k - 1, by omega⟩
    obtain rfl : m = 4 := by omega
    have hn := cells10L_len lat l0 l1 l2 l3 4
    rw [honeycombref10_Cells.l0, if_neg (by omega), ofR_f k _ (by omega) (by omega)]
    rfl
  | succ d ih =>
    intro k m hm hk
    have hm4 : m < 4 := by omega
    have hr : rd [l0, l1, l2, l3] (m : Int) = leafAt l0 l1 l2 l3 m := by
      have : m = 0 ∨ m = 1 ∨ m = 2 ∨ m = 3 := by omega
      rcases this with rfl | rfl | rfl | rfl <;> rfl
    have e1 : wrap64 (Int.tmod (m : Int) 2 * 4) = ((m % 2 * 4 : Nat) : Int) := by rw [Int.tmod_eq_emod_of_nonneg (by omega), w64i _ (by omega) (by omega)]; omega
    have e2 : wrap64 (wrap64 (Int.tdiv (m : Int) 2) * 4) = ((m / 2 * 4 : Nat) : Int) := by rw [Int.tdiv_eq_ediv_of_nonneg (by omega), w64i ((m : Int) / 2) (by omega) (by omega), w64i _ (by omega) (by omega)]; omega
    have hw : wrap64 ((m : Int) + 1) = ((m + 1 : Nat) : Int) := by rw [w64i ((m : Int) + 1) (by omega) (by omega)]; rfl
    obtain ⟨T, hT⟩ : ∃ T, T = cells9L (leafAt l0 l1 l2 l3 m) ((m % 2 * 4 : Nat) : Int) ((m / 2 * 4 : Nat) : Int) 16 := ⟨_, rfl⟩
    have hTl : T.length ≤ 32 := by rw [hT]; exact cells9L_len _ _ _ 16
    have hcl := cells10L_len lat l0 l1 l2 l3 m
    obtain ⟨k, rfl⟩ : ∃ q, k = q + T.length + 1 + 1 := ⟨k - T.length - 2, by omega⟩
    rw [honeycombref10_Cells.l0, if_pos (by omega), if_pos (by omega), if_pos (by simp; omega), hr, e1, e2, cells9_f _ _ _ _ (by omega) (hl m).1 (hl m).2 (by omega) (by omega), Option.bind_some, ← hT]
    have := cells10_l1 lat [l0, l1, l2, l3] 4 (m : Int) T (by omega) T.length k 0 (cells10L lat l0 l1 l2 l3 m) (by omega) (by omega)
    rw [hw, List.drop_zero, hT, ← cells10L_succ, ← hT] at this
    refine this.trans ?_
    exact ih k (m + 1) (by omega) (by omega)
theorem cells10_f (k : Nat) (lat l0 l1 l2 l3 : Int) (hk : 6000 ≤ k) (hl : ∀ m, 0 ≤ leafAt l0 l1 l2 l3 m ∧ leafAt l0 l1 l2 l3 m < 4294967296) : honeycombref10_Cells.f k lat [l0, l1, l2, l3] = some ((ofL (cells10L lat l0 l1 l2 l3 4)).map told) := by
  unfold honeycombref10_Cells.f
  exact cells10_l0 lat l0 l1 l2 l3 hl 4 k 0 (by omega) (by omega)
def horL (f : Nat → Int) : Nat → Int
  | 0 => 0
  | n + 1 => horL f n + f n * 4 ^ n
theorem horL_bd (f : Nat → Int) (hf : ∀ i, 0 ≤ f i ∧ f i ≤ 3) (n : Nat) : 0 ≤ horL f n ∧ horL f n < 4 ^ n := by
  induction n with
  | zero => simp [horL]
  | succ n ih =>
    have h := hf n
    have hp : (0 : Int) < 4 ^ n := Int.pow_pos (by decide)
    have h1 : 0 ≤ f n * 4 ^ n := Int.mul_nonneg h.1 (Int.le_of_lt hp)
    have h2 : f n * 4 ^ n ≤ 3 * 4 ^ n := Int.mul_le_mul_of_nonneg_right h.2 (Int.le_of_lt hp)
    rw [horL, Int.pow_succ]
    omega
theorem of9_l0 (f : Nat → Int) (hf : ∀ i, 0 ≤ f i ∧ f i ≤ 3) (L : List Int) (hL : L.length = 16) (hr : ∀ i : Nat, i < 16 → rd L (i : Int) = f i) : ∀ (d k : Nat) (n : Int), d ≤ 16 → d < k → 0 ≤ n → n * 4 ^ d + horL f d < 4294967296 → honeycombref09_Of.l0 k L n ((d : Int) - 1) = some (n * 4 ^ d + horL f d) := by
  intro d
  induction d with
  | zero =>
    intro k n hd hk hn hb
    obtain ⟨k, rfl⟩ : ∃ q, k = q + 1 := ⟨k - 1, by omega⟩
    rw [honeycombref09_Of.l0, if_neg (by omega)]
    simp [horL]
  | succ d ih =>
    intro k n hd hk hn hb
    obtain ⟨k, rfl⟩ : ∃ q, k = q + 1 := ⟨k - 1, by omega⟩
    have e1 : (((d + 1 : Nat) : Int) - 1) = (d : Int) := by omega
    have e2 : wrap64 ((d : Int) - 1) = (d : Int) - 1 := w64i _ (by omega) (by omega)
    have h := hf d
    have hp : (0 : Int) < 4 ^ d := Int.pow_pos (by decide)
    have hx : n * 4 ^ (d + 1) + horL f (d + 1) = (4 * n + f d) * 4 ^ d + horL f d := by
      rw [horL, Int.pow_succ, Int.add_mul, ← Int.mul_assoc, Int.mul_comm (n * 4 ^ d) 4, Int.mul_assoc 4 n]
      omega
    have hh := (horL_bd f hf d).1
    have hsm : 4 * n + f d ≤ (4 * n + f d) * 4 ^ d := by
      have := Int.mul_le_mul_of_nonneg_left (show (1 : Int) ≤ 4 ^ d by omega) (show 0 ≤ 4 * n + f d by omega)
      omega
    rw [e1, honeycombref09_Of.l0, if_pos (by omega), if_pos (by omega), if_pos (by omega), hr d (by omega), e2]
    rw [show (4 * n % 4294967296 + f d % 4294967296) % 4294967296 = 4 * n + f d by omega, ih k (4 * n + f d) (by omega) (by omega) (by omega) (by omega), hx]
/-- the state of a point of a set -/
def stS (S : List CL) (x y : Int) : Int := (if mk x y 0 ∈ S then 1 else 0) + (if mk x y 1 ∈ S then 2 else 0)
theorem stS_bd (S : List CL) (x y : Int) : 0 ≤ stS S x y ∧ stS S x y ≤ 3 := by unfold stS; split <;> split <;> omega
def stsS (S : List CL) (a b : Int) (n : Nat) : List Int := (List.range n).map fun i => stS S (a + ((i % 4 : Nat) : Int)) (b + ((i / 4 : Nat) : Int))
theorem stsS_succ (S : List CL) (a b : Int) (n : Nat) : stsS S a b (n + 1) = stsS S a b n ++ [stS S (a + ((n % 4 : Nat) : Int)) (b + ((n / 4 : Nat) : Int))] := by
  unfold stsS
  rw [List.range_succ, List.map_append]
  rfl
theorem stsS_len (S : List CL) (a b : Int) (n : Nat) : (stsS S a b n).length = n := by simp [stsS]
theorem has_st (k : Nat) (S : List CL) (x y h : Int) (hS : S.length ≤ 1000) (hk : S.length < k) : honeycombref04_Has.f k (S.map told) x y h = some (decide (mk x y h ∈ S)) := hasR_f k S (mk x y h) hS hk
theorem leaf10_l1 (S : List CL) (hS : S.length ≤ 1000) (a b : Int) (ha : -100 ≤ a ∧ a ≤ 100) (hb : -100 ≤ b ∧ b ≤ 100) (j : Nat) (hj : j < 4) : ∀ (d k i : Nat), i + d = 4 → honeycombref10_Leaf.l1 (k + 1100 + 2 * d) (S.map told) a b (stsS S a b (4 * j + i)) (b + (j : Int)) (a + (i : Int)) = honeycombref10_Leaf.l0 (k + 1099) (S.map told) a b (stsS S a b (4 * (j + 1))) (b + ((j + 1 : Nat) : Int)) := by
  have ew : wrap64 (a + 4) = a + 4 := w64i _ (by omega) (by omega)
  intro d
  induction d with
  | zero =>
    intro k i hi
    have hw : wrap64 (b + (j : Int) + 1) = b + ((j + 1 : Nat) : Int) := by rw [w64i _ (by omega) (by omega)]; omega
    rw [show k + 1100 + 2 * 0 = (k + 1099) + 1 by omega, honeycombref10_Leaf.l1, ew, if_neg (by omega), hw, show 4 * j + i = 4 * (j + 1) by omega]
  | succ d ih =>
    intro k i hi
    have hw : wrap64 (a + (i : Int) + 1) = a + ((i + 1 : Nat) : Int) := by rw [w64i _ (by omega) (by omega)]; omega
    have hst : stsS S a b (4 * j + (i + 1)) = stsS S a b (4 * j + i) ++ [stS S (a + (i : Int)) (b + (j : Int))] := by
      rw [show 4 * j + (i + 1) = 4 * j + i + 1 by omega, stsS_succ, show (4 * j + i) % 4 = i by omega, show (4 * j + i) / 4 = j by omega]
    have hlen : (stsS S a b (4 * j + i)).length < 17592186044416 := by rw [stsS_len]; omega
    have hgo := ih k (i + 1) (by omega)
    rw [hst] at hgo
    rw [show k + 1100 + 2 * (d + 1) = (k + 1100 + 2 * d + 1) + 1 by omega, honeycombref10_Leaf.l1, ew, if_pos (by omega), has_st _ S _ _ _ hS (by omega), Option.bind_some]
    have hj2 : ∀ x10 : Int, 0 ≤ x10 ∧ x10 ≤ 1 → x10 = (if mk (a + (i : Int)) (b + (j : Int)) 0 ∈ S then 1 else 0) → honeycombref10_Leaf.j2 (k + 1100 + 2 * d + 1) (S.map told) a b (stsS S a b (4 * j + i)) (b + (j : Int)) (a + (i : Int)) x10 = honeycombref10_Leaf.l0 (k + 1099) (S.map told) a b (stsS S a b (4 * (j + 1))) (b + ((j + 1 : Nat) : Int)) := by
      intro x10 hx he
      have hw2 : wrap64 (x10 + 2) = x10 + 2 := w64i _ (by omega) (by omega)
      rw [honeycombref10_Leaf.j2, has_st _ S _ _ _ hS (by omega), Option.bind_some, if_pos hlen, if_pos hlen, hw, hw2, ← hgo]
      unfold stS
      rw [← he]
      by_cases h1 : mk (a + (i : Int)) (b + (j : Int)) 1 ∈ S
      · rw [if_pos (decide_eq_true h1), if_pos h1]
      · rw [if_neg (by simpa using h1), if_neg h1, Int.add_zero]
    by_cases h0 : mk (a + (i : Int)) (b + (j : Int)) 0 ∈ S
    · rw [if_pos (decide_eq_true h0), hj2 (0 + 1) (by omega) (by rw [if_pos h0]; rfl)]
    · rw [if_neg (by simpa using h0), hj2 0 (by omega) (by rw [if_neg h0])]
/-- the leaf of a set -/
def leafF (S : List CL) (a b : Int) : Int := horL (fun i => stS S (a + ((i % 4 : Nat) : Int)) (b + ((i / 4 : Nat) : Int))) 16
theorem leaf10_f (k : Nat) (S : List CL) (a b : Int) (hk : 2000 ≤ k) (hS : S.length ≤ 1000) (ha : -100 ≤ a ∧ a ≤ 100) (hb : -100 ≤ b ∧ b ≤ 100) : honeycombref10_Leaf.f k (S.map told) a b = some (leafF S a b) := by
  have ew : wrap64 (b + 4) = b + 4 := w64i _ (by omega) (by omega)
  have step : ∀ (j m : Nat), j < 4 → honeycombref10_Leaf.l0 (m + 1109) (S.map told) a b (stsS S a b (4 * j)) (b + (j : Int)) = honeycombref10_Leaf.l0 (m + 1099) (S.map told) a b (stsS S a b (4 * (j + 1))) (b + ((j + 1 : Nat) : Int)) := by
    intro j m hj
    have h := leaf10_l1 S hS a b ha hb j hj 4 m 0 (by omega)
    rw [show m + 1109 = (m + 1100 + 2 * 4) + 1 by omega, honeycombref10_Leaf.l0, ew, if_pos (by omega)]
    simp only [Nat.add_zero, Int.natCast_zero, Int.add_zero] at h
    exact h
  obtain ⟨m, rfl⟩ : ∃ m, k = m + 40 + 1099 := ⟨k - 1139, by omega⟩
  unfold honeycombref10_Leaf.f
  have e0 := step 0 (m + 30) (by omega)
  have e1 := step 1 (m + 20) (by omega)
  have e2 := step 2 (m + 10) (by omega)
  have e3 := step 3 m (by omega)
  have e4 : honeycombref10_Leaf.l0 (m + 1099) (S.map told) a b (stsS S a b (4 * (3 + 1))) (b + ((3 + 1 : Nat) : Int)) = some (leafF S a b) := by
    rw [show m + 1099 = (m + 1098) + 1 by omega, honeycombref10_Leaf.l0, ew, if_neg (by omega)]
    have hb9 : horL (fun i => stS S (a + ((i % 4 : Nat) : Int)) (b + ((i / 4 : Nat) : Int))) 16 < 4294967296 := (horL_bd _ (fun i => stS_bd S _ _) 16).2
    have h := of9_l0 (fun i => stS S (a + ((i % 4 : Nat) : Int)) (b + ((i / 4 : Nat) : Int))) (fun i => stS_bd S _ _) (stsS S a b 16) (stsS_len S a b 16) (fun i hi => by
      unfold rd stsS
      rw [Int.toNat_natCast, List.getD_eq_getElem?_getD, List.getElem?_map, List.getElem?_range hi]
      rfl) 16 (m + 1098) 0 (by omega) (by omega) (by omega) (by omega)
    unfold honeycombref09_Of.f
    rw [show (15 : Int) = ((16 : Nat) : Int) - 1 from rfl, h]
    simp [leafF]
  refine (?_ : _ = _).trans (e0.trans (e1.trans (e2.trans (e3.trans e4))))
  simp only [Int.natCast_zero, Int.add_zero]
  rfl
/-- a block as a value -/
abbrev blkV (g : Nat → Int) : Value := .agg #[.int .u16 (g 0), .int .u16 (g 1), .int .u16 (g 2), .int .u16 (g 3), .int .u16 (g 4), .int .u16 (g 5), .int .u16 (g 6), .int .u16 (g 7)]
/-- the state of a point of it -/
def stB (g : Nat → Int) (a b : Int) : Int := if a < 0 ∨ 8 ≤ a ∨ b < 0 ∨ 8 ≤ b then 0 else g b.toNat / 2 ^ (2 * a).toNat % 4
theorem bst_out (g : Nat → Int) (a b : Int) (w : World) (ho : a < 0 ∨ 8 ≤ a ∨ b < 0 ∨ 8 ≤ b) :
    Calls Tryd.prog 23 #[blkV g, .int .i64 a, .int .i64 b] w fun e w' => e = .returned (.int .i64 0) ∧ Below w.heap.size w w' := by
  go_enter Tryd.func23, Tryd.ntmps23
  by_cases h1 : a < 0
  · go_wp2
    go_ret
    exact ⟨rfl, (by with_reducible repeat (first | apply below_alloc | apply pw_below_drewN | apply below_drew | refine bset ?_ _ _ (by omega) _ | exact Below.refl _ _))⟩
  · by_cases h2 : 8 ≤ a
    · go_wp2
      go_ret
      exact ⟨rfl, (by with_reducible repeat (first | apply below_alloc | apply pw_below_drewN | apply below_drew | refine bset ?_ _ _ (by omega) _ | exact Below.refl _ _))⟩
    · by_cases h3 : b < 0
      · go_wp2
        go_ret
        exact ⟨rfl, (by with_reducible repeat (first | apply below_alloc | apply pw_below_drewN | apply below_drew | refine bset ?_ _ _ (by omega) _ | exact Below.refl _ _))⟩
      · have h4 : 8 ≤ b := by omega
        go_wp2
        go_ret
        exact ⟨rfl, (by with_reducible repeat (first | apply below_alloc | apply pw_below_drewN | apply below_drew | refine bset ?_ _ _ (by omega) _ | exact Below.refl _ _))⟩
theorem bst_in (g : Nat → Int) (a b : Int) (w : World) (h1 : 0 ≤ a) (h2 : a < 8) (h3 : 0 ≤ b) (h4 : b < 8) (hg : ∀ k, k < 8 → 0 ≤ g k ∧ g k < 65536) :
    Calls Tryd.prog 23 #[blkV g, .int .i64 a, .int .i64 b] w fun e w' => e = .returned (.int .i64 (Go.bits .and .i64 (g b.toNat / 2 ^ (2 * a).toNat) 3)) ∧ Below w.heap.size w w' := by
  have h1' : ¬ a < 0 := by omega
  have h2' : ¬ 8 ≤ a := by omega
  have hw : IntKind.i64.wrap (2 * a) = 2 * a := by rw [IntKind.wrap_i64]; omega
  have h5 : 0 ≤ 2 * a := by omega
  have h6 : 2 * a ≤ 16 := by omega
  have hq : ∀ k, k < 8 → IntKind.i64.wrap (g k / 2 ^ (2 * a).toNat) = g k / 2 ^ (2 * a).toNat := fun k hk => by
    obtain ⟨e1, e2⟩ := hg k hk
    have hp : (0 : Int) < 2 ^ (2 * a).toNat := Int.pow_pos (by decide)
    have e3 : 0 ≤ g k / 2 ^ (2 * a).toNat := Int.ediv_nonneg e1 (Int.le_of_lt hp)
    have e4 : g k / 2 ^ (2 * a).toNat ≤ g k := Int.ediv_le_self _ e1
    rw [IntKind.wrap_i64]
    omega
  have q0 := hq 0 (by omega)
  have q1 := hq 1 (by omega)
  have q2 := hq 2 (by omega)
  have q3 := hq 3 (by omega)
  have q4 := hq 4 (by omega)
  have q5 := hq 5 (by omega)
  have q6 := hq 6 (by omega)
  have q7 := hq 7 (by omega)
  clear hg hq
  have hb : b = 0 ∨ b = 1 ∨ b = 2 ∨ b = 3 ∨ b = 4 ∨ b = 5 ∨ b = 6 ∨ b = 7 := by omega
  rcases hb with rfl | rfl | rfl | rfl | rfl | rfl | rfl | rfl
  all_goals
    clear h3 h4
    go_enter Tryd.func23, Tryd.ntmps23
    go_wp2
    go_ret
    exact ⟨rfl, (by with_reducible repeat (first | apply below_alloc | apply pw_below_drewN | apply below_drew | refine bset ?_ _ _ (by omega) _ | exact Below.refl _ _))⟩
theorem bst_any (g : Nat → Int) (a b : Int) (w : World) (hg : ∀ k, k < 8 → 0 ≤ g k ∧ g k < 65536) :
    Calls Tryd.prog 23 #[blkV g, .int .i64 a, .int .i64 b] w fun e w' => e = .returned (.int .i64 (stB g a b)) ∧ Below w.heap.size w w' := by
  unfold stB
  split
  · next h => exact bst_out g a b w h
  · next h =>
    rw [← and_3]
    exact bst_in g a b w (by omega) (by omega) (by omega) (by omega) hg
/-- a row of a block: eight bits of two leaves -/
def ofRow (q q' : Int) (s : Nat) : Int := q / 2 ^ s % 256 + 256 * (q' / 2 ^ s % 256)
def ofG (q0 q1 q2 q3 : Int) (k : Nat) : Int := ofRow (if k < 4 then q0 else q2) (if k < 4 then q1 else q3) (8 * (k % 4))
/-- the rows that are there already -/
def upG (f : Nat → Int) (j k : Nat) : Int := if k < j then f k else 0
abbrev blkO (g : Nat → Int) (t : Nat) : Obj := .cells #[.int .u16 (g 0), .int .u16 (g 1), .int .u16 (g 2), .int .u16 (g 3), .int .u16 (g 4), .int .u16 (g 5), .int .u16 (g 6), .int .u16 (g 7)] t (0, 0)
abbrev set8 (W : World) (g : Nat) (v : Nat → Int) : World := (((((((W.setCell ⟨g, 0, none⟩ (.int .u16 (v 0))).setCell ⟨g, 1, none⟩ (.int .u16 (v 1))).setCell ⟨g, 2, none⟩ (.int .u16 (v 2))).setCell ⟨g, 3, none⟩ (.int .u16 (v 3))).setCell ⟨g, 4, none⟩ (.int .u16 (v 4))).setCell ⟨g, 5, none⟩ (.int .u16 (v 5))).setCell ⟨g, 6, none⟩ (.int .u16 (v 6))).setCell ⟨g, 7, none⟩ (.int .u16 (v 7))
theorem set8_blk {W : World} {g t : Nat} {z : Nat → Int} (v : Nat → Int) (h : W.heap[g]? = some (blkO z t)) : (set8 W g v).heap[g]? = some (blkO v t) := by
  have h0 := blk_put h 0 (.int .u16 (v 0)) (show _ = #[.int .u16 (v 0), .int .u16 (z 1), .int .u16 (z 2), .int .u16 (z 3), .int .u16 (z 4), .int .u16 (z 5), .int .u16 (z 6), .int .u16 (z 7)] from rfl)
  have h1 := blk_put h0 1 (.int .u16 (v 1)) (show _ = #[.int .u16 (v 0), .int .u16 (v 1), .int .u16 (z 2), .int .u16 (z 3), .int .u16 (z 4), .int .u16 (z 5), .int .u16 (z 6), .int .u16 (z 7)] from rfl)
  have h2 := blk_put h1 2 (.int .u16 (v 2)) (show _ = #[.int .u16 (v 0), .int .u16 (v 1), .int .u16 (v 2), .int .u16 (z 3), .int .u16 (z 4), .int .u16 (z 5), .int .u16 (z 6), .int .u16 (z 7)] from rfl)
  have h3 := blk_put h2 3 (.int .u16 (v 3)) (show _ = #[.int .u16 (v 0), .int .u16 (v 1), .int .u16 (v 2), .int .u16 (v 3), .int .u16 (z 4), .int .u16 (z 5), .int .u16 (z 6), .int .u16 (z 7)] from rfl)
  have h4 := blk_put h3 4 (.int .u16 (v 4)) (show _ = #[.int .u16 (v 0), .int .u16 (v 1), .int .u16 (v 2), .int .u16 (v 3), .int .u16 (v 4), .int .u16 (z 5), .int .u16 (z 6), .int .u16 (z 7)] from rfl)
  have h5 := blk_put h4 5 (.int .u16 (v 5)) (show _ = #[.int .u16 (v 0), .int .u16 (v 1), .int .u16 (v 2), .int .u16 (v 3), .int .u16 (v 4), .int .u16 (v 5), .int .u16 (z 6), .int .u16 (z 7)] from rfl)
  have h6 := blk_put h5 6 (.int .u16 (v 6)) (show _ = #[.int .u16 (v 0), .int .u16 (v 1), .int .u16 (v 2), .int .u16 (v 3), .int .u16 (v 4), .int .u16 (v 5), .int .u16 (v 6), .int .u16 (z 7)] from rfl)
  have h7 := blk_put h6 7 (.int .u16 (v 7)) (show _ = #[.int .u16 (v 0), .int .u16 (v 1), .int .u16 (v 2), .int .u16 (v 3), .int .u16 (v 4), .int .u16 (v 5), .int .u16 (v 6), .int .u16 (v 7)] from rfl)
  exact h7
theorem set8_below {W w : World} {n g : Nat} (v : Nat → Int) (h : Below n w W) (hg : n ≤ g) : Below n w (set8 W g v) :=
  Below.setCell (p := ⟨g, 7, none⟩) (Below.setCell (p := ⟨g, 6, none⟩) (Below.setCell (p := ⟨g, 5, none⟩) (Below.setCell (p := ⟨g, 4, none⟩) (Below.setCell (p := ⟨g, 3, none⟩) (Below.setCell (p := ⟨g, 2, none⟩) (Below.setCell (p := ⟨g, 1, none⟩) (Below.setCell (p := ⟨g, 0, none⟩) h hg _) hg _) hg _) hg _) hg _) hg _) hg _) hg _
theorem and255 (x : Int) (h0 : 0 ≤ x) (h1 : x < 4294967296) : Go.bits .and .u32 x 255 = x % 256 := by
  rw [Go.u32_and x 255 h0 h1 (by omega) (by omega), show (255 : Int).toNat = 255 from rfl, Go.nat_mask8]
  omega
theorem or_row (x y : Int) (hx : 0 ≤ x ∧ x < 256) (hy : 0 ≤ y ∧ y < 256) : Go.bits .or .u16 x (y * 256) = x + 256 * y := by
  rw [Go.u16_or x (y * 256) (by omega) (by omega) (by omega) (by omega), Nat.or_comm, Go.nat_join 8 _ _ (by omega) (by omega)]
  omega
theorem row_v (a b : Int) (ha : 0 ≤ a ∧ a < 4294967296) (hb : 0 ≤ b ∧ b < 4294967296) : Go.bits .or .u16 (IntKind.u16.wrap (Go.bits .and .u32 a 255)) (IntKind.u16.wrap (IntKind.u16.wrap (Go.bits .and .u32 b 255) * 256)) = a % 256 + 256 * (b % 256) := by
  rw [and255 a ha.1 ha.2, and255 b hb.1 hb.2, Go.IntKind.wrap_u16, Go.IntKind.wrap_u16, Go.IntKind.wrap_u16, show a % 256 % 65536 = a % 256 by omega, show b % 256 % 65536 * 256 % 65536 = b % 256 * 256 by omega]
  exact or_row _ _ (by omega) (by omega)
theorem bof_any (q0 q1 q2 q3 : Int) (w : World) (h0 : 0 ≤ q0 ∧ q0 < 4294967296) (h1 : 0 ≤ q1 ∧ q1 < 4294967296) (h2 : 0 ≤ q2 ∧ q2 < 4294967296) (h3 : 0 ≤ q3 ∧ q3 < 4294967296) :
    Calls Tryd.prog 17 #[.agg #[.int .u32 q0, .int .u32 q1, .int .u32 q2, .int .u32 q3]] w fun e w' => e = .returned (blkV (ofG q0 q1 q2 q3)) ∧ Below w.heap.size w w' := by
  go_enter Tryd.func17, Tryd.ntmps17
  go_upto_region 2 with (fail)
  obtain ⟨w3, hw3⟩ : ∃ W, W = ((w.alloc (.cells #[.int .u32 q0, .int .u32 q1, .int .u32 q2, .int .u32 q3] 56 (0, 0))).alloc (.cells #[.int .u16 0, .int .u16 0, .int .u16 0, .int .u16 0, .int .u16 0, .int .u16 0, .int .u16 0, .int .u16 0] 52 (0, 0))).alloc (.cells #[.int .u16 0, .int .u16 0, .int .u16 0, .int .u16 0, .int .u16 0, .int .u16 0, .int .u16 0, .int .u16 0] 52 (0, 0)) := ⟨_, rfl⟩
  have bq : w3.heap[w.heap.size]? = some (.cells #[.int .u32 q0, .int .u32 q1, .int .u32 q2, .int .u32 q3] 56 (0, 0)) := by rw [hw3]; exact blk_alloc (blk_alloc (blk_new _ _) _) _
  have bo : w3.heap[w.heap.size + 1]? = some (blkO (fun _ => 0) 52) := by
    have := blk_new (w.alloc (.cells #[.int .u32 q0, .int .u32 q1, .int .u32 q2, .int .u32 q3] 56 (0, 0))) (blkO (fun _ => 0) 52)
    rw [World.size_alloc] at this
    rw [hw3]
    exact blk_alloc this _
  have bx : w3.heap[w.heap.size + 1 + 1]? = some (blkO (fun _ => 0) 52) := by
    have := blk_new ((w.alloc (.cells #[.int .u32 q0, .int .u32 q1, .int .u32 q2, .int .u32 q3] 56 (0, 0))).alloc (blkO (fun _ => 0) 52)) (blkO (fun _ => 0) 52)
    rw [World.size_alloc, World.size_alloc] at this
    rw [hw3]
    exact this
  have hB : Below w.heap.size w w3 := by rw [hw3]; exact (by with_reducible repeat (first | apply below_alloc | apply pw_below_drewN | apply below_drew | refine bset ?_ _ _ (by omega) _ | exact Below.refl _ _))
  rw [← hw3]
  clear hw3
  obtain ⟨g1, hg1⟩ : ∃ g, g = w.heap.size := ⟨_, rfl⟩
  obtain ⟨g2, hg2⟩ : ∃ g, g = w.heap.size + 1 := ⟨_, rfl⟩
  obtain ⟨g3, hg3⟩ : ∃ g, g = w.heap.size + 1 + 1 := ⟨_, rfl⟩
  rw [← hg1] at bq
  rw [← hg3] at bx ⊢
  rw [← hg2] at bo ⊢
  rw [← hg1]
  have n13 : g1 ≠ g3 := by omega
  have n23 : g2 ≠ g3 := by omega
  have l2 : w.heap.size ≤ g2 := by omega
  have l3 : w.heap.size ≤ g3 := by omega
  clear hg1 hg2 hg3
  go_wp2_with fail
  go_loopw [7] (fun iv wr => ∃ j : Nat, j ≤ 8 ∧ iv = .int .i64 j ∧ wr.heap[g1]? = some (.cells #[.int .u32 q0, .int .u32 q1, .int .u32 q2, .int .u32 q3] 56 (0, 0)) ∧ wr.heap[g2]? = some (blkO (fun _ => 0) 52) ∧ wr.heap[g3]? = some (blkO (upG (ofG q0 q1 q2 q3) j) 52) ∧ Below w.heap.size w wr) (fun iv _ => 8 - (intOf iv).toNat)
  case atStart => exact ⟨0, by omega, rfl, bq, bo, bx, hB⟩
  case round =>
    obtain ⟨j, hj, rfl, rq, ro, rx, hB⟩ := hrel
    have RQ := Aside0.mk rq
    have RO := Aside0.mk ro
    have RX := Aside0.mk rx
    have HB := Aside0.mk hB
    clear bq bo bx ro hB
    by_cases hlt : j < 8
    · have c0 := blk_cell rq 0
      have c1 := blk_cell rq 1
      have c2 := blk_cell rq 2
      have c3 := blk_cell rq 3
      have xf := blk_frozen rx
      simp only [List.getElem?_toArray, List.getElem?_cons_zero, List.getElem?_cons_succ] at c0 c1 c2 c3
      clear rq rx
      have hjj : j = 0 ∨ j = 1 ∨ j = 2 ∨ j = 3 ∨ j = 4 ∨ j = 5 ∨ j = 6 ∨ j = 7 := by omega
      rcases hjj with rfl | rfl | rfl | rfl | rfl | rfl | rfl | rfl
      · have xj := blk_cell RX.out 0
        simp only [List.getElem?_toArray, List.getElem?_cons_zero, List.getElem?_cons_succ] at xj
        have hv : Go.bits .or .u16 (IntKind.u16.wrap (Go.bits .and .u32 q0 255)) (IntKind.u16.wrap (IntKind.u16.wrap (Go.bits .and .u32 q1 255) * 256)) = ofG q0 q1 q2 q3 0 := (row_v q0 q1 (by omega) (by omega)).trans (by unfold ofG ofRow; simp)
        go_upto_region 7 with (fail)
        go_region
        all_goals
          clear hv c0 c1 c2 c3 xj xf
          go_wp2
          go_roundw
          case rel => exact ⟨1, by omega, by go_num, blk_far (blk_drew RQ.out) (p := ⟨g3, 0, none⟩) n13 _, blk_far (blk_drew RO.out) (p := ⟨g3, 0, none⟩) n23 _, blk_put (blk_drew RX.out) 0 _ rfl, Below.setCell (p := ⟨g3, 0, none⟩) (below_drew HB.out) l3 _⟩
          case measure => simp [intOf]
      · have xj := blk_cell RX.out 1
        simp only [List.getElem?_toArray, List.getElem?_cons_zero, List.getElem?_cons_succ] at xj
        have hv : Go.bits .or .u16 (IntKind.u16.wrap (Go.bits .and .u32 (q0 / 256) 255)) (IntKind.u16.wrap (IntKind.u16.wrap (Go.bits .and .u32 (q1 / 256) 255) * 256)) = ofG q0 q1 q2 q3 1 := (row_v (q0 / 256) (q1 / 256) (by omega) (by omega)).trans (by unfold ofG ofRow; simp)
        go_upto_region 7 with (fail)
        go_region
        all_goals
          clear hv c0 c1 c2 c3 xj xf
          go_wp2
          go_roundw
          case rel => exact ⟨2, by omega, by go_num, blk_far (blk_drew RQ.out) (p := ⟨g3, 1, none⟩) n13 _, blk_far (blk_drew RO.out) (p := ⟨g3, 1, none⟩) n23 _, blk_put (blk_drew RX.out) 1 _ rfl, Below.setCell (p := ⟨g3, 1, none⟩) (below_drew HB.out) l3 _⟩
          case measure => simp [intOf]
      · have xj := blk_cell RX.out 2
        simp only [List.getElem?_toArray, List.getElem?_cons_zero, List.getElem?_cons_succ] at xj
        have hv : Go.bits .or .u16 (IntKind.u16.wrap (Go.bits .and .u32 (q0 / 65536) 255)) (IntKind.u16.wrap (IntKind.u16.wrap (Go.bits .and .u32 (q1 / 65536) 255) * 256)) = ofG q0 q1 q2 q3 2 := (row_v (q0 / 65536) (q1 / 65536) (by omega) (by omega)).trans (by unfold ofG ofRow; simp)
        go_upto_region 7 with (fail)
        go_region
        all_goals
          clear hv c0 c1 c2 c3 xj xf
          go_wp2
          go_roundw
          case rel => exact ⟨3, by omega, by go_num, blk_far (blk_drew RQ.out) (p := ⟨g3, 2, none⟩) n13 _, blk_far (blk_drew RO.out) (p := ⟨g3, 2, none⟩) n23 _, blk_put (blk_drew RX.out) 2 _ rfl, Below.setCell (p := ⟨g3, 2, none⟩) (below_drew HB.out) l3 _⟩
          case measure => simp [intOf]
      · have xj := blk_cell RX.out 3
        simp only [List.getElem?_toArray, List.getElem?_cons_zero, List.getElem?_cons_succ] at xj
        have hv : Go.bits .or .u16 (IntKind.u16.wrap (Go.bits .and .u32 (q0 / 16777216) 255)) (IntKind.u16.wrap (IntKind.u16.wrap (Go.bits .and .u32 (q1 / 16777216) 255) * 256)) = ofG q0 q1 q2 q3 3 := (row_v (q0 / 16777216) (q1 / 16777216) (by omega) (by omega)).trans (by unfold ofG ofRow; simp)
        go_upto_region 7 with (fail)
        go_region
        all_goals
          clear hv c0 c1 c2 c3 xj xf
          go_wp2
          go_roundw
          case rel => exact ⟨4, by omega, by go_num, blk_far (blk_drew RQ.out) (p := ⟨g3, 3, none⟩) n13 _, blk_far (blk_drew RO.out) (p := ⟨g3, 3, none⟩) n23 _, blk_put (blk_drew RX.out) 3 _ rfl, Below.setCell (p := ⟨g3, 3, none⟩) (below_drew HB.out) l3 _⟩
          case measure => simp [intOf]
      · have xj := blk_cell RX.out 4
        simp only [List.getElem?_toArray, List.getElem?_cons_zero, List.getElem?_cons_succ] at xj
        have hv : Go.bits .or .u16 (IntKind.u16.wrap (Go.bits .and .u32 q2 255)) (IntKind.u16.wrap (IntKind.u16.wrap (Go.bits .and .u32 q3 255) * 256)) = ofG q0 q1 q2 q3 4 := (row_v q2 q3 (by omega) (by omega)).trans (by unfold ofG ofRow; simp)
        go_upto_region 7 with (fail)
        go_region
        all_goals
          clear hv c0 c1 c2 c3 xj xf
          go_wp2
          go_roundw
          case rel => exact ⟨5, by omega, by go_num, blk_far (blk_drew RQ.out) (p := ⟨g3, 4, none⟩) n13 _, blk_far (blk_drew RO.out) (p := ⟨g3, 4, none⟩) n23 _, blk_put (blk_drew RX.out) 4 _ rfl, Below.setCell (p := ⟨g3, 4, none⟩) (below_drew HB.out) l3 _⟩
          case measure => simp [intOf]
      · have xj := blk_cell RX.out 5
        simp only [List.getElem?_toArray, List.getElem?_cons_zero, List.getElem?_cons_succ] at xj
        have hv : Go.bits .or .u16 (IntKind.u16.wrap (Go.bits .and .u32 (q2 / 256) 255)) (IntKind.u16.wrap (IntKind.u16.wrap (Go.bits .and .u32 (q3 / 256) 255) * 256)) = ofG q0 q1 q2 q3 5 := (row_v (q2 / 256) (q3 / 256) (by omega) (by omega)).trans (by unfold ofG ofRow; simp)
        go_upto_region 7 with (fail)
        go_region
        all_goals
          clear hv c0 c1 c2 c3 xj xf
          go_wp2
          go_roundw
          case rel => exact ⟨6, by omega, by go_num, blk_far (blk_drew RQ.out) (p := ⟨g3, 5, none⟩) n13 _, blk_far (blk_drew RO.out) (p := ⟨g3, 5, none⟩) n23 _, blk_put (blk_drew RX.out) 5 _ rfl, Below.setCell (p := ⟨g3, 5, none⟩) (below_drew HB.out) l3 _⟩
          case measure => simp [intOf]
      · have xj := blk_cell RX.out 6
        simp only [List.getElem?_toArray, List.getElem?_cons_zero, List.getElem?_cons_succ] at xj
        have hv : Go.bits .or .u16 (IntKind.u16.wrap (Go.bits .and .u32 (q2 / 65536) 255)) (IntKind.u16.wrap (IntKind.u16.wrap (Go.bits .and .u32 (q3 / 65536) 255) * 256)) = ofG q0 q1 q2 q3 6 := (row_v (q2 / 65536) (q3 / 65536) (by omega) (by omega)).trans (by unfold ofG ofRow; simp)
        go_upto_region 7 with (fail)
        go_region
        all_goals
          clear hv c0 c1 c2 c3 xj xf
          go_wp2
          go_roundw
          case rel => exact ⟨7, by omega, by go_num, blk_far (blk_drew RQ.out) (p := ⟨g3, 6, none⟩) n13 _, blk_far (blk_drew RO.out) (p := ⟨g3, 6, none⟩) n23 _, blk_put (blk_drew RX.out) 6 _ rfl, Below.setCell (p := ⟨g3, 6, none⟩) (below_drew HB.out) l3 _⟩
          case measure => simp [intOf]
      · have xj := blk_cell RX.out 7
        simp only [List.getElem?_toArray, List.getElem?_cons_zero, List.getElem?_cons_succ] at xj
        have hv : Go.bits .or .u16 (IntKind.u16.wrap (Go.bits .and .u32 (q2 / 16777216) 255)) (IntKind.u16.wrap (IntKind.u16.wrap (Go.bits .and .u32 (q3 / 16777216) 255) * 256)) = ofG q0 q1 q2 q3 7 := (row_v (q2 / 16777216) (q3 / 16777216) (by omega) (by omega)).trans (by unfold ofG ofRow; simp)
        go_upto_region 7 with (fail)
        go_region
        all_goals
          clear hv c0 c1 c2 c3 xj xf
          go_wp2
          go_roundw
          case rel => exact ⟨8, by omega, by go_num, blk_far (blk_drew RQ.out) (p := ⟨g3, 7, none⟩) n13 _, blk_far (blk_drew RO.out) (p := ⟨g3, 7, none⟩) n23 _, blk_put (blk_drew RX.out) 7 _ rfl, Below.setCell (p := ⟨g3, 7, none⟩) (below_drew HB.out) l3 _⟩
          case measure => simp [intOf]
    · obtain rfl : j = 8 := by omega
      clear rq rx RQ
      have XO := And.intro (blk_cell RX.out 0) (And.intro (blk_cell RX.out 1) (And.intro (blk_cell RX.out 2) (And.intro (blk_cell RX.out 3) (And.intro (blk_cell RX.out 4) (And.intro (blk_cell RX.out 5) (And.intro (blk_cell RX.out 6) (blk_cell RX.out 7)))))))
      have YO := And.intro (blk_cell RO.out 0) (And.intro (blk_cell RO.out 1) (And.intro (blk_cell RO.out 2) (And.intro (blk_cell RO.out 3) (And.intro (blk_cell RO.out 4) (And.intro (blk_cell RO.out 5) (And.intro (blk_cell RO.out 6) (blk_cell RO.out 7)))))))
      have yf := blk_frozen RO.out
      simp only [List.getElem?_toArray, List.getElem?_cons_zero, List.getElem?_cons_succ] at XO YO
      obtain ⟨x0, x1, x2, x3, x4, x5, x6, x7⟩ := XO
      obtain ⟨y0, y1, y2, y3, y4, y5, y6, y7⟩ := YO
      go_wp2
      exact bodyPost_ret (results_cell_row rfl _ _ g2 52 _ (0, 0) _ rfl (set8_blk (upG (ofG q0 q1 q2 q3) 8) RO.out) Tryd.underlying52 rfl (by kernel_rfl)) rfl ⟨rfl, set8_below (upG (ofG q0 q1 q2 q3) 8) HB.out l2⟩
open Go.Shelf Go.Lib Go.Sort
def offs (l h : Int) : List CL :=
  if l = 1 then [mk 0 (-1) 0, mk 1 (-1) 0, mk (-1) 0 0, mk 1 0 0, mk (-1) 1 0, mk 0 1 0]
  else if l = 2 then (if h = 0 then [mk 0 (-1) 1, mk (-1) 0 1, mk 0 0 1] else [mk 0 0 0, mk 1 0 0, mk 0 1 0])
  else if h = 0 then [mk (-1) (-1) 1, mk 0 (-1) 0, mk 0 (-1) 1, mk 1 (-1) 0, mk 1 (-1) 1, mk (-1) 0 0, mk (-1) 0 1, mk 0 0 1, mk 1 0 0, mk (-1) 1 0, mk (-1) 1 1, mk 0 1 0]
  else [mk 0 (-1) 1, mk 1 (-1) 0, mk 1 (-1) 1, mk (-1) 0 1, mk 0 0 0, mk 1 0 0, mk 1 0 1, mk (-1) 1 0, mk (-1) 1 1, mk 0 1 0, mk 0 1 1, mk 1 1 0]
instance (xs : List CL) : Decidable (xs.Pairwise fun x y => (!(ltOf cmpCell) y x) = true) := inferInstance
abbrev PT := S99
/-- the cells beside one, as a kernel keeps them -/
def nearK (l h : Int) : List PT := if l = 1 then (if h = 0 then [⟨1, 0, 0, 1⟩, ⟨0, 1, 0, 2⟩, ⟨-1, 1, 0, 4⟩, ⟨-1, 0, 0, 8⟩, ⟨0, -1, 0, 16⟩, ⟨1, -1, 0, 32⟩] else []) else (offs l h).map fun d => ⟨d.f0.f0, d.f0.f1, d.f1, 1⟩
/-- a kernel in memory -/
def KerAt (w : World) (gk : Nat) (l b0 b1 s0 s1 : Int) : Prop := ∃ A0 c0 A1 c1, w.heap[gk]? = some (.cells #[.int .i64 l, .int .u64 b0, .int .u64 b1, .int .u64 s0, .int .u64 s1, .slice A0 (nearK l 0).length c0, .slice A1 (nearK l 1).length c1] 95 (0, 0)) ∧ Kd.C k99 w A0 (nearK l 0).length (nearK l 0) ∧ Kd.C k99 w A1 (nearK l 1).length (nearK l 1)
theorem KerAt.below {w w' : World} {gk : Nat} {l b0 b1 s0 s1 : Int} (h : KerAt w gk l b0 b1 s0 s1) (hb : Below w.heap.size w w') : KerAt w' gk l b0 b1 s0 s1 := by
  obtain ⟨A0, c0, A1, c1, h1, h2, h3⟩ := h
  exact ⟨A0, c0, A1, c1, blk_below h1 hb, Kd.C_below h2 hb, Kd.C_below h3 hb⟩
/-- one round of the count -/
def stepP (g : Nat → Int) (a b : Int) (n : Int) (p : PT) : Int := if stB g (a + p.f0) (b + p.f1) / 2 ^ p.f2.toNat % 2 = 1 then n + p.f3 else n
def sumP (g : Nat → Int) (a b : Int) (L : List PT) : Int := L.foldl (stepP g a b) 0
theorem sumP_take (g : Nat → Int) (a b : Int) (L : List PT) (k : Nat) (h : k < L.length) : sumP g a b (L.take (k + 1)) = stepP g a b (sumP g a b (L.take k)) L[k] := by
  unfold sumP
  rw [List.take_add_one, List.getElem?_eq_getElem h, List.foldl_append]
  rfl
def okP (p : PT) : Prop := (-1 ≤ p.f0 ∧ p.f0 ≤ 1) ∧ (-1 ≤ p.f1 ∧ p.f1 ≤ 1) ∧ (p.f2 = 0 ∨ p.f2 = 1) ∧ (0 ≤ p.f3 ∧ p.f3 ≤ 32)
theorem nearK_ok (l h : Int) (hl : 1 ≤ l ∧ l ≤ 3) (hh : h = 0 ∨ h = 1) : (nearK l h).length ≤ 12 ∧ ∀ p ∈ nearK l h, okP p := by
  have hl3 : l = 1 ∨ l = 2 ∨ l = 3 := by omega
  rcases hl3 with rfl | rfl | rfl <;> rcases hh with rfl | rfl <;> (refine ⟨by decide, ?_⟩; unfold okP; decide)
theorem stepP_bd (g : Nat → Int) (a b n : Int) (p : PT) (hp : okP p) : n ≤ stepP g a b n p ∧ stepP g a b n p ≤ n + 32 := by
  have := hp.2.2.2
  unfold stepP
  split <;> omega
theorem sumP_bd (g : Nat → Int) (a b : Int) (L : List PT) (hL : ∀ p ∈ L, okP p) (k : Nat) (hk : k ≤ L.length) : 0 ≤ sumP g a b (L.take k) ∧ sumP g a b (L.take k) ≤ 32 * k := by
  induction k with
  | zero => simp [sumP]
  | succ k ih =>
    have := ih (by omega)
    rw [sumP_take g a b L k (by omega)]
    have := stepP_bd g a b (sumP g a b (L.take k)) L[k] (hL _ (List.getElem_mem _))
    omega
theorem stB_bd (g : Nat → Int) (a b : Int) : 0 ≤ stB g a b ∧ stB g a b ≤ 3 := by
  unfold stB
  split <;> omega
abbrev S11 (gx gp : Nat) (g : Nat → Int) (p0 p1 p2 : Int) (W : World) : Prop := (W.cell? ⟨gx, 0, none⟩ = some (.int .u16 (g 0)) ∧ W.cell? ⟨gx, 1, none⟩ = some (.int .u16 (g 1)) ∧ W.cell? ⟨gx, 2, none⟩ = some (.int .u16 (g 2)) ∧ W.cell? ⟨gx, 3, none⟩ = some (.int .u16 (g 3)) ∧ W.cell? ⟨gx, 4, none⟩ = some (.int .u16 (g 4)) ∧ W.cell? ⟨gx, 5, none⟩ = some (.int .u16 (g 5)) ∧ W.cell? ⟨gx, 6, none⟩ = some (.int .u16 (g 6)) ∧ W.cell? ⟨gx, 7, none⟩ = some (.int .u16 (g 7))) ∧ W.cell? ⟨gp, 0, none⟩ = some (.int .i64 p0) ∧ W.cell? ⟨gp, 1, none⟩ = some (.int .i64 p1) ∧ W.cell? ⟨gp, 2, none⟩ = some (.int .i64 p2)
theorem S11.of {W : World} {gx gp : Nat} {g : Nat → Int} {p0 p1 p2 p3 : Int} (h1 : W.heap[gx]? = some (blkO g 52)) (h2 : W.heap[gp]? = some (.cells #[.int .i64 p0, .int .i64 p1, .int .i64 p2, .int .i64 p3] 99 (0, 0))) : S11 gx gp g p0 p1 p2 W :=
  ⟨⟨blk_cell h1 0, blk_cell h1 1, blk_cell h1 2, blk_cell h1 3, blk_cell h1 4, blk_cell h1 5, blk_cell h1 6, blk_cell h1 7⟩, blk_cell h2 0, blk_cell h2 1, blk_cell h2 2⟩
theorem bar_any (l b0 b1 s0 s1 : Int) (g : Nat → Int) (a b h : Int) (gk : Nat) (w : World) (hl : 1 ≤ l ∧ l ≤ 3) (hh : h = 0 ∨ h = 1) (ha : 0 ≤ a ∧ a < 8) (hb : 0 ≤ b ∧ b < 8) (hg : ∀ k, k < 8 → 0 ≤ g k ∧ g k < 65536) (hK : KerAt w gk l b0 b1 s0 s1) :
    Calls Tryd.prog 51 #[.pointer (some ⟨gk, 0, none⟩), blkV g, .int .i64 a, .int .i64 b, .int .i64 h] w fun e w' => e = .returned (.int .i64 (sumP g a b (nearK l h))) ∧ Below w.heap.size w w' := by
  obtain ⟨hn12, hok⟩ := nearK_ok l h hl hh
  have hst := fun a b W => bst_any g a b W hg
  have hsb := fun a b => stB_bd g a b
  obtain ⟨A, c, hk, hC, hkl⟩ : ∃ A c, (∀ W, Below w.heap.size w W → W.cell? ⟨gk, 5 + h.toNat, none⟩ = some (.slice A (nearK l h).length c)) ∧ Kd.C k99 w A (nearK l h).length (nearK l h) ∧ gk < w.heap.size := by
    obtain ⟨A0, c0, A1, c1, h1, h2, h3⟩ := hK
    rcases hh with rfl | rfl
    · exact ⟨A0, c0, fun W hW => blk_cell (blk_below h1 hW) 5, h2, blk_lt h1⟩
    · exact ⟨A1, c1, fun W hW => blk_cell (blk_below h1 hW) 6, h3, blk_lt h1⟩
  have HST := Aside0.mk hst
  have HSB := Aside0.mk hsb
  have HOK := Aside0.mk hok
  have HCC := Aside0.mk hC
  have HKK := Aside0.mk hk
  clear hst hsb hok hC hk hK hg
  go_enter Tryd.func51, Tryd.ntmps51
  go_upto_region 1 with (fail)
  obtain ⟨w3, hw3⟩ : ∃ W, W = w.alloc (blkO g 52) := ⟨_, rfl⟩
  have bx : w3.heap[w.heap.size]? = some (blkO g 52) := by rw [hw3]; exact blk_new _ _
  have hB : Below w.heap.size w w3 := by rw [hw3]; exact (by with_reducible repeat (first | apply below_alloc | apply pw_below_drewN | apply below_drew | refine bset ?_ _ _ (by omega) _ | exact Below.refl _ _))
  rw [← hw3]
  clear hw3
  have q5 := HKK.out w3 hB
  have HB := Aside0.mk hB
  have BX := Aside0.mk bx
  clear bx hB
  obtain ⟨gx, hgx⟩ : ∃ g, g = w.heap.size := ⟨_, rfl⟩
  rw [← hgx] at BX ⊢
  clear hgx
  obtain ⟨L, hL⟩ : ∃ L, L = nearK l h := ⟨_, rfl⟩
  rw [← hL] at q5 HCC HOK hn12
  have HL := Aside0.mk hL
  clear hL
  rcases hh with rfl | rfl
  all_goals
    simp only [Int.toNat_zero, Int.toNat_one, Nat.add_zero, Nat.reduceAdd] at q5
    go_wp2_with fail
    clear q5
    go_loopw [11, 21] (fun nv iv wr => ∃ k : Nat, k ≤ L.length ∧ iv = .int .i64 k ∧ nv = .int .i64 (sumP g a b (L.take k)) ∧ wr.heap[gx]? = some (blkO g 52) ∧ Below w.heap.size w wr) (fun _ iv _ => L.length - (intOf iv).toNat)
    case atStart => exact ⟨0, by omega, rfl, rfl, BX.out, HB.out⟩
    case round =>
      obtain ⟨k, hk, rfl, rfl, bx, hB⟩ := hrel
      have HBR := Aside0.mk hB
      have BXR := Aside0.mk bx
      by_cases hlt : k < L.length
      · have C2 := Kd.C_below HCC.out hB
        obtain ⟨ad, hAd, a0, a1, a2, a3⟩ := at_T99 C2 k (by omega) (by omega)
        rw [Int.toNat_natCast] at a0 a1 a2 a3
        have hx : rd_T99 L k = L[k] := by simp [rd_T99, hlt]
        have hokp := HOK.out _ (List.getElem_mem hlt)
        have hnext := sumP_take g a b L k hlt
        have hbd := sumP_bd g a b L HOK.out k (by omega)
        rw [hx] at a0 a1 a2 a3
        obtain ⟨p, hp⟩ : ∃ p, p = L[k] := ⟨_, rfl⟩
        rw [← hp] at a0 a1 a2 a3 hokp hnext
        obtain ⟨n, hn⟩ : ∃ n, n = sumP g a b (L.take k) := ⟨_, rfl⟩
        rw [← hn] at hnext hbd ⊢
        clear hp hx hn C2 hB bx
        subst hAd
        obtain ⟨p0, p1, p2, p3⟩ := p
        obtain ⟨⟨o1, o2⟩, ⟨o3, o4⟩, o5, o6, o7⟩ := hokp
        simp only at a0 a1 a2 a3 o1 o2 o3 o4 o5 o6 o7
        have hvb := HSB.out (a + p0) (b + p1)
        have hwa : IntKind.i64.wrap (a + p0) = a + p0 := by rw [IntKind.wrap_i64]; omega
        have hwb : IntKind.i64.wrap (b + p1) = b + p1 := by rw [IntKind.wrap_i64]; omega
        have hwn : IntKind.i64.wrap (n + p3) = n + p3 := by rw [IntKind.wrap_i64]; omega
        have hcall := fun W => HST.out (a + p0) (b + p1) W
        have HCALL := Aside0.mk hcall
        have HNX := Aside0.mk hnext
        have hlx := blk_lt BXR.out
        clear hcall hnext
        go_upto_region 5 with (fail)
        obtain ⟨w4, hw4⟩ : ∃ W, W = wr.alloc (.cells #[.int .i64 p0, .int .i64 p1, .int .i64 p2, .int .i64 p3] 99 (0, 0)) := ⟨_, rfl⟩
        have bp4 : w4.heap[wr.heap.size]? = some (.cells #[.int .i64 p0, .int .i64 p1, .int .i64 p2, .int .i64 p3] 99 (0, 0)) := by rw [hw4]; exact blk_new _ _
        have hB4 : Below wr.heap.size wr w4 := by rw [hw4]; exact below_alloc (Below.refl _ _) _
        rw [← hw4]
        clear hw4 a0 a1 a2 a3
        have hz4 := hB4.size
        have BX4 := Aside0.mk (blk_below BXR.out hB4)
        have HB4 := Aside0.mk (HBR.out.trans (hB4.mono HBR.out.size))
        obtain ⟨g13, hg13⟩ : ∃ g, g = wr.heap.size := ⟨_, rfl⟩
        rw [← hg13] at bp4 ⊢
        have BP4 := Aside0.mk bp4
        clear hB4 bp4 hg13
        have hS4 : S11 gx g13 g p0 p1 p2 w4.drew := S11.of (blk_drew BX4.out) (blk_drew BP4.out)
        go_region_held3 (fun W => (W.cell? ⟨gx, 0, none⟩ = some (.int .u16 (g 0)) ∧ W.cell? ⟨gx, 1, none⟩ = some (.int .u16 (g 1)) ∧ W.cell? ⟨gx, 2, none⟩ = some (.int .u16 (g 2)) ∧ W.cell? ⟨gx, 3, none⟩ = some (.int .u16 (g 3)) ∧ W.cell? ⟨gx, 4, none⟩ = some (.int .u16 (g 4)) ∧ W.cell? ⟨gx, 5, none⟩ = some (.int .u16 (g 5)) ∧ W.cell? ⟨gx, 6, none⟩ = some (.int .u16 (g 6)) ∧ W.cell? ⟨gx, 7, none⟩ = some (.int .u16 (g 7))) ∧ W.cell? ⟨g13, 0, none⟩ = some (.int .i64 p0) ∧ W.cell? ⟨g13, 1, none⟩ = some (.int .i64 p1) ∧ W.cell? ⟨g13, 2, none⟩ = some (.int .i64 p2))
          (with_reducible assumption)
          ((with_reducible refine (HCALL.out _).mono ?_; rintro e w5 ⟨rfl, hb5⟩
            have BX5 := Aside0.mk (blk_below (blk_drew BX4.out) hb5)
            have BP5 := Aside0.mk (blk_below (blk_drew BP4.out) hb5)
            have HB5 := Aside0.mk ((below_drew HB4.out).trans (hb5.mono (below_drew HB4.out).size))
            have hS5 : S11 gx g13 g p0 p1 p2 w5 := S11.of BX5.out BP5.out
            clear hb5))
        clear hS4 hS5 BP4 BX4 HB4 hlx
        have w3 := blk_cell BP5.out 3
        simp only [List.getElem?_toArray, List.getElem?_cons_zero, List.getElem?_cons_succ] at w3
        by_cases hbit : stB g (a + p0) (b + p1) / 2 ^ p2.toNat % 2 = 1
        · have hd : (Go.bits .and .i64 (stB g (a + p0) (b + p1) / 2 ^ p2.toNat) 1 == 1) = true := by rw [and_1, hbit]; rfl
          have hst : stepP g a b n ⟨p0, p1, p2, p3⟩ = n + p3 := if_pos hbit
          have HST2 := Aside0.mk hst
          clear hst hbit
          go_wp2
          go_roundw
          case rel => exact ⟨k + 1, by omega, by go_num, by rw [HNX.out, HST2.out], BX5.out, HB5.out⟩
          case measure => simp [intOf]; omega
        · have hd : (Go.bits .and .i64 (stB g (a + p0) (b + p1) / 2 ^ p2.toNat) 1 == 1) = false := by rw [and_1]; simpa using hbit
          have hst : stepP g a b n ⟨p0, p1, p2, p3⟩ = n := if_neg hbit
          have HST2 := Aside0.mk hst
          clear hst hbit
          go_wp2
          go_roundw
          case rel => exact ⟨k + 1, by omega, by go_num, by rw [HNX.out, HST2.out], BX5.out, HB5.out⟩
          case measure => simp [intOf]; omega
      · obtain rfl : k = L.length := by omega
        go_wp2
        go_ret
        exact ⟨by first | (rw [← HL.out]; rfl) | (rw [List.take_length, ← HL.out]; rfl), HBR.out⟩
theorem next_out (l b0 b1 s0 s1 half n : Int) (live : Bool) (w : World) (ho : half < 0 ∨ 1 < half ∨ n < 0 ∨ 63 < n) :
    Calls Tryd.prog 50 #[.agg #[.int .i64 l, .int .u64 b0, .int .u64 b1, .int .u64 s0, .int .u64 s1], .int .i64 half, .bool live, .int .i64 n] w fun e w' => e = .returned (.bool false) ∧ Below w.heap.size w w' := by
  go_enter Tryd.func50, Tryd.ntmps50
  by_cases h1 : half < 0
  · have d1 : decide (half < 0) = true := decide_eq_true h1
    go_wp2
    go_ret
    exact ⟨rfl, (by with_reducible repeat (first | apply below_alloc | apply pw_below_drewN | apply below_drew | refine bset ?_ _ _ (by omega) _ | exact Below.refl _ _))⟩
  · by_cases h2 : 1 < half
    · go_wp2
      go_ret
      exact ⟨rfl, (by with_reducible repeat (first | apply below_alloc | apply pw_below_drewN | apply below_drew | refine bset ?_ _ _ (by omega) _ | exact Below.refl _ _))⟩
    · by_cases h3 : n < 0
      · go_wp2
        go_ret
        exact ⟨rfl, (by with_reducible repeat (first | apply below_alloc | apply pw_below_drewN | apply below_drew | refine bset ?_ _ _ (by omega) _ | exact Below.refl _ _))⟩
      · have h4 : 63 < n := by omega
        go_wp2
        go_ret
        exact ⟨rfl, (by with_reducible repeat (first | apply below_alloc | apply pw_below_drewN | apply below_drew | refine bset ?_ _ _ (by omega) _ | exact Below.refl _ _))⟩
/-- the bit of a number -/
def nxB (x n : Int) : Bool := Go.bits .and .u64 (x / 2 ^ n.toNat) 1 == 1
theorem next_0true (l b0 b1 s0 s1 n : Int) (w : World) (h0 : 0 ≤ n) (h1 : n ≤ 63) :
    Calls Tryd.prog 50 #[.agg #[.int .i64 l, .int .u64 b0, .int .u64 b1, .int .u64 s0, .int .u64 s1], .int .i64 0, .bool true, .int .i64 n] w fun e w' => e = .returned (.bool (nxB s0 n)) ∧ Below w.heap.size w w' := by
  have h2 : ¬ n < 0 := by omega
  have h3 : ¬ 63 < n := by omega
  go_enter Tryd.func50, Tryd.ntmps50
  go_wp2
  go_ret
  exact ⟨rfl, (by with_reducible repeat (first | apply below_alloc | apply pw_below_drewN | apply below_drew | refine bset ?_ _ _ (by omega) _ | exact Below.refl _ _))⟩
theorem next_1true (l b0 b1 s0 s1 n : Int) (w : World) (h0 : 0 ≤ n) (h1 : n ≤ 63) :
    Calls Tryd.prog 50 #[.agg #[.int .i64 l, .int .u64 b0, .int .u64 b1, .int .u64 s0, .int .u64 s1], .int .i64 1, .bool true, .int .i64 n] w fun e w' => e = .returned (.bool (nxB s1 n)) ∧ Below w.heap.size w w' := by
  have h2 : ¬ n < 0 := by omega
  have h3 : ¬ 63 < n := by omega
  go_enter Tryd.func50, Tryd.ntmps50
  go_wp2
  go_ret
  exact ⟨rfl, (by with_reducible repeat (first | apply below_alloc | apply pw_below_drewN | apply below_drew | refine bset ?_ _ _ (by omega) _ | exact Below.refl _ _))⟩
theorem next_0false (l b0 b1 s0 s1 n : Int) (w : World) (h0 : 0 ≤ n) (h1 : n ≤ 63) :
    Calls Tryd.prog 50 #[.agg #[.int .i64 l, .int .u64 b0, .int .u64 b1, .int .u64 s0, .int .u64 s1], .int .i64 0, .bool false, .int .i64 n] w fun e w' => e = .returned (.bool (nxB b0 n)) ∧ Below w.heap.size w w' := by
  have h2 : ¬ n < 0 := by omega
  have h3 : ¬ 63 < n := by omega
  go_enter Tryd.func50, Tryd.ntmps50
  go_wp2
  go_ret
  exact ⟨rfl, (by with_reducible repeat (first | apply below_alloc | apply pw_below_drewN | apply below_drew | refine bset ?_ _ _ (by omega) _ | exact Below.refl _ _))⟩
theorem next_1false (l b0 b1 s0 s1 n : Int) (w : World) (h0 : 0 ≤ n) (h1 : n ≤ 63) :
    Calls Tryd.prog 50 #[.agg #[.int .i64 l, .int .u64 b0, .int .u64 b1, .int .u64 s0, .int .u64 s1], .int .i64 1, .bool false, .int .i64 n] w fun e w' => e = .returned (.bool (nxB b1 n)) ∧ Below w.heap.size w w' := by
  have h2 : ¬ n < 0 := by omega
  have h3 : ¬ 63 < n := by omega
  go_enter Tryd.func50, Tryd.ntmps50
  go_wp2
  go_ret
  exact ⟨rfl, (by with_reducible repeat (first | apply below_alloc | apply pw_below_drewN | apply below_drew | refine bset ?_ _ _ (by omega) _ | exact Below.refl _ _))⟩
def XNext.f (_l b0 b1 s0 s1 half : Int) (live : Bool) (n : Int) : Option Bool := some (if half < 0 ∨ 1 < half ∨ n < 0 ∨ 63 < n then false else nxB (if live = true then (if half = 0 then s0 else s1) else (if half = 0 then b0 else b1)) n)
theorem XNext.calls (a0_0 : Int) (a0_1 : Int) (a0_2 : Int) (a0_3 : Int) (a0_4 : Int) (a1 : Int) (a2 : Bool) (a3 : Int) (r : Bool) (w : World) (h : XNext.f a0_0 a0_1 a0_2 a0_3 a0_4 a1 a2 a3 = some r) :
    Calls Tryd.prog 50 #[.agg #[.int .i64 a0_0, .int .u64 a0_1, .int .u64 a0_2, .int .u64 a0_3, .int .u64 a0_4], .int .i64 a1, .bool a2, .int .i64 a3] w fun e w' => e = .returned (.bool r) ∧ Below w.heap.size w w' := by
  unfold XNext.f at h
  obtain rfl := Option.some.inj h
  by_cases ho : a1 < 0 ∨ 1 < a1 ∨ a3 < 0 ∨ 63 < a3
  · rw [if_pos ho]
    exact next_out _ _ _ _ _ _ _ _ w ho
  · rw [if_neg ho]
    have h1 : a1 = 0 ∨ a1 = 1 := by omega
    rcases h1 with rfl | rfl
    · cases a2
      · exact next_0false _ _ _ _ _ _ w (by omega) (by omega)
      · exact next_0true _ _ _ _ _ _ w (by omega) (by omega)
    · cases a2
      · exact next_1false _ _ _ _ _ _ w (by omega) (by omega)
      · exact next_1true _ _ _ _ _ _ w (by omega) (by omega)
end Go.Proofs.YtieekbdododkkaaDoor
