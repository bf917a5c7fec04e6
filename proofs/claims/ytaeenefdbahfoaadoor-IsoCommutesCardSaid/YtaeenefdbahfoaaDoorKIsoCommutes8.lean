/- Parts of the proof (IsoCommutes), merged out of our texts by wip/tools/pack.py: HRef3, PNearA, XRNear. -/
import Derived.Test.YtaeenefdbahfoaaDoorKIsoCommutes1
import Derived.Test.YtaeenefdbahfoaaDoorKIsoCommutes2
import Derived.BigRegion
namespace Go.Proofs.YtaeenefdbahfoaaDoor.H
open Go.RowKit Go.Proofs.YtaeenefdbahfoaaDoorW.PrintWords Go.Proofs.YtaeenefdbahfoaaDoorW.PrintLast Go.Proofs.YtaeenefdbahfoaaDoorW.PrintMore
attribute [local go_sem] max2_int min2_int max_two min_two max_three min_three max_four min_four
set_option linter.unusedVariables false
set_option linter.unusedSimpArgs false
def honeycombref03_Corners.f (a0_0 : Int) (a0_1 : Int) (a0_2 : Int) : Option ((List (List Int))) := if a0_2 = 0 then (some (([(([a0_0, a0_1] : List Int)), (([wrap64 (a0_0 + 1), a0_1] : List Int)), (([a0_0, wrap64 (a0_1 + 1)] : List Int))] : List (List Int)))) else (some (([(([wrap64 (a0_0 + 1), a0_1] : List Int)), (([a0_0, wrap64 (a0_1 + 1)] : List Int)), (([wrap64 (a0_0 + 1), wrap64 (a0_1 + 1)] : List Int))] : List (List Int))))
set_option maxHeartbeats 8000000 in
set_option maxRecDepth 100000 in
theorem honeycombref03_Corners.calls (a0_0 : Int) (a0_1 : Int) (a0_2 : Int) (r : List (List Int)) (w : World) (h : honeycombref03_Corners.f a0_0 a0_1 a0_2 = some r) :
  Calls Tryd.prog 110 #[.agg #[.int .i64 a0_0, .int .i64 a0_1, .int .i64 a0_2]] w fun e w' => ∃ v0_ : Value, e = .returned (v0_) ∧ Kd.N (Kd.slice 2 (Kd.int .i64)) 111 w' w.heap.size (fun k_ => (w.heap.size ≤ k_)) v0_ r ∧ Below w.heap.size w w' := by
 have hu60 := Tryd.underlying60
 have HB := Aside0.mk (Below.refl w.heap.size w)
 have H : (if a0_2 = 0 then (some (([(([a0_0, a0_1] : List Int)), (([wrap64 (a0_0 + 1), a0_1] : List Int)), (([a0_0, wrap64 (a0_1 + 1)] : List Int))] : List (List Int)))) else (some (([(([wrap64 (a0_0 + 1), a0_1] : List Int)), (([a0_0, wrap64 (a0_1 + 1)] : List Int)), (([wrap64 (a0_0 + 1), wrap64 (a0_1 + 1)] : List Int))] : List (List Int))))) = some r := h
 clear h
 by_cases c2 : a0_2 = 0
 ·
  rw [if_pos c2] at H
  have c2b0 : (a0_2 == 0) = true := beq_iff_eq.mpr c2
  have c2b1 : (a0_2 != 0) = false := bne_eq_false_iff_eq.mpr c2
  clear c2
  obtain ⟨y381, hy381⟩ : ∃ y_ : List Int, y_ = (([a0_0, a0_1] : List Int)) := ⟨_, rfl⟩
  replace H : (some (([y381, (([wrap64 (a0_0 + 1), a0_1] : List Int)), (([a0_0, wrap64 (a0_1 + 1)] : List Int))] : List (List Int)))) = some r := by first | (rw [hy381]; with_reducible exact H) | (have H2_ := (Option.bind_some _ _).symm.trans H; rw [hy381]; with_reducible exact H2_) | (have H2_ := (Option.bind_some _ _).symm.trans H; with_reducible exact H2_) | with_reducible exact H | (rw [hy381]; exact H) | exact H
  have Ny381 := Aside0.mk hy381
  clear hy381
  obtain ⟨y384, hy384⟩ : ∃ y_ : List Int, y_ = (([wrap64 (a0_0 + 1), a0_1] : List Int)) := ⟨_, rfl⟩
  replace H : (some (([y381, y384, (([a0_0, wrap64 (a0_1 + 1)] : List Int))] : List (List Int)))) = some r := by first | (rw [hy384]; with_reducible exact H) | (have H2_ := (Option.bind_some _ _).symm.trans H; rw [hy384]; with_reducible exact H2_) | (have H2_ := (Option.bind_some _ _).symm.trans H; with_reducible exact H2_) | with_reducible exact H | (rw [hy384]; exact H) | exact H
  have Ny384 := Aside0.mk hy384
  clear hy384
  obtain ⟨y387, hy387⟩ : ∃ y_ : List Int, y_ = (([a0_0, wrap64 (a0_1 + 1)] : List Int)) := ⟨_, rfl⟩
  replace H : (some (([y381, y384, y387] : List (List Int)))) = some r := by first | (rw [hy387]; with_reducible exact H) | (have H2_ := (Option.bind_some _ _).symm.trans H; rw [hy387]; with_reducible exact H2_) | (have H2_ := (Option.bind_some _ _).symm.trans H; with_reducible exact H2_) | with_reducible exact H | (rw [hy387]; exact H) | exact H
  have Ny387 := Aside0.mk hy387
  clear hy387
  obtain ⟨y390, hy390⟩ : ∃ y_ : List (List Int), y_ = (([y381, y384, y387] : List (List Int))) := ⟨_, rfl⟩
  replace H : (some y390) = some r := by first | (rw [hy390]; with_reducible exact H) | (have H2_ := (Option.bind_some _ _).symm.trans H; rw [hy390]; with_reducible exact H2_) | (have H2_ := (Option.bind_some _ _).symm.trans H; with_reducible exact H2_) | with_reducible exact H | (rw [hy390]; exact H) | exact H
  have Ny390 := Aside0.mk hy390
  clear hy390
  obtain rfl := Option.some.inj H
  go_enter Tryd.func110, Tryd.ntmps110
  go_wp2_with (first | ((with_reducible refine gate_dst (N := 1) rfl ?_); refine box_event ?hg (N := 1) ?hd (cs := #[.int .i64 a0_0, .int .i64 a0_1, .int .i64 a0_2]) (t := 60) ?hr ?_; (case hd => rfl); (case hg => rfl); (case hr => first | (go_simp; done) | (go_simp; rfl)); intro gb380 hg w3 hbox hb; have n0_ := Aside0.mk (below_step hb_ hb); have n1_ := Aside0.mk (hbox); have n2_ := Aside0.mk ((by rw [hg]; exact (below_size hb_) : w.heap.size ≤ gb380)); have n3_ := Aside0.mk ((by rw [hg]; exact (below_size hb_) : w.heap.size ≤ gb380)); clear HB; have HB := n0_; have BK380 := n1_; have GW380 := n2_; have GE380 := n3_; clear n0_ n1_ n2_ n3_; clear hb hbox hg; have hcz4_0 : w3.cell? ⟨gb380, 0, none⟩ = some (.int .i64 a0_0) := (blk_cell BK380.out 0).trans rfl; have hcz4_1 : w3.cell? ⟨gb380, 1, none⟩ = some (.int .i64 a0_1) := (blk_cell BK380.out 1).trans rfl; have hcz4_2 : w3.cell? ⟨gb380, 2, none⟩ = some (.int .i64 a0_2) := (blk_cell BK380.out 2).trans rfl; have hfz4_0 := blk_frozen BK380.out 0; have hfz4_1 := blk_frozen BK380.out 1; have hfz4_2 := blk_frozen BK380.out 2) | ((with_reducible refine gate_dst (N := 10) rfl ?_); refine Kd.R_lit (Kd.int .i64) _ 2 ?hg (N := 10) ?hd (xs := ([a0_0, a0_1] : List Int)) (inner := [.int .i64 a0_0, .int .i64 a0_1]) (ok := fun _ => True) (okp := fun _ => True) ?hr ?hp (fun _ hk => hk) trivial (Below.refl _ _) (Nat.le_refl _) (by simp) ?_; (case hd => rfl); (case hg => rfl); (case hr => first | (go_simp; done) | (go_simp; rfl)); (case hp => exact (Reps.one (show Kd.M (Kd.int .i64) _ _ _ a0_0 [.int .i64 a0_0] from rfl) (Reps.one (show Kd.M (Kd.int .i64) _ _ _ a0_1 [.int .i64 a0_1] from rfl) (Reps.none _ _)))); intro v382 w5 ho6 hb hg_ hnew_; clear hg_ hnew_; (first | rw [← Ny381.out] at ho6 | (simp only [Int.reduceToNat] at ho6; rw [← Ny381.out] at ho6)); have n0_ := Aside0.mk (Kd.R_lower (Kd.R_newM (M := fun k_ => (w.heap.size ≤ k_)) ho6 (below_size (hg_ GE380.out)) (fun k_ h_ => h_)) (below_size (hg_ GE380.out))); have n1_ := Aside0.mk (blk_below (g := gb380) (o := .cells #[.int .i64 a0_0, .int .i64 a0_1, .int .i64 a0_2] 60 (0, 0)) (bk_ BK380.out) hb); have n2_ := Aside0.mk (below_step (hg_ GE380.out) hb); clear BK380; clear HB; have HO383 := n0_; have BK380 := n1_; have HB := n2_; clear n0_ n1_ n2_; clear hb ho6; have hcz7_0 : w5.cell? ⟨gb380, 0, none⟩ = some (.int .i64 a0_0) := (blk_cell BK380.out 0).trans rfl; have hcz7_1 : w5.cell? ⟨gb380, 1, none⟩ = some (.int .i64 a0_1) := (blk_cell BK380.out 1).trans rfl; have hcz7_2 : w5.cell? ⟨gb380, 2, none⟩ = some (.int .i64 a0_2) := (blk_cell BK380.out 2).trans rfl; have hfz7_0 := blk_frozen BK380.out 0; have hfz7_1 := blk_frozen BK380.out 1; have hfz7_2 := blk_frozen BK380.out 2) | ((with_reducible refine gate_dst (N := 16) rfl ?_); refine Kd.R_lit (Kd.int .i64) _ 2 ?hg (N := 16) ?hd (xs := ([wrap64 (a0_0 + 1), a0_1] : List Int)) (inner := [.int .i64 (wrap64 (a0_0 + 1)), .int .i64 a0_1]) (ok := fun _ => True) (okp := fun _ => True) ?hr ?hp (fun _ hk => hk) trivial (Below.refl _ _) (Nat.le_refl _) (by simp) ?_; (case hd => rfl); (case hg => rfl); (case hr => first | (go_simp; done) | (go_simp; rfl)); (case hp => exact (Reps.one (show Kd.M (Kd.int .i64) _ _ _ (wrap64 (a0_0 + 1)) [.int .i64 (wrap64 (a0_0 + 1))] from rfl) (Reps.one (show Kd.M (Kd.int .i64) _ _ _ a0_1 [.int .i64 a0_1] from rfl) (Reps.none _ _)))); intro v385 w8 ho9 hb hg_ hnew_; clear hg_ hnew_; (first | rw [← Ny384.out] at ho9 | (simp only [Int.reduceToNat] at ho9; rw [← Ny384.out] at ho9)); have n0_ := Aside0.mk (Kd.R_elder' (kr_ HO383.out) (Kd.R_base ho9) hb); have n1_ := Aside0.mk (Kd.R_lower (Kd.R_new' (Kd.R_newM (M := fun k_ => (w.heap.size ≤ k_)) ho9 (below_size (hg_ GE380.out)) (fun k_ h_ => h_)) (Kd.R_lt (kr_ HO383.out))) (below_size (hg_ GE380.out))); have n2_ := Aside0.mk (blk_below (g := gb380) (o := .cells #[.int .i64 a0_0, .int .i64 a0_1, .int .i64 a0_2] 60 (0, 0)) (bk_ BK380.out) hb); have n3_ := Aside0.mk (below_step (hg_ GE380.out) hb); clear HO383; clear BK380; clear HB; have HO383 := n0_; have HO386 := n1_; have BK380 := n2_; have HB := n3_; clear n0_ n1_ n2_ n3_; clear hb ho9; have hcz10_0 : w8.cell? ⟨gb380, 0, none⟩ = some (.int .i64 a0_0) := (blk_cell BK380.out 0).trans rfl; have hcz10_1 : w8.cell? ⟨gb380, 1, none⟩ = some (.int .i64 a0_1) := (blk_cell BK380.out 1).trans rfl; have hcz10_2 : w8.cell? ⟨gb380, 2, none⟩ = some (.int .i64 a0_2) := (blk_cell BK380.out 2).trans rfl; have hfz10_0 := blk_frozen BK380.out 0; have hfz10_1 := blk_frozen BK380.out 1; have hfz10_2 := blk_frozen BK380.out 2) | ((with_reducible refine gate_dst (N := 22) rfl ?_); refine Kd.R_lit (Kd.int .i64) _ 2 ?hg (N := 22) ?hd (xs := ([a0_0, wrap64 (a0_1 + 1)] : List Int)) (inner := [.int .i64 a0_0, .int .i64 (wrap64 (a0_1 + 1))]) (ok := fun _ => True) (okp := fun _ => True) ?hr ?hp (fun _ hk => hk) trivial (Below.refl _ _) (Nat.le_refl _) (by simp) ?_; (case hd => rfl); (case hg => rfl); (case hr => first | (go_simp; done) | (go_simp; rfl)); (case hp => exact (Reps.one (show Kd.M (Kd.int .i64) _ _ _ a0_0 [.int .i64 a0_0] from rfl) (Reps.one (show Kd.M (Kd.int .i64) _ _ _ (wrap64 (a0_1 + 1)) [.int .i64 (wrap64 (a0_1 + 1))] from rfl) (Reps.none _ _)))); intro v388 w11 ho12 hb hg_ hnew_; clear hg_ hnew_; (first | rw [← Ny387.out] at ho12 | (simp only [Int.reduceToNat] at ho12; rw [← Ny387.out] at ho12)); have n0_ := Aside0.mk (Kd.R_elder' (kr_ HO383.out) (Kd.R_base ho12) hb); have n1_ := Aside0.mk (Kd.R_elder' (kr_ HO386.out) (Kd.R_base ho12) hb); have n2_ := Aside0.mk (Kd.R_lower (Kd.R_new' (Kd.R_new' (Kd.R_newM (M := fun k_ => (w.heap.size ≤ k_)) ho12 (below_size (hg_ GE380.out)) (fun k_ h_ => h_)) (Kd.R_lt (kr_ HO383.out))) (Kd.R_lt (kr_ HO386.out))) (below_size (hg_ GE380.out))); have n3_ := Aside0.mk (blk_below (g := gb380) (o := .cells #[.int .i64 a0_0, .int .i64 a0_1, .int .i64 a0_2] 60 (0, 0)) (bk_ BK380.out) hb); have n4_ := Aside0.mk (below_step (hg_ GE380.out) hb); clear HO383; clear HO386; clear BK380; clear HB; have HO383 := n0_; have HO386 := n1_; have HO389 := n2_; have BK380 := n3_; have HB := n4_; clear n0_ n1_ n2_ n3_ n4_; clear hb ho12; obtain ⟨Ao13, co13, eo13⟩ := Kd.R_slice HO383.out; subst eo13; obtain ⟨Ao14, co14, eo14⟩ := Kd.R_slice HO386.out; subst eo14; obtain ⟨Ao15, co15, eo15⟩ := Kd.R_slice HO389.out; subst eo15) | ((with_reducible refine gate_dst (N := 23) rfl ?_); refine Kd.N_lit (Kd.slice 2 (Kd.int .i64)) _ 111 ?hg (N' := 23) ?hd (xs := ([y381, y384, y387] : List (List Int))) (inner := [.slice Ao13 y381.length co13, .slice Ao14 y384.length co14, .slice Ao15 y387.length co15]) (ok := (fun k_ => (w.heap.size ≤ k_) ∧ k_ ≠ gb380)) (okp := (fun k_ => (w.heap.size ≤ k_) ∧ k_ ≠ gb380)) ?hr ?hp (fun _ hk => hk) ((show ∀ k_, w11.heap.size ≤ k_ → (fun k_ => (w.heap.size ≤ k_) ∧ k_ ≠ gb380) k_ from fun k_ hk => ⟨(Nat.le_trans (below_size (hg_ GE380.out)) hk), Kd.freshB (g := gb380) (o := .cells #[.int .i64 a0_0, .int .i64 a0_1, .int .i64 a0_2] 60 (0, 0)) (bk_ BK380.out) k_ hk⟩) _ (Nat.le_refl _)) (Below.refl _ _) (Nat.le_refl _) (by simp) ?_; (case hd => rfl); (case hg => rfl); (case hr => first | (go_simp; done) | (go_simp; rfl)); (case hp => exact (Reps.one (show Kd.FK (Kd.slice 2 (Kd.int .i64)) _ _ y381 [.slice Ao13 y381.length co13] from (Kd.FK_slice_mk (Kd.R_reads' (Kd.R_mono (ok' := (fun k_ => (w.heap.size ≤ k_) ∧ k_ ≠ gb380)) (Kd.R_types (HO383.out) BK380.out (by decide)) (fun k_ hk => ⟨hk.1.1.1.1, hk.2⟩))).2.1 (Kd.R_F (Kd.R_mono (ok' := (fun k_ => (w.heap.size ≤ k_) ∧ k_ ≠ gb380)) (Kd.R_types (HO383.out) BK380.out (by decide)) (fun k_ hk => ⟨hk.1.1.1.1, hk.2⟩))))) (Reps.one (show Kd.FK (Kd.slice 2 (Kd.int .i64)) _ _ y384 [.slice Ao14 y384.length co14] from (Kd.FK_slice_mk (Kd.R_reads' (Kd.R_mono (ok' := (fun k_ => (w.heap.size ≤ k_) ∧ k_ ≠ gb380)) (Kd.R_types (HO386.out) BK380.out (by decide)) (fun k_ hk => ⟨hk.1.1.1.1, hk.2⟩))).2.1 (Kd.R_F (Kd.R_mono (ok' := (fun k_ => (w.heap.size ≤ k_) ∧ k_ ≠ gb380)) (Kd.R_types (HO386.out) BK380.out (by decide)) (fun k_ hk => ⟨hk.1.1.1.1, hk.2⟩))))) (Reps.one (show Kd.FK (Kd.slice 2 (Kd.int .i64)) _ _ y387 [.slice Ao15 y387.length co15] from (Kd.FK_slice_mk (Kd.R_reads' (Kd.R_mono (ok' := (fun k_ => (w.heap.size ≤ k_) ∧ k_ ≠ gb380)) (Kd.R_types (HO389.out) BK380.out (by decide)) (fun k_ hk => ⟨hk.1.1.1.1, hk.2⟩))).2.1 (Kd.R_F (Kd.R_mono (ok' := (fun k_ => (w.heap.size ≤ k_) ∧ k_ ≠ gb380)) (Kd.R_types (HO389.out) BK380.out (by decide)) (fun k_ hk => ⟨hk.1.1.1.1, hk.2⟩))))) (Reps.none _ _))))); intro v391 w16 ho17 hb hg_ hnew_; clear hg_ hnew_; (first | rw [← Ny390.out] at ho17 | (simp only [Int.reduceToNat] at ho17; rw [← Ny390.out] at ho17)); have n0_ := Aside0.mk (Kd.N_lower ho17 (below_size (hg_ GE380.out))); have n1_ := Aside0.mk (blk_below (g := gb380) (o := .cells #[.int .i64 a0_0, .int .i64 a0_1, .int .i64 a0_2] 60 (0, 0)) (bk_ BK380.out) hb); have n2_ := Aside0.mk (below_step (hg_ GE380.out) hb); clear BK380; clear HB; clear HO383; clear HO386; clear HO389; have HO392 := n0_; have BK380 := n1_; have HB := n2_; clear n0_ n1_ n2_; clear hb ho17))
  go_ret
  exact ⟨_, by first | rfl | (simp [errW_none, errW_some] <;> rfl) | (simp [*, errW_none, errW_some] <;> rfl), by (with_reducible repeat (first | apply Kd.N_alloc | apply Kd.N_drewN | apply Kd.N_drew)); exact Kd.N_mono HO392.out (fun _ hk => hk.1), by repeat (first | (with_reducible first | exact HB.out | apply ba_ | apply bn_ | apply bd_ | refine below_set ?_ GE380.out) | exact HB.out)⟩
 rw [if_neg c2] at H
 have c2b0 : (a0_2 == 0) = false := beq_eq_false_iff_ne.mpr c2
 have c2b1 : (a0_2 != 0) = true := bne_iff_ne.mpr c2
 obtain ⟨y393, hy393⟩ : ∃ y_ : List Int, y_ = (([wrap64 (a0_0 + 1), a0_1] : List Int)) := ⟨_, rfl⟩
 replace H : (some (([y393, (([a0_0, wrap64 (a0_1 + 1)] : List Int)), (([wrap64 (a0_0 + 1), wrap64 (a0_1 + 1)] : List Int))] : List (List Int)))) = some r := by first | (rw [hy393]; with_reducible exact H) | (have H2_ := (Option.bind_some _ _).symm.trans H; rw [hy393]; with_reducible exact H2_) | (have H2_ := (Option.bind_some _ _).symm.trans H; with_reducible exact H2_) | with_reducible exact H | (rw [hy393]; exact H) | exact H
 have Ny393 := Aside0.mk hy393
 clear hy393
 obtain ⟨y396, hy396⟩ : ∃ y_ : List Int, y_ = (([a0_0, wrap64 (a0_1 + 1)] : List Int)) := ⟨_, rfl⟩
 replace H : (some (([y393, y396, (([wrap64 (a0_0 + 1), wrap64 (a0_1 + 1)] : List Int))] : List (List Int)))) = some r := by first | (rw [hy396]; with_reducible exact H) | (have H2_ := (Option.bind_some _ _).symm.trans H; rw [hy396]; with_reducible exact H2_) | (have H2_ := (Option.bind_some _ _).symm.trans H; with_reducible exact H2_) | with_reducible exact H | (rw [hy396]; exact H) | exact H
 have Ny396 := Aside0.mk hy396
 clear hy396
 obtain ⟨y399, hy399⟩ : ∃ y_ : List Int, y_ = (([wrap64 (a0_0 + 1), wrap64 (a0_1 + 1)] : List Int)) := ⟨_, rfl⟩
 replace H : (some (([y393, y396, y399] : List (List Int)))) = some r := by first | (rw [hy399]; with_reducible exact H) | (have H2_ := (Option.bind_some _ _).symm.trans H; rw [hy399]; with_reducible exact H2_) | (have H2_ := (Option.bind_some _ _).symm.trans H; with_reducible exact H2_) | with_reducible exact H | (rw [hy399]; exact H) | exact H
 have Ny399 := Aside0.mk hy399
 clear hy399
 obtain ⟨y402, hy402⟩ : ∃ y_ : List (List Int), y_ = (([y393, y396, y399] : List (List Int))) := ⟨_, rfl⟩
 replace H : (some y402) = some r := by first | (rw [hy402]; with_reducible exact H) | (have H2_ := (Option.bind_some _ _).symm.trans H; rw [hy402]; with_reducible exact H2_) | (have H2_ := (Option.bind_some _ _).symm.trans H; with_reducible exact H2_) | with_reducible exact H | (rw [hy402]; exact H) | exact H
 have Ny402 := Aside0.mk hy402
 clear hy402
 obtain rfl := Option.some.inj H
 go_enter Tryd.func110, Tryd.ntmps110
 go_wp2_with (first | ((with_reducible refine gate_dst (N := 1) rfl ?_); refine box_event ?hg (N := 1) ?hd (cs := #[.int .i64 a0_0, .int .i64 a0_1, .int .i64 a0_2]) (t := 60) ?hr ?_; (case hd => rfl); (case hg => rfl); (case hr => first | (go_simp; done) | (go_simp; rfl)); intro gb380 hg w18 hbox hb; have n0_ := Aside0.mk (below_step hb_ hb); have n1_ := Aside0.mk (hbox); have n2_ := Aside0.mk ((by rw [hg]; exact (below_size hb_) : w.heap.size ≤ gb380)); have n3_ := Aside0.mk ((by rw [hg]; exact (below_size hb_) : w.heap.size ≤ gb380)); clear HB; have HB := n0_; have BK380 := n1_; have GW380 := n2_; have GE380 := n3_; clear n0_ n1_ n2_ n3_; clear hb hbox hg; have hcz19_0 : w18.cell? ⟨gb380, 0, none⟩ = some (.int .i64 a0_0) := (blk_cell BK380.out 0).trans rfl; have hcz19_1 : w18.cell? ⟨gb380, 1, none⟩ = some (.int .i64 a0_1) := (blk_cell BK380.out 1).trans rfl; have hcz19_2 : w18.cell? ⟨gb380, 2, none⟩ = some (.int .i64 a0_2) := (blk_cell BK380.out 2).trans rfl; have hfz19_0 := blk_frozen BK380.out 0; have hfz19_1 := blk_frozen BK380.out 1; have hfz19_2 := blk_frozen BK380.out 2) | ((with_reducible refine gate_dst (N := 29) rfl ?_); refine Kd.R_lit (Kd.int .i64) _ 2 ?hg (N := 29) ?hd (xs := ([wrap64 (a0_0 + 1), a0_1] : List Int)) (inner := [.int .i64 (wrap64 (a0_0 + 1)), .int .i64 a0_1]) (ok := fun _ => True) (okp := fun _ => True) ?hr ?hp (fun _ hk => hk) trivial (Below.refl _ _) (Nat.le_refl _) (by simp) ?_; (case hd => rfl); (case hg => rfl); (case hr => first | (go_simp; done) | (go_simp; rfl)); (case hp => exact (Reps.one (show Kd.M (Kd.int .i64) _ _ _ (wrap64 (a0_0 + 1)) [.int .i64 (wrap64 (a0_0 + 1))] from rfl) (Reps.one (show Kd.M (Kd.int .i64) _ _ _ a0_1 [.int .i64 a0_1] from rfl) (Reps.none _ _)))); intro v394 w20 ho21 hb hg_ hnew_; clear hg_ hnew_; (first | rw [← Ny393.out] at ho21 | (simp only [Int.reduceToNat] at ho21; rw [← Ny393.out] at ho21)); have n0_ := Aside0.mk (Kd.R_lower (Kd.R_newM (M := fun k_ => (w.heap.size ≤ k_)) ho21 (below_size (hg_ GE380.out)) (fun k_ h_ => h_)) (below_size (hg_ GE380.out))); have n1_ := Aside0.mk (blk_below (g := gb380) (o := .cells #[.int .i64 a0_0, .int .i64 a0_1, .int .i64 a0_2] 60 (0, 0)) (bk_ BK380.out) hb); have n2_ := Aside0.mk (below_step (hg_ GE380.out) hb); clear BK380; clear HB; have HO395 := n0_; have BK380 := n1_; have HB := n2_; clear n0_ n1_ n2_; clear hb ho21; have hcz22_0 : w20.cell? ⟨gb380, 0, none⟩ = some (.int .i64 a0_0) := (blk_cell BK380.out 0).trans rfl; have hcz22_1 : w20.cell? ⟨gb380, 1, none⟩ = some (.int .i64 a0_1) := (blk_cell BK380.out 1).trans rfl; have hcz22_2 : w20.cell? ⟨gb380, 2, none⟩ = some (.int .i64 a0_2) := (blk_cell BK380.out 2).trans rfl; have hfz22_0 := blk_frozen BK380.out 0; have hfz22_1 := blk_frozen BK380.out 1; have hfz22_2 := blk_frozen BK380.out 2) | ((with_reducible refine gate_dst (N := 35) rfl ?_); refine Kd.R_lit (Kd.int .i64) _ 2 ?hg (N := 35) ?hd (xs := ([a0_0, wrap64 (a0_1 + 1)] : List Int)) (inner := [.int .i64 a0_0, .int .i64 (wrap64 (a0_1 + 1))]) (ok := fun _ => True) (okp := fun _ => True) ?hr ?hp (fun _ hk => hk) trivial (Below.refl _ _) (Nat.le_refl _) (by simp) ?_; (case hd => rfl); (case hg => rfl); (case hr => first | (go_simp; done) | (go_simp; rfl)); (case hp => exact (Reps.one (show Kd.M (Kd.int .i64) _ _ _ a0_0 [.int .i64 a0_0] from rfl) (Reps.one (show Kd.M (Kd.int .i64) _ _ _ (wrap64 (a0_1 + 1)) [.int .i64 (wrap64 (a0_1 + 1))] from rfl) (Reps.none _ _)))); intro v397 w23 ho24 hb hg_ hnew_; clear hg_ hnew_; (first | rw [← Ny396.out] at ho24 | (simp only [Int.reduceToNat] at ho24; rw [← Ny396.out] at ho24)); have n0_ := Aside0.mk (Kd.R_elder' (kr_ HO395.out) (Kd.R_base ho24) hb); have n1_ := Aside0.mk (Kd.R_lower (Kd.R_new' (Kd.R_newM (M := fun k_ => (w.heap.size ≤ k_)) ho24 (below_size (hg_ GE380.out)) (fun k_ h_ => h_)) (Kd.R_lt (kr_ HO395.out))) (below_size (hg_ GE380.out))); have n2_ := Aside0.mk (blk_below (g := gb380) (o := .cells #[.int .i64 a0_0, .int .i64 a0_1, .int .i64 a0_2] 60 (0, 0)) (bk_ BK380.out) hb); have n3_ := Aside0.mk (below_step (hg_ GE380.out) hb); clear HO395; clear BK380; clear HB; have HO395 := n0_; have HO398 := n1_; have BK380 := n2_; have HB := n3_; clear n0_ n1_ n2_ n3_; clear hb ho24; have hcz25_0 : w23.cell? ⟨gb380, 0, none⟩ = some (.int .i64 a0_0) := (blk_cell BK380.out 0).trans rfl; have hcz25_1 : w23.cell? ⟨gb380, 1, none⟩ = some (.int .i64 a0_1) := (blk_cell BK380.out 1).trans rfl; have hcz25_2 : w23.cell? ⟨gb380, 2, none⟩ = some (.int .i64 a0_2) := (blk_cell BK380.out 2).trans rfl; have hfz25_0 := blk_frozen BK380.out 0; have hfz25_1 := blk_frozen BK380.out 1; have hfz25_2 := blk_frozen BK380.out 2) | ((with_reducible refine gate_dst (N := 42) rfl ?_); refine Kd.R_lit (Kd.int .i64) _ 2 ?hg (N := 42) ?hd (xs := ([wrap64 (a0_0 + 1), wrap64 (a0_1 + 1)] : List Int)) (inner := [.int .i64 (wrap64 (a0_0 + 1)), .int .i64 (wrap64 (a0_1 + 1))]) (ok := fun _ => True) (okp := fun _ => True) ?hr ?hp (fun _ hk => hk) trivial (Below.refl _ _) (Nat.le_refl _) (by simp) ?_; (case hd => rfl); (case hg => rfl); (case hr => first | (go_simp; done) | (go_simp; rfl)); (case hp => exact (Reps.one (show Kd.M (Kd.int .i64) _ _ _ (wrap64 (a0_0 + 1)) [.int .i64 (wrap64 (a0_0 + 1))] from rfl) (Reps.one (show Kd.M (Kd.int .i64) _ _ _ (wrap64 (a0_1 + 1)) [.int .i64 (wrap64 (a0_1 + 1))] from rfl) (Reps.none _ _)))); intro v400 w26 ho27 hb hg_ hnew_; clear hg_ hnew_; (first | rw [← Ny399.out] at ho27 | (simp only [Int.reduceToNat] at ho27; rw [← Ny399.out] at ho27)); have n0_ := Aside0.mk (Kd.R_elder' (kr_ HO395.out) (Kd.R_base ho27) hb); have n1_ := Aside0.mk (Kd.R_elder' (kr_ HO398.out) (Kd.R_base ho27) hb); have n2_ := Aside0.mk (Kd.R_lower (Kd.R_new' (Kd.R_new' (Kd.R_newM (M := fun k_ => (w.heap.size ≤ k_)) ho27 (below_size (hg_ GE380.out)) (fun k_ h_ => h_)) (Kd.R_lt (kr_ HO395.out))) (Kd.R_lt (kr_ HO398.out))) (below_size (hg_ GE380.out))); have n3_ := Aside0.mk (blk_below (g := gb380) (o := .cells #[.int .i64 a0_0, .int .i64 a0_1, .int .i64 a0_2] 60 (0, 0)) (bk_ BK380.out) hb); have n4_ := Aside0.mk (below_step (hg_ GE380.out) hb); clear HO395; clear HO398; clear BK380; clear HB; have HO395 := n0_; have HO398 := n1_; have HO401 := n2_; have BK380 := n3_; have HB := n4_; clear n0_ n1_ n2_ n3_ n4_; clear hb ho27; obtain ⟨Ao28, co28, eo28⟩ := Kd.R_slice HO395.out; subst eo28; obtain ⟨Ao29, co29, eo29⟩ := Kd.R_slice HO398.out; subst eo29; obtain ⟨Ao30, co30, eo30⟩ := Kd.R_slice HO401.out; subst eo30) | ((with_reducible refine gate_dst (N := 43) rfl ?_); refine Kd.N_lit (Kd.slice 2 (Kd.int .i64)) _ 111 ?hg (N' := 43) ?hd (xs := ([y393, y396, y399] : List (List Int))) (inner := [.slice Ao28 y393.length co28, .slice Ao29 y396.length co29, .slice Ao30 y399.length co30]) (ok := (fun k_ => (w.heap.size ≤ k_) ∧ k_ ≠ gb380)) (okp := (fun k_ => (w.heap.size ≤ k_) ∧ k_ ≠ gb380)) ?hr ?hp (fun _ hk => hk) ((show ∀ k_, w26.heap.size ≤ k_ → (fun k_ => (w.heap.size ≤ k_) ∧ k_ ≠ gb380) k_ from fun k_ hk => ⟨(Nat.le_trans (below_size (hg_ GE380.out)) hk), Kd.freshB (g := gb380) (o := .cells #[.int .i64 a0_0, .int .i64 a0_1, .int .i64 a0_2] 60 (0, 0)) (bk_ BK380.out) k_ hk⟩) _ (Nat.le_refl _)) (Below.refl _ _) (Nat.le_refl _) (by simp) ?_; (case hd => rfl); (case hg => rfl); (case hr => first | (go_simp; done) | (go_simp; rfl)); (case hp => exact (Reps.one (show Kd.FK (Kd.slice 2 (Kd.int .i64)) _ _ y393 [.slice Ao28 y393.length co28] from (Kd.FK_slice_mk (Kd.R_reads' (Kd.R_mono (ok' := (fun k_ => (w.heap.size ≤ k_) ∧ k_ ≠ gb380)) (Kd.R_types (HO395.out) BK380.out (by decide)) (fun k_ hk => ⟨hk.1.1.1.1, hk.2⟩))).2.1 (Kd.R_F (Kd.R_mono (ok' := (fun k_ => (w.heap.size ≤ k_) ∧ k_ ≠ gb380)) (Kd.R_types (HO395.out) BK380.out (by decide)) (fun k_ hk => ⟨hk.1.1.1.1, hk.2⟩))))) (Reps.one (show Kd.FK (Kd.slice 2 (Kd.int .i64)) _ _ y396 [.slice Ao29 y396.length co29] from (Kd.FK_slice_mk (Kd.R_reads' (Kd.R_mono (ok' := (fun k_ => (w.heap.size ≤ k_) ∧ k_ ≠ gb380)) (Kd.R_types (HO398.out) BK380.out (by decide)) (fun k_ hk => ⟨hk.1.1.1.1, hk.2⟩))).2.1 (Kd.R_F (Kd.R_mono (ok' := (fun k_ => (w.heap.size ≤ k_) ∧ k_ ≠ gb380)) (Kd.R_types (HO398.out) BK380.out (by decide)) (fun k_ hk => ⟨hk.1.1.1.1, hk.2⟩))))) (Reps.one (show Kd.FK (Kd.slice 2 (Kd.int .i64)) _ _ y399 [.slice Ao30 y399.length co30] from (Kd.FK_slice_mk (Kd.R_reads' (Kd.R_mono (ok' := (fun k_ => (w.heap.size ≤ k_) ∧ k_ ≠ gb380)) (Kd.R_types (HO401.out) BK380.out (by decide)) (fun k_ hk => ⟨hk.1.1.1.1, hk.2⟩))).2.1 (Kd.R_F (Kd.R_mono (ok' := (fun k_ => (w.heap.size ≤ k_) ∧ k_ ≠ gb380)) (Kd.R_types (HO401.out) BK380.out (by decide)) (fun k_ hk => ⟨hk.1.1.1.1, hk.2⟩))))) (Reps.none _ _))))); intro v403 w31 ho32 hb hg_ hnew_; clear hg_ hnew_; (first | rw [← Ny402.out] at ho32 | (simp only [Int.reduceToNat] at ho32; rw [← Ny402.out] at ho32)); have n0_ := Aside0.mk (Kd.N_lower ho32 (below_size (hg_ GE380.out))); have n1_ := Aside0.mk (blk_below (g := gb380) (o := .cells #[.int .i64 a0_0, .int .i64 a0_1, .int .i64 a0_2] 60 (0, 0)) (bk_ BK380.out) hb); have n2_ := Aside0.mk (below_step (hg_ GE380.out) hb); clear BK380; clear HB; clear HO395; clear HO398; clear HO401; have HO404 := n0_; have BK380 := n1_; have HB := n2_; clear n0_ n1_ n2_; clear hb ho32))
 go_ret
 exact ⟨_, by first | rfl | (simp [errW_none, errW_some] <;> rfl) | (simp [*, errW_none, errW_some] <;> rfl), by (with_reducible repeat (first | apply Kd.N_alloc | apply Kd.N_drewN | apply Kd.N_drew)); exact Kd.N_mono HO404.out (fun _ hk => hk.1), by repeat (first | (with_reducible first | exact HB.out | apply ba_ | apply bn_ | apply bd_ | refine below_set ?_ GE380.out) | exact HB.out)⟩
mutual
def honeycombref03_common.l0 : Nat → Int → List (List Int) → Int → Int → Int → Int → Int → Option (Int)
 | 0, _, _, _, _, _, _, _ => none
 | k + 1, x5, x11, x12, x13, x407000, x407001, x407002 => if x13 < x12 then (if 0 ≤ x13 then (if x13 < (x11.length : Int) then ((honeycombref03_Corners.f x407000 x407001 x407002).bind fun t411 => (honeycombref03_common.l1 k x5 (rd_L10 x11 x13) x11 x12 x13 t411 (t411.length : Int) 0 x407000 x407001 x407002)) else (none)) else (none)) else (some x5)
def honeycombref03_common.l1 : Nat → Int → List Int → List (List Int) → Int → Int → List (List Int) → Int → Int → Int → Int → Int → Option (Int)
 | 0, _, _, _, _, _, _, _, _, _, _, _ => none
 | k + 1, x5, x7, x11, x12, x13, x18, x19, x20, x407000, x407001, x407002 => if x20 < x19 then (if 0 ≤ x20 then (if x20 < (x18.length : Int) then (if 0 < (x7.length : Int) then (if 0 < ((rd_L10 x18 x20).length : Int) then (if (rd x7 0) = (rd (rd_L10 x18 x20) 0) then (if 1 < (x7.length : Int) then (if 1 < ((rd_L10 x18 x20).length : Int) then (if (rd x7 1) = (rd (rd_L10 x18 x20) 1) then (honeycombref03_common.l1 k (wrap64 (x5 + 1)) x7 x11 x12 x13 x18 x19 (wrap64 (x20 + 1)) x407000 x407001 x407002) else (honeycombref03_common.l1 k x5 x7 x11 x12 x13 x18 x19 (wrap64 (x20 + 1)) x407000 x407001 x407002)) else (none)) else (none)) else (honeycombref03_common.l1 k x5 x7 x11 x12 x13 x18 x19 (wrap64 (x20 + 1)) x407000 x407001 x407002)) else (none)) else (none)) else (none)) else (none)) else (honeycombref03_common.l0 k x5 x11 x12 (wrap64 (x13 + 1)) x407000 x407001 x407002)
end
def honeycombref03_common.f (k : Nat) (a0_0 : Int) (a0_1 : Int) (a0_2 : Int) (a1_0 : Int) (a1_1 : Int) (a1_2 : Int) : Option (Int) := (honeycombref03_Corners.f a0_0 a0_1 a0_2).bind fun t407 => (honeycombref03_common.l0 k 0 t407 (t407.length : Int) 0 a1_0 a1_1 a1_2)
set_option maxHeartbeats 8000000 in
set_option maxRecDepth 100000 in
theorem honeycombref03_common.calls (k : Nat) (a0_0 : Int) (a0_1 : Int) (a0_2 : Int) (a1_0 : Int) (a1_1 : Int) (a1_2 : Int) (r : Int) (w : World) (h : honeycombref03_common.f k a0_0 a0_1 a0_2 a1_0 a1_1 a1_2 = some r) :
  Calls Tryd.prog 96 #[.agg #[.int .i64 a0_0, .int .i64 a0_1, .int .i64 a0_2], .agg #[.int .i64 a1_0, .int .i64 a1_1, .int .i64 a1_2]] w fun e w' => e = .returned (.int .i64 r) ∧ Below w.heap.size w w' := by
 have hu60 := Tryd.underlying60
 have HB := Aside0.mk (Below.refl w.heap.size w)
 have H : ((honeycombref03_Corners.f a0_0 a0_1 a0_2).bind fun t407 => (honeycombref03_common.l0 k 0 t407 (t407.length : Int) 0 a1_0 a1_1 a1_2)) = some r := h
 clear h
 replace H := Option.bind_eq_some_iff.mp H
 obtain ⟨t407, A30, H⟩ := H
 replace H : (honeycombref03_common.l0 k 0 t407 (t407.length : Int) 0 a1_0 a1_1 a1_2) = some r := H
 have A3 := Aside0.mk A30
 clear A30
 have H' := Aside0.mk H
 clear H
 go_enter Tryd.func96, Tryd.ntmps96
 go_wp2_with (first | ((with_reducible refine gate_dst (N := 2) rfl ?_); refine box_event ?hg (N := 2) ?hd (cs := #[.int .i64 a0_0, .int .i64 a0_1, .int .i64 a0_2]) (t := 60) ?hr ?_; (case hd => rfl); (case hg => rfl); (case hr => first | (go_simp; done) | (go_simp; rfl)); intro gb405 hg w4 hbox hb; have n0_ := Aside0.mk (below_step hb_ hb); have n1_ := Aside0.mk (hbox); have n2_ := Aside0.mk ((by rw [hg]; exact (below_size hb_) : w.heap.size ≤ gb405)); have n3_ := Aside0.mk ((by rw [hg]; exact (below_size hb_) : w.heap.size ≤ gb405)); clear HB; have HB := n0_; have BK405 := n1_; have GW405 := n2_; have GE405 := n3_; clear n0_ n1_ n2_ n3_; clear hb hbox hg) | ((with_reducible refine gate_dst (N := 3) rfl ?_); refine box_event ?hg (N := 3) ?hd (cs := #[.int .i64 a1_0, .int .i64 a1_1, .int .i64 a1_2]) (t := 60) ?hr ?_; (case hd => rfl); (case hg => rfl); (case hr => first | (go_simp; done) | (go_simp; rfl)); intro gb406 hg w5 hbox hb; have n0_ := Aside0.mk (blk_below (g := gb405) (o := .cells #[.int .i64 a0_0, .int .i64 a0_1, .int .i64 a0_2] 60 (0, 0)) (bk_ BK405.out) hb); have n1_ := Aside0.mk (below_step (hg_ GE405.out) hb); have n2_ := Aside0.mk (hbox); have n3_ := Aside0.mk ((by rw [hg]; exact (below_size (hg_ GE405.out)) : w.heap.size ≤ gb406)); have n4_ := Aside0.mk ((by rw [hg]; exact (below_size (hg_ GE405.out)) : w.heap.size ≤ gb406)); have n5_ := Aside0.mk ((by rw [hg]; exact Nat.ne_of_lt (blk_lt (g := gb405) (o := .cells #[.int .i64 a0_0, .int .i64 a0_1, .int .i64 a0_2] 60 (0, 0)) (bk_ BK405.out)) : gb405 ≠ gb406)); have n6_ := Aside0.mk ((by rw [hg]; exact Nat.ne_of_gt (blk_lt (g := gb405) (o := .cells #[.int .i64 a0_0, .int .i64 a0_1, .int .i64 a0_2] 60 (0, 0)) (bk_ BK405.out)) : gb406 ≠ gb405)); clear BK405; clear HB; have BK405 := n0_; have HB := n1_; have BK406 := n2_; have GW406 := n3_; have GE406 := n4_; have NB405_406 := n5_; have NB406_405 := n6_; clear n0_ n1_ n2_ n3_ n4_ n5_ n6_; clear hb hbox hg; have hnb6 := NB405_406.out; have hnc6 := NB406_405.out; have hcz7_0 : w5.cell? ⟨gb405, 0, none⟩ = some (.int .i64 a0_0) := (blk_cell BK405.out 0).trans rfl; have hcz7_1 : w5.cell? ⟨gb405, 1, none⟩ = some (.int .i64 a0_1) := (blk_cell BK405.out 1).trans rfl; have hcz7_2 : w5.cell? ⟨gb405, 2, none⟩ = some (.int .i64 a0_2) := (blk_cell BK405.out 2).trans rfl; have hfz7_0 := blk_frozen BK405.out 0; have hfz7_1 := blk_frozen BK405.out 1; have hfz7_2 := blk_frozen BK405.out 2) | (go_at_call 110; (with_reducible refine (honeycombref03_Corners.calls a0_0 a0_1 a0_2 t407 _ A3.out).mono ?_); rintro e w8 ⟨v408, rfl, ho0, hb⟩; have n0_ := Aside0.mk (Kd.N_lower (Kd.N_mono (ok' := fun k_ => k_ ≠ gb405 ∧ k_ ≠ gb406) ho0 (fun k_ hk_ => ⟨(Kd.freshB (g := gb405) (o := .cells #[.int .i64 a0_0, .int .i64 a0_1, .int .i64 a0_2] 60 (0, 0)) (bk_ BK405.out) k_ hk_), (Kd.freshB (g := gb406) (o := .cells #[.int .i64 a1_0, .int .i64 a1_1, .int .i64 a1_2] 60 (0, 0)) (bk_ BK406.out) k_ hk_)⟩)) (below_size (hg2_ GE405.out GE406.out))); have n1_ := Aside0.mk (blk_below (g := gb405) (o := .cells #[.int .i64 a0_0, .int .i64 a0_1, .int .i64 a0_2] 60 (0, 0)) (bk_ BK405.out) hb); have n2_ := Aside0.mk (blk_below (g := gb406) (o := .cells #[.int .i64 a1_0, .int .i64 a1_1, .int .i64 a1_2] 60 (0, 0)) (bk_ BK406.out) hb); have n3_ := Aside0.mk (below_step (hg2_ GE405.out GE406.out) hb); clear BK405; clear BK406; clear HB; have HO409 := n0_; have BK405 := n1_; have BK406 := n2_; have HB := n3_; clear n0_ n1_ n2_ n3_; (try clear hb); (try clear hb2); (try clear hk); (try clear hi); (try clear ho0); obtain ⟨Ao9, co9, eo9⟩ := Kd.N_slice HO409.out; subst eo9))
 repeat (go_quiet (first | ((with_reducible refine gate_dst (N := 2) rfl ?_); refine box_event ?hg (N := 2) ?hd (cs := #[.int .i64 a0_0, .int .i64 a0_1, .int .i64 a0_2]) (t := 60) ?hr ?_; (case hd => rfl); (case hg => rfl); (case hr => first | (go_simp; done) | (go_simp; rfl)); intro gb405 hg w4 hbox hb; have n0_ := Aside0.mk (below_step hb_ hb); have n1_ := Aside0.mk (hbox); have n2_ := Aside0.mk ((by rw [hg]; exact (below_size hb_) : w.heap.size ≤ gb405)); have n3_ := Aside0.mk ((by rw [hg]; exact (below_size hb_) : w.heap.size ≤ gb405)); clear HB; have HB := n0_; have BK405 := n1_; have GW405 := n2_; have GE405 := n3_; clear n0_ n1_ n2_ n3_; clear hb hbox hg) | ((with_reducible refine gate_dst (N := 3) rfl ?_); refine box_event ?hg (N := 3) ?hd (cs := #[.int .i64 a1_0, .int .i64 a1_1, .int .i64 a1_2]) (t := 60) ?hr ?_; (case hd => rfl); (case hg => rfl); (case hr => first | (go_simp; done) | (go_simp; rfl)); intro gb406 hg w5 hbox hb; have n0_ := Aside0.mk (blk_below (g := gb405) (o := .cells #[.int .i64 a0_0, .int .i64 a0_1, .int .i64 a0_2] 60 (0, 0)) (bk_ BK405.out) hb); have n1_ := Aside0.mk (below_step (hg_ GE405.out) hb); have n2_ := Aside0.mk (hbox); have n3_ := Aside0.mk ((by rw [hg]; exact (below_size (hg_ GE405.out)) : w.heap.size ≤ gb406)); have n4_ := Aside0.mk ((by rw [hg]; exact (below_size (hg_ GE405.out)) : w.heap.size ≤ gb406)); have n5_ := Aside0.mk ((by rw [hg]; exact Nat.ne_of_lt (blk_lt (g := gb405) (o := .cells #[.int .i64 a0_0, .int .i64 a0_1, .int .i64 a0_2] 60 (0, 0)) (bk_ BK405.out)) : gb405 ≠ gb406)); have n6_ := Aside0.mk ((by rw [hg]; exact Nat.ne_of_gt (blk_lt (g := gb405) (o := .cells #[.int .i64 a0_0, .int .i64 a0_1, .int .i64 a0_2] 60 (0, 0)) (bk_ BK405.out)) : gb406 ≠ gb405)); clear BK405; clear HB; have BK405 := n0_; have HB := n1_; have BK406 := n2_; have GW406 := n3_; have GE406 := n4_; have NB405_406 := n5_; have NB406_405 := n6_; clear n0_ n1_ n2_ n3_ n4_ n5_ n6_; clear hb hbox hg; have hnb6 := NB405_406.out; have hnc6 := NB406_405.out; have hcz7_0 : w5.cell? ⟨gb405, 0, none⟩ = some (.int .i64 a0_0) := (blk_cell BK405.out 0).trans rfl; have hcz7_1 : w5.cell? ⟨gb405, 1, none⟩ = some (.int .i64 a0_1) := (blk_cell BK405.out 1).trans rfl; have hcz7_2 : w5.cell? ⟨gb405, 2, none⟩ = some (.int .i64 a0_2) := (blk_cell BK405.out 2).trans rfl; have hfz7_0 := blk_frozen BK405.out 0; have hfz7_1 := blk_frozen BK405.out 1; have hfz7_2 := blk_frozen BK405.out 2) | (go_at_call 110; (with_reducible refine (honeycombref03_Corners.calls a0_0 a0_1 a0_2 t407 _ A3.out).mono ?_); rintro e w8 ⟨v408, rfl, ho0, hb⟩; have n0_ := Aside0.mk (Kd.N_lower (Kd.N_mono (ok' := fun k_ => k_ ≠ gb405 ∧ k_ ≠ gb406) ho0 (fun k_ hk_ => ⟨(Kd.freshB (g := gb405) (o := .cells #[.int .i64 a0_0, .int .i64 a0_1, .int .i64 a0_2] 60 (0, 0)) (bk_ BK405.out) k_ hk_), (Kd.freshB (g := gb406) (o := .cells #[.int .i64 a1_0, .int .i64 a1_1, .int .i64 a1_2] 60 (0, 0)) (bk_ BK406.out) k_ hk_)⟩)) (below_size (hg2_ GE405.out GE406.out))); have n1_ := Aside0.mk (blk_below (g := gb405) (o := .cells #[.int .i64 a0_0, .int .i64 a0_1, .int .i64 a0_2] 60 (0, 0)) (bk_ BK405.out) hb); have n2_ := Aside0.mk (blk_below (g := gb406) (o := .cells #[.int .i64 a1_0, .int .i64 a1_1, .int .i64 a1_2] 60 (0, 0)) (bk_ BK406.out) hb); have n3_ := Aside0.mk (below_step (hg2_ GE405.out GE406.out) hb); clear BK405; clear BK406; clear HB; have HO409 := n0_; have BK405 := n1_; have BK406 := n2_; have HB := n3_; clear n0_ n1_ n2_ n3_; (try clear hb); (try clear hb2); (try clear hk); (try clear hi); (try clear ho0); obtain ⟨Ao9, co9, eo9⟩ := Kd.N_slice HO409.out; subst eo9)); try go_wp2_with (first | ((with_reducible refine gate_dst (N := 2) rfl ?_); refine box_event ?hg (N := 2) ?hd (cs := #[.int .i64 a0_0, .int .i64 a0_1, .int .i64 a0_2]) (t := 60) ?hr ?_; (case hd => rfl); (case hg => rfl); (case hr => first | (go_simp; done) | (go_simp; rfl)); intro gb405 hg w4 hbox hb; have n0_ := Aside0.mk (below_step hb_ hb); have n1_ := Aside0.mk (hbox); have n2_ := Aside0.mk ((by rw [hg]; exact (below_size hb_) : w.heap.size ≤ gb405)); have n3_ := Aside0.mk ((by rw [hg]; exact (below_size hb_) : w.heap.size ≤ gb405)); clear HB; have HB := n0_; have BK405 := n1_; have GW405 := n2_; have GE405 := n3_; clear n0_ n1_ n2_ n3_; clear hb hbox hg) | ((with_reducible refine gate_dst (N := 3) rfl ?_); refine box_event ?hg (N := 3) ?hd (cs := #[.int .i64 a1_0, .int .i64 a1_1, .int .i64 a1_2]) (t := 60) ?hr ?_; (case hd => rfl); (case hg => rfl); (case hr => first | (go_simp; done) | (go_simp; rfl)); intro gb406 hg w5 hbox hb; have n0_ := Aside0.mk (blk_below (g := gb405) (o := .cells #[.int .i64 a0_0, .int .i64 a0_1, .int .i64 a0_2] 60 (0, 0)) (bk_ BK405.out) hb); have n1_ := Aside0.mk (below_step (hg_ GE405.out) hb); have n2_ := Aside0.mk (hbox); have n3_ := Aside0.mk ((by rw [hg]; exact (below_size (hg_ GE405.out)) : w.heap.size ≤ gb406)); have n4_ := Aside0.mk ((by rw [hg]; exact (below_size (hg_ GE405.out)) : w.heap.size ≤ gb406)); have n5_ := Aside0.mk ((by rw [hg]; exact Nat.ne_of_lt (blk_lt (g := gb405) (o := .cells #[.int .i64 a0_0, .int .i64 a0_1, .int .i64 a0_2] 60 (0, 0)) (bk_ BK405.out)) : gb405 ≠ gb406)); have n6_ := Aside0.mk ((by rw [hg]; exact Nat.ne_of_gt (blk_lt (g := gb405) (o := .cells #[.int .i64 a0_0, .int .i64 a0_1, .int .i64 a0_2] 60 (0, 0)) (bk_ BK405.out)) : gb406 ≠ gb405)); clear BK405; clear HB; have BK405 := n0_; have HB := n1_; have BK406 := n2_; have GW406 := n3_; have GE406 := n4_; have NB405_406 := n5_; have NB406_405 := n6_; clear n0_ n1_ n2_ n3_ n4_ n5_ n6_; clear hb hbox hg; have hnb6 := NB405_406.out; have hnc6 := NB406_405.out; have hcz7_0 : w5.cell? ⟨gb405, 0, none⟩ = some (.int .i64 a0_0) := (blk_cell BK405.out 0).trans rfl; have hcz7_1 : w5.cell? ⟨gb405, 1, none⟩ = some (.int .i64 a0_1) := (blk_cell BK405.out 1).trans rfl; have hcz7_2 : w5.cell? ⟨gb405, 2, none⟩ = some (.int .i64 a0_2) := (blk_cell BK405.out 2).trans rfl; have hfz7_0 := blk_frozen BK405.out 0; have hfz7_1 := blk_frozen BK405.out 1; have hfz7_2 := blk_frozen BK405.out 2) | (go_at_call 110; (with_reducible refine (honeycombref03_Corners.calls a0_0 a0_1 a0_2 t407 _ A3.out).mono ?_); rintro e w8 ⟨v408, rfl, ho0, hb⟩; have n0_ := Aside0.mk (Kd.N_lower (Kd.N_mono (ok' := fun k_ => k_ ≠ gb405 ∧ k_ ≠ gb406) ho0 (fun k_ hk_ => ⟨(Kd.freshB (g := gb405) (o := .cells #[.int .i64 a0_0, .int .i64 a0_1, .int .i64 a0_2] 60 (0, 0)) (bk_ BK405.out) k_ hk_), (Kd.freshB (g := gb406) (o := .cells #[.int .i64 a1_0, .int .i64 a1_1, .int .i64 a1_2] 60 (0, 0)) (bk_ BK406.out) k_ hk_)⟩)) (below_size (hg2_ GE405.out GE406.out))); have n1_ := Aside0.mk (blk_below (g := gb405) (o := .cells #[.int .i64 a0_0, .int .i64 a0_1, .int .i64 a0_2] 60 (0, 0)) (bk_ BK405.out) hb); have n2_ := Aside0.mk (blk_below (g := gb406) (o := .cells #[.int .i64 a1_0, .int .i64 a1_1, .int .i64 a1_2] 60 (0, 0)) (bk_ BK406.out) hb); have n3_ := Aside0.mk (below_step (hg2_ GE405.out GE406.out) hb); clear BK405; clear BK406; clear HB; have HO409 := n0_; have BK405 := n1_; have BK406 := n2_; have HB := n3_; clear n0_ n1_ n2_ n3_; (try clear hb); (try clear hb2); (try clear hk); (try clear hi); (try clear ho0); obtain ⟨Ao9, co9, eo9⟩ := Kd.N_slice HO409.out; subst eo9)))
 go_loopg [5, 13] k (fun kq v5 v13 w' => ∃ (x5_1 : Int) (x13_1 : Int), v5 = .int .i64 x5_1 ∧ v13 = .int .i64 x13_1 ∧ Aside0 (honeycombref03_common.l0 kq x5_1 t407 (t407.length : Int) x13_1 a1_0 a1_1 a1_2 = some r) ∧ Aside0 (kq ≤ k) ∧ Aside0 (Kd.N (Kd.slice 2 (Kd.int .i64)) 111 w' w.heap.size (fun k_ => k_ ≠ gb405 ∧ k_ ≠ gb406) (.slice Ao9 t407.length co9) t407) ∧ Aside0 (w'.heap[gb405]? = some (.cells #[.int .i64 a0_0, .int .i64 a0_1, .int .i64 a0_2] 60 (0, 0))) ∧ Aside0 (w'.heap[gb406]? = some (.cells #[.int .i64 a1_0, .int .i64 a1_1, .int .i64 a1_2] 60 (0, 0))) ∧ Aside0 (Below w.heap.size w w'))
 case atStart => exact ⟨(0), (0), rs_, rs_, H', ⟨Nat.le_refl _⟩, ⟨kn_ HO409.out⟩, ⟨bk_ BK405.out⟩, ⟨bk_ BK406.out⟩, ⟨by repeat (first | (with_reducible first | exact HB.out | apply ba_ | apply bn_ | apply bd_ | refine below_set ?_ GE405.out | refine below_set ?_ GE406.out) | exact HB.out)⟩⟩
 case round =>
  clear H'
  try clear p2
  try clear c6
  try clear c9
  try clear hcz7_0
  try clear hcz7_1
  try clear hcz7_2
  try clear hfz7_0
  try clear hfz7_1
  try clear hfz7_2
  obtain ⟨x5_1, x13_1, rfl, rfl, HA, HK1, HO_11, BK405, BK406, HB⟩ := hrel
  cases gk with
  | zero => exact absurd HA.out (by simp [honeycombref03_common.l0])
  | succ k1 =>
   have H := HA.out
   clear HA
   simp only [honeycombref03_common.l0] at H
   by_cases c10 : x13_1 < (t407.length : Int)
   rotate_left
   ·
    rw [if_neg c10] at H
    have c10b0 : decide (x13_1 < (t407.length : Int)) = false := decide_eq_false c10
    clear c10
    obtain rfl := Option.some.inj H
    go_wp2
    repeat (go_quiet (fail); try go_wp2)
    go_ret
    exact ⟨er_, hg2_ GE405.out GE406.out⟩
   rw [if_pos c10] at H
   have c10b0 : decide (x13_1 < (t407.length : Int)) = true := decide_eq_true c10
   clear c10
   by_cases c11 : 0 ≤ x13_1
   rotate_left
   ·
    rw [if_neg c11] at H
    exact absurd H (by simp)
   rw [if_pos c11] at H
   have c11b0 : decide (0 ≤ x13_1) = true := decide_eq_true c11
   clear c11
   by_cases c12 : x13_1 < (t407.length : Int)
   rotate_left
   ·
    rw [if_neg c12] at H
    exact absurd H (by simp)
   rw [if_pos c12] at H
   have c12b0 : decide (x13_1 < (t407.length : Int)) = true := decide_eq_true c12
   clear c12
   replace H := Option.bind_eq_some_iff.mp H
   obtain ⟨t411, A130, H⟩ := H
   replace H : (honeycombref03_common.l1 k1 x5_1 (rd_L10 t407 x13_1) t407 (t407.length : Int) x13_1 t411 (t411.length : Int) 0 a1_0 a1_1 a1_2) = some r := H
   have A13 := Aside0.mk A130
   clear A130
   have H' := Aside0.mk H
   clear H
   have p410 : 0 ≤ (x13_1 : Int) := of_decide_eq_true as_
   have q410 : x13_1 < (t407.length : Int) := of_decide_eq_true as_
   obtain ⟨ad410, A410_0, c410_0, e410, hx410_0, hl410_0, hi410_0⟩ := at_L10 (Kd.N_reads' HO_11.out).2.2 x13_1 p410 q410
   cases e410
   obtain ⟨ce410, hce410, hMe410, hcc410⟩ := Kd.N_get HO_11.out [] x13_1 p410 (by first | exact q410 | exact of_decide_eq_true as_ | (have e_ := (Kd.N_reads' HO_11.out).1; omega))
   obtain ⟨ua410_0, uc410_0, rfl, ul410_0, ge410_0⟩ := Kd.FK_slice_open hMe410
   have hv410_0 := hcc410 0 _ rfl
   rw [Nat.add_zero, show ((Kd.slice 2 (Kd.int .i64))).sz = 1 from rfl, Nat.mul_one] at hv410_0
   replace hv410_0 := Option.some.inj (hv410_0.symm.trans hx410_0)
   injection hv410_0 with hva_ hvn_ hvc_
   rw [hva_] at ge410_0
   rw [hvc_] at ul410_0
   have HL410_0 := Aside0.mk (show Kd.V (Kd.int .i64) 2 _ w.heap.size _ _ (rd_L10 t407 x13_1) from Kd.V_mk ul410_0 ge410_0)
   clear hva_ hvn_ hvc_ ge410_0 ul410_0
   clear hcc410 hce410
   have HR410_0 := Aside0.mk hi410_0
   have HC410_0 := Aside0.mk hl410_0
   clear hi410_0 hl410_0
   replace p410 := eq_true p410
   replace q410 := eq_true q410
   have hnb14 := NB406_405.out
   have hnc14 := NB405_406.out
   have hcz15_0 : wr.cell? ⟨gb406, 0, none⟩ = some (.int .i64 a1_0) := (blk_cell BK406.out 0).trans rfl
   have hcz15_1 : wr.cell? ⟨gb406, 1, none⟩ = some (.int .i64 a1_1) := (blk_cell BK406.out 1).trans rfl
   have hcz15_2 : wr.cell? ⟨gb406, 2, none⟩ = some (.int .i64 a1_2) := (blk_cell BK406.out 2).trans rfl
   have hfz15_0 := blk_frozen BK406.out 0
   have hfz15_1 := blk_frozen BK406.out 1
   have hfz15_2 := blk_frozen BK406.out 2
   go_wp2_with (first | (go_at_call 110; (with_reducible refine (honeycombref03_Corners.calls a1_0 a1_1 a1_2 t411 _ A13.out).mono ?_); rintro e w16 ⟨v412, rfl, ho0, hb⟩; have n0_ := Aside0.mk (Kd.N_elder' (kn_ HO_11.out) (Kd.N_base ho0) hb); have n1_ := Aside0.mk (Kd.V_elder' (by (with_reducible repeat (first | apply Kd.V_alloc | apply Kd.V_drewN | apply Kd.V_drew)); exact HL410_0.out) (Kd.N_base ho0) hb); have n2_ := Aside0.mk (Kd.N_lower (Kd.N_mono (ok' := fun k_ => some k_ ≠ (.slice (some ad410) t407.length co9 : Value).ownBlock ∧ k_ ≠ gb405 ∧ k_ ≠ gb406) ho0 (fun k_ hk_ => ⟨(Kd.fresh' (Kd.N_lt (kn_ HO_11.out)) k_ hk_), (Kd.freshB (g := gb405) (o := .cells #[.int .i64 a0_0, .int .i64 a0_1, .int .i64 a0_2] 60 (0, 0)) (bk_ BK405.out) k_ hk_), (Kd.freshB (g := gb406) (o := .cells #[.int .i64 a1_0, .int .i64 a1_1, .int .i64 a1_2] 60 (0, 0)) (bk_ BK406.out) k_ hk_)⟩)) (below_size (hg2_ GE405.out GE406.out))); have n3_ := Aside0.mk (blk_below (g := gb405) (o := .cells #[.int .i64 a0_0, .int .i64 a0_1, .int .i64 a0_2] 60 (0, 0)) (bk_ BK405.out) hb); have n4_ := Aside0.mk (blk_below (g := gb406) (o := .cells #[.int .i64 a1_0, .int .i64 a1_1, .int .i64 a1_2] 60 (0, 0)) (bk_ BK406.out) hb); have n5_ := Aside0.mk (Kd.C_below (by repeat (first | (with_reducible exact HR410_0.out) | (with_reducible refine Kd.C_alloc ?_ _) | (with_reducible refine Kd.C_drewN ?_ _) | (with_reducible refine Kd.C_drew ?_) | exact HR410_0.out)) hb); have n6_ := Aside0.mk (below_step (hg2_ GE405.out GE406.out) hb); clear HO_11; clear HL410_0; clear BK405; clear BK406; clear HR410_0; clear HB; have HO_11 := n0_; have HL410_0 := n1_; have HO413 := n2_; have BK405 := n3_; have BK406 := n4_; have HR410_0 := n5_; have HB := n6_; clear n0_ n1_ n2_ n3_ n4_ n5_ n6_; (try clear hb); (try clear hb2); (try clear hk); (try clear hi); (try clear ho0); obtain ⟨Ao17, co17, eo17⟩ := Kd.N_slice HO413.out; subst eo17))
   repeat (go_quiet (first | (go_at_call 110; (with_reducible refine (honeycombref03_Corners.calls a1_0 a1_1 a1_2 t411 _ A13.out).mono ?_); rintro e w16 ⟨v412, rfl, ho0, hb⟩; have n0_ := Aside0.mk (Kd.N_elder' (kn_ HO_11.out) (Kd.N_base ho0) hb); have n1_ := Aside0.mk (Kd.V_elder' (by (with_reducible repeat (first | apply Kd.V_alloc | apply Kd.V_drewN | apply Kd.V_drew)); exact HL410_0.out) (Kd.N_base ho0) hb); have n2_ := Aside0.mk (Kd.N_lower (Kd.N_mono (ok' := fun k_ => some k_ ≠ (.slice (some ad410) t407.length co9 : Value).ownBlock ∧ k_ ≠ gb405 ∧ k_ ≠ gb406) ho0 (fun k_ hk_ => ⟨(Kd.fresh' (Kd.N_lt (kn_ HO_11.out)) k_ hk_), (Kd.freshB (g := gb405) (o := .cells #[.int .i64 a0_0, .int .i64 a0_1, .int .i64 a0_2] 60 (0, 0)) (bk_ BK405.out) k_ hk_), (Kd.freshB (g := gb406) (o := .cells #[.int .i64 a1_0, .int .i64 a1_1, .int .i64 a1_2] 60 (0, 0)) (bk_ BK406.out) k_ hk_)⟩)) (below_size (hg2_ GE405.out GE406.out))); have n3_ := Aside0.mk (blk_below (g := gb405) (o := .cells #[.int .i64 a0_0, .int .i64 a0_1, .int .i64 a0_2] 60 (0, 0)) (bk_ BK405.out) hb); have n4_ := Aside0.mk (blk_below (g := gb406) (o := .cells #[.int .i64 a1_0, .int .i64 a1_1, .int .i64 a1_2] 60 (0, 0)) (bk_ BK406.out) hb); have n5_ := Aside0.mk (Kd.C_below (by repeat (first | (with_reducible exact HR410_0.out) | (with_reducible refine Kd.C_alloc ?_ _) | (with_reducible refine Kd.C_drewN ?_ _) | (with_reducible refine Kd.C_drew ?_) | exact HR410_0.out)) hb); have n6_ := Aside0.mk (below_step (hg2_ GE405.out GE406.out) hb); clear HO_11; clear HL410_0; clear BK405; clear BK406; clear HR410_0; clear HB; have HO_11 := n0_; have HL410_0 := n1_; have HO413 := n2_; have BK405 := n3_; have BK406 := n4_; have HR410_0 := n5_; have HB := n6_; clear n0_ n1_ n2_ n3_ n4_ n5_ n6_; (try clear hb); (try clear hb2); (try clear hk); (try clear hi); (try clear ho0); obtain ⟨Ao17, co17, eo17⟩ := Kd.N_slice HO413.out; subst eo17)); try go_wp2_with (first | (go_at_call 110; (with_reducible refine (honeycombref03_Corners.calls a1_0 a1_1 a1_2 t411 _ A13.out).mono ?_); rintro e w16 ⟨v412, rfl, ho0, hb⟩; have n0_ := Aside0.mk (Kd.N_elder' (kn_ HO_11.out) (Kd.N_base ho0) hb); have n1_ := Aside0.mk (Kd.V_elder' (by (with_reducible repeat (first | apply Kd.V_alloc | apply Kd.V_drewN | apply Kd.V_drew)); exact HL410_0.out) (Kd.N_base ho0) hb); have n2_ := Aside0.mk (Kd.N_lower (Kd.N_mono (ok' := fun k_ => some k_ ≠ (.slice (some ad410) t407.length co9 : Value).ownBlock ∧ k_ ≠ gb405 ∧ k_ ≠ gb406) ho0 (fun k_ hk_ => ⟨(Kd.fresh' (Kd.N_lt (kn_ HO_11.out)) k_ hk_), (Kd.freshB (g := gb405) (o := .cells #[.int .i64 a0_0, .int .i64 a0_1, .int .i64 a0_2] 60 (0, 0)) (bk_ BK405.out) k_ hk_), (Kd.freshB (g := gb406) (o := .cells #[.int .i64 a1_0, .int .i64 a1_1, .int .i64 a1_2] 60 (0, 0)) (bk_ BK406.out) k_ hk_)⟩)) (below_size (hg2_ GE405.out GE406.out))); have n3_ := Aside0.mk (blk_below (g := gb405) (o := .cells #[.int .i64 a0_0, .int .i64 a0_1, .int .i64 a0_2] 60 (0, 0)) (bk_ BK405.out) hb); have n4_ := Aside0.mk (blk_below (g := gb406) (o := .cells #[.int .i64 a1_0, .int .i64 a1_1, .int .i64 a1_2] 60 (0, 0)) (bk_ BK406.out) hb); have n5_ := Aside0.mk (Kd.C_below (by repeat (first | (with_reducible exact HR410_0.out) | (with_reducible refine Kd.C_alloc ?_ _) | (with_reducible refine Kd.C_drewN ?_ _) | (with_reducible refine Kd.C_drew ?_) | exact HR410_0.out)) hb); have n6_ := Aside0.mk (below_step (hg2_ GE405.out GE406.out) hb); clear HO_11; clear HL410_0; clear BK405; clear BK406; clear HR410_0; clear HB; have HO_11 := n0_; have HL410_0 := n1_; have HO413 := n2_; have BK405 := n3_; have BK406 := n4_; have HR410_0 := n5_; have HB := n6_; clear n0_ n1_ n2_ n3_ n4_ n5_ n6_; (try clear hb); (try clear hb2); (try clear hk); (try clear hi); (try clear ho0); obtain ⟨Ao17, co17, eo17⟩ := Kd.N_slice HO413.out; subst eo17)))
   go_loopg [5, 20] k1 (fun kq v5 v20 w' => ∃ (x5_2 : Int) (x20_2 : Int), v5 = .int .i64 x5_2 ∧ v20 = .int .i64 x20_2 ∧ Aside0 (honeycombref03_common.l1 kq x5_2 (rd_L10 t407 x13_1) t407 (t407.length : Int) x13_1 t411 (t411.length : Int) x20_2 a1_0 a1_1 a1_2 = some r) ∧ Aside0 (kq ≤ k1) ∧ Aside0 (Kd.N (Kd.slice 2 (Kd.int .i64)) 111 w' w.heap.size (fun k_ => some k_ ≠ ((.slice Ao17 t411.length co17) : Value).ownBlock ∧ k_ ≠ gb405 ∧ k_ ≠ gb406) (.slice (some ad410) t407.length co9) t407) ∧ Aside0 (Kd.N (Kd.slice 2 (Kd.int .i64)) 111 w' w.heap.size (fun k_ => some k_ ≠ ((.slice (some ad410) t407.length co9) : Value).ownBlock ∧ k_ ≠ gb405 ∧ k_ ≠ gb406) (.slice Ao17 t411.length co17) t411) ∧ Aside0 (w'.heap[gb405]? = some (.cells #[.int .i64 a0_0, .int .i64 a0_1, .int .i64 a0_2] 60 (0, 0))) ∧ Aside0 (w'.heap[gb406]? = some (.cells #[.int .i64 a1_0, .int .i64 a1_1, .int .i64 a1_2] 60 (0, 0))) ∧ Aside0 (Kd.C (Kd.int .i64) w' A410_0 (rd_L10 t407 x13_1).length (rd_L10 t407 x13_1)) ∧ Aside0 (Below w.heap.size w w'))
   case atStart => exact ⟨(x5_1), (0), rs_, rs_, H', ⟨Nat.le_refl _⟩, ⟨by (with_reducible repeat (first | apply Kd.N_alloc | apply Kd.N_drewN | apply Kd.N_drew)); exact Kd.N_mono HO_11.out (fun _ hk => ⟨hk.2, ⟨hk.1.1, hk.1.2⟩⟩)⟩, ⟨kn_ HO413.out⟩, ⟨bk_ BK405.out⟩, ⟨bk_ BK406.out⟩, ⟨by repeat (first | (with_reducible exact HR410_0.out) | (with_reducible refine Kd.C_alloc ?_ _) | (with_reducible refine Kd.C_drewN ?_ _) | (with_reducible refine Kd.C_drew ?_) | exact HR410_0.out)⟩, ⟨by repeat (first | (with_reducible first | exact HB.out | apply ba_ | apply bn_ | apply bd_ | refine below_set ?_ GE405.out | refine below_set ?_ GE406.out) | exact HB.out)⟩⟩
   case round =>
    clear H'
    try clear c1
    try clear p2
    try clear c4
    try clear p4
    try clear q4
    try clear hx4
    try clear c6
    try clear c9
    try clear c10
    try clear c10b0
    try clear c11
    try clear c11b0
    try clear c12
    try clear c12b0
    try clear c14
    try clear hcz15_0
    try clear hcz15_1
    try clear hcz15_2
    try clear hcz7_0
    try clear hcz7_1
    try clear hcz7_2
    try clear hfz15_0
    try clear hfz15_1
    try clear hfz15_2
    try clear hfz7_0
    try clear hfz7_1
    try clear hfz7_2
    try clear hx410_0
    try clear p2
    try clear p410
    try clear q410
    obtain ⟨x5_2, x20_2, rfl, rfl, HA, HK2, HO_11, HO_18, BK405, BK406, HR410_0, HB⟩ := hrel
    cases gk with
    | zero => exact absurd HA.out (by simp [honeycombref03_common.l1])
    | succ k2 =>
     have H := HA.out
     clear HA
     simp only [honeycombref03_common.l1] at H
     by_cases c18 : x20_2 < (t411.length : Int)
     rotate_left
     ·
      rw [if_neg c18] at H
      have c18b0 : decide (x20_2 < (t411.length : Int)) = false := decide_eq_false c18
      clear c18
      have H' := Aside0.mk H
      clear H
      go_wp2
      repeat (go_quiet (fail); try go_wp2)
      go_roundg k2
      case measure => have := HK1.out; have := HK2.out; omega
      case rel => exact ⟨(x5_2), (wrap64 (x13_1 + 1)), rs_, rs_, H', ⟨by have := HK1.out; have := HK2.out; omega⟩, ⟨by (with_reducible repeat (first | apply Kd.N_alloc | apply Kd.N_drewN | apply Kd.N_drew)); exact Kd.N_mono HO_11.out (fun _ hk => ⟨hk.2.1, hk.2.2⟩)⟩, ⟨bk_ BK405.out⟩, ⟨bk_ BK406.out⟩, ⟨by repeat (first | (with_reducible first | exact HB.out | apply ba_ | apply bn_ | apply bd_ | refine below_set ?_ GE405.out | refine below_set ?_ GE406.out) | exact HB.out)⟩⟩
     rw [if_pos c18] at H
     have c18b0 : decide (x20_2 < (t411.length : Int)) = true := decide_eq_true c18
     clear c18
     by_cases c19 : 0 ≤ x20_2
     rotate_left
     ·
      rw [if_neg c19] at H
      exact absurd H (by simp)
     rw [if_pos c19] at H
     have c19b0 : decide (0 ≤ x20_2) = true := decide_eq_true c19
     clear c19
     by_cases c20 : x20_2 < (t411.length : Int)
     rotate_left
     ·
      rw [if_neg c20] at H
      exact absurd H (by simp)
     rw [if_pos c20] at H
     have c20b0 : decide (x20_2 < (t411.length : Int)) = true := decide_eq_true c20
     clear c20
     by_cases c21 : 0 < ((rd_L10 t407 x13_1).length : Int)
     rotate_left
     ·
      rw [if_neg c21] at H
      exact absurd H (by simp)
     rw [if_pos c21] at H
     have c21b0 : decide (0 < ((rd_L10 t407 x13_1).length : Int)) = true := decide_eq_true c21
     have c21b1 : decide (0 < (rd_L10 t407 x13_1).length) = true := decide_eq_true (by omega)
     clear c21
     by_cases c22 : 0 < ((rd_L10 t411 x20_2).length : Int)
     rotate_left
     ·
      rw [if_neg c22] at H
      exact absurd H (by simp)
     rw [if_pos c22] at H
     have c22b0 : decide (0 < ((rd_L10 t411 x20_2).length : Int)) = true := decide_eq_true c22
     have c22b1 : decide (0 < (rd_L10 t411 x20_2).length) = true := decide_eq_true (by omega)
     clear c22
     by_cases c23 : (rd (rd_L10 t407 x13_1) 0) = (rd (rd_L10 t411 x20_2) 0)
     rotate_left
     ·
      rw [if_neg c23] at H
      have c23b0 : ((rd (rd_L10 t407 x13_1) 0) == (rd (rd_L10 t411 x20_2) 0)) = false := beq_eq_false_iff_ne.mpr c23
      have c23b1 : ((rd (rd_L10 t407 x13_1) 0) != (rd (rd_L10 t411 x20_2) 0)) = true := bne_iff_ne.mpr c23
      have H' := Aside0.mk H
      clear H
      have p414 : 0 ≤ (x20_2 : Int) := of_decide_eq_true as_
      have q414 : x20_2 < (t411.length : Int) := of_decide_eq_true as_
      obtain ⟨ad414, A414_0, c414_0, e414, hx414_0, hl414_0, hi414_0⟩ := at_L10 (Kd.N_reads' HO_18.out).2.2 x20_2 p414 q414
      cases e414
      obtain ⟨ce414, hce414, hMe414, hcc414⟩ := Kd.N_get HO_18.out [] x20_2 p414 (by first | exact q414 | exact of_decide_eq_true as_ | (have e_ := (Kd.N_reads' HO_18.out).1; omega))
      obtain ⟨ua414_0, uc414_0, rfl, ul414_0, ge414_0⟩ := Kd.FK_slice_open hMe414
      have hv414_0 := hcc414 0 _ rfl
      rw [Nat.add_zero, show ((Kd.slice 2 (Kd.int .i64))).sz = 1 from rfl, Nat.mul_one] at hv414_0
      replace hv414_0 := Option.some.inj (hv414_0.symm.trans hx414_0)
      injection hv414_0 with hva_ hvn_ hvc_
      rw [hva_] at ge414_0
      rw [hvc_] at ul414_0
      have HL414_0 := Aside0.mk (show Kd.V (Kd.int .i64) 2 _ w.heap.size _ _ (rd_L10 t411 x20_2) from Kd.V_mk ul414_0 ge414_0)
      clear hva_ hvn_ hvc_ ge414_0 ul414_0
      clear hcc414 hce414
      have HR414_0 := Aside0.mk hi414_0
      have HC414_0 := Aside0.mk hl414_0
      clear hi414_0 hl414_0
      replace p414 := eq_true p414
      replace q414 := eq_true q414
      have p415 : 0 ≤ (0 : Int) := (by omega)
      have q415 : 0 < ((rd_L10 t407 x13_1).length : Int) := of_decide_eq_true as_
      obtain ⟨ad415, e415, hx415_0⟩ := Kd.at_int HR410_0.out 0 p415 q415
      cases e415
      have qi415 : (0 < (rd_L10 t407 x13_1).length) = True := eq_true (by omega)
      (try rw [show ((0 : Int)).toNat = 0 from rfl] at hx415_0)
      (try rw [Addr.add_zero'] at hx415_0)
      try replace hx415_0 := (HB.out.cell (World.block_lt_of_cell? w _ hx415_0)).trans hx415_0
      replace p415 := eq_true p415
      replace q415 := eq_true q415
      have p416 : 0 ≤ (0 : Int) := (by omega)
      have q416 : 0 < ((rd_L10 t411 x20_2).length : Int) := of_decide_eq_true as_
      obtain ⟨ad416, e416, hx416_0⟩ := Kd.at_int (by repeat (first | (with_reducible exact HR414_0.out) | (with_reducible refine Kd.C_alloc ?_ _) | (with_reducible refine Kd.C_drewN ?_ _) | (with_reducible refine Kd.C_drew ?_) | exact HR414_0.out)) 0 p416 q416
      cases e416
      have qi416 : (0 < (rd_L10 t411 x20_2).length) = True := eq_true (by omega)
      (try rw [show ((0 : Int)).toNat = 0 from rfl] at hx416_0)
      (try rw [Addr.add_zero'] at hx416_0)
      replace p416 := eq_true p416
      replace q416 := eq_true q416
      go_wp2
      repeat (go_quiet (fail); try go_wp2)
      go_roundg k2
      case measure => have := HK1.out; have := HK2.out; omega
      case rel => exact ⟨(x5_2), (wrap64 (x20_2 + 1)), rs_, rs_, H', ⟨by have := HK1.out; have := HK2.out; omega⟩, ⟨kn_ HO_11.out⟩, ⟨kn_ HO_18.out⟩, ⟨bk_ BK405.out⟩, ⟨bk_ BK406.out⟩, ⟨by repeat (first | (with_reducible exact HR410_0.out) | (with_reducible refine Kd.C_alloc ?_ _) | (with_reducible refine Kd.C_drewN ?_ _) | (with_reducible refine Kd.C_drew ?_) | exact HR410_0.out)⟩, ⟨by repeat (first | (with_reducible first | exact HB.out | apply ba_ | apply bn_ | apply bd_ | refine below_set ?_ GE405.out | refine below_set ?_ GE406.out) | exact HB.out)⟩⟩
     rw [if_pos c23] at H
     have c23b0 : ((rd (rd_L10 t407 x13_1) 0) == (rd (rd_L10 t411 x20_2) 0)) = true := beq_iff_eq.mpr c23
     have c23b1 : ((rd (rd_L10 t407 x13_1) 0) != (rd (rd_L10 t411 x20_2) 0)) = false := bne_eq_false_iff_eq.mpr c23
     clear c23
     by_cases c24 : 1 < ((rd_L10 t407 x13_1).length : Int)
     rotate_left
     ·
      rw [if_neg c24] at H
      exact absurd H (by simp)
     rw [if_pos c24] at H
     have c24b0 : decide (1 < ((rd_L10 t407 x13_1).length : Int)) = true := decide_eq_true c24
     have c24b1 : decide (1 < (rd_L10 t407 x13_1).length) = true := decide_eq_true (by omega)
     clear c24
     by_cases c25 : 1 < ((rd_L10 t411 x20_2).length : Int)
     rotate_left
     ·
      rw [if_neg c25] at H
      exact absurd H (by simp)
     rw [if_pos c25] at H
     have c25b0 : decide (1 < ((rd_L10 t411 x20_2).length : Int)) = true := decide_eq_true c25
     have c25b1 : decide (1 < (rd_L10 t411 x20_2).length) = true := decide_eq_true (by omega)
     clear c25
     by_cases c26 : (rd (rd_L10 t407 x13_1) 1) = (rd (rd_L10 t411 x20_2) 1)
     rotate_left
     ·
      rw [if_neg c26] at H
      have c26b0 : ((rd (rd_L10 t407 x13_1) 1) == (rd (rd_L10 t411 x20_2) 1)) = false := beq_eq_false_iff_ne.mpr c26
      have c26b1 : ((rd (rd_L10 t407 x13_1) 1) != (rd (rd_L10 t411 x20_2) 1)) = true := bne_iff_ne.mpr c26
      have H' := Aside0.mk H
      clear H
      have p414 : 0 ≤ (x20_2 : Int) := of_decide_eq_true as_
      have q414 : x20_2 < (t411.length : Int) := of_decide_eq_true as_
      obtain ⟨ad414, A414_0, c414_0, e414, hx414_0, hl414_0, hi414_0⟩ := at_L10 (Kd.N_reads' HO_18.out).2.2 x20_2 p414 q414
      cases e414
      obtain ⟨ce414, hce414, hMe414, hcc414⟩ := Kd.N_get HO_18.out [] x20_2 p414 (by first | exact q414 | exact of_decide_eq_true as_ | (have e_ := (Kd.N_reads' HO_18.out).1; omega))
      obtain ⟨ua414_0, uc414_0, rfl, ul414_0, ge414_0⟩ := Kd.FK_slice_open hMe414
      have hv414_0 := hcc414 0 _ rfl
      rw [Nat.add_zero, show ((Kd.slice 2 (Kd.int .i64))).sz = 1 from rfl, Nat.mul_one] at hv414_0
      replace hv414_0 := Option.some.inj (hv414_0.symm.trans hx414_0)
      injection hv414_0 with hva_ hvn_ hvc_
      rw [hva_] at ge414_0
      rw [hvc_] at ul414_0
      have HL414_0 := Aside0.mk (show Kd.V (Kd.int .i64) 2 _ w.heap.size _ _ (rd_L10 t411 x20_2) from Kd.V_mk ul414_0 ge414_0)
      clear hva_ hvn_ hvc_ ge414_0 ul414_0
      clear hcc414 hce414
      have HR414_0 := Aside0.mk hi414_0
      have HC414_0 := Aside0.mk hl414_0
      clear hi414_0 hl414_0
      replace p414 := eq_true p414
      replace q414 := eq_true q414
      have p415 : 0 ≤ (0 : Int) := (by omega)
      have q415 : 0 < ((rd_L10 t407 x13_1).length : Int) := of_decide_eq_true as_
      obtain ⟨ad415, e415, hx415_0⟩ := Kd.at_int HR410_0.out 0 p415 q415
      cases e415
      have qi415 : (0 < (rd_L10 t407 x13_1).length) = True := eq_true (by omega)
      (try rw [show ((0 : Int)).toNat = 0 from rfl] at hx415_0)
      (try rw [Addr.add_zero'] at hx415_0)
      try replace hx415_0 := (HB.out.cell (World.block_lt_of_cell? w _ hx415_0)).trans hx415_0
      replace p415 := eq_true p415
      replace q415 := eq_true q415
      have p416 : 0 ≤ (0 : Int) := (by omega)
      have q416 : 0 < ((rd_L10 t411 x20_2).length : Int) := of_decide_eq_true as_
      obtain ⟨ad416, e416, hx416_0⟩ := Kd.at_int (by repeat (first | (with_reducible exact HR414_0.out) | (with_reducible refine Kd.C_alloc ?_ _) | (with_reducible refine Kd.C_drewN ?_ _) | (with_reducible refine Kd.C_drew ?_) | exact HR414_0.out)) 0 p416 q416
      cases e416
      have qi416 : (0 < (rd_L10 t411 x20_2).length) = True := eq_true (by omega)
      (try rw [show ((0 : Int)).toNat = 0 from rfl] at hx416_0)
      (try rw [Addr.add_zero'] at hx416_0)
      replace p416 := eq_true p416
      replace q416 := eq_true q416
      have p417 : 0 ≤ (1 : Int) := (by omega)
      have q417 : 1 < ((rd_L10 t407 x13_1).length : Int) := of_decide_eq_true as_
      obtain ⟨ad417, e417, hx417_0⟩ := Kd.at_int HR410_0.out 1 p417 q417
      obtain rfl : ad415 = ad417 := (by injection e417)
      (try simp only [show (1 : Int).toNat = 1 from rfl, Nat.reduceMul, Nat.reduceEqDiff, Go.Addr.add, ↓reduceIte] at hx417_0)
      have qi417 : (1 < (rd_L10 t407 x13_1).length) = True := eq_true (by omega)
      (try rw [show ((1 : Int)).toNat = 1 from rfl] at hx417_0)
      try replace hx417_0 := (HB.out.cell (World.block_lt_of_cell? w _ hx417_0)).trans hx417_0
      replace p417 := eq_true p417
      replace q417 := eq_true q417
      have p418 : 0 ≤ (1 : Int) := (by omega)
      have q418 : 1 < ((rd_L10 t411 x20_2).length : Int) := of_decide_eq_true as_
      obtain ⟨ad418, e418, hx418_0⟩ := Kd.at_int (by repeat (first | (with_reducible exact HR414_0.out) | (with_reducible refine Kd.C_alloc ?_ _) | (with_reducible refine Kd.C_drewN ?_ _) | (with_reducible refine Kd.C_drew ?_) | exact HR414_0.out)) 1 p418 q418
      obtain rfl : ad416 = ad418 := (by injection e418)
      (try simp only [show (1 : Int).toNat = 1 from rfl, Nat.reduceMul, Nat.reduceEqDiff, Go.Addr.add, ↓reduceIte] at hx418_0)
      have qi418 : (1 < (rd_L10 t411 x20_2).length) = True := eq_true (by omega)
      (try rw [show ((1 : Int)).toNat = 1 from rfl] at hx418_0)
      replace p418 := eq_true p418
      replace q418 := eq_true q418
      go_wp2
      repeat (go_quiet (fail); try go_wp2)
      go_roundg k2
      case measure => have := HK1.out; have := HK2.out; omega
      case rel => exact ⟨(x5_2), (wrap64 (x20_2 + 1)), rs_, rs_, H', ⟨by have := HK1.out; have := HK2.out; omega⟩, ⟨kn_ HO_11.out⟩, ⟨kn_ HO_18.out⟩, ⟨bk_ BK405.out⟩, ⟨bk_ BK406.out⟩, ⟨by repeat (first | (with_reducible exact HR410_0.out) | (with_reducible refine Kd.C_alloc ?_ _) | (with_reducible refine Kd.C_drewN ?_ _) | (with_reducible refine Kd.C_drew ?_) | exact HR410_0.out)⟩, ⟨by repeat (first | (with_reducible first | exact HB.out | apply ba_ | apply bn_ | apply bd_ | refine below_set ?_ GE405.out | refine below_set ?_ GE406.out) | exact HB.out)⟩⟩
     rw [if_pos c26] at H
     have c26b0 : ((rd (rd_L10 t407 x13_1) 1) == (rd (rd_L10 t411 x20_2) 1)) = true := beq_iff_eq.mpr c26
     have c26b1 : ((rd (rd_L10 t407 x13_1) 1) != (rd (rd_L10 t411 x20_2) 1)) = false := bne_eq_false_iff_eq.mpr c26
     clear c26
     have H' := Aside0.mk H
     clear H
     have p414 : 0 ≤ (x20_2 : Int) := of_decide_eq_true as_
     have q414 : x20_2 < (t411.length : Int) := of_decide_eq_true as_
     obtain ⟨ad414, A414_0, c414_0, e414, hx414_0, hl414_0, hi414_0⟩ := at_L10 (Kd.N_reads' HO_18.out).2.2 x20_2 p414 q414
     cases e414
     obtain ⟨ce414, hce414, hMe414, hcc414⟩ := Kd.N_get HO_18.out [] x20_2 p414 (by first | exact q414 | exact of_decide_eq_true as_ | (have e_ := (Kd.N_reads' HO_18.out).1; omega))
     obtain ⟨ua414_0, uc414_0, rfl, ul414_0, ge414_0⟩ := Kd.FK_slice_open hMe414
     have hv414_0 := hcc414 0 _ rfl
     rw [Nat.add_zero, show ((Kd.slice 2 (Kd.int .i64))).sz = 1 from rfl, Nat.mul_one] at hv414_0
     replace hv414_0 := Option.some.inj (hv414_0.symm.trans hx414_0)
     injection hv414_0 with hva_ hvn_ hvc_
     rw [hva_] at ge414_0
     rw [hvc_] at ul414_0
     have HL414_0 := Aside0.mk (show Kd.V (Kd.int .i64) 2 _ w.heap.size _ _ (rd_L10 t411 x20_2) from Kd.V_mk ul414_0 ge414_0)
     clear hva_ hvn_ hvc_ ge414_0 ul414_0
     clear hcc414 hce414
     have HR414_0 := Aside0.mk hi414_0
     have HC414_0 := Aside0.mk hl414_0
     clear hi414_0 hl414_0
     replace p414 := eq_true p414
     replace q414 := eq_true q414
     have p415 : 0 ≤ (0 : Int) := (by omega)
     have q415 : 0 < ((rd_L10 t407 x13_1).length : Int) := of_decide_eq_true as_
     obtain ⟨ad415, e415, hx415_0⟩ := Kd.at_int HR410_0.out 0 p415 q415
     cases e415
     have qi415 : (0 < (rd_L10 t407 x13_1).length) = True := eq_true (by omega)
     (try rw [show ((0 : Int)).toNat = 0 from rfl] at hx415_0)
     (try rw [Addr.add_zero'] at hx415_0)
     try replace hx415_0 := (HB.out.cell (World.block_lt_of_cell? w _ hx415_0)).trans hx415_0
     replace p415 := eq_true p415
     replace q415 := eq_true q415
     have p416 : 0 ≤ (0 : Int) := (by omega)
     have q416 : 0 < ((rd_L10 t411 x20_2).length : Int) := of_decide_eq_true as_
     obtain ⟨ad416, e416, hx416_0⟩ := Kd.at_int (by repeat (first | (with_reducible exact HR414_0.out) | (with_reducible refine Kd.C_alloc ?_ _) | (with_reducible refine Kd.C_drewN ?_ _) | (with_reducible refine Kd.C_drew ?_) | exact HR414_0.out)) 0 p416 q416
     cases e416
     have qi416 : (0 < (rd_L10 t411 x20_2).length) = True := eq_true (by omega)
     (try rw [show ((0 : Int)).toNat = 0 from rfl] at hx416_0)
     (try rw [Addr.add_zero'] at hx416_0)
     replace p416 := eq_true p416
     replace q416 := eq_true q416
     have p417 : 0 ≤ (1 : Int) := (by omega)
     have q417 : 1 < ((rd_L10 t407 x13_1).length : Int) := of_decide_eq_true as_
     obtain ⟨ad417, e417, hx417_0⟩ := Kd.at_int HR410_0.out 1 p417 q417
     obtain rfl : ad415 = ad417 := (by injection e417)
     (try simp only [show (1 : Int).toNat = 1 from rfl, Nat.reduceMul, Nat.reduceEqDiff, Go.Addr.add, ↓reduceIte] at hx417_0)
     have qi417 : (1 < (rd_L10 t407 x13_1).length) = True := eq_true (by omega)
     (try rw [show ((1 : Int)).toNat = 1 from rfl] at hx417_0)
     try replace hx417_0 := (HB.out.cell (World.block_lt_of_cell? w _ hx417_0)).trans hx417_0
     replace p417 := eq_true p417
     replace q417 := eq_true q417
     have p418 : 0 ≤ (1 : Int) := (by omega)
     have q418 : 1 < ((rd_L10 t411 x20_2).length : Int) := of_decide_eq_true as_
     obtain ⟨ad418, e418, hx418_0⟩ := Kd.at_int (by repeat (first | (with_reducible exact HR414_0.out) | (with_reducible refine Kd.C_alloc ?_ _) | (with_reducible refine Kd.C_drewN ?_ _) | (with_reducible refine Kd.C_drew ?_) | exact HR414_0.out)) 1 p418 q418
     obtain rfl : ad416 = ad418 := (by injection e418)
     (try simp only [show (1 : Int).toNat = 1 from rfl, Nat.reduceMul, Nat.reduceEqDiff, Go.Addr.add, ↓reduceIte] at hx418_0)
     have qi418 : (1 < (rd_L10 t411 x20_2).length) = True := eq_true (by omega)
     (try rw [show ((1 : Int)).toNat = 1 from rfl] at hx418_0)
     replace p418 := eq_true p418
     replace q418 := eq_true q418
     go_wp2
     repeat (go_quiet (fail); try go_wp2)
     go_roundg k2
     case measure => have := HK1.out; have := HK2.out; omega
     case rel => exact ⟨(wrap64 (x5_2 + 1)), (wrap64 (x20_2 + 1)), rs_, rs_, H', ⟨by have := HK1.out; have := HK2.out; omega⟩, ⟨kn_ HO_11.out⟩, ⟨kn_ HO_18.out⟩, ⟨bk_ BK405.out⟩, ⟨bk_ BK406.out⟩, ⟨by repeat (first | (with_reducible exact HR410_0.out) | (with_reducible refine Kd.C_alloc ?_ _) | (with_reducible refine Kd.C_drewN ?_ _) | (with_reducible refine Kd.C_drew ?_) | exact HR410_0.out)⟩, ⟨by repeat (first | (with_reducible first | exact HB.out | apply ba_ | apply bn_ | apply bd_ | refine below_set ?_ GE405.out | refine below_set ?_ GE406.out) | exact HB.out)⟩⟩
end Go.Proofs.YtaeenefdbahfoaaDoor.H
namespace Go.Proofs.YtaeenefdbahfoaaDoor
set_option linter.unusedSimpArgs false
set_option linter.unusedVariables false
open Go.RowKit Go.Proofs.YtaeenefdbahfoaaDoorW.PrintWords Go.Proofs.YtaeenefdbahfoaaDoorW.PrintLast Go.Proofs.YtaeenefdbahfoaaDoorW.PrintMore
open H
open Go.RowKit
def eqc (p0 p1 q0 q1 : Int) : Int := if p0 = q0 ∧ p1 = q1 then 1 else 0
theorem eqc_bd (p0 p1 q0 q1 : Int) : 0 ≤ eqc p0 p1 q0 q1 ∧ eqc p0 p1 q0 q1 ≤ 1 := by unfold eqc; split <;> omega
theorem eqc_sh (a b x y u v u' v' : Int) : eqc (a + x) (b + y) (a + u + u') (b + v + v') = eqc x y (u + u') (v + v') := by
  unfold eqc
  by_cases h : x = u + u' ∧ y = v + v'
  · rw [if_pos h, if_pos (by omega)]
  · rw [if_neg h, if_neg (by omega)]
theorem com_at (k : Nat) (n p0 p1 q0 q1 : Int) (C : List (List Int)) (x12 i : Int) (X : List (List Int)) (j : Int) (u v t : Int) (hX : X.length = 3) (h0 : 0 ≤ j) (h1 : j < 3) (hq : rd_L10 X j = [q0, q1]) (hn : 0 ≤ n) (hn' : n ≤ 100) :
    honeycombref03_common.l1 (k + 1) n [p0, p1] C x12 i X 3 j u v t = honeycombref03_common.l1 k (n + eqc p0 p1 q0 q1) [p0, p1] C x12 i X 3 (j + 1) u v t := by
  simp only [honeycombref03_common.l1]
  rw [if_pos h1, if_pos h0, if_pos (by rw [hX]; exact h1), hq, w64i (j + 1) (by omega) (by omega), w64i (n + 1) (by omega) (by omega)]
  unfold eqc
  by_cases e0 : p0 = q0
  · by_cases e1 : p1 = q1
    · simp [rd, e0, e1]
    · simp [rd, e0, e1]
  · simp [rd, e0]
theorem com_row (k : Nat) (n p0 p1 : Int) (C : List (List Int)) (x12 i : Int) (q0 q1 r0 r1 s0 s1 : Int) (u v t : Int) (hn : 0 ≤ n) (hn' : n ≤ 50) (hi : 0 ≤ i) (hi' : i ≤ 50) :
    honeycombref03_common.l1 (k + 4) n [p0, p1] C x12 i [[q0, q1], [r0, r1], [s0, s1]] 3 0 u v t = honeycombref03_common.l0 k (n + eqc p0 p1 q0 q1 + eqc p0 p1 r0 r1 + eqc p0 p1 s0 s1) C x12 (i + 1) u v t := by
  have b0 := eqc_bd p0 p1 q0 q1
  have b1 := eqc_bd p0 p1 r0 r1
  rw [com_at (k + 3) n p0 p1 q0 q1 C x12 i _ 0 u v t rfl (by omega) (by omega) rfl hn (by omega), com_at (k + 2) _ p0 p1 r0 r1 C x12 i _ (0 + 1) u v t rfl (by omega) (by omega) rfl (by omega) (by omega),
    com_at (k + 1) _ p0 p1 s0 s1 C x12 i _ (0 + 1 + 1) u v t rfl (by omega) (by omega) rfl (by omega) (by omega)]
  simp only [honeycombref03_common.l1]
  rw [if_neg (by omega), w64i (i + 1) (by omega) (by omega)]
def cx (h : Int) (k : Nat) : Int := if h = 0 then (if k = 0 then 0 else if k = 1 then 1 else 0) else (if k = 0 then 1 else if k = 1 then 0 else 1)
def cy (h : Int) (k : Nat) : Int := if h = 0 then (if k = 0 then 0 else if k = 1 then 0 else 1) else (if k = 0 then 0 else if k = 1 then 1 else 1)
theorem corners_f (a b h : Int) (ha : -5000000000000 ≤ a) (ha' : a ≤ 5000000000000) (hb : -5000000000000 ≤ b) (hb' : b ≤ 5000000000000) :
    honeycombref03_Corners.f a b h = some [[a + cx h 0, b + cy h 0], [a + cx h 1, b + cy h 1], [a + cx h 2, b + cy h 2]] := by
  unfold honeycombref03_Corners.f
  rw [w64i (a + 1) (by omega) (by omega), w64i (b + 1) (by omega) (by omega)]
  by_cases h0 : h = 0
  · rw [if_pos h0]
    simp [cx, cy, h0]
  · rw [if_neg h0]
    simp [cx, cy, h0]
/-- how many corners two triangles have in common: by how much one lies further -/
def comD (h dx dy h' : Int) : Int :=
  eqc (cx h 0) (cy h 0) (dx + cx h' 0) (dy + cy h' 0) + eqc (cx h 0) (cy h 0) (dx + cx h' 1) (dy + cy h' 1) + eqc (cx h 0) (cy h 0) (dx + cx h' 2) (dy + cy h' 2) +
  eqc (cx h 1) (cy h 1) (dx + cx h' 0) (dy + cy h' 0) + eqc (cx h 1) (cy h 1) (dx + cx h' 1) (dy + cy h' 1) + eqc (cx h 1) (cy h 1) (dx + cx h' 2) (dy + cy h' 2) +
  eqc (cx h 2) (cy h 2) (dx + cx h' 0) (dy + cy h' 0) + eqc (cx h 2) (cy h 2) (dx + cx h' 1) (dy + cy h' 1) + eqc (cx h 2) (cy h 2) (dx + cx h' 2) (dy + cy h' 2)
theorem com_l0 (k : Nat) (n : Int) (P0 P1 Q0 Q1 R0 R1 : Int) (i p0 p1 : Int) (a b h : Int) (hi : i = 0 ∨ i = 1 ∨ i = 2) (hp : rd_L10 [[P0, P1], [Q0, Q1], [R0, R1]] i = [p0, p1]) (hn : 0 ≤ n) (hn' : n ≤ 50)
    (ha : -5000000000000 ≤ a) (ha' : a ≤ 5000000000000) (hb : -5000000000000 ≤ b) (hb' : b ≤ 5000000000000) :
    honeycombref03_common.l0 (k + 5) n [[P0, P1], [Q0, Q1], [R0, R1]] 3 i a b h = honeycombref03_common.l0 k (n + eqc p0 p1 (a + cx h 0) (b + cy h 0) + eqc p0 p1 (a + cx h 1) (b + cy h 1) + eqc p0 p1 (a + cx h 2) (b + cy h 2)) [[P0, P1], [Q0, Q1], [R0, R1]] 3 (i + 1) a b h := by
  rw [show k + 5 = (k + 4) + 1 from rfl]
  simp only [honeycombref03_common.l0]
  rw [if_pos (by omega), if_pos (by omega), if_pos (by simp; omega), corners_f a b h ha ha' hb hb', hp]
  simp only [Option.bind_some]
  exact com_row k n p0 p1 _ 3 i _ _ _ _ _ _ a b h hn hn' (by omega) (by omega)
theorem common_f (k : Nat) (a b h dx dy h' : Int) (ha : -4000000000000 ≤ a) (ha' : a ≤ 4000000000000) (hb : -4000000000000 ≤ b) (hb' : b ≤ 4000000000000) (hdx : -100 ≤ dx) (hdx' : dx ≤ 100) (hdy : -100 ≤ dy) (hdy' : dy ≤ 100) :
    honeycombref03_common.f (k + 16) a b h (a + dx) (b + dy) h' = some (comD h dx dy h') := by
  unfold honeycombref03_common.f
  rw [corners_f a b h (by omega) (by omega) (by omega) (by omega)]
  simp only [Option.bind_some, List.length_cons, List.length_nil]
  have e00 := eqc_bd (a + cx h 0) (b + cy h 0) (a + dx + cx h' 0) (b + dy + cy h' 0)
  have e01 := eqc_bd (a + cx h 0) (b + cy h 0) (a + dx + cx h' 1) (b + dy + cy h' 1)
  have e02 := eqc_bd (a + cx h 0) (b + cy h 0) (a + dx + cx h' 2) (b + dy + cy h' 2)
  have e10 := eqc_bd (a + cx h 1) (b + cy h 1) (a + dx + cx h' 0) (b + dy + cy h' 0)
  have e11 := eqc_bd (a + cx h 1) (b + cy h 1) (a + dx + cx h' 1) (b + dy + cy h' 1)
  have e12 := eqc_bd (a + cx h 1) (b + cy h 1) (a + dx + cx h' 2) (b + dy + cy h' 2)
  rw [show (((0 + 1 + 1 + 1 : Nat) : Int)) = 3 from rfl]
  rw [com_l0 (k + 11) 0 _ _ _ _ _ _ 0 _ _ (a + dx) (b + dy) h' (.inl rfl) rfl (by omega) (by omega) (by omega) (by omega) (by omega) (by omega),
    com_l0 (k + 6) _ _ _ _ _ _ _ (0 + 1) _ _ (a + dx) (b + dy) h' (.inr (.inl rfl)) rfl (by omega) (by omega) (by omega) (by omega) (by omega) (by omega),
    com_l0 (k + 1) _ _ _ _ _ _ _ (0 + 1 + 1) _ _ (a + dx) (b + dy) h' (.inr (.inr rfl)) rfl (by omega) (by omega) (by omega) (by omega) (by omega) (by omega)]
  simp only [honeycombref03_common.l0]
  rw [if_neg (by omega)]
  simp only [eqc_sh, comD, Int.zero_add]
/-- are two cells beside each other: by how much one lies further -/
def nearD (l h dx dy h' : Int) : Bool := if dx = 0 ∧ dy = 0 ∧ h = h' then false else if l = 1 then decide (-1 ≤ dx ∧ dx ≤ 1 ∧ -1 ≤ dy ∧ dy ≤ 1 ∧ dx ≠ dy) else if l = 2 then comD h dx dy h' == 2 else decide (comD h dx dy h' > 0)
end Go.Proofs.YtaeenefdbahfoaaDoor
namespace Go.Proofs.YtaeenefdbahfoaaDoor
open Go.RowKit Go.Proofs.YtaeenefdbahfoaaDoorW.PrintWords Go.Proofs.YtaeenefdbahfoaaDoorW.PrintLast Go.Proofs.YtaeenefdbahfoaaDoorW.PrintMore
open H
open Go.RowKit
set_option linter.unusedSimpArgs false
def XRNear.f (k : Nat) (l a b h a' b' h' : Int) : Option Bool :=
  if a = a' ∧ b = b' ∧ h = h' then some false
  else if l = 1 then some (decide (-1 ≤ wrap64 (a' - a) ∧ wrap64 (a' - a) ≤ 1 ∧ -1 ≤ wrap64 (b' - b) ∧ wrap64 (b' - b) ≤ 1 ∧ wrap64 (a' - a) ≠ wrap64 (b' - b)))
  else (honeycombref03_common.f k a b h a' b' h').bind fun n => some (if l = 2 then n == 2 else decide (n > 0))
attribute [local go_sem high] eqA60
set_option maxRecDepth 100000 in
set_option maxHeartbeats 4000000 in
theorem XRNear.calls (k : Nat) (a0 : Int) (a1_0 : Int) (a1_1 : Int) (a1_2 : Int) (a2_0 : Int) (a2_1 : Int) (a2_2 : Int) (r : Bool) (w : World) (hr : XRNear.f k a0 a1_0 a1_1 a1_2 a2_0 a2_1 a2_2 = some r) :
    Calls Tryd.prog 66 #[.int .i64 a0, .agg #[.int .i64 a1_0, .int .i64 a1_1, .int .i64 a1_2], .agg #[.int .i64 a2_0, .int .i64 a2_1, .int .i64 a2_2]] w fun e w' => e = .returned (.bool r) ∧ Below w.heap.size w w' := by
  go_enter Tryd.func66, Tryd.ntmps66
  go_upto_region 1 with (fail)
  obtain ⟨w1, hw1⟩ : ∃ W, W = (w.alloc (.cells #[.int .i64 a1_0, .int .i64 a1_1, .int .i64 a1_2] 60 (0, 0))).alloc (.cells #[.int .i64 a2_0, .int .i64 a2_1, .int .i64 a2_2] 60 (0, 0)) := ⟨_, rfl⟩
  have t1 : w1.heap[w.heap.size]? = some (.cells #[.int .i64 a1_0, .int .i64 a1_1, .int .i64 a1_2] 60 (0, 0)) := by rw [hw1]; exact blk_alloc (blk_new _ _) _
  have t2 : w1.heap[w.heap.size + 1]? = some (.cells #[.int .i64 a2_0, .int .i64 a2_1, .int .i64 a2_2] 60 (0, 0)) := by
    have := blk_new (w.alloc (.cells #[.int .i64 a1_0, .int .i64 a1_1, .int .i64 a1_2] 60 (0, 0))) (.cells #[.int .i64 a2_0, .int .i64 a2_1, .int .i64 a2_2] 60 (0, 0))
    rw [World.size_alloc] at this
    rw [hw1]
    exact this
  have hB1 : Below w.heap.size w w1 := by rw [hw1]; exact below_alloc2 (below_alloc (Below.refl _ _) _) (by simp) _
  rw [← hw1]
  clear hw1
  have HB := Aside0.mk hB1
  have p0 := blk_cell t1 0
  have p1 := blk_cell t1 1
  have p2 := blk_cell t1 2
  have q0 := blk_cell t2 0
  have q1 := blk_cell t2 1
  have q2 := blk_cell t2 2
  simp only [List.getElem?_toArray, List.getElem?_cons_zero, List.getElem?_cons_succ] at p0 p1 p2 q0 q1 q2
  clear t1 t2 hB1
  unfold XRNear.f at hr
  by_cases h0 : a1_0 = a2_0 ∧ a1_1 = a2_1 ∧ a1_2 = a2_2
  · rw [if_pos h0] at hr
    obtain rfl := Option.some.inj hr
    have hee : (a1_0 == a2_0 && (a1_1 == a2_1 && (a1_2 == a2_2))) = true := by simp [h0]
    clear h0 hr
    go_wp2
    go_ret
    exact ⟨rfl, HB.out⟩
  · rw [if_neg h0] at hr
    have hne : (a1_0 == a2_0 && (a1_1 == a2_1 && (a1_2 == a2_2))) = false := by
      rw [Bool.eq_false_iff]
      intro he
      simp only [Bool.and_eq_true, beq_iff_eq] at he
      exact h0 ⟨he.1, he.2.1, he.2.2⟩
    have HR := Aside0.mk hr
    clear h0 hr
    by_cases h1 : a0 = 1
    · subst h1
      have hrv : r = decide (-1 ≤ wrap64 (a2_0 - a1_0) ∧ wrap64 (a2_0 - a1_0) ≤ 1 ∧ -1 ≤ wrap64 (a2_1 - a1_1) ∧ wrap64 (a2_1 - a1_1) ≤ 1 ∧ wrap64 (a2_0 - a1_0) ≠ wrap64 (a2_1 - a1_1)) := by
        have := HR.out
        rw [if_pos rfl] at this
        exact (Option.some.inj this).symm
      have HRV := Aside0.mk hrv
      clear HR hrv
      go_upto_region 5 with (fail)
      go_region
      all_goals
        clear p0 p1 p2 q0 q1 q2 hne
        go_wp2
      all_goals
        go_ret
        refine ⟨?_, below_drew HB.out⟩
        rw [HRV.out]
        show Ending.returned (Value.bool _) = Ending.returned (Value.bool _)
        congr 2
        first
          | (rw [eq_comm, decide_eq_false_iff_not]; omega)
          | (rw [Bool.eq_iff_iff]; simp only [bne_iff_ne, decide_eq_true_eq]; omega)
    · have hl1 : (a0 == 1) = false := by simpa using h1
      obtain ⟨n, hn, hrv⟩ : ∃ n, honeycombref03_common.f k a1_0 a1_1 a1_2 a2_0 a2_1 a2_2 = some n ∧ r = if a0 = 2 then n == 2 else decide (n > 0) := by
        have := HR.out
        rw [if_neg h1] at this
        obtain ⟨n, hn, hx⟩ := Option.bind_eq_some_iff.mp this
        exact ⟨n, hn, (Option.some.inj hx).symm⟩
      have HN := Aside0.mk hn
      have HRV := Aside0.mk hrv
      clear HR hn hrv
      by_cases h2 : a0 = 2
      · subst h2
        go_wp2_with fail
        refine (honeycombref03_common.calls k _ _ _ _ _ _ n _ HN.out).mono ?_
        rintro e w2 ⟨rfl, hb⟩
        have HB2 := Aside0.mk (HB.out.trans (hb.mono HB.out.size))
        clear p0 p1 p2 q0 q1 q2 hb hne
        go_wp2
        go_ret
        exact ⟨by rw [HRV.out]; simp only [↓reduceIte]; rfl, HB2.out⟩
      · have hl2 : (a0 == 2) = false := by simpa using h2
        go_wp2_with fail
        refine (honeycombref03_common.calls k _ _ _ _ _ _ n _ HN.out).mono ?_
        rintro e w2 ⟨rfl, hb⟩
        have HB2 := Aside0.mk (HB.out.trans (hb.mono HB.out.size))
        clear p0 p1 p2 q0 q1 q2 hb hne
        go_wp2
        go_ret
        exact ⟨by rw [HRV.out, if_neg h2]; rfl, HB2.out⟩
end Go.Proofs.YtaeenefdbahfoaaDoor
