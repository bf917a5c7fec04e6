/- IsoCommutes is true for every input, with what its row says of the package variables that it reads. Merged out of our texts: Hhoneycomblaw07IsoCommutes, PCommutes, RowIsoCommutes. -/
import Derived.Test.YtaeenefdbahfoaaDoorKIsoCommutes1
import Derived.Test.YtaeenefdbahfoaaDoorKIsoCommutes3
import Derived.Test.YtaeenefdbahfoaaDoorKIsoCommutes4
import Derived.Test.YtaeenefdbahfoaaDoorKIsoCommutes6
import Derived.Test.YtaeenefdbahfoaaDoorKIsoCommutes11
import Derived.Test.YtaeenefdbahfoaaDoorKIsoCommutes5
import Derived.ChangeOld
import Derived.SizedLaws
import Derived.Test.YtaeenefdbahfoaaDoorCards
namespace Go.Proofs.YtaeenefdbahfoaaDoor.H
open Go.RowKit Go.Proofs.YtaeenefdbahfoaaDoorW.PrintWords Go.Proofs.YtaeenefdbahfoaaDoorW.PrintLast Go.Proofs.YtaeenefdbahfoaaDoorW.PrintMore
attribute [local go_sem] max2_int min2_int max_two min_two max_three min_three max_four min_four
set_option linter.unusedVariables false
set_option linter.unusedSimpArgs false
def honeycomblaw07_IsoCommutes.j0 : Nat → List (S60) → Int → Int → Int → Int → Int → Int → Option (Bool)
 | 0, _, _, _, _, _, _, _ => none
 | k + 1, x2, x3, x753000, x753001, x753002, x753003, x753004 => if 0 ≤ (mn (x2.length : Int) 16) then (if (mn (x2.length : Int) 16) ≤ (x2.length : Int) then ((honeycomblaw04_Some.f k x753000 (x2.take ((mn (x2.length : Int) 16) : Int).toNat)).bind fun t762 => ((iso_Keeps.f k x753000 x753001 x753002 x753003 x753004 (Int.tmod (Go.bits .and .i64 x3 255) 12)).bind fun t765 => (if t765 = true then ((XTold5.f x753000 x753001 x753002 x753003 x753004).bind fun bt766 => ((honeycomblaw04_Told.f k t762).bind fun t773 => ((honeycomblaw07_commutes.f k bt766.1 bt766.2.1 bt766.2.2 (Int.tmod (Go.bits .and .i64 x3 255) 12) t773).bind fun t776 => (some t776)))) else (some true)))) else (none)) else (none)
def honeycomblaw07_IsoCommutes.f (k : Nat) (a0_0 : Int) (a0_1 : Int) (a0_2 : Int) (a0_3 : Int) (a0_4 : Int) (a1 : Bool) (l2 : List (S60)) (a3 : Int) : Option (Bool) := (XAwake07.f).bind fun t746 => (if t746 = true then ((XSome5.f a0_0 a0_1 a0_2 a0_3 a0_4).bind fun bt747 => (if a1 = true then ((honeycomblaw07_whole.f k bt747.1 bt747.2.1 bt747.2.2.1 bt747.2.2.2.1 bt747.2.2.2.2).bind fun bt753 => (honeycomblaw07_IsoCommutes.j0 k l2 a3 bt753.1 bt753.2.1 bt753.2.2.1 bt753.2.2.2.1 bt753.2.2.2.2)) else (honeycomblaw07_IsoCommutes.j0 k l2 a3 bt747.1 bt747.2.1 bt747.2.2.1 bt747.2.2.2.1 bt747.2.2.2.2))) else (some false))
def honeycomblaw07_IsoCommutes.T7 : Bool × List (List Nat × List Nat) := (true, [([], []), ([0], [0]), ([], []), ([], []), ([3], [3]), ([4], [4]), ([2, 5], [2, 5]), ([1, 6], [1, 6]), ([7, 7, 0, 1, 2, 3, 4, 5, 6, 7], [7])])
def honeycomblaw07_IsoCommutes.B7 : List Nat := [0, 1, 0, 0, 8, 24, 60, 127, 255]
theorem honeycomblaw07_IsoCommutes.tab7 : rtab .any (opsOf Tryd.f8 7) = honeycomblaw07_IsoCommutes.T7 := by kernel_rfl
theorem honeycomblaw07_IsoCommutes.bits7 : waitsOk honeycomblaw07_IsoCommutes.T7.2 honeycomblaw07_IsoCommutes.B7 = true := by kernel_rfl
set_option maxHeartbeats 8000000 in
set_option maxRecDepth 100000 in
theorem honeycomblaw07_IsoCommutes.calls (k : Nat) (a0_0 : Int) (a0_1 : Int) (a0_2 : Int) (a0_3 : Int) (a0_4 : Int) (a1 : Bool) (A2 : Option Addr) (c2 : Nat) (l2 : List (S60)) (a3 : Int) (r : Bool) (w : World) (hGSix : Six w) (hr2 : Kd.C k60 w A2 l2.length l2) (hc2 : l2.length ≤ c2) (h : honeycomblaw07_IsoCommutes.f k a0_0 a0_1 a0_2 a0_3 a0_4 a1 l2 a3 = some r) (hr_ : r = true) :
  Calls Tryd.prog 8 #[.agg #[.int .i64 a0_0, .int .u64 a0_1, .int .u64 a0_2, .int .u64 a0_3, .int .u64 a0_4], .bool a1, .slice A2 l2.length c2, .int .i64 a3] w fun e w' => e = .returned (.bool r) ∧ Below w.heap.size w w' := by
 have Hr_ := Aside0.mk hr_
 clear hr_
 have hu25 := Tryd.underlying25
 have hu29 := Tryd.underlying29
 have HR2 := Aside0.mk hr2
 have HC2 := Aside0.mk hc2
 clear hr2 hc2
 have HB := Aside0.mk (Below.refl w.heap.size w)
 have HGSix := Aside0.mk hGSix
 clear hGSix
 have H : ((XAwake07.f).bind fun t746 => (if t746 = true then ((XSome5.f a0_0 a0_1 a0_2 a0_3 a0_4).bind fun bt747 => (if a1 = true then ((honeycomblaw07_whole.f k bt747.1 bt747.2.1 bt747.2.2.1 bt747.2.2.2.1 bt747.2.2.2.2).bind fun bt753 => (honeycomblaw07_IsoCommutes.j0 k l2 a3 bt753.1 bt753.2.1 bt753.2.2.1 bt753.2.2.2.1 bt753.2.2.2.2)) else (honeycomblaw07_IsoCommutes.j0 k l2 a3 bt747.1 bt747.2.1 bt747.2.2.1 bt747.2.2.2.1 bt747.2.2.2.2))) else (some false))) = some r := h
 clear h
 replace H := Option.bind_eq_some_iff.mp H
 obtain ⟨t746, A50, H⟩ := H
 replace H : (if t746 = true then ((XSome5.f a0_0 a0_1 a0_2 a0_3 a0_4).bind fun bt747 => (if a1 = true then ((honeycomblaw07_whole.f k bt747.1 bt747.2.1 bt747.2.2.1 bt747.2.2.2.1 bt747.2.2.2.2).bind fun bt753 => (honeycomblaw07_IsoCommutes.j0 k l2 a3 bt753.1 bt753.2.1 bt753.2.2.1 bt753.2.2.2.1 bt753.2.2.2.2)) else (honeycomblaw07_IsoCommutes.j0 k l2 a3 bt747.1 bt747.2.1 bt747.2.2.1 bt747.2.2.2.1 bt747.2.2.2.2))) else (some false)) = some r := H
 have A5 := Aside0.mk A50
 clear A50
 by_cases c6 : t746 = true
 rotate_left
 ·
  replace c6 := Bool.eq_false_iff.mpr c6
  subst c6
  have H1 : (some false) = some r := by rw [if_neg (show ¬ (false = true) by decide)] at H; exact H
  clear H
  have H := H1
  clear H1
  exact absurd ((Option.some.inj H).trans Hr_.out) (by decide)
 subst c6
 have H1 : ((XSome5.f a0_0 a0_1 a0_2 a0_3 a0_4).bind fun bt747 => (if a1 = true then ((honeycomblaw07_whole.f k bt747.1 bt747.2.1 bt747.2.2.1 bt747.2.2.2.1 bt747.2.2.2.2).bind fun bt753 => (honeycomblaw07_IsoCommutes.j0 k l2 a3 bt753.1 bt753.2.1 bt753.2.2.1 bt753.2.2.2.1 bt753.2.2.2.2)) else (honeycomblaw07_IsoCommutes.j0 k l2 a3 bt747.1 bt747.2.1 bt747.2.2.1 bt747.2.2.2.1 bt747.2.2.2.2))) = some r := by rw [if_pos rfl] at H; exact H
 clear H
 have H := H1
 clear H1
 replace H := Option.bind_eq_some_iff.mp H
 obtain ⟨⟨t747, t748, t749, t750, t751⟩, A70, H⟩ := H
 replace H : (if a1 = true then ((honeycomblaw07_whole.f k t747 t748 t749 t750 t751).bind fun bt753 => (honeycomblaw07_IsoCommutes.j0 k l2 a3 bt753.1 bt753.2.1 bt753.2.2.1 bt753.2.2.2.1 bt753.2.2.2.2)) else (honeycomblaw07_IsoCommutes.j0 k l2 a3 t747 t748 t749 t750 t751)) = some r := H
 have A7 := Aside0.mk A70
 clear A70
 have HC8 := Aside0.mk H
 clear H
 go_enter Tryd.func8, Tryd.ntmps8
 go_upto_if 15 with (first | ((with_reducible refine gate_dst (N := 4) rfl ?_); refine box_event ?hg (N := 4) ?hd (cs := #[.int .i64 a0_0, .int .u64 a0_1, .int .u64 a0_2, .int .u64 a0_3, .int .u64 a0_4]) (t := 25) ?hr ?_; (case hd => rfl); (case hg => rfl); (case hr => first | (go_simp; done) | (go_simp; rfl)); intro gb745 hg w9 hbox hb; have n0_ := Aside0.mk (below_step hb_ hb); have n1_ := Aside0.mk (hbox); have n2_ := Aside0.mk ((by rw [hg]; exact (below_size hb_) : w.heap.size ≤ gb745)); have n3_ := Aside0.mk ((by rw [hg]; exact (below_size hb_) : w.heap.size ≤ gb745)); clear HB; have HB := n0_; have BK745 := n1_; have GW745 := n2_; have GE745 := n3_; clear n0_ n1_ n2_ n3_; clear hb hbox hg) | ((with_reducible refine gate_callee (f := 13) rfl ?_); refine goesL_ (some 11) rfl rfl Tryd.func13 (by kernel_rfl) rfl #[] rfl ar_ ?_; (with_reducible refine (XAwake07.calls  true _ ?side1 A5.out).mono ?_); (case side1 => exact HGSix.out.below (hg_ GE745.out)); rintro e w10 ⟨rfl, hb⟩; refine ⟨_, rfl, ?_⟩; have n0_ := Aside0.mk (blk_below (g := gb745) (o := .cells #[.int .i64 a0_0, .int .u64 a0_1, .int .u64 a0_2, .int .u64 a0_3, .int .u64 a0_4] 25 (0, 0)) (bk_ BK745.out) hb); have n1_ := Aside0.mk (below_step (hg_ GE745.out) hb); clear BK745; clear HB; have BK745 := n0_; have HB := n1_; clear n0_ n1_; (try clear hb); (try clear hb2); (try clear hk); (try clear hi); have hcz11_0 : w10.cell? ⟨gb745, 0, none⟩ = some (.int .i64 a0_0) := (blk_cell BK745.out 0).trans rfl; have hcz11_1 : w10.cell? ⟨gb745, 1, none⟩ = some (.int .u64 a0_1) := (blk_cell BK745.out 1).trans rfl; have hcz11_2 : w10.cell? ⟨gb745, 2, none⟩ = some (.int .u64 a0_2) := (blk_cell BK745.out 2).trans rfl; have hcz11_3 : w10.cell? ⟨gb745, 3, none⟩ = some (.int .u64 a0_3) := (blk_cell BK745.out 3).trans rfl; have hcz11_4 : w10.cell? ⟨gb745, 4, none⟩ = some (.int .u64 a0_4) := (blk_cell BK745.out 4).trans rfl; have hfz11_0 := blk_frozen BK745.out 0; have hfz11_1 := blk_frozen BK745.out 1; have hfz11_2 := blk_frozen BK745.out 2; have hfz11_3 := blk_frozen BK745.out 3; have hfz11_4 := blk_frozen BK745.out 4) | ((with_reducible refine gate_callee (f := 14) rfl ?_); refine goesL_ (some 14) rfl rfl Tryd.func14 (by kernel_rfl) rfl #[.agg #[.int .i64 a0_0, .int .u64 a0_1, .int .u64 a0_2, .int .u64 a0_3, .int .u64 a0_4]] rfl ar_ ?_; (with_reducible refine (XSome5.calls a0_0 a0_1 a0_2 a0_3 a0_4 t747 t748 t749 t750 t751 _ A7.out).mono ?_); rintro e w12 ⟨rfl, hb⟩; refine ⟨_, rfl, ?_⟩; have n0_ := Aside0.mk (blk_below (g := gb745) (o := .cells #[.int .i64 a0_0, .int .u64 a0_1, .int .u64 a0_2, .int .u64 a0_3, .int .u64 a0_4] 25 (0, 0)) (bk_ BK745.out) hb); have n1_ := Aside0.mk (below_step (hg_ GE745.out) hb); clear BK745; clear HB; have BK745 := n0_; have HB := n1_; clear n0_ n1_; (try clear hb); (try clear hb2); (try clear hk); (try clear hi)) | ((with_reducible refine gate_dst (N := 9) rfl ?_); refine box_event ?hg (N := 9) ?hd (cs := #[.int .i64 0, .int .u64 0, .int .u64 0, .int .u64 0, .int .u64 0]) (t := 29) ?hr ?_; (case hd => rfl); (case hg => rfl); (case hr => first | (go_simp; done) | (go_simp; rfl)); intro gb752 hg w13 hbox hb; have n0_ := Aside0.mk (blk_below (g := gb745) (o := .cells #[.int .i64 a0_0, .int .u64 a0_1, .int .u64 a0_2, .int .u64 a0_3, .int .u64 a0_4] 25 (0, 0)) (bk_ BK745.out) hb); have n1_ := Aside0.mk (below_step (hg_ GE745.out) hb); have n2_ := Aside0.mk (hbox); have n3_ := Aside0.mk ((by rw [hg]; exact (below_size (hg_ GE745.out)) : w.heap.size ≤ gb752)); have n4_ := Aside0.mk ((by rw [hg]; exact (below_size (hg_ GE745.out)) : w.heap.size ≤ gb752)); have n5_ := Aside0.mk ((by rw [hg]; exact Nat.ne_of_lt (blk_lt (g := gb745) (o := .cells #[.int .i64 a0_0, .int .u64 a0_1, .int .u64 a0_2, .int .u64 a0_3, .int .u64 a0_4] 25 (0, 0)) (bk_ BK745.out)) : gb745 ≠ gb752)); have n6_ := Aside0.mk ((by rw [hg]; exact Nat.ne_of_gt (blk_lt (g := gb745) (o := .cells #[.int .i64 a0_0, .int .u64 a0_1, .int .u64 a0_2, .int .u64 a0_3, .int .u64 a0_4] 25 (0, 0)) (bk_ BK745.out)) : gb752 ≠ gb745)); clear BK745; clear HB; have BK745 := n0_; have HB := n1_; have BK752 := n2_; have GW752 := n3_; have GE752 := n4_; have NB745_752 := n5_; have NB752_745 := n6_; clear n0_ n1_ n2_ n3_ n4_ n5_ n6_; clear hb hbox hg; have hnb14 := NB752_745.out; have hnc14 := NB745_752.out; have hcz15_0 : w13.cell? ⟨gb752, 0, none⟩ = some (.int .i64 0) := (blk_cell BK752.out 0).trans rfl; have hcz15_1 : w13.cell? ⟨gb752, 1, none⟩ = some (.int .u64 0) := (blk_cell BK752.out 1).trans rfl; have hcz15_2 : w13.cell? ⟨gb752, 2, none⟩ = some (.int .u64 0) := (blk_cell BK752.out 2).trans rfl; have hcz15_3 : w13.cell? ⟨gb752, 3, none⟩ = some (.int .u64 0) := (blk_cell BK752.out 3).trans rfl; have hcz15_4 : w13.cell? ⟨gb752, 4, none⟩ = some (.int .u64 0) := (blk_cell BK752.out 4).trans rfl; have hfz15_0 := blk_frozen BK752.out 0; have hfz15_1 := blk_frozen BK752.out 1; have hfz15_2 := blk_frozen BK752.out 2; have hfz15_3 := blk_frozen BK752.out 3; have hfz15_4 := blk_frozen BK752.out 4))
 (try simp only [Act.put, List.setIfInBounds_toArray, List.set_cons_zero, List.set_cons_succ])
 go_cut [] (fun wc => ∃ (kq : Nat) (x753000_7 : Int) (x753001_7 : Int) (x753002_7 : Int) (x753003_7 : Int) (x753004_7 : Int), Aside0 (honeycomblaw07_IsoCommutes.j0 kq l2 a3 x753000_7 x753001_7 x753002_7 x753003_7 x753004_7 = some r) ∧ Aside0 (kq ≤ k) ∧ Aside0 (wc.heap[gb745]? = some (.cells #[.int .i64 a0_0, .int .u64 a0_1, .int .u64 a0_2, .int .u64 a0_3, .int .u64 a0_4] 25 (0, 0))) ∧ Aside0 (wc.heap[gb752]? = some (.cells #[.int .i64 x753000_7, .int .u64 x753001_7, .int .u64 x753002_7, .int .u64 x753003_7, .int .u64 x753004_7] 29 (0, 0))) ∧ Aside0 (Below w.heap.size w wc))
 case first =>
  have H := HC8.out
  clear HC8
  by_cases c16 : a1 = true
  rotate_left
  ·
   replace c16 := Bool.eq_false_iff.mpr c16
   subst c16
   have H1 : (honeycomblaw07_IsoCommutes.j0 k l2 a3 t747 t748 t749 t750 t751) = some r := by rw [if_neg (show ¬ (false = true) by decide)] at H; exact H
   clear H
   have H := H1
   clear H1
   have H' := Aside0.mk H
   clear H
   go_wp2
   go_meet
   case rel => exact ⟨_, (t747), (t748), (t749), (t750), (t751), H', ⟨by first | omega | exact Nat.le_refl _⟩, ⟨by (with_reducible repeat (first | apply bN_ | apply bD_ | apply bA_)); refine blk_far ?_ NB745_752.out _; (with_reducible repeat (first | apply bN_ | apply bD_ | apply bA_)); refine blk_far ?_ NB745_752.out _; (with_reducible repeat (first | apply bN_ | apply bD_ | apply bA_)); refine blk_far ?_ NB745_752.out _; (with_reducible repeat (first | apply bN_ | apply bD_ | apply bA_)); refine blk_far ?_ NB745_752.out _; (with_reducible repeat (first | apply bN_ | apply bD_ | apply bA_)); refine blk_far ?_ NB745_752.out _; (with_reducible repeat (first | apply bN_ | apply bD_ | apply bA_)); exact BK745.out⟩, ⟨by (with_reducible repeat (first | apply bN_ | apply bD_ | apply bA_)); refine blk_put (cs := #[.int .i64 t747, .int .u64 t748, .int .u64 t749, .int .u64 t750, .int .u64 0]) ?_ 4 _ rfl; (with_reducible repeat (first | apply bN_ | apply bD_ | apply bA_)); refine blk_put (cs := #[.int .i64 t747, .int .u64 t748, .int .u64 t749, .int .u64 0, .int .u64 0]) ?_ 3 _ rfl; (with_reducible repeat (first | apply bN_ | apply bD_ | apply bA_)); refine blk_put (cs := #[.int .i64 t747, .int .u64 t748, .int .u64 0, .int .u64 0, .int .u64 0]) ?_ 2 _ rfl; (with_reducible repeat (first | apply bN_ | apply bD_ | apply bA_)); refine blk_put (cs := #[.int .i64 t747, .int .u64 0, .int .u64 0, .int .u64 0, .int .u64 0]) ?_ 1 _ rfl; (with_reducible repeat (first | apply bN_ | apply bD_ | apply bA_)); refine blk_put (cs := #[.int .i64 0, .int .u64 0, .int .u64 0, .int .u64 0, .int .u64 0]) ?_ 0 _ rfl; (with_reducible repeat (first | apply bN_ | apply bD_ | apply bA_)); exact BK752.out⟩, ⟨by repeat (first | (with_reducible first | exact HB.out | apply ba_ | apply bn_ | apply bd_ | refine below_set ?_ GE745.out | refine below_set ?_ GE752.out) | exact HB.out)⟩⟩
  subst c16
  have H1 : ((honeycomblaw07_whole.f k t747 t748 t749 t750 t751).bind fun bt753 => (honeycomblaw07_IsoCommutes.j0 k l2 a3 bt753.1 bt753.2.1 bt753.2.2.1 bt753.2.2.2.1 bt753.2.2.2.2)) = some r := by rw [if_pos rfl] at H; exact H
  clear H
  have H := H1
  clear H1
  replace H := Option.bind_eq_some_iff.mp H
  obtain ⟨⟨t753, t754, t755, t756, t757⟩, A170, H⟩ := H
  replace H : (honeycomblaw07_IsoCommutes.j0 k l2 a3 t753 t754 t755 t756 t757) = some r := H
  have A17 := Aside0.mk A170
  clear A170
  have H' := Aside0.mk H
  clear H
  have hnb18 := NB752_745.out
  have hnc18 := NB745_752.out
  have hcz19_0 : w13.cell? ⟨gb752, 0, none⟩ = some (.int .i64 0) := (blk_cell BK752.out 0).trans rfl
  have hcz19_1 : w13.cell? ⟨gb752, 1, none⟩ = some (.int .u64 0) := (blk_cell BK752.out 1).trans rfl
  have hcz19_2 : w13.cell? ⟨gb752, 2, none⟩ = some (.int .u64 0) := (blk_cell BK752.out 2).trans rfl
  have hcz19_3 : w13.cell? ⟨gb752, 3, none⟩ = some (.int .u64 0) := (blk_cell BK752.out 3).trans rfl
  have hcz19_4 : w13.cell? ⟨gb752, 4, none⟩ = some (.int .u64 0) := (blk_cell BK752.out 4).trans rfl
  have hfz19_0 := blk_frozen BK752.out 0
  have hfz19_1 := blk_frozen BK752.out 1
  have hfz19_2 := blk_frozen BK752.out 2
  have hfz19_3 := blk_frozen BK752.out 3
  have hfz19_4 := blk_frozen BK752.out 4
  go_wp2_with (first | ((with_reducible refine gate_callee (f := 39) rfl ?_); refine goesL_ (some 17) rfl rfl Tryd.func39 (by kernel_rfl) rfl #[.agg #[.int .i64 t747, .int .u64 t748, .int .u64 t749, .int .u64 t750, .int .u64 t751]] rfl ar_ ?_; (with_reducible refine (honeycomblaw07_whole.calls k t747 t748 t749 t750 t751 t753 t754 t755 t756 t757 _ A17.out).mono ?_); rintro e w20 ⟨rfl, hb⟩; refine ⟨_, rfl, ?_⟩; have n0_ := Aside0.mk (blk_below (g := gb745) (o := .cells #[.int .i64 a0_0, .int .u64 a0_1, .int .u64 a0_2, .int .u64 a0_3, .int .u64 a0_4] 25 (0, 0)) (by (with_reducible repeat (first | apply bN_ | apply bD_ | apply bA_)); refine blk_far ?_ NB745_752.out _; (with_reducible repeat (first | apply bN_ | apply bD_ | apply bA_)); refine blk_far ?_ NB745_752.out _; (with_reducible repeat (first | apply bN_ | apply bD_ | apply bA_)); refine blk_far ?_ NB745_752.out _; (with_reducible repeat (first | apply bN_ | apply bD_ | apply bA_)); refine blk_far ?_ NB745_752.out _; (with_reducible repeat (first | apply bN_ | apply bD_ | apply bA_)); refine blk_far ?_ NB745_752.out _; (with_reducible repeat (first | apply bN_ | apply bD_ | apply bA_)); exact BK745.out) hb); have n1_ := Aside0.mk (blk_below (g := gb752) (o := .cells #[.int .i64 t747, .int .u64 t748, .int .u64 t749, .int .u64 t750, .int .u64 t751] 29 (0, 0)) (by (with_reducible repeat (first | apply bN_ | apply bD_ | apply bA_)); refine blk_put (cs := #[.int .i64 t747, .int .u64 t748, .int .u64 t749, .int .u64 t750, .int .u64 0]) ?_ 4 _ rfl; (with_reducible repeat (first | apply bN_ | apply bD_ | apply bA_)); refine blk_put (cs := #[.int .i64 t747, .int .u64 t748, .int .u64 t749, .int .u64 0, .int .u64 0]) ?_ 3 _ rfl; (with_reducible repeat (first | apply bN_ | apply bD_ | apply bA_)); refine blk_put (cs := #[.int .i64 t747, .int .u64 t748, .int .u64 0, .int .u64 0, .int .u64 0]) ?_ 2 _ rfl; (with_reducible repeat (first | apply bN_ | apply bD_ | apply bA_)); refine blk_put (cs := #[.int .i64 t747, .int .u64 0, .int .u64 0, .int .u64 0, .int .u64 0]) ?_ 1 _ rfl; (with_reducible repeat (first | apply bN_ | apply bD_ | apply bA_)); refine blk_put (cs := #[.int .i64 0, .int .u64 0, .int .u64 0, .int .u64 0, .int .u64 0]) ?_ 0 _ rfl; (with_reducible repeat (first | apply bN_ | apply bD_ | apply bA_)); exact BK752.out) hb); have n2_ := Aside0.mk (below_step (hg2_ GE745.out GE752.out) hb); clear BK745; clear BK752; clear HB; have BK745 := n0_; have BK752 := n1_; have HB := n2_; clear n0_ n1_ n2_; (try clear hb); (try clear hb2); (try clear hk); (try clear hi); have hcz21_0 : w20.cell? ⟨gb752, 0, none⟩ = some (.int .i64 t747) := (blk_cell BK752.out 0).trans rfl; have hcz21_1 : w20.cell? ⟨gb752, 1, none⟩ = some (.int .u64 t748) := (blk_cell BK752.out 1).trans rfl; have hcz21_2 : w20.cell? ⟨gb752, 2, none⟩ = some (.int .u64 t749) := (blk_cell BK752.out 2).trans rfl; have hcz21_3 : w20.cell? ⟨gb752, 3, none⟩ = some (.int .u64 t750) := (blk_cell BK752.out 3).trans rfl; have hcz21_4 : w20.cell? ⟨gb752, 4, none⟩ = some (.int .u64 t751) := (blk_cell BK752.out 4).trans rfl; have hfz21_0 := blk_frozen BK752.out 0; have hfz21_1 := blk_frozen BK752.out 1; have hfz21_2 := blk_frozen BK752.out 2; have hfz21_3 := blk_frozen BK752.out 3; have hfz21_4 := blk_frozen BK752.out 4))
  go_meet
  case rel => exact ⟨_, (t753), (t754), (t755), (t756), (t757), H', ⟨by first | omega | exact Nat.le_refl _⟩, ⟨by (with_reducible repeat (first | apply bN_ | apply bD_ | apply bA_)); refine blk_far ?_ NB745_752.out _; (with_reducible repeat (first | apply bN_ | apply bD_ | apply bA_)); refine blk_far ?_ NB745_752.out _; (with_reducible repeat (first | apply bN_ | apply bD_ | apply bA_)); refine blk_far ?_ NB745_752.out _; (with_reducible repeat (first | apply bN_ | apply bD_ | apply bA_)); refine blk_far ?_ NB745_752.out _; (with_reducible repeat (first | apply bN_ | apply bD_ | apply bA_)); refine blk_far ?_ NB745_752.out _; (with_reducible repeat (first | apply bN_ | apply bD_ | apply bA_)); exact BK745.out⟩, ⟨by (with_reducible repeat (first | apply bN_ | apply bD_ | apply bA_)); refine blk_put (cs := #[.int .i64 t753, .int .u64 t754, .int .u64 t755, .int .u64 t756, .int .u64 t751]) ?_ 4 _ rfl; (with_reducible repeat (first | apply bN_ | apply bD_ | apply bA_)); refine blk_put (cs := #[.int .i64 t753, .int .u64 t754, .int .u64 t755, .int .u64 t750, .int .u64 t751]) ?_ 3 _ rfl; (with_reducible repeat (first | apply bN_ | apply bD_ | apply bA_)); refine blk_put (cs := #[.int .i64 t753, .int .u64 t754, .int .u64 t749, .int .u64 t750, .int .u64 t751]) ?_ 2 _ rfl; (with_reducible repeat (first | apply bN_ | apply bD_ | apply bA_)); refine blk_put (cs := #[.int .i64 t753, .int .u64 t748, .int .u64 t749, .int .u64 t750, .int .u64 t751]) ?_ 1 _ rfl; (with_reducible repeat (first | apply bN_ | apply bD_ | apply bA_)); refine blk_put (cs := #[.int .i64 t747, .int .u64 t748, .int .u64 t749, .int .u64 t750, .int .u64 t751]) ?_ 0 _ rfl; (with_reducible repeat (first | apply bN_ | apply bD_ | apply bA_)); exact BK752.out⟩, ⟨by repeat (first | (with_reducible first | exact HB.out | apply ba_ | apply bn_ | apply bd_ | refine below_set ?_ GE745.out | refine below_set ?_ GE752.out) | exact HB.out)⟩⟩
 case rest =>
  clear HC8
  try clear c1
  try clear c2
  try clear p2
  try clear c3
  try clear c6
  try clear c8
  try clear c13
  try clear c14
  try clear c16
  try clear c18
  try clear hcz11_0
  try clear hcz11_1
  try clear hcz11_2
  try clear hcz11_3
  try clear hcz11_4
  try clear hcz15_0
  try clear hcz15_1
  try clear hcz15_2
  try clear hcz15_3
  try clear hcz15_4
  try clear hcz19_0
  try clear hcz19_1
  try clear hcz19_2
  try clear hcz19_3
  try clear hcz19_4
  try clear hcz21_0
  try clear hcz21_1
  try clear hcz21_2
  try clear hcz21_3
  try clear hcz21_4
  try clear hfz11_0
  try clear hfz11_1
  try clear hfz11_2
  try clear hfz11_3
  try clear hfz11_4
  try clear hfz15_0
  try clear hfz15_1
  try clear hfz15_2
  try clear hfz15_3
  try clear hfz15_4
  try clear hfz19_0
  try clear hfz19_1
  try clear hfz19_2
  try clear hfz19_3
  try clear hfz19_4
  try clear hfz21_0
  try clear hfz21_1
  try clear hfz21_2
  try clear hfz21_3
  try clear hfz21_4
  obtain ⟨kq, x753000_7, x753001_7, x753002_7, x753003_7, x753004_7, HA, HJ7, BK745, BK752, HB⟩ := hcut
  cases kq with
  | zero => exact absurd HA.out (by simp [honeycomblaw07_IsoCommutes.j0])
  | succ kj7 =>
   have H := HA.out
   clear HA
   simp only [honeycomblaw07_IsoCommutes.j0] at H
   obtain ⟨ji22, hji22⟩ : ∃ j_ : Int, (mn (l2.length : Int) 16) = j_ := ⟨_, rfl⟩
   replace H : (if 0 ≤ (ji22) then (if (ji22) ≤ (l2.length : Int) then ((honeycomblaw04_Some.f kj7 x753000_7 (l2.take ((ji22) : Int).toNat)).bind fun t762 => ((iso_Keeps.f kj7 x753000_7 x753001_7 x753002_7 x753003_7 x753004_7 (Int.tmod (Go.bits .and .i64 a3 255) 12)).bind fun t765 => (if t765 = true then ((XTold5.f x753000_7 x753001_7 x753002_7 x753003_7 x753004_7).bind fun bt766 => ((honeycomblaw04_Told.f kj7 t762).bind fun t773 => ((honeycomblaw07_commutes.f kj7 bt766.1 bt766.2.1 bt766.2.2 (Int.tmod (Go.bits .and .i64 a3 255) 12) t773).bind fun t776 => (some t776)))) else (some true)))) else (none)) else (none)) = some r := by first | (rw [hji22] at H; exact H) | (simp only [hji22] at H ⊢; exact H)
   have hji22_ : (if 16 < (l2.length : Int) then 16 else (l2.length : Int)) = ji22 := hji22
   by_cases c23 : 0 ≤ (ji22)
   rotate_left
   ·
    rw [if_neg c23] at H
    exact absurd H (by simp)
   rw [if_pos c23] at H
   have c23b0 := eq_true c23
   have c23b1 : decide (0 ≤ (ji22)) = true := decide_eq_true c23
   clear c23
   by_cases c24 : (ji22) ≤ (l2.length : Int)
   rotate_left
   ·
    rw [if_neg c24] at H
    exact absurd H (by simp)
   rw [if_pos c24] at H
   have c24b0 := eq_true c24
   have c24b1 : decide ((ji22) ≤ (l2.length : Int)) = true := decide_eq_true c24
   clear c24
   obtain ⟨y758, hy758⟩ : ∃ y_ : List (S60), y_ = (l2.take ((ji22) : Int).toNat) := ⟨_, rfl⟩
   replace H : ((honeycomblaw04_Some.f kj7 x753000_7 y758).bind fun t762 => ((iso_Keeps.f kj7 x753000_7 x753001_7 x753002_7 x753003_7 x753004_7 (Int.tmod (Go.bits .and .i64 a3 255) 12)).bind fun t765 => (if t765 = true then ((XTold5.f x753000_7 x753001_7 x753002_7 x753003_7 x753004_7).bind fun bt766 => ((honeycomblaw04_Told.f kj7 t762).bind fun t773 => ((honeycomblaw07_commutes.f kj7 bt766.1 bt766.2.1 bt766.2.2 (Int.tmod (Go.bits .and .i64 a3 255) 12) t773).bind fun t776 => (some t776)))) else (some true)))) = some r := by first | (rw [hy758]; with_reducible exact H) | (have H2_ := (Option.bind_some _ _).symm.trans H; rw [hy758]; with_reducible exact H2_) | (have H2_ := (Option.bind_some _ _).symm.trans H; with_reducible exact H2_) | with_reducible exact H | (rw [hy758]; exact H) | exact H
   have Ny758 := Aside0.mk hy758
   clear hy758
   replace H := Option.bind_eq_some_iff.mp H
   obtain ⟨t762, A250, H⟩ := H
   replace H : ((iso_Keeps.f kj7 x753000_7 x753001_7 x753002_7 x753003_7 x753004_7 (Int.tmod (Go.bits .and .i64 a3 255) 12)).bind fun t765 => (if t765 = true then ((XTold5.f x753000_7 x753001_7 x753002_7 x753003_7 x753004_7).bind fun bt766 => ((honeycomblaw04_Told.f kj7 t762).bind fun t773 => ((honeycomblaw07_commutes.f kj7 bt766.1 bt766.2.1 bt766.2.2 (Int.tmod (Go.bits .and .i64 a3 255) 12) t773).bind fun t776 => (some t776)))) else (some true))) = some r := H
   have A25 := Aside0.mk A250
   clear A250
   replace H := Option.bind_eq_some_iff.mp H
   obtain ⟨t765, A260, H⟩ := H
   replace H : (if t765 = true then ((XTold5.f x753000_7 x753001_7 x753002_7 x753003_7 x753004_7).bind fun bt766 => ((honeycomblaw04_Told.f kj7 t762).bind fun t773 => ((honeycomblaw07_commutes.f kj7 bt766.1 bt766.2.1 bt766.2.2 (Int.tmod (Go.bits .and .i64 a3 255) 12) t773).bind fun t776 => (some t776)))) else (some true)) = some r := H
   have A26 := Aside0.mk A260
   clear A260
   by_cases c27 : t765 = true
   rotate_left
   ·
    replace c27 := Bool.eq_false_iff.mpr c27
    subst c27
    have H1 : (some true) = some r := by rw [if_neg (show ¬ (false = true) by decide)] at H; exact H
    clear H
    have H := H1
    clear H1
    obtain rfl := Option.some.inj H
    try go_wp2
    have n0_ := Aside0.mk (blk_drew BK745.out)
    have n1_ := Aside0.mk (blk_drew BK752.out)
    have n2_ := Aside0.mk (below_drew1 HB.out)
    clear BK745
    clear BK752
    clear HB
    have BK745 := n0_
    have BK752 := n1_
    have HB := n2_
    clear n0_ n1_ n2_
    have q46 : ((ji22) : Int) ≤ ((l2.length : Int) : Int) := of_decide_eq_true as_
    obtain ⟨i046, hi046, _, hsz46, _⟩ := info_parts info60
    have hroom46 : l2.length ≤ c2 := HC2.out
    have hC46 : Kd.C k60 _ A2 l2.length l2 := HR2.out
    have hcut46 := cut_to (P := Tryd.prog) 45 60 .i64 Tryd.underlying45 hi046 A2 l2.length c2 (ji22) (of_decide_eq_true as_) q46 hroom46
    have hr46 := Kd.C_take (m := ((ji22) : Int).toNat) hC46 (by omega)
    have hy46 : y758.length = ((ji22) : Int).toNat := (by rw [Ny758.out, List.length_take]; omega)
    rw [← Ny758.out] at hr46
    rw [← hy46] at hcut46
    have HR761 := Aside0.mk hr46
    have HC761 := Aside0.mk (show y758.length ≤ c2 from by omega)
    clear hr46 hC46 hroom46 hi046 hsz46
    have KY46 := Aside0.mk hy46
    clear hy46
    replace q46 := eq_true q46
    refine start_ (n := 9) (S := fun w' => w'.cell? ⟨gb752, 0, none⟩ = some (.int .i64 x753000_7) ∧ w'.cell? ⟨gb752, 1, none⟩ = some (.int .u64 x753001_7) ∧ w'.cell? ⟨gb752, 2, none⟩ = some (.int .u64 x753002_7) ∧ w'.cell? ⟨gb752, 3, none⟩ = some (.int .u64 x753003_7) ∧ w'.cell? ⟨gb752, 4, none⟩ = some (.int .u64 x753004_7)) (ds := []) (m_ 9 0) (by kernel_rfl) rfl rfl ⟨(blk_cell BK752.out 0).trans rfl, (blk_cell BK752.out 1).trans rfl, (blk_cell BK752.out 2).trans rfl, (blk_cell BK752.out 3).trans rfl, (blk_cell BK752.out 4).trans rfl⟩ (fun hHeld => ?_); refine with_tabW honeycomblaw07_IsoCommutes.tab7 honeycomblaw07_IsoCommutes.bits7 (fun HT_ HW_ => ?_)
    generalize wc.drew = w45 at BK745 BK752 HB HR761 hHeld ⊢
    refine pq_ 0 (some 21) (m_ 9 1) (h := ?_)
    refine pq_ 2 (some 23) (m_ 9 5) (h := ?_)
    refine pq_ 3 (some 24) (m_ 9 13) (h := ?_)
    refine pq_ 4 (some 25) (m_ 9 29) (h := ?_)
    refine pq_ 5 (some 26) (m_ 9 61) (h := ?_)
    refine pq_ 6 (some 27) (m_ 9 125) (h := ?_)
    refine tq5_ 1 (some 22) (m_ 9 127) (h := ?_)
    refine one_ (i := 7) (N := some 28) (m_ 9 255) rfl rfl (one_of HT_.out (by kernel_rfl)) (by decide) (fun K hK => ?_)
    refine goes_ Tryd.func40 (by kernel_rfl) rfl #[.int .i64 x753000_7, .slice A2 y758.length c2] (by rfl) rfl rfl ar_ ?_
    with_reducible refine (honeycomblaw04_Some.calls kj7 x753000_7 _ _ y758 t762 _ ?side1 ?side2 A25.out).mono ?_
    (case side1 => repeat (first | exact (Kd.C_below HR761.out HB.out) | (with_reducible refine Kd.C_alloc ?_ _) | (with_reducible refine Kd.C_drewN ?_ _) | (with_reducible refine Kd.C_drew ?_)))
    (case side2 => exact HC761.out)
    rintro e w47 ⟨v763, rfl, ho0, hb⟩
    refine ⟨_, rfl, ?_⟩
    have n0_ := Aside0.mk (Kd.R_lower ho0 (below_size (hg2_ GE745.out GE752.out)))
    have n1_ := Aside0.mk (blk_below (g := gb745) (o := .cells #[.int .i64 a0_0, .int .u64 a0_1, .int .u64 a0_2, .int .u64 a0_3, .int .u64 a0_4] 25 (0, 0)) (bk_ BK745.out) hb)
    have n2_ := Aside0.mk (blk_below (g := gb752) (o := .cells #[.int .i64 x753000_7, .int .u64 x753001_7, .int .u64 x753002_7, .int .u64 x753003_7, .int .u64 x753004_7] 29 (0, 0)) (bk_ BK752.out) hb)
    have n3_ := Aside0.mk (below_step (hg2_ GE745.out GE752.out) hb)
    clear BK745
    clear BK752
    clear HB
    have HO764 := n0_
    have BK745 := n1_
    have BK752 := n2_
    have HB := n3_
    clear n0_ n1_ n2_ n3_
    (try clear hb)
    (try clear hb2)
    (try clear hk)
    (try clear hi)
    (try clear ho0)
    refine hK.out _ _ ⟨(blk_cell BK752.out 0).trans rfl, (blk_cell BK752.out 1).trans rfl, (blk_cell BK752.out 2).trans rfl, (blk_cell BK752.out 3).trans rfl, (blk_cell BK752.out 4).trans rfl⟩ (fun hHeld => ?_)
    clear hK K
    refine norm_ (a' := ?_) ?_ ?_
    rotate_left
    ·
     show Act.put _ (some 28) _ = _
     simp only [puts_]
     rfl
    refine pq_ 8 (some 10) (m_ 9 511) (h := ?_)
    refine done_ (done_of HT_.out (by kernel_rfl)) ?_
    have hnb48 := NB752_745.out
    have hnc48 := NB745_752.out
    have hcz49_0 : w47.cell? ⟨gb752, 0, none⟩ = some (.int .i64 x753000_7) := (blk_cell BK752.out 0).trans rfl
    have hcz49_1 : w47.cell? ⟨gb752, 1, none⟩ = some (.int .u64 x753001_7) := (blk_cell BK752.out 1).trans rfl
    have hcz49_2 : w47.cell? ⟨gb752, 2, none⟩ = some (.int .u64 x753002_7) := (blk_cell BK752.out 2).trans rfl
    have hcz49_3 : w47.cell? ⟨gb752, 3, none⟩ = some (.int .u64 x753003_7) := (blk_cell BK752.out 3).trans rfl
    have hcz49_4 : w47.cell? ⟨gb752, 4, none⟩ = some (.int .u64 x753004_7) := (blk_cell BK752.out 4).trans rfl
    have hfz49_0 := blk_frozen BK752.out 0
    have hfz49_1 := blk_frozen BK752.out 1
    have hfz49_2 := blk_frozen BK752.out 2
    have hfz49_3 := blk_frozen BK752.out 3
    have hfz49_4 := blk_frozen BK752.out 4
    try go_wp2_with (first | ((with_reducible refine gate_callee (f := 18) rfl ?_); refine goesL_ (some 31) rfl rfl Tryd.func18 (by kernel_rfl) rfl #[.agg #[.int .i64 x753000_7, .int .u64 x753001_7, .int .u64 x753002_7, .int .u64 x753003_7, .int .u64 x753004_7], .int .i64 (Int.tmod (Go.bits .and .i64 a3 255) 12)] rfl ar_ ?_; (with_reducible refine (iso_Keeps.calls kj7 x753000_7 x753001_7 x753002_7 x753003_7 x753004_7 (Int.tmod (Go.bits .and .i64 a3 255) 12) false _ ?side1 A26.out).mono ?_); (case side1 => exact HGSix.out.below (hg2_ GE745.out GE752.out)); rintro e w50 ⟨rfl, hb⟩; refine ⟨_, rfl, ?_⟩; have n0_ := Aside0.mk (Kd.R_below (kr_ HO764.out) hb); have n1_ := Aside0.mk (blk_below (g := gb745) (o := .cells #[.int .i64 a0_0, .int .u64 a0_1, .int .u64 a0_2, .int .u64 a0_3, .int .u64 a0_4] 25 (0, 0)) (bk_ BK745.out) hb); have n2_ := Aside0.mk (blk_below (g := gb752) (o := .cells #[.int .i64 x753000_7, .int .u64 x753001_7, .int .u64 x753002_7, .int .u64 x753003_7, .int .u64 x753004_7] 29 (0, 0)) (bk_ BK752.out) hb); have n3_ := Aside0.mk (below_step (hg2_ GE745.out GE752.out) hb); clear HO764; clear BK745; clear BK752; clear HB; have HO764 := n0_; have BK745 := n1_; have BK752 := n2_; have HB := n3_; clear n0_ n1_ n2_ n3_; (try clear hb); (try clear hb2); (try clear hk); (try clear hi)))
    go_ret
    exact ⟨by first | rfl | (simp [errW_none, errW_some] <;> rfl) | (simp only [← hji22]; first | rfl | (simp [errW_none, errW_some] <;> rfl)) | (simp [*, errW_none, errW_some] <;> rfl), by repeat (first | (with_reducible first | exact HB.out | apply ba_ | apply bn_ | apply bd_ | refine below_set ?_ GE745.out | refine below_set ?_ GE752.out) | exact HB.out)⟩
   subst c27
   have H1 : ((XTold5.f x753000_7 x753001_7 x753002_7 x753003_7 x753004_7).bind fun bt766 => ((honeycomblaw04_Told.f kj7 t762).bind fun t773 => ((honeycomblaw07_commutes.f kj7 bt766.1 bt766.2.1 bt766.2.2 (Int.tmod (Go.bits .and .i64 a3 255) 12) t773).bind fun t776 => (some t776)))) = some r := by rw [if_pos rfl] at H; exact H
   clear H
   have H := H1
   clear H1
   replace H := Option.bind_eq_some_iff.mp H
   obtain ⟨⟨t766, t767, t770⟩, A280, H⟩ := H
   replace H : ((honeycomblaw04_Told.f kj7 t762).bind fun t773 => ((honeycomblaw07_commutes.f kj7 t766 t767 t770 (Int.tmod (Go.bits .and .i64 a3 255) 12) t773).bind fun t776 => (some t776))) = some r := H
   have A28 := Aside0.mk A280
   clear A280
   replace H := Option.bind_eq_some_iff.mp H
   obtain ⟨t773, A290, H⟩ := H
   replace H : ((honeycomblaw07_commutes.f kj7 t766 t767 t770 (Int.tmod (Go.bits .and .i64 a3 255) 12) t773).bind fun t776 => (some t776)) = some r := H
   have A29 := Aside0.mk A290
   clear A290
   replace H := Option.bind_eq_some_iff.mp H
   obtain ⟨t776, A300, H⟩ := H
   replace H : (some t776) = some r := H
   have A30 := Aside0.mk A300
   clear A300
   obtain rfl := Option.some.inj H
   try go_wp2
   have n0_ := Aside0.mk (blk_drew BK745.out)
   have n1_ := Aside0.mk (blk_drew BK752.out)
   have n2_ := Aside0.mk (below_drew1 HB.out)
   clear BK745
   clear BK752
   clear HB
   have BK745 := n0_
   have BK752 := n1_
   have HB := n2_
   clear n0_ n1_ n2_
   have q32 : ((ji22) : Int) ≤ ((l2.length : Int) : Int) := of_decide_eq_true as_
   obtain ⟨i032, hi032, _, hsz32, _⟩ := info_parts info60
   have hroom32 : l2.length ≤ c2 := HC2.out
   have hC32 : Kd.C k60 _ A2 l2.length l2 := HR2.out
   have hcut32 := cut_to (P := Tryd.prog) 45 60 .i64 Tryd.underlying45 hi032 A2 l2.length c2 (ji22) (of_decide_eq_true as_) q32 hroom32
   have hr32 := Kd.C_take (m := ((ji22) : Int).toNat) hC32 (by omega)
   have hy32 : y758.length = ((ji22) : Int).toNat := (by rw [Ny758.out, List.length_take]; omega)
   rw [← Ny758.out] at hr32
   rw [← hy32] at hcut32
   have HR761 := Aside0.mk hr32
   have HC761 := Aside0.mk (show y758.length ≤ c2 from by omega)
   clear hr32 hC32 hroom32 hi032 hsz32
   have KY32 := Aside0.mk hy32
   clear hy32
   replace q32 := eq_true q32
   refine start_ (n := 9) (S := fun w' => w'.cell? ⟨gb752, 0, none⟩ = some (.int .i64 x753000_7) ∧ w'.cell? ⟨gb752, 1, none⟩ = some (.int .u64 x753001_7) ∧ w'.cell? ⟨gb752, 2, none⟩ = some (.int .u64 x753002_7) ∧ w'.cell? ⟨gb752, 3, none⟩ = some (.int .u64 x753003_7) ∧ w'.cell? ⟨gb752, 4, none⟩ = some (.int .u64 x753004_7)) (ds := []) (m_ 9 0) (by kernel_rfl) rfl rfl ⟨(blk_cell BK752.out 0).trans rfl, (blk_cell BK752.out 1).trans rfl, (blk_cell BK752.out 2).trans rfl, (blk_cell BK752.out 3).trans rfl, (blk_cell BK752.out 4).trans rfl⟩ (fun hHeld => ?_); refine with_tabW honeycomblaw07_IsoCommutes.tab7 honeycomblaw07_IsoCommutes.bits7 (fun HT_ HW_ => ?_)
   generalize wc.drew = w31 at BK745 BK752 HB HR761 hHeld ⊢
   refine pq_ 0 (some 21) (m_ 9 1) (h := ?_)
   refine pq_ 2 (some 23) (m_ 9 5) (h := ?_)
   refine pq_ 3 (some 24) (m_ 9 13) (h := ?_)
   refine pq_ 4 (some 25) (m_ 9 29) (h := ?_)
   refine pq_ 5 (some 26) (m_ 9 61) (h := ?_)
   refine pq_ 6 (some 27) (m_ 9 125) (h := ?_)
   refine tq5_ 1 (some 22) (m_ 9 127) (h := ?_)
   refine one_ (i := 7) (N := some 28) (m_ 9 255) rfl rfl (one_of HT_.out (by kernel_rfl)) (by decide) (fun K hK => ?_)
   refine goes_ Tryd.func40 (by kernel_rfl) rfl #[.int .i64 x753000_7, .slice A2 y758.length c2] (by rfl) rfl rfl ar_ ?_
   with_reducible refine (honeycomblaw04_Some.calls kj7 x753000_7 _ _ y758 t762 _ ?side1 ?side2 A25.out).mono ?_
   (case side1 => repeat (first | exact (Kd.C_below HR761.out HB.out) | (with_reducible refine Kd.C_alloc ?_ _) | (with_reducible refine Kd.C_drewN ?_ _) | (with_reducible refine Kd.C_drew ?_)))
   (case side2 => exact HC761.out)
   rintro e w33 ⟨v763, rfl, ho0, hb⟩
   refine ⟨_, rfl, ?_⟩
   have n0_ := Aside0.mk (Kd.R_lower ho0 (below_size (hg2_ GE745.out GE752.out)))
   have n1_ := Aside0.mk (blk_below (g := gb745) (o := .cells #[.int .i64 a0_0, .int .u64 a0_1, .int .u64 a0_2, .int .u64 a0_3, .int .u64 a0_4] 25 (0, 0)) (bk_ BK745.out) hb)
   have n2_ := Aside0.mk (blk_below (g := gb752) (o := .cells #[.int .i64 x753000_7, .int .u64 x753001_7, .int .u64 x753002_7, .int .u64 x753003_7, .int .u64 x753004_7] 29 (0, 0)) (bk_ BK752.out) hb)
   have n3_ := Aside0.mk (below_step (hg2_ GE745.out GE752.out) hb)
   clear BK745
   clear BK752
   clear HB
   have HO764 := n0_
   have BK745 := n1_
   have BK752 := n2_
   have HB := n3_
   clear n0_ n1_ n2_ n3_
   (try clear hb)
   (try clear hb2)
   (try clear hk)
   (try clear hi)
   (try clear ho0)
   refine hK.out _ _ ⟨(blk_cell BK752.out 0).trans rfl, (blk_cell BK752.out 1).trans rfl, (blk_cell BK752.out 2).trans rfl, (blk_cell BK752.out 3).trans rfl, (blk_cell BK752.out 4).trans rfl⟩ (fun hHeld => ?_)
   clear hK K
   refine norm_ (a' := ?_) ?_ ?_
   rotate_left
   ·
    show Act.put _ (some 28) _ = _
    simp only [puts_]
    rfl
   refine pq_ 8 (some 10) (m_ 9 511) (h := ?_)
   refine done_ (done_of HT_.out (by kernel_rfl)) ?_
   have hnb34 := NB752_745.out
   have hnc34 := NB745_752.out
   have hcz35_0 : w33.cell? ⟨gb752, 0, none⟩ = some (.int .i64 x753000_7) := (blk_cell BK752.out 0).trans rfl
   have hcz35_1 : w33.cell? ⟨gb752, 1, none⟩ = some (.int .u64 x753001_7) := (blk_cell BK752.out 1).trans rfl
   have hcz35_2 : w33.cell? ⟨gb752, 2, none⟩ = some (.int .u64 x753002_7) := (blk_cell BK752.out 2).trans rfl
   have hcz35_3 : w33.cell? ⟨gb752, 3, none⟩ = some (.int .u64 x753003_7) := (blk_cell BK752.out 3).trans rfl
   have hcz35_4 : w33.cell? ⟨gb752, 4, none⟩ = some (.int .u64 x753004_7) := (blk_cell BK752.out 4).trans rfl
   have hfz35_0 := blk_frozen BK752.out 0
   have hfz35_1 := blk_frozen BK752.out 1
   have hfz35_2 := blk_frozen BK752.out 2
   have hfz35_3 := blk_frozen BK752.out 3
   have hfz35_4 := blk_frozen BK752.out 4
   try go_wp2_with (first | ((with_reducible refine gate_callee (f := 18) rfl ?_); refine goesL_ (some 31) rfl rfl Tryd.func18 (by kernel_rfl) rfl #[.agg #[.int .i64 x753000_7, .int .u64 x753001_7, .int .u64 x753002_7, .int .u64 x753003_7, .int .u64 x753004_7], .int .i64 (Int.tmod (Go.bits .and .i64 a3 255) 12)] rfl ar_ ?_; (with_reducible refine (iso_Keeps.calls kj7 x753000_7 x753001_7 x753002_7 x753003_7 x753004_7 (Int.tmod (Go.bits .and .i64 a3 255) 12) true _ ?side1 A26.out).mono ?_); (case side1 => exact HGSix.out.below (hg2_ GE745.out GE752.out)); rintro e w36 ⟨rfl, hb⟩; refine ⟨_, rfl, ?_⟩; have n0_ := Aside0.mk (Kd.R_below (kr_ HO764.out) hb); have n1_ := Aside0.mk (blk_below (g := gb745) (o := .cells #[.int .i64 a0_0, .int .u64 a0_1, .int .u64 a0_2, .int .u64 a0_3, .int .u64 a0_4] 25 (0, 0)) (bk_ BK745.out) hb); have n2_ := Aside0.mk (blk_below (g := gb752) (o := .cells #[.int .i64 x753000_7, .int .u64 x753001_7, .int .u64 x753002_7, .int .u64 x753003_7, .int .u64 x753004_7] 29 (0, 0)) (bk_ BK752.out) hb); have n3_ := Aside0.mk (below_step (hg2_ GE745.out GE752.out) hb); clear HO764; clear BK745; clear BK752; clear HB; have HO764 := n0_; have BK745 := n1_; have BK752 := n2_; have HB := n3_; clear n0_ n1_ n2_ n3_; (try clear hb); (try clear hb2); (try clear hk); (try clear hi); have hcz37_0 : w36.cell? ⟨gb752, 0, none⟩ = some (.int .i64 x753000_7) := (blk_cell BK752.out 0).trans rfl; have hcz37_1 : w36.cell? ⟨gb752, 1, none⟩ = some (.int .u64 x753001_7) := (blk_cell BK752.out 1).trans rfl; have hcz37_2 : w36.cell? ⟨gb752, 2, none⟩ = some (.int .u64 x753002_7) := (blk_cell BK752.out 2).trans rfl; have hcz37_3 : w36.cell? ⟨gb752, 3, none⟩ = some (.int .u64 x753003_7) := (blk_cell BK752.out 3).trans rfl; have hcz37_4 : w36.cell? ⟨gb752, 4, none⟩ = some (.int .u64 x753004_7) := (blk_cell BK752.out 4).trans rfl; have hfz37_0 := blk_frozen BK752.out 0; have hfz37_1 := blk_frozen BK752.out 1; have hfz37_2 := blk_frozen BK752.out 2; have hfz37_3 := blk_frozen BK752.out 3; have hfz37_4 := blk_frozen BK752.out 4) | (go_at_call 27; (with_reducible refine (XTold5.calls x753000_7 x753001_7 x753002_7 x753003_7 x753004_7 t766 t767 t770 _ A28.out).mono ?_); rintro e w38 ⟨v768, v771, rfl, ho0, ho1, hb⟩; have n0_ := Aside0.mk (Kd.R_below (kr_ HO764.out) hb); have n1_ := Aside0.mk (Kd.V_lower (Kd.V_mono (ok' := fun k_ => some k_ ≠ (v763 : Value).ownBlock ∧ k_ ≠ gb745 ∧ k_ ≠ gb752) ho0 (fun k_ hk_ => ⟨(Kd.fresh' (Kd.R_lt (kr_ HO764.out)) k_ hk_), (Kd.freshB (g := gb745) (o := .cells #[.int .i64 a0_0, .int .u64 a0_1, .int .u64 a0_2, .int .u64 a0_3, .int .u64 a0_4] 25 (0, 0)) (bk_ BK745.out) k_ hk_), (Kd.freshB (g := gb752) (o := .cells #[.int .i64 x753000_7, .int .u64 x753001_7, .int .u64 x753002_7, .int .u64 x753003_7, .int .u64 x753004_7] 29 (0, 0)) (bk_ BK752.out) k_ hk_)⟩)) (below_size (hg2_ GE745.out GE752.out))); have n2_ := Aside0.mk (Kd.V_lower (Kd.V_mono (ok' := fun k_ => some k_ ≠ (v763 : Value).ownBlock ∧ k_ ≠ gb745 ∧ k_ ≠ gb752) ho1 (fun k_ hk_ => ⟨(Kd.fresh' (Kd.R_lt (kr_ HO764.out)) k_ hk_), (Kd.freshB (g := gb745) (o := .cells #[.int .i64 a0_0, .int .u64 a0_1, .int .u64 a0_2, .int .u64 a0_3, .int .u64 a0_4] 25 (0, 0)) (bk_ BK745.out) k_ hk_), (Kd.freshB (g := gb752) (o := .cells #[.int .i64 x753000_7, .int .u64 x753001_7, .int .u64 x753002_7, .int .u64 x753003_7, .int .u64 x753004_7] 29 (0, 0)) (bk_ BK752.out) k_ hk_)⟩)) (below_size (hg2_ GE745.out GE752.out))); have n3_ := Aside0.mk (blk_below (g := gb745) (o := .cells #[.int .i64 a0_0, .int .u64 a0_1, .int .u64 a0_2, .int .u64 a0_3, .int .u64 a0_4] 25 (0, 0)) (bk_ BK745.out) hb); have n4_ := Aside0.mk (blk_below (g := gb752) (o := .cells #[.int .i64 x753000_7, .int .u64 x753001_7, .int .u64 x753002_7, .int .u64 x753003_7, .int .u64 x753004_7] 29 (0, 0)) (bk_ BK752.out) hb); have n5_ := Aside0.mk (below_step (hg2_ GE745.out GE752.out) hb); clear HO764; clear BK745; clear BK752; clear HB; have HO764 := n0_; have HO769 := n1_; have HO772 := n2_; have BK745 := n3_; have BK752 := n4_; have HB := n5_; clear n0_ n1_ n2_ n3_ n4_ n5_; (try clear hb); (try clear hb2); (try clear hk); (try clear hi); (try clear ho0); (try clear ho1); obtain ⟨Ao39, co39, eo39⟩ := Kd.R_slice HO764.out; subst eo39) | (go_at_call 22; (with_reducible refine (honeycomblaw04_Told.calls kj7 _ _ t762 t773 _ ?side1 ?side2 A29.out).mono ?_); (case side1 => repeat (first | exact (Kd.R_reads' HO764.out).2.2 | (with_reducible refine Kd.C_alloc ?_ _) | (with_reducible refine Kd.C_drewN ?_ _) | (with_reducible refine Kd.C_drew ?_))); (case side2 => exact (Kd.R_reads' HO764.out).2.1); rintro e w40 ⟨v774, rfl, ho0, hb⟩; have n0_ := Aside0.mk (Kd.R_below (kr_ HO764.out) hb); have n1_ := Aside0.mk (Kd.V_elder' (by (with_reducible repeat (first | apply Kd.V_alloc | apply Kd.V_drewN | apply Kd.V_drew)); exact HO769.out) (Kd.R_base ho0) hb); have n2_ := Aside0.mk (Kd.V_elder' (by (with_reducible repeat (first | apply Kd.V_alloc | apply Kd.V_drewN | apply Kd.V_drew)); exact HO772.out) (Kd.R_base ho0) hb); have n3_ := Aside0.mk (Kd.R_lower ho0 (below_size (hg2_ GE745.out GE752.out))); have n4_ := Aside0.mk (blk_below (g := gb745) (o := .cells #[.int .i64 a0_0, .int .u64 a0_1, .int .u64 a0_2, .int .u64 a0_3, .int .u64 a0_4] 25 (0, 0)) (bk_ BK745.out) hb); have n5_ := Aside0.mk (blk_below (g := gb752) (o := .cells #[.int .i64 x753000_7, .int .u64 x753001_7, .int .u64 x753002_7, .int .u64 x753003_7, .int .u64 x753004_7] 29 (0, 0)) (bk_ BK752.out) hb); have n6_ := Aside0.mk (below_step (hg2_ GE745.out GE752.out) hb); clear HO764; clear HO769; clear HO772; clear BK745; clear BK752; clear HB; have HO764 := n0_; have HO769 := n1_; have HO772 := n2_; have HO775 := n3_; have BK745 := n4_; have BK752 := n5_; have HB := n6_; clear n0_ n1_ n2_ n3_ n4_ n5_ n6_; (try clear hb); (try clear hb2); (try clear hk); (try clear hi); (try clear ho0); obtain ⟨Ao41, co41, eo41⟩ := Kd.V_slice HO769.out; subst eo41; obtain ⟨Ao42, co42, eo42⟩ := Kd.V_slice HO772.out; subst eo42; obtain ⟨Ao43, co43, eo43⟩ := Kd.R_slice HO775.out; subst eo43) | (go_at_call 41; (with_reducible refine (honeycomblaw07_commutes.calls kj7 t766 _ _ t767 _ _ t770 (Int.tmod (Go.bits .and .i64 a3 255) 12) _ _ t773 t776 _ ?side1 ?side2 ?side3 ?side4 ?side5 ?side6 A30.out).mono ?_); (case side1 => repeat (first | exact (Kd.V_reads' HO769.out).2.2 | (with_reducible refine Kd.C_alloc ?_ _) | (with_reducible refine Kd.C_drewN ?_ _) | (with_reducible refine Kd.C_drew ?_))); (case side2 => exact (Kd.V_reads' HO769.out).2.1); (case side3 => repeat (first | exact (Kd.V_reads' HO772.out).2.2 | (with_reducible refine Kd.C_alloc ?_ _) | (with_reducible refine Kd.C_drewN ?_ _) | (with_reducible refine Kd.C_drew ?_))); (case side4 => exact (Kd.V_reads' HO772.out).2.1); (case side5 => repeat (first | exact (Kd.R_reads' HO775.out).2.2 | (with_reducible refine Kd.C_alloc ?_ _) | (with_reducible refine Kd.C_drewN ?_ _) | (with_reducible refine Kd.C_drew ?_))); (case side6 => exact (Kd.R_reads' HO775.out).2.1); rintro e w44 ⟨rfl, hb⟩; have n0_ := Aside0.mk (Kd.R_below (kr_ HO764.out) hb); have n1_ := Aside0.mk (Kd.V_below (by (with_reducible repeat (first | apply Kd.V_alloc | apply Kd.V_drewN | apply Kd.V_drew)); exact HO769.out) hb); have n2_ := Aside0.mk (Kd.V_below (by (with_reducible repeat (first | apply Kd.V_alloc | apply Kd.V_drewN | apply Kd.V_drew)); exact HO772.out) hb); have n3_ := Aside0.mk (Kd.R_below (kr_ HO775.out) hb); have n4_ := Aside0.mk (blk_below (g := gb745) (o := .cells #[.int .i64 a0_0, .int .u64 a0_1, .int .u64 a0_2, .int .u64 a0_3, .int .u64 a0_4] 25 (0, 0)) (bk_ BK745.out) hb); have n5_ := Aside0.mk (blk_below (g := gb752) (o := .cells #[.int .i64 x753000_7, .int .u64 x753001_7, .int .u64 x753002_7, .int .u64 x753003_7, .int .u64 x753004_7] 29 (0, 0)) (bk_ BK752.out) hb); have n6_ := Aside0.mk (below_step (hg2_ GE745.out GE752.out) hb); clear HO764; clear HO769; clear HO772; clear HO775; clear BK745; clear BK752; clear HB; have HO764 := n0_; have HO769 := n1_; have HO772 := n2_; have HO775 := n3_; have BK745 := n4_; have BK752 := n5_; have HB := n6_; clear n0_ n1_ n2_ n3_ n4_ n5_ n6_; (try clear hb); (try clear hb2); (try clear hk); (try clear hi)))
   go_ret
   exact ⟨by first | rfl | (simp [errW_none, errW_some] <;> rfl) | (simp only [← hji22]; first | rfl | (simp [errW_none, errW_some] <;> rfl)) | (simp [*, errW_none, errW_some] <;> rfl), by repeat (first | (with_reducible first | exact HB.out | apply ba_ | apply bn_ | apply bd_ | refine below_set ?_ GE745.out | refine below_set ?_ GE752.out) | exact HB.out)⟩
end Go.Proofs.YtaeenefdbahfoaaDoor.H
namespace Go.Proofs.YtaeenefdbahfoaaDoor
set_option linter.unusedSimpArgs false
set_option linter.unusedVariables false
open Go.RowKit Go.Proofs.YtaeenefdbahfoaaDoorW.PrintWords Go.Proofs.YtaeenefdbahfoaaDoorW.PrintLast Go.Proofs.YtaeenefdbahfoaaDoorW.PrintMore
open H
open Go.RowKit
theorem some16 (K : Nat) (L : Int) (hL : 1 ≤ L ∧ L ≤ 3) (raw : List RC) (hr : raw.length ≤ 16) (hK : 41 ≤ K) : ∃ s, honeycomblaw04_Some.f K L raw = some s ∧ Srt s ∧ s.length ≤ 16 ∧ Bx L 100 s := by
  refine ⟨_, some4_f K L raw hK, ofL_srt _, ?_, ?_⟩
  · refine Nat.le_trans (ofL_le _) ?_
    rw [List.length_map, List.length_take]
    omega
  · intro c hc
    rw [ofL_mem] at hc
    obtain ⟨r, _, rfl⟩ := List.mem_map.1 hc
    have t1 := tmod_range r.f0 100 (by omega)
    have t2 := tmod_range r.f1 100 (by omega)
    have t3 : r.f2 % 2 = 0 ∨ r.f2 % 2 = 1 := by omega
    simp only [someG]
    refine ⟨?_, by omega, by omega⟩
    unfold hOK
    by_cases e : L = 1
    · rw [if_pos e]; exact ⟨.inl rfl, fun _ => rfl⟩
    · rw [if_neg e]; exact ⟨t3, fun h => absurd h e⟩
theorem whole_tb {L : Int} {b0 b1 s0 s1 : Nat} (hT : Tb L b0 b1 s0 s1) (hc : L ≠ 1 → checkT L b0 b0 s0 s0 = none) (K : Nat) (hK : 150 ≤ K) :
    ∃ c0 c1 d0 d1 : Nat, honeycomblaw07_whole.f K L b0 b1 s0 s1 = some (L, (c0 : Int), (c1 : Int), (d0 : Int), (d1 : Int)) ∧ Tb L c0 c1 d0 d1 := by
  obtain ⟨hL, _, e0, e1, l0, l1, l2, l3, hz⟩ := hT
  by_cases h : L = 1
  · subst h
    exact ⟨18054054079169302, 0, 10546641918665472585, 0, whole_hex K hK _ _ _ _, hL, whole_check, rfl, rfl, by decide, by decide, by decide, by decide, fun _ => ⟨rfl, rfl⟩⟩
  · exact ⟨b0, b0, s0, s0, whole_tri K L _ _ _ _ h, hL, hc h, e0, e0, l0, l0, l2, l2, fun e => absurd e h⟩
theorem some_whole (l : Int) (B B1 S S1 : Nat) (hB : B < 18446744073709551616) (hB1 : B1 < 18446744073709551616) (hS : S < 18446744073709551616) (hS1 : S1 < 18446744073709551616) {L : Int} {b0 b1 s0 s1 : Nat} (hsome : XSome5.f l B B1 S S1 = some (L, (b0 : Int), (b1 : Int), (s0 : Int), (s1 : Int))) : L ≠ 1 → checkT L b0 b0 s0 s0 = none := by
  obtain ⟨L', x0, x1, y0, y1, hs', _, _, _, h5⟩ := some_check l B B1 S S1 hB hB1 hS hS1
  rw [hsome] at hs'
  have e := Option.some.inj hs'
  simp only [Prod.mk.injEq] at e
  obtain ⟨e1, e2, e3, e4, e5⟩ := e
  subst e1
  rw [← e2, ← e4] at h5
  exact h5
theorem comm_j0 (K : Nat) (hK : 20000 ≤ K) {L : Int} {b0 b1 s0 s1 : Nat} (hT : Tb L b0 b1 s0 s1) (raw : List RC) (a3 : Int) : honeycomblaw07_IsoCommutes.j0 (K + 1) raw a3 L b0 b1 s0 s1 = some true := by
  obtain ⟨o, ho, hO⟩ : ∃ o : Nat, o < 12 ∧ Int.tmod (Go.bits .and .i64 a3 255) 12 = o := by
    rw [and_255, Int.tmod_eq_emod_of_nonneg (by omega)]
    exact ⟨(a3 % 256 % 12).toNat, by omega, by omega⟩
  have hm : 0 ≤ mn (raw.length : Int) 16 ∧ mn (raw.length : Int) 16 ≤ (raw.length : Int) ∧ mn (raw.length : Int) 16 ≤ 16 := by rw [mn_is]; omega
  obtain ⟨s, hs, hsrt, hlen, hbx⟩ := some16 K L hT.1 (raw.take (mn (raw.length : Int) 16).toNat) (by rw [List.length_take]; omega) (by omega)
  have hb1 : L = 1 → (b1 : Int) = 0 ∧ (s1 : Int) = 0 := fun e => by have := hT.2.2.2.2.2.2.2.2 e; omega
  obtain ⟨v, hv, hi⟩ := keeps_any L b0 b1 s0 s1 K o (by have := hT.1; omega) hb1 (by omega) ho hT.2.1
  rw [honeycomblaw07_IsoCommutes.j0, if_pos hm.1, if_pos hm.2.1, hs, Option.bind_some, hO, hv, Option.bind_some]
  cases v with
  | false => rfl
  | true =>
    have hk := hi.1 rfl
    have e1 := told4_f K s (by omega) (by omega)
    have e2 := commutes_f K hT (o : Int) (by omega) (by omega) s hsrt 100 (by omega) hbx hlen (by omega)
    have e3 := next_on hT o ho hk s (srt_nodup hsrt) hbx.half
    simp only [XTold5.f, ↓reduceIte, Option.bind_some]
    rw [e1, Option.bind_some, e2, Option.bind_some, decide_eq_true e3]
theorem isoCommutes_pure (l a3 : Int) (m : Bool) (B B1 S S1 : Nat) (raw : List RC) (hB : B < 18446744073709551616) (hB1 : B1 < 18446744073709551616) (hS : S < 18446744073709551616) (hS1 : S1 < 18446744073709551616) :
    ∃ K, honeycomblaw07_IsoCommutes.f K l B B1 S S1 m raw a3 = some true := by
  obtain ⟨K, hK⟩ : ∃ K : Nat, 100000 ≤ K := ⟨100000, Nat.le_refl _⟩
  refine ⟨K + 1, ?_⟩
  obtain ⟨L, b0, b1, s0, s1, hsome, ht⟩ := some_rule l B B1 S S1 hB hB1 hS hS1
  have hc : L ≠ 1 → checkT L b0 b0 s0 s0 = none := some_whole l B B1 S S1 hB hB1 hS hS1 hsome
  unfold honeycomblaw07_IsoCommutes.f
  rw [show XAwake07.f = some true from rfl, hsome]
  simp only [Option.bind_some, ↓reduceIte]
  cases m with
  | false =>
    simp only [Bool.false_eq_true, ↓reduceIte]
    exact comm_j0 K (by omega) ht raw a3
  | true =>
    obtain ⟨c0, c1, d0, d1, hw, ht'⟩ := whole_tb ht hc (K + 1) (by omega)
    simp only [↓reduceIte]
    rw [hw, Option.bind_some]
    exact comm_j0 K (by omega) ht' raw a3
theorem isoCommutes_walk (l b0 b1 s0 s1 : Int) (m : Bool) (A2 : Option Addr) (c2 : Nat) (l2 : List RC) (a3 : Int) (w : World) (hG : Six w) (hb0 : 0 ≤ b0) (hb0' : b0 < 18446744073709551616) (hb1 : 0 ≤ b1) (hb1' : b1 < 18446744073709551616) (hs0 : 0 ≤ s0) (hs0' : s0 < 18446744073709551616) (hs1 : 0 ≤ s1) (hs1' : s1 < 18446744073709551616)
    (hr : Kd.C k60 w A2 l2.length l2) (hc : l2.length ≤ c2) :
    Calls Tryd.prog 8 #[.agg #[.int .i64 l, .int .u64 b0, .int .u64 b1, .int .u64 s0, .int .u64 s1], .bool m, .slice A2 l2.length c2, .int .i64 a3] w fun e w' => e = .returned (.bool true) ∧ Below w.heap.size w w' := by
  obtain ⟨B, rfl⟩ := Int.eq_ofNat_of_zero_le hb0
  obtain ⟨B1, rfl⟩ := Int.eq_ofNat_of_zero_le hb1
  obtain ⟨S, rfl⟩ := Int.eq_ofNat_of_zero_le hs0
  obtain ⟨S1, rfl⟩ := Int.eq_ofNat_of_zero_le hs1
  obtain ⟨K, hK⟩ := isoCommutes_pure l a3 m B B1 S S1 l2 (by omega) (by omega) (by omega) (by omega)
  exact honeycomblaw07_IsoCommutes.calls K l B B1 S S1 m A2 c2 l2 a3 true w hG hr hc hK rfl
end Go.Proofs.YtaeenefdbahfoaaDoor
namespace Go.Proofs.YtaeenefdbahfoaaDoor
set_option linter.unusedSimpArgs false
set_option linter.unusedVariables false
open Go.ChangeShapes Go.WideShapes Go.ChangeAt Go.RowKit
open Go.ChangeMaps (open_string shut_string)
open Go.Proofs.YtaeenefdbahfoaaDoorW.PrintWords
set_option linter.unusedVariables false
theorem isoCommutes_laidOut : laidOutB Tryd.prog = true := by kernel_rfl
set_option maxRecDepth 100000 in
theorem isoCommutes_lifted (os : Os) (started : os.Started) (H : Type) (enc : TypeId × Value → H) :
    ReturnsInHanded {} Tryd.checked os 8 .any (fun w args => (Rows.isoCommutesSpec.pre enc Tryd.prog Tryd.f8 [] false w args ∧ laidMetH Tryd.prog laid1 w) ∧ sizedMet enc Tryd.prog Tryd.f8 (OpenSpec.ofChange Rows.isoCommutesSpec) false w args)
      (Rows.isoCommutesSpec.post enc Tryd.prog Tryd.f8 false true false false) := by
  refine returnsInHanded_of_change_and (C := Tryd.checked) (X := fun w _ => laidMetH Tryd.prog laid1 w) (fun _ _ _ hh h => h.of_heap hh) ownP started (by kernel_rfl) Tryd.func8
    (ChangeSpec.witness_shaped (enc := enc) (C := Tryd.checked) (os := os) (X := fun w _ => laidMetH Tryd.prog laid1 w) false (World.doorLaid Tryd.prog 27 os) #[.agg #[.int .i64 0, .int .u64 0, .int .u64 0, .int .u64 0, .int .u64 0], .bool false, .slice none 0 0, .int .i64 0] 8 rfl (World.shaped_of_RefB (by kernel_rfl) (by kernel_rfl)) (by kernel_rfl) (by kernel_rfl) (by kernel_rfl) (door_met os _)) ?_
  intro W base args ds gs before hval0 hW _ _ hL _
  have hval : ∀ (j : Nat) t v, Tryd.f8.params[j]? = some t → args[j]? = some v → Value.okWide Tryd.prog W .any base t v := hval0
  have hW' := hW
  obtain ⟨p, q, hA0, hV, rfl, hfz, hnd⟩ := hW
  have hA : DataW.TrodAll enc Tryd.prog W 0 (fun _ => true) true Tryd.f8.params.toList args.toList ds p := hA0
  rw [Tryd.params8] at hA hval
  obtain ⟨v0, vs0, d0, ds0, p0, q0, hargs, rfl, rfl, h0, r0⟩ := trodAll_cons hA
  obtain ⟨v1, vs1, d1, ds1, p1, q1, rfl, rfl, rfl, h1, r1⟩ := trodAll_cons r0
  obtain ⟨v2, vs2, d2, ds2, p2, q2, rfl, rfl, rfl, h2, r2⟩ := trodAll_cons r1
  obtain ⟨v3, vs3, d3, ds3, p3, q3, rfl, rfl, rfl, h3, r3⟩ := trodAll_cons r2
  obtain ⟨rfl, rfl, rfl⟩ := trodAll_nil r3
  obtain rfl : args = #[v0, v1, v2, v3] := by cases args; simp_all
  obtain ⟨rfl, rfl⟩ := trodVars_none hV
  obtain ⟨l0, a0, b0, c0, e0, rfl, rfl, rfl, wl0, wa0, wb0, wc0, we0⟩ := open_raw (hval 0 _ v0 rfl rfl) h0
  obtain ⟨a1, rfl, rfl, rfl⟩ := open_bool Tryd.underlying4 (hval 1 _ v1 rfl rfl) h1
  obtain ⟨a2, len2, cap2, rfl⟩ := okWide_slice Tryd.underlying45 (hval 2 _ v2 rfl rfl)
  have k2 := h2
  have lt2 : ∀ x ∈ p2, x.block < W.heap.size := by obtain ⟨m, hm⟩ := k2; exact DataW.trod_lt m _ _ _ hm
  obtain ⟨l2, rfl, hc2, hr2⟩ := open_rows0 Tryd.underlying45 (by kernel_rfl) (fun fu cs y hy => el_rc fu cs y hy) h2
  obtain ⟨a3, rfl, rfl, rfl, w3⟩ := open_int Tryd.underlying3 (hval 3 _ v3 rfl rfl) h3
  clear hA0 hval0
  refine (isoCommutes_walk l0 a0 b0 c0 e0 a1 a2 cap2 l2 a3 W (six_of_laid hL) (u64_rng wa0).1 (u64_rng wa0).2 (u64_rng wb0).1 (u64_rng wb0).2 (u64_rng wc0).1 (u64_rng wc0).2 (u64_rng we0).1 (u64_rng we0).2 hr2 hc2).mono fun e W' ⟨he, bel⟩ => ?_
  subst he
  exact ⟨_, rfl, _, _, _, [], _, [], hW', trodAll_mk1 (shut_bool Tryd.underlying4 _), (trodAll_cons_mk (shut_raw wl0 wa0 wb0 wc0 we0) (trodAll_cons_mk (shut_bool Tryd.underlying4 _) (trodAll_cons_mk (Below.trod isoCommutes_laidOut (by kernel_rfl) (of_decide_eq_true (by kernel_rfl)) k2 bel lt2) (trodAll_cons_mk (shut_int Tryd.underlying3 w3) trodAll_mk0)))), rfl, bel.frame _, fun h => by cases h⟩
theorem isoCommutes_holds : Rows.IsoCommutesSaid :=
  OpenClaim.holds_of_wide 8 Tryd.f8 rfl rfl rfl rfl rfl rfl rfl ⟨rfl, rfl, rfl, rfl, rfl⟩ rfl rfl rfl rfl rfl (by kernel_rfl) Tryd.func8 (by kernel_rfl)
    (of_decide_eq_true (by kernel_rfl)) (by unfold Func.isWrapper; first | (rw [if_pos (by decide +kernel)]; kernel_rfl) | (rw [if_neg (by decide +kernel)]; exact ⟨rfl, rfl⟩))
    (fun os started H enc _ => isoCommutes_lifted os started H enc)
theorem isoCommutes_card : Rows.IsoCommutesCardSaid :=
  Claim7.holds_tied_plain_at .later [] [.data] true (true, "5343993735a6796f50623d127ce6b9207b28942770deceed6d4303fa040c3cfe") true
    isoCommutes_holds (fun _ h => by cases h) (by kernel_rfl) (fun _ h => by cases h) isoCommutes_row_tie rfl ⟨rfl, rfl⟩ (by kernel_rfl) rfl
    (fun f fn hf hfn => by
      obtain rfl : f = 8 := Option.some.inj ((show Tryd.prog.funcNamed "honeycomb/honeycomblaw07.IsoCommutes" = some 8 by kernel_rfl).symm.trans hf) |>.symm
      obtain rfl : fn = Tryd.f8 := (Option.some.inj (Tryd.func8.symm.trans hfn)).symm
      refine ⟨by kernel_rfl, fun j t ht => ?_⟩
      have hall : (Tryd.f8.params.toList.all fun t => !Tryd.prog.wantsStandIn t) = true := by kernel_rfl
      have hmem : t ∈ Tryd.f8.params.toList := by
        have := Array.mem_of_getElem? ht
        simpa using this
      have := List.all_eq_true.1 hall t hmem
      exact (by simpa using this : Tryd.prog.wantsStandIn t = false))
    (by kernel_rfl)
#print axioms isoCommutes_card
end Go.Proofs.YtaeenefdbahfoaaDoor
