/- IsoWitness is true for every input, with what its row says of the package variables that it reads. -/
import Derived.Test.YtaeenefdbahfoaaDoorKIsoWitness1
import Derived.Test.YtaeenefdbahfoaaDoorKIsoWitness8
import Derived.Test.YtaeenefdbahfoaaDoorKIsoWitness5
import Derived.Test.YtaeenefdbahfoaaDoorKIsoWitness3
import Derived.Test.YtaeenefdbahfoaaDoorKIsoWitness11
import Derived.Test.YtaeenefdbahfoaaDoorKIsoWitness4
import Derived.Test.YtaeenefdbahfoaaDoorKIsoWitness9
import Derived.Test.YtaeenefdbahfoaaDoorCards
namespace Go.Proofs.YtaeenefdbahfoaaDoor
set_option linter.unusedSimpArgs false
set_option linter.unusedVariables false
set_option maxRecDepth 100000
set_option maxHeartbeats 16000000
open Go.RowKit Go.Proofs.YtaeenefdbahfoaaDoorW.PrintWords Go.Proofs.YtaeenefdbahfoaaDoorW.PrintLast Go.Proofs.YtaeenefdbahfoaaDoorW.PrintMore
namespace H
attribute [local go_sem] max2_int min2_int max_two min_two max_three min_three max_four min_four
mutual
def hIW.j0 : Nat → Int → Int → Int → Int → Int → Int → Int → Option (Bool)
 | 0, _, _, _, _, _, _, _ => none
 | k + 1, x1, x2, q00, q01, q02, q03, q04 => if (Go.bits .and .i64 x1 2) = 2 then (if 0 ≤ (Go.bits .and .i64 x2 3) then (hIW.j1 k q00 q01 q02 (Go.bits .xor .u64 q03 (shl .u64 1 (Go.bits .and .i64 x2 3))) q04) else (none)) else (hIW.j1 k q00 q01 q02 q03 q04)
def hIW.j1 : Nat → Int → Int → Int → Int → Int → Option (Bool)
 | 0, _, _, _, _, _ => none
 | k + 1, q00, q01, q02, q03, q04 => (iso_Check.f k q00 q01 q02 q03 q04).bind fun bt756 => (hIW.l0 k bt756.2.2.1 bt756.2.2.2 true 0 q00 q01 q02 q03 q04 bt756.1 bt756.2.1)
def hIW.l0 : Nat → Bool → Option Int → Bool → Int → Int → Int → Int → Int → Int → List (S65) → Int → Option (Bool)
 | 0, _, _, _, _, _, _, _, _, _, _, _ => none
 | k + 1, x9, x10, x11, x40, q00, q01, q02, q03, q04, q10, q11 => if x40 < 12 then (if x11 = true then ((XTold5.f q00 q01 q02 q03 q04).bind fun bt763 => ((XRKeeps.f k bt763.1 bt763.2.1 bt763.2.2 x40).bind fun t770 => (hIW.l0 k x9 x10 t770 (wrap64 (x40 + 1)) q00 q01 q02 q03 q04 q10 q11))) else (hIW.l0 k x9 x10 false (wrap64 (x40 + 1)) q00 q01 q02 q03 q04 q10 q11)) else (if x10.isNone = true then (hIW.j3 k x9 (x9 == x11) q00 q01 q02 q03 q04 q10 q11) else (hIW.j3 k x9 true q00 q01 q02 q03 q04 q10 q11))
def hIW.j3 : Nat → Bool → Bool → Int → Int → Int → Int → Int → List (S65) → Int → Option (Bool)
 | 0, _, _, _, _, _, _, _, _, _ => none
 | k + 1, x9, x57, q00, q01, q02, q03, q04, q10, q11 => if x57 = true then (some false) else (if x9 = true then ((set_Set_Check.f k q10 q00).bind fun t772 => (if t772.isNone = true then ((axis_Operator_Good.f q11).bind fun t774 => (if t774 = true then ((XTold5.f q00 q01 q02 q03 q04).bind fun bt775 => ((honeycomblaw04_Told.f k q10).bind fun t782 => ((honeycomblaw07_commutes.f k bt775.1 bt775.2.1 bt775.2.2 q11 t782).bind fun t785 => (some (!t785))))) else (some false))) else (some false))) else (if (q10.length : Int) = 0 then (some (q11 == 0)) else (some false)))
end
def hIW.f (k : Nat) (a0_0 : Int) (a0_1 : Int) (a0_2 : Int) (a0_3 : Int) (a0_4 : Int) (a1 : Int) (a2 : Int) : Option (Bool) := (XAwake07.f).bind fun t744 => (if t744 = true then ((XSome5.f a0_0 a0_1 a0_2 a0_3 a0_4).bind fun bt745 => (if (Go.bits .and .i64 a1 1) = 1 then ((honeycomblaw07_whole.f k bt745.1 bt745.2.1 bt745.2.2.1 bt745.2.2.2.1 bt745.2.2.2.2).bind fun bt751 => (hIW.j0 k a1 a2 bt751.1 bt751.2.1 bt751.2.2.1 bt751.2.2.2.1 bt751.2.2.2.2)) else (hIW.j0 k a1 a2 bt745.1 bt745.2.1 bt745.2.2.1 bt745.2.2.2.1 bt745.2.2.2.2))) else (some false))
def hIW.T7 : Bool × List (List Nat × List Nat) := (true, [([], []), ([0], [0]), ([1], [1]), ([], []), ([3], [3]), ([4], [4]), ([2, 5], [2, 5]), ([], []), ([7, 0, 1, 2, 3, 4, 5, 6], [7]), ([8, 6, 0, 1, 2, 3, 4, 5, 6], [6, 8])])
def hIW.B7 : List Nat := [0, 1, 3, 0, 8, 24, 63, 0, 255, 511]
theorem hIW.tab7 : rtab .any (opsOf Tryd.f9 7) = hIW.T7 := by kernel_rfl
theorem hIW.bits7 : waitsOk hIW.T7.2 hIW.B7 = true := by kernel_rfl
def hIW.T19 : Bool × List (List Nat × List Nat) := (true, [([], []), ([0], [0]), ([], []), ([2], [2]), ([1, 3], [1, 3]), ([4], [4]), ([5, 4], [5]), ([6], [6]), ([7, 6], [6, 7]), ([8, 6, 6], [6, 8]), ([6, 9], [6, 9]), ([10, 9], [10]), ([11], [11]), ([12, 11, 11], [11, 12]), ([11], [11]), ([14, 11], [11, 14]), ([11], [11]), ([16, 11], [11, 16]), ([17, 13, 11], [11, 17]), ([13, 15, 18, 18, 11], [11, 13, 15, 18]), ([19, 11], [11, 19]), ([11, 20], [11, 20]), ([21, 19, 0, 1, 2, 3, 4, 5, 6, 7, 8, 9, 10, 11, 12, 13, 14, 15, 16, 17, 18, 19, 20, 21], [21])])
def hIW.B19 : List Nat := [0, 1, 0, 4, 15, 31, 63, 127, 255, 511, 1023, 2047, 4095, 8191, 4095, 20479, 4095, 69631, 212991, 524287, 1048575, 2097151, 4194303]
theorem hIW.tab19 : rtab .any (opsOf Tryd.f9 19) = hIW.T19 := by kernel_rfl
theorem hIW.bits19 : waitsOk hIW.T19.2 hIW.B19 = true := by kernel_rfl
theorem hIW.calls (k : Nat) (a0_0 : Int) (a0_1 : Int) (a0_2 : Int) (a0_3 : Int) (a0_4 : Int) (a1 : Int) (a2 : Int) (r : Bool) (w : World) (hGSix : Six w) (h : hIW.f k a0_0 a0_1 a0_2 a0_3 a0_4 a1 a2 = some r) (hr_ : r = true) :
  Calls Tryd.prog 9 #[.agg #[.int .i64 a0_0, .int .u64 a0_1, .int .u64 a0_2, .int .u64 a0_3, .int .u64 a0_4], .int .i64 a1, .int .i64 a2] w fun e w' => e = .returned (.bool r) ∧ Below w.heap.size w w' := by
 have Hr_ := Aside0.mk hr_
 clear hr_
 have hu25 := Tryd.underlying25
 have hu29 := Tryd.underlying29
 have hu37 := Tryd.underlying37
 have hu39 := Tryd.underlying39
 have hu87 := Tryd.underlying87
 have HB := Aside0.mk (Below.refl w.heap.size w)
 have HGSix := Aside0.mk hGSix
 clear hGSix
 have H : ((XAwake07.f).bind fun t744 => (if t744 = true then ((XSome5.f a0_0 a0_1 a0_2 a0_3 a0_4).bind fun bt745 => (if (Go.bits .and .i64 a1 1) = 1 then ((honeycomblaw07_whole.f k bt745.1 bt745.2.1 bt745.2.2.1 bt745.2.2.2.1 bt745.2.2.2.2).bind fun bt751 => (hIW.j0 k a1 a2 bt751.1 bt751.2.1 bt751.2.2.1 bt751.2.2.2.1 bt751.2.2.2.2)) else (hIW.j0 k a1 a2 bt745.1 bt745.2.1 bt745.2.2.1 bt745.2.2.2.1 bt745.2.2.2.2))) else (some false))) = some r := h
 clear h
 replace H := Option.bind_eq_some_iff.mp H
 obtain ⟨t744, A40, H⟩ := H
 replace H : (if t744 = true then ((XSome5.f a0_0 a0_1 a0_2 a0_3 a0_4).bind fun bt745 => (if (Go.bits .and .i64 a1 1) = 1 then ((honeycomblaw07_whole.f k bt745.1 bt745.2.1 bt745.2.2.1 bt745.2.2.2.1 bt745.2.2.2.2).bind fun bt751 => (hIW.j0 k a1 a2 bt751.1 bt751.2.1 bt751.2.2.1 bt751.2.2.2.1 bt751.2.2.2.2)) else (hIW.j0 k a1 a2 bt745.1 bt745.2.1 bt745.2.2.1 bt745.2.2.2.1 bt745.2.2.2.2))) else (some false)) = some r := H
 have A4 := Aside0.mk A40
 clear A40
 by_cases c5 : t744 = true
 rotate_left
 ·
  replace c5 := Bool.eq_false_iff.mpr c5
  subst c5
  have H1 : (some false) = some r := by rw [if_neg (show ¬ (false = true) by decide)] at H; exact H
  clear H
  have H := H1
  clear H1
  exact absurd ((Option.some.inj H).trans Hr_.out) (by decide)
 subst c5
 have H1 : ((XSome5.f a0_0 a0_1 a0_2 a0_3 a0_4).bind fun bt745 => (if (Go.bits .and .i64 a1 1) = 1 then ((honeycomblaw07_whole.f k bt745.1 bt745.2.1 bt745.2.2.1 bt745.2.2.2.1 bt745.2.2.2.2).bind fun bt751 => (hIW.j0 k a1 a2 bt751.1 bt751.2.1 bt751.2.2.1 bt751.2.2.2.1 bt751.2.2.2.2)) else (hIW.j0 k a1 a2 bt745.1 bt745.2.1 bt745.2.2.1 bt745.2.2.2.1 bt745.2.2.2.2))) = some r := by rw [if_pos rfl] at H; exact H
 clear H
 have H := H1
 clear H1
 replace H := Option.bind_eq_some_iff.mp H
 obtain ⟨⟨t745, t746, t747, t748, t749⟩, A60, H⟩ := H
 replace H : (if (Go.bits .and .i64 a1 1) = 1 then ((honeycomblaw07_whole.f k t745 t746 t747 t748 t749).bind fun bt751 => (hIW.j0 k a1 a2 bt751.1 bt751.2.1 bt751.2.2.1 bt751.2.2.2.1 bt751.2.2.2.2)) else (hIW.j0 k a1 a2 t745 t746 t747 t748 t749)) = some r := H
 have A6 := Aside0.mk A60
 clear A60
 have HC7 := Aside0.mk H
 clear H
 go_enter Tryd.func9, Tryd.ntmps9
 go_upto_if 19 with (first | ((with_reducible refine gate_dst (N := 3) rfl ?_); refine bx_ 3 #[.int .i64 a0_0, .int .u64 a0_1, .int .u64 a0_2, .int .u64 a0_3, .int .u64 a0_4] 25 ?_; intro gb743 hg w8 hbox hb; have BK743 := Aside0.mk (hbox); have GW743 := Aside0.mk ((by rw [hg]; exact (below_size hb_) : w.heap.size ≤ gb743)); have GE743 := GW743; replace HB := Aside0.mk (below_step hb_ hb); clear hb hbox hg) | ((with_reducible refine gate_callee (f := 13) rfl ?_); refine goesL_ (some 13) rfl rfl Tryd.func13 (by kernel_rfl) rfl #[] rfl ar_ ?_; (with_reducible refine (XAwake07.calls  true _ ?side1 A4.out).mono ?_); (case side1 => exact HGSix.out.below (hg_ GE743.out)); rintro e w9 ⟨rfl, hb⟩; refine ⟨_, rfl, ?_⟩; replace BK743 := bb_ BK743.out hb; replace HB := Aside0.mk (below_step (hg_ GE743.out) hb); (try clear hb); (try clear hb2); (try clear hk); (try clear hi); obtain ⟨hcz10_0, hcz10_1, hcz10_2, hcz10_3, hcz10_4⟩ := cz5_ BK743.out; obtain ⟨hfz10_0, hfz10_1, hfz10_2, hfz10_3, hfz10_4⟩ := fz5_ BK743.out) | ((with_reducible refine gate_callee (f := 14) rfl ?_); refine goesL_ (some 16) rfl rfl Tryd.func14 (by kernel_rfl) rfl #[.agg #[.int .i64 a0_0, .int .u64 a0_1, .int .u64 a0_2, .int .u64 a0_3, .int .u64 a0_4]] rfl ar_ ?_; (with_reducible refine (XSome5.calls a0_0 a0_1 a0_2 a0_3 a0_4 t745 t746 t747 t748 t749 _ A6.out).mono ?_); rintro e w11 ⟨rfl, hb⟩; refine ⟨_, rfl, ?_⟩; replace BK743 := bb_ BK743.out hb; replace HB := Aside0.mk (below_step (hg_ GE743.out) hb); (try clear hb); (try clear hb2); (try clear hk); (try clear hi)) | ((with_reducible refine gate_dst (N := 7) rfl ?_); refine bx_ 7 #[.int .i64 0, .int .u64 0, .int .u64 0, .int .u64 0, .int .u64 0] 29 ?_; intro gb750 hg w12 hbox hb; have BK750 := Aside0.mk (hbox); have GW750 := Aside0.mk ((by rw [hg]; exact (below_size (hg_ GE743.out)) : w.heap.size ≤ gb750)); have GE750 := GW750; have NB743_750 := Aside0.mk ((by rw [hg]; exact ne1_ BK743.out : gb743 ≠ gb750)); have NB750_743 := Aside0.mk ((by rw [hg]; exact ne2_ BK743.out : gb750 ≠ gb743)); replace BK743 := bb_ BK743.out hb; replace HB := Aside0.mk (below_step (hg_ GE743.out) hb); clear hb hbox hg; have hnb13 := NB750_743.out; have hnc13 := NB743_750.out; obtain ⟨hcz14_0, hcz14_1, hcz14_2, hcz14_3, hcz14_4⟩ := cz5_ BK750.out; obtain ⟨hfz14_0, hfz14_1, hfz14_2, hfz14_3, hfz14_4⟩ := fz5_ BK750.out))
 (try simp only [Act.put, List.setIfInBounds_toArray, List.set_cons_zero, List.set_cons_succ])
 go_cut [] (fun wc => ∃ (kq : Nat) (q00_6 : Int) (q01_6 : Int) (q02_6 : Int) (q03_6 : Int) (q04_6 : Int), Aside0 (hIW.j0 kq a1 a2 q00_6 q01_6 q02_6 q03_6 q04_6 = some r) ∧ Aside0 (kq ≤ k) ∧ Aside0 (wc.heap[gb743]? = some (.cells #[.int .i64 a0_0, .int .u64 a0_1, .int .u64 a0_2, .int .u64 a0_3, .int .u64 a0_4] 25 (0, 0))) ∧ Aside0 (wc.heap[gb750]? = some (.cells #[.int .i64 q00_6, .int .u64 q01_6, .int .u64 q02_6, .int .u64 q03_6, .int .u64 q04_6] 29 (0, 0))) ∧ Aside0 (Below w.heap.size w wc))
 case first =>
  have H := HC7.out
  clear HC7
  by_cases c15 : (Go.bits .and .i64 a1 1) = 1
  rotate_left
  ·
   rw [if_neg c15] at H
   have c15b0 : ((Go.bits .and .i64 a1 1) == 1) = false := beq_eq_false_iff_ne.mpr c15
   have c15b1 : ((Go.bits .and .i64 a1 1) != 1) = true := bne_iff_ne.mpr c15
   (first | rw [c15b0] | (simp only [i64_w, i32_w]; rw [c15b0]) | skip)
   have H' := Aside0.mk H
   clear H
   go_wp2
   go_meet
   case rel => exact ⟨_, (t745), (t746), (t747), (t748), (t749), H', ⟨by first | omega | exact Nat.le_refl _⟩, ⟨by (with_reducible repeat (first | apply bN_ | apply bD_ | apply bA_)); refine blk_far ?_ NB743_750.out _; (with_reducible repeat (first | apply bN_ | apply bD_ | apply bA_)); refine blk_far ?_ NB743_750.out _; (with_reducible repeat (first | apply bN_ | apply bD_ | apply bA_)); refine blk_far ?_ NB743_750.out _; (with_reducible repeat (first | apply bN_ | apply bD_ | apply bA_)); refine blk_far ?_ NB743_750.out _; (with_reducible repeat (first | apply bN_ | apply bD_ | apply bA_)); refine blk_far ?_ NB743_750.out _; (with_reducible repeat (first | apply bN_ | apply bD_ | apply bA_)); exact BK743.out⟩, ⟨by (with_reducible repeat (first | apply bN_ | apply bD_ | apply bA_)); refine blk_put (cs := #[.int .i64 t745, .int .u64 t746, .int .u64 t747, .int .u64 t748, .int .u64 0]) ?_ 4 _ rfl; (with_reducible repeat (first | apply bN_ | apply bD_ | apply bA_)); refine blk_put (cs := #[.int .i64 t745, .int .u64 t746, .int .u64 t747, .int .u64 0, .int .u64 0]) ?_ 3 _ rfl; (with_reducible repeat (first | apply bN_ | apply bD_ | apply bA_)); refine blk_put (cs := #[.int .i64 t745, .int .u64 t746, .int .u64 0, .int .u64 0, .int .u64 0]) ?_ 2 _ rfl; (with_reducible repeat (first | apply bN_ | apply bD_ | apply bA_)); refine blk_put (cs := #[.int .i64 t745, .int .u64 0, .int .u64 0, .int .u64 0, .int .u64 0]) ?_ 1 _ rfl; (with_reducible repeat (first | apply bN_ | apply bD_ | apply bA_)); refine blk_put (cs := #[.int .i64 0, .int .u64 0, .int .u64 0, .int .u64 0, .int .u64 0]) ?_ 0 _ rfl; (with_reducible repeat (first | apply bN_ | apply bD_ | apply bA_)); exact BK750.out⟩, ⟨by repeat (first | (with_reducible first | exact HB.out | apply ba_ | apply bn_ | apply bd_ | refine below_set ?_ GE743.out | refine below_set ?_ GE750.out) | exact HB.out)⟩⟩
  rw [if_pos c15] at H
  have c15b0 : ((Go.bits .and .i64 a1 1) == 1) = true := beq_iff_eq.mpr c15
  have c15b1 : ((Go.bits .and .i64 a1 1) != 1) = false := bne_eq_false_iff_eq.mpr c15
  clear c15
  (first | rw [c15b0] | (simp only [i64_w, i32_w]; rw [c15b0]) | skip)
  replace H := Option.bind_eq_some_iff.mp H
  obtain ⟨⟨t751, t752, t753, t754, t755⟩, A160, H⟩ := H
  replace H : (hIW.j0 k a1 a2 t751 t752 t753 t754 t755) = some r := H
  have A16 := Aside0.mk A160
  clear A160
  have H' := Aside0.mk H
  clear H
  have hnb17 := NB750_743.out
  have hnc17 := NB743_750.out
  obtain ⟨hcz18_0, hcz18_1, hcz18_2, hcz18_3, hcz18_4⟩ := cz5_ BK750.out
  obtain ⟨hfz18_0, hfz18_1, hfz18_2, hfz18_3, hfz18_4⟩ := fz5_ BK750.out
  go_wp2_with (first | ((with_reducible refine gate_callee (f := 39) rfl ?_); refine goesL_ (some 21) rfl rfl Tryd.func39 (by kernel_rfl) rfl #[.agg #[.int .i64 t745, .int .u64 t746, .int .u64 t747, .int .u64 t748, .int .u64 t749]] rfl ar_ ?_; (with_reducible refine (honeycomblaw07_whole.calls k t745 t746 t747 t748 t749 t751 t752 t753 t754 t755 _ A16.out).mono ?_); rintro e w19 ⟨rfl, hb⟩; refine ⟨_, rfl, ?_⟩; replace BK743 := Aside0.mk (blk_below (g := gb743) (o := .cells #[.int .i64 a0_0, .int .u64 a0_1, .int .u64 a0_2, .int .u64 a0_3, .int .u64 a0_4] 25 (0, 0)) (by (with_reducible repeat (first | apply bN_ | apply bD_ | apply bA_)); refine blk_far ?_ NB743_750.out _; (with_reducible repeat (first | apply bN_ | apply bD_ | apply bA_)); refine blk_far ?_ NB743_750.out _; (with_reducible repeat (first | apply bN_ | apply bD_ | apply bA_)); refine blk_far ?_ NB743_750.out _; (with_reducible repeat (first | apply bN_ | apply bD_ | apply bA_)); refine blk_far ?_ NB743_750.out _; (with_reducible repeat (first | apply bN_ | apply bD_ | apply bA_)); refine blk_far ?_ NB743_750.out _; (with_reducible repeat (first | apply bN_ | apply bD_ | apply bA_)); exact BK743.out) hb); replace BK750 := Aside0.mk (blk_below (g := gb750) (o := .cells #[.int .i64 t745, .int .u64 t746, .int .u64 t747, .int .u64 t748, .int .u64 t749] 29 (0, 0)) (by (with_reducible repeat (first | apply bN_ | apply bD_ | apply bA_)); refine blk_put (cs := #[.int .i64 t745, .int .u64 t746, .int .u64 t747, .int .u64 t748, .int .u64 0]) ?_ 4 _ rfl; (with_reducible repeat (first | apply bN_ | apply bD_ | apply bA_)); refine blk_put (cs := #[.int .i64 t745, .int .u64 t746, .int .u64 t747, .int .u64 0, .int .u64 0]) ?_ 3 _ rfl; (with_reducible repeat (first | apply bN_ | apply bD_ | apply bA_)); refine blk_put (cs := #[.int .i64 t745, .int .u64 t746, .int .u64 0, .int .u64 0, .int .u64 0]) ?_ 2 _ rfl; (with_reducible repeat (first | apply bN_ | apply bD_ | apply bA_)); refine blk_put (cs := #[.int .i64 t745, .int .u64 0, .int .u64 0, .int .u64 0, .int .u64 0]) ?_ 1 _ rfl; (with_reducible repeat (first | apply bN_ | apply bD_ | apply bA_)); refine blk_put (cs := #[.int .i64 0, .int .u64 0, .int .u64 0, .int .u64 0, .int .u64 0]) ?_ 0 _ rfl; (with_reducible repeat (first | apply bN_ | apply bD_ | apply bA_)); exact BK750.out) hb); replace HB := Aside0.mk (below_step (hg2_ GE743.out GE750.out) hb); (try clear hb); (try clear hb2); (try clear hk); (try clear hi); obtain ⟨hcz20_0, hcz20_1, hcz20_2, hcz20_3, hcz20_4⟩ := cz5_ BK750.out; obtain ⟨hfz20_0, hfz20_1, hfz20_2, hfz20_3, hfz20_4⟩ := fz5_ BK750.out))
  go_meet
  case rel => exact ⟨_, (t751), (t752), (t753), (t754), (t755), H', ⟨by first | omega | exact Nat.le_refl _⟩, ⟨by (with_reducible repeat (first | apply bN_ | apply bD_ | apply bA_)); refine blk_far ?_ NB743_750.out _; (with_reducible repeat (first | apply bN_ | apply bD_ | apply bA_)); refine blk_far ?_ NB743_750.out _; (with_reducible repeat (first | apply bN_ | apply bD_ | apply bA_)); refine blk_far ?_ NB743_750.out _; (with_reducible repeat (first | apply bN_ | apply bD_ | apply bA_)); refine blk_far ?_ NB743_750.out _; (with_reducible repeat (first | apply bN_ | apply bD_ | apply bA_)); refine blk_far ?_ NB743_750.out _; (with_reducible repeat (first | apply bN_ | apply bD_ | apply bA_)); exact BK743.out⟩, ⟨by (with_reducible repeat (first | apply bN_ | apply bD_ | apply bA_)); refine blk_put (cs := #[.int .i64 t751, .int .u64 t752, .int .u64 t753, .int .u64 t754, .int .u64 t749]) ?_ 4 _ rfl; (with_reducible repeat (first | apply bN_ | apply bD_ | apply bA_)); refine blk_put (cs := #[.int .i64 t751, .int .u64 t752, .int .u64 t753, .int .u64 t748, .int .u64 t749]) ?_ 3 _ rfl; (with_reducible repeat (first | apply bN_ | apply bD_ | apply bA_)); refine blk_put (cs := #[.int .i64 t751, .int .u64 t752, .int .u64 t747, .int .u64 t748, .int .u64 t749]) ?_ 2 _ rfl; (with_reducible repeat (first | apply bN_ | apply bD_ | apply bA_)); refine blk_put (cs := #[.int .i64 t751, .int .u64 t746, .int .u64 t747, .int .u64 t748, .int .u64 t749]) ?_ 1 _ rfl; (with_reducible repeat (first | apply bN_ | apply bD_ | apply bA_)); refine blk_put (cs := #[.int .i64 t745, .int .u64 t746, .int .u64 t747, .int .u64 t748, .int .u64 t749]) ?_ 0 _ rfl; (with_reducible repeat (first | apply bN_ | apply bD_ | apply bA_)); exact BK750.out⟩, ⟨by repeat (first | (with_reducible first | exact HB.out | apply ba_ | apply bn_ | apply bd_ | refine below_set ?_ GE743.out | refine below_set ?_ GE750.out) | exact HB.out)⟩⟩
 case rest =>
  clear HC7
  try clear c1
  try clear p2
  try clear c3
  try clear c5
  try clear c9
  try clear c13
  try clear c14
  try clear c15
  try clear c15b0
  try clear c15b1
  try clear c17
  try clear hcz10_0
  try clear hcz10_1
  try clear hcz10_2
  try clear hcz10_3
  try clear hcz10_4
  try clear hcz14_0
  try clear hcz14_1
  try clear hcz14_2
  try clear hcz14_3
  try clear hcz14_4
  try clear hcz18_0
  try clear hcz18_1
  try clear hcz18_2
  try clear hcz18_3
  try clear hcz18_4
  try clear hcz20_0
  try clear hcz20_1
  try clear hcz20_2
  try clear hcz20_3
  try clear hcz20_4
  try clear hfz10_0
  try clear hfz10_1
  try clear hfz10_2
  try clear hfz10_3
  try clear hfz10_4
  try clear hfz14_0
  try clear hfz14_1
  try clear hfz14_2
  try clear hfz14_3
  try clear hfz14_4
  try clear hfz18_0
  try clear hfz18_1
  try clear hfz18_2
  try clear hfz18_3
  try clear hfz18_4
  try clear hfz20_0
  try clear hfz20_1
  try clear hfz20_2
  try clear hfz20_3
  try clear hfz20_4
  obtain ⟨kq, q00_6, q01_6, q02_6, q03_6, q04_6, HA, HJ6, BK743, BK750, HB⟩ := hcut
  cases kq with
  | zero => exact absurd HA.out (by simp [hIW.j0])
  | succ kj6 =>
   have H := HA.out
   clear HA
   simp only [hIW.j0] at H
   have HC21 := Aside0.mk H
   clear H
   go_upto_if 24 with (fail)
   go_cut [] (fun wc => ∃ (kq : Nat) (q03_20 : Int) (q04_20 : Int), Aside0 (hIW.j1 kq q00_6 q01_6 q02_6 q03_20 q04_20 = some r) ∧ Aside0 (kq ≤ kj6) ∧ Aside0 (wc.heap[gb743]? = some (.cells #[.int .i64 a0_0, .int .u64 a0_1, .int .u64 a0_2, .int .u64 a0_3, .int .u64 a0_4] 25 (0, 0))) ∧ Aside0 (wc.heap[gb750]? = some (.cells #[.int .i64 q00_6, .int .u64 q01_6, .int .u64 q02_6, .int .u64 q03_20, .int .u64 q04_20] 29 (0, 0))) ∧ Aside0 (Below w.heap.size w wc))
   case first =>
    have H := HC21.out
    clear HC21
    by_cases c22 : (Go.bits .and .i64 a1 2) = 2
    rotate_left
    ·
     rw [if_neg c22] at H
     have c22b0 : ((Go.bits .and .i64 a1 2) == 2) = false := beq_eq_false_iff_ne.mpr c22
     have c22b1 : ((Go.bits .and .i64 a1 2) != 2) = true := bne_iff_ne.mpr c22
     (first | rw [c22b0] | (simp only [i64_w, i32_w]; rw [c22b0]) | skip)
     have H' := Aside0.mk H
     clear H
     go_wp2
     go_meet
     case rel => exact ⟨_, (q03_6), (q04_6), H', ⟨by have := HJ6.out; first | omega | exact Nat.le_refl _⟩, ⟨bk_ BK743.out⟩, ⟨bk_ BK750.out⟩, ⟨by repeat (first | (with_reducible first | exact HB.out | apply ba_ | apply bn_ | apply bd_ | refine below_set ?_ GE743.out | refine below_set ?_ GE750.out) | exact HB.out)⟩⟩
    rw [if_pos c22] at H
    have c22b0 : ((Go.bits .and .i64 a1 2) == 2) = true := beq_iff_eq.mpr c22
    have c22b1 : ((Go.bits .and .i64 a1 2) != 2) = false := bne_eq_false_iff_eq.mpr c22
    clear c22
    (first | rw [c22b0] | (simp only [i64_w, i32_w]; rw [c22b0]) | skip)
    by_cases c23 : 0 ≤ (Go.bits .and .i64 a2 3)
    rotate_left
    ·
     rw [if_neg c23] at H
     exact absurd H (by simp)
    rw [if_pos c23] at H
    have c23b0 := eq_true c23
    have c23b1 : decide (0 ≤ (Go.bits .and .i64 a2 3)) = true := decide_eq_true c23
    clear c23
    obtain ⟨ji24, hji24⟩ : ∃ j_ : Int, (shl .u64 1 (Go.bits .and .i64 a2 3)) = j_ := ⟨_, rfl⟩
    replace H : (hIW.j1 kj6 q00_6 q01_6 q02_6 (Go.bits .xor .u64 q03_6 (ji24)) q04_6) = some r := by first | (rw [hji24] at H; exact H) | (simp only [hji24] at H ⊢; exact H)
    have hji24_ : (IntKind.u64.wrap (1 * 2 ^ min (Go.bits .and .i64 a2 3).toNat 64)) = ji24 := hji24
    have hji24z : (Go.bits .and .i64 a2 3) ≤ 64 → (IntKind.u64.wrap (1 * 2 ^ (Go.bits .and .i64 a2 3).toNat)) = ji24 := shl_small hji24
    have hji24u : (IntKind.u64.wrap (2 ^ min (Go.bits .and .i64 a2 3).toNat 64)) = ji24 := by have h_ := hji24_; rw [Int.one_mul] at h_; exact h_
    have hji24v : (Go.bits .and .i64 a2 3) ≤ 64 → (IntKind.u64.wrap (2 ^ (Go.bits .and .i64 a2 3).toNat)) = ji24 := fun hle_ => by have h_ := hji24z hle_; rw [Int.one_mul] at h_; exact h_
    have H' := Aside0.mk H
    clear H
    try go_wp2
    replace BK743 := Aside0.mk (blk_drew BK743.out)
    replace BK750 := Aside0.mk (blk_drew BK750.out)
    replace HB := Aside0.mk (below_drew1 HB.out)
    refine start_ (n := 10) (S := fun w' => w'.cell? ⟨gb750, 0, none⟩ = some (.int .i64 q00_6) ∧ w'.cell? ⟨gb750, 1, none⟩ = some (.int .u64 q01_6) ∧ w'.cell? ⟨gb750, 2, none⟩ = some (.int .u64 q02_6) ∧ w'.cell? ⟨gb750, 3, none⟩ = some (.int .u64 q03_6) ∧ w'.cell? ⟨gb750, 4, none⟩ = some (.int .u64 q04_6)) (ds := [9]) (m_ 10 0) (by kernel_rfl) rfl rfl ⟨(blk_cell BK750.out 0).trans rfl, (blk_cell BK750.out 1).trans rfl, (blk_cell BK750.out 2).trans rfl, (blk_cell BK750.out 3).trans rfl, (blk_cell BK750.out 4).trans rfl⟩ (fun hHeld => ?_); refine with_tabW hIW.tab7 hIW.bits7 (fun HT_ HW_ => ?_)
    generalize wc.drew = w25 at BK743 BK750 HB hHeld ⊢
    refine pq_ 0 (some 25) (m_ 10 1) (h := ?_)
    refine pq_ 1 (some 26) (m_ 10 3) (h := ?_)
    refine pq_ 3 (some 28) (m_ 10 11) (h := ?_)
    refine pq_ 4 (some 29) (m_ 10 27) (h := ?_)
    refine pq_ 5 (some 30) (m_ 10 59) (h := ?_)
    refine pq_ 7 (some 32) (m_ 10 187) (h := ?_)
    refine tq5_ 2 (some 27) (m_ 10 191) (h := ?_)
    refine pq_ 6 (some 31) (m_ 10 255) (h := ?_)
    refine pq_ 8 (some 33) (m_ 10 511) (h := ?_)
    refine last_ (i := 9) (N := none) (m_ 10 1023) rfl rfl (one_of HT_.out (by kernel_rfl)) (by decide) (fun K hK => ?_)
    have hs26 : w25.cell? ⟨gb750, 3, none⟩ = some (.int .u64 q03_6) := (blk_cell BK750.out 3).trans rfl
    have hfs26 := blk_frozen BK750.out 3
    have hns26_0 := NB743_750.out
    have hms26_0 := NB750_743.out
    refine skip_ (w1 := ?_) (by rfl) rfl ?_ ?_
    rotate_left
    ·
     go_simp
     rfl
    refine hK.out _ _ ?_
    clear hK K
    refine done_ (done_of HT_.out (by kernel_rfl)) ?_
    try go_wp2
    go_meet
    case rel => exact ⟨_, (Go.bits .xor .u64 q03_6 (ji24)), (q04_6), H', ⟨by have := HJ6.out; first | omega | exact Nat.le_refl _⟩, ⟨by (with_reducible repeat (first | apply bN_ | apply bD_ | apply bA_)); refine blk_far ?_ NB743_750.out _; (with_reducible repeat (first | apply bN_ | apply bD_ | apply bA_)); exact BK743.out⟩, ⟨by (with_reducible repeat (first | apply bN_ | apply bD_ | apply bA_)); refine blk_put (cs := #[.int .i64 q00_6, .int .u64 q01_6, .int .u64 q02_6, .int .u64 q03_6, .int .u64 q04_6]) ?_ 3 _ rfl; (with_reducible repeat (first | apply bN_ | apply bD_ | apply bA_)); exact BK750.out⟩, ⟨by repeat (first | (with_reducible first | exact HB.out | apply ba_ | apply bn_ | apply bd_ | refine below_set ?_ GE743.out | refine below_set ?_ GE750.out) | exact HB.out)⟩⟩
   case rest =>
    clear HC21
    try clear c1
    try clear c2
    try clear p2
    try clear c3
    try clear c5
    try clear c9
    try clear c13
    try clear c14
    try clear c15
    try clear c15b0
    try clear c15b1
    try clear c17
    try clear c22
    try clear c22b0
    try clear c22b1
    try clear c23
    try clear c23b0
    try clear c23b1
    try clear hcz10_0
    try clear hcz10_1
    try clear hcz10_2
    try clear hcz10_3
    try clear hcz10_4
    try clear hcz14_0
    try clear hcz14_1
    try clear hcz14_2
    try clear hcz14_3
    try clear hcz14_4
    try clear hcz18_0
    try clear hcz18_1
    try clear hcz18_2
    try clear hcz18_3
    try clear hcz18_4
    try clear hcz20_0
    try clear hcz20_1
    try clear hcz20_2
    try clear hcz20_3
    try clear hcz20_4
    try clear hfz10_0
    try clear hfz10_1
    try clear hfz10_2
    try clear hfz10_3
    try clear hfz10_4
    try clear hfz14_0
    try clear hfz14_1
    try clear hfz14_2
    try clear hfz14_3
    try clear hfz14_4
    try clear hfz18_0
    try clear hfz18_1
    try clear hfz18_2
    try clear hfz18_3
    try clear hfz18_4
    try clear hfz20_0
    try clear hfz20_1
    try clear hfz20_2
    try clear hfz20_3
    try clear hfz20_4
    try clear p2
    obtain ⟨kq, q03_20, q04_20, HA, HJ20, BK743, BK750, HB⟩ := hcut
    cases kq with
    | zero => exact absurd HA.out (by simp [hIW.j1])
    | succ kj20 =>
     have H := HA.out
     clear HA
     simp only [hIW.j1] at H
     replace H := Option.bind_eq_some_iff.mp H
     obtain ⟨⟨t756, t759, t760, t761⟩, A270, H⟩ := H
     replace H : (hIW.l0 kj20 t760 t761 true 0 q00_6 q01_6 q02_6 q03_20 q04_20 t756 t759) = some r := H
     have A27 := Aside0.mk A270
     clear A270
     have H' := Aside0.mk H
     clear H
     have hnb28 := NB750_743.out
     have hnc28 := NB743_750.out
     obtain ⟨hcz29_0, hcz29_1, hcz29_2, hcz29_3, hcz29_4⟩ := cz5_ BK750.out
     obtain ⟨hfz29_0, hfz29_1, hfz29_2, hfz29_3, hfz29_4⟩ := fz5_ BK750.out
     go_wp2_with (first | ((with_reducible refine gate_callee (f := 17) rfl ?_); refine goesL_ (some 36) rfl rfl Tryd.func17 (by kernel_rfl) rfl #[.agg #[.int .i64 q00_6, .int .u64 q01_6, .int .u64 q02_6, .int .u64 q03_20, .int .u64 q04_20]] rfl ar_ ?_; (with_reducible refine (iso_Check.calls kj20 q00_6 q01_6 q02_6 q03_20 q04_20 t756 t759 t760 t761 _ ?side1 A27.out).mono ?_); (case side1 => exact HGSix.out.below (hg2_ GE743.out GE750.out)); rintro e w30 ⟨v757, rfl, ho0, hb⟩; refine ⟨_, rfl, ?_⟩; have HO758 := Aside0.mk (Kd.R_lower ho0 (below_size (hg2_ GE743.out GE750.out))); replace BK743 := bb_ BK743.out hb; replace BK750 := bb_ BK750.out hb; replace HB := Aside0.mk (below_step (hg2_ GE743.out GE750.out) hb); (try clear hb); (try clear hb2); (try clear hk); (try clear hi); (try clear ho0); (try simp only [errW_none, errW_some])) | ((with_reducible refine gate_dst (N := 8) rfl ?_); refine bx_ 8 #[.slice none 0 0, .int .i64 0] 37 ?_; intro gb762 hg w31 hbox hb; have BK762 := Aside0.mk (hbox); have GW762 := Aside0.mk ((by rw [hg]; exact (below_size (hg2_ GE743.out GE750.out)) : w.heap.size ≤ gb762)); have GE762 := GW762; have NB743_762 := Aside0.mk ((by rw [hg]; exact ne1_ BK743.out : gb743 ≠ gb762)); have NB762_743 := Aside0.mk ((by rw [hg]; exact ne2_ BK743.out : gb762 ≠ gb743)); have NB750_762 := Aside0.mk ((by rw [hg]; exact ne1_ BK750.out : gb750 ≠ gb762)); have NB762_750 := Aside0.mk ((by rw [hg]; exact ne2_ BK750.out : gb762 ≠ gb750)); replace HO758 := Aside0.mk (Kd.R_below (kr_ HO758.out) hb); replace BK743 := bb_ BK743.out hb; replace BK750 := bb_ BK750.out hb; replace HB := Aside0.mk (below_step (hg2_ GE743.out GE750.out) hb); clear hb hbox hg; obtain ⟨Ao32, co32, eo32⟩ := Kd.R_slice HO758.out; subst eo32; have hnb33 := NB762_743.out; have hnc33 := NB743_762.out; have hnb34 := NB762_750.out; have hnc34 := NB750_762.out; obtain ⟨hcz35_0, hcz35_1⟩ := cz2_ BK762.out; obtain ⟨hfz35_0, hfz35_1⟩ := fz2_ BK762.out))
     go_loopg [11, 40] kj20 (fun kq v11 v40 w' => ∃ (x11_3 : Bool) (x40_3 : Int), v11 = .bool x11_3 ∧ v40 = .int .i64 x40_3 ∧ Aside0 (hIW.l0 kq t760 t761 x11_3 x40_3 q00_6 q01_6 q02_6 q03_20 q04_20 t756 t759 = some r) ∧ Aside0 (kq ≤ kj20) ∧ Aside0 (Kd.R k65 65 w' w.heap.size (fun _ => True) (.slice Ao32 t756.length co32) t756) ∧ Aside0 (w'.heap[gb743]? = some (.cells #[.int .i64 a0_0, .int .u64 a0_1, .int .u64 a0_2, .int .u64 a0_3, .int .u64 a0_4] 25 (0, 0))) ∧ Aside0 (w'.heap[gb750]? = some (.cells #[.int .i64 q00_6, .int .u64 q01_6, .int .u64 q02_6, .int .u64 q03_20, .int .u64 q04_20] 29 (0, 0))) ∧ Aside0 (w'.heap[gb762]? = some (.cells #[(.slice Ao32 t756.length co32), .int .i64 t759] 37 (0, 0))) ∧ Aside0 (Below w.heap.size w w'))
     case atStart => exact ⟨(true), (0), rs_, rs_, H', ⟨Nat.le_refl _⟩, ⟨by (with_reducible repeat (first | apply Kd.R_alloc | apply Kd.R_drewN | apply Kd.R_drew)); exact Kd.R_mono (Kd.R_far (p := ⟨gb762, 1, none⟩) (Kd.R_far (p := ⟨gb762, 0, none⟩) (Kd.R_types HO758.out BK762.out (by decide)) (fun _ hk => hk.2) (.slice Ao32 t756.length co32)) (fun _ hk => hk.2) (.int .i64 t759)) (fun _ hk => trivial)⟩, ⟨by (with_reducible repeat (first | apply bN_ | apply bD_ | apply bA_)); refine blk_far ?_ NB743_762.out _; (with_reducible repeat (first | apply bN_ | apply bD_ | apply bA_)); refine blk_far ?_ NB743_762.out _; (with_reducible repeat (first | apply bN_ | apply bD_ | apply bA_)); exact BK743.out⟩, ⟨by (with_reducible repeat (first | apply bN_ | apply bD_ | apply bA_)); refine blk_far ?_ NB750_762.out _; (with_reducible repeat (first | apply bN_ | apply bD_ | apply bA_)); refine blk_far ?_ NB750_762.out _; (with_reducible repeat (first | apply bN_ | apply bD_ | apply bA_)); exact BK750.out⟩, ⟨by (with_reducible repeat (first | apply bN_ | apply bD_ | apply bA_)); refine blk_put (cs := #[.slice Ao32 t756.length co32, .int .i64 0]) ?_ 1 _ rfl; (with_reducible repeat (first | apply bN_ | apply bD_ | apply bA_)); refine blk_put (cs := #[.slice none 0 0, .int .i64 0]) ?_ 0 _ rfl; (with_reducible repeat (first | apply bN_ | apply bD_ | apply bA_)); exact BK762.out⟩, ⟨by repeat (first | (with_reducible first | exact HB.out | apply ba_ | apply bn_ | apply bd_ | refine below_set ?_ GE743.out | refine below_set ?_ GE750.out | refine below_set ?_ GE762.out) | exact HB.out)⟩⟩
     case round =>
      clear H'
      try clear c1
      try clear c2
      try clear p2
      try clear c3
      try clear c5
      try clear c9
      try clear c13
      try clear c14
      try clear c15
      try clear c15b0
      try clear c15b1
      try clear c17
      try clear c22
      try clear c22b0
      try clear c22b1
      try clear c23
      try clear c23b0
      try clear c23b1
      try clear c28
      try clear c33
      try clear c34
      try clear hcz10_0
      try clear hcz10_1
      try clear hcz10_2
      try clear hcz10_3
      try clear hcz10_4
      try clear hcz14_0
      try clear hcz14_1
      try clear hcz14_2
      try clear hcz14_3
      try clear hcz14_4
      try clear hcz18_0
      try clear hcz18_1
      try clear hcz18_2
      try clear hcz18_3
      try clear hcz18_4
      try clear hcz20_0
      try clear hcz20_1
      try clear hcz20_2
      try clear hcz20_3
      try clear hcz20_4
      try clear hcz29_0
      try clear hcz29_1
      try clear hcz29_2
      try clear hcz29_3
      try clear hcz29_4
      try clear hcz35_0
      try clear hcz35_1
      try clear hfz10_0
      try clear hfz10_1
      try clear hfz10_2
      try clear hfz10_3
      try clear hfz10_4
      try clear hfz14_0
      try clear hfz14_1
      try clear hfz14_2
      try clear hfz14_3
      try clear hfz14_4
      try clear hfz18_0
      try clear hfz18_1
      try clear hfz18_2
      try clear hfz18_3
      try clear hfz18_4
      try clear hfz20_0
      try clear hfz20_1
      try clear hfz20_2
      try clear hfz20_3
      try clear hfz20_4
      try clear hfz29_0
      try clear hfz29_1
      try clear hfz29_2
      try clear hfz29_3
      try clear hfz29_4
      try clear hfz35_0
      try clear hfz35_1
      try clear p2
      obtain ⟨x11_3, x40_3, rfl, rfl, HA, HK3, HO_763000, BK743, BK750, BK762, HB⟩ := hrel
      cases gk with
      | zero => exact absurd HA.out (by simp [hIW.l0])
      | succ k3 =>
       have H := HA.out
       clear HA
       simp only [hIW.l0] at H
       by_cases c36 : x40_3 < 12
       ·
        rw [if_pos c36] at H
        have c36b0 : decide (x40_3 < 12) = true := decide_eq_true c36
        clear c36
        by_cases c37 : x11_3 = true
        rotate_left
        ·
         replace c37 := Bool.eq_false_iff.mpr c37
         subst c37
         have H1 : (hIW.l0 k3 t760 t761 false (wrap64 (x40_3 + 1)) q00_6 q01_6 q02_6 q03_20 q04_20 t756 t759) = some r := by rw [if_neg (show ¬ (false = true) by decide)] at H; exact H
         clear H
         have H := H1
         clear H1
         have H' := Aside0.mk H
         clear H
         go_wp2
         go_roundg k3
         case measure => have := HJ6.out; have := HJ20.out; have := HK3.out; omega
         case rel => exact ⟨(false), (wrap64 (x40_3 + 1)), rs_, rs_, H', ⟨by have := HJ6.out; have := HJ20.out; have := HK3.out; omega⟩, ⟨kr_ HO_763000.out⟩, ⟨bk_ BK743.out⟩, ⟨bk_ BK750.out⟩, ⟨bk_ BK762.out⟩, ⟨by repeat (first | (with_reducible first | exact HB.out | apply ba_ | apply bn_ | apply bd_ | refine below_set ?_ GE743.out | refine below_set ?_ GE750.out | refine below_set ?_ GE762.out) | exact HB.out)⟩⟩
        subst c37
        have H1 : ((XTold5.f q00_6 q01_6 q02_6 q03_20 q04_20).bind fun bt763 => ((XRKeeps.f k3 bt763.1 bt763.2.1 bt763.2.2 x40_3).bind fun t770 => (hIW.l0 k3 t760 t761 t770 (wrap64 (x40_3 + 1)) q00_6 q01_6 q02_6 q03_20 q04_20 t756 t759))) = some r := by rw [if_pos rfl] at H; exact H
        clear H
        have H := H1
        clear H1
        replace H := Option.bind_eq_some_iff.mp H
        obtain ⟨⟨t763, t764, t767⟩, A380, H⟩ := H
        replace H : ((XRKeeps.f k3 t763 t764 t767 x40_3).bind fun t770 => (hIW.l0 k3 t760 t761 t770 (wrap64 (x40_3 + 1)) q00_6 q01_6 q02_6 q03_20 q04_20 t756 t759)) = some r := H
        have A38 := Aside0.mk A380
        clear A380
        replace H := Option.bind_eq_some_iff.mp H
        obtain ⟨t770, A390, H⟩ := H
        replace H : (hIW.l0 k3 t760 t761 t770 (wrap64 (x40_3 + 1)) q00_6 q01_6 q02_6 q03_20 q04_20 t756 t759) = some r := H
        have A39 := Aside0.mk A390
        clear A390
        have H' := Aside0.mk H
        clear H
        have hnb40 := NB750_743.out
        have hnc40 := NB743_750.out
        have hnb41 := NB750_762.out
        have hnc41 := NB762_750.out
        obtain ⟨hcz42_0, hcz42_1, hcz42_2, hcz42_3, hcz42_4⟩ := cz5_ BK750.out
        obtain ⟨hfz42_0, hfz42_1, hfz42_2, hfz42_3, hfz42_4⟩ := fz5_ BK750.out
        go_wp2_with (first | (go_at_call 27; (with_reducible refine (XTold5.calls q00_6 q01_6 q02_6 q03_20 q04_20 t763 t764 t767 _ A38.out).mono ?_); rintro e w43 ⟨v765, v768, rfl, ho0, ho1, hb⟩; have HO766 := Aside0.mk (Kd.V_lower (Kd.V_mono (ok' := fun k_ => some k_ ≠ (.slice Ao32 t756.length co32 : Value).ownBlock ∧ k_ ≠ gb743 ∧ k_ ≠ gb750 ∧ k_ ≠ gb762) ho0 (fun k_ hk_ => ⟨(Kd.fresh' (Kd.R_lt (kr_ HO_763000.out)) k_ hk_), (Kd.freshB (g := gb743) (o := .cells #[.int .i64 a0_0, .int .u64 a0_1, .int .u64 a0_2, .int .u64 a0_3, .int .u64 a0_4] 25 (0, 0)) (bk_ BK743.out) k_ hk_), (Kd.freshB (g := gb750) (o := .cells #[.int .i64 q00_6, .int .u64 q01_6, .int .u64 q02_6, .int .u64 q03_20, .int .u64 q04_20] 29 (0, 0)) (bk_ BK750.out) k_ hk_), (Kd.freshB (g := gb762) (o := .cells #[.slice Ao32 t756.length co32, .int .i64 t759] 37 (0, 0)) (bk_ BK762.out) k_ hk_)⟩)) (below_size (hg3_ GE743.out GE750.out GE762.out))); have HO769 := Aside0.mk (Kd.V_lower (Kd.V_mono (ok' := fun k_ => some k_ ≠ (.slice Ao32 t756.length co32 : Value).ownBlock ∧ k_ ≠ gb743 ∧ k_ ≠ gb750 ∧ k_ ≠ gb762) ho1 (fun k_ hk_ => ⟨(Kd.fresh' (Kd.R_lt (kr_ HO_763000.out)) k_ hk_), (Kd.freshB (g := gb743) (o := .cells #[.int .i64 a0_0, .int .u64 a0_1, .int .u64 a0_2, .int .u64 a0_3, .int .u64 a0_4] 25 (0, 0)) (bk_ BK743.out) k_ hk_), (Kd.freshB (g := gb750) (o := .cells #[.int .i64 q00_6, .int .u64 q01_6, .int .u64 q02_6, .int .u64 q03_20, .int .u64 q04_20] 29 (0, 0)) (bk_ BK750.out) k_ hk_), (Kd.freshB (g := gb762) (o := .cells #[.slice Ao32 t756.length co32, .int .i64 t759] 37 (0, 0)) (bk_ BK762.out) k_ hk_)⟩)) (below_size (hg3_ GE743.out GE750.out GE762.out))); replace HO_763000 := Aside0.mk (Kd.R_below (kr_ HO_763000.out) hb); replace BK743 := bb_ BK743.out hb; replace BK750 := bb_ BK750.out hb; replace BK762 := bb_ BK762.out hb; replace HB := Aside0.mk (below_step (hg3_ GE743.out GE750.out GE762.out) hb); (try clear hb); (try clear hb2); (try clear hk); (try clear hi); (try clear ho0); (try clear ho1); obtain ⟨Ao44, co44, eo44⟩ := Kd.V_slice HO766.out; subst eo44; obtain ⟨Ao45, co45, eo45⟩ := Kd.V_slice HO769.out; subst eo45) | (go_at_call 42; (with_reducible refine (XRKeeps.calls k3 t763 _ _ t764 _ _ t767 x40_3 t770 _ ?side1 ?side2 ?side3 ?side4 A39.out).mono ?_); (case side1 => repeat (first | exact (Kd.V_reads' HO766.out).2.2 | (with_reducible refine Kd.C_alloc ?_ _) | (with_reducible refine Kd.C_drewN ?_ _) | (with_reducible refine Kd.C_drew ?_))); (case side2 => exact (Kd.V_reads' HO766.out).2.1); (case side3 => repeat (first | exact (Kd.V_reads' HO769.out).2.2 | (with_reducible refine Kd.C_alloc ?_ _) | (with_reducible refine Kd.C_drewN ?_ _) | (with_reducible refine Kd.C_drew ?_))); (case side4 => exact (Kd.V_reads' HO769.out).2.1); rintro e w46 ⟨rfl, hb⟩; replace HO_763000 := Aside0.mk (Kd.R_below (kr_ HO_763000.out) hb); replace HO766 := Aside0.mk (Kd.V_below (by (with_reducible repeat (first | apply Kd.V_alloc | apply Kd.V_drewN | apply Kd.V_drew)); exact HO766.out) hb); replace HO769 := Aside0.mk (Kd.V_below (by (with_reducible repeat (first | apply Kd.V_alloc | apply Kd.V_drewN | apply Kd.V_drew)); exact HO769.out) hb); replace BK743 := bb_ BK743.out hb; replace BK750 := bb_ BK750.out hb; replace BK762 := bb_ BK762.out hb; replace HB := Aside0.mk (below_step (hg3_ GE743.out GE750.out GE762.out) hb); (try clear hb); (try clear hb2); (try clear hk); (try clear hi)))
        go_roundg k3
        case measure => have := HJ6.out; have := HJ20.out; have := HK3.out; omega
        case rel => exact ⟨(t770), (wrap64 (x40_3 + 1)), rs_, rs_, H', ⟨by have := HJ6.out; have := HJ20.out; have := HK3.out; omega⟩, ⟨kr_ HO_763000.out⟩, ⟨bk_ BK743.out⟩, ⟨bk_ BK750.out⟩, ⟨bk_ BK762.out⟩, ⟨by repeat (first | (with_reducible first | exact HB.out | apply ba_ | apply bn_ | apply bd_ | refine below_set ?_ GE743.out | refine below_set ?_ GE750.out | refine below_set ?_ GE762.out) | exact HB.out)⟩⟩
       rw [if_neg c36] at H
       have c36b0 : decide (x40_3 < 12) = false := decide_eq_false c36
       clear c36
       have HC47 := Aside0.mk H
       clear H
       go_upto_region 15 with (fail)
       go_cut [57] (fun v57 wc => ∃ (kq : Nat) (x57_46 : Bool), v57 = .bool x57_46 ∧ Aside0 (hIW.j3 kq t760 x57_46 q00_6 q01_6 q02_6 q03_20 q04_20 t756 t759 = some r) ∧ Aside0 (kq ≤ k3) ∧ Aside0 (Kd.R k65 65 wc w.heap.size (fun _ => True) (.slice Ao32 t756.length co32) t756) ∧ Aside0 (wc.heap[gb743]? = some (.cells #[.int .i64 a0_0, .int .u64 a0_1, .int .u64 a0_2, .int .u64 a0_3, .int .u64 a0_4] 25 (0, 0))) ∧ Aside0 (wc.heap[gb750]? = some (.cells #[.int .i64 q00_6, .int .u64 q01_6, .int .u64 q02_6, .int .u64 q03_20, .int .u64 q04_20] 29 (0, 0))) ∧ Aside0 (wc.heap[gb762]? = some (.cells #[(.slice Ao32 t756.length co32), .int .i64 t759] 37 (0, 0))) ∧ Aside0 (Below w.heap.size w wc))
       case first =>
        have H := HC47.out
        clear HC47
        rcases t761 with _ | q771
        rotate_left
        ·
         have H1 : (hIW.j3 k3 t760 true q00_6 q01_6 q02_6 q03_20 q04_20 t756 t759) = some r := by rw [if_neg (show ¬ (some q771).isNone = true by simp)] at H; exact H
         clear H
         have H := H1
         clear H1
         try simp only [errW_none, errW_some]
         have H' := Aside0.mk H
         clear H
         go_wp2
         go_meet
         case rel => exact ⟨_, (true), rs_, H', ⟨by have := HJ6.out; have := HJ20.out; have := HK3.out; first | omega | exact Nat.le_refl _⟩, ⟨kr_ HO_763000.out⟩, ⟨bk_ BK743.out⟩, ⟨bk_ BK750.out⟩, ⟨bk_ BK762.out⟩, ⟨by repeat (first | (with_reducible first | exact HB.out | apply ba_ | apply bn_ | apply bd_ | refine below_set ?_ GE743.out | refine below_set ?_ GE750.out | refine below_set ?_ GE762.out) | exact HB.out)⟩⟩
        have H1 : (hIW.j3 k3 t760 (t760 == x11_3) q00_6 q01_6 q02_6 q03_20 q04_20 t756 t759) = some r := by rw [if_pos (show (none : Option Int).isNone = true by rfl)] at H; exact H
        clear H
        have H := H1
        clear H1
        try simp only [errW_none, errW_some]
        have H' := Aside0.mk H
        clear H
        go_wp2
        go_meet
        case rel => exact ⟨_, ((t760 == x11_3)), rs_, H', ⟨by have := HJ6.out; have := HJ20.out; have := HK3.out; first | omega | exact Nat.le_refl _⟩, ⟨kr_ HO_763000.out⟩, ⟨bk_ BK743.out⟩, ⟨bk_ BK750.out⟩, ⟨bk_ BK762.out⟩, ⟨by repeat (first | (with_reducible first | exact HB.out | apply ba_ | apply bn_ | apply bd_ | refine below_set ?_ GE743.out | refine below_set ?_ GE750.out | refine below_set ?_ GE762.out) | exact HB.out)⟩⟩
       case rest =>
        clear HC47
        try clear c1
        try clear c2
        try clear p2
        try clear c3
        try clear c4
        try clear c5
        try clear p6
        try clear q7
        try clear c9
        try clear c13
        try clear c14
        try clear c15
        try clear c15b0
        try clear c15b1
        try clear c17
        try clear c22
        try clear c22b0
        try clear c22b1
        try clear c23
        try clear c23b0
        try clear c23b1
        try clear c28
        try clear c33
        try clear c34
        try clear c36
        try clear c36b0
        try clear c37
        try clear c39
        try clear c40
        try clear c41
        try clear hcz10_0
        try clear hcz10_1
        try clear hcz10_2
        try clear hcz10_3
        try clear hcz10_4
        try clear hcz14_0
        try clear hcz14_1
        try clear hcz14_2
        try clear hcz14_3
        try clear hcz14_4
        try clear hcz18_0
        try clear hcz18_1
        try clear hcz18_2
        try clear hcz18_3
        try clear hcz18_4
        try clear hcz20_0
        try clear hcz20_1
        try clear hcz20_2
        try clear hcz20_3
        try clear hcz20_4
        try clear hcz29_0
        try clear hcz29_1
        try clear hcz29_2
        try clear hcz29_3
        try clear hcz29_4
        try clear hcz35_0
        try clear hcz35_1
        try clear hcz42_0
        try clear hcz42_1
        try clear hcz42_2
        try clear hcz42_3
        try clear hcz42_4
        try clear hfz10_0
        try clear hfz10_1
        try clear hfz10_2
        try clear hfz10_3
        try clear hfz10_4
        try clear hfz14_0
        try clear hfz14_1
        try clear hfz14_2
        try clear hfz14_3
        try clear hfz14_4
        try clear hfz18_0
        try clear hfz18_1
        try clear hfz18_2
        try clear hfz18_3
        try clear hfz18_4
        try clear hfz20_0
        try clear hfz20_1
        try clear hfz20_2
        try clear hfz20_3
        try clear hfz20_4
        try clear hfz29_0
        try clear hfz29_1
        try clear hfz29_2
        try clear hfz29_3
        try clear hfz29_4
        try clear hfz35_0
        try clear hfz35_1
        try clear hfz42_0
        try clear hfz42_1
        try clear hfz42_2
        try clear hfz42_3
        try clear hfz42_4
        try clear p2
        try clear q771
        obtain ⟨kq, x57_46, rfl, HA, HJ46, HO_763000, BK743, BK750, BK762, HB⟩ := hcut
        cases kq with
        | zero => exact absurd HA.out (by simp [hIW.j3])
        | succ kj46 =>
         have H := HA.out
         clear HA
         simp only [hIW.j3] at H
         by_cases c48 : x57_46 = true
         ·
          subst c48
          have H1 : (some false) = some r := by rw [if_pos rfl] at H; exact H
          clear H
          have H := H1
          clear H1
          exact absurd ((Option.some.inj H).trans Hr_.out) (by decide)
         replace c48 := Bool.eq_false_iff.mpr c48
         subst c48
         have H1 : (if t760 = true then ((set_Set_Check.f kj46 t756 q00_6).bind fun t772 => (if t772.isNone = true then ((axis_Operator_Good.f t759).bind fun t774 => (if t774 = true then ((XTold5.f q00_6 q01_6 q02_6 q03_20 q04_20).bind fun bt775 => ((honeycomblaw04_Told.f kj46 t756).bind fun t782 => ((honeycomblaw07_commutes.f kj46 bt775.1 bt775.2.1 bt775.2.2 t759 t782).bind fun t785 => (some (!t785))))) else (some false))) else (some false))) else (if (t756.length : Int) = 0 then (some (t759 == 0)) else (some false))) = some r := by rw [if_neg (show ¬ (false = true) by decide)] at H; exact H
         clear H
         have H := H1
         clear H1
         by_cases c49 : t760 = true
         rotate_left
         ·
          replace c49 := Bool.eq_false_iff.mpr c49
          subst c49
          have H1 : (if (t756.length : Int) = 0 then (some (t759 == 0)) else (some false)) = some r := by rw [if_neg (show ¬ (false = true) by decide)] at H; exact H
          clear H
          have H := H1
          clear H1
          by_cases c68 : (t756.length : Int) = 0
          rotate_left
          ·
           rw [if_neg c68] at H
           have c68b0 : ((t756.length : Int) == 0) = false := beq_eq_false_iff_ne.mpr c68
           have c68b1 : ((t756.length : Int) != 0) = true := bne_iff_ne.mpr c68
           have c68b2 : ¬ (t756 = []) := fun h_ => c68 (by rw [h_]; rfl)
           exact absurd ((Option.some.inj H).trans Hr_.out) (by decide)
          rw [if_pos c68] at H
          have c68b0 : ((t756.length : Int) == 0) = true := beq_iff_eq.mpr c68
          have c68b1 : ((t756.length : Int) != 0) = false := bne_eq_false_iff_eq.mpr c68
          clear c68
          obtain rfl := Option.some.inj H
          have hnb69 := NB762_743.out
          have hnc69 := NB743_762.out
          have hnb70 := NB762_750.out
          have hnc70 := NB750_762.out
          obtain ⟨hcz71_0, hcz71_1⟩ := cz2_ BK762.out
          obtain ⟨hfz71_0, hfz71_1⟩ := fz2_ BK762.out
          go_wp2
          go_ret
          exact ⟨er_, hg3_ GE743.out GE750.out GE762.out⟩
         subst c49
         have H1 : ((set_Set_Check.f kj46 t756 q00_6).bind fun t772 => (if t772.isNone = true then ((axis_Operator_Good.f t759).bind fun t774 => (if t774 = true then ((XTold5.f q00_6 q01_6 q02_6 q03_20 q04_20).bind fun bt775 => ((honeycomblaw04_Told.f kj46 t756).bind fun t782 => ((honeycomblaw07_commutes.f kj46 bt775.1 bt775.2.1 bt775.2.2 t759 t782).bind fun t785 => (some (!t785))))) else (some false))) else (some false))) = some r := by rw [if_pos rfl] at H; exact H
         clear H
         have H := H1
         clear H1
         replace H := Option.bind_eq_some_iff.mp H
         obtain ⟨t772, A500, H⟩ := H
         replace H : (if t772.isNone = true then ((axis_Operator_Good.f t759).bind fun t774 => (if t774 = true then ((XTold5.f q00_6 q01_6 q02_6 q03_20 q04_20).bind fun bt775 => ((honeycomblaw04_Told.f kj46 t756).bind fun t782 => ((honeycomblaw07_commutes.f kj46 bt775.1 bt775.2.1 bt775.2.2 t759 t782).bind fun t785 => (some (!t785))))) else (some false))) else (some false)) = some r := H
         have A50 := Aside0.mk A500
         clear A500
         rcases t772 with _ | q773
         rotate_left
         ·
          have H1 : (some false) = some r := by rw [if_neg (show ¬ (some q773).isNone = true by simp)] at H; exact H
          clear H
          have H := H1
          clear H1
          try simp only [errW_none, errW_some]
          exact absurd ((Option.some.inj H).trans Hr_.out) (by decide)
         have H1 : ((axis_Operator_Good.f t759).bind fun t774 => (if t774 = true then ((XTold5.f q00_6 q01_6 q02_6 q03_20 q04_20).bind fun bt775 => ((honeycomblaw04_Told.f kj46 t756).bind fun t782 => ((honeycomblaw07_commutes.f kj46 bt775.1 bt775.2.1 bt775.2.2 t759 t782).bind fun t785 => (some (!t785))))) else (some false))) = some r := by rw [if_pos (show (none : Option Int).isNone = true by rfl)] at H; exact H
         clear H
         have H := H1
         clear H1
         try simp only [errW_none, errW_some]
         replace H := Option.bind_eq_some_iff.mp H
         obtain ⟨t774, A510, H⟩ := H
         replace H : (if t774 = true then ((XTold5.f q00_6 q01_6 q02_6 q03_20 q04_20).bind fun bt775 => ((honeycomblaw04_Told.f kj46 t756).bind fun t782 => ((honeycomblaw07_commutes.f kj46 bt775.1 bt775.2.1 bt775.2.2 t759 t782).bind fun t785 => (some (!t785))))) else (some false)) = some r := H
         have A51 := Aside0.mk A510
         clear A510
         by_cases c52 : t774 = true
         rotate_left
         ·
          replace c52 := Bool.eq_false_iff.mpr c52
          subst c52
          have H1 : (some false) = some r := by rw [if_neg (show ¬ (false = true) by decide)] at H; exact H
          clear H
          have H := H1
          clear H1
          exact absurd ((Option.some.inj H).trans Hr_.out) (by decide)
         subst c52
         have H1 : ((XTold5.f q00_6 q01_6 q02_6 q03_20 q04_20).bind fun bt775 => ((honeycomblaw04_Told.f kj46 t756).bind fun t782 => ((honeycomblaw07_commutes.f kj46 bt775.1 bt775.2.1 bt775.2.2 t759 t782).bind fun t785 => (some (!t785))))) = some r := by rw [if_pos rfl] at H; exact H
         clear H
         have H := H1
         clear H1
         replace H := Option.bind_eq_some_iff.mp H
         obtain ⟨⟨t775, t776, t779⟩, A530, H⟩ := H
         replace H : ((honeycomblaw04_Told.f kj46 t756).bind fun t782 => ((honeycomblaw07_commutes.f kj46 t775 t776 t779 t759 t782).bind fun t785 => (some (!t785)))) = some r := H
         have A53 := Aside0.mk A530
         clear A530
         replace H := Option.bind_eq_some_iff.mp H
         obtain ⟨t782, A540, H⟩ := H
         replace H : ((honeycomblaw07_commutes.f kj46 t775 t776 t779 t759 t782).bind fun t785 => (some (!t785))) = some r := H
         have A54 := Aside0.mk A540
         clear A540
         replace H := Option.bind_eq_some_iff.mp H
         obtain ⟨t785, A550, H⟩ := H
         replace H : (some (!t785)) = some r := H
         have A55 := Aside0.mk A550
         clear A550
         obtain rfl := Option.some.inj H
         try go_wp2
         replace HO_763000 := Aside0.mk (Kd.R_drew HO_763000.out)
         replace BK743 := Aside0.mk (blk_drew BK743.out)
         replace BK750 := Aside0.mk (blk_drew BK750.out)
         replace BK762 := Aside0.mk (blk_drew BK762.out)
         replace HB := Aside0.mk (below_drew1 HB.out)
         refine start_ (n := 23) (S := fun w' => w'.cell? ⟨gb762, 0, none⟩ = some (.slice Ao32 t756.length co32) ∧ w'.cell? ⟨gb762, 1, none⟩ = some (.int .i64 t759) ∧ w'.cell? ⟨gb750, 0, none⟩ = some (.int .i64 q00_6) ∧ w'.cell? ⟨gb750, 1, none⟩ = some (.int .u64 q01_6) ∧ w'.cell? ⟨gb750, 2, none⟩ = some (.int .u64 q02_6) ∧ w'.cell? ⟨gb750, 3, none⟩ = some (.int .u64 q03_20) ∧ w'.cell? ⟨gb750, 4, none⟩ = some (.int .u64 q04_20)) (ds := []) (m_ 23 0) (by kernel_rfl) rfl rfl ⟨(blk_cell BK762.out 0).trans rfl, (blk_cell BK762.out 1).trans rfl, (blk_cell BK750.out 0).trans rfl, (blk_cell BK750.out 1).trans rfl, (blk_cell BK750.out 2).trans rfl, (blk_cell BK750.out 3).trans rfl, (blk_cell BK750.out 4).trans rfl⟩ (fun hHeld => ?_); refine with_tabW hIW.tab19 hIW.bits19 (fun HT_ HW_ => ?_)
         generalize wc.drew = w56 at HO_763000 BK743 BK750 BK762 HB hHeld ⊢
         refine pq_ 0 (some 69) (m_ 23 1) (h := ?_)
         refine pq_ 2 (some 71) (m_ 23 5) (h := ?_)
         refine tq7_ 1 (some 70) (m_ 23 7) (h := ?_)
         refine tq7_ 3 (some 72) (m_ 23 15) (h := ?_)
         refine one_ (i := 4) (N := some 73) (m_ 23 31) rfl rfl (one_of HT_.out (by kernel_rfl)) (by decide) (fun K hK => ?_)
         refine goes_ Tryd.func43 (by kernel_rfl) rfl #[.slice Ao32 t756.length co32, .int .i64 q00_6] (by rfl) rfl rfl ar_ ?_
         with_reducible refine (set_Set_Check.calls kj46 _ _ t756 q00_6 none _ ?side1 ?side2 A50.out).mono ?_
         (case side1 => repeat (first | exact (Kd.R_reads' HO_763000.out).2.2 | (with_reducible refine Kd.C_alloc ?_ _) | (with_reducible refine Kd.C_drewN ?_ _) | (with_reducible refine Kd.C_drew ?_)))
         (case side2 => exact (Kd.R_reads' HO_763000.out).2.1)
         rintro e w57 ⟨rfl, hb⟩
         refine ⟨_, rfl, ?_⟩
         replace HO_763000 := Aside0.mk (Kd.R_below (kr_ HO_763000.out) hb)
         replace BK743 := bb_ BK743.out hb
         replace BK750 := bb_ BK750.out hb
         replace BK762 := bb_ BK762.out hb
         replace HB := Aside0.mk (below_step (hg3_ GE743.out GE750.out GE762.out) hb)
         (try clear hb)
         (try clear hb2)
         (try clear hk)
         (try clear hi)
         (try simp only [errW_none, errW_some])
         refine hK.out _ _ ⟨(blk_cell BK762.out 0).trans rfl, (blk_cell BK762.out 1).trans rfl, (blk_cell BK750.out 0).trans rfl, (blk_cell BK750.out 1).trans rfl, (blk_cell BK750.out 2).trans rfl, (blk_cell BK750.out 3).trans rfl, (blk_cell BK750.out 4).trans rfl⟩ (fun hHeld => ?_)
         clear hK K
         refine norm_ (a' := ?_) ?_ ?_
         rotate_left
         ·
          show Act.put _ (some 73) _ = _
          simp only [puts_]
          rfl
         refine pq_ 5 (some 74) (m_ 23 63) (h := ?_)
         refine pq_ 6 (some 75) (m_ 23 127) (h := ?_)
         refine pq_ 7 (some 76) (m_ 23 255) (h := ?_)
         refine tq7_ 8 (some 77) (m_ 23 511) (h := ?_)
         refine one_ (i := 9) (N := some 78) (m_ 23 1023) rfl rfl (one_of HT_.out (by kernel_rfl)) (by decide) (fun K hK => ?_)
         refine goes_ Tryd.func44 (by kernel_rfl) rfl #[.int .i64 t759] (by rfl) rfl rfl ar_ ?_
         with_reducible refine (axis_Operator_Good.calls t759 true _ A51.out).mono ?_
         rintro e w' ⟨rfl, ⟨nd, rfl⟩⟩
         refine ⟨_, rfl, ?_⟩
         refine hK.out _ _ ⟨(blk_cell BK762.out 0).trans rfl, (blk_cell BK762.out 1).trans rfl, (blk_cell BK750.out 0).trans rfl, (blk_cell BK750.out 1).trans rfl, (blk_cell BK750.out 2).trans rfl, (blk_cell BK750.out 3).trans rfl, (blk_cell BK750.out 4).trans rfl⟩ (fun hHeld => ?_)
         clear hK K
         refine norm_ (a' := ?_) ?_ ?_
         rotate_left
         ·
          show Act.put _ (some 78) _ = _
          simp only [puts_]
          rfl
         refine pq_ 10 (some 79) (m_ 23 2047) (h := ?_)
         refine pq_ 11 (some 80) (m_ 23 4095) (h := ?_)
         refine pq_ 14 (some 83) (m_ 23 20479) (h := ?_)
         refine pq_ 16 (some 85) (m_ 23 86015) (h := ?_)
         refine tq7_ 12 (some 81) (m_ 23 90111) (h := ?_)
         refine tq7_ 15 (some 84) (m_ 23 122879) (h := ?_)
         refine tq7_ 17 (some 86) (m_ 23 253951) (h := ?_)
         refine one_ (i := 13) (N := some 82) (m_ 23 262143) rfl rfl (one_of HT_.out (by kernel_rfl)) (by decide) (fun K hK => ?_)
         refine goes_ Tryd.func27 (by kernel_rfl) rfl #[.agg #[.int .i64 q00_6, .int .u64 q01_6, .int .u64 q02_6, .int .u64 q03_20, .int .u64 q04_20]] (by rfl) rfl rfl ar_ ?_
         with_reducible refine (XTold5.calls q00_6 q01_6 q02_6 q03_20 q04_20 t775 t776 t779 _ A53.out).mono ?_
         rintro e w58 ⟨v777, v780, rfl, ho0, ho1, hb⟩
         refine ⟨_, rfl, ?_⟩
         have HO778 := Aside0.mk (Kd.V_lower (Kd.V_mono (ok' := fun k_ => some k_ ≠ (.slice Ao32 t756.length co32 : Value).ownBlock ∧ k_ ≠ gb743 ∧ k_ ≠ gb750 ∧ k_ ≠ gb762) ho0 (fun k_ hk_ => ⟨(Kd.fresh' (Kd.R_lt (kr_ HO_763000.out)) k_ hk_), (Kd.freshB (g := gb743) (o := .cells #[.int .i64 a0_0, .int .u64 a0_1, .int .u64 a0_2, .int .u64 a0_3, .int .u64 a0_4] 25 (0, 0)) (bk_ BK743.out) k_ hk_), (Kd.freshB (g := gb750) (o := .cells #[.int .i64 q00_6, .int .u64 q01_6, .int .u64 q02_6, .int .u64 q03_20, .int .u64 q04_20] 29 (0, 0)) (bk_ BK750.out) k_ hk_), (Kd.freshB (g := gb762) (o := .cells #[.slice Ao32 t756.length co32, .int .i64 t759] 37 (0, 0)) (bk_ BK762.out) k_ hk_)⟩)) (below_size (hg3_ GE743.out GE750.out GE762.out)))
         have HO781 := Aside0.mk (Kd.V_lower (Kd.V_mono (ok' := fun k_ => some k_ ≠ (.slice Ao32 t756.length co32 : Value).ownBlock ∧ k_ ≠ gb743 ∧ k_ ≠ gb750 ∧ k_ ≠ gb762) ho1 (fun k_ hk_ => ⟨(Kd.fresh' (Kd.R_lt (kr_ HO_763000.out)) k_ hk_), (Kd.freshB (g := gb743) (o := .cells #[.int .i64 a0_0, .int .u64 a0_1, .int .u64 a0_2, .int .u64 a0_3, .int .u64 a0_4] 25 (0, 0)) (bk_ BK743.out) k_ hk_), (Kd.freshB (g := gb750) (o := .cells #[.int .i64 q00_6, .int .u64 q01_6, .int .u64 q02_6, .int .u64 q03_20, .int .u64 q04_20] 29 (0, 0)) (bk_ BK750.out) k_ hk_), (Kd.freshB (g := gb762) (o := .cells #[.slice Ao32 t756.length co32, .int .i64 t759] 37 (0, 0)) (bk_ BK762.out) k_ hk_)⟩)) (below_size (hg3_ GE743.out GE750.out GE762.out)))
         replace HO_763000 := Aside0.mk (Kd.R_below (kr_ HO_763000.out) hb)
         replace BK743 := bb_ BK743.out hb
         replace BK750 := bb_ BK750.out hb
         replace BK762 := bb_ BK762.out hb
         replace HB := Aside0.mk (below_step (hg3_ GE743.out GE750.out GE762.out) hb)
         (try clear hb)
         (try clear hb2)
         (try clear hk)
         (try clear hi)
         (try clear ho0)
         (try clear ho1)
         refine hK.out _ _ ⟨(blk_cell BK762.out 0).trans rfl, (blk_cell BK762.out 1).trans rfl, (blk_cell BK750.out 0).trans rfl, (blk_cell BK750.out 1).trans rfl, (blk_cell BK750.out 2).trans rfl, (blk_cell BK750.out 3).trans rfl, (blk_cell BK750.out 4).trans rfl⟩ (fun hHeld => ?_)
         clear hK K
         refine norm_ (a' := ?_) ?_ ?_
         rotate_left
         ·
          show Act.put _ (some 82) _ = _
          simp only [puts_]
          rfl
         refine one_ (i := 18) (N := some 87) (m_ 23 524287) rfl rfl (one_of HT_.out (by kernel_rfl)) (by decide) (fun K hK => ?_)
         refine goes_ Tryd.func22 (by kernel_rfl) rfl #[.slice Ao32 t756.length co32] (by rfl) rfl rfl ar_ ?_
         with_reducible refine (honeycomblaw04_Told.calls kj46 _ _ t756 t782 _ ?side1 ?side2 A54.out).mono ?_
         (case side1 => repeat (first | exact (Kd.R_reads' HO_763000.out).2.2 | (with_reducible refine Kd.C_alloc ?_ _) | (with_reducible refine Kd.C_drewN ?_ _) | (with_reducible refine Kd.C_drew ?_)))
         (case side2 => exact (Kd.R_reads' HO_763000.out).2.1)
         rintro e w59 ⟨v783, rfl, ho0, hb⟩
         refine ⟨_, rfl, ?_⟩
         have HO784 := Aside0.mk (Kd.R_lower ho0 (below_size (hg3_ GE743.out GE750.out GE762.out)))
         replace HO_763000 := Aside0.mk (Kd.R_below (kr_ HO_763000.out) hb)
         replace HO778 := Aside0.mk (Kd.V_elder' (by (with_reducible repeat (first | apply Kd.V_alloc | apply Kd.V_drewN | apply Kd.V_drew)); exact HO778.out) (Kd.R_base ho0) hb)
         replace HO781 := Aside0.mk (Kd.V_elder' (by (with_reducible repeat (first | apply Kd.V_alloc | apply Kd.V_drewN | apply Kd.V_drew)); exact HO781.out) (Kd.R_base ho0) hb)
         replace BK743 := bb_ BK743.out hb
         replace BK750 := bb_ BK750.out hb
         replace BK762 := bb_ BK762.out hb
         replace HB := Aside0.mk (below_step (hg3_ GE743.out GE750.out GE762.out) hb)
         (try clear hb)
         (try clear hb2)
         (try clear hk)
         (try clear hi)
         (try clear ho0)
         obtain ⟨Ao60, co60, eo60⟩ := Kd.V_slice HO778.out
         (first | subst eo60 | (injection eo60 with f1_ f2_ f3_; have f4_ := f1_.symm; have f5_ := f3_.symm; clear f1_ f2_ f3_; subst f4_; subst f5_))
         obtain ⟨Ao61, co61, eo61⟩ := Kd.V_slice HO781.out
         (first | subst eo61 | (injection eo61 with f1_ f2_ f3_; have f4_ := f1_.symm; have f5_ := f3_.symm; clear f1_ f2_ f3_; subst f4_; subst f5_))
         obtain ⟨Ao62, co62, eo62⟩ := Kd.R_slice HO784.out
         (first | subst eo62 | (injection eo62 with f1_ f2_ f3_; have f4_ := f1_.symm; have f5_ := f3_.symm; clear f1_ f2_ f3_; subst f4_; subst f5_))
         refine hK.out _ _ ⟨(blk_cell BK762.out 0).trans rfl, (blk_cell BK762.out 1).trans rfl, (blk_cell BK750.out 0).trans rfl, (blk_cell BK750.out 1).trans rfl, (blk_cell BK750.out 2).trans rfl, (blk_cell BK750.out 3).trans rfl, (blk_cell BK750.out 4).trans rfl⟩ (fun hHeld => ?_)
         clear hK K
         refine norm_ (a' := ?_) ?_ ?_
         rotate_left
         ·
          show Act.put _ (some 87) _ = _
          simp only [puts_]
          rfl
         refine one_ (i := 19) (N := some 88) (m_ 23 1048575) rfl rfl (one_of HT_.out (by kernel_rfl)) (by decide) (fun K hK => ?_)
         refine goes_ Tryd.func41 (by kernel_rfl) rfl #[.agg #[.int .i64 t775, .slice Ao60 t776.length co60, .slice Ao61 t779.length co61], .int .i64 t759, .slice Ao62 t782.length co62] (by rfl) rfl rfl ar_ ?_
         with_reducible refine (honeycomblaw07_commutes.calls kj46 t775 _ _ t776 _ _ t779 t759 _ _ t782 t785 _ ?side1 ?side2 ?side3 ?side4 ?side5 ?side6 A55.out).mono ?_
         (case side1 => repeat (first | exact (Kd.V_reads' HO778.out).2.2 | (with_reducible refine Kd.C_alloc ?_ _) | (with_reducible refine Kd.C_drewN ?_ _) | (with_reducible refine Kd.C_drew ?_)))
         (case side2 => exact (Kd.V_reads' HO778.out).2.1)
         (case side3 => repeat (first | exact (Kd.V_reads' HO781.out).2.2 | (with_reducible refine Kd.C_alloc ?_ _) | (with_reducible refine Kd.C_drewN ?_ _) | (with_reducible refine Kd.C_drew ?_)))
         (case side4 => exact (Kd.V_reads' HO781.out).2.1)
         (case side5 => repeat (first | exact (Kd.R_reads' HO784.out).2.2 | (with_reducible refine Kd.C_alloc ?_ _) | (with_reducible refine Kd.C_drewN ?_ _) | (with_reducible refine Kd.C_drew ?_)))
         (case side6 => exact (Kd.R_reads' HO784.out).2.1)
         rintro e w63 ⟨rfl, hb⟩
         refine ⟨_, rfl, ?_⟩
         replace HO_763000 := Aside0.mk (Kd.R_below (kr_ HO_763000.out) hb)
         replace HO778 := Aside0.mk (Kd.V_below (by (with_reducible repeat (first | apply Kd.V_alloc | apply Kd.V_drewN | apply Kd.V_drew)); exact HO778.out) hb)
         replace HO781 := Aside0.mk (Kd.V_below (by (with_reducible repeat (first | apply Kd.V_alloc | apply Kd.V_drewN | apply Kd.V_drew)); exact HO781.out) hb)
         replace HO784 := Aside0.mk (Kd.R_below (kr_ HO784.out) hb)
         replace BK743 := bb_ BK743.out hb
         replace BK750 := bb_ BK750.out hb
         replace BK762 := bb_ BK762.out hb
         replace HB := Aside0.mk (below_step (hg3_ GE743.out GE750.out GE762.out) hb)
         (try clear hb)
         (try clear hb2)
         (try clear hk)
         (try clear hi)
         refine hK.out _ _ ⟨(blk_cell BK762.out 0).trans rfl, (blk_cell BK762.out 1).trans rfl, (blk_cell BK750.out 0).trans rfl, (blk_cell BK750.out 1).trans rfl, (blk_cell BK750.out 2).trans rfl, (blk_cell BK750.out 3).trans rfl, (blk_cell BK750.out 4).trans rfl⟩ (fun hHeld => ?_)
         clear hK K
         refine norm_ (a' := ?_) ?_ ?_
         rotate_left
         ·
          show Act.put _ (some 88) _ = _
          simp only [puts_]
          rfl
         refine pq_ 20 (some 89) (m_ 23 2097151) (h := ?_)
         refine pq_ 21 (some 90) (m_ 23 4194303) (h := ?_)
         refine pq_ 22 (some 6) (m_ 23 8388607) (h := ?_)
         refine done_ (done_of HT_.out (by kernel_rfl)) ?_
         try go_wp2
         go_ret
         exact ⟨er_, hg3_ GE743.out GE750.out GE762.out⟩
end H
open H
theorem xor_nat (a c : Nat) (ha : a < 18446744073709551616) (hc : c < 18446744073709551616) : Go.bits .xor .u64 (a : Int) (c : Int) = ((a ^^^ c : Nat) : Int) := by
 have key : (BitVec.ofInt 64 (a : Int) ^^^ BitVec.ofInt 64 (c : Int)).toNat = a ^^^ c := by rw [BitVec.toNat_xor, ofInt_nat a ha, ofInt_nat c hc]
 show IntKind.u64.wrap ((BitVec.ofInt 64 (a : Int) ^^^ BitVec.ofInt 64 (c : Int)).toNat : Nat) = _
 rw [key]
 exact u64_nat _ (Nat.xor_lt_two_pow (n := 64) ha hc)
theorem mended (s : Nat) (hs : s < 18446744073709551616) (a2 : Int) : ∃ b : Nat, b < 4 ∧ Go.bits .and .i64 a2 3 = (b : Int) ∧ Go.bits .xor .u64 (s : Int) (shl .u64 1 (Go.bits .and .i64 a2 3)) = ((s ^^^ 2 ^ b : Nat) : Int) := by
 obtain ⟨b, hb⟩ : ∃ b, b = (a2 % 4).toNat := ⟨_, rfl⟩
 have e : a2 % 4 = (b : Int) := by omega
 have h4 : b < 4 := by omega
 refine ⟨b, h4, by rw [and_3]; exact e, ?_⟩
 rw [and_3, e]
 have h := shl_bit 1 b (by omega) (by omega)
 rw [show ((1 : Nat) : Int) = 1 from rfl] at h
 rw [h, Nat.one_shiftLeft]
 refine xor_nat s _ hs ?_
 exact Nat.lt_of_lt_of_le (Nat.pow_lt_pow_right (by decide) h4) (by decide)
def restN (L : Int) : Nat := if L = 1 then 0 else if L = 2 then 18446744073709551600 else 18446744073709543424
theorem tb_rest {L : Int} {b0 b1 s0 s1 : Nat} (hT : Tb L b0 b1 s0 s1) : (b0 &&& restN L = 0 ∧ s0 &&& restN L = 0) ∧ (L ≠ 1 → b1 &&& restN L = 0 ∧ s1 &&& restN L = 0) := by
 obtain ⟨hL, hc, _, _, l0, l1, l2, l3, _⟩ := hT
 have key : ∀ (b s n : Nat), b < 18446744073709551616 → s < 18446744073709551616 → n < 18446744073709551616 → badH (b : Int) (s : Int) (n : Int) = false → b &&& n = 0 ∧ s &&& n = 0 := by
  intro b s n hb hs hn h
  unfold badH at h
  have e := or_nat n 1 hn (by decide)
  rw [show ((1 : Nat) : Int) = 1 from rfl] at e
  rw [e, and_nat _ _ hb (Nat.or_lt_two_pow (n := 64) hn (by decide)), and_nat _ _ hs hn, Bool.or_eq_false_iff] at h
  obtain ⟨h1, h2⟩ := h
  rw [bne_eq_false_iff_eq] at h1 h2
  have h1 : b &&& (n ||| 1) = 0 := by omega
  have h2 : s &&& n = 0 := by omega
  refine ⟨?_, h2⟩
  have : b &&& n = (b &&& (n ||| 1)) &&& n := by
   apply Nat.eq_of_testBit_eq
   intro i
   simp only [Nat.testBit_or, Nat.testBit_and]
   cases b.testBit i <;> cases n.testBit i <;> simp
  rw [this, h1, Nat.zero_and]
 unfold checkT at hc
 rw [if_pos hL] at hc
 have hL3 : L = 1 ∨ L = 2 ∨ L = 3 := by omega
 rcases hL3 with rfl | rfl | rfl
 ·exact ⟨⟨Nat.and_zero _, Nat.and_zero _⟩, fun h => absurd rfl h⟩
 ·by_cases h : (badH (b0 : Int) (s0 : Int) (restT 2) || badH (b1 : Int) (s1 : Int) (outT 2)) = true
  ·rw [if_pos h] at hc; cases hc
  ·rw [Bool.not_eq_true, Bool.or_eq_false_iff] at h
   exact ⟨key b0 s0 18446744073709551600 l0 l2 (by decide) h.1, fun _ => key b1 s1 18446744073709551600 l1 l3 (by decide) h.2⟩
 ·by_cases h : (badH (b0 : Int) (s0 : Int) (restT 3) || badH (b1 : Int) (s1 : Int) (outT 3)) = true
  ·rw [if_pos h] at hc; cases hc
  ·rw [Bool.not_eq_true, Bool.or_eq_false_iff] at h
   exact ⟨key b0 s0 18446744073709543424 l0 l2 (by decide) h.1, fun _ => key b1 s1 18446744073709543424 l1 l3 (by decide) h.2⟩
theorem badH_of (b s m : Nat) (hb : b < 18446744073709551616) (hs : s < 18446744073709551616) (hm : m < 18446744073709551616) (he : b % 2 = 0) (h1 : b &&& m = 0) (h2 : s &&& m = 0) : badH (b : Int) (s : Int) (m : Int) = false := by
 unfold badH
 have e := or_nat m 1 hm (by decide)
 rw [show ((1 : Nat) : Int) = 1 from rfl] at e
 have h3 : b &&& (m ||| 1) = 0 := by rw [Nat.and_or_distrib_left, h1, Nat.zero_or, Nat.and_one_is_mod, he]
 rw [e, and_nat _ _ hb (Nat.or_lt_two_pow (n := 64) hm (by decide)), and_nat _ _ hs hm, h3, h2]
 rfl
theorem xor_and (s p m : Nat) (h1 : s &&& m = 0) (h2 : p &&& m = 0) : (s ^^^ p) &&& m = 0 := by
 apply Nat.eq_of_testBit_eq
 intro i
 have a := congrArg (fun n => Nat.testBit n i) h1
 have b := congrArg (fun n => Nat.testBit n i) h2
 simp only [Nat.testBit_and, Nat.zero_testBit, Nat.testBit_xor] at a b ⊢
 cases hs : s.testBit i <;> cases hp : p.testBit i <;> cases hm : m.testBit i <;> simp_all
theorem low_rest : ∀ b : Fin 4, 2 ^ b.1 &&& 18446744073709551600 = 0 ∧ 2 ^ b.1 &&& 18446744073709543424 = 0 := by decide +kernel
theorem tb_xor {L : Int} {b0 b1 s0 s1 : Nat} (hT : Tb L b0 b1 s0 s1) (b : Nat) (hb : b < 4) : Tb L b0 b1 (s0 ^^^ 2 ^ b) s1 := by
 obtain ⟨⟨r1, r2⟩, r3⟩ := tb_rest hT
 obtain ⟨hL, hc, e0, e1, l0, l1, l2, l3, hz⟩ := hT
 have hp : 2 ^ b < 18446744073709551616 := Nat.lt_of_lt_of_le (Nat.pow_lt_pow_right (by decide) hb) (by decide)
 have hx : s0 ^^^ 2 ^ b < 18446744073709551616 := Nat.xor_lt_two_pow (n := 64) l2 hp
 refine ⟨hL, ?_, e0, e1, l0, l1, hx, l3, hz⟩
 obtain ⟨q1, q2⟩ := low_rest ⟨b, hb⟩
 simp only at q1 q2
 unfold checkT at hc ⊢
 rw [if_pos hL] at hc ⊢
 have hL3 : L = 1 ∨ L = 2 ∨ L = 3 := by omega
 have hbad : badH (b1 : Int) (s1 : Int) (outT L) = false := by
  by_cases h : (badH (b0 : Int) (s0 : Int) (restT L) || badH (b1 : Int) (s1 : Int) (outT L)) = true
  ·rw [if_pos h] at hc; cases hc
  ·rw [Bool.not_eq_true, Bool.or_eq_false_iff] at h
   exact h.2
 have hfst : badH (b0 : Int) ((s0 ^^^ 2 ^ b : Nat) : Int) (restT L) = false := by
  rcases hL3 with rfl | rfl | rfl
  ·exact badH_of b0 _ 0 l0 hx (by decide) e0 (Nat.and_zero _) (Nat.and_zero _)
  ·exact badH_of b0 _ 18446744073709551600 l0 hx (by decide) e0 r1 (xor_and _ _ _ r2 q1)
  ·exact badH_of b0 _ 18446744073709543424 l0 hx (by decide) e0 r1 (xor_and _ _ _ r2 q2)
 rw [hfst, hbad]
 rfl
theorem rest_bits : ∀ q : Fin 64, (3 < q.1 → Nat.testBit 18446744073709551600 q.1 = true) ∧ (12 < q.1 → Nat.testBit 18446744073709543424 q.1 = true) := by decide +kernel
theorem bits_eq (L : Int) (hl : L = 2 ∨ L = 3) (x y : Nat) (hx : x < 18446744073709551616) (hy : y < 18446744073709551616) (rx : x &&& restN L = 0) (ry : y &&& restN L = 0) (h : ∀ q, q ≤ cntT L → nxB (x : Int) (q : Int) = nxB (y : Int) (q : Int)) : x = y := by
 apply Nat.eq_of_testBit_eq
 intro i
 by_cases hi : i ≤ cntT L
 ·have := h i hi
  rwa [nxB_bit x i hx, nxB_bit y i hy] at this
 ·have key : ∀ z : Nat, z < 18446744073709551616 → z &&& restN L = 0 → z.testBit i = false := by
   intro z hz hr
   by_cases h64 : i < 64
   ·have hb := congrArg (fun n => Nat.testBit n i) hr
    simp only [Nat.testBit_and, Nat.zero_testBit] at hb
    have hrb : (restN L).testBit i = true := by
     obtain ⟨a, b⟩ := rest_bits ⟨i, h64⟩
     rcases hl with rfl | rfl
     ·exact a (by have : cntT 2 = 3 := rfl; simp only; omega)
     ·exact b (by have : cntT 3 = 12 := rfl; simp only; omega)
    rw [hrb, Bool.and_true] at hb
    exact hb
   ·exact Nat.testBit_lt_two_pow (Nat.lt_of_lt_of_le hz (Nat.pow_le_pow_right (n := 2) (by decide) (show 64 ≤ i by omega)))
  rw [key x hx rx, key y hy ry]
theorem nxt_0 (b0 b1 s0 s1 : Nat) (live : Bool) (q : Nat) (hq : q ≤ 12) : nxtV b0 b1 s0 s1 0 live (q : Int) = nxB (if live = true then (s0 : Int) else (b0 : Int)) (q : Int) ∧ nxtV b0 b1 s0 s1 1 live (q : Int) = nxB (if live = true then (s1 : Int) else (b1 : Int)) (q : Int) := by
 unfold nxtV
 rw [if_neg (show ¬ ((0 : Int) < 0 ∨ (1 : Int) < 0 ∨ (q : Int) < 0 ∨ 63 < (q : Int)) by omega), if_neg (show ¬ ((1 : Int) < 0 ∨ (1 : Int) < 1 ∨ (q : Int) < 0 ∨ 63 < (q : Int)) by omega)]
 exact ⟨rfl, rfl⟩
theorem wit_check {L : Int} {b0 b1 s0 s1 : Nat} (hT : Tb L b0 b1 s0 s1) (K : Nat) (hK : 5000 ≤ K) :
    (∃ (s : List CL) (p : Nat), p < 12 ∧ Srt s ∧ Bx L 1 s ∧ s.length ≤ 16 ∧ iso_Check.f K L b0 b1 s0 s1 = some (s, (p : Int), true, none) ∧ nextL (nxtV b0 b1 s0 s1) L (onL L (p : Int) s) ≠ onL L (p : Int) (nextL (nxtV b0 b1 s0 s1) L s) ∧ ¬ ∀ q, q < 12 → KP L b0 b1 s0 s1 q) ∨
    (iso_Check.f K L b0 b1 s0 s1 = some ([], 0, false, none) ∧ ∀ q, q < 12 → KP L b0 b1 s0 s1 q) := by
 by_cases h1 : L = 1
 ·subst h1
  rcases checkw_hex b0 b1 s0 s1 K (by omega) hT.2.1 with ⟨p, q, live, hp, hq, hb, he⟩ | ⟨he, hall⟩
  ·refine .inl ⟨_, p, hp, ofL_srt _, ?_, ?_, he, ?_, ?_⟩
   ·intro c hc
    have := pat_ok q hq live c hc
    rw [ofL_mem] at hc
    exact ⟨this, pat_box q hq live c hc⟩
   ·refine Nat.le_trans (ofL_le _) ?_
    have := patL_le (q : Int) live 6
    omega
   ·refine hex_wit hT p q hp hq live fun e => ?_
    rw [nxt_hex _ _ _ _ _ q hq, nxt_hex _ _ _ _ _ _ (brT_lt p q hp hq)] at e
    unfold badW at hb
    rw [e] at hb
    simp at hb
   ·intro h
    have := h p hp
    unfold KP at this
    rw [if_pos rfl] at this
    have := this q hq
    rw [badW_at hb] at this
    cases this
  ·refine .inr ⟨he, fun p hp => ?_⟩
   unfold KP
   rw [if_pos rfl]
   exact hall p hp
 ·have hl : L = 2 ∨ L = 3 := by have := hT.1; omega
  have hn12 : cntT L ≤ 12 := by unfold cntT; split <;> omega
  rcases checkw_tri L b0 b1 s0 s1 hl K (by omega) hT.2.1 with ⟨q, live, hq, hne, he⟩ | ⟨he, hall⟩
  ·refine .inl ⟨_, 1, by omega, ofL_srt _, ?_, ?_, he, tri_wit hT hl q hq live hne, ?_⟩
   ·intro c hc
    have := (tri_facts L hl q hq live).2.2 c hc
    rw [ofL_mem] at hc
    exact ⟨this, tri_box L hl q hq live c hc⟩
   ·refine Nat.le_trans (ofL_le _) ?_
    unfold triL
    rw [List.length_append, List.length_take]
    have : (if live = true then [Z0] else []).length ≤ 1 := by split <;> simp
    omega
   ·intro h
    have := h 1 (by omega)
    unfold KP at this
    rw [if_neg h1] at this
    obtain ⟨e0, e1⟩ := this.resolve_left (by omega)
    have e0 : b0 = b1 := by omega
    have e1 : s0 = s1 := by omega
    obtain ⟨x, y⟩ := nxt_0 b0 b1 s0 s1 live q (by omega)
    rw [x, y, e0, e1] at hne
    exact hne rfl
  ·refine .inr ⟨he, fun p hp => ?_⟩
   unfold KP
   rw [if_neg h1]
   obtain ⟨⟨r1, r2⟩, r3⟩ := tb_rest hT
   obtain ⟨r3, r4⟩ := r3 h1
   obtain ⟨_, _, _, _, l0, l1, l2, l3, _⟩ := hT
   refine .inr ⟨?_, ?_⟩
   ·rw [bits_eq L hl b0 b1 l0 l1 r1 r3 fun q hq => ?_]
    have := hall q hq false
    obtain ⟨x, y⟩ := nxt_0 b0 b1 s0 s1 false q (by omega)
    rwa [x, y] at this
   ·rw [bits_eq L hl s0 s1 l2 l3 r2 r4 fun q hq => ?_]
    have := hall q hq true
    obtain ⟨x, y⟩ := nxt_0 b0 b1 s0 s1 true q (by omega)
    rwa [x, y] at this
theorem wit_l0 {L : Int} {b0 b1 s0 s1 : Nat} (hT : Tb L b0 b1 s0 s1) (ok : Bool) (s : List CL) (o : Int) : ∀ (d k p : Nat) (acc : Bool), p + d = 12 → 500 ≤ k →
    ∃ v : Bool, (v = true ↔ acc = true ∧ ∀ q, p ≤ q → q < 12 → KP L b0 b1 s0 s1 q) ∧ hIW.l0 (k + d + 1) ok none acc (p : Int) L b0 b1 s0 s1 s o = hIW.j3 k ok (ok == v) L b0 b1 s0 s1 s o := by
 intro d
 induction d with
 | zero =>
  intro k p acc hp hk
  refine ⟨acc, ⟨fun h => ⟨h, fun q h1 h2 => by omega⟩, fun h => h.1⟩, ?_⟩
  rw [hIW.l0, if_neg (by omega)]
  rfl
 | succ d ih =>
  intro k p acc hp hk
  have hp12 : p < 12 := by omega
  have hw : wrap64 ((p : Int) + 1) = ((p + 1 : Nat) : Int) := by rw [w64i _ (by omega) (by omega)]; rfl
  obtain ⟨t, ht, hti⟩ := rkeeps_f hT (k + d + 1) p (by omega) hp12
  rw [show k + (d + 1) + 1 = (k + d + 1) + 1 by omega, hIW.l0, if_pos (by omega)]
  cases acc with
  | true =>
   obtain ⟨v, hv, he⟩ := ih k (p + 1) t (by omega) hk
   refine ⟨v, hv.trans ⟨fun h => ⟨rfl, fun q h1 h2 => ?_⟩, fun h => ⟨hti.2 (h.2 p (Nat.le_refl _) hp12), fun q h1 h2 => h.2 q (by omega) h2⟩⟩, ?_⟩
   ·rcases Nat.eq_or_lt_of_le h1 with rfl | h3
    ·exact hti.1 h.1
    ·exact h.2 q h3 h2
   ·rw [if_pos rfl]
    simp only [XTold5.f, Option.bind_some]
    rw [ht, Option.bind_some, hw]
    exact he
  | false =>
   obtain ⟨v, hv, he⟩ := ih k (p + 1) false (by omega) hk
   refine ⟨v, hv.trans ⟨fun h => absurd h.1 (by decide), fun h => absurd h.1 (by decide)⟩, ?_⟩
   rw [if_neg (by decide), hw]
   exact he
theorem wit_j1 {L : Int} {b0 b1 s0 s1 : Nat} (hT : Tb L b0 b1 s0 s1) (K : Nat) (hK : 20000 ≤ K) : hIW.j1 K L b0 b1 s0 s1 = some true := by
 obtain ⟨k, rfl⟩ : ∃ k, K = (k + 1) + 12 + 1 + 1 := ⟨K - 15, by omega⟩
 rw [hIW.j1]
 rcases wit_check hT (k + 1 + 12 + 1) (by omega) with ⟨s, p, hp, hs, hbx, hlen, he, hne, hno⟩ | ⟨he, hall⟩
 ·rw [he]
  simp only [Option.bind_some]
  obtain ⟨v, hv, hl⟩ := wit_l0 hT true s (p : Int) 12 (k + 1) 0 true (by omega) (by omega)
  rw [show ((0 : Nat) : Int) = 0 from rfl] at hl
  have hvf : v = false := by
   cases v with
   | false => rfl
   | true => exact absurd (fun q hq => (hv.1 rfl).2 q (Nat.zero_le _) hq) hno
  subst hvf
  have e1 := chk_f k s L hT.1.1 hT.1.2 hs (hbx.chk hT.1 (by omega)) (by omega) (by omega)
  have e2 := told4_f k s (by omega) (by omega)
  have e3 := commutes_f k hT (p : Int) (by omega) (by omega) s hs 1 (by omega) hbx hlen (by omega)
  rw [hl, hIW.j3, if_neg (by decide), if_pos rfl, e1]
  simp only [Option.bind_some, Option.isNone_none, ↓reduceIte, good_f p hp, XTold5.f, e2, e3]
  rw [decide_eq_false hne]
  rfl
 ·rw [he]
  simp only [Option.bind_some]
  obtain ⟨v, hv, hl⟩ := wit_l0 hT false ([] : List CL) 0 12 (k + 1) 0 true (by omega) (by omega)
  rw [show ((0 : Nat) : Int) = 0 from rfl] at hl
  have hvt : v = true := hv.2 ⟨rfl, fun q _ hq => hall q hq⟩
  subst hvt
  rw [hl, hIW.j3, if_neg (by decide), if_neg (by decide), if_pos (by simp)]
  rfl
theorem wit_j0 {L : Int} {b0 b1 s0 s1 : Nat} (hT : Tb L b0 b1 s0 s1) (K : Nat) (hK : 30000 ≤ K) (a1 a2 : Int) : hIW.j0 K a1 a2 L b0 b1 s0 s1 = some true := by
 obtain ⟨k, rfl⟩ : ∃ k, K = k + 1 := ⟨K - 1, by omega⟩
 rw [hIW.j0]
 by_cases h : (Go.bits .and .i64 a1 2) = 2
 ·obtain ⟨b, hb, e1, e2⟩ := mended s0 hT.2.2.2.2.2.2.1 a2
  rw [if_pos h, if_pos (by omega), e2]
  exact wit_j1 (tb_xor hT b hb) k (by omega)
 ·rw [if_neg h]
  exact wit_j1 hT k (by omega)
theorem isoWitness_pure (l a1 a2 : Int) (B B1 S S1 : Nat) (hB : B < 18446744073709551616) (hB1 : B1 < 18446744073709551616) (hS : S < 18446744073709551616) (hS1 : S1 < 18446744073709551616) :
    ∃ K, hIW.f K l B B1 S S1 a1 a2 = some true := by
 obtain ⟨K, hK⟩ : ∃ K : Nat, 100000 ≤ K := ⟨100000, Nat.le_refl _⟩
 refine ⟨K, ?_⟩
 obtain ⟨L, b0, b1, s0, s1, hsome, ht⟩ := some_rule l B B1 S S1 hB hB1 hS hS1
 have hc : L ≠ 1 → checkT L b0 b0 s0 s0 = none := some_whole l B B1 S S1 hB hB1 hS hS1 hsome
 unfold hIW.f
 rw [show XAwake07.f = some true from rfl, hsome]
 simp only [Option.bind_some, ↓reduceIte]
 by_cases h : (Go.bits .and .i64 a1 1) = 1
 ·obtain ⟨c0, c1, d0, d1, hw, ht'⟩ := whole_tb ht hc K (by omega)
  rw [if_pos h, hw, Option.bind_some]
  exact wit_j0 ht' K (by omega) a1 a2
 ·rw [if_neg h]
  exact wit_j0 ht K (by omega) a1 a2
theorem isoWitness_walk (l b0 b1 s0 s1 : Int) (a1 a2 : Int) (w : World) (hG : Six w) (hb0 : 0 ≤ b0) (hb0' : b0 < 18446744073709551616) (hb1 : 0 ≤ b1) (hb1' : b1 < 18446744073709551616) (hs0 : 0 ≤ s0) (hs0' : s0 < 18446744073709551616) (hs1 : 0 ≤ s1) (hs1' : s1 < 18446744073709551616) :
    Calls Tryd.prog 9 #[.agg #[.int .i64 l, .int .u64 b0, .int .u64 b1, .int .u64 s0, .int .u64 s1], .int .i64 a1, .int .i64 a2] w fun e w' => e = .returned (.bool true) ∧ Below w.heap.size w w' := by
 obtain ⟨B, rfl⟩ := Int.eq_ofNat_of_zero_le hb0
 obtain ⟨B1, rfl⟩ := Int.eq_ofNat_of_zero_le hb1
 obtain ⟨S, rfl⟩ := Int.eq_ofNat_of_zero_le hs0
 obtain ⟨S1, rfl⟩ := Int.eq_ofNat_of_zero_le hs1
 obtain ⟨K, hK⟩ := isoWitness_pure l a1 a2 B B1 S S1 (by omega) (by omega) (by omega) (by omega)
 exact hIW.calls K l B B1 S S1 a1 a2 true w hG hK rfl
open Go.ChangeShapes Go.WideShapes Go.ChangeAt
open Go.ChangeMaps (open_string shut_string)
theorem isoWitness_lifted (os : Os) (started : os.Started) (H : Type) (enc : TypeId × Value → H) :
    ReturnsInHanded {} Tryd.checked os 9 .any (fun w args => (Rows.isoWitnessSpec.pre enc Tryd.prog Tryd.f9 [] false w args ∧ laidMetH Tryd.prog laid1 w) ∧ sizedMet enc Tryd.prog Tryd.f9 (OpenSpec.ofChange Rows.isoWitnessSpec) false w args)
     (Rows.isoWitnessSpec.post enc Tryd.prog Tryd.f9 false true false false) := by
 refine returnsInHanded_of_change_and (C := Tryd.checked) (X := fun w _ => laidMetH Tryd.prog laid1 w) (fun _ _ _ hh h => h.of_heap hh) ownP started (by kernel_rfl) Tryd.func9
  (ChangeSpec.witness_shaped (enc := enc) (C := Tryd.checked) (os := os) (X := fun w _ => laidMetH Tryd.prog laid1 w) false (World.doorLaid Tryd.prog 27 os) #[.agg #[.int .i64 0, .int .u64 0, .int .u64 0, .int .u64 0, .int .u64 0], .int .i64 0, .int .i64 0] 8 rfl (World.shaped_of_RefB (by kernel_rfl) (by kernel_rfl)) (by kernel_rfl) (by kernel_rfl) (by kernel_rfl) (door_met os _)) ?_
 intro W base args ds gs before hval0 hW _ _ hL _
 have hval : ∀ (j : Nat) t v, Tryd.f9.params[j]? = some t → args[j]? = some v → Value.okWide Tryd.prog W .any base t v := hval0
 have hW' := hW
 obtain ⟨p, q, hA0, hV, rfl, hfz, hnd⟩ := hW
 have hA : DataW.TrodAll enc Tryd.prog W 0 (fun _ => true) true Tryd.f9.params.toList args.toList ds p := hA0
 rw [Tryd.params9] at hA hval
 obtain ⟨v0, vs0, d0, ds0, p0, q0, hargs, rfl, rfl, h0, r0⟩ := trodAll_cons hA
 obtain ⟨v1, vs1, d1, ds1, p1, q1, rfl, rfl, rfl, h1, r1⟩ := trodAll_cons r0
 obtain ⟨v2, vs2, d2, ds2, p2, q2, rfl, rfl, rfl, h2, r2⟩ := trodAll_cons r1
 obtain ⟨rfl, rfl, rfl⟩ := trodAll_nil r2
 obtain rfl : args = #[v0, v1, v2] := by cases args; simp_all
 obtain ⟨rfl, rfl⟩ := trodVars_none hV
 obtain ⟨l0, a0, b0, c0, e0, rfl, rfl, rfl, wl0, wa0, wb0, wc0, we0⟩ := open_raw (hval 0 _ v0 rfl rfl) h0
 obtain ⟨a1, rfl, rfl, rfl, w1⟩ := open_int Tryd.underlying3 (hval 1 _ v1 rfl rfl) h1
 obtain ⟨a2, rfl, rfl, rfl, w2⟩ := open_int Tryd.underlying3 (hval 2 _ v2 rfl rfl) h2
 clear hA0 hval0
 refine (isoWitness_walk l0 a0 b0 c0 e0 a1 a2 W (six_of_laid hL) (u64_rng wa0).1 (u64_rng wa0).2 (u64_rng wb0).1 (u64_rng wb0).2 (u64_rng wc0).1 (u64_rng wc0).2 (u64_rng we0).1 (u64_rng we0).2).mono fun e W' ⟨he, bel⟩ => ?_
 subst he
 exact ⟨_, rfl, _, _, _, [], _, [], hW', trodAll_mk1 (shut_bool Tryd.underlying4 _), (trodAll_cons_mk (shut_raw wl0 wa0 wb0 wc0 we0) (trodAll_cons_mk (shut_int Tryd.underlying3 w1) (trodAll_cons_mk (shut_int Tryd.underlying3 w2) trodAll_mk0))), rfl, bel.frame _, fun h => by cases h⟩
theorem isoWitness_holds : Rows.IsoWitnessSaid :=
 OpenClaim.holds_of_wide 9 Tryd.f9 rfl rfl rfl rfl rfl rfl rfl ⟨rfl, rfl, rfl, rfl, rfl⟩ rfl rfl rfl rfl rfl (by kernel_rfl) Tryd.func9 (by kernel_rfl)
  (of_decide_eq_true (by kernel_rfl)) (by unfold Func.isWrapper; first | (rw [if_pos (by decide +kernel)]; kernel_rfl) | (rw [if_neg (by decide +kernel)]; exact ⟨rfl, rfl⟩))
  (fun os started H enc _ => isoWitness_lifted os started H enc)
theorem isoWitness_card : Rows.IsoWitnessCardSaid :=
 Claim7.holds_tied_plain_at .later [] [.data] true (true, "5343993735a6796f50623d127ce6b9207b28942770deceed6d4303fa040c3cfe") true
  isoWitness_holds (fun _ h => by cases h) (by kernel_rfl) (fun _ h => by cases h) isoWitness_row_tie rfl ⟨rfl, rfl⟩ (by kernel_rfl) rfl
  (fun f fn hf hfn => by
   obtain rfl : f = 9 := Option.some.inj ((show Tryd.prog.funcNamed "honeycomb/honeycomblaw07.IsoWitness" = some 9 by kernel_rfl).symm.trans hf) |>.symm
   obtain rfl : fn = Tryd.f9 := (Option.some.inj (Tryd.func9.symm.trans hfn)).symm
   refine ⟨by kernel_rfl, fun j t ht => ?_⟩
   have hall : (Tryd.f9.params.toList.all fun t => !Tryd.prog.wantsStandIn t) = true := by kernel_rfl
   have hmem : t ∈ Tryd.f9.params.toList := by
    have := Array.mem_of_getElem? ht
    simpa using this
   have := List.all_eq_true.1 hall t hmem
   exact (by simpa using this : Tryd.prog.wantsStandIn t = false))
  (by kernel_rfl)
#print axioms isoWitness_card
end Go.Proofs.YtaeenefdbahfoaaDoor
