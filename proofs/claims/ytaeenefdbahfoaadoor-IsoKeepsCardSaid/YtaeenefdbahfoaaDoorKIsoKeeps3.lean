/- Parts of the proof (IsoKeeps), merged out of our texts by wip/tools/pack.py: HIso1, PRing2, XClasses, XLetter, HTab, LaySort, Comp, XOf, Near, Beside, Pure3, XBeside. -/
import Derived.Test.YtaeenefdbahfoaaDoorKIsoKeeps1
import Derived.Test.YtaeenefdbahfoaaDoorKIsoKeeps2
import Derived.Laws.RangeString
import Derived.Shelf.SlGeneric
import Derived.Shelf.SlSortCmp.NoneTotal
import Derived.Test.YtaeenefdbahfoaaDoorProg
import Derived.Lib.SlicesCompact
namespace Go.Proofs.YtaeenefdbahfoaaDoor.H
open Go.RowKit Go.Proofs.YtaeenefdbahfoaaDoorW.PrintWords Go.Proofs.YtaeenefdbahfoaaDoorW.PrintLast Go.Proofs.YtaeenefdbahfoaaDoorW.PrintMore
attribute [local go_sem] max2_int min2_int max_two min_two max_three min_three max_four min_four
set_option linter.unusedVariables false
set_option linter.unusedSimpArgs false
mutual
def iso_Keeps.j0 : Nat → Int → Bool → Int → Int → Int → Int → Int → Option (Bool)
 | 0, _, _, _, _, _, _, _ => none
 | k + 1, x1, x16, x194000, x194001, x194002, x194003, x194004 => if x16 = true then (some false) else (if x194000 = 1 then (iso_Keeps.l0 k x1 0 x194000 x194001 x194002 x194003 x194004) else ((XOn.f x194000 x1 0 0 0).bind fun bt197 => (if bt197.2.2.1 = 0 then (some true) else (if x194001 = x194002 then (some (x194003 == x194004)) else (some false)))))
def iso_Keeps.l0 : Nat → Int → Int → Int → Int → Int → Int → Int → Option (Bool)
 | 0, _, _, _, _, _, _, _ => none
 | k + 1, x1, x49, x194000, x194001, x194002, x194003, x194004 => if x49 < 64 then ((XBrought.f x1 x49).bind fun t202 => ((XNext.f x194000 x194001 x194002 x194003 x194004 0 false x49).bind fun t203 => ((XNext.f x194000 x194001 x194002 x194003 x194004 0 false t202).bind fun t204 => (if (t203 != t204) = true then (some false) else ((XNext.f x194000 x194001 x194002 x194003 x194004 0 true x49).bind fun t205 => ((XNext.f x194000 x194001 x194002 x194003 x194004 0 true t202).bind fun t206 => (if (t205 != t206) = true then (some false) else (iso_Keeps.l0 k x1 (wrap64 (x49 + 1)) x194000 x194001 x194002 x194003 x194004)))))))) else (some true)
end
def iso_Keeps.f (k : Nat) (a0_0 : Int) (a0_1 : Int) (a0_2 : Int) (a0_3 : Int) (a0_4 : Int) (a1 : Int) : Option (Bool) := (XTCheck.f a0_0 a0_1 a0_2 a0_3 a0_4).bind fun t194 => (if t194.isNone = true then ((axis_Operator_Good.f a1).bind fun t196 => (iso_Keeps.j0 k a1 (!t196) a0_0 a0_1 a0_2 a0_3 a0_4)) else (iso_Keeps.j0 k a1 true a0_0 a0_1 a0_2 a0_3 a0_4))
def iso_Keeps.T10 : Bool × List (List Nat × List Nat) := (true, [([], []), ([], []), ([0, 1], [0, 1]), ([], []), ([], []), ([3, 4, 2], [3, 4]), ([2, 5], [2, 5]), ([6, 5], [6]), ([7], [7]), ([7], [7]), ([8, 9, 7, 7], [7, 8, 9]), ([7], [7]), ([7], [7]), ([11, 12, 10, 7], [7, 11, 12]), ([10, 13, 7], [7, 10, 13]), ([7, 14], [7, 14])])
def iso_Keeps.B10 : List Nat := [0, 0, 3, 0, 0, 31, 63, 127, 255, 255, 1023, 255, 255, 8191, 16383, 32767]
theorem iso_Keeps.tab10 : rtab .any (opsOf Tryd.f18 10) = iso_Keeps.T10 := by kernel_rfl
theorem iso_Keeps.bits10 : waitsOk iso_Keeps.T10.2 iso_Keeps.B10 = true := by kernel_rfl
set_option maxHeartbeats 8000000 in
set_option maxRecDepth 100000 in
theorem iso_Keeps.calls (k : Nat) (a0_0 : Int) (a0_1 : Int) (a0_2 : Int) (a0_3 : Int) (a0_4 : Int) (a1 : Int) (r : Bool) (w : World) (hGSix : Six w) (h : iso_Keeps.f k a0_0 a0_1 a0_2 a0_3 a0_4 a1 = some r) :
  Calls Tryd.prog 18 #[.agg #[.int .i64 a0_0, .int .u64 a0_1, .int .u64 a0_2, .int .u64 a0_3, .int .u64 a0_4], .int .i64 a1] w fun e w' => e = .returned (.bool r) ∧ Below w.heap.size w w' := by
 have hu29 := Tryd.underlying29
 have hu65 := Tryd.underlying65
 have hu39 := Tryd.underlying39
 have hu87 := Tryd.underlying87
 have HB := Aside0.mk (Below.refl w.heap.size w)
 have HGSix := Aside0.mk hGSix
 clear hGSix
 have H : ((XTCheck.f a0_0 a0_1 a0_2 a0_3 a0_4).bind fun t194 => (if t194.isNone = true then ((axis_Operator_Good.f a1).bind fun t196 => (iso_Keeps.j0 k a1 (!t196) a0_0 a0_1 a0_2 a0_3 a0_4)) else (iso_Keeps.j0 k a1 true a0_0 a0_1 a0_2 a0_3 a0_4))) = some r := h
 clear h
 have HC3 := Aside0.mk H
 clear H
 go_enter Tryd.func18, Tryd.ntmps18
 go_upto_region 1 with (first | ((with_reducible refine gate_dst (N := 2) rfl ?_); refine bx_ 2 #[.int .i64 a0_0, .int .u64 a0_1, .int .u64 a0_2, .int .u64 a0_3, .int .u64 a0_4] 29 ?_; intro gb193 hg w4 hbox hb; have BK193 := Aside0.mk (hbox); have GW193 := Aside0.mk ((by rw [hg]; exact (below_size hb_) : w.heap.size ≤ gb193)); have GE193 := GW193; replace HB := Aside0.mk (below_step hb_ hb); clear hb hbox hg))
 (try simp only [Act.put, List.setIfInBounds_toArray, List.set_cons_zero, List.set_cons_succ])
 go_cut [16] (fun v16 wc => ∃ (kq : Nat) (x16_2 : Bool), v16 = .bool x16_2 ∧ Aside0 (iso_Keeps.j0 kq a1 x16_2 a0_0 a0_1 a0_2 a0_3 a0_4 = some r) ∧ Aside0 (kq ≤ k) ∧ Aside0 (wc.heap[gb193]? = some (.cells #[.int .i64 a0_0, .int .u64 a0_1, .int .u64 a0_2, .int .u64 a0_3, .int .u64 a0_4] 29 (0, 0))) ∧ Aside0 (Below w.heap.size w wc))
 case first =>
  have H := HC3.out
  clear HC3
  replace H := Option.bind_eq_some_iff.mp H
  obtain ⟨t194, A50, H⟩ := H
  replace H : (if t194.isNone = true then ((axis_Operator_Good.f a1).bind fun t196 => (iso_Keeps.j0 k a1 (!t196) a0_0 a0_1 a0_2 a0_3 a0_4)) else (iso_Keeps.j0 k a1 true a0_0 a0_1 a0_2 a0_3 a0_4)) = some r := H
  have A5 := Aside0.mk A50
  clear A50
  rcases t194 with _ | q195
  rotate_left
  ·
   have H1 : (iso_Keeps.j0 k a1 true a0_0 a0_1 a0_2 a0_3 a0_4) = some r := by rw [if_neg (show ¬ (some q195).isNone = true by simp)] at H; exact H
   clear H
   have H := H1
   clear H1
   try simp only [errW_none, errW_some]
   have H' := Aside0.mk H
   clear H
   obtain ⟨hcz9_0, hcz9_1, hcz9_2, hcz9_3, hcz9_4⟩ := cz5_ BK193.out
   obtain ⟨hfz9_0, hfz9_1, hfz9_2, hfz9_3, hfz9_4⟩ := fz5_ BK193.out
   go_wp2_with (first | ((with_reducible refine gate_callee (f := 53) rfl ?_); refine goesL_ (some 10) rfl rfl Tryd.func53 (by kernel_rfl) rfl #[.agg #[.int .i64 a0_0, .int .u64 a0_1, .int .u64 a0_2, .int .u64 a0_3, .int .u64 a0_4]] rfl ar_ ?_; (with_reducible refine (XTCheck.calls a0_0 a0_1 a0_2 a0_3 a0_4 (some q195) _ A5.out).mono ?_); rintro e w10 ⟨rfl, hb⟩; refine ⟨_, rfl, ?_⟩; replace BK193 := bb_ BK193.out hb; replace HB := Aside0.mk (below_step (hg_ GE193.out) hb); (try clear hb); (try clear hb2); (try clear hk); (try clear hi); (try simp only [errW_none, errW_some])))
   go_meet
   case rel => exact ⟨_, (true), rs_, H', ⟨by first | omega | exact Nat.le_refl _⟩, ⟨bk_ BK193.out⟩, ⟨by repeat (first | (with_reducible first | exact HB.out | apply ba_ | apply bn_ | apply bd_ | refine below_set ?_ GE193.out) | exact HB.out)⟩⟩
  have H1 : ((axis_Operator_Good.f a1).bind fun t196 => (iso_Keeps.j0 k a1 (!t196) a0_0 a0_1 a0_2 a0_3 a0_4)) = some r := by rw [if_pos (show (none : Option Int).isNone = true by rfl)] at H; exact H
  clear H
  have H := H1
  clear H1
  try simp only [errW_none, errW_some]
  replace H := Option.bind_eq_some_iff.mp H
  obtain ⟨t196, A60, H⟩ := H
  replace H : (iso_Keeps.j0 k a1 (!t196) a0_0 a0_1 a0_2 a0_3 a0_4) = some r := H
  have A6 := Aside0.mk A60
  clear A60
  have H' := Aside0.mk H
  clear H
  obtain ⟨hcz7_0, hcz7_1, hcz7_2, hcz7_3, hcz7_4⟩ := cz5_ BK193.out
  obtain ⟨hfz7_0, hfz7_1, hfz7_2, hfz7_3, hfz7_4⟩ := fz5_ BK193.out
  go_wp2_with (first | ((with_reducible refine gate_callee (f := 53) rfl ?_); refine goesL_ (some 10) rfl rfl Tryd.func53 (by kernel_rfl) rfl #[.agg #[.int .i64 a0_0, .int .u64 a0_1, .int .u64 a0_2, .int .u64 a0_3, .int .u64 a0_4]] rfl ar_ ?_; (with_reducible refine (XTCheck.calls a0_0 a0_1 a0_2 a0_3 a0_4 none _ A5.out).mono ?_); rintro e w8 ⟨rfl, hb⟩; refine ⟨_, rfl, ?_⟩; replace BK193 := bb_ BK193.out hb; replace HB := Aside0.mk (below_step (hg_ GE193.out) hb); (try clear hb); (try clear hb2); (try clear hk); (try clear hi); (try simp only [errW_none, errW_some])) | (go_at_call 44; (with_reducible refine (axis_Operator_Good.calls a1 t196 _ A6.out).mono ?_); rintro e w' ⟨rfl, ⟨nd, rfl⟩⟩))
  go_meet
  case rel => exact ⟨_, (!t196), rs_, H', ⟨by first | omega | exact Nat.le_refl _⟩, ⟨bk_ BK193.out⟩, ⟨by repeat (first | (with_reducible first | exact HB.out | apply ba_ | apply bn_ | apply bd_ | refine below_set ?_ GE193.out) | exact HB.out)⟩⟩
 case rest =>
  clear HC3
  try clear c1
  try clear q1
  try clear p2
  try clear c5
  try clear hcz7_0
  try clear hcz7_1
  try clear hcz7_2
  try clear hcz7_3
  try clear hcz7_4
  try clear hcz9_0
  try clear hcz9_1
  try clear hcz9_2
  try clear hcz9_3
  try clear hcz9_4
  try clear hfz7_0
  try clear hfz7_1
  try clear hfz7_2
  try clear hfz7_3
  try clear hfz7_4
  try clear hfz9_0
  try clear hfz9_1
  try clear hfz9_2
  try clear hfz9_3
  try clear hfz9_4
  try clear q195
  obtain ⟨kq, x16_2, rfl, HA, HJ2, BK193, HB⟩ := hcut
  cases kq with
  | zero => exact absurd HA.out (by simp [iso_Keeps.j0])
  | succ kj2 =>
   have H := HA.out
   clear HA
   simp only [iso_Keeps.j0] at H
   by_cases c11 : x16_2 = true
   ·
    subst c11
    have H1 : (some false) = some r := by rw [if_pos rfl] at H; exact H
    clear H
    have H := H1
    clear H1
    obtain rfl := Option.some.inj H
    go_wp2
    go_ret
    exact ⟨er_, hg_ GE193.out⟩
   replace c11 := Bool.eq_false_iff.mpr c11
   subst c11
   have H1 : (if a0_0 = 1 then (iso_Keeps.l0 kj2 a1 0 a0_0 a0_1 a0_2 a0_3 a0_4) else ((XOn.f a0_0 a1 0 0 0).bind fun bt197 => (if bt197.2.2.1 = 0 then (some true) else (if a0_1 = a0_2 then (some (a0_3 == a0_4)) else (some false))))) = some r := by rw [if_neg (show ¬ (false = true) by decide)] at H; exact H
   clear H
   have H := H1
   clear H1
   by_cases c12 : a0_0 = 1
   rotate_left
   ·
    rw [if_neg c12] at H
    have c12b0 : (a0_0 == 1) = false := beq_eq_false_iff_ne.mpr c12
    have c12b1 : (a0_0 != 1) = true := bne_iff_ne.mpr c12
    replace H := Option.bind_eq_some_iff.mp H
    obtain ⟨⟨t197, t198, t199, t200⟩, A380, H⟩ := H
    replace H : (if t199 = 0 then (some true) else (if a0_1 = a0_2 then (some (a0_3 == a0_4)) else (some false))) = some r := H
    have A38 := Aside0.mk A380
    clear A380
    by_cases c39 : t199 = 0
    ·
     rw [if_pos c39] at H
     have c39b0 : (t199 == 0) = true := beq_iff_eq.mpr c39
     have c39b1 : (t199 != 0) = false := bne_eq_false_iff_eq.mpr c39
     clear c39
     obtain rfl := Option.some.inj H
     obtain ⟨hcz40_0, hcz40_1, hcz40_2, hcz40_3, hcz40_4⟩ := cz5_ BK193.out
     obtain ⟨hfz40_0, hfz40_1, hfz40_2, hfz40_3, hfz40_4⟩ := fz5_ BK193.out
     go_wp2_with (first | ((with_reducible refine gate_callee (f := 56) rfl ?_); refine goesL_ (some 25) rfl rfl Tryd.func56 (by kernel_rfl) rfl #[.int .i64 a0_0, .int .i64 a1, .agg #[.int .i64 0, .int .i64 0, .int .i64 0]] rfl ar_ ?_; (with_reducible refine (XOn.calls a0_0 a1 0 0 0 t197 t198 t199 t200 _ A38.out).mono ?_); rintro e w41 ⟨rfl, hb⟩; refine ⟨_, rfl, ?_⟩; replace BK193 := bb_ BK193.out hb; replace HB := Aside0.mk (below_step (hg_ GE193.out) hb); (try clear hb); (try clear hb2); (try clear hk); (try clear hi); (try simp only [errW_none, errW_some])) | ((with_reducible refine gate_dst (N := 5) rfl ?_); refine bx_ 5 #[.int .i64 0, .int .i64 0, .int .i64 0] 65 ?_; intro gb201 hg w42 hbox hb; have BK201 := Aside0.mk (hbox); have GW201 := Aside0.mk ((by rw [hg]; exact (below_size (hg_ GE193.out)) : w.heap.size ≤ gb201)); have GE201 := GW201; have NB193_201 := Aside0.mk ((by rw [hg]; exact ne1_ BK193.out : gb193 ≠ gb201)); have NB201_193 := Aside0.mk ((by rw [hg]; exact ne2_ BK193.out : gb201 ≠ gb193)); replace BK193 := bb_ BK193.out hb; replace HB := Aside0.mk (below_step (hg_ GE193.out) hb); clear hb hbox hg; have hnb43 := NB201_193.out; have hnc43 := NB193_201.out; obtain ⟨hcz44_0, hcz44_1, hcz44_2⟩ := cz3_ BK201.out; obtain ⟨hfz44_0, hfz44_1, hfz44_2⟩ := fz3_ BK201.out))
     go_ret
     exact ⟨er_, hg2_ GE193.out GE201.out⟩
    rw [if_neg c39] at H
    have c39b0 : (t199 == 0) = false := beq_eq_false_iff_ne.mpr c39
    have c39b1 : (t199 != 0) = true := bne_iff_ne.mpr c39
    by_cases c45 : a0_1 = a0_2
    rotate_left
    ·
     rw [if_neg c45] at H
     have c45b0 : (a0_1 == a0_2) = false := beq_eq_false_iff_ne.mpr c45
     have c45b1 : (a0_1 != a0_2) = true := bne_iff_ne.mpr c45
     obtain rfl := Option.some.inj H
     obtain ⟨hcz52_0, hcz52_1, hcz52_2, hcz52_3, hcz52_4⟩ := cz5_ BK193.out
     obtain ⟨hfz52_0, hfz52_1, hfz52_2, hfz52_3, hfz52_4⟩ := fz5_ BK193.out
     go_wp2_with (first | ((with_reducible refine gate_callee (f := 56) rfl ?_); refine goesL_ (some 25) rfl rfl Tryd.func56 (by kernel_rfl) rfl #[.int .i64 a0_0, .int .i64 a1, .agg #[.int .i64 0, .int .i64 0, .int .i64 0]] rfl ar_ ?_; (with_reducible refine (XOn.calls a0_0 a1 0 0 0 t197 t198 t199 t200 _ A38.out).mono ?_); rintro e w53 ⟨rfl, hb⟩; refine ⟨_, rfl, ?_⟩; replace BK193 := bb_ BK193.out hb; replace HB := Aside0.mk (below_step (hg_ GE193.out) hb); (try clear hb); (try clear hb2); (try clear hk); (try clear hi); (try simp only [errW_none, errW_some])) | ((with_reducible refine gate_dst (N := 5) rfl ?_); refine bx_ 5 #[.int .i64 0, .int .i64 0, .int .i64 0] 65 ?_; intro gb201 hg w54 hbox hb; have BK201 := Aside0.mk (hbox); have GW201 := Aside0.mk ((by rw [hg]; exact (below_size (hg_ GE193.out)) : w.heap.size ≤ gb201)); have GE201 := GW201; have NB193_201 := Aside0.mk ((by rw [hg]; exact ne1_ BK193.out : gb193 ≠ gb201)); have NB201_193 := Aside0.mk ((by rw [hg]; exact ne2_ BK193.out : gb201 ≠ gb193)); replace BK193 := bb_ BK193.out hb; replace HB := Aside0.mk (below_step (hg_ GE193.out) hb); clear hb hbox hg; have hnb55 := NB201_193.out; have hnc55 := NB193_201.out; obtain ⟨hcz56_0, hcz56_1, hcz56_2⟩ := cz3_ BK201.out; obtain ⟨hfz56_0, hfz56_1, hfz56_2⟩ := fz3_ BK201.out; obtain ⟨hcz57_0, hcz57_1, hcz57_2, hcz57_3, hcz57_4⟩ := cz5_ BK193.out; obtain ⟨hfz57_0, hfz57_1, hfz57_2, hfz57_3, hfz57_4⟩ := fz5_ BK193.out))
     go_ret
     exact ⟨er_, hg2_ GE193.out GE201.out⟩
    rw [if_pos c45] at H
    have c45b0 : (a0_1 == a0_2) = true := beq_iff_eq.mpr c45
    have c45b1 : (a0_1 != a0_2) = false := bne_eq_false_iff_eq.mpr c45
    clear c45
    obtain rfl := Option.some.inj H
    obtain ⟨hcz46_0, hcz46_1, hcz46_2, hcz46_3, hcz46_4⟩ := cz5_ BK193.out
    obtain ⟨hfz46_0, hfz46_1, hfz46_2, hfz46_3, hfz46_4⟩ := fz5_ BK193.out
    go_wp2_with (first | ((with_reducible refine gate_callee (f := 56) rfl ?_); refine goesL_ (some 25) rfl rfl Tryd.func56 (by kernel_rfl) rfl #[.int .i64 a0_0, .int .i64 a1, .agg #[.int .i64 0, .int .i64 0, .int .i64 0]] rfl ar_ ?_; (with_reducible refine (XOn.calls a0_0 a1 0 0 0 t197 t198 t199 t200 _ A38.out).mono ?_); rintro e w47 ⟨rfl, hb⟩; refine ⟨_, rfl, ?_⟩; replace BK193 := bb_ BK193.out hb; replace HB := Aside0.mk (below_step (hg_ GE193.out) hb); (try clear hb); (try clear hb2); (try clear hk); (try clear hi); (try simp only [errW_none, errW_some])) | ((with_reducible refine gate_dst (N := 5) rfl ?_); refine bx_ 5 #[.int .i64 0, .int .i64 0, .int .i64 0] 65 ?_; intro gb201 hg w48 hbox hb; have BK201 := Aside0.mk (hbox); have GW201 := Aside0.mk ((by rw [hg]; exact (below_size (hg_ GE193.out)) : w.heap.size ≤ gb201)); have GE201 := GW201; have NB193_201 := Aside0.mk ((by rw [hg]; exact ne1_ BK193.out : gb193 ≠ gb201)); have NB201_193 := Aside0.mk ((by rw [hg]; exact ne2_ BK193.out : gb201 ≠ gb193)); replace BK193 := bb_ BK193.out hb; replace HB := Aside0.mk (below_step (hg_ GE193.out) hb); clear hb hbox hg; have hnb49 := NB201_193.out; have hnc49 := NB193_201.out; obtain ⟨hcz50_0, hcz50_1, hcz50_2⟩ := cz3_ BK201.out; obtain ⟨hfz50_0, hfz50_1, hfz50_2⟩ := fz3_ BK201.out; obtain ⟨hcz51_0, hcz51_1, hcz51_2, hcz51_3, hcz51_4⟩ := cz5_ BK193.out; obtain ⟨hfz51_0, hfz51_1, hfz51_2, hfz51_3, hfz51_4⟩ := fz5_ BK193.out))
    go_ret
    exact ⟨er_, hg2_ GE193.out GE201.out⟩
   rw [if_pos c12] at H
   have c12b0 : (a0_0 == 1) = true := beq_iff_eq.mpr c12
   have c12b1 : (a0_0 != 1) = false := bne_eq_false_iff_eq.mpr c12
   clear c12
   have H' := Aside0.mk H
   clear H
   obtain ⟨hcz13_0, hcz13_1, hcz13_2, hcz13_3, hcz13_4⟩ := cz5_ BK193.out
   obtain ⟨hfz13_0, hfz13_1, hfz13_2, hfz13_3, hfz13_4⟩ := fz5_ BK193.out
   go_wp2
   go_loopg [49] kj2 (fun kq v49 w' => ∃ (x49_2 : Int), v49 = .int .i64 x49_2 ∧ Aside0 (iso_Keeps.l0 kq a1 x49_2 a0_0 a0_1 a0_2 a0_3 a0_4 = some r) ∧ Aside0 (kq ≤ kj2) ∧ Aside0 (w'.heap[gb193]? = some (.cells #[.int .i64 a0_0, .int .u64 a0_1, .int .u64 a0_2, .int .u64 a0_3, .int .u64 a0_4] 29 (0, 0))) ∧ Aside0 (Below w.heap.size w w'))
   case atStart => exact ⟨(0), rs_, H', ⟨Nat.le_refl _⟩, ⟨bk_ BK193.out⟩, ⟨by repeat (first | (with_reducible first | exact HB.out | apply ba_ | apply bn_ | apply bd_ | refine below_set ?_ GE193.out) | exact HB.out)⟩⟩
   case round =>
    clear H'
    try clear c1
    try clear q1
    try clear p2
    try clear c5
    try clear c11
    try clear c12
    try clear c12b0
    try clear c12b1
    try clear hcz13_0
    try clear hcz13_1
    try clear hcz13_2
    try clear hcz13_3
    try clear hcz13_4
    try clear hcz7_0
    try clear hcz7_1
    try clear hcz7_2
    try clear hcz7_3
    try clear hcz7_4
    try clear hcz9_0
    try clear hcz9_1
    try clear hcz9_2
    try clear hcz9_3
    try clear hcz9_4
    try clear hfz13_0
    try clear hfz13_1
    try clear hfz13_2
    try clear hfz13_3
    try clear hfz13_4
    try clear hfz7_0
    try clear hfz7_1
    try clear hfz7_2
    try clear hfz7_3
    try clear hfz7_4
    try clear hfz9_0
    try clear hfz9_1
    try clear hfz9_2
    try clear hfz9_3
    try clear hfz9_4
    try clear p2
    try clear q1
    try clear q195
    obtain ⟨x49_2, rfl, HA, HK2, BK193, HB⟩ := hrel
    cases gk with
    | zero => exact absurd HA.out (by simp [iso_Keeps.l0])
    | succ k2 =>
     have H := HA.out
     clear HA
     simp only [iso_Keeps.l0] at H
     by_cases c14 : x49_2 < 64
     rotate_left
     ·
      rw [if_neg c14] at H
      have c14b0 : decide (x49_2 < 64) = false := decide_eq_false c14
      clear c14
      obtain rfl := Option.some.inj H
      go_wp2
      go_ret
      exact ⟨er_, hg_ GE193.out⟩
     rw [if_pos c14] at H
     have c14b0 : decide (x49_2 < 64) = true := decide_eq_true c14
     clear c14
     replace H := Option.bind_eq_some_iff.mp H
     obtain ⟨t202, A150, H⟩ := H
     replace H : ((XNext.f a0_0 a0_1 a0_2 a0_3 a0_4 0 false x49_2).bind fun t203 => ((XNext.f a0_0 a0_1 a0_2 a0_3 a0_4 0 false t202).bind fun t204 => (if (t203 != t204) = true then (some false) else ((XNext.f a0_0 a0_1 a0_2 a0_3 a0_4 0 true x49_2).bind fun t205 => ((XNext.f a0_0 a0_1 a0_2 a0_3 a0_4 0 true t202).bind fun t206 => (if (t205 != t206) = true then (some false) else (iso_Keeps.l0 k2 a1 (wrap64 (x49_2 + 1)) a0_0 a0_1 a0_2 a0_3 a0_4))))))) = some r := H
     have A15 := Aside0.mk A150
     clear A150
     replace H := Option.bind_eq_some_iff.mp H
     obtain ⟨t203, A160, H⟩ := H
     replace H : ((XNext.f a0_0 a0_1 a0_2 a0_3 a0_4 0 false t202).bind fun t204 => (if (t203 != t204) = true then (some false) else ((XNext.f a0_0 a0_1 a0_2 a0_3 a0_4 0 true x49_2).bind fun t205 => ((XNext.f a0_0 a0_1 a0_2 a0_3 a0_4 0 true t202).bind fun t206 => (if (t205 != t206) = true then (some false) else (iso_Keeps.l0 k2 a1 (wrap64 (x49_2 + 1)) a0_0 a0_1 a0_2 a0_3 a0_4)))))) = some r := H
     have A16 := Aside0.mk A160
     clear A160
     replace H := Option.bind_eq_some_iff.mp H
     obtain ⟨t204, A170, H⟩ := H
     replace H : (if (t203 != t204) = true then (some false) else ((XNext.f a0_0 a0_1 a0_2 a0_3 a0_4 0 true x49_2).bind fun t205 => ((XNext.f a0_0 a0_1 a0_2 a0_3 a0_4 0 true t202).bind fun t206 => (if (t205 != t206) = true then (some false) else (iso_Keeps.l0 k2 a1 (wrap64 (x49_2 + 1)) a0_0 a0_1 a0_2 a0_3 a0_4))))) = some r := H
     have A17 := Aside0.mk A170
     clear A170
     by_cases c18 : (t203 != t204) = true
     ·
      rw [if_pos c18] at H
      have c18b0 : (t203 != t204) = true := c18
      (try (have c18b1 : decide (t203 = t204) = false := by simpa using c18))
      (try (have c18b2 : (t203 == t204) = false := by simpa using c18))
      (try (have c18b3 : ¬ (t203 = t204) := by simpa using c18))
      clear c18
      obtain rfl := Option.some.inj H
      try go_wp2_with (first | ((with_reducible refine gate_callee (f := 57) rfl ?_); refine goesL_ (some 54) rfl rfl Tryd.func57 (by kernel_rfl) rfl #[.int .i64 a1, .int .i64 x49_2] rfl ar_ ?_; (with_reducible refine (XBrought.calls a1 x49_2 t202 _ ?side1 A15.out).mono ?_); (case side1 => exact HGSix.out.below (hg_ GE193.out)); rintro e w19 ⟨rfl, hb⟩; refine ⟨_, rfl, ?_⟩; replace BK193 := bb_ BK193.out hb; replace HB := Aside0.mk (below_step (hg_ GE193.out) hb); (try clear hb); (try clear hb2); (try clear hk); (try clear hi)))
      replace BK193 := Aside0.mk (blk_drew BK193.out)
      replace HB := Aside0.mk (below_drew1 HB.out)
      refine start_ (n := 16) (S := fun w' => w'.cell? ⟨gb193, 0, none⟩ = some (.int .i64 a0_0) ∧ w'.cell? ⟨gb193, 1, none⟩ = some (.int .u64 a0_1) ∧ w'.cell? ⟨gb193, 2, none⟩ = some (.int .u64 a0_2) ∧ w'.cell? ⟨gb193, 3, none⟩ = some (.int .u64 a0_3) ∧ w'.cell? ⟨gb193, 4, none⟩ = some (.int .u64 a0_4)) (ds := []) (m_ 16 0) (by kernel_rfl) rfl rfl ⟨(blk_cell BK193.out 0).trans rfl, (blk_cell BK193.out 1).trans rfl, (blk_cell BK193.out 2).trans rfl, (blk_cell BK193.out 3).trans rfl, (blk_cell BK193.out 4).trans rfl⟩ (fun hHeld => ?_); refine with_tabW iso_Keeps.tab10 iso_Keeps.bits10 (fun HT_ HW_ => ?_)
      generalize w19.drew = w20 at BK193 HB hHeld ⊢
      refine pq_ 1 (some 56) (m_ 16 2) (h := ?_)
      refine pq_ 4 (some 59) (m_ 16 18) (h := ?_)
      refine tq5_ 0 (some 55) (m_ 16 19) (h := ?_)
      refine tq5_ 3 (some 58) (m_ 16 27) (h := ?_)
      refine one_ (i := 2) (N := some 57) (m_ 16 31) rfl rfl (one_of HT_.out (by kernel_rfl)) (by decide) (fun K hK => ?_)
      refine goes_ Tryd.func58 (by kernel_rfl) rfl #[.agg #[.int .i64 a0_0, .int .u64 a0_1, .int .u64 a0_2, .int .u64 a0_3, .int .u64 a0_4], .int .i64 0, .bool false, .int .i64 x49_2] (by rfl) rfl rfl ar_ ?_
      with_reducible refine (XNext.calls a0_0 a0_1 a0_2 a0_3 a0_4 0 false x49_2 t203 _ A16.out).mono ?_
      rintro e w21 ⟨rfl, hb⟩
      refine ⟨_, rfl, ?_⟩
      replace BK193 := bb_ BK193.out hb
      replace HB := Aside0.mk (below_step (hg_ GE193.out) hb)
      (try clear hb)
      (try clear hb2)
      (try clear hk)
      (try clear hi)
      refine hK.out _ _ ⟨(blk_cell BK193.out 0).trans rfl, (blk_cell BK193.out 1).trans rfl, (blk_cell BK193.out 2).trans rfl, (blk_cell BK193.out 3).trans rfl, (blk_cell BK193.out 4).trans rfl⟩ (fun hHeld => ?_)
      clear hK K
      refine norm_ (a' := ?_) ?_ ?_
      rotate_left
      ·
       show Act.put _ (some 57) _ = _
       simp only [puts_]
       rfl
      refine one_ (i := 5) (N := some 60) (m_ 16 63) rfl rfl (one_of HT_.out (by kernel_rfl)) (by decide) (fun K hK => ?_)
      refine goes_ Tryd.func58 (by kernel_rfl) rfl #[.agg #[.int .i64 a0_0, .int .u64 a0_1, .int .u64 a0_2, .int .u64 a0_3, .int .u64 a0_4], .int .i64 0, .bool false, .int .i64 t202] (by rfl) rfl rfl ar_ ?_
      with_reducible refine (XNext.calls a0_0 a0_1 a0_2 a0_3 a0_4 0 false t202 t204 _ A17.out).mono ?_
      rintro e w22 ⟨rfl, hb⟩
      refine ⟨_, rfl, ?_⟩
      replace BK193 := bb_ BK193.out hb
      replace HB := Aside0.mk (below_step (hg_ GE193.out) hb)
      (try clear hb)
      (try clear hb2)
      (try clear hk)
      (try clear hi)
      refine hK.out _ _ ⟨(blk_cell BK193.out 0).trans rfl, (blk_cell BK193.out 1).trans rfl, (blk_cell BK193.out 2).trans rfl, (blk_cell BK193.out 3).trans rfl, (blk_cell BK193.out 4).trans rfl⟩ (fun hHeld => ?_)
      clear hK K
      refine norm_ (a' := ?_) ?_ ?_
      rotate_left
      ·
       show Act.put _ (some 60) _ = _
       simp only [puts_]
       rfl
      refine pq_ 6 (some 61) (m_ 16 127) (h := ?_)
      refine pq_ 7 (some 62) (m_ 16 255) (h := ?_)
      refine pu_ 8 (some 63) (m_ 16 511) (h := ?_)
      refine pu_ 9 (some 64) (m_ 16 1023) (h := ?_)
      refine pu_ 10 (some 65) (m_ 16 2047) (h := ?_)
      refine pu_ 11 (some 66) (m_ 16 4095) (h := ?_)
      refine pu_ 12 (some 67) (m_ 16 8191) (h := ?_)
      refine pu_ 13 (some 68) (m_ 16 16383) (h := ?_)
      refine pu_ 14 (some 69) (m_ 16 32767) (h := ?_)
      refine pq_ 15 (some 70) (m_ 16 65535) (h := ?_)
      refine done_ (done_of HT_.out (by kernel_rfl)) ?_
      try go_wp2
      go_ret
      exact ⟨er_, hg_ GE193.out⟩
     rw [if_neg c18] at H
     have c18b0 : (t203 != t204) = false := by simpa using c18
     (try (have c18b1 : decide (t203 = t204) = true := by simpa using c18))
     (try (have c18b2 : (t203 == t204) = true := by simpa using c18))
     clear c18
     replace H := Option.bind_eq_some_iff.mp H
     obtain ⟨t205, A230, H⟩ := H
     replace H : ((XNext.f a0_0 a0_1 a0_2 a0_3 a0_4 0 true t202).bind fun t206 => (if (t205 != t206) = true then (some false) else (iso_Keeps.l0 k2 a1 (wrap64 (x49_2 + 1)) a0_0 a0_1 a0_2 a0_3 a0_4))) = some r := H
     have A23 := Aside0.mk A230
     clear A230
     replace H := Option.bind_eq_some_iff.mp H
     obtain ⟨t206, A240, H⟩ := H
     replace H : (if (t205 != t206) = true then (some false) else (iso_Keeps.l0 k2 a1 (wrap64 (x49_2 + 1)) a0_0 a0_1 a0_2 a0_3 a0_4)) = some r := H
     have A24 := Aside0.mk A240
     clear A240
     by_cases c25 : (t205 != t206) = true
     ·
      rw [if_pos c25] at H
      have c25b0 : (t205 != t206) = true := c25
      (try (have c25b1 : decide (t205 = t206) = false := by simpa using c25))
      (try (have c25b2 : (t205 == t206) = false := by simpa using c25))
      (try (have c25b3 : ¬ (t205 = t206) := by simpa using c25))
      clear c25
      obtain rfl := Option.some.inj H
      try go_wp2_with (first | ((with_reducible refine gate_callee (f := 57) rfl ?_); refine goesL_ (some 54) rfl rfl Tryd.func57 (by kernel_rfl) rfl #[.int .i64 a1, .int .i64 x49_2] rfl ar_ ?_; (with_reducible refine (XBrought.calls a1 x49_2 t202 _ ?side1 A15.out).mono ?_); (case side1 => exact HGSix.out.below (hg_ GE193.out)); rintro e w26 ⟨rfl, hb⟩; refine ⟨_, rfl, ?_⟩; replace BK193 := bb_ BK193.out hb; replace HB := Aside0.mk (below_step (hg_ GE193.out) hb); (try clear hb); (try clear hb2); (try clear hk); (try clear hi)))
      replace BK193 := Aside0.mk (blk_drew BK193.out)
      replace HB := Aside0.mk (below_drew1 HB.out)
      refine start_ (n := 16) (S := fun w' => w'.cell? ⟨gb193, 0, none⟩ = some (.int .i64 a0_0) ∧ w'.cell? ⟨gb193, 1, none⟩ = some (.int .u64 a0_1) ∧ w'.cell? ⟨gb193, 2, none⟩ = some (.int .u64 a0_2) ∧ w'.cell? ⟨gb193, 3, none⟩ = some (.int .u64 a0_3) ∧ w'.cell? ⟨gb193, 4, none⟩ = some (.int .u64 a0_4)) (ds := []) (m_ 16 0) (by kernel_rfl) rfl rfl ⟨(blk_cell BK193.out 0).trans rfl, (blk_cell BK193.out 1).trans rfl, (blk_cell BK193.out 2).trans rfl, (blk_cell BK193.out 3).trans rfl, (blk_cell BK193.out 4).trans rfl⟩ (fun hHeld => ?_); refine with_tabW iso_Keeps.tab10 iso_Keeps.bits10 (fun HT_ HW_ => ?_)
      generalize w26.drew = w27 at BK193 HB hHeld ⊢
      refine pq_ 1 (some 56) (m_ 16 2) (h := ?_)
      refine pq_ 4 (some 59) (m_ 16 18) (h := ?_)
      refine tq5_ 0 (some 55) (m_ 16 19) (h := ?_)
      refine tq5_ 3 (some 58) (m_ 16 27) (h := ?_)
      refine one_ (i := 2) (N := some 57) (m_ 16 31) rfl rfl (one_of HT_.out (by kernel_rfl)) (by decide) (fun K hK => ?_)
      refine goes_ Tryd.func58 (by kernel_rfl) rfl #[.agg #[.int .i64 a0_0, .int .u64 a0_1, .int .u64 a0_2, .int .u64 a0_3, .int .u64 a0_4], .int .i64 0, .bool false, .int .i64 x49_2] (by rfl) rfl rfl ar_ ?_
      with_reducible refine (XNext.calls a0_0 a0_1 a0_2 a0_3 a0_4 0 false x49_2 t203 _ A16.out).mono ?_
      rintro e w28 ⟨rfl, hb⟩
      refine ⟨_, rfl, ?_⟩
      replace BK193 := bb_ BK193.out hb
      replace HB := Aside0.mk (below_step (hg_ GE193.out) hb)
      (try clear hb)
      (try clear hb2)
      (try clear hk)
      (try clear hi)
      refine hK.out _ _ ⟨(blk_cell BK193.out 0).trans rfl, (blk_cell BK193.out 1).trans rfl, (blk_cell BK193.out 2).trans rfl, (blk_cell BK193.out 3).trans rfl, (blk_cell BK193.out 4).trans rfl⟩ (fun hHeld => ?_)
      clear hK K
      refine norm_ (a' := ?_) ?_ ?_
      rotate_left
      ·
       show Act.put _ (some 57) _ = _
       simp only [puts_]
       rfl
      refine one_ (i := 5) (N := some 60) (m_ 16 63) rfl rfl (one_of HT_.out (by kernel_rfl)) (by decide) (fun K hK => ?_)
      refine goes_ Tryd.func58 (by kernel_rfl) rfl #[.agg #[.int .i64 a0_0, .int .u64 a0_1, .int .u64 a0_2, .int .u64 a0_3, .int .u64 a0_4], .int .i64 0, .bool false, .int .i64 t202] (by rfl) rfl rfl ar_ ?_
      with_reducible refine (XNext.calls a0_0 a0_1 a0_2 a0_3 a0_4 0 false t202 t204 _ A17.out).mono ?_
      rintro e w29 ⟨rfl, hb⟩
      refine ⟨_, rfl, ?_⟩
      replace BK193 := bb_ BK193.out hb
      replace HB := Aside0.mk (below_step (hg_ GE193.out) hb)
      (try clear hb)
      (try clear hb2)
      (try clear hk)
      (try clear hi)
      refine hK.out _ _ ⟨(blk_cell BK193.out 0).trans rfl, (blk_cell BK193.out 1).trans rfl, (blk_cell BK193.out 2).trans rfl, (blk_cell BK193.out 3).trans rfl, (blk_cell BK193.out 4).trans rfl⟩ (fun hHeld => ?_)
      clear hK K
      refine norm_ (a' := ?_) ?_ ?_
      rotate_left
      ·
       show Act.put _ (some 60) _ = _
       simp only [puts_]
       rfl
      refine pq_ 6 (some 61) (m_ 16 127) (h := ?_)
      refine pq_ 7 (some 62) (m_ 16 255) (h := ?_)
      refine pq_ 9 (some 64) (m_ 16 767) (h := ?_)
      refine pq_ 12 (some 67) (m_ 16 4863) (h := ?_)
      refine tq5_ 8 (some 63) (m_ 16 5119) (h := ?_)
      refine tq5_ 11 (some 66) (m_ 16 7167) (h := ?_)
      refine one_ (i := 10) (N := some 65) (m_ 16 8191) rfl rfl (one_of HT_.out (by kernel_rfl)) (by decide) (fun K hK => ?_)
      refine goes_ Tryd.func58 (by kernel_rfl) rfl #[.agg #[.int .i64 a0_0, .int .u64 a0_1, .int .u64 a0_2, .int .u64 a0_3, .int .u64 a0_4], .int .i64 0, .bool true, .int .i64 x49_2] (by rfl) rfl rfl ar_ ?_
      with_reducible refine (XNext.calls a0_0 a0_1 a0_2 a0_3 a0_4 0 true x49_2 t205 _ A23.out).mono ?_
      rintro e w30 ⟨rfl, hb⟩
      refine ⟨_, rfl, ?_⟩
      replace BK193 := bb_ BK193.out hb
      replace HB := Aside0.mk (below_step (hg_ GE193.out) hb)
      (try clear hb)
      (try clear hb2)
      (try clear hk)
      (try clear hi)
      refine hK.out _ _ ⟨(blk_cell BK193.out 0).trans rfl, (blk_cell BK193.out 1).trans rfl, (blk_cell BK193.out 2).trans rfl, (blk_cell BK193.out 3).trans rfl, (blk_cell BK193.out 4).trans rfl⟩ (fun hHeld => ?_)
      clear hK K
      refine norm_ (a' := ?_) ?_ ?_
      rotate_left
      ·
       show Act.put _ (some 65) _ = _
       simp only [puts_]
       rfl
      refine one_ (i := 13) (N := some 68) (m_ 16 16383) rfl rfl (one_of HT_.out (by kernel_rfl)) (by decide) (fun K hK => ?_)
      refine goes_ Tryd.func58 (by kernel_rfl) rfl #[.agg #[.int .i64 a0_0, .int .u64 a0_1, .int .u64 a0_2, .int .u64 a0_3, .int .u64 a0_4], .int .i64 0, .bool true, .int .i64 t202] (by rfl) rfl rfl ar_ ?_
      with_reducible refine (XNext.calls a0_0 a0_1 a0_2 a0_3 a0_4 0 true t202 t206 _ A24.out).mono ?_
      rintro e w31 ⟨rfl, hb⟩
      refine ⟨_, rfl, ?_⟩
      replace BK193 := bb_ BK193.out hb
      replace HB := Aside0.mk (below_step (hg_ GE193.out) hb)
      (try clear hb)
      (try clear hb2)
      (try clear hk)
      (try clear hi)
      refine hK.out _ _ ⟨(blk_cell BK193.out 0).trans rfl, (blk_cell BK193.out 1).trans rfl, (blk_cell BK193.out 2).trans rfl, (blk_cell BK193.out 3).trans rfl, (blk_cell BK193.out 4).trans rfl⟩ (fun hHeld => ?_)
      clear hK K
      refine norm_ (a' := ?_) ?_ ?_
      rotate_left
      ·
       show Act.put _ (some 68) _ = _
       simp only [puts_]
       rfl
      refine pq_ 14 (some 69) (m_ 16 32767) (h := ?_)
      refine pq_ 15 (some 70) (m_ 16 65535) (h := ?_)
      refine done_ (done_of HT_.out (by kernel_rfl)) ?_
      try go_wp2
      go_ret
      exact ⟨er_, hg_ GE193.out⟩
     rw [if_neg c25] at H
     have c25b0 : (t205 != t206) = false := by simpa using c25
     (try (have c25b1 : decide (t205 = t206) = true := by simpa using c25))
     (try (have c25b2 : (t205 == t206) = true := by simpa using c25))
     clear c25
     have H' := Aside0.mk H
     clear H
     try go_wp2_with (first | ((with_reducible refine gate_callee (f := 57) rfl ?_); refine goesL_ (some 54) rfl rfl Tryd.func57 (by kernel_rfl) rfl #[.int .i64 a1, .int .i64 x49_2] rfl ar_ ?_; (with_reducible refine (XBrought.calls a1 x49_2 t202 _ ?side1 A15.out).mono ?_); (case side1 => exact HGSix.out.below (hg_ GE193.out)); rintro e w32 ⟨rfl, hb⟩; refine ⟨_, rfl, ?_⟩; replace BK193 := bb_ BK193.out hb; replace HB := Aside0.mk (below_step (hg_ GE193.out) hb); (try clear hb); (try clear hb2); (try clear hk); (try clear hi)))
     replace BK193 := Aside0.mk (blk_drew BK193.out)
     replace HB := Aside0.mk (below_drew1 HB.out)
     refine start_ (n := 16) (S := fun w' => w'.cell? ⟨gb193, 0, none⟩ = some (.int .i64 a0_0) ∧ w'.cell? ⟨gb193, 1, none⟩ = some (.int .u64 a0_1) ∧ w'.cell? ⟨gb193, 2, none⟩ = some (.int .u64 a0_2) ∧ w'.cell? ⟨gb193, 3, none⟩ = some (.int .u64 a0_3) ∧ w'.cell? ⟨gb193, 4, none⟩ = some (.int .u64 a0_4)) (ds := []) (m_ 16 0) (by kernel_rfl) rfl rfl ⟨(blk_cell BK193.out 0).trans rfl, (blk_cell BK193.out 1).trans rfl, (blk_cell BK193.out 2).trans rfl, (blk_cell BK193.out 3).trans rfl, (blk_cell BK193.out 4).trans rfl⟩ (fun hHeld => ?_); refine with_tabW iso_Keeps.tab10 iso_Keeps.bits10 (fun HT_ HW_ => ?_)
     generalize w32.drew = w33 at BK193 HB hHeld ⊢
     refine pq_ 1 (some 56) (m_ 16 2) (h := ?_)
     refine pq_ 4 (some 59) (m_ 16 18) (h := ?_)
     refine tq5_ 0 (some 55) (m_ 16 19) (h := ?_)
     refine tq5_ 3 (some 58) (m_ 16 27) (h := ?_)
     refine one_ (i := 2) (N := some 57) (m_ 16 31) rfl rfl (one_of HT_.out (by kernel_rfl)) (by decide) (fun K hK => ?_)
     refine goes_ Tryd.func58 (by kernel_rfl) rfl #[.agg #[.int .i64 a0_0, .int .u64 a0_1, .int .u64 a0_2, .int .u64 a0_3, .int .u64 a0_4], .int .i64 0, .bool false, .int .i64 x49_2] (by rfl) rfl rfl ar_ ?_
     with_reducible refine (XNext.calls a0_0 a0_1 a0_2 a0_3 a0_4 0 false x49_2 t203 _ A16.out).mono ?_
     rintro e w34 ⟨rfl, hb⟩
     refine ⟨_, rfl, ?_⟩
     replace BK193 := bb_ BK193.out hb
     replace HB := Aside0.mk (below_step (hg_ GE193.out) hb)
     (try clear hb)
     (try clear hb2)
     (try clear hk)
     (try clear hi)
     refine hK.out _ _ ⟨(blk_cell BK193.out 0).trans rfl, (blk_cell BK193.out 1).trans rfl, (blk_cell BK193.out 2).trans rfl, (blk_cell BK193.out 3).trans rfl, (blk_cell BK193.out 4).trans rfl⟩ (fun hHeld => ?_)
     clear hK K
     refine norm_ (a' := ?_) ?_ ?_
     rotate_left
     ·
      show Act.put _ (some 57) _ = _
      simp only [puts_]
      rfl
     refine one_ (i := 5) (N := some 60) (m_ 16 63) rfl rfl (one_of HT_.out (by kernel_rfl)) (by decide) (fun K hK => ?_)
     refine goes_ Tryd.func58 (by kernel_rfl) rfl #[.agg #[.int .i64 a0_0, .int .u64 a0_1, .int .u64 a0_2, .int .u64 a0_3, .int .u64 a0_4], .int .i64 0, .bool false, .int .i64 t202] (by rfl) rfl rfl ar_ ?_
     with_reducible refine (XNext.calls a0_0 a0_1 a0_2 a0_3 a0_4 0 false t202 t204 _ A17.out).mono ?_
     rintro e w35 ⟨rfl, hb⟩
     refine ⟨_, rfl, ?_⟩
     replace BK193 := bb_ BK193.out hb
     replace HB := Aside0.mk (below_step (hg_ GE193.out) hb)
     (try clear hb)
     (try clear hb2)
     (try clear hk)
     (try clear hi)
     refine hK.out _ _ ⟨(blk_cell BK193.out 0).trans rfl, (blk_cell BK193.out 1).trans rfl, (blk_cell BK193.out 2).trans rfl, (blk_cell BK193.out 3).trans rfl, (blk_cell BK193.out 4).trans rfl⟩ (fun hHeld => ?_)
     clear hK K
     refine norm_ (a' := ?_) ?_ ?_
     rotate_left
     ·
      show Act.put _ (some 60) _ = _
      simp only [puts_]
      rfl
     refine pq_ 6 (some 61) (m_ 16 127) (h := ?_)
     refine pq_ 7 (some 62) (m_ 16 255) (h := ?_)
     refine pq_ 9 (some 64) (m_ 16 767) (h := ?_)
     refine pq_ 12 (some 67) (m_ 16 4863) (h := ?_)
     refine tq5_ 8 (some 63) (m_ 16 5119) (h := ?_)
     refine tq5_ 11 (some 66) (m_ 16 7167) (h := ?_)
     refine one_ (i := 10) (N := some 65) (m_ 16 8191) rfl rfl (one_of HT_.out (by kernel_rfl)) (by decide) (fun K hK => ?_)
     refine goes_ Tryd.func58 (by kernel_rfl) rfl #[.agg #[.int .i64 a0_0, .int .u64 a0_1, .int .u64 a0_2, .int .u64 a0_3, .int .u64 a0_4], .int .i64 0, .bool true, .int .i64 x49_2] (by rfl) rfl rfl ar_ ?_
     with_reducible refine (XNext.calls a0_0 a0_1 a0_2 a0_3 a0_4 0 true x49_2 t205 _ A23.out).mono ?_
     rintro e w36 ⟨rfl, hb⟩
     refine ⟨_, rfl, ?_⟩
     replace BK193 := bb_ BK193.out hb
     replace HB := Aside0.mk (below_step (hg_ GE193.out) hb)
     (try clear hb)
     (try clear hb2)
     (try clear hk)
     (try clear hi)
     refine hK.out _ _ ⟨(blk_cell BK193.out 0).trans rfl, (blk_cell BK193.out 1).trans rfl, (blk_cell BK193.out 2).trans rfl, (blk_cell BK193.out 3).trans rfl, (blk_cell BK193.out 4).trans rfl⟩ (fun hHeld => ?_)
     clear hK K
     refine norm_ (a' := ?_) ?_ ?_
     rotate_left
     ·
      show Act.put _ (some 65) _ = _
      simp only [puts_]
      rfl
     refine one_ (i := 13) (N := some 68) (m_ 16 16383) rfl rfl (one_of HT_.out (by kernel_rfl)) (by decide) (fun K hK => ?_)
     refine goes_ Tryd.func58 (by kernel_rfl) rfl #[.agg #[.int .i64 a0_0, .int .u64 a0_1, .int .u64 a0_2, .int .u64 a0_3, .int .u64 a0_4], .int .i64 0, .bool true, .int .i64 t202] (by rfl) rfl rfl ar_ ?_
     with_reducible refine (XNext.calls a0_0 a0_1 a0_2 a0_3 a0_4 0 true t202 t206 _ A24.out).mono ?_
     rintro e w37 ⟨rfl, hb⟩
     refine ⟨_, rfl, ?_⟩
     replace BK193 := bb_ BK193.out hb
     replace HB := Aside0.mk (below_step (hg_ GE193.out) hb)
     (try clear hb)
     (try clear hb2)
     (try clear hk)
     (try clear hi)
     refine hK.out _ _ ⟨(blk_cell BK193.out 0).trans rfl, (blk_cell BK193.out 1).trans rfl, (blk_cell BK193.out 2).trans rfl, (blk_cell BK193.out 3).trans rfl, (blk_cell BK193.out 4).trans rfl⟩ (fun hHeld => ?_)
     clear hK K
     refine norm_ (a' := ?_) ?_ ?_
     rotate_left
     ·
      show Act.put _ (some 68) _ = _
      simp only [puts_]
      rfl
     refine pq_ 14 (some 69) (m_ 16 32767) (h := ?_)
     refine pq_ 15 (some 70) (m_ 16 65535) (h := ?_)
     refine done_ (done_of HT_.out (by kernel_rfl)) ?_
     try go_wp2
     go_roundg k2
     case measure => have := HJ2.out; have := HK2.out; omega
     case rel => exact ⟨(wrap64 (x49_2 + 1)), rs_, H', ⟨by have := HJ2.out; have := HK2.out; omega⟩, ⟨bk_ BK193.out⟩, ⟨by repeat (first | (with_reducible first | exact HB.out | apply ba_ | apply bn_ | apply bd_ | refine below_set ?_ GE193.out) | exact HB.out)⟩⟩
end Go.Proofs.YtaeenefdbahfoaaDoor.H
namespace Go.Proofs.YtaeenefdbahfoaaDoor
set_option linter.unusedSimpArgs false
set_option linter.unusedVariables false
open Go.RowKit Go.Proofs.YtaeenefdbahfoaaDoorW.PrintWords Go.Proofs.YtaeenefdbahfoaaDoorW.PrintLast Go.Proofs.YtaeenefdbahfoaaDoorW.PrintMore
open H
open Go.RowKit
theorem u64_nat (n : Nat) (h : n < 18446744073709551616) : IntKind.u64.wrap (n : Int) = n := by
  have : IntKind.u64.wrap (n : Int) = (n : Int) % 18446744073709551616 := by simp [IntKind.wrap, IntKind.signed, IntKind.bits]
  rw [this]
  omega
theorem ofInt_nat (n : Nat) (h : n < 18446744073709551616) : (BitVec.ofInt 64 (n : Int)).toNat = n := by
  rw [BitVec.toNat_ofInt]
  omega
theorem and_nat (a c : Nat) (ha : a < 18446744073709551616) (hc : c < 18446744073709551616) : Go.bits .and .u64 (a : Int) (c : Int) = ((a &&& c : Nat) : Int) := by
  have key : (BitVec.ofInt 64 (a : Int) &&& BitVec.ofInt 64 (c : Int)).toNat = a &&& c := by rw [BitVec.toNat_and, ofInt_nat a ha, ofInt_nat c hc]
  show IntKind.u64.wrap ((BitVec.ofInt 64 (a : Int) &&& BitVec.ofInt 64 (c : Int)).toNat : Nat) = _
  rw [key]
  exact u64_nat _ (Nat.lt_of_le_of_lt Nat.and_le_left ha)
theorem or_nat (a c : Nat) (ha : a < 18446744073709551616) (hc : c < 18446744073709551616) : Go.bits .or .u64 (a : Int) (c : Int) = ((a ||| c : Nat) : Int) := by
  have key : (BitVec.ofInt 64 (a : Int) ||| BitVec.ofInt 64 (c : Int)).toNat = a ||| c := by rw [BitVec.toNat_or, ofInt_nat a ha, ofInt_nat c hc]
  show IntKind.u64.wrap ((BitVec.ofInt 64 (a : Int) ||| BitVec.ofInt 64 (c : Int)).toNat : Nat) = _
  rw [key]
  exact u64_nat _ (Nat.or_lt_two_pow (n := 64) ha hc)
def posT (o i : Nat) : Nat := if o < 6 then (i + o) % 6 else (o + 1 - i) % 6
def brT (o r : Nat) : Nat := r % 2 * 2 ^ posT o 0 + r / 2 % 2 * 2 ^ posT o 1 + r / 4 % 2 * 2 ^ posT o 2 + r / 8 % 2 * 2 ^ posT o 3 + r / 16 % 2 * 2 ^ posT o 4 + r / 32 % 2 * 2 ^ posT o 5
theorem br_tab : ∀ o : Fin 12, ∀ r : Fin 64, brN (o.1 : Int) (r.1 : Int) 6 = (brT o.1 r.1 : Int) := by decide +kernel
theorem br_lt : ∀ o : Fin 12, ∀ r : Fin 64, brT o.1 r.1 < 64 := by decide +kernel
theorem br_f (o r : Nat) (ho : o < 12) (hr : r < 64) : XBrought.f (o : Int) (r : Int) = some (brT o r : Int) := by
  unfold XBrought.f
  rw [if_pos (by omega), br_tab ⟨o, ho⟩ ⟨r, hr⟩]
theorem brT_lt (o r : Nat) (ho : o < 12) (hr : r < 64) : brT o r < 64 := br_lt ⟨o, ho⟩ ⟨r, hr⟩
/-- a ring that an operator makes another one of -/
def badAt (b s : Int) (o r : Nat) : Bool := (nxB b r != nxB b (brT o r)) || (nxB s r != nxB s (brT o r))
theorem next_f (b0 b1 s0 s1 : Int) (live : Bool) (r : Nat) (hr : r < 64) : XNext.f 1 b0 b1 s0 s1 0 live (r : Int) = some (nxB (if live = true then s0 else b0) (r : Int)) := by
  unfold XNext.f
  rw [if_neg (by omega)]
  simp
theorem wN (r : Nat) (hr : r < 1000) : wrap64 ((r : Int) + 1) = ((r + 1 : Nat) : Int) := by rw [w64i _ (by omega) (by omega)]; simp
variable (b0 b1 s0 s1 : Int)
theorem keeps_l0 (k p : Nat) (hp : p < 12) : ∀ n r : Nat, r + n = 64 → ∃ v, iso_Keeps.l0 (k + n + 1) (p : Int) (r : Int) 1 b0 b1 s0 s1 = some v ∧ (v = true ↔ ∀ q, r ≤ q → q < 64 → badAt b0 s0 p q = false) := by
  intro n
  induction n with
  | zero =>
    intro r hr
    refine ⟨true, ?_, by simp; intro q h1 h2; omega⟩
    rw [iso_Keeps.l0, if_neg (by omega)]
  | succ n ih =>
    intro r hr
    have hr64 : r < 64 := by omega
    obtain ⟨v, hv, hiff⟩ := ih (r + 1) (by omega)
    have hb := brT_lt p r hp hr64
    have n0 := next_f b0 b1 s0 s1 false r hr64
    have n1 := next_f b0 b1 s0 s1 true r hr64
    have m0 := next_f b0 b1 s0 s1 false (brT p r) hb
    have m1 := next_f b0 b1 s0 s1 true (brT p r) hb
    simp only [↓reduceIte, Bool.false_eq_true] at n0 n1 m0 m1
    have hbad : badAt b0 s0 p r = ((nxB b0 r != nxB b0 (brT p r)) || (nxB s0 r != nxB s0 (brT p r))) := rfl
    rw [show k + (n + 1) + 1 = (k + n + 1) + 1 by omega, iso_Keeps.l0, if_pos (by omega), br_f p r hp hr64]
    simp only [Option.bind_some, n0, m0, n1, m1, wN r (by omega)]
    cases h0 : (nxB b0 (r : Int) != nxB b0 (brT p r : Int)) with
    | true => exact ⟨false, by simp, by simp; exact ⟨r, Nat.le_refl _, hr64, by rw [hbad, h0]; rfl⟩⟩
    | false =>
      cases h1 : (nxB s0 (r : Int) != nxB s0 (brT p r : Int)) with
      | true => exact ⟨false, by simp, by simp; exact ⟨r, Nat.le_refl _, hr64, by rw [hbad, h0, h1]; rfl⟩⟩
      | false =>
        refine ⟨v, by simpa using hv, hiff.trans ⟨fun h q h2 h3 => ?_, fun h q h2 h3 => h q (by omega) h3⟩⟩
        rcases Nat.eq_or_lt_of_le h2 with rfl | h4
        · rw [hbad, h0, h1]; rfl
        · exact h q h4 h3
theorem good_f (p : Nat) (hp : p < 12) : axis_Operator_Good.f (p : Int) = some true := by
  unfold axis_Operator_Good.f
  simp
  omega
theorem keeps_hex (k p : Nat) (hp : p < 12) (hc : checkT 1 b0 b1 s0 s1 = none) : ∃ v, iso_Keeps.f (k + 66) 1 b0 b1 s0 s1 (p : Int) = some v ∧ (v = true ↔ ∀ q, q < 64 → badAt b0 s0 p q = false) := by
  obtain ⟨v, h1, h2⟩ := keeps_l0 b0 b1 s0 s1 k p hp 64 0 (by omega)
  refine ⟨v, ?_, h2.trans ⟨fun h q => h q (Nat.zero_le _), fun h q _ => h q⟩⟩
  unfold iso_Keeps.f
  rw [show XTCheck.f 1 b0 b1 s0 s1 = some none by unfold XTCheck.f; rw [hc]]
  simp only [Option.bind_some, Option.isNone_none, ↓reduceIte, good_f p hp]
  rw [show k + 66 = (k + 65) + 1 from rfl, iso_Keeps.j0]
  simpa using h1
end Go.Proofs.YtaeenefdbahfoaaDoor
namespace Go.Proofs
set_option linter.unusedSimpArgs false
set_option linter.unusedVariables false
open Go.Shelf
def Tryd.sortCell_ren : Go.Shelf.Ren := ⟨fun | 6 => 74 | 15 => 99 | 14 => 98 | 28 => 119 | 29 => 120 | 20 => 111 | 21 => 112 | 22 => 113 | 23 => 114 | 24 => 115 | 25 => 116 | 26 => 117 | 27 => 118 | 46 => 129 | 47 => 130 | 48 => 131 | 49 => 132 | 50 => 133 | 57 => 134 | n => n, fun | 22 => 34 | 24 => 65 | 25 => 125 | 3 => 3 | 39 => 158 | 0 => 0 | 53 => 186 | 55 => 22 | 4 => 4 | 46 => 180 | 45 => 179 | 50 => 93 | 5 => 5 | 9 => 9 | 66 => 204 | 70 => 208 | 76 => 210 | 77 => 91 | n => n, fun | n => n⟩
theorem Tryd.sortCell : Go.Proofs.SlLaysF0.n6 Tryd.prog Tryd.sortCell_ren := {
  mixed := by kernel_rfl
  f6 := ⟨Tryd.f74.name, by decide, Tryd.func74.trans (congrArg some (by kernel_rfl))⟩
  f14 := ⟨Tryd.f98.name, by decide, Tryd.func98.trans (congrArg some (by kernel_rfl))⟩
  f15 := Tryd.func99.trans (congrArg some (by kernel_rfl))
  f20 := ⟨Tryd.f111.name, by decide, Tryd.func111.trans (congrArg some (by kernel_rfl))⟩
  f21 := ⟨Tryd.f112.name, by decide, Tryd.func112.trans (congrArg some (by kernel_rfl))⟩
  f22 := ⟨Tryd.f113.name, by decide, Tryd.func113.trans (congrArg some (by kernel_rfl))⟩
  f23 := ⟨Tryd.f114.name, by decide, Tryd.func114.trans (congrArg some (by kernel_rfl))⟩
  f24 := ⟨Tryd.f115.name, by decide, Tryd.func115.trans (congrArg some (by kernel_rfl))⟩
  f25 := ⟨Tryd.f116.name, by decide, Tryd.func116.trans (congrArg some (by kernel_rfl))⟩
  f26 := ⟨Tryd.f117.name, by decide, Tryd.func117.trans (congrArg some (by kernel_rfl))⟩
  f27 := ⟨Tryd.f118.name, by decide, Tryd.func118.trans (congrArg some (by kernel_rfl))⟩
  f28 := Tryd.func119.trans (congrArg some (by kernel_rfl))
  f29 := Tryd.func120.trans (congrArg some (by kernel_rfl))
  f46 := ⟨Tryd.f129.name, by decide, Tryd.func129.trans (congrArg some (by kernel_rfl))⟩
  f47 := Tryd.func130.trans (congrArg some (by kernel_rfl))
  f48 := Tryd.func131.trans (congrArg some (by kernel_rfl))
  f49 := ⟨Tryd.f132.name, by decide, Tryd.func132.trans (congrArg some (by kernel_rfl))⟩
  f50 := ⟨Tryd.f133.name, by decide, Tryd.func133.trans (congrArg some (by kernel_rfl))⟩
  f57 := ⟨Tryd.f134.name, by decide, Tryd.func134.trans (congrArg some (by kernel_rfl))⟩
  t0 := Tryd.underlying0
  a0 := Tryd.isAgg0
  z0 := Tryd.sizeOf0
  v0 := Tryd.zeroValue0
  t3 := Tryd.underlying3
  a3 := Tryd.isAgg3
  z3 := Tryd.sizeOf3
  v3 := Tryd.zeroValue3
  t4 := Tryd.underlying4
  a4 := Tryd.isAgg4
  z4 := Tryd.sizeOf4
  v4 := Tryd.zeroValue4
  t5 := Tryd.underlying5
  a5 := Tryd.isAgg5
  z5 := Tryd.sizeOf5
  v5 := Tryd.zeroValue5
  t9 := Tryd.underlying9
  a9 := Tryd.isAgg9
  z9 := Tryd.sizeOf9
  v9 := Tryd.zeroValue9
  t22 := Tryd.underlying34
  a22 := Tryd.isAgg34
  z22 := Tryd.sizeOf34
  v22 := Tryd.zeroValue34
  t25 := Tryd.underlying125
  a25 := Tryd.isAgg125
  z25 := Tryd.sizeOf125
  v25 := Tryd.zeroValue125
  t39 := Tryd.underlying158
  a39 := Tryd.isAgg158
  z39 := Tryd.sizeOf158
  v39 := Tryd.zeroValue158
  t45 := Tryd.underlying179
  a45 := Tryd.isAgg179
  z45 := Tryd.sizeOf179
  v45 := Tryd.zeroValue179
  t46 := Tryd.underlying180
  a46 := Tryd.isAgg180
  z46 := Tryd.sizeOf180
  v46 := Tryd.zeroValue180
  t50 := Tryd.underlying93
  a50 := Tryd.isAgg93
  z50 := Tryd.sizeOf93
  v50 := Tryd.zeroValue93
  t53 := Tryd.underlying186
  a53 := Tryd.isAgg186
  z53 := Tryd.sizeOf186
  v53 := Tryd.zeroValue186
  t55 := Tryd.underlying22
  a55 := Tryd.isAgg22
  z55 := Tryd.sizeOf22
  v55 := Tryd.zeroValue22
  t66 := Tryd.underlying204
  a66 := Tryd.isAgg204
  z66 := Tryd.sizeOf204
  v66 := Tryd.zeroValue204
  t70 := Tryd.underlying208
  a70 := Tryd.isAgg208
  z70 := Tryd.sizeOf208
  v70 := Tryd.zeroValue208
  t76 := Tryd.underlying210
  a76 := Tryd.isAgg210
  z76 := Tryd.sizeOf210
  v76 := Tryd.zeroValue210
  t77 := Tryd.underlying91
  a77 := Tryd.isAgg91
  z77 := Tryd.sizeOf91
  v77 := Tryd.zeroValue91 }
end Go.Proofs
namespace Go.Proofs.YtaeenefdbahfoaaDoor
set_option linter.unusedSimpArgs false
set_option linter.unusedVariables false
open Go.RowKit Go.Proofs.YtaeenefdbahfoaaDoorW.PrintWords Go.Proofs.YtaeenefdbahfoaaDoorW.PrintLast Go.Proofs.YtaeenefdbahfoaaDoorW.PrintMore
open H
open Go.Shelf Go.RowKit Go.Lib Go.Sort
theorem sort_any (w : World) (g cap : Nat) (xs : List S65) (h : Row3 w g cap xs.toArray) (hsz : xs.length < 4611686018427387904) :
    Calls Tryd.prog 74 #[.slice (some ⟨g, 0, none⟩) xs.length cap, .func (.func 75) #[] #[]] w fun e w' => e = .returned (.tuple #[]) ∧ Row3 w' g cap (sortCells xs).toArray ∧ w.grownBy w' (some g) := by
  have eg : ∀ args w, (callFunc 75 args).run Tryd.prog w = .ok (.enter 75 args) w := enters_of Tryd.func75 (by kernel_rfl) rfl
  have hcmp : CmpLays Tryd.prog 75 #[] encCell 3 cmpCell g 0 xs.toArray.size w := fun _ _ _ _ x y => compare_any x y _
  have hcon := AnyQ.slices_SortFunc_total Tryd.sortCell 3 Tryd.isAgg65 Tryd.sizeOf65 encCell (fun _ => rfl) (fun x v hv => by simp [encCell] at hv; rcases hv with rfl | rfl | rfl <;> rfl) cmpCell swo_cell 75 #[] g 0 cap xs.toArray w eg hcmp (holds_row h) h.lt (by simpa using hsz) tot_cell
  refine Calls.mono hcon ?_
  rintro e w' ⟨rfl, n, os, rfl⟩
  exact ⟨rfl, row_sorted h (by simp [List.length_mergeSort])⟩
theorem sort_none (w : World) (v : Value) : Calls Tryd.prog 74 #[.slice none 0 0, v] w fun e w' => e = .returned (.tuple #[]) ∧ w' = w :=
  AnyF.slices_SortFunc_none Tryd.sortCell none 0 v w
theorem grownBy_refl (w : World) (g : Nat) : w.grownBy w (some g) := ⟨rfl, rfl, rfl, Nat.le_refl _, fun _ _ _ => rfl⟩
theorem grownBy_set {w W : World} {g : Nat} (h : w.grownBy W (some g)) (o : Nat) (v : Value) : w.grownBy (W.setCell ⟨g, o, none⟩ v) (some g) :=
  ⟨h.os, h.tape, h.output, by simpa using h.size, fun k hk hne => (Below.heap_setCell W ⟨g, o, none⟩ v k (fun e => hne (by rw [e]))).trans (h.block k hk hne)⟩
theorem grownBy_drewN {w W : World} {g : Nat} (h : w.grownBy W (some g)) (n : Nat) : w.grownBy (W.drewN n) (some g) := ⟨h.os, h.tape, h.output, h.size, h.block⟩
theorem grownBy_sets {w : World} {g : Nat} : ∀ (vs : List Value) (o : Nat) (W : World), w.grownBy W (some g) → w.grownBy (W.setCells g o vs) (some g)
  | [], _, _, h => h
  | v :: r, o, _, h => grownBy_sets r (o + 1) _ (grownBy_set h o v)
section
variable {w : World} {g cap : Nat} {d : Array S65}
theorem Row3.set_out (h : Row3 w g cap d) (o : Nat) (ho : d.size * 3 ≤ o) (v : Value) : Row3 (w.setCell ⟨g, o, none⟩ v) g cap d := by
  obtain ⟨cur, hb, hs, hc⟩ := h.blk
  refine ⟨h.le, h.max, _, blk_set hb _ _, by simp [hs], fun j hj => ?_⟩
  obtain ⟨c0, c1, c2⟩ := hc j hj
  refine ⟨?_, ?_, ?_⟩ <;> (rw [Array.getElem?_setIfInBounds, if_neg (by omega)]; assumption)
theorem Row3.sets_out : ∀ (vs : List Value) (o : Nat) (w : World), Row3 w g cap d → d.size * 3 ≤ o → Row3 (w.setCells g o vs) g cap d
  | [], _, _, h, _ => h
  | v :: r, o, _, h, ho => Row3.sets_out r (o + 1) _ (h.set_out o ho v) (by omega)
theorem Row3.pre (h : Row3 w g cap d) (d' : Array S65) (hs : d'.size ≤ d.size) (hd : ∀ j, j < d'.size → d'[j]! = d[j]!) : Row3 w g cap d' := by
  obtain ⟨cur, hb, hcs, hc⟩ := h.blk
  exact ⟨Nat.le_trans hs h.le, h.max, cur, hb, hcs, fun j hj => by rw [hd j hj]; exact hc j (by omega)⟩
theorem Row3.drew (h : Row3 w g cap d) : Row3 w.drew g cap d := ⟨h.le, h.max, h.blk⟩
theorem Row3.drewN (h : Row3 w g cap d) (n : Nat) : Row3 (w.drewN n) g cap d := ⟨h.le, h.max, h.blk⟩
end
theorem clear_cells (w : World) (g cap : Nat) (d : Array S65) (h : Row3 w g cap d) (k : Nat) (hk : k < d.size) (ty : TypeId) (c : Nat) :
    (Builtin.clear_ #[34] ty #[.slice (some ⟨g, k * 3, none⟩) (d.size - k) c]).run Tryd.prog w = .ok (.tuple #[]) (w.setCells g (k * 3) (List.replicate ((d.size - k) * 3) (.int .i64 0))) := by
  have hle := h.le
  have hz : (Builtin.zeroCells #[Value.int .i64 0, .int .i64 0, .int .i64 0] (d.size - k)).toList = List.replicate ((d.size - k) * 3) (.int .i64 0) := by
    simp only [Builtin.zeroCells, Array.toList_map, Array.toList_range, List.size_toArray]
    apply List.ext_getElem
    · simp
    · intro i h1 h2
      have : i % 3 = 0 ∨ i % 3 = 1 ∨ i % 3 = 2 := by omega
      rcases this with e | e | e <;> simp [e]
  have hcell : ∀ j, j < d.size * 3 → (w.cell? ⟨g, j, none⟩).isSome = true := fun j hj => by
    obtain ⟨c0, c1, c2⟩ := h.cell (j / 3) (by omega)
    have : j = j / 3 * 3 ∨ j = j / 3 * 3 + 1 ∨ j = j / 3 * 3 + 2 := by omega
    rcases this with e | e | e <;> (rw [e]; simp [c0, c1, c2])
  have hst := run_storeCells_cells (P := Tryd.prog) g (k * 3) (List.replicate ((d.size - k) * 3) (.int .i64 0)) 0 w (fun j hj => hcell _ (by simp at hj; omega)) (fun j hj => h.frozen _) (by intro v hv; rw [List.eq_of_mem_replicate hv]; rfl)
  simp only [Nat.add_zero] at hst
  obtain ⟨m, hm⟩ : ∃ m, d.size - k = m + 1 := ⟨d.size - k - 1, by omega⟩
  rw [hm] at hz hst ⊢
  have hv : ∀ w, (zeroValue 65).run Tryd.prog w = .ok (.agg #[.int .i64 0, .int .i64 0, .int .i64 0]) w := Tryd.zeroValue65
  simp [Builtin.clear_, run_underlying Tryd.underlying34, hv, Value.cells, hz, hst]
theorem eqPt (d : Nat) (w : World) (x0 y0 : Int) (x1 y1 : Int) :
    (Op.equalIn (d + 2) 63 (.agg #[.int .i64 x0, .int .i64 x1]) (.agg #[.int .i64 y0, .int .i64 y1])).run Tryd.prog w = .ok (x0 == y0 && (x1 == y1)) w := by
  refine eqA_of Tryd.underlying63 (by kernel_rfl) ?_
  refine eqf_cons (by rfl) (by go_simp; rfl) (by go_simp; rfl) (by go_simp) ?_
  exact eqf_last (by rfl) (by go_simp; rfl) (by go_simp; rfl) (by go_simp)
theorem eqCell (d : Nat) (w : World) (x0 y0 : Int) (x1 y1 : Int) (x2 y2 : Int) :
    (Op.equalIn (d + 3) 65 (.agg #[.int .i64 x0, .int .i64 x1, .int .i64 x2]) (.agg #[.int .i64 y0, .int .i64 y1, .int .i64 y2])).run Tryd.prog w = .ok ((x0 == y0 && (x1 == y1)) && (x2 == y2)) w := by
  refine eqA_of Tryd.underlying65 (by kernel_rfl) ?_
  refine eqf_cons (by rfl) (by go_simp) (by go_simp) (eqPt (d + 0) w _ _ _ _) ?_
  exact eqf_last (by rfl) (by go_simp; rfl) (by go_simp; rfl) (by go_simp)
/-- two cells' sameness, at cells that are whole -/
theorem eqCells (d : Nat) (w : World) (x y : S65) :
    (Op.equalIn (d + 3) 65 (.agg #[.int .i64 x.f0.f0, .int .i64 x.f0.f1, .int .i64 x.f1]) (.agg #[.int .i64 y.f0.f0, .int .i64 y.f0.f1, .int .i64 y.f1])).run Tryd.prog w = .ok (decide (x = y)) w := by
  rw [eqCell]
  congr 1
  obtain ⟨⟨a, b⟩, h⟩ := x
  obtain ⟨⟨c, d⟩, k⟩ := y
  rw [Bool.eq_iff_iff]
  simp [S65.mk.injEq, S63.mk.injEq]
attribute [local go_sem high] eqCells
theorem comp_all {d : Array S65} (h : ∀ j, j < d.size → keeps d j = true) : compactUpTo d d.size = d.toList := by
  rw [compactUpTo_all d _ h, range_map_get]
set_option maxHeartbeats 4000000 in
set_option maxRecDepth 100000 in
theorem compact_any (w : World) (g cap : Nat) (d : Array S65) (h : Row3 w g cap d) (hsz : d.size < 4611686018427387904) :
    Calls Tryd.prog 76 #[.slice (some ⟨g, 0, none⟩) d.size cap] w fun e w' => e = .returned (.slice (some ⟨g, 0, none⟩) (compactUpTo d d.size).length cap) ∧ Row3 w' g cap (compactUpTo d d.size).toArray ∧ w.grownBy w' (some g) := by
  have hle := h.le
  have hmx : cap ≤ 9223372036854775807 := h.max
  have HR := Aside0.mk h
  clear h
  by_cases h2 : d.size < 2
  · go_enter Tryd.func76, Tryd.ntmps76
    go_wp2
    go_ret
    have e := comp_all (d := d) (fun j hj => keeps_lt_one d j (by omega))
    rw [e]
    exact ⟨by simp, HR.out, grownBy_refl _ _⟩
  · go_enter Tryd.func76, Tryd.ntmps76
    go_wp2
    go_loopw [3] (fun s3 wr => ∃ k q : Nat, 1 ≤ k ∧ k ≤ d.size ∧ s3 = .int .i64 k ∧ wr = w.drewN q ∧ ∀ j, j < k → keeps d j = true) (fun s3 _ => d.size - (intOf s3).toNat)
    case atStart => exact ⟨1, 0, Nat.le_refl _, by omega, rfl, rfl, keeps_lt_one d⟩
    case round =>
      obtain ⟨k, q, hk1, hk, rfl, rfl, hall⟩ := hrel
      by_cases hlt : k < d.size
      · have A := Aside0.mk hall
        clear hall
        obtain ⟨a0, a1, a2⟩ := HR.out.cell k hlt
        obtain ⟨km, hkm⟩ : ∃ km, km = k - 1 := ⟨_, rfl⟩
        have hkm' : km < d.size := by omega
        obtain ⟨b0, b1, b2⟩ := HR.out.cell km hkm'
        generalize hx : d[k]! = x at a0 a1 a2
        generalize hy : d[km]! = y at b0 b1 b2
        have B := Aside0.mk (And.intro hx hy)
        clear hx hy
        have hw : IntKind.i64.wrap ((k : Int) - 1) = (km : Int) := by rw [IntKind.wrap_i64]; omega
        have KM := Aside0.mk hkm
        clear hkm
        go_wp2_with fail
        go_quiet (fail)
        by_cases hdup : x = y
        · have DUP := Aside0.mk hdup
          go_wp2_with fail
          clear a0 a1 a2 b0 b1 b2 hw
          go_loopw [3, 5] (fun s3 s5 wr => ∃ (kk k2 : Nat) (dk : Array S65), s3 = .int .i64 kk ∧ s5 = .int .i64 k2 ∧ 1 ≤ k2 ∧ k + k2 ≤ d.size ∧ CompInv d (k + k2) kk dk ∧ Row3 wr g cap dk ∧ w.grownBy wr (some g)) (fun _ s5 _ => d.size - (intOf s5).toNat)
          case atStart => exact ⟨k, 1, d, rfl, rfl, Nat.le_refl _, by omega, CompInv.start A.out (keeps_neg (by omega) (by rw [B.out.1, ← KM.out, B.out.2]; exact DUP.out)), HR.out.drewN _, grownBy_drewN (grownBy_refl _ _) _⟩
          case round =>
            obtain ⟨kk, k2, dk, rfl, rfl, h1, hle2, hI, hR, hG⟩ := hrel
            have hkk := hI.lt
            have hds := hI.size
            have I2 := Aside0.mk hI
            have R2 := Aside0.mk hR
            have G2 := Aside0.mk hG
            by_cases hlt2 : k + k2 < d.size
            · obtain ⟨km2, hkm2⟩ : ∃ km, km = k2 - 1 := ⟨_, rfl⟩
              obtain ⟨a0, a1, a2⟩ := hR.cell (k + k2) (by omega)
              obtain ⟨b0, b1, b2⟩ := hR.cell (k + km2) (by omega)
              have f0 := hR.frozen
              have hkb : kk < d.size := by omega
              obtain ⟨c0, c1, c2⟩ := hR.cell kk (by omega)
              have hkm2' : km2 < d.size - k := by omega
              have hk2' : k2 < d.size - k := by omega
              have hw : IntKind.i64.wrap ((k2 : Int) - 1) = (km2 : Int) := by rw [IntKind.wrap_i64]; omega
              rw [hI.high (k + k2) (by omega), show (k + k2) * 3 = k * 3 + k2 * 3 by omega] at a0 a1 a2
              rw [hI.high (k + km2) (by omega), show (k + km2) * 3 = k * 3 + km2 * 3 by omega] at b0 b1 b2
              clear hI hR hG
              generalize hu : d[k + k2]! = u at a0 a1 a2
              generalize hv : d[k + km2]! = v at b0 b1 b2
              generalize dk[kk]! = old at c0 c1 c2
              have C := Aside0.mk (And.intro hu hv)
              have KM2 := Aside0.mk hkm2
              clear hu hv hkm2 hdup
              go_wp2_with fail
              go_quiet (fail)
              by_cases huv : u = v
              · rw [show decide (u = v) = true from by simp [huv]]
                go_wp2_with fail
                go_roundw
                case rel => exact ⟨kk, k2 + 1, dk, rfl, by go_num, by omega, by omega, I2.out.skip (keeps_neg (by omega) (by rw [C.out.1, show k + k2 - 1 = k + km2 by have := KM2.out; omega, C.out.2]; exact huv)), R2.out.drewN _, grownBy_drewN G2.out _⟩
                case measure => simp [intOf]; omega
              · rw [show decide (u = v) = false from by simp [huv]]
                go_wp2_with fail
                go_roundw
                case rel => exact ⟨kk + 1, k2 + 1, dk.setIfInBounds kk u, by go_num, by go_num, by omega, by omega, by have := I2.out.keep hlt2 (keeps_pos (by rw [C.out.1, show k + k2 - 1 = k + km2 by have := KM2.out; omega, C.out.2]; exact huv)); rwa [C.out.1] at this, (R2.out.drewN _).set kk (by omega) u, grownBy_set (grownBy_set (grownBy_set (grownBy_drewN G2.out _) _ _) _ _) _ _⟩
                case measure => simp [intOf]; omega
            · have hend : k + k2 = d.size := by omega
              have hcl := fun ty c => clear_cells wr g cap dk R2.out kk (by omega) ty c
              rw [hds] at hcl
              clear hI hR hG hdup
              go_wp2
              go_ret
              have hI := I2.out
              rw [hend] at hI
              have hlen := hI.len
              refine ⟨by rw [hlen]; rfl, Row3.sets_out _ _ _ (R2.out.pre _ (by simp [hlen]; omega) (fun j hj => ?_)) (by simp [hlen]), grownBy_sets _ _ _ G2.out⟩
              have hj' : j < kk := by simpa [hlen] using hj
              have := hI.low j hj'
              rw [getElem!_def, List.getElem?_toArray, this]
        · go_wp2
          go_roundw
          case rel =>
            refine ⟨k + 1, _, by omega, by omega, by go_num, rfl, fun j hj => ?_⟩
            by_cases e : j = k
            · subst e
              exact keeps_pos (by rw [B.out.1, ← KM.out, B.out.2]; exact hdup)
            · exact A.out j (by omega)
          case measure => simp [intOf]; omega
      · have : k = d.size := by omega
        subst this
        go_wp2
        go_ret
        rw [comp_all hall]
        exact ⟨by simp, HR.out.drewN q, grownBy_drewN (grownBy_refl _ _) q⟩
end Go.Proofs.YtaeenefdbahfoaaDoor
namespace Go.Proofs.YtaeenefdbahfoaaDoor
set_option linter.unusedSimpArgs false
set_option linter.unusedVariables false
open Go.RowKit Go.Proofs.YtaeenefdbahfoaaDoorW.PrintWords Go.Proofs.YtaeenefdbahfoaaDoorW.PrintLast Go.Proofs.YtaeenefdbahfoaaDoorW.PrintMore
open H
open Go.Shelf Go.RowKit Go.Lib Go.Sort
theorem R_lit (w : World) : Kd.R k65 65 (w.alloc (.cells #[] 65)) w.heap.size (fun _ => True) (.slice (some ⟨w.heap.size, 0, none⟩) 0 0) [] :=
  R_of_row (xs := []) ⟨by simp, by unfold maxLen; omega, #[], blk_new w _, rfl, fun j hj => by simp at hj⟩ (Nat.le_refl _) trivial
set_option maxRecDepth 100000 in
set_option maxHeartbeats 1000000 in
theorem clone_any (A0 : Option Addr) (c0 : Nat) (l0 : List S65) (w : World) (hr0 : Kd.C k65 w A0 l0.length l0) (hl : l0.length < 5864062014805) :
    Calls Tryd.prog 73 #[.slice A0 l0.length c0] w fun e w' => ∃ v, e = .returned v ∧ Kd.R k65 65 w' w.heap.size (fun _ => True) v l0 ∧ Below w.heap.size w w' := by
  have hq := fun W n c => Lib.run_eql_slice_nil (P := Tryd.prog) W 34 65 A0 n c 0 0 Tryd.underlying34
  have HR := Aside0.mk hr0
  clear hr0
  cases A0 with
  | none =>
    have h0 : l0 = [] := by
      have h1 := HR.out.2.2
      rcases Nat.eq_zero_or_pos l0.length with h | h
      · exact List.length_eq_zero_iff.1 h
      · obtain ⟨ad, h2, _⟩ := h1 h
        cases h2
    simp only [Option.isNone_none] at hq
    go_enter Tryd.func73, Tryd.ntmps73
    go_wp2
    go_ret
    exact ⟨_, rfl, by rw [h0]; exact Kd.R_nil _ _ _ _ _, (by with_reducible repeat (first | apply below_alloc | apply pw_below_drewN | apply below_drew | refine bset ?_ _ _ (by omega) _ | exact Below.refl _ _))⟩
  | some ad =>
    simp only [Option.isNone_some] at hq
    have hR := R_lit w
    have HL := Aside0.mk hR
    clear hR
    go_enter Tryd.func73, Tryd.ntmps73
    go_wp2_with (at_builtin; refine appN k65 w.heap.size (.tmp 5) (.tmp 6) 34 65 (.agg #[.int .i64 0, .int .i64 0, .int .i64 0]) 24 (w0 := w) _ [] l0 (some ad) c0 rfl rfl Tryd.underlying34 info65 rfl (by decide) (by decide) rfl rfl (fun x cs h => by obtain rfl := k65_open h; exact k65_mkM _ _ _ _) HL.out (Kd.C_below HR.out (below_alloc2 (Below.refl _ _) (Nat.le_refl _) _)) (below_alloc2 (Below.refl _ _) (Nat.le_refl _) _) (by simp) (by simp; omega) ?_; intro v1 w4 ho4 hb4; have HO4 := Aside0.mk ho4; have HB4 := Aside0.mk hb4; clear ho4 hb4)
    go_ret
    exact ⟨_, rfl, by simpa using HO4.out, HB4.out⟩
/-- the set of a list's cells -/
def ofL (l : List S65) : List S65 := compactUpTo (sortCells l).toArray (sortCells l).toArray.size
theorem ofL_nil : ofL [] = [] := by simp [ofL, sortCells, compactUpTo]
def XOf.f (l : List S65) : Option (List S65) := if l.length < 5864062014805 then some (ofL l) else none
theorem compact_none (w : World) : Calls Tryd.prog 76 #[.slice none 0 0] w fun e w' => e = .returned (.slice none 0 0) ∧ w' = w := by
  go_enter Tryd.func76, Tryd.ntmps76
  go_wp2
  go_ret
  exact ⟨rfl, rfl⟩
set_option maxRecDepth 100000 in
set_option maxHeartbeats 1000000 in
theorem XOf.calls (A0 : Option Addr) (c0 : Nat) (l0 : List S65) (r : List S65) (w : World) (hr0 : Kd.C k65 w A0 l0.length l0) (_hc0 : l0.length ≤ c0) (h : XOf.f l0 = some r) :
    Calls Tryd.prog 37 #[.slice A0 l0.length c0] w fun e w' => ∃ v0_ : Value, e = .returned (v0_) ∧ Kd.R k65 65 w' w.heap.size (fun _ => True) v0_ r ∧ Below w.heap.size w w' := by
  have hl : l0.length < 5864062014805 := by
    by_cases h1 : l0.length < 5864062014805
    · exact h1
    · simp [XOf.f, h1] at h
  have hr : r = ofL l0 := by simpa [XOf.f, hl] using h.symm
  subst hr
  clear h
  have HR := Aside0.mk hr0
  clear hr0
  generalize hX : ofL l0 = X
  have HX := Aside0.mk hX
  clear hX
  go_enter Tryd.func37, Tryd.ntmps37
  go_wp2_with fail
  refine (clone_any A0 c0 l0 w HR.out hl).mono ?_
  rintro e w1 ⟨v, rfl, hO, hb1⟩
  rcases row_of_R hO with ⟨rfl, h0⟩ | ⟨g, cap, rfl, hg, _, hrow⟩
  · have HB1 := Aside0.mk hb1
    clear hb1 hO
    go_wp2_with (first
      | (go_at_call 74; refine (sort_none _ _).mono ?_; rintro e w2 ⟨rfl, rfl⟩)
      | (go_at_call 76; refine (compact_none _).mono ?_; rintro e w3 ⟨rfl, rfl⟩))
    go_ret
    exact ⟨_, rfl, by rw [← HX.out, h0, ofL_nil]; exact Kd.R_nil _ _ _ _ _, HB1.out⟩
  · have HB1 := Aside0.mk hb1
    have R1 := Aside0.mk hrow
    clear hb1 hO hrow
    have hsl : (sortCells l0).length = l0.length := List.length_mergeSort _
    have hsort := fun W hW => sort_any W g cap l0 hW (by omega)
    have hcomp : ∀ W, Row3 W g cap (sortCells l0).toArray → Calls Tryd.prog 76 #[.slice (some ⟨g, 0, none⟩) l0.length cap] W fun e w' => e = .returned (.slice (some ⟨g, 0, none⟩) (ofL l0).length cap) ∧ Row3 w' g cap (ofL l0).toArray ∧ W.grownBy w' (some g) := fun W hW => by
      have := compact_any W g cap _ hW (by simp [hsl]; omega)
      change Calls _ _ _ _ fun e w' => e = .returned (.slice (some ⟨g, 0, none⟩) (ofL l0).length cap) ∧ Row3 w' g cap (ofL l0).toArray ∧ W.grownBy w' (some g) at this
      rwa [show (sortCells l0).toArray.size = l0.length by simp [hsl]] at this
    rw [HX.out] at hcomp
    go_wp2_with (first
      | (go_at_call 74; refine (hsort _ R1.out).mono ?_; rintro e w5 ⟨rfl, hr5, hgr5⟩; have R6 := Aside0.mk hr5; have GR5 := Aside0.mk hgr5; clear hr5 hgr5)
      | (go_at_call 76; refine (hcomp _ R6.out).mono ?_; rintro e w6 ⟨rfl, hr6, hgr6⟩; have R7 := Aside0.mk hr6; have GR6 := Aside0.mk hgr6; clear hr6 hgr6))
    have hz := HB1.out.size
    have hB36 : Below w.heap.size w w6 := pw_below_grown (pw_below_grown HB1.out _ (by omega) GR5.out (fun k hk => by cases hk; exact hg)) _ (Nat.le_trans (by omega) GR5.out.size) GR6.out (fun k hk => by cases hk; exact hg)
    have HB36 := Aside0.mk hB36
    clear hB36
    go_ret
    exact ⟨_, rfl, R_of_row R7.out hg trivial, HB36.out⟩
def XClone.f (l : List S65) : Option (List S65) := if l.length < 5864062014805 then some l else none
theorem XClone.calls (A0 : Option Addr) (c0 : Nat) (l0 : List S65) (r : List S65) (w : World) (hr0 : Kd.C k65 w A0 l0.length l0) (_hc0 : l0.length ≤ c0) (h : XClone.f l0 = some r) :
    Calls Tryd.prog 73 #[.slice A0 l0.length c0] w fun e w' => ∃ v0_ : Value, e = .returned (v0_) ∧ Kd.R k65 65 w' w.heap.size (fun _ => True) v0_ r ∧ Below w.heap.size w w' := by
  unfold XClone.f at h
  by_cases hl : l0.length < 5864062014805
  · rw [if_pos hl] at h
    obtain rfl := Option.some.inj h
    exact clone_any A0 c0 l0 w hr0 hl
  · rw [if_neg hl] at h
    cases h
end Go.Proofs.YtaeenefdbahfoaaDoor
namespace Go.Proofs.YtaeenefdbahfoaaDoor
set_option linter.unusedSimpArgs false
set_option linter.unusedVariables false
open Go.RowKit Go.Proofs.YtaeenefdbahfoaaDoorW.PrintWords Go.Proofs.YtaeenefdbahfoaaDoorW.PrintLast Go.Proofs.YtaeenefdbahfoaaDoorW.PrintMore
open H
theorem box3 (w : World) (x y z : Value) (t : Nat) : ∃ w1, w1 = w.alloc (.cells #[x, y, z] t) ∧ w1.cell? ⟨w.heap.size, 0, none⟩ = some x ∧ w1.cell? ⟨w.heap.size, 1, none⟩ = some y ∧ w1.cell? ⟨w.heap.size, 2, none⟩ = some z ∧ w.heap.size < w1.heap.size ∧ Below w.heap.size w w1 :=
  ⟨_, rfl, by simp, by simp, by simp, by simp, below_alloc (Below.refl _ _) _⟩
theorem six_index (k : Nat) (hk : k < 6) : ∃ x y : Int, -1 ≤ x ∧ x ≤ 1 ∧ -1 ≤ y ∧ y ≤ 1 ∧ sixI[2 * k]? = some x ∧ sixI[2 * k + 1]? = some y ∧ ∀ w : World, (Instr.index 69 (.agg #[.int .i64 1, .int .i64 0, .int .i64 0, .int .i64 1, .int .i64 (-1), .int .i64 1, .int .i64 (-1), .int .i64 0, .int .i64 0, .int .i64 (-1), .int .i64 1, .int .i64 (-1)]) (.int .i64 k)).run Tryd.prog w = .ok (.agg #[.int .i64 x, .int .i64 y]) w := by
  have : k = 0 ∨ k = 1 ∨ k = 2 ∨ k = 3 ∨ k = 4 ∨ k = 5 := by omega
  rcases this with rfl | rfl | rfl | rfl | rfl | rfl
  · exact ⟨1, 0, by decide, by decide, by decide, by decide, rfl, rfl, fun w => by kernel_rfl⟩
  · exact ⟨0, 1, by decide, by decide, by decide, by decide, rfl, rfl, fun w => by kernel_rfl⟩
  · exact ⟨-1, 1, by decide, by decide, by decide, by decide, rfl, rfl, fun w => by kernel_rfl⟩
  · exact ⟨-1, 0, by decide, by decide, by decide, by decide, rfl, rfl, fun w => by kernel_rfl⟩
  · exact ⟨0, -1, by decide, by decide, by decide, by decide, rfl, rfl, fun w => by kernel_rfl⟩
  · exact ⟨1, -1, by decide, by decide, by decide, by decide, rfl, rfl, fun w => by kernel_rfl⟩
def sixP : List (Int × Int) := [(1, 0), (0, 1), (-1, 1), (-1, 0), (0, -1), (1, -1)]
def hexL (a b : Int) (k : Nat) : List S65 := (sixP.take k).map fun p => ⟨⟨a + p.1, b + p.2⟩, 0⟩
theorem hexL_succ {a b : Int} (k : Nat) (hk : k < 6) {x y : Int} (hx : sixI[2 * k]? = some x) (hy : sixI[2 * k + 1]? = some y) : hexL a b (k + 1) = hexL a b k ++ [⟨⟨a + x, b + y⟩, 0⟩] := by
  have : k = 0 ∨ k = 1 ∨ k = 2 ∨ k = 3 ∨ k = 4 ∨ k = 5 := by omega
  rcases this with rfl | rfl | rfl | rfl | rfl | rfl <;> (simp [sixI] at hx hy; subst hx; subst hy; simp [hexL, sixP])
set_option maxHeartbeats 1000000 in
theorem near_hex (a b h : Int) (w : World) (hG : Six w) (ha : -4398046511104 ≤ a) (ha' : a ≤ 4398046511104) (hb : -4398046511104 ≤ b) (hb' : b ≤ 4398046511104) :
    Calls Tryd.prog 106 #[.int .i64 1, .agg #[.int .i64 a, .int .i64 b, .int .i64 h]] w fun e w' => ∃ v : Value, e = .returned v ∧ Kd.R k65 65 w' w.heap.size (fun _ => True) v (hexL a b 6) ∧ Below w.heap.size w w' := by
  go_enter Tryd.func106, Tryd.ntmps106
  go_wp2_with fail
  obtain ⟨w1, hw1, c0, c1, c2, hsz, hB1⟩ := box3 w (.int .i64 a) (.int .i64 b) (.int .i64 h) 65
  rw [← hw1]
  have hG1 := hG.below hB1
  clear hw1
  refine (six_any w1 hG1).mono ?_
  rintro e w2 ⟨rfl, hb2⟩
  have HB1 := Aside0.mk hB1
  have HB2 := Aside0.mk hb2
  clear hB1 hb2
  unfold sixVal
  go_wp2
  go_loopw [5, 27] (fun v i wr => ∃ k : Nat, k ≤ 6 ∧ i = .int .i64 k ∧ Kd.R k65 65 wr w1.heap.size (fun _ => True) v (hexL a b k) ∧ Below w1.heap.size w1 wr) (fun _ i _ => 6 - (intOf i).toNat)
  case atStart => exact ⟨0, by omega, rfl, Kd.R_nil _ _ _ _ _, HB2.out⟩
  case round =>
    obtain ⟨k, hk, rfl, hO, hB⟩ := hrel
    have d0 := (hB.cell (p := ⟨w.heap.size, 0, none⟩) hsz).trans c0
    have d1 := (hB.cell (p := ⟨w.heap.size, 1, none⟩) hsz).trans c1
    have hzr : w.heap.size < wr.heap.size := Nat.lt_of_lt_of_le hsz hB.size
    have HO := Aside0.mk hO
    have HB := Aside0.mk hB
    clear hO hB c0 c1 c2 HB2
    by_cases hlt : k < 6
    · obtain ⟨x, y, x1, x2, y1, y2, ex, ey, hix⟩ := six_index k hlt
      have EX := Aside0.mk ex
      have EY := Aside0.mk ey
      clear ex ey
      have hz1 := HB.out.size
      have hl : (hexL a b k).length ≤ 6 := by simp [hexL, sixP]; omega
      go_wp2_with (at_builtin; refine app1 k65 w1.heap.size (.tmp 30) (.tmp 45) 34 65 (.agg #[.int .i64 0, .int .i64 0, .int .i64 0]) 24 _ (hexL a b k) ⟨⟨a + x, b + y⟩, 0⟩ [.int .i64 (a + x), .int .i64 (b + y), .int .i64 0] _ rfl rfl Tryd.underlying34 info65 rfl (by decide) (by decide) rfl (by simp; done) rfl (k65_mkM _ _ _ _) (Kd.R_alloc HO.out _) (below_alloc2 HB.out (by omega) _) (by simp; omega) (by omega) ?_; intro v1 w3 ho3 hb3; have HO3 := Aside0.mk ho3; have HB3 := Aside0.mk hb3; clear ho3 hb3)
      go_roundw
      case rel => exact ⟨k + 1, by omega, by go_num, by rw [hexL_succ k hlt EX.out EY.out]; exact HO3.out, HB3.out⟩
      case measure => simp [intOf]; omega
    · obtain rfl : k = 6 := by omega
      go_wp2
      go_ret
      exact ⟨_, rfl, Kd.R_lower HO.out (by omega), (HB1.out.trans (HB.out.mono (by omega)))⟩
def edgeP (d : Int) : List (Int × Int) := [(0, 0), (d, 0), (0, d)]
def edgeL (a b h : Int) (k : Nat) : List S65 := ((edgeP (2 * h - 1)).take k).map fun p => ⟨⟨a + p.1, b + p.2⟩, 1 - h⟩
set_option maxHeartbeats 1000000 in
theorem near_edge (a b h : Int) (w : World) (ha : -4398046511104 ≤ a) (ha' : a ≤ 4398046511104) (hb : -4398046511104 ≤ b) (hb' : b ≤ 4398046511104) (hh0 : 0 ≤ h) (hh1 : h ≤ 1) :
    Calls Tryd.prog 106 #[.int .i64 2, .agg #[.int .i64 a, .int .i64 b, .int .i64 h]] w fun e w' => ∃ v : Value, e = .returned v ∧ Kd.R k65 65 w' w.heap.size (fun _ => True) v (edgeL a b h 3) ∧ Below w.heap.size w w' := by
  go_enter Tryd.func106, Tryd.ntmps106
  go_wp2_with fail
  obtain ⟨w2, hw2, hc, he, hsz, hB2⟩ := two_new w #[.int .i64 a, .int .i64 b, .int .i64 h] #[.int .i64 0, .int .i64 0, .int .i64 (2 * h - 1), .int .i64 0, .int .i64 0, .int .i64 (2 * h - 1)] 65 63
  rw [← hw2]
  clear hw2
  have HB2 := Aside0.mk hB2
  clear hB2
  go_loopw [5, 61] (fun v i wr => ∃ k : Nat, k ≤ 3 ∧ i = .int .i64 k ∧ Kd.R k65 65 wr w2.heap.size (fun _ => True) v (edgeL a b h k) ∧ Below w2.heap.size w2 wr) (fun _ i _ => 3 - (intOf i).toNat)
  case atStart => exact ⟨0, by omega, rfl, Kd.R_nil _ _ _ _ _, Below.refl _ _⟩
  case round =>
    obtain ⟨k, hk, rfl, hO, hB⟩ := hrel
    have d0 := (hB.cell (p := ⟨w.heap.size, 0, none⟩) (by show w.heap.size < _; omega)).trans (hc 0 _ rfl)
    have d1 := (hB.cell (p := ⟨w.heap.size, 1, none⟩) (by show w.heap.size < _; omega)).trans (hc 1 _ rfl)
    have d2 := (hB.cell (p := ⟨w.heap.size, 2, none⟩) (by show w.heap.size < _; omega)).trans (hc 2 _ rfl)
    have hE : ∀ j v, (#[.int .i64 0, .int .i64 0, .int .i64 (2 * h - 1), .int .i64 0, .int .i64 0, .int .i64 (2 * h - 1)] : Array Value)[j]? = some v → wr.cell? ⟨w.heap.size + 1, j, none⟩ = some v := fun j v hv => (hB.cell (p := ⟨w.heap.size + 1, j, none⟩) (by show w.heap.size + 1 < _; omega)).trans (he j v hv)
    have hzr : w.heap.size + 1 < wr.heap.size := Nat.lt_of_lt_of_le hsz hB.size
    have hzr0 : w.heap.size < wr.heap.size := by omega
    have hz1 := hB.size
    have HO := Aside0.mk hO
    have HB := Aside0.mk hB
    clear hO hB hc he
    by_cases hlt : k < 3
    · have hk3 : k = 0 ∨ k = 1 ∨ k = 2 := by omega
      rcases hk3 with rfl | rfl | rfl
      · have f0 := hE 0 _ rfl
        have f1 := hE 1 _ rfl
        clear hE
        go_wp2_with (at_builtin; refine app1 k65 w2.heap.size (.tmp 65) (.tmp 83) 34 65 (.agg #[.int .i64 0, .int .i64 0, .int .i64 0]) 24 _ (edgeL a b h 0) ⟨⟨a, b⟩, 1 - h⟩ [.int .i64 a, .int .i64 b, .int .i64 (1 - h)] _ rfl rfl Tryd.underlying34 info65 rfl (by decide) (by decide) rfl (by simp; done) rfl (k65_mkM _ _ _ _) (Kd.R_alloc HO.out _) (below_alloc2 HB.out (by omega) _) (by simp; omega) (by simp [edgeL]) ?_; intro v1 w3 ho3 hb3; have HO3 := Aside0.mk ho3; have HB3 := Aside0.mk hb3; clear ho3 hb3)
        go_roundw
        case rel => exact ⟨1, by omega, rfl, by have := HO3.out; simpa [edgeL, edgeP] using this, HB3.out⟩
        case measure => simp [intOf]
      · have f0 := hE 2 _ rfl
        have f1 := hE 3 _ rfl
        clear hE
        go_wp2_with (at_builtin; refine app1 k65 w2.heap.size (.tmp 65) (.tmp 83) 34 65 (.agg #[.int .i64 0, .int .i64 0, .int .i64 0]) 24 _ (edgeL a b h 1) ⟨⟨a + (2 * h - 1), b⟩, 1 - h⟩ [.int .i64 (a + (2 * h - 1)), .int .i64 b, .int .i64 (1 - h)] _ rfl rfl Tryd.underlying34 info65 rfl (by decide) (by decide) rfl (by simp; done) rfl (k65_mkM _ _ _ _) (Kd.R_alloc HO.out _) (below_alloc2 HB.out (by omega) _) (by simp; omega) (by simp [edgeL, edgeP]) ?_; intro v1 w3 ho3 hb3; have HO3 := Aside0.mk ho3; have HB3 := Aside0.mk hb3; clear ho3 hb3)
        go_roundw
        case rel => exact ⟨2, by omega, rfl, by have := HO3.out; simpa [edgeL, edgeP] using this, HB3.out⟩
        case measure => simp [intOf]
      · have f0 := hE 4 _ rfl
        have f1 := hE 5 _ rfl
        clear hE
        go_wp2_with (at_builtin; refine app1 k65 w2.heap.size (.tmp 65) (.tmp 83) 34 65 (.agg #[.int .i64 0, .int .i64 0, .int .i64 0]) 24 _ (edgeL a b h 2) ⟨⟨a, b + (2 * h - 1)⟩, 1 - h⟩ [.int .i64 a, .int .i64 (b + (2 * h - 1)), .int .i64 (1 - h)] _ rfl rfl Tryd.underlying34 info65 rfl (by decide) (by decide) rfl (by simp; done) rfl (k65_mkM _ _ _ _) (Kd.R_alloc HO.out _) (below_alloc2 HB.out (by omega) _) (by simp; omega) (by simp [edgeL, edgeP]) ?_; intro v1 w3 ho3 hb3; have HO3 := Aside0.mk ho3; have HB3 := Aside0.mk hb3; clear ho3 hb3)
        go_roundw
        case rel => exact ⟨3, by omega, rfl, by have := HO3.out; simpa [edgeL, edgeP] using this, HB3.out⟩
        case measure => simp [intOf]
    · obtain rfl : k = 3 := by omega
      go_wp2
      go_ret
      exact ⟨_, rfl, Kd.R_lower HO.out (by omega), (HB2.out.trans (HB.out.mono (by omega)))⟩
def cornP (a b h : Int) : List (Int × Int) := if h = 0 then [(a, b), (a + 1, b), (a, b + 1)] else [(a + 1, b), (a, b + 1), (a + 1, b + 1)]
def aroundL (a b : Int) : List S65 := [⟨⟨a, b⟩, 0⟩, ⟨⟨a - 1, b⟩, 1⟩, ⟨⟨a - 1, b⟩, 0⟩, ⟨⟨a, b - 1⟩, 1⟩, ⟨⟨a, b - 1⟩, 0⟩, ⟨⟨a - 1, b - 1⟩, 1⟩]
def vertL (a b h : Int) (k : Nat) : List S65 := ((cornP a b h).take k).flatMap fun p => aroundL p.1 p.2
theorem around_f (a b : Int) (ha : -5498046511104 ≤ a) (ha' : a ≤ 5498046511104) (hb : -5498046511104 ≤ b) (hb' : b ≤ 5498046511104) : cell_around.f 4 a b = some (aroundL a b) := by
  have w1 : wrap64 a = a := by unfold wrap64; omega
  have w2 : wrap64 b = b := by unfold wrap64; omega
  have w3 : wrap64 (a + -1) = a - 1 := by unfold wrap64; omega
  have w4 : wrap64 (b + -1) = b - 1 := by unfold wrap64; omega
  have e0 : wrap64 1 = 1 := by unfold wrap64; omega
  have e1 : wrap64 2 = 2 := by unfold wrap64; omega
  have e2 : wrap64 3 = 3 := by unfold wrap64; omega
  simp [cell_around.f, cell_around.l0, rd_T63, aroundL, w1, w2, w3, w4, e0, e1, e2]
theorem around_any (a b : Int) (w : World) (ha : -5498046511104 ≤ a) (ha' : a ≤ 5498046511104) (hb : -5498046511104 ≤ b) (hb' : b ≤ 5498046511104) :
    Calls Tryd.prog 125 #[.agg #[.int .i64 a, .int .i64 b]] w fun e w' => ∃ v0_ : Value, e = .returned (v0_) ∧ Kd.R k65 65 w' w.heap.size (fun _ => True) v0_ (aroundL a b) ∧ Below w.heap.size w w' :=
  cell_around.calls 4 a b _ w (around_f a b ha ha' hb hb')
def cornersV (a b h : Int) : Value := if h = 0 then .agg #[.int .i64 a, .int .i64 b, .int .i64 (a + 1), .int .i64 b, .int .i64 a, .int .i64 (b + 1)] else .agg #[.int .i64 (a + 1), .int .i64 b, .int .i64 a, .int .i64 (b + 1), .int .i64 (a + 1), .int .i64 (b + 1)]
theorem corners_any (a b h : Int) (w : World) (ha : -4398046511104 ≤ a) (ha' : a ≤ 4398046511104) (hb : -4398046511104 ≤ b) (hb' : b ≤ 4398046511104) :
    Calls Tryd.prog 124 #[.agg #[.int .i64 a, .int .i64 b, .int .i64 h]] w fun e w' => e = .returned (cornersV a b h) ∧ Below w.heap.size w w' := by
  by_cases hh : h = 0
  all_goals
    go_enter Tryd.func124, Tryd.ntmps124
    go_wp2
    go_quiet (fail)
    go_wp2
  · exact bodyPost_ret (v := .agg #[.int .i64 a, .int .i64 b, .int .i64 (a + 1), .int .i64 b, .int .i64 a, .int .i64 (b + 1)]) (by simp [results, Tryd.results124, go_sem]) rfl ⟨by rw [cornersV, if_pos hh], (by with_reducible repeat (first | apply below_alloc | apply pw_below_drewN | apply below_drew | refine bset ?_ _ _ (by omega) _ | exact Below.refl _ _))⟩
  · exact bodyPost_ret (v := .agg #[.int .i64 (a + 1), .int .i64 b, .int .i64 a, .int .i64 (b + 1), .int .i64 (a + 1), .int .i64 (b + 1)]) (by simp [results, Tryd.results124, go_sem]) rfl ⟨by rw [cornersV, if_neg hh], (by with_reducible repeat (first | apply below_alloc | apply pw_below_drewN | apply below_drew | refine bset ?_ _ _ (by omega) _ | exact Below.refl _ _))⟩
theorem corn_index (a b h : Int) (k : Nat) (hk : k < 3) : ∃ x y : Int, (cornP a b h)[k]? = some (x, y) ∧ a ≤ x ∧ x ≤ a + 1 ∧ b ≤ y ∧ y ≤ b + 1 ∧ ∀ w : World, (Instr.index 201 (cornersV a b h) (.int .i64 k)).run Tryd.prog w = .ok (.agg #[.int .i64 x, .int .i64 y]) w := by
  have hk3 : k = 0 ∨ k = 1 ∨ k = 2 := by omega
  unfold cornP cornersV
  by_cases hh : h = 0
  · simp only [hh, ↓reduceIte]
    rcases hk3 with rfl | rfl | rfl
    · exact ⟨a, b, rfl, by omega, by omega, by omega, by omega, fun w => by kernel_rfl⟩
    · exact ⟨a + 1, b, rfl, by omega, by omega, by omega, by omega, fun w => by kernel_rfl⟩
    · exact ⟨a, b + 1, rfl, by omega, by omega, by omega, by omega, fun w => by kernel_rfl⟩
  · simp only [hh, ↓reduceIte]
    rcases hk3 with rfl | rfl | rfl
    · exact ⟨a + 1, b, rfl, by omega, by omega, by omega, by omega, fun w => by kernel_rfl⟩
    · exact ⟨a, b + 1, rfl, by omega, by omega, by omega, by omega, fun w => by kernel_rfl⟩
    · exact ⟨a + 1, b + 1, rfl, by omega, by omega, by omega, by omega, fun w => by kernel_rfl⟩
theorem vertL_succ {a b h : Int} (k : Nat) {x y : Int} (hx : (cornP a b h)[k]? = some (x, y)) : vertL a b h (k + 1) = vertL a b h k ++ aroundL x y := by
  unfold vertL
  rw [List.take_add_one, hx]
  simp
theorem vertL_len (a b h : Int) (k : Nat) : (vertL a b h k).length ≤ 18 := by
  have h3 : (cornP a b h).length = 3 := by unfold cornP; split <;> rfl
  have : ∀ l : List (Int × Int), (l.flatMap fun p => aroundL p.1 p.2).length = 6 * l.length := by
    intro l
    induction l with
    | nil => rfl
    | cons p l ih => rw [List.flatMap_cons, List.length_append, ih, List.length_cons]; simp [aroundL]; omega
  unfold vertL
  rw [this, List.length_take]
  omega
set_option maxRecDepth 100000 in
set_option maxHeartbeats 1000000 in
theorem near_vert (l a b h : Int) (w : World) (hl1 : ¬ l = 1) (hl2 : ¬ l = 2) (ha : -4398046511104 ≤ a) (ha' : a ≤ 4398046511104) (hb : -4398046511104 ≤ b) (hb' : b ≤ 4398046511104) :
    Calls Tryd.prog 106 #[.int .i64 l, .agg #[.int .i64 a, .int .i64 b, .int .i64 h]] w fun e w' => ∃ v : Value, e = .returned v ∧ Kd.R k65 65 w' w.heap.size (fun _ => True) v (vertL a b h 3) ∧ Below w.heap.size w w' := by
  go_enter Tryd.func106, Tryd.ntmps106
  go_wp2_with fail
  obtain ⟨w1, hw1, hc, hsz, hB1⟩ := one_new w #[.int .i64 a, .int .i64 b, .int .i64 h] 65
  rw [← hw1]
  clear hw1
  have HB1 := Aside0.mk hB1
  clear hB1
  refine (corners_any a b h w1 ha ha' hb hb').mono ?_
  rintro e w2 ⟨rfl, hb2⟩
  have HB2 := Aside0.mk hb2
  clear hb2 hc
  have HIX := Aside0.mk (corn_index a b h)
  generalize cornersV a b h = cv at HIX ⊢
  go_wp2
  go_loopw [5, 16] (fun v i wr => ∃ k : Nat, k ≤ 3 ∧ i = .int .i64 k ∧ Kd.R k65 65 wr w1.heap.size (fun _ => True) v (vertL a b h k) ∧ Below w1.heap.size w1 wr) (fun _ i _ => 3 - (intOf i).toNat)
  case atStart => exact ⟨0, by omega, rfl, Kd.R_nil _ _ _ _ _, HB2.out⟩
  case round =>
    obtain ⟨k, hk, rfl, hO, hB⟩ := hrel
    have HO := Aside0.mk hO
    have HB := Aside0.mk hB
    clear hO hB HB2
    by_cases hlt : k < 3
    · obtain ⟨x, y, ex, x1, x2, y1, y2, hix⟩ := HIX.out k hlt
      have EX := Aside0.mk ex
      clear ex HIX
      have hz1 := HB.out.size
      have hl := vertL_len a b h k
      have hla : (aroundL x y).length = 6 := rfl
      go_wp2_with (first
        | (go_at_call 125; refine (around_any x y _ (by omega) (by omega) (by omega) (by omega)).mono ?_; rintro e w3 ⟨v3, rfl, ho3, hb3⟩; obtain ⟨A3, c3, rfl, hl3, hc3⟩ := Kd.R_reads ho3; have HC3 := Aside0.mk hc3; have HB3 := Aside0.mk hb3; clear ho3 hc3 hb3 hix)
        | (at_builtin; refine appN k65 w1.heap.size (.tmp 19) (.tmp 21) 34 65 (.agg #[.int .i64 0, .int .i64 0, .int .i64 0]) 24 _ (vertL a b h k) (aroundL x y) A3 c3 rfl rfl Tryd.underlying34 info65 rfl (by decide) (by decide) rfl rfl (fun x cs h => by obtain rfl := k65_open h; exact k65_mkM _ _ _ _) (Kd.R_below (Kd.R_alloc HO.out _) HB3.out) HC3.out ((below_alloc2 HB.out (by omega) _).trans (HB3.out.mono (by simp; omega))) (Nat.le_trans (by simp; omega) HB3.out.size) (by omega) ?_; intro v1 w4 ho4 hb4; have HO4 := Aside0.mk ho4; have HB4 := Aside0.mk hb4; clear ho4 hb4))
      go_roundw
      case rel => exact ⟨k + 1, by omega, by go_num, by rw [vertL_succ k EX.out]; exact HO4.out, HB4.out⟩
      case measure => simp [intOf]; omega
    · obtain rfl : k = 3 := by omega
      go_wp2
      go_ret
      exact ⟨_, rfl, Kd.R_lower HO.out (by omega), (HB1.out.trans (HB.out.mono (by omega)))⟩
end Go.Proofs.YtaeenefdbahfoaaDoor
namespace Go.Proofs.YtaeenefdbahfoaaDoor
set_option linter.unusedSimpArgs false
set_option linter.unusedVariables false
open Go.RowKit Go.Proofs.YtaeenefdbahfoaaDoorW.PrintWords Go.Proofs.YtaeenefdbahfoaaDoorW.PrintLast Go.Proofs.YtaeenefdbahfoaaDoorW.PrintMore
open H
open Go.Shelf Go.RowKit Go.Lib Go.Sort
def nearL (l a b h : Int) : List S65 := if l = 1 then hexL a b 6 else if l = 2 then edgeL a b h 3 else vertL a b h 3
theorem near_any (l a b h : Int) (w : World) (hG : Six w) (hg : goodP a b) (hh0 : 0 ≤ h) (hh1 : h ≤ 1) :
    Calls Tryd.prog 106 #[.int .i64 l, .agg #[.int .i64 a, .int .i64 b, .int .i64 h]] w fun e w' => ∃ v : Value, e = .returned v ∧ Kd.R k65 65 w' w.heap.size (fun _ => True) v (nearL l a b h) ∧ Below w.heap.size w w' := by
  obtain ⟨g1, g2, g3, g4⟩ := hg
  unfold nearL
  by_cases h1 : l = 1
  · subst h1
    exact near_hex a b h w hG (by omega) (by omega) (by omega) (by omega)
  · rw [if_neg h1]
    by_cases h2 : l = 2
    · subst h2
      exact near_edge a b h w (by omega) (by omega) (by omega) (by omega) hh0 hh1
    · rw [if_neg h2]
      exact near_vert l a b h w h1 h2 (by omega) (by omega) (by omega) (by omega)
theorem near_ne (l a b h : Int) : nearL l a b h ≠ [] := by
  unfold nearL
  split
  · simp [hexL, sixP]
  · split
    · simp [edgeL, edgeP]
    · unfold vertL cornP
      split <;> simp [aroundL]
theorem near_len (l a b h : Int) : (nearL l a b h).length ≤ 18 := by
  unfold nearL
  split
  · simp [hexL, sixP]
  · split
    · simp [edgeL, edgeP]
    · exact vertL_len a b h 3
theorem near_row (l a b h : Int) (w : World) (hG : Six w) (hg : goodP a b) (hh0 : 0 ≤ h) (hh1 : h ≤ 1) :
    Calls Tryd.prog 106 #[.int .i64 l, .agg #[.int .i64 a, .int .i64 b, .int .i64 h]] w fun e w' => ∃ g cap : Nat, e = .returned (.slice (some ⟨g, 0, none⟩) (nearL l a b h).length cap) ∧ (nearL l a b h).length ≤ cap ∧ w.heap.size ≤ g ∧ Row3 w' g cap (nearL l a b h).toArray ∧ Below w.heap.size w w' := by
  refine (near_any l a b h w hG hg hh0 hh1).mono ?_
  rintro e w' ⟨v, rfl, hR, hB⟩
  rcases row_of_R hR with ⟨_, h0⟩ | ⟨g, cap, rfl, hb, _, hrow⟩
  · exact absurd h0 (near_ne l a b h)
  · exact ⟨g, cap, rfl, by simpa using hrow.le, hb, hrow, hB⟩
/-- those beside a cell: all that are near but itself, rising, each once -/
def farL (l a b h : Int) : List S65 := (nearL l a b h).filter fun x => !decide (x = ⟨⟨a, b⟩, h⟩)
def besideL (l a b h : Int) : List S65 := compactUpTo (sortCells (farL l a b h)).toArray (sortCells (farL l a b h)).toArray.size
def allGood (xs : List S65) : Prop := ∀ x ∈ xs, goodP x.f0.f0 x.f0.f1
def besideV (w' : World) (base : Nat) (e : Ending) (xs : List S65) : Prop := (allGood xs ∧ ∃ v, e = .returned (.tuple #[v, .nilIface]) ∧ Kd.R k65 65 w' base (fun _ => True) v xs) ∨ (¬ allGood xs ∧ e = .returned (.tuple #[.slice none 0 0, errW (some 6)]))
attribute [local go_sem high] eqCells
set_option maxRecDepth 100000 in
set_option maxHeartbeats 4000000 in
theorem beside_ok (l a b h : Int) (w : World) (hG : Six w) (hc : checkR l a b h = none) (hg : goodP a b) (hh0 : 0 ≤ h) (hh1 : h ≤ 1) (hne : farL l a b h ≠ []) :
    Calls Tryd.prog 89 #[.int .i64 l, .agg #[.int .i64 a, .int .i64 b, .int .i64 h]] w fun e w' => besideV w' w.heap.size e (besideL l a b h) ∧ Below w.heap.size w w' := by
  have hck := fun W => check_any l a b h W
  simp only [hc, errW_none] at hck
  obtain ⟨c, hcdef⟩ : ∃ c : S65, c = ⟨⟨a, b⟩, h⟩ := ⟨_, rfl⟩
  have hca : a = c.f0.f0 := by rw [hcdef]
  have hcb : b = c.f0.f1 := by rw [hcdef]
  have hch : h = c.f1 := by rw [hcdef]
  have hnr := fun W hW => near_row l a b h W hW hg hh0 hh1
  obtain ⟨L, hL⟩ : ∃ L, L = nearL l a b h := ⟨_, rfl⟩
  have hLn : L ≠ [] := by rw [hL]; exact near_ne l a b h
  have hLl : L.length ≤ 18 := by rw [hL]; exact near_len l a b h
  have hF : farL l a b h = L.filter fun x => !decide (x = c) := by rw [hL, hcdef]; rfl
  unfold besideL
  rw [hF] at hne ⊢
  obtain ⟨F, hFd⟩ : ∃ F, F = L.filter fun x => !decide (x = c) := ⟨_, rfl⟩
  rw [← hFd] at hne ⊢
  obtain ⟨X, hXd⟩ : ∃ X, X = compactUpTo (sortCells F).toArray (sortCells F).toArray.size := ⟨_, rfl⟩
  rw [← hXd]
  have HFD := Aside0.mk hFd
  have HXD := Aside0.mk hXd
  clear hFd hXd
  rw [← hL] at hnr
  rw [hca, hcb, hch] at hck hnr ⊢
  clear hca hcb hch hc hg hh0 hh1 hF hL hcdef
  go_enter Tryd.func89, Tryd.ntmps89
  go_wp2_with fail
  obtain ⟨w1, hw1, hcc, hsz, hB1⟩ := one_new w #[.int .i64 c.f0.f0, .int .i64 c.f0.f1, .int .i64 c.f1] 65
  rw [← hw1]
  clear hw1
  have hG1 := hG.below hB1
  have HB1 := Aside0.mk hB1
  clear hB1
  have d0 : w1.cell? ⟨w.heap.size, 0, none⟩ = some (.int .i64 c.f0.f0) := hcc 0 _ rfl
  have d1 : w1.cell? ⟨w.heap.size, 1, none⟩ = some (.int .i64 c.f0.f1) := hcc 1 _ rfl
  have d2 : w1.cell? ⟨w.heap.size, 2, none⟩ = some (.int .i64 c.f1) := hcc 2 _ rfl
  clear hcc
  have G1 := Aside0.mk hG1
  clear hG1 hG
  go_wp2_with (first
    | (go_at_call 81; refine (hck _).mono ?_; rintro e w2 ⟨rfl, hb2⟩
       have G2 := Aside0.mk (G1.out.below hb2)
       have d0 := pw_cell_below hb2 d0
       have d1 := pw_cell_below hb2 d1
       have d2 := pw_cell_below hb2 d2
       have HB2 := Aside0.mk hb2
       clear hb2)
    | (go_at_call 106; refine (hnr _ G2.out).mono ?_; rintro e w3 ⟨g3, c3, rfl, hlc3, hg3, hrow3, hb3⟩
       have d0 := pw_cell_below hb3 d0
       have d1 := pw_cell_below hb3 d1
       have d2 := pw_cell_below hb3 d2
       have HB3 := Aside0.mk (HB2.out.trans (hb3.mono HB2.out.size))
       have HR3 := Aside0.mk hrow3
       clear hb3 hrow3))
  have hz3 := HB3.out.size
  have hg3' := HR3.out.lt
  have C0 := Aside0.mk (And.intro d0 (And.intro d1 d2))
  clear d0 d1 d2
  go_loopw [7, 22] (fun v i wr => ∃ k : Nat, k ≤ L.length ∧ i = .int .i64 k ∧ Kd.R k65 65 wr w3.heap.size (fun _ => True) v ((L.take k).filter fun x => !decide (x = c)) ∧ Below w3.heap.size w3 wr) (fun _ i _ => L.length - (intOf i).toNat)
  case atStart => exact ⟨0, by omega, rfl, by simp; exact Kd.R_nil _ _ _ _ _, Below.refl _ _⟩
  case round =>
    obtain ⟨k, hk, rfl, hO, hB⟩ := hrel
    have HO := Aside0.mk hO
    have HB := Aside0.mk hB
    have d0 := pw_cell_below hB C0.out.1
    have d1 := pw_cell_below hB C0.out.2.1
    have d2 := pw_cell_below hB C0.out.2.2
    have hzr := hB.size
    have hzz : w.heap.size < wr.heap.size := Nat.lt_of_lt_of_le (Nat.lt_of_lt_of_le hsz hz3) hzr
    have hg3z : g3 < wr.heap.size := Nat.lt_of_lt_of_le hg3' hzr
    by_cases hlt : k < L.length
    · obtain ⟨a0, a1, a2⟩ := (HR3.out.below hB).cell k (by simpa using hlt)
      generalize hx : L.toArray[k]! = x at a0 a1 a2
      clear hO hB
      have HX := Aside0.mk hx
      clear hx
      have hlf : ((L.take k).filter fun x => !decide (x = c)).length ≤ 18 := Nat.le_trans (List.length_filter_le _ _) (by simp; omega)
      have htk : L.take (k + 1) = L.take k ++ [x] := by
        rw [List.take_add_one, List.getElem?_eq_getElem hlt]
        have : L.toArray[k]! = L[k] := by simp [hlt]
        rw [← HX.out, this]
        rfl
      have HTK := Aside0.mk htk
      clear htk
      by_cases hxc : x = c
      · go_wp2_with fail
        go_roundw
        case rel => exact ⟨k + 1, by omega, by go_num, by rw [HTK.out, List.filter_append]; simpa [hxc] using Kd.R_alloc HO.out _, below_alloc2 HB.out (by omega) _⟩
        case measure => simp [intOf]; omega
      · go_wp2_with (at_builtin; refine app1 k65 w3.heap.size (.tmp 29) (.tmp 31) 34 65 (.agg #[.int .i64 0, .int .i64 0, .int .i64 0]) 24 _ ((L.take k).filter fun x => !decide (x = c)) x [.int .i64 x.f0.f0, .int .i64 x.f0.f1, .int .i64 x.f1] _ rfl rfl Tryd.underlying34 info65 rfl (by decide) (by decide) rfl (by simp; done) rfl (k65_mkM _ _ _ _) (Kd.R_alloc HO.out _) (below_alloc2 HB.out (by omega) _) (by simp; omega) (by omega) ?_; intro v1 w4 ho4 hb4; have HO4 := Aside0.mk ho4; have HB4 := Aside0.mk hb4; clear ho4 hb4)
        go_roundw
        case rel => exact ⟨k + 1, by omega, by go_num, by rw [HTK.out, List.filter_append]; simpa [hxc] using HO4.out, HB4.out⟩
        case measure => simp [intOf]; omega
    · obtain rfl : k = L.length := by omega
      have hO2 := hO
      rw [List.take_length, ← HFD.out] at hO2
      rcases row_of_R hO2 with ⟨_, h0⟩ | ⟨g5, c5, rfl, hb5, _, hrow5⟩
      · exact absurd h0 hne
      have hlen5 : F.length ≤ 18 := by rw [HFD.out]; exact Nat.le_trans (List.length_filter_le _ _) hLl
      clear hO hO2 HO hck hnr
      have R5 := Aside0.mk hrow5
      have hsl : (sortCells F).length = F.length := List.length_mergeSort _
      have hsort := fun W hW => sort_any W g5 c5 F hW (by omega)
      have hcomp : ∀ W, Row3 W g5 c5 (sortCells F).toArray → Calls Tryd.prog 76 #[.slice (some ⟨g5, 0, none⟩) F.length c5] W fun e w' => e = .returned (.slice (some ⟨g5, 0, none⟩) X.length c5) ∧ Row3 w' g5 c5 X.toArray ∧ W.grownBy w' (some g5) := fun W hW => by
        have := compact_any W g5 c5 _ hW (by simp [hsl]; omega)
        rw [← HXD.out] at this
        rwa [show (sortCells F).toArray.size = F.length by simp [hsl]] at this
      clear hrow5
      have hXl : X.length ≤ 18 := by
        rw [HXD.out]
        unfold compactUpTo
        rw [List.length_map]
        exact Nat.le_trans (List.length_filter_le _ _) (by simp [hsl]; omega)
      go_wp2_with (first
        | (go_at_call 74; refine (hsort _ R5.out).mono ?_; rintro e w5 ⟨rfl, hr5, hgr5⟩; have R6 := Aside0.mk hr5; have GR5 := Aside0.mk hgr5; clear hr5 hgr5)
        | (go_at_call 76; refine (hcomp _ R6.out).mono ?_; rintro e w6 ⟨rfl, hr6, hgr6⟩; have R7 := Aside0.mk hr6; have GR6 := Aside0.mk hgr6; clear hr6 hgr6))
      have hB36 : Below w3.heap.size w3 w6 := pw_below_grown (pw_below_grown HB.out _ (by omega) GR5.out (fun k hk => by cases hk; exact hb5)) _ (Nat.le_trans (by omega) GR5.out.size) GR6.out (fun k hk => by cases hk; exact hb5)
      have HB36 := Aside0.mk hB36
      have hz36 := hB36.size
      clear hB36 hsort hcomp
      have hzw : w.heap.size ≤ w3.heap.size := by omega
      have hzb : w.heap.size ≤ g5 := by omega
      go_loopw [40] (fun i wq => ∃ k : Nat, k ≤ X.length ∧ i = .int .i64 k ∧ (∀ j, j < k → goodP X.toArray[j]!.f0.f0 X.toArray[j]!.f0.f1) ∧ Below w6.heap.size w6 wq) (fun i _ => X.length - (intOf i).toNat)
      case atStart => exact ⟨0, by omega, rfl, fun j hj => by omega, Below.refl _ _⟩
      case round =>
        obtain ⟨k, hk, rfl, hgood, hB⟩ := hrel
        have GD := Aside0.mk hgood
        have HBQ := Aside0.mk hB
        have hzq := hB.size
        have hg5q : g5 < wr.heap.size := (R7.out.below hB).lt
        by_cases hlt : k < X.length
        · obtain ⟨a0, a1, a2⟩ := (R7.out.below hB).cell k (by simpa using hlt)
          generalize hx : X.toArray[k]! = x at a0 a1 a2
          have HX := Aside0.mk hx
          have hga := fun W => good_any x.f0.f0 x.f0.f1 W
          clear hx hgood hB
          by_cases hgx : goodP x.f0.f0 x.f0.f1
          · rw [decide_eq_true hgx] at hga
            go_wp2_with (go_at_call 92; refine (hga _).mono ?_; rintro e w7 ⟨rfl, hb7⟩; have HB7 := Aside0.mk hb7; clear hb7)
            go_roundw
            case rel =>
              refine ⟨k + 1, by omega, by go_num, fun j hj => ?_, (below_alloc2 HBQ.out (by omega) _).trans (HB7.out.mono (by simp; omega))⟩
              rcases Nat.lt_or_ge j k with hjk | hjk
              · exact GD.out j hjk
              · obtain rfl : j = k := by omega
                rw [HX.out]
                exact hgx
            case measure => simp [intOf]; omega
          · rw [decide_eq_false hgx] at hga
            go_wp2_with (go_at_call 92; refine (hga _).mono ?_; rintro e w7 ⟨rfl, hb7⟩; have HB7 := Aside0.mk hb7; clear hb7)
            refine bodyPost_ret (v := .tuple #[.slice none 0 0, errW (some 6)]) (by simp [results, Tryd.results89, go_sem, errW_some]) rfl ⟨.inr ⟨fun hall => hgx ?_, rfl⟩, ?_⟩
            · have : x ∈ X := by
                have hxe : X.toArray[k]! = X[k] := by simp [hlt]
                rw [← HX.out, hxe]
                exact List.getElem_mem _
              exact hall x this
            · exact HB1.out.trans ((HB3.out.trans ((HB36.out.trans (((below_alloc2 HBQ.out (by omega) _).trans (HB7.out.mono (by simp; omega))).mono (by omega))).mono (by omega))).mono (by omega))
        · obtain rfl : k = X.length := by omega
          clear hB hgood
          go_wp2
          refine bodyPost_ret (v := .tuple #[.slice (some ⟨g5, 0, none⟩) X.length c5, .nilIface]) (by simp [results, Tryd.results89, go_sem]) rfl ⟨.inl ⟨fun x hx => ?_, _, rfl, R_of_row (R7.out.below HBQ.out) hzb trivial⟩, ?_⟩
          · obtain ⟨j, hj, rfl⟩ := List.getElem_of_mem hx
            have := GD.out j hj
            have hxe : X.toArray[j]! = X[j] := by simp [hj]
            rwa [hxe] at this
          · exact HB1.out.trans ((HB3.out.trans ((HB36.out.trans (HBQ.out.mono (by omega))).mono (by omega))).mono (by omega))
end Go.Proofs.YtaeenefdbahfoaaDoor
namespace Go.Proofs.YtaeenefdbahfoaaDoor
set_option linter.unusedSimpArgs false
set_option linter.unusedVariables false
open Go.RowKit Go.Proofs.YtaeenefdbahfoaaDoorW.PrintWords Go.Proofs.YtaeenefdbahfoaaDoorW.PrintLast Go.Proofs.YtaeenefdbahfoaaDoorW.PrintMore
open H
open Go.Shelf Go.RowKit Go.Lib Go.Sort
theorem sh_inj (a b : Int) {x y : CL} (h : sh a b x = sh a b y) : x = y := by
  obtain ⟨⟨p, q⟩, r⟩ := x
  obtain ⟨⟨p', q'⟩, r'⟩ := y
  simp only [sh, S65.mk.injEq, S63.mk.injEq] at h ⊢
  omega
theorem sh_lt (a b : Int) (x y : CL) : ltOf cmpCell (sh a b x) (sh a b y) = ltOf cmpCell x y := by
  rw [lt_cell, lt_cell]
  simp only [sh]
  congr 1
  rw [eq_iff_iff]
  omega
theorem near_sh (l a b h : Int) (h0 : h = 0 ∨ h = 1) : nearL l a b h = (nearL l 0 0 h).map (sh a b) := by
  unfold nearL
  split
  · simp [hexL, sixP, sh]
  · split
    · rcases h0 with rfl | rfl <;> simp [edgeL, edgeP, sh]
    · rcases h0 with rfl | rfl
      · simp [vertL, cornP, aroundL, sh]; omega
      · simp [vertL, cornP, aroundL, sh]; omega
theorem far_sh (l a b h : Int) (h0 : h = 0 ∨ h = 1) : farL l a b h = (farL l 0 0 h).map (sh a b) := by
  unfold farL
  rw [near_sh l a b h h0, List.filter_map]
  congr 2
  funext x
  obtain ⟨⟨p, q⟩, r⟩ := x
  rw [Bool.eq_iff_iff]
  simp [sh, S65.mk.injEq, S63.mk.injEq]
  omega
theorem sort_sh (a b : Int) (xs : List CL) : sortCells (xs.map (sh a b)) = (sortCells xs).map (sh a b) := by
  unfold sortCells
  rw [List.map_mergeSort]
  intro x _ y _
  rw [sh_lt]
theorem keeps_map (f : CL → CL) (hf : ∀ x y, f x = f y → x = y) (xs : List CL) (j : Nat) (hj : j < xs.length) : keeps (xs.map f).toArray j = keeps xs.toArray j := by
  unfold keeps
  have e : ∀ i, i < xs.length → (xs.map f).toArray[i]! = f xs.toArray[i]! := fun i hi => by simp [hi]
  rw [e j hj, e (j - 1) (by omega)]
  rw [Bool.eq_iff_iff]
  simp only [decide_eq_true_eq]
  constructor
  · rintro (h | h)
    · exact .inl h
    · exact .inr fun h' => h (by rw [h'])
  · rintro (h | h)
    · exact .inl h
    · exact .inr fun h' => h (hf _ _ h')
theorem compact_map (f : CL → CL) (hf : ∀ x y, f x = f y → x = y) (xs : List CL) : compactUpTo (xs.map f).toArray (xs.map f).toArray.size = (compactUpTo xs.toArray xs.toArray.size).map f := by
  unfold compactUpTo
  simp only [List.size_toArray, List.length_map, List.map_map]
  rw [List.filter_congr (q := keeps xs.toArray) (fun j hj => keeps_map f hf xs j (by simpa using hj))]
  apply List.map_congr_left
  intro j hj
  have : j < xs.length := by simpa using (List.mem_filter.1 hj).1
  simp [this]
def offs (l h : Int) : List CL :=
  if l = 1 then [mk 0 (-1) 0, mk 1 (-1) 0, mk (-1) 0 0, mk 1 0 0, mk (-1) 1 0, mk 0 1 0]
  else if l = 2 then (if h = 0 then [mk 0 (-1) 1, mk (-1) 0 1, mk 0 0 1] else [mk 0 0 0, mk 1 0 0, mk 0 1 0])
  else if h = 0 then [mk (-1) (-1) 1, mk 0 (-1) 0, mk 0 (-1) 1, mk 1 (-1) 0, mk 1 (-1) 1, mk (-1) 0 0, mk (-1) 0 1, mk 0 0 1, mk 1 0 0, mk (-1) 1 0, mk (-1) 1 1, mk 0 1 0]
  else [mk 0 (-1) 1, mk 1 (-1) 0, mk 1 (-1) 1, mk (-1) 0 1, mk 0 0 0, mk 1 0 0, mk 1 0 1, mk (-1) 1 0, mk (-1) 1 1, mk 0 1 0, mk 0 1 1, mk 1 1 0]
theorem sort_is (xs ys : List CL) (hp : xs.Perm ys) (hs : ys.Pairwise fun x y => (!(ltOf cmpCell) y x) = true) : sortCells xs = ys := by
  have hle : ∀ x y : CL, (!(ltOf cmpCell) y x) = true → (!(ltOf cmpCell) x y) = true → x = y := fun x y h1 h2 => tot_cell x y (by simpa using h2) (by simpa using h1)
  refine List.Perm.eq_of_pairwise (le := fun x y => (!(ltOf cmpCell) y x) = true) (fun a b _ _ => hle a b) (List.pairwise_mergeSort ?_ ?_ xs) hs ((List.mergeSort_perm xs _).trans hp)
  · intro x y z h1 h2
    simp only [lt_cell, Bool.not_eq_true', decide_eq_false_iff_not] at *
    omega
  · intro x y
    simp only [lt_cell, Bool.or_eq_true, Bool.not_eq_true', decide_eq_false_iff_not]
    omega
instance (xs : List CL) : Decidable (xs.Pairwise fun x y => (!(ltOf cmpCell) y x) = true) := inferInstance
theorem base_is (l h : Int) (ys : List CL) (hp : (farL l 0 0 h).Perm ys) (hs : ys.Pairwise fun x y => (!(ltOf cmpCell) y x) = true) : besideL l 0 0 h = compactUpTo ys.toArray ys.toArray.size := by
  unfold besideL
  rw [sort_is _ ys hp hs]
/-- the sorted lists, with those that come twice -/
def dups (h : Int) : List CL := if h = 0 then [mk (-1) (-1) 1, mk 0 (-1) 0, mk 0 (-1) 1, mk 0 (-1) 1, mk 1 (-1) 0, mk 1 (-1) 1, mk (-1) 0 0, mk (-1) 0 1, mk (-1) 0 1, mk 0 0 1, mk 0 0 1, mk 1 0 0, mk (-1) 1 0, mk (-1) 1 1, mk 0 1 0]
  else [mk 0 (-1) 1, mk 1 (-1) 0, mk 1 (-1) 1, mk (-1) 0 1, mk 0 0 0, mk 0 0 0, mk 1 0 0, mk 1 0 0, mk 1 0 1, mk (-1) 1 0, mk (-1) 1 1, mk 0 1 0, mk 0 1 0, mk 0 1 1, mk 1 1 0]
theorem beside_base (l h : Int) (hl : 1 ≤ l) (hl' : l ≤ 3) (h0 : h = 0 ∨ h = 1) (h1 : l = 1 → h = 0) : besideL l 0 0 h = offs l h := by
  have : l = 1 ∨ l = 2 ∨ l = 3 := by omega
  rcases this with rfl | rfl | rfl
  · obtain rfl := h1 rfl
    rw [base_is 1 0 (offs 1 0) (by decide) (by decide)]
    decide
  · rcases h0 with rfl | rfl
    · rw [base_is 2 0 (offs 2 0) (by decide) (by decide)]; decide
    · rw [base_is 2 1 (offs 2 1) (by decide) (by decide)]; decide
  · rcases h0 with rfl | rfl
    · rw [base_is 3 0 (dups 0) (by decide) (by decide)]; decide
    · rw [base_is 3 1 (dups 1) (by decide) (by decide)]; decide
theorem beside_eq (l a b h : Int) (hl : 1 ≤ l) (hl' : l ≤ 3) (h0 : h = 0 ∨ h = 1) (h1 : l = 1 → h = 0) : besideL l a b h = (offs l h).map (sh a b) := by
  rw [← beside_base l h hl hl' h0 h1]
  unfold besideL
  rw [far_sh l a b h h0, sort_sh, compact_map _ (fun x y => sh_inj a b)]
theorem far_ne (l a b h : Int) (hl : 1 ≤ l) (hl' : l ≤ 3) (h0 : h = 0 ∨ h = 1) (h1 : l = 1 → h = 0) : farL l a b h ≠ [] := by
  intro he
  have h2 := beside_eq l a b h hl hl' h0 h1
  unfold besideL at h2
  rw [he] at h2
  have h3 : (offs l h).map (sh a b) = [] := by rw [← h2]; simp [sortCells, compactUpTo]
  unfold offs at h3
  split at h3
  · simp at h3
  · split at h3 <;> split at h3 <;> simp at h3
/-- BESIDE, at a cell that may be. -/
theorem beside_any (l a b h : Int) (w : World) (hG : Six w) (hl : 1 ≤ l) (hl' : l ≤ 3) (h0 : h = 0 ∨ h = 1) (h1 : l = 1 → h = 0) (hg : goodP a b) :
    Calls Tryd.prog 89 #[.int .i64 l, .agg #[.int .i64 a, .int .i64 b, .int .i64 h]] w fun e w' => besideV w' w.heap.size e ((offs l h).map (sh a b)) ∧ Below w.heap.size w w' := by
  have := beside_ok l a b h w hG ?_ hg (by omega) (by omega) (far_ne l a b h hl hl' h0 h1)
  · rwa [beside_eq l a b h hl hl' h0 h1] at this
  · unfold checkR
    rw [if_pos ⟨hl, hl'⟩, if_neg ?_, if_pos hg]
    rcases h0 with rfl | rfl
    · split <;> omega
    · by_cases e : l = 1
      · have := h1 e; omega
      · rw [if_neg e]; omega
set_option maxRecDepth 100000 in
set_option maxHeartbeats 2000000 in
theorem beside_refused (l a b h c : Int) (w : World) (hc : checkR l a b h = some c) :
    Calls Tryd.prog 89 #[.int .i64 l, .agg #[.int .i64 a, .int .i64 b, .int .i64 h]] w fun e w' => e = .returned (.tuple #[.slice none 0 0, errW (some c)]) ∧ Below w.heap.size w w' := by
  have hck := fun W => check_any l a b h W
  simp only [hc, errW_some] at hck ⊢
  go_enter Tryd.func89, Tryd.ntmps89
  go_wp2_with fail
  obtain ⟨w1, hw1, hcc, hsz, hB1⟩ := one_new w #[.int .i64 a, .int .i64 b, .int .i64 h] 65
  rw [← hw1]
  clear hw1
  have d0 : w1.cell? ⟨w.heap.size, 0, none⟩ = some (.int .i64 a) := hcc 0 _ rfl
  have d1 : w1.cell? ⟨w.heap.size, 1, none⟩ = some (.int .i64 b) := hcc 1 _ rfl
  have d2 : w1.cell? ⟨w.heap.size, 2, none⟩ = some (.int .i64 h) := hcc 2 _ rfl
  have HB1 := Aside0.mk hB1
  clear hcc hB1
  go_wp2_with (go_at_call 81; refine (hck _).mono ?_; rintro e w2 ⟨rfl, hb2⟩; have HB2 := Aside0.mk (HB1.out.trans (hb2.mono HB1.out.size)); clear hb2)
  go_ret2
  exact ⟨rfl, HB2.out⟩
/-- those beside a cell, or the code -/
def XBeside.f (l a b h : Int) : Option (List S65 × Option Int) :=
  some (match checkR l a b h with
    | some c => ([], some c)
    | none => if ((offs l h).map (sh a b)).all (fun x => decide (goodP x.f0.f0 x.f0.f1)) = true then ((offs l h).map (sh a b), none) else ([], some 6))
theorem XBeside.calls (a0 : Int) (a1_0 : Int) (a1_1 : Int) (a1_2 : Int) (r1 : List S65) (r2 : Option Int) (w : World) (hGSix : Six w) (h : XBeside.f a0 a1_0 a1_1 a1_2 = some (r1, r2)) :
    Calls Tryd.prog 89 #[.int .i64 a0, .agg #[.int .i64 a1_0, .int .i64 a1_1, .int .i64 a1_2]] w fun e w' => ∃ v0_ : Value, e = .returned (.tuple #[v0_, errW r2]) ∧ Kd.R k65 65 w' w.heap.size (fun _ => True) v0_ r1 ∧ Below w.heap.size w w' := by
  have h' := Option.some.inj h
  clear h
  cases hc : checkR a0 a1_0 a1_1 a1_2 with
  | some c =>
    rw [hc] at h'
    obtain ⟨rfl, rfl⟩ := Prod.mk.inj h'
    exact (beside_refused _ _ _ _ c w hc).mono fun e w' ⟨he, hb⟩ => ⟨_, he, Kd.R_nil _ _ _ _ _, hb⟩
  | none =>
    rw [hc] at h'
    obtain ⟨q1, q2, q3, q4, q5⟩ := checkR_ok hc
    refine (beside_any a0 a1_0 a1_1 a1_2 w hGSix q1 q2 q4 q5 q3).mono ?_
    rintro e w' ⟨hv, hb⟩
    by_cases hall : ((offs a0 a1_2).map (sh a1_0 a1_1)).all (fun x => decide (goodP x.f0.f0 x.f0.f1)) = true
    · simp only [hall, ↓reduceIte] at h'
      obtain ⟨rfl, rfl⟩ := Prod.mk.inj h'
      rcases hv with ⟨_, v, rfl, hR⟩ | ⟨hbad, _⟩
      · exact ⟨v, rfl, hR, hb⟩
      · exact absurd (fun x hx => of_decide_eq_true (List.all_eq_true.1 hall x hx)) hbad
    · simp only [hall] at h'
      obtain ⟨rfl, rfl⟩ := Prod.mk.inj h'
      rcases hv with ⟨hgood, _⟩ | ⟨_, rfl⟩
      · exact absurd (List.all_eq_true.2 fun x hx => decide_eq_true (hgood x hx)) hall
      · exact ⟨_, rfl, Kd.R_nil _ _ _ _ _, hb⟩
end Go.Proofs.YtaeenefdbahfoaaDoor
