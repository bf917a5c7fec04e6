/- Parts of the proof (FlatOne), merged out of our texts by wip/tools/pack.py: Hhoneycomblaw08Few, XSome5, Plus, App2, OnT, OpOn, OnP, Each, Shift0, PSteps, WGuard, XClasses, XLetter, HTab. -/
import Derived.Test.YtaeenefdbahfoaaDoorKFlatOne1
import Derived.Test.YtaeenefdbahfoaaDoorKFlatOne5
import Derived.Test.YtaeenefdbahfoaaDoorKFlatOne2
import Derived.Test.YtaeenefdbahfoaaDoorKFlatOne3
import Derived.Test.YtaeenefdbahfoaaDoorKFlatOne4
import Derived.Test.YtaeenefdbahfoaaDoorKFlatOne0
import Derived.Laws.RangeString
namespace Go.Proofs.YtaeenefdbahfoaaDoor.H
open Go.RowKit Go.Proofs.YtaeenefdbahfoaaDoorW.PrintWords Go.Proofs.YtaeenefdbahfoaaDoorW.PrintLast Go.Proofs.YtaeenefdbahfoaaDoorW.PrintMore
attribute [local go_sem] max2_int min2_int max_two min_two max_three min_three max_four min_four   -- for this text's walks alone
set_option linter.unusedVariables false
set_option linter.unusedSimpArgs false
def honeycomblaw08_Few.l0 : Nat → Int → List (S60) → List (S60) → Int → Option ((List (S65)))
 | 0, _, _, _, _ => none
 | k + 1, x0, x1, x5, x6 => if x6 < (x1.length : Int) then (if x6 < 16 then (if 0 ≤ x6 then (if x5.length < 5864062014805 then (honeycomblaw08_Few.l0 k x0 x1 (x5 ++ [(⟨Int.tmod ((rd_T60 x1 x6).f0) 7, Int.tmod ((rd_T60 x1 x6).f1) 7, (rd_T60 x1 x6).f2⟩ : S60)]) (wrap64 (x6 + 1))) else (none)) else (none)) else ((honeycomblaw04_Some.f k x0 x5).bind fun t331 => (some t331))) else ((honeycomblaw04_Some.f k x0 x5).bind fun t334 => (some t334))
def honeycomblaw08_Few.f (k : Nat) (a0 : Int) (l1 : List (S60)) : Option ((List (S65))) := honeycomblaw08_Few.l0 k a0 l1 (([] : List (S60))) 0
def honeycomblaw08_Few.T5 : Bool × List (List Nat × List Nat) := (true, [([], []), ([], []), ([], []), ([1, 2], [1, 2]), ([3], [3]), ([4], [4]), ([5], [5]), ([], []), ([], []), ([7, 8], [7, 8]), ([9], [9]), ([10], [10]), ([11], [11]), ([], []), ([], []), ([13, 14], [13, 14]), ([15], [15]), ([16], [16]), ([6, 12, 17], [6, 12, 17]), ([18], [18]), ([0, 19], [0, 19]), ([20, 20, 0, 1, 2, 3, 4, 5, 6, 7, 8, 9, 10, 11, 12, 13, 14, 15, 16, 17, 18, 19, 20], [0, 20])])
def honeycomblaw08_Few.B5 : List Nat := [0, 0, 0, 6, 14, 30, 62, 0, 0, 384, 896, 1920, 3968, 0, 0, 24576, 57344, 122880, 262142, 524286, 1048575, 2097151]
theorem honeycomblaw08_Few.tab5 : rtab .any (opsOf Tryd.f21 5) = honeycomblaw08_Few.T5 := by kernel_rfl
theorem honeycomblaw08_Few.bits5 : waitsOk honeycomblaw08_Few.T5.2 honeycomblaw08_Few.B5 = true := by kernel_rfl
set_option maxHeartbeats 8000000 in
set_option maxRecDepth 100000 in
theorem honeycomblaw08_Few.calls (k : Nat) (a0 : Int) (A1 : Option Addr) (c1 : Nat) (l1 : List (S60)) (r : List (S65)) (w : World) (hr1 : Kd.C k60 w A1 l1.length l1) (hc1 : l1.length ≤ c1) (h : honeycomblaw08_Few.f k a0 l1 = some r) :
  Calls Tryd.prog 21 #[.int .i64 a0, .slice A1 l1.length c1] w fun e w' => ∃ v0_ : Value, e = .returned (v0_) ∧ Kd.R k65 65 w' w.heap.size (fun _ => True) v0_ r ∧ Below w.heap.size w w' := by
 have hu60 := Tryd.underlying60
 have HR1 := Aside0.mk hr1
 have HC1 := Aside0.mk hc1
 clear hr1 hc1
 have HB := Aside0.mk (Below.refl w.heap.size w)
 have H : (honeycomblaw08_Few.l0 k a0 l1 (([] : List (S60))) 0) = some r := h
 clear h
 obtain ⟨y322, hy322⟩ : ∃ y_ : List (S60), y_ = (([] : List (S60))) := ⟨_, rfl⟩
 replace H : (honeycomblaw08_Few.l0 k a0 l1 y322 0) = some r := by first | (rw [hy322]; with_reducible exact H) | (have H2_ := (Option.bind_some _ _).symm.trans H; rw [hy322]; with_reducible exact H2_) | (have H2_ := (Option.bind_some _ _).symm.trans H; with_reducible exact H2_) | with_reducible exact H | (rw [hy322]; exact H) | exact H
 have Ny322 := Aside0.mk hy322
 clear hy322
 have H' := Aside0.mk H
 clear H
 go_enter Tryd.func21, Tryd.ntmps21
 go_wp2_with (first | ((with_reducible refine gate_dst (N := 7) rfl ?_); refine Kd.R_lit k60 _ 60 ?hg (N := 7) ?hd (xs := ([] : List (S60))) (inner := []) (ok := fun _ => True) (okp := fun _ => True) ?hr ?hp (fun _ hk => hk) trivial (Below.refl _ _) (Nat.le_refl _) (by simp) ?_; (case hd => rfl); (case hg => rfl); (case hr => first | (go_simp; done) | (go_simp; rfl)); (case hp => exact (Reps.none _ _)); intro v323 w3 ho4 hb hg_ hnew_; clear hg_ hnew_; (first | rw [← Ny322.out] at ho4 | (simp only [Int.reduceToNat] at ho4; rw [← Ny322.out] at ho4)); have n0_ := Aside0.mk (Kd.R_lower ho4 (below_size (by repeat (first | (with_reducible first | exact HB.out | apply ba_ | apply bn_ | apply bd_) | exact HB.out)))); have n1_ := Aside0.mk (below_step (by repeat (first | (with_reducible first | exact HB.out | apply ba_ | apply bn_ | apply bd_) | exact HB.out)) hb); clear HB; have HO324 := n0_; have HB := n1_; clear n0_ n1_; clear hb ho4))
 go_loopg [5, 6] k (fun kq v5 v6 w' => ∃ (x5_1 : List (S60)) (x6_1 : Int), v6 = .int .i64 x6_1 ∧ Aside0 (honeycomblaw08_Few.l0 kq a0 l1 x5_1 x6_1 = some r) ∧ Aside0 (kq ≤ k) ∧ Aside0 (Kd.R k60 60 w' w.heap.size (fun _ => True) v5 x5_1) ∧ Aside0 (Below w.heap.size w w'))
 case atStart => exact ⟨(y322), (0), (by first | rfl | (simp; done) | (simp [*]; done)), H', ⟨Nat.le_refl _⟩, ⟨by (with_reducible repeat (first | apply Kd.R_alloc | apply Kd.R_drewN | apply Kd.R_drew)); exact HO324.out⟩, ⟨by repeat (first | (with_reducible first | exact HB.out | apply ba_ | apply bn_ | apply bd_) | exact HB.out)⟩⟩
 case round =>
  clear H'
  try clear c1
  try clear c2
  try clear p2
  obtain ⟨x5_1, x6_1, rfl, HA, HK1, HO_5, HB⟩ := hrel
  cases gk with
  | zero => exact absurd HA.out (by simp [honeycomblaw08_Few.l0])
  | succ k1 =>
   have H := HA.out
   clear HA
   simp only [honeycomblaw08_Few.l0] at H
   by_cases c5 : x6_1 < (l1.length : Int)
   ·
    rw [if_pos c5] at H
    have c5b0 : decide (x6_1 < (l1.length : Int)) = true := decide_eq_true c5
    clear c5
    by_cases c6 : x6_1 < 16
    ·
     rw [if_pos c6] at H
     have c6b0 : decide (x6_1 < 16) = true := decide_eq_true c6
     clear c6
     by_cases c7 : 0 ≤ x6_1
     ·
      rw [if_pos c7] at H
      have c7b0 : decide (0 ≤ x6_1) = true := decide_eq_true c7
      clear c7
      by_cases c8 : x5_1.length < 5864062014805
      ·
       rw [if_pos c8] at H
       have LMc8 := Aside0.mk c8
       clear c8
       obtain ⟨y328, hy328⟩ : ∃ y_ : List (S60), y_ = (x5_1 ++ [(⟨Int.tmod ((rd_T60 l1 x6_1).f0) 7, Int.tmod ((rd_T60 l1 x6_1).f1) 7, (rd_T60 l1 x6_1).f2⟩ : S60)]) := ⟨_, rfl⟩
       replace H : (honeycomblaw08_Few.l0 k1 a0 l1 y328 (wrap64 (x6_1 + 1))) = some r := by first | (rw [hy328]; with_reducible exact H) | (have H2_ := (Option.bind_some _ _).symm.trans H; rw [hy328]; with_reducible exact H2_) | (have H2_ := (Option.bind_some _ _).symm.trans H; with_reducible exact H2_) | with_reducible exact H | (rw [hy328]; exact H) | exact H
       have Ny328 := Aside0.mk hy328
       clear hy328
       have H' := Aside0.mk H
       clear H
       try go_wp2
       have n0_ := Aside0.mk (Kd.R_drew HO_5.out)
       have n1_ := Aside0.mk (below_drew1 HB.out)
       clear HO_5
       clear HB
       have HO_5 := n0_
       have HB := n1_
       clear n0_ n1_
       have p325 : 0 ≤ (x6_1 : Int) := of_decide_eq_true (by first | (with_reducible assumption) | assumption)
       have q325 : x6_1 < (l1.length : Int) := of_decide_eq_true (by first | (with_reducible assumption) | assumption)
       obtain ⟨ad325, e325, hx325_0, hx325_1, hx325_2⟩ := at_T60 HR1.out x6_1 p325 q325
       have hw325_2 := hx325_2
       have hw325_1 := hx325_1
       have hw325_0 := hx325_0
       cases e325
       try replace hx325_0 := (HB.out.cell (World.block_lt_of_cell? w _ hx325_0)).trans hx325_0
       try replace hx325_1 := (HB.out.cell (World.block_lt_of_cell? w _ hx325_1)).trans hx325_1
       try replace hx325_2 := (HB.out.cell (World.block_lt_of_cell? w _ hx325_2)).trans hx325_2
       replace p325 := eq_true p325
       replace q325 := eq_true q325
       have p326 : 0 ≤ (x6_1 : Int) := of_decide_eq_true (by first | (with_reducible assumption) | assumption)
       have q326 : x6_1 < (l1.length : Int) := of_decide_eq_true (by first | (with_reducible assumption) | assumption)
       obtain ⟨ad326, e326, hx326_0, hx326_1, hx326_2⟩ := at_T60 HR1.out x6_1 p326 q326
       have hw326_2 := hx326_2
       have hw326_1 := hx326_1
       have hw326_0 := hx326_0
       obtain rfl : ad325 = ad326 := (by injection e326)
       try replace hx326_0 := (HB.out.cell (World.block_lt_of_cell? w _ hx326_0)).trans hx326_0
       try replace hx326_1 := (HB.out.cell (World.block_lt_of_cell? w _ hx326_1)).trans hx326_1
       try replace hx326_2 := (HB.out.cell (World.block_lt_of_cell? w _ hx326_2)).trans hx326_2
       replace p326 := eq_true p326
       replace q326 := eq_true q326
       have p327 : 0 ≤ (x6_1 : Int) := of_decide_eq_true (by first | (with_reducible assumption) | assumption)
       have q327 : x6_1 < (l1.length : Int) := of_decide_eq_true (by first | (with_reducible assumption) | assumption)
       obtain ⟨ad327, e327, hx327_0, hx327_1, hx327_2⟩ := at_T60 HR1.out x6_1 p327 q327
       have hw327_2 := hx327_2
       have hw327_1 := hx327_1
       have hw327_0 := hx327_0
       obtain rfl : ad325 = ad327 := (by injection e327)
       try replace hx327_0 := (HB.out.cell (World.block_lt_of_cell? w _ hx327_0)).trans hx327_0
       try replace hx327_1 := (HB.out.cell (World.block_lt_of_cell? w _ hx327_1)).trans hx327_1
       try replace hx327_2 := (HB.out.cell (World.block_lt_of_cell? w _ hx327_2)).trans hx327_2
       replace p327 := eq_true p327
       replace q327 := eq_true q327
       refine start_ (n := 22) (S := fun w' => w'.cell? (ad325.add ((x6_1).toNat * 3)) = some (.int .i64 ((rd_T60 l1 x6_1).f0)) ∧ w'.cell? ⟨(ad325.add ((x6_1).toNat * 3)).block, (ad325.add ((x6_1).toNat * 3)).off + 1, none⟩ = some (.int .i64 ((rd_T60 l1 x6_1).f1)) ∧ w'.cell? ⟨(ad325.add ((x6_1).toNat * 3)).block, (ad325.add ((x6_1).toNat * 3)).off + 2, none⟩ = some (.int .i64 ((rd_T60 l1 x6_1).f2)) ∧ w'.cell? (ad325.add ((x6_1).toNat * 3)) = some (.int .i64 ((rd_T60 l1 x6_1).f0)) ∧ w'.cell? ⟨(ad325.add ((x6_1).toNat * 3)).block, (ad325.add ((x6_1).toNat * 3)).off + 1, none⟩ = some (.int .i64 ((rd_T60 l1 x6_1).f1)) ∧ w'.cell? ⟨(ad325.add ((x6_1).toNat * 3)).block, (ad325.add ((x6_1).toNat * 3)).off + 2, none⟩ = some (.int .i64 ((rd_T60 l1 x6_1).f2)) ∧ w'.cell? (ad325.add ((x6_1).toNat * 3)) = some (.int .i64 ((rd_T60 l1 x6_1).f0)) ∧ w'.cell? ⟨(ad325.add ((x6_1).toNat * 3)).block, (ad325.add ((x6_1).toNat * 3)).off + 1, none⟩ = some (.int .i64 ((rd_T60 l1 x6_1).f1)) ∧ w'.cell? ⟨(ad325.add ((x6_1).toNat * 3)).block, (ad325.add ((x6_1).toNat * 3)).off + 2, none⟩ = some (.int .i64 ((rd_T60 l1 x6_1).f2))) (ds := []) #[false, false, false, false, false, false, false, false, false, false, false, false, false, false, false, false, false, false, false, false, false, false] (by kernel_rfl) rfl rfl ⟨((HB.out.cell (World.block_lt_of_cell? w _ hw325_0)).trans hw325_0), ((HB.out.cell (World.block_lt_of_cell? w _ hw325_1)).trans hw325_1), ((HB.out.cell (World.block_lt_of_cell? w _ hw325_2)).trans hw325_2), ((HB.out.cell (World.block_lt_of_cell? w _ hw326_0)).trans hw326_0), ((HB.out.cell (World.block_lt_of_cell? w _ hw326_1)).trans hw326_1), ((HB.out.cell (World.block_lt_of_cell? w _ hw326_2)).trans hw326_2), ((HB.out.cell (World.block_lt_of_cell? w _ hw327_0)).trans hw327_0), ((HB.out.cell (World.block_lt_of_cell? w _ hw327_1)).trans hw327_1), ((HB.out.cell (World.block_lt_of_cell? w _ hw327_2)).trans hw327_2)⟩ (fun hHeld => ?_); refine with_tabW honeycomblaw08_Few.tab5 honeycomblaw08_Few.bits5 (fun HT_ HW_ => ?_)
       generalize wr.drew = w9 at HO_5 HB hx325_0 hx325_1 hx325_2 hx326_0 hx326_1 hx326_2 hx327_0 hx327_1 hx327_2 hHeld ⊢
       refine pure_ (i := 0) (N := some 18) (v := ?_) (a' := ?_) #[true, false, false, false, false, false, false, false, false, false, false, false, false, false, false, false, false, false, false, false, false, false] rfl rfl (any_of HT_.out (by kernel_rfl)) (fun _ _ _ h => h) (Or.inl ⟨by rfl, ?_⟩) ?_ ?_
       rotate_left
       ·
        intro w'
        go_simp
        with_reducible rfl
       rotate_left
       ·
        simp only [Act.put, List.setIfInBounds_toArray, List.set_cons_zero, List.set_cons_succ, i64_w, i32_w]
        rfl
       refine pure_ (i := 1) (N := some 19) (v := ?_) (a' := ?_) #[true, true, false, false, false, false, false, false, false, false, false, false, false, false, false, false, false, false, false, false, false, false] rfl rfl (any_of HT_.out (by kernel_rfl)) (fun _ _ _ h => h) (Or.inl ⟨by rfl, ?_⟩) ?_ ?_
       rotate_left
       ·
        intro w'
        go_simp
        with_reducible rfl
       rotate_left
       ·
        simp only [Act.put, List.setIfInBounds_toArray, List.set_cons_zero, List.set_cons_succ, i64_w, i32_w]
        rfl
       refine pure_ (i := 2) (N := some 20) (v := ?_) (a' := ?_) #[true, true, true, false, false, false, false, false, false, false, false, false, false, false, false, false, false, false, false, false, false, false] rfl rfl (any_of HT_.out (by kernel_rfl)) (fun _ _ _ h => h) (Or.inl ⟨by rfl, ?_⟩) ?_ ?_
       rotate_left
       ·
        intro w'
        go_simp
        with_reducible rfl
       rotate_left
       ·
        simp only [Act.put, List.setIfInBounds_toArray, List.set_cons_zero, List.set_cons_succ, i64_w, i32_w]
        rfl
       refine pure_ (i := 3) (N := some 21) (v := ?_) (a' := ?_) #[true, true, true, true, false, false, false, false, false, false, false, false, false, false, false, false, false, false, false, false, false, false] rfl rfl (any_of HT_.out (by kernel_rfl)) (fun _ _ _ h => h) (Or.inl ⟨by rfl, ?_⟩) ?_ ?_
       rotate_left
       ·
        intro w'
        go_simp
        with_reducible rfl
       rotate_left
       ·
        simp only [Act.put, List.setIfInBounds_toArray, List.set_cons_zero, List.set_cons_succ, i64_w, i32_w]
        rfl
       refine pure_ (i := 4) (N := some 22) (v := ?_) (a' := ?_) #[true, true, true, true, true, false, false, false, false, false, false, false, false, false, false, false, false, false, false, false, false, false] rfl rfl (any_of HT_.out (by kernel_rfl)) (fun _ _ _ h => h) (Or.inl ⟨by rfl, ?_⟩) ?_ ?_
       rotate_left
       ·
        intro w'
        go_simp
        with_reducible rfl
       rotate_left
       ·
        simp only [Act.put, List.setIfInBounds_toArray, List.set_cons_zero, List.set_cons_succ, i64_w, i32_w]
        rfl
       refine pure_ (i := 7) (N := some 25) (v := ?_) (a' := ?_) #[true, true, true, true, true, false, false, true, false, false, false, false, false, false, false, false, false, false, false, false, false, false] rfl rfl (any_of HT_.out (by kernel_rfl)) (fun _ _ _ h => h) (Or.inl ⟨by rfl, ?_⟩) ?_ ?_
       rotate_left
       ·
        intro w'
        go_simp
        with_reducible rfl
       rotate_left
       ·
        simp only [Act.put, List.setIfInBounds_toArray, List.set_cons_zero, List.set_cons_succ, i64_w, i32_w]
        rfl
       refine pure_ (i := 8) (N := some 26) (v := ?_) (a' := ?_) #[true, true, true, true, true, false, false, true, true, false, false, false, false, false, false, false, false, false, false, false, false, false] rfl rfl (any_of HT_.out (by kernel_rfl)) (fun _ _ _ h => h) (Or.inl ⟨by rfl, ?_⟩) ?_ ?_
       rotate_left
       ·
        intro w'
        go_simp
        with_reducible rfl
       rotate_left
       ·
        simp only [Act.put, List.setIfInBounds_toArray, List.set_cons_zero, List.set_cons_succ, i64_w, i32_w]
        rfl
       refine pure_ (i := 9) (N := some 27) (v := ?_) (a' := ?_) #[true, true, true, true, true, false, false, true, true, true, false, false, false, false, false, false, false, false, false, false, false, false] rfl rfl (any_of HT_.out (by kernel_rfl)) (fun _ _ _ h => h) (Or.inl ⟨by rfl, ?_⟩) ?_ ?_
       rotate_left
       ·
        intro w'
        go_simp
        with_reducible rfl
       rotate_left
       ·
        simp only [Act.put, List.setIfInBounds_toArray, List.set_cons_zero, List.set_cons_succ, i64_w, i32_w]
        rfl
       refine pure_ (i := 10) (N := some 28) (v := ?_) (a' := ?_) #[true, true, true, true, true, false, false, true, true, true, true, false, false, false, false, false, false, false, false, false, false, false] rfl rfl (any_of HT_.out (by kernel_rfl)) (fun _ _ _ h => h) (Or.inl ⟨by rfl, ?_⟩) ?_ ?_
       rotate_left
       ·
        intro w'
        go_simp
        with_reducible rfl
       rotate_left
       ·
        simp only [Act.put, List.setIfInBounds_toArray, List.set_cons_zero, List.set_cons_succ, i64_w, i32_w]
        rfl
       refine pure_ (i := 13) (N := some 31) (v := ?_) (a' := ?_) #[true, true, true, true, true, false, false, true, true, true, true, false, false, true, false, false, false, false, false, false, false, false] rfl rfl (any_of HT_.out (by kernel_rfl)) (fun _ _ _ h => h) (Or.inl ⟨by rfl, ?_⟩) ?_ ?_
       rotate_left
       ·
        intro w'
        go_simp
        with_reducible rfl
       rotate_left
       ·
        simp only [Act.put, List.setIfInBounds_toArray, List.set_cons_zero, List.set_cons_succ, i64_w, i32_w]
        rfl
       refine pure_ (i := 14) (N := some 32) (v := ?_) (a' := ?_) #[true, true, true, true, true, false, false, true, true, true, true, false, false, true, true, false, false, false, false, false, false, false] rfl rfl (any_of HT_.out (by kernel_rfl)) (fun _ _ _ h => h) (Or.inl ⟨by rfl, ?_⟩) ?_ ?_
       rotate_left
       ·
        intro w'
        go_simp
        with_reducible rfl
       rotate_left
       ·
        simp only [Act.put, List.setIfInBounds_toArray, List.set_cons_zero, List.set_cons_succ, i64_w, i32_w]
        rfl
       refine pure_ (i := 15) (N := some 33) (v := ?_) (a' := ?_) #[true, true, true, true, true, false, false, true, true, true, true, false, false, true, true, true, false, false, false, false, false, false] rfl rfl (any_of HT_.out (by kernel_rfl)) (fun _ _ _ h => h) (Or.inl ⟨by rfl, ?_⟩) ?_ ?_
       rotate_left
       ·
        intro w'
        go_simp
        with_reducible rfl
       rotate_left
       ·
        simp only [Act.put, List.setIfInBounds_toArray, List.set_cons_zero, List.set_cons_succ, i64_w, i32_w]
        rfl
       refine pure_ (i := 16) (N := some 34) (v := ?_) (a' := ?_) #[true, true, true, true, true, false, false, true, true, true, true, false, false, true, true, true, true, false, false, false, false, false] rfl rfl (any_of HT_.out (by kernel_rfl)) (fun _ _ _ h => h) (Or.inl ⟨by rfl, ?_⟩) ?_ ?_
       rotate_left
       ·
        intro w'
        go_simp
        with_reducible rfl
       rotate_left
       ·
        simp only [Act.put, List.setIfInBounds_toArray, List.set_cons_zero, List.set_cons_succ, i64_w, i32_w]
        rfl
       refine take_ (i := 5) (N := some 23) (v := ?_) (a' := ?_) #[true, true, true, true, true, true, false, true, true, true, true, false, false, true, true, true, true, false, false, false, false, false] rfl rfl (take_ofW HT_.out HW_.out (by kernel_rfl)) (fun _ _ _ h => h) (Or.inl ⟨by rfl, ?_⟩) hHeld ?_ ?_
       rotate_left
       ·
        rintro w' ⟨s0, s1, s2, s3, s4, s5, s6, s7, s8⟩
        go_simp
        with_reducible rfl
       rotate_left
       ·
        simp only [Act.put, List.setIfInBounds_toArray, List.set_cons_zero, List.set_cons_succ, i64_w, i32_w]
        rfl
       refine pure_ (i := 6) (N := some 24) (v := ?_) (a' := ?_) #[true, true, true, true, true, true, true, true, true, true, true, false, false, true, true, true, true, false, false, false, false, false] rfl rfl (any_of HT_.out (by kernel_rfl)) (fun _ _ _ h => h) (Or.inl ⟨by rfl, ?_⟩) ?_ ?_
       rotate_left
       ·
        intro w'
        go_simp
        with_reducible rfl
       rotate_left
       ·
        simp only [Act.put, List.setIfInBounds_toArray, List.set_cons_zero, List.set_cons_succ, i64_w, i32_w]
        rfl
       refine take_ (i := 11) (N := some 29) (v := ?_) (a' := ?_) #[true, true, true, true, true, true, true, true, true, true, true, true, false, true, true, true, true, false, false, false, false, false] rfl rfl (take_ofW HT_.out HW_.out (by kernel_rfl)) (fun _ _ _ h => h) (Or.inl ⟨by rfl, ?_⟩) hHeld ?_ ?_
       rotate_left
       ·
        rintro w' ⟨s0, s1, s2, s3, s4, s5, s6, s7, s8⟩
        go_simp
        with_reducible rfl
       rotate_left
       ·
        simp only [Act.put, List.setIfInBounds_toArray, List.set_cons_zero, List.set_cons_succ, i64_w, i32_w]
        rfl
       refine pure_ (i := 12) (N := some 30) (v := ?_) (a' := ?_) #[true, true, true, true, true, true, true, true, true, true, true, true, true, true, true, true, true, false, false, false, false, false] rfl rfl (any_of HT_.out (by kernel_rfl)) (fun _ _ _ h => h) (Or.inl ⟨by rfl, ?_⟩) ?_ ?_
       rotate_left
       ·
        intro w'
        go_simp
        with_reducible rfl
       rotate_left
       ·
        simp only [Act.put, List.setIfInBounds_toArray, List.set_cons_zero, List.set_cons_succ, i64_w, i32_w]
        rfl
       refine take_ (i := 17) (N := some 35) (v := ?_) (a' := ?_) #[true, true, true, true, true, true, true, true, true, true, true, true, true, true, true, true, true, true, false, false, false, false] rfl rfl (take_ofW HT_.out HW_.out (by kernel_rfl)) (fun _ _ _ h => h) (Or.inl ⟨by rfl, ?_⟩) hHeld ?_ ?_
       rotate_left
       ·
        rintro w' ⟨s0, s1, s2, s3, s4, s5, s6, s7, s8⟩
        go_simp
        with_reducible rfl
       rotate_left
       ·
        simp only [Act.put, List.setIfInBounds_toArray, List.set_cons_zero, List.set_cons_succ, i64_w, i32_w]
        rfl
       refine pure_ (i := 18) (N := some 36) (v := ?_) (a' := ?_) #[true, true, true, true, true, true, true, true, true, true, true, true, true, true, true, true, true, true, true, false, false, false] rfl rfl (any_of HT_.out (by kernel_rfl)) (fun _ _ _ h => h) (Or.inl ⟨by rfl, ?_⟩) ?_ ?_
       rotate_left
       ·
        intro w'
        go_simp
        with_reducible rfl
       rotate_left
       ·
        simp only [Act.put, List.setIfInBounds_toArray, List.set_cons_zero, List.set_cons_succ, i64_w, i32_w]
        rfl
       refine one_ (i := 19) (N := some 37) #[true, true, true, true, true, true, true, true, true, true, true, true, true, true, true, true, true, true, true, true, false, false] rfl rfl (one_of HT_.out (by kernel_rfl)) (by decide) (fun K hK => ?_)
       refine value_ (w1 := ?_) (v := ?_) (by rfl) rfl ?_ ?_
       rotate_left 2
       ·
        go_simp
        constructor
        ·
         rfl
        ·
         rfl
       refine hK.out _ _ ⟨(World.cell?_alloc_lt _ _ _ (World.block_lt_of_cell? _ _ (((HB.out.cell (World.block_lt_of_cell? w _ hw325_0)).trans hw325_0)))).trans (((HB.out.cell (World.block_lt_of_cell? w _ hw325_0)).trans hw325_0)), (World.cell?_alloc_lt _ _ _ (World.block_lt_of_cell? _ _ (((HB.out.cell (World.block_lt_of_cell? w _ hw325_1)).trans hw325_1)))).trans (((HB.out.cell (World.block_lt_of_cell? w _ hw325_1)).trans hw325_1)), (World.cell?_alloc_lt _ _ _ (World.block_lt_of_cell? _ _ (((HB.out.cell (World.block_lt_of_cell? w _ hw325_2)).trans hw325_2)))).trans (((HB.out.cell (World.block_lt_of_cell? w _ hw325_2)).trans hw325_2)), (World.cell?_alloc_lt _ _ _ (World.block_lt_of_cell? _ _ (((HB.out.cell (World.block_lt_of_cell? w _ hw326_0)).trans hw326_0)))).trans (((HB.out.cell (World.block_lt_of_cell? w _ hw326_0)).trans hw326_0)), (World.cell?_alloc_lt _ _ _ (World.block_lt_of_cell? _ _ (((HB.out.cell (World.block_lt_of_cell? w _ hw326_1)).trans hw326_1)))).trans (((HB.out.cell (World.block_lt_of_cell? w _ hw326_1)).trans hw326_1)), (World.cell?_alloc_lt _ _ _ (World.block_lt_of_cell? _ _ (((HB.out.cell (World.block_lt_of_cell? w _ hw326_2)).trans hw326_2)))).trans (((HB.out.cell (World.block_lt_of_cell? w _ hw326_2)).trans hw326_2)), (World.cell?_alloc_lt _ _ _ (World.block_lt_of_cell? _ _ (((HB.out.cell (World.block_lt_of_cell? w _ hw327_0)).trans hw327_0)))).trans (((HB.out.cell (World.block_lt_of_cell? w _ hw327_0)).trans hw327_0)), (World.cell?_alloc_lt _ _ _ (World.block_lt_of_cell? _ _ (((HB.out.cell (World.block_lt_of_cell? w _ hw327_1)).trans hw327_1)))).trans (((HB.out.cell (World.block_lt_of_cell? w _ hw327_1)).trans hw327_1)), (World.cell?_alloc_lt _ _ _ (World.block_lt_of_cell? _ _ (((HB.out.cell (World.block_lt_of_cell? w _ hw327_2)).trans hw327_2)))).trans (((HB.out.cell (World.block_lt_of_cell? w _ hw327_2)).trans hw327_2))⟩ (fun hHeld => ?_)
       clear hK K
       refine norm_ (a' := ?_) ?_ ?_
       rotate_left
       ·
        show Act.put _ (some 37) _ = _
        simp only [Act.put, List.setIfInBounds_toArray, List.set_cons_zero, List.set_cons_succ, i64_w, i32_w]
        rfl
       refine one_ (i := 20) (N := some 38) #[true, true, true, true, true, true, true, true, true, true, true, true, true, true, true, true, true, true, true, true, true, false] rfl rfl (one_of HT_.out (by kernel_rfl)) (by decide) (fun K hK => ?_)
       refine Kd.R_append_step k60 (w0 := w) w.heap.size (by rfl) (.tmp 18) (.tmp 37) 45 60 (.agg #[(.int .i64 0), (.int .i64 0), (.int .i64 0)]) 24 rfl Tryd.underlying45 info60 rfl (by decide) (by omega) u5 x5_1 (⟨Int.tmod ((rd_T60 l1 x6_1).f0) 7, Int.tmod ((rd_T60 l1 x6_1).f1) 7, (rd_T60 l1 x6_1).f2⟩ : S60) [.int .i64 (Int.tmod ((rd_T60 l1 x6_1).f0) 7), .int .i64 (Int.tmod ((rd_T60 l1 x6_1).f1) 7), .int .i64 ((rd_T60 l1 x6_1).f2)] (fun _ => True) (fun _ => False) rfl rfl ?aP (fun _ hk => hk.elim) ?aF ?aO ?aB ?aS ?aL ?_
       (case aP => exact k60_mkM _ _ _ (⟨Int.tmod ((rd_T60 l1 x6_1).f0) 7, Int.tmod ((rd_T60 l1 x6_1).f1) 7, (rd_T60 l1 x6_1).f2⟩ : S60))
       (case aB => exact (by repeat (first | (with_reducible first | exact HB.out | apply ba_ | apply bn_ | apply bd_) | exact HB.out)))
       (case aF => exact (fun _ _ => trivial))
       (case aO => exact (by (with_reducible repeat (first | apply Kd.R_alloc | apply Kd.R_drewN | apply Kd.R_drew)); exact HO_5.out))
       (case aS => exact (below_size (by repeat (first | (with_reducible first | exact HB.out | apply ba_ | apply bn_ | apply bd_) | exact HB.out))))
       (case aL => have := LMc8.out; omega)
       intro v329 w10 ho hb hg hat
       rw [← Ny328.out] at ho
       have n0_ := Aside0.mk (hb)
       have n1_ := Aside0.mk (ho)
       clear HB
       clear HO_5
       have HB := n0_
       have HO330 := n1_
       clear n0_ n1_
       clear ho hb hg hat
       refine hK.out _ _ ⟨((HB.out.cell (World.block_lt_of_cell? w _ hw325_0)).trans hw325_0), ((HB.out.cell (World.block_lt_of_cell? w _ hw325_1)).trans hw325_1), ((HB.out.cell (World.block_lt_of_cell? w _ hw325_2)).trans hw325_2), ((HB.out.cell (World.block_lt_of_cell? w _ hw326_0)).trans hw326_0), ((HB.out.cell (World.block_lt_of_cell? w _ hw326_1)).trans hw326_1), ((HB.out.cell (World.block_lt_of_cell? w _ hw326_2)).trans hw326_2), ((HB.out.cell (World.block_lt_of_cell? w _ hw327_0)).trans hw327_0), ((HB.out.cell (World.block_lt_of_cell? w _ hw327_1)).trans hw327_1), ((HB.out.cell (World.block_lt_of_cell? w _ hw327_2)).trans hw327_2)⟩ (fun hHeld => ?_)
       clear hK K
       refine norm_ (a' := ?_) ?_ ?_
       rotate_left
       ·
        show Act.put _ (some 38) _ = _
        simp only [Act.put, List.setIfInBounds_toArray, List.set_cons_zero, List.set_cons_succ, i64_w, i32_w]
        rfl
       refine pure_ (i := 21) (N := some 5) (v := ?_) (a' := ?_) #[true, true, true, true, true, true, true, true, true, true, true, true, true, true, true, true, true, true, true, true, true, true] rfl rfl (any_of HT_.out (by kernel_rfl)) (fun _ _ _ h => h) (Or.inl ⟨by rfl, ?_⟩) ?_ ?_
       rotate_left
       ·
        intro w'
        go_simp
        with_reducible rfl
       rotate_left
       ·
        simp only [Act.put, List.setIfInBounds_toArray, List.set_cons_zero, List.set_cons_succ, i64_w, i32_w]
        rfl
       refine done_ (done_of HT_.out (by kernel_rfl)) ?_
       try go_wp2
       go_roundg k1
       case measure => have := HK1.out; omega
       case rel => exact ⟨(y328), (wrap64 (x6_1 + 1)), (by first | rfl | (simp; done) | (simp [*]; done)), H', ⟨by have := HK1.out; omega⟩, ⟨by (with_reducible repeat (first | apply Kd.R_alloc | apply Kd.R_drewN | apply Kd.R_drew)); exact HO330.out⟩, ⟨by repeat (first | (with_reducible first | exact HB.out | apply ba_ | apply bn_ | apply bd_) | exact HB.out)⟩⟩
      ·
       rw [if_neg c8] at H
       exact absurd H (by simp)
     ·
      rw [if_neg c7] at H
      exact absurd H (by simp)
    ·
     rw [if_neg c6] at H
     have c6b0 : decide (x6_1 < 16) = false := decide_eq_false c6
     clear c6
     replace H := Option.bind_eq_some_iff.mp H
     obtain ⟨t331, A110, H⟩ := H
     replace H : (some t331) = some r := H
     have A11 := Aside0.mk A110
     clear A110
     obtain rfl := Option.some.inj H
     obtain ⟨Ao12, co12, eo12⟩ := Kd.R_slice HO_5.out
     subst eo12
     go_wp2_with (first | ((with_reducible refine gate_callee (f := 40) rfl ?_); refine goesL_ (some 41) rfl rfl Tryd.func40 (by kernel_rfl) rfl #[.int .i64 a0, .slice Ao12 x5_1.length co12] rfl (by (try simp only [List.map_toArray, List.map_cons, List.map_nil]); first | done | rfl | (simp only [List.length_drop, List.length_take]; rfl)) ?_; (with_reducible refine (honeycomblaw04_Some.calls k1 a0 _ _ x5_1 t331 _ ?side1 ?side2 A11.out).mono ?_); (case side1 => repeat (first | exact (Kd.R_reads' HO_5.out).2.2 | (with_reducible refine Kd.C_alloc ?_ _) | (with_reducible refine Kd.C_drewN ?_ _) | (with_reducible refine Kd.C_drew ?_))); (case side2 => exact (Kd.R_reads' HO_5.out).2.1); rintro e w13 ⟨v332, rfl, ho0, hb⟩; refine ⟨_, rfl, ?_⟩; have n0_ := Aside0.mk (Kd.R_below (by (with_reducible repeat (first | apply Kd.R_alloc | apply Kd.R_drewN | apply Kd.R_drew)); exact HO_5.out) hb); have n1_ := Aside0.mk (Kd.R_lower ho0 (below_size (by repeat (first | (with_reducible first | exact HB.out | apply ba_ | apply bn_ | apply bd_) | exact HB.out)))); have n2_ := Aside0.mk (below_step (by repeat (first | (with_reducible first | exact HB.out | apply ba_ | apply bn_ | apply bd_) | exact HB.out)) hb); clear HO_5; clear HB; have HO_5 := n0_; have HO333 := n1_; have HB := n2_; clear n0_ n1_ n2_; (try clear hb); (try clear hb2); (try clear hk); (try clear hi); (try clear ho0)))
     go_ret
     exact ⟨_, by first | rfl | (simp [errW_none, errW_some] <;> rfl) | (simp [*, errW_none, errW_some] <;> rfl), by (with_reducible repeat (first | apply Kd.R_alloc | apply Kd.R_drewN | apply Kd.R_drew)); exact HO333.out, by repeat (first | (with_reducible first | exact HB.out | apply ba_ | apply bn_ | apply bd_) | exact HB.out)⟩
   ·
    rw [if_neg c5] at H
    have c5b0 : decide (x6_1 < (l1.length : Int)) = false := decide_eq_false c5
    clear c5
    replace H := Option.bind_eq_some_iff.mp H
    obtain ⟨t334, A140, H⟩ := H
    replace H : (some t334) = some r := H
    have A14 := Aside0.mk A140
    clear A140
    obtain rfl := Option.some.inj H
    obtain ⟨Ao15, co15, eo15⟩ := Kd.R_slice HO_5.out
    subst eo15
    go_wp2_with (first | ((with_reducible refine gate_callee (f := 40) rfl ?_); refine goesL_ (some 41) rfl rfl Tryd.func40 (by kernel_rfl) rfl #[.int .i64 a0, .slice Ao15 x5_1.length co15] rfl (by (try simp only [List.map_toArray, List.map_cons, List.map_nil]); first | done | rfl | (simp only [List.length_drop, List.length_take]; rfl)) ?_; (with_reducible refine (honeycomblaw04_Some.calls k1 a0 _ _ x5_1 t334 _ ?side1 ?side2 A14.out).mono ?_); (case side1 => repeat (first | exact (Kd.R_reads' HO_5.out).2.2 | (with_reducible refine Kd.C_alloc ?_ _) | (with_reducible refine Kd.C_drewN ?_ _) | (with_reducible refine Kd.C_drew ?_))); (case side2 => exact (Kd.R_reads' HO_5.out).2.1); rintro e w16 ⟨v335, rfl, ho0, hb⟩; refine ⟨_, rfl, ?_⟩; have n0_ := Aside0.mk (Kd.R_below (by (with_reducible repeat (first | apply Kd.R_alloc | apply Kd.R_drewN | apply Kd.R_drew)); exact HO_5.out) hb); have n1_ := Aside0.mk (Kd.R_lower ho0 (below_size (by repeat (first | (with_reducible first | exact HB.out | apply ba_ | apply bn_ | apply bd_) | exact HB.out)))); have n2_ := Aside0.mk (below_step (by repeat (first | (with_reducible first | exact HB.out | apply ba_ | apply bn_ | apply bd_) | exact HB.out)) hb); clear HO_5; clear HB; have HO_5 := n0_; have HO336 := n1_; have HB := n2_; clear n0_ n1_ n2_; (try clear hb); (try clear hb2); (try clear hk); (try clear hi); (try clear ho0)))
    go_ret
    exact ⟨_, by first | rfl | (simp [errW_none, errW_some] <;> rfl) | (simp [*, errW_none, errW_some] <;> rfl), by (with_reducible repeat (first | apply Kd.R_alloc | apply Kd.R_drewN | apply Kd.R_drew)); exact HO336.out, by repeat (first | (with_reducible first | exact HB.out | apply ba_ | apply bn_ | apply bd_) | exact HB.out)⟩
end Go.Proofs.YtaeenefdbahfoaaDoor.H
namespace Go.Proofs.YtaeenefdbahfoaaDoor
set_option linter.unusedSimpArgs false
set_option linter.unusedVariables false
open Go.RowKit Go.Proofs.YtaeenefdbahfoaaDoorW.PrintWords Go.Proofs.YtaeenefdbahfoaaDoorW.PrintLast Go.Proofs.YtaeenefdbahfoaaDoorW.PrintMore
open H
open Go.RowKit
/-- a table's number, of those that may be -/
def andM (x m : Int) : Int := Go.bits .and .u64 x m
set_option maxRecDepth 100000 in
set_option maxHeartbeats 4000000 in
theorem some5_2 (l b0 b1 s0 s1 : Int) (w : World) (ht : l % 256 % 3 = 1) :
    Calls Tryd.prog 14 #[.agg #[.int .i64 l, .int .u64 b0, .int .u64 b1, .int .u64 s0, .int .u64 s1]] w fun e w' => e = .returned (.agg #[.int .i64 (2), .int .u64 (andM b0 14), .int .u64 (andM b1 14), .int .u64 (andM s0 15), .int .u64 (andM s1 15)]) ∧ Below w.heap.size w w' := by
  have ho := fun W => honeycomblaw05_Own.calls l b0 b1 s0 s1 l b0 b1 s0 s1 W rfl
  have hand : Go.bits .and .i64 l 255 = l % 256 := by rw [and_255]
  have hmod : (l % 256).tmod 3 = 1 := by rw [Int.tmod_eq_emod_of_nonneg (by omega), ht]
  have hnot : Go.bits .andNot .u64 15 1 = 14 := by decide
  go_enter Tryd.func14, Tryd.ntmps14
  go_upto_region 1 with (fail)
  obtain ⟨w1, hw1⟩ : ∃ w1, w1 = (w.alloc (.cells #[.int .i64 l, .int .u64 b0, .int .u64 b1, .int .u64 s0, .int .u64 s1] 25)).alloc (.cells #[.int .i64 0, .int .u64 0, .int .u64 0, .int .u64 0, .int .u64 0] 29) := ⟨_, rfl⟩
  have hsz1 : (w.alloc (.cells #[.int .i64 l, .int .u64 b0, .int .u64 b1, .int .u64 s0, .int .u64 s1] 25)).heap.size = w.heap.size + 1 := by simp
  have hbx : w1.heap[w.heap.size]? = some (.cells #[.int .i64 l, .int .u64 b0, .int .u64 b1, .int .u64 s0, .int .u64 s1] 25 (0, 0)) := by
    rw [hw1]
    exact blk_alloc (blk_new w _) _
  have hbr : w1.heap[w.heap.size + 1]? = some (.cells #[.int .i64 0, .int .u64 0, .int .u64 0, .int .u64 0, .int .u64 0] 29 (0, 0)) := by
    rw [hw1, ← hsz1]
    exact blk_new _ _
  have hB1 : Below w.heap.size w w1 := by
    rw [hw1]
    exact below_alloc (below_alloc (Below.refl _ _) _) _
  rw [← hw1]
  clear hw1 hsz1
  have x0 := blk_cell hbx 0
  have x1 := blk_cell hbx 1
  have x2 := blk_cell hbx 2
  have x3 := blk_cell hbx 3
  have x4 := blk_cell hbx 4
  simp at x0 x1 x2 x3 x4
  have BX := Aside0.mk hbx
  have BR := Aside0.mk hbr
  have HB1 := Aside0.mk hB1
  have hz1 := blk_lt hbr
  clear hbx hbr hB1
  go_wp2_with fail
  refine (ho _).mono ?_
  rintro e w2 ⟨rfl, hb⟩
  have hz2 := hb.size
  have BX2 := Aside0.mk (blk_below BX.out hb)
  have BR2 := Aside0.mk (blk_below BR.out hb)
  have HB2 := Aside0.mk (HB1.out.trans (hb.mono (by omega)))
  clear hb x0 x1 x2 x3 x4
  go_upto_region 2 with (fail)
  obtain ⟨w3, hw3⟩ : ∃ w3, w3 = w2.alloc (.cells #[.int .i64 l, .int .u64 b0, .int .u64 b1, .int .u64 s0, .int .u64 s1] 29) := ⟨_, rfl⟩
  have hbt : w3.heap[w2.heap.size]? = some (.cells #[.int .i64 l, .int .u64 b0, .int .u64 b1, .int .u64 s0, .int .u64 s1] 29 (0, 0)) := by
    rw [hw3]
    exact blk_new _ _
  have BX3 := Aside0.mk (blk_alloc BX2.out (.cells #[.int .i64 l, .int .u64 b0, .int .u64 b1, .int .u64 s0, .int .u64 s1] 29))
  have BR3 := Aside0.mk (blk_alloc BR2.out (.cells #[.int .i64 l, .int .u64 b0, .int .u64 b1, .int .u64 s0, .int .u64 s1] 29))
  have HB3 := Aside0.mk (below_alloc HB2.out (.cells #[.int .i64 l, .int .u64 b0, .int .u64 b1, .int .u64 s0, .int .u64 s1] 29))
  rw [← hw3] at BX3 BR3 HB3
  rw [← hw3]
  have hz3 := blk_lt hbt
  clear hw3
  have x0 := blk_cell BX3.out 0
  have t0 := blk_cell hbt 0
  have tf := blk_frozen hbt
  simp at x0 t0
  have BT3 := Aside0.mk hbt
  have hne : ¬ w.heap.size = w2.heap.size := by omega
  clear hbt
  go_wp2_with fail
  obtain ⟨w4, hw4⟩ : ∃ w4, w4 = (w3.setCell ⟨w2.heap.size, 0, none⟩ (.int .i64 2)).alloc (.cells #[.int .u64 0, .int .u64 18446744073709551615, .int .u64 15, .int .u64 8191] 22) := ⟨_, rfl⟩
  have BT4 := Aside0.mk (blk_alloc (blk_put BT3.out 0 (.int .i64 2) rfl) (.cells #[.int .u64 0, .int .u64 18446744073709551615, .int .u64 15, .int .u64 8191] 22))
  have BR4 := Aside0.mk (blk_alloc (blk_far BR3.out (p := ⟨w2.heap.size, 0, none⟩) (by show ¬ w.heap.size + 1 = w2.heap.size; omega) (.int .i64 2)) (.cells #[.int .u64 0, .int .u64 18446744073709551615, .int .u64 15, .int .u64 8191] 22))
  have HB4 := Aside0.mk (below_alloc (Below.setCell (p := ⟨w2.heap.size, 0, none⟩) HB3.out (by show w.heap.size ≤ w2.heap.size; omega) (.int .i64 2)) (.cells #[.int .u64 0, .int .u64 18446744073709551615, .int .u64 15, .int .u64 8191] 22))
  rw [← hw4] at BT4 BR4 HB4
  rw [← hw4]
  have hz4 := blk_lt BT4.out
  clear hw4 x0 t0 tf
  go_loopw [19] (fun i wr => ∃ (j : Nat) (B0 B1 S0 S1 : Int), j ≤ 2 ∧ i = .int .i64 j ∧ B0 = (if 0 < j then andM b0 14 else b0) ∧ B1 = (if 1 < j then andM b1 14 else b1) ∧ S0 = (if 0 < j then andM s0 15 else s0) ∧ S1 = (if 1 < j then andM s1 15 else s1) ∧ wr.heap[w2.heap.size]? = some (.cells #[.int .i64 2, .int .u64 B0, .int .u64 B1, .int .u64 S0, .int .u64 S1] 29 (0, 0)) ∧ Below w2.heap.size w4 wr) (fun i _ => 2 - (intOf i).toNat)
  case atStart => exact ⟨0, b0, b1, s0, s1, by omega, rfl, rfl, rfl, rfl, rfl, BT4.out, Below.refl _ _⟩
  case round =>
    obtain ⟨j, B0, B1, S0, S1, hj, rfl, e0, e1, e2, e3, hbt, hb⟩ := hrel
    have HBR := Aside0.mk hb
    have BTR := Aside0.mk hbt
    have E := Aside0.mk (And.intro e0 (And.intro e1 (And.intro e2 e3)))
    have t0 := blk_cell hbt 0
    have t1 := blk_cell hbt 1
    have t2 := blk_cell hbt 2
    have t3 := blk_cell hbt 3
    have t4 := blk_cell hbt 4
    have tf := blk_frozen hbt
    simp at t0 t1 t2 t3 t4
    clear hb hbt e0 e1 e2 e3
    have hjj : j = 0 ∨ j = 1 ∨ j = 2 := by omega
    rcases hjj with rfl | rfl | rfl
    · go_wp2
      go_roundw
      case rel =>
        obtain ⟨e0, e1, e2, e3⟩ := E.out
        refine ⟨1, andM B0 14, B1, andM S0 15, S1, by omega, by first | rfl | go_num, by rw [e0]; rfl, by rw [e1]; rfl, by rw [e2]; rfl, by rw [e3]; rfl, ?_, ?_⟩
        · exact blk_put (blk_put BTR.out 1 _ rfl) 3 _ rfl
        · exact Below.setCell (p := ⟨w2.heap.size, 3, none⟩) (Below.setCell (p := ⟨w2.heap.size, 1, none⟩) HBR.out (Nat.le_refl _) _) (Nat.le_refl _) _
      case measure => simp [intOf]
    · go_wp2
      go_roundw
      case rel =>
        obtain ⟨e0, e1, e2, e3⟩ := E.out
        refine ⟨2, B0, andM B1 14, S0, andM S1 15, by omega, by first | rfl | go_num, by rw [e0]; rfl, by rw [e1]; rfl, by rw [e2]; rfl, by rw [e3]; rfl, ?_, ?_⟩
        · exact blk_put (blk_put BTR.out 2 _ rfl) 4 _ rfl
        · exact Below.setCell (p := ⟨w2.heap.size, 4, none⟩) (Below.setCell (p := ⟨w2.heap.size, 2, none⟩) HBR.out (Nat.le_refl _) _) (Nat.le_refl _) _
      case measure => simp [intOf]
    · obtain ⟨e0, e1, e2, e3⟩ := E.out
      have f0 : B0 = andM b0 14 := e0
      have f1 : B1 = andM b1 14 := e1
      have f2 : S0 = andM s0 15 := e2
      have f3 : S1 = andM s1 15 := e3
      clear e0 e1 e2 e3 E
      subst f0 f1 f2 f3
      have hr : wr.heap[w.heap.size + 1]? = _ := (HBR.out.block (w.heap.size + 1) (by omega)).trans BR4.out
      have rf := blk_frozen hr
      have q0 := blk_cell hr 0
      have q1 := blk_cell hr 1
      have q2 := blk_cell hr 2
      have q3 := blk_cell hr 3
      have q4 := blk_cell hr 4
      simp at q0 q1 q2 q3 q4
      have RR := Aside0.mk hr
      clear hr
      go_wp2
      have RR' := RR
      have hr := blk_set (blk_set (blk_set (blk_set (blk_set RR'.out 0 (.int .i64 (2))) 1 (.int .u64 (andM b0 14))) 2 (.int .u64 (andM b1 14))) 3 (.int .u64 (andM s0 15))) 4 (.int .u64 (andM s1 15))
      refine bodyPost_ret (results_cell_row rfl _ _ (w.heap.size + 1) 29 #[.int .i64 (2), .int .u64 (andM b0 14), .int .u64 (andM b1 14), .int .u64 (andM s0 15), .int .u64 (andM s1 15)] (0, 0) _ rfl hr Tryd.underlying29 rfl (by kernel_rfl)) rfl ⟨rfl, ?_⟩
      have hbb : Below w.heap.size w wr := HB4.out.trans (HBR.out.mono (by omega))
      exact Below.setCell (p := ⟨w.heap.size + 1, 4, none⟩) (Below.setCell (p := ⟨w.heap.size + 1, 3, none⟩) (Below.setCell (p := ⟨w.heap.size + 1, 2, none⟩) (Below.setCell (p := ⟨w.heap.size + 1, 1, none⟩) (Below.setCell (p := ⟨w.heap.size + 1, 0, none⟩) hbb (Nat.le_succ _) _) (Nat.le_succ _) _) (Nat.le_succ _) _) (Nat.le_succ _) _) (Nat.le_succ _) _
set_option maxRecDepth 100000 in
set_option maxHeartbeats 4000000 in
theorem some5_3 (l b0 b1 s0 s1 : Int) (w : World) (ht : l % 256 % 3 = 2) :
    Calls Tryd.prog 14 #[.agg #[.int .i64 l, .int .u64 b0, .int .u64 b1, .int .u64 s0, .int .u64 s1]] w fun e w' => e = .returned (.agg #[.int .i64 (3), .int .u64 (andM b0 8190), .int .u64 (andM b1 8190), .int .u64 (andM s0 8191), .int .u64 (andM s1 8191)]) ∧ Below w.heap.size w w' := by
  have ho := fun W => honeycomblaw05_Own.calls l b0 b1 s0 s1 l b0 b1 s0 s1 W rfl
  have hand : Go.bits .and .i64 l 255 = l % 256 := by rw [and_255]
  have hmod : (l % 256).tmod 3 = 2 := by rw [Int.tmod_eq_emod_of_nonneg (by omega), ht]
  have hnot : Go.bits .andNot .u64 8191 1 = 8190 := by decide
  go_enter Tryd.func14, Tryd.ntmps14
  go_upto_region 1 with (fail)
  obtain ⟨w1, hw1⟩ : ∃ w1, w1 = (w.alloc (.cells #[.int .i64 l, .int .u64 b0, .int .u64 b1, .int .u64 s0, .int .u64 s1] 25)).alloc (.cells #[.int .i64 0, .int .u64 0, .int .u64 0, .int .u64 0, .int .u64 0] 29) := ⟨_, rfl⟩
  have hsz1 : (w.alloc (.cells #[.int .i64 l, .int .u64 b0, .int .u64 b1, .int .u64 s0, .int .u64 s1] 25)).heap.size = w.heap.size + 1 := by simp
  have hbx : w1.heap[w.heap.size]? = some (.cells #[.int .i64 l, .int .u64 b0, .int .u64 b1, .int .u64 s0, .int .u64 s1] 25 (0, 0)) := by
    rw [hw1]
    exact blk_alloc (blk_new w _) _
  have hbr : w1.heap[w.heap.size + 1]? = some (.cells #[.int .i64 0, .int .u64 0, .int .u64 0, .int .u64 0, .int .u64 0] 29 (0, 0)) := by
    rw [hw1, ← hsz1]
    exact blk_new _ _
  have hB1 : Below w.heap.size w w1 := by
    rw [hw1]
    exact below_alloc (below_alloc (Below.refl _ _) _) _
  rw [← hw1]
  clear hw1 hsz1
  have x0 := blk_cell hbx 0
  have x1 := blk_cell hbx 1
  have x2 := blk_cell hbx 2
  have x3 := blk_cell hbx 3
  have x4 := blk_cell hbx 4
  simp at x0 x1 x2 x3 x4
  have BX := Aside0.mk hbx
  have BR := Aside0.mk hbr
  have HB1 := Aside0.mk hB1
  have hz1 := blk_lt hbr
  clear hbx hbr hB1
  go_wp2_with fail
  refine (ho _).mono ?_
  rintro e w2 ⟨rfl, hb⟩
  have hz2 := hb.size
  have BX2 := Aside0.mk (blk_below BX.out hb)
  have BR2 := Aside0.mk (blk_below BR.out hb)
  have HB2 := Aside0.mk (HB1.out.trans (hb.mono (by omega)))
  clear hb x0 x1 x2 x3 x4
  go_upto_region 2 with (fail)
  obtain ⟨w3, hw3⟩ : ∃ w3, w3 = w2.alloc (.cells #[.int .i64 l, .int .u64 b0, .int .u64 b1, .int .u64 s0, .int .u64 s1] 29) := ⟨_, rfl⟩
  have hbt : w3.heap[w2.heap.size]? = some (.cells #[.int .i64 l, .int .u64 b0, .int .u64 b1, .int .u64 s0, .int .u64 s1] 29 (0, 0)) := by
    rw [hw3]
    exact blk_new _ _
  have BX3 := Aside0.mk (blk_alloc BX2.out (.cells #[.int .i64 l, .int .u64 b0, .int .u64 b1, .int .u64 s0, .int .u64 s1] 29))
  have BR3 := Aside0.mk (blk_alloc BR2.out (.cells #[.int .i64 l, .int .u64 b0, .int .u64 b1, .int .u64 s0, .int .u64 s1] 29))
  have HB3 := Aside0.mk (below_alloc HB2.out (.cells #[.int .i64 l, .int .u64 b0, .int .u64 b1, .int .u64 s0, .int .u64 s1] 29))
  rw [← hw3] at BX3 BR3 HB3
  rw [← hw3]
  have hz3 := blk_lt hbt
  clear hw3
  have x0 := blk_cell BX3.out 0
  have t0 := blk_cell hbt 0
  have tf := blk_frozen hbt
  simp at x0 t0
  have BT3 := Aside0.mk hbt
  have hne : ¬ w.heap.size = w2.heap.size := by omega
  clear hbt
  go_wp2_with fail
  obtain ⟨w4, hw4⟩ : ∃ w4, w4 = (w3.setCell ⟨w2.heap.size, 0, none⟩ (.int .i64 3)).alloc (.cells #[.int .u64 0, .int .u64 18446744073709551615, .int .u64 15, .int .u64 8191] 22) := ⟨_, rfl⟩
  have BT4 := Aside0.mk (blk_alloc (blk_put BT3.out 0 (.int .i64 3) rfl) (.cells #[.int .u64 0, .int .u64 18446744073709551615, .int .u64 15, .int .u64 8191] 22))
  have BR4 := Aside0.mk (blk_alloc (blk_far BR3.out (p := ⟨w2.heap.size, 0, none⟩) (by show ¬ w.heap.size + 1 = w2.heap.size; omega) (.int .i64 3)) (.cells #[.int .u64 0, .int .u64 18446744073709551615, .int .u64 15, .int .u64 8191] 22))
  have HB4 := Aside0.mk (below_alloc (Below.setCell (p := ⟨w2.heap.size, 0, none⟩) HB3.out (by show w.heap.size ≤ w2.heap.size; omega) (.int .i64 3)) (.cells #[.int .u64 0, .int .u64 18446744073709551615, .int .u64 15, .int .u64 8191] 22))
  rw [← hw4] at BT4 BR4 HB4
  rw [← hw4]
  have hz4 := blk_lt BT4.out
  clear hw4 x0 t0 tf
  go_loopw [19] (fun i wr => ∃ (j : Nat) (B0 B1 S0 S1 : Int), j ≤ 2 ∧ i = .int .i64 j ∧ B0 = (if 0 < j then andM b0 8190 else b0) ∧ B1 = (if 1 < j then andM b1 8190 else b1) ∧ S0 = (if 0 < j then andM s0 8191 else s0) ∧ S1 = (if 1 < j then andM s1 8191 else s1) ∧ wr.heap[w2.heap.size]? = some (.cells #[.int .i64 3, .int .u64 B0, .int .u64 B1, .int .u64 S0, .int .u64 S1] 29 (0, 0)) ∧ Below w2.heap.size w4 wr) (fun i _ => 2 - (intOf i).toNat)
  case atStart => exact ⟨0, b0, b1, s0, s1, by omega, rfl, rfl, rfl, rfl, rfl, BT4.out, Below.refl _ _⟩
  case round =>
    obtain ⟨j, B0, B1, S0, S1, hj, rfl, e0, e1, e2, e3, hbt, hb⟩ := hrel
    have HBR := Aside0.mk hb
    have BTR := Aside0.mk hbt
    have E := Aside0.mk (And.intro e0 (And.intro e1 (And.intro e2 e3)))
    have t0 := blk_cell hbt 0
    have t1 := blk_cell hbt 1
    have t2 := blk_cell hbt 2
    have t3 := blk_cell hbt 3
    have t4 := blk_cell hbt 4
    have tf := blk_frozen hbt
    simp at t0 t1 t2 t3 t4
    clear hb hbt e0 e1 e2 e3
    have hjj : j = 0 ∨ j = 1 ∨ j = 2 := by omega
    rcases hjj with rfl | rfl | rfl
    · go_wp2
      go_roundw
      case rel =>
        obtain ⟨e0, e1, e2, e3⟩ := E.out
        refine ⟨1, andM B0 8190, B1, andM S0 8191, S1, by omega, by first | rfl | go_num, by rw [e0]; rfl, by rw [e1]; rfl, by rw [e2]; rfl, by rw [e3]; rfl, ?_, ?_⟩
        · exact blk_put (blk_put BTR.out 1 _ rfl) 3 _ rfl
        · exact Below.setCell (p := ⟨w2.heap.size, 3, none⟩) (Below.setCell (p := ⟨w2.heap.size, 1, none⟩) HBR.out (Nat.le_refl _) _) (Nat.le_refl _) _
      case measure => simp [intOf]
    · go_wp2
      go_roundw
      case rel =>
        obtain ⟨e0, e1, e2, e3⟩ := E.out
        refine ⟨2, B0, andM B1 8190, S0, andM S1 8191, by omega, by first | rfl | go_num, by rw [e0]; rfl, by rw [e1]; rfl, by rw [e2]; rfl, by rw [e3]; rfl, ?_, ?_⟩
        · exact blk_put (blk_put BTR.out 2 _ rfl) 4 _ rfl
        · exact Below.setCell (p := ⟨w2.heap.size, 4, none⟩) (Below.setCell (p := ⟨w2.heap.size, 2, none⟩) HBR.out (Nat.le_refl _) _) (Nat.le_refl _) _
      case measure => simp [intOf]
    · obtain ⟨e0, e1, e2, e3⟩ := E.out
      have f0 : B0 = andM b0 8190 := e0
      have f1 : B1 = andM b1 8190 := e1
      have f2 : S0 = andM s0 8191 := e2
      have f3 : S1 = andM s1 8191 := e3
      clear e0 e1 e2 e3 E
      subst f0 f1 f2 f3
      have hr : wr.heap[w.heap.size + 1]? = _ := (HBR.out.block (w.heap.size + 1) (by omega)).trans BR4.out
      have rf := blk_frozen hr
      have q0 := blk_cell hr 0
      have q1 := blk_cell hr 1
      have q2 := blk_cell hr 2
      have q3 := blk_cell hr 3
      have q4 := blk_cell hr 4
      simp at q0 q1 q2 q3 q4
      have RR := Aside0.mk hr
      clear hr
      go_wp2
      have RR' := RR
      have hr := blk_set (blk_set (blk_set (blk_set (blk_set RR'.out 0 (.int .i64 (3))) 1 (.int .u64 (andM b0 8190))) 2 (.int .u64 (andM b1 8190))) 3 (.int .u64 (andM s0 8191))) 4 (.int .u64 (andM s1 8191))
      refine bodyPost_ret (results_cell_row rfl _ _ (w.heap.size + 1) 29 #[.int .i64 (3), .int .u64 (andM b0 8190), .int .u64 (andM b1 8190), .int .u64 (andM s0 8191), .int .u64 (andM s1 8191)] (0, 0) _ rfl hr Tryd.underlying29 rfl (by kernel_rfl)) rfl ⟨rfl, ?_⟩
      have hbb : Below w.heap.size w wr := HB4.out.trans (HBR.out.mono (by omega))
      exact Below.setCell (p := ⟨w.heap.size + 1, 4, none⟩) (Below.setCell (p := ⟨w.heap.size + 1, 3, none⟩) (Below.setCell (p := ⟨w.heap.size + 1, 2, none⟩) (Below.setCell (p := ⟨w.heap.size + 1, 1, none⟩) (Below.setCell (p := ⟨w.heap.size + 1, 0, none⟩) hbb (Nat.le_succ _) _) (Nat.le_succ _) _) (Nat.le_succ _) _) (Nat.le_succ _) _) (Nat.le_succ _) _
set_option maxRecDepth 100000 in
set_option maxHeartbeats 4000000 in
theorem some5_1 (l b0 b1 s0 s1 : Int) (w : World) (ht : l % 256 % 3 = 0) :
    Calls Tryd.prog 14 #[.agg #[.int .i64 l, .int .u64 b0, .int .u64 b1, .int .u64 s0, .int .u64 s1]] w fun e w' => e = .returned (.agg #[.int .i64 (1), .int .u64 (andM b0 18446744073709551614), .int .u64 (0), .int .u64 (andM s0 18446744073709551615), .int .u64 (0)]) ∧ Below w.heap.size w w' := by
  have ho := fun W => honeycomblaw05_Own.calls l b0 b1 s0 s1 l b0 b1 s0 s1 W rfl
  have hand : Go.bits .and .i64 l 255 = l % 256 := by rw [and_255]
  have hmod : (l % 256).tmod 3 = 0 := by rw [Int.tmod_eq_emod_of_nonneg (by omega), ht]
  have hnot : Go.bits .andNot .u64 18446744073709551615 1 = 18446744073709551614 := by decide
  go_enter Tryd.func14, Tryd.ntmps14
  go_upto_region 1 with (fail)
  obtain ⟨w1, hw1⟩ : ∃ w1, w1 = (w.alloc (.cells #[.int .i64 l, .int .u64 b0, .int .u64 b1, .int .u64 s0, .int .u64 s1] 25)).alloc (.cells #[.int .i64 0, .int .u64 0, .int .u64 0, .int .u64 0, .int .u64 0] 29) := ⟨_, rfl⟩
  have hsz1 : (w.alloc (.cells #[.int .i64 l, .int .u64 b0, .int .u64 b1, .int .u64 s0, .int .u64 s1] 25)).heap.size = w.heap.size + 1 := by simp
  have hbx : w1.heap[w.heap.size]? = some (.cells #[.int .i64 l, .int .u64 b0, .int .u64 b1, .int .u64 s0, .int .u64 s1] 25 (0, 0)) := by
    rw [hw1]
    exact blk_alloc (blk_new w _) _
  have hbr : w1.heap[w.heap.size + 1]? = some (.cells #[.int .i64 0, .int .u64 0, .int .u64 0, .int .u64 0, .int .u64 0] 29 (0, 0)) := by
    rw [hw1, ← hsz1]
    exact blk_new _ _
  have hB1 : Below w.heap.size w w1 := by
    rw [hw1]
    exact below_alloc (below_alloc (Below.refl _ _) _) _
  rw [← hw1]
  clear hw1 hsz1
  have x0 := blk_cell hbx 0
  have x1 := blk_cell hbx 1
  have x2 := blk_cell hbx 2
  have x3 := blk_cell hbx 3
  have x4 := blk_cell hbx 4
  simp at x0 x1 x2 x3 x4
  have BX := Aside0.mk hbx
  have BR := Aside0.mk hbr
  have HB1 := Aside0.mk hB1
  have hz1 := blk_lt hbr
  clear hbx hbr hB1
  go_wp2_with fail
  refine (ho _).mono ?_
  rintro e w2 ⟨rfl, hb⟩
  have hz2 := hb.size
  have BX2 := Aside0.mk (blk_below BX.out hb)
  have BR2 := Aside0.mk (blk_below BR.out hb)
  have HB2 := Aside0.mk (HB1.out.trans (hb.mono (by omega)))
  clear hb x0 x1 x2 x3 x4
  go_upto_region 2 with (fail)
  obtain ⟨w3, hw3⟩ : ∃ w3, w3 = w2.alloc (.cells #[.int .i64 l, .int .u64 b0, .int .u64 b1, .int .u64 s0, .int .u64 s1] 29) := ⟨_, rfl⟩
  have hbt : w3.heap[w2.heap.size]? = some (.cells #[.int .i64 l, .int .u64 b0, .int .u64 b1, .int .u64 s0, .int .u64 s1] 29 (0, 0)) := by
    rw [hw3]
    exact blk_new _ _
  have BX3 := Aside0.mk (blk_alloc BX2.out (.cells #[.int .i64 l, .int .u64 b0, .int .u64 b1, .int .u64 s0, .int .u64 s1] 29))
  have BR3 := Aside0.mk (blk_alloc BR2.out (.cells #[.int .i64 l, .int .u64 b0, .int .u64 b1, .int .u64 s0, .int .u64 s1] 29))
  have HB3 := Aside0.mk (below_alloc HB2.out (.cells #[.int .i64 l, .int .u64 b0, .int .u64 b1, .int .u64 s0, .int .u64 s1] 29))
  rw [← hw3] at BX3 BR3 HB3
  rw [← hw3]
  have hz3 := blk_lt hbt
  clear hw3
  have x0 := blk_cell BX3.out 0
  have t0 := blk_cell hbt 0
  have tf := blk_frozen hbt
  simp at x0 t0
  have BT3 := Aside0.mk hbt
  have hne : ¬ w.heap.size = w2.heap.size := by omega
  clear hbt
  go_wp2_with fail
  obtain ⟨w4, hw4⟩ : ∃ w4, w4 = (w3.setCell ⟨w2.heap.size, 0, none⟩ (.int .i64 1)).alloc (.cells #[.int .u64 0, .int .u64 18446744073709551615, .int .u64 15, .int .u64 8191] 22) := ⟨_, rfl⟩
  have BT4 := Aside0.mk (blk_alloc (blk_put BT3.out 0 (.int .i64 1) rfl) (.cells #[.int .u64 0, .int .u64 18446744073709551615, .int .u64 15, .int .u64 8191] 22))
  have BR4 := Aside0.mk (blk_alloc (blk_far BR3.out (p := ⟨w2.heap.size, 0, none⟩) (by show ¬ w.heap.size + 1 = w2.heap.size; omega) (.int .i64 1)) (.cells #[.int .u64 0, .int .u64 18446744073709551615, .int .u64 15, .int .u64 8191] 22))
  have HB4 := Aside0.mk (below_alloc (Below.setCell (p := ⟨w2.heap.size, 0, none⟩) HB3.out (by show w.heap.size ≤ w2.heap.size; omega) (.int .i64 1)) (.cells #[.int .u64 0, .int .u64 18446744073709551615, .int .u64 15, .int .u64 8191] 22))
  rw [← hw4] at BT4 BR4 HB4
  rw [← hw4]
  have hz4 := blk_lt BT4.out
  clear hw4 x0 t0 tf
  go_loopw [19] (fun i wr => ∃ (j : Nat) (B0 B1 S0 S1 : Int), j ≤ 2 ∧ i = .int .i64 j ∧ B0 = (if 0 < j then andM b0 18446744073709551614 else b0) ∧ B1 = (if 1 < j then andM b1 18446744073709551614 else b1) ∧ S0 = (if 0 < j then andM s0 18446744073709551615 else s0) ∧ S1 = (if 1 < j then andM s1 18446744073709551615 else s1) ∧ wr.heap[w2.heap.size]? = some (.cells #[.int .i64 1, .int .u64 B0, .int .u64 B1, .int .u64 S0, .int .u64 S1] 29 (0, 0)) ∧ Below w2.heap.size w4 wr) (fun i _ => 2 - (intOf i).toNat)
  case atStart => exact ⟨0, b0, b1, s0, s1, by omega, rfl, rfl, rfl, rfl, rfl, BT4.out, Below.refl _ _⟩
  case round =>
    obtain ⟨j, B0, B1, S0, S1, hj, rfl, e0, e1, e2, e3, hbt, hb⟩ := hrel
    have HBR := Aside0.mk hb
    have BTR := Aside0.mk hbt
    have E := Aside0.mk (And.intro e0 (And.intro e1 (And.intro e2 e3)))
    have t0 := blk_cell hbt 0
    have t1 := blk_cell hbt 1
    have t2 := blk_cell hbt 2
    have t3 := blk_cell hbt 3
    have t4 := blk_cell hbt 4
    have tf := blk_frozen hbt
    simp at t0 t1 t2 t3 t4
    clear hb hbt e0 e1 e2 e3
    have hjj : j = 0 ∨ j = 1 ∨ j = 2 := by omega
    rcases hjj with rfl | rfl | rfl
    · go_wp2
      go_roundw
      case rel =>
        obtain ⟨e0, e1, e2, e3⟩ := E.out
        refine ⟨1, andM B0 18446744073709551614, B1, andM S0 18446744073709551615, S1, by omega, by first | rfl | go_num, by rw [e0]; rfl, by rw [e1]; rfl, by rw [e2]; rfl, by rw [e3]; rfl, ?_, ?_⟩
        · exact blk_put (blk_put BTR.out 1 _ rfl) 3 _ rfl
        · exact Below.setCell (p := ⟨w2.heap.size, 3, none⟩) (Below.setCell (p := ⟨w2.heap.size, 1, none⟩) HBR.out (Nat.le_refl _) _) (Nat.le_refl _) _
      case measure => simp [intOf]
    · go_wp2
      go_roundw
      case rel =>
        obtain ⟨e0, e1, e2, e3⟩ := E.out
        refine ⟨2, B0, andM B1 18446744073709551614, S0, andM S1 18446744073709551615, by omega, by first | rfl | go_num, by rw [e0]; rfl, by rw [e1]; rfl, by rw [e2]; rfl, by rw [e3]; rfl, ?_, ?_⟩
        · exact blk_put (blk_put BTR.out 2 _ rfl) 4 _ rfl
        · exact Below.setCell (p := ⟨w2.heap.size, 4, none⟩) (Below.setCell (p := ⟨w2.heap.size, 2, none⟩) HBR.out (Nat.le_refl _) _) (Nat.le_refl _) _
      case measure => simp [intOf]
    · obtain ⟨e0, e1, e2, e3⟩ := E.out
      have f0 : B0 = andM b0 18446744073709551614 := e0
      have f1 : B1 = andM b1 18446744073709551614 := e1
      have f2 : S0 = andM s0 18446744073709551615 := e2
      have f3 : S1 = andM s1 18446744073709551615 := e3
      clear e0 e1 e2 e3 E
      subst f0 f1 f2 f3
      have hr : wr.heap[w.heap.size + 1]? = _ := (HBR.out.block (w.heap.size + 1) (by omega)).trans BR4.out
      have rf := blk_frozen hr
      have q0 := blk_cell hr 0
      have q1 := blk_cell hr 1
      have q2 := blk_cell hr 2
      have q3 := blk_cell hr 3
      have q4 := blk_cell hr 4
      simp at q0 q1 q2 q3 q4
      have RR := Aside0.mk hr
      clear hr
      go_wp2
      have RR' := Aside0.mk (blk_far (blk_far RR.out (p := ⟨w2.heap.size, 2, none⟩) (by show ¬ w.heap.size + 1 = w2.heap.size; omega) (.int .u64 0)) (p := ⟨w2.heap.size, 4, none⟩) (by show ¬ w.heap.size + 1 = w2.heap.size; omega) (.int .u64 0))
      have hr := blk_set (blk_set (blk_set (blk_set (blk_set RR'.out 0 (.int .i64 (1))) 1 (.int .u64 (andM b0 18446744073709551614))) 2 (.int .u64 (0))) 3 (.int .u64 (andM s0 18446744073709551615))) 4 (.int .u64 (0))
      refine bodyPost_ret (results_cell_row rfl _ _ (w.heap.size + 1) 29 #[.int .i64 (1), .int .u64 (andM b0 18446744073709551614), .int .u64 (0), .int .u64 (andM s0 18446744073709551615), .int .u64 (0)] (0, 0) _ rfl hr Tryd.underlying29 rfl (by kernel_rfl)) rfl ⟨rfl, ?_⟩
      have hbb : Below w.heap.size w ((wr.setCell ⟨w2.heap.size, 2, none⟩ (.int .u64 0)).setCell ⟨w2.heap.size, 4, none⟩ (.int .u64 0)) := Below.setCell (p := ⟨w2.heap.size, 4, none⟩) (Below.setCell (p := ⟨w2.heap.size, 2, none⟩) (HB4.out.trans (HBR.out.mono (by omega))) (by show w.heap.size ≤ w2.heap.size; omega) _) (by show w.heap.size ≤ w2.heap.size; omega) _
      exact Below.setCell (p := ⟨w.heap.size + 1, 4, none⟩) (Below.setCell (p := ⟨w.heap.size + 1, 3, none⟩) (Below.setCell (p := ⟨w.heap.size + 1, 2, none⟩) (Below.setCell (p := ⟨w.heap.size + 1, 1, none⟩) (Below.setCell (p := ⟨w.heap.size + 1, 0, none⟩) hbb (Nat.le_succ _) _) (Nat.le_succ _) _) (Nat.le_succ _) _) (Nat.le_succ _) _) (Nat.le_succ _) _
def latT (l : Int) : Int := 1 + l % 256 % 3
def maskT (t : Int) : Int := if t = 1 then 18446744073709551615 else if t = 2 then 15 else 8191
def bornT (t : Int) : Int := if t = 1 then 18446744073709551614 else if t = 2 then 14 else 8190
def XSome5.f (l b0 b1 s0 s1 : Int) : Option (Int × Int × Int × Int × Int) := some (latT l, andM b0 (bornT (latT l)), if latT l = 1 then 0 else andM b1 (bornT (latT l)), andM s0 (maskT (latT l)), if latT l = 1 then 0 else andM s1 (maskT (latT l)))
theorem XSome5.calls (a0_0 : Int) (a0_1 : Int) (a0_2 : Int) (a0_3 : Int) (a0_4 : Int) (r1 : Int) (r2 : Int) (r3 : Int) (r4 : Int) (r5 : Int) (w : World) (h : XSome5.f a0_0 a0_1 a0_2 a0_3 a0_4 = some (r1, r2, r3, r4, r5)) :
    Calls Tryd.prog 14 #[.agg #[.int .i64 a0_0, .int .u64 a0_1, .int .u64 a0_2, .int .u64 a0_3, .int .u64 a0_4]] w fun e w' => e = .returned (.agg #[.int .i64 r1, .int .u64 r2, .int .u64 r3, .int .u64 r4, .int .u64 r5]) ∧ Below w.heap.size w w' := by
  simp only [XSome5.f, Option.some.injEq, Prod.mk.injEq] at h
  obtain ⟨rfl, rfl, rfl, rfl, rfl⟩ := h
  have hc : a0_0 % 256 % 3 = 0 ∨ a0_0 % 256 % 3 = 1 ∨ a0_0 % 256 % 3 = 2 := by omega
  rcases hc with hc | hc | hc
  · have e : latT a0_0 = 1 := by unfold latT; omega
    rw [e]
    exact some5_1 _ _ _ _ _ w hc
  · have e : latT a0_0 = 2 := by unfold latT; omega
    rw [e]
    exact some5_2 _ _ _ _ _ w hc
  · have e : latT a0_0 = 3 := by unfold latT; omega
    rw [e]
    exact some5_3 _ _ _ _ _ w hc
end Go.Proofs.YtaeenefdbahfoaaDoor
namespace Go.Proofs.YtaeenefdbahfoaaDoor
set_option linter.unusedSimpArgs false
set_option linter.unusedVariables false
open Go.RowKit Go.Proofs.YtaeenefdbahfoaaDoorW.PrintWords Go.Proofs.YtaeenefdbahfoaaDoorW.PrintLast Go.Proofs.YtaeenefdbahfoaaDoorW.PrintMore
open H
open Go.Shelf Go.RowKit Go.Lib Go.Sort
end Go.Proofs.YtaeenefdbahfoaaDoor
namespace Go.Proofs.YtaeenefdbahfoaaDoor
set_option linter.unusedSimpArgs false
set_option linter.unusedVariables false
open Go.RowKit Go.Proofs.YtaeenefdbahfoaaDoorW.PrintWords Go.Proofs.YtaeenefdbahfoaaDoorW.PrintLast Go.Proofs.YtaeenefdbahfoaaDoorW.PrintMore
open H
open Go.RowKit
end Go.Proofs.YtaeenefdbahfoaaDoor
namespace Go.Proofs.YtaeenefdbahfoaaDoor
set_option linter.unusedSimpArgs false
set_option linter.unusedVariables false
open Go.RowKit Go.Proofs.YtaeenefdbahfoaaDoorW.PrintWords Go.Proofs.YtaeenefdbahfoaaDoorW.PrintLast Go.Proofs.YtaeenefdbahfoaaDoorW.PrintMore
open H
open Go.Shelf Go.RowKit Go.Lib Go.Sort
end Go.Proofs.YtaeenefdbahfoaaDoor
namespace Go.Proofs.YtaeenefdbahfoaaDoor
set_option linter.unusedSimpArgs false
set_option linter.unusedVariables false
open Go.RowKit Go.Proofs.YtaeenefdbahfoaaDoorW.PrintWords Go.Proofs.YtaeenefdbahfoaaDoorW.PrintLast Go.Proofs.YtaeenefdbahfoaaDoorW.PrintMore
open H
open Go.Shelf Go.RowKit Go.Lib Go.Sort
end Go.Proofs.YtaeenefdbahfoaaDoor
namespace Go.Proofs.YtaeenefdbahfoaaDoor
set_option linter.unusedSimpArgs false
set_option linter.unusedVariables false
open Go.RowKit Go.Proofs.YtaeenefdbahfoaaDoorW.PrintWords Go.Proofs.YtaeenefdbahfoaaDoorW.PrintLast Go.Proofs.YtaeenefdbahfoaaDoorW.PrintMore
open H
open Go.Shelf Go.RowKit Go.Lib Go.Sort
end Go.Proofs.YtaeenefdbahfoaaDoor
namespace Go.Proofs.YtaeenefdbahfoaaDoor
set_option linter.unusedSimpArgs false
set_option linter.unusedVariables false
open Go.RowKit Go.Proofs.YtaeenefdbahfoaaDoorW.PrintWords Go.Proofs.YtaeenefdbahfoaaDoorW.PrintLast Go.Proofs.YtaeenefdbahfoaaDoorW.PrintMore
open H
open Go.Shelf Go.RowKit Go.Lib Go.Sort
end Go.Proofs.YtaeenefdbahfoaaDoor
namespace Go.Proofs.YtaeenefdbahfoaaDoor
set_option linter.unusedSimpArgs false
set_option linter.unusedVariables false
open Go.RowKit Go.Proofs.YtaeenefdbahfoaaDoorW.PrintWords Go.Proofs.YtaeenefdbahfoaaDoorW.PrintLast Go.Proofs.YtaeenefdbahfoaaDoorW.PrintMore
open H
open Go.Shelf Go.RowKit Go.Lib Go.Sort
end Go.Proofs.YtaeenefdbahfoaaDoor
namespace Go.Proofs.YtaeenefdbahfoaaDoor
set_option linter.unusedSimpArgs false
set_option linter.unusedVariables false
open Go.RowKit Go.Proofs.YtaeenefdbahfoaaDoorW.PrintWords Go.Proofs.YtaeenefdbahfoaaDoorW.PrintLast Go.Proofs.YtaeenefdbahfoaaDoorW.PrintMore
open H
open Go.RowKit
theorem u64N (n : Nat) (h : n < 18446744073709551616) : IntKind.u64.wrap (n : Int) = n := by
  have : IntKind.u64.wrap (n : Int) = (n : Int) % 18446744073709551616 := by simp [IntKind.wrap, IntKind.signed, IntKind.bits]
  rw [this]
  omega
theorem ofIntN (n : Nat) (h : n < 18446744073709551616) : (BitVec.ofInt 64 (n : Int)).toNat = n := by
  rw [BitVec.toNat_ofInt]
  omega
theorem andN (a c : Nat) (ha : a < 18446744073709551616) (hc : c < 18446744073709551616) : Go.bits .and .u64 (a : Int) (c : Int) = ((a &&& c : Nat) : Int) := by
  have key : (BitVec.ofInt 64 (a : Int) &&& BitVec.ofInt 64 (c : Int)).toNat = a &&& c := by rw [BitVec.toNat_and, ofIntN a ha, ofIntN c hc]
  show IntKind.u64.wrap ((BitVec.ofInt 64 (a : Int) &&& BitVec.ofInt 64 (c : Int)).toNat : Nat) = _
  rw [key]
  exact u64N _ (Nat.lt_of_le_of_lt Nat.and_le_left ha)
theorem orN (a c : Nat) (ha : a < 18446744073709551616) (hc : c < 18446744073709551616) : Go.bits .or .u64 (a : Int) (c : Int) = ((a ||| c : Nat) : Int) := by
  have key : (BitVec.ofInt 64 (a : Int) ||| BitVec.ofInt 64 (c : Int)).toNat = a ||| c := by rw [BitVec.toNat_or, ofIntN a ha, ofIntN c hc]
  show IntKind.u64.wrap ((BitVec.ofInt 64 (a : Int) ||| BitVec.ofInt 64 (c : Int)).toNat : Nat) = _
  rw [key]
  exact u64N _ (Nat.or_lt_two_pow (n := 64) ha hc)
theorem leO_upG {α : Type} {g : Nat → Option α} (h : ∀ k, LeO (g k) (g (k + 1))) {n : Nat} {r : α} (hn : g n = some r) : ∀ m, g (n + m) = some r
  | 0 => hn
  | m + 1 => h (n + m) r (leO_upG h hn m)
theorem leO_geG {α : Type} {g : Nat → Option α} (h : ∀ k, LeO (g k) (g (k + 1))) {n : Nat} {r : α} (hn : g n = some r) (K : Nat) (hK : n ≤ K) : g K = some r := by
  obtain ⟨m, rfl⟩ : ∃ m, K = n + m := ⟨K - n, by omega⟩
  exact leO_upG h hn m
theorem badN (B S m1 m2 o : Nat) (hB : B < 18446744073709551616) (hS : S < 18446744073709551616) (ho : o < 18446744073709551616) (h1 : m1 &&& (o ||| 1) = 0) (h2 : m2 &&& o = 0) : badH ((B &&& m1 : Nat) : Int) ((S &&& m2 : Nat) : Int) (o : Int) = false := by
  unfold badH
  have e := orN o 1 ho (by decide)
  rw [show ((1 : Nat) : Int) = 1 from rfl] at e
  rw [e, andN _ _ (Nat.lt_of_le_of_lt Nat.and_le_left hB) (Nat.or_lt_two_pow (n := 64) ho (by decide)), andN _ _ (Nat.lt_of_le_of_lt Nat.and_le_left hS) ho, Nat.and_assoc, Nat.and_assoc, h1, h2]
  simp
theorem badZ (o : Int) (ho : o = 18446744073709551615) : badH 0 0 o = false := by subst ho; decide +kernel
theorem even_and (B m : Nat) (h : m % 2 = 0) : (B &&& m) % 2 = 0 := by
  have := Nat.and_mod_two_pow (a := B) (b := m) (n := 1)
  simp only [Nat.pow_one] at this
  rw [this, h, Nat.and_zero]
/-- a table as the law makes it: the numbers, and that it may be -/
def Tb (L : Int) (b0 b1 s0 s1 : Nat) : Prop := (1 ≤ L ∧ L ≤ 3) ∧ checkT L b0 b1 s0 s1 = none ∧ b0 % 2 = 0 ∧ b1 % 2 = 0 ∧ b0 < 18446744073709551616 ∧ b1 < 18446744073709551616 ∧ s0 < 18446744073709551616 ∧ s1 < 18446744073709551616 ∧ (L = 1 → b1 = 0 ∧ s1 = 0)
theorem some_rule (l : Int) (B B1 S S1 : Nat) (hB : B < 18446744073709551616) (hB1 : B1 < 18446744073709551616) (hS : S < 18446744073709551616) (hS1 : S1 < 18446744073709551616) :
    ∃ (L : Int) (b0 b1 s0 s1 : Nat), XSome5.f l B B1 S S1 = some (L, (b0 : Int), (b1 : Int), (s0 : Int), (s1 : Int)) ∧ Tb L b0 b1 s0 s1 := by
  have hL : latT l = 1 ∨ latT l = 2 ∨ latT l = 3 := by unfold latT; omega
  have lt := fun (a b : Nat) (h : a < 18446744073709551616) => Nat.lt_of_le_of_lt (Nat.and_le_left (n := a) (m := b)) h
  unfold XSome5.f
  rcases hL with hL | hL | hL <;> rw [hL]
  · have e1 : andM B (bornT 1) = ((B &&& 18446744073709551614 : Nat) : Int) := andN B 18446744073709551614 hB (by decide)
    have e2 : andM S (maskT 1) = ((S &&& 18446744073709551615 : Nat) : Int) := andN S 18446744073709551615 hS (by decide)
    have h0' : badH ((B &&& 18446744073709551614 : Nat) : Int) ((S &&& 18446744073709551615 : Nat) : Int) (restT 1) = false := badN B S 18446744073709551614 18446744073709551615 0 hB hS (by decide) (by decide +kernel) (by decide +kernel)
    refine ⟨1, B &&& 18446744073709551614, 0, S &&& 18446744073709551615, 0, ?_, ⟨by decide, by decide⟩, ?_, even_and _ _ rfl, rfl, lt _ _ hB, by decide, lt _ _ hS, by decide, fun _ => ⟨rfl, rfl⟩⟩
    · rw [e1, e2, if_pos rfl, if_pos rfl]; rfl
    · unfold checkT
      rw [if_pos (by decide), if_neg (by rw [h0', show ((0 : Nat) : Int) = 0 from rfl, badZ (outT 1) rfl]; decide)]
  · have e1 : andM B (bornT 2) = ((B &&& 14 : Nat) : Int) := andN B 14 hB (by decide)
    have e1' : andM B1 (bornT 2) = ((B1 &&& 14 : Nat) : Int) := andN B1 14 hB1 (by decide)
    have e2 : andM S (maskT 2) = ((S &&& 15 : Nat) : Int) := andN S 15 hS (by decide)
    have e2' : andM S1 (maskT 2) = ((S1 &&& 15 : Nat) : Int) := andN S1 15 hS1 (by decide)
    have h0 : badH ((B &&& 14 : Nat) : Int) ((S &&& 15 : Nat) : Int) (restT 2) = false := badN B S 14 15 18446744073709551600 hB hS (by decide) (by decide +kernel) (by decide +kernel)
    have h0' : badH ((B1 &&& 14 : Nat) : Int) ((S1 &&& 15 : Nat) : Int) (outT 2) = false := badN B1 S1 14 15 18446744073709551600 hB1 hS1 (by decide) (by decide +kernel) (by decide +kernel)
    refine ⟨2, B &&& 14, B1 &&& 14, S &&& 15, S1 &&& 15, ?_, ⟨by decide, by decide⟩, ?_, even_and _ _ rfl, even_and _ _ rfl, lt _ _ hB, lt _ _ hB1, lt _ _ hS, lt _ _ hS1, fun h => absurd h (by decide)⟩
    · rw [if_neg (by decide), if_neg (by decide), e1, e1', e2, e2']
    · unfold checkT
      rw [if_pos (by decide), if_neg (by rw [h0, h0']; decide)]
  · have e1 : andM B (bornT 3) = ((B &&& 8190 : Nat) : Int) := andN B 8190 hB (by decide)
    have e1' : andM B1 (bornT 3) = ((B1 &&& 8190 : Nat) : Int) := andN B1 8190 hB1 (by decide)
    have e2 : andM S (maskT 3) = ((S &&& 8191 : Nat) : Int) := andN S 8191 hS (by decide)
    have e2' : andM S1 (maskT 3) = ((S1 &&& 8191 : Nat) : Int) := andN S1 8191 hS1 (by decide)
    have h0 : badH ((B &&& 8190 : Nat) : Int) ((S &&& 8191 : Nat) : Int) (restT 3) = false := badN B S 8190 8191 18446744073709543424 hB hS (by decide) (by decide +kernel) (by decide +kernel)
    have h0' : badH ((B1 &&& 8190 : Nat) : Int) ((S1 &&& 8191 : Nat) : Int) (outT 3) = false := badN B1 S1 8190 8191 18446744073709543424 hB1 hS1 (by decide) (by decide +kernel) (by decide +kernel)
    refine ⟨3, B &&& 8190, B1 &&& 8190, S &&& 8191, S1 &&& 8191, ?_, ⟨by decide, by decide⟩, ?_, even_and _ _ rfl, even_and _ _ rfl, lt _ _ hB, lt _ _ hB1, lt _ _ hS, lt _ _ hS1, fun h => absurd h (by decide)⟩
    · rw [if_neg (by decide), if_neg (by decide), e1, e1', e2, e2']
    · unfold checkT
      rw [if_pos (by decide), if_neg (by rw [h0, h0']; decide)]
theorem nxB_zero (b : Nat) (hb : b < 18446744073709551616) (h : b % 2 = 0) : nxB (b : Int) 0 = false := by
  unfold nxB
  have e : (b : Int) / 2 ^ (0 : Int).toNat = (b : Int) := by simp
  have := andN b 1 hb (by decide)
  rw [e]
  rw [show ((1 : Nat) : Int) = 1 from rfl] at this
  rw [this, Nat.and_one_is_mod, h]
  rfl
theorem rule_zero {L : Int} {b0 b1 s0 s1 : Nat} (h : Tb L b0 b1 s0 s1) : ∀ x, nxtV b0 b1 s0 s1 x false 0 = false := by
  intro x
  obtain ⟨_, _, h0, h1, l0, l1, _⟩ := h
  unfold nxtV
  split
  · rfl
  · rw [if_neg (by decide)]
    split
    · exact nxB_zero b0 l0 h0
    · exact nxB_zero b1 l1 h1
def Bx (l R : Int) (s : List CL) : Prop := ∀ c ∈ s, hOK l c.f1 ∧ (-R ≤ c.f0.f0 ∧ c.f0.f0 ≤ R) ∧ (-R ≤ c.f0.f1 ∧ c.f0.f1 ≤ R)
theorem Bx.half {l R : Int} {s : List CL} (h : Bx l R s) : ∀ c ∈ s, hOK l c.f1 := fun c hc => (h c hc).1
theorem Bx.mono {l R R' : Int} {s : List CL} (h : Bx l R s) (hR : R ≤ R') : Bx l R' s := fun c hc => by
  obtain ⟨h1, h2, h3⟩ := h c hc
  exact ⟨h1, by omega, by omega⟩
theorem Bx.chk {l R : Int} {s : List CL} (hl : 1 ≤ l ∧ l ≤ 3) (hR : R ≤ 1000000000) (h : Bx l R s) : ∀ c ∈ s, checkR l c.f0.f0 c.f0.f1 c.f1 = none := fun c hc => by
  obtain ⟨h1, h2, h3⟩ := h c hc
  unfold checkR
  rw [if_pos hl, if_neg, if_pos (by unfold goodP; omega)]
  unfold hOK at h1
  by_cases e : l = 1
  · rw [if_pos e]; have := h1.2 e; omega
  · rw [if_neg e]; omega
theorem Bx.ok {l R : Int} {s : List CL} (hl : 1 ≤ l ∧ l ≤ 3) (hR : R ≤ 1000000000) (h : Bx l R s) : (s.all fun c => okC l c) = true := by
  rw [List.all_eq_true]
  intro c hc
  unfold okC
  rw [Bool.and_eq_true]
  refine ⟨by rw [h.chk hl hR c hc]; rfl, ?_⟩
  rw [List.all_eq_true]
  intro d hd
  obtain ⟨h1, h2, h3⟩ := h c hc
  have := bes_near l c d hl h1 hd
  exact decide_eq_true (by unfold goodP; omega)
theorem Bx.next {l R : Int} {s : List CL} {nx : Rul} (hl : 1 ≤ l ∧ l ≤ 3) (h0 : ∀ x, nx x false 0 = false) (hs : Srt s) (h : Bx l R s) : Bx l (R + 1) (nextL nx l s) := fun c hc => by
  have hh := ((next_mem nx l hl h0 s (srt_nodup hs) h.half c).1 hc).1
  obtain ⟨d, hd, h1, h2, h3, h4⟩ := next_near nx l hl h0 s (srt_nodup hs) h.half c hc
  obtain ⟨_, h5, h6⟩ := h d hd
  exact ⟨hh, by omega, by omega⟩
theorem next_len (nx : Rul) (l : Int) (s : List CL) : (nextL nx l s).length ≤ 13 * s.length := by
  unfold nextL nextRaw
  refine Nat.le_trans (ofL_le _) ?_
  rw [List.length_append]
  have h1 := keep_le nx (arL l s) s
  have h2 := bornL_le nx (keepL nx (arL l s) s).1
  have h3 := arL_le l s
  omega
theorem step_f {L : Int} {b0 b1 s0 s1 : Nat} (ht : Tb L b0 b1 s0 s1) (s : List CL) (hs : Srt s) (R : Int) (hR : R ≤ 1000000000) (hb : Bx L R s) (hn : s.length < 1073741824) :
    XStep.f L b0 b1 s0 s1 s = some (nextL (nxtV b0 b1 s0 s1) L s, none) := by
  unfold XStep.f
  rw [if_pos ⟨hn, ht.2.1, hs, hb.ok ht.1 hR⟩]
theorem XOf_srt {s : List CL} (hs : Srt s) (hn : s.length < 1073741824) : XOf.f s = some s := by
  unfold XOf.f
  rw [if_pos (by omega), ofL_of_srt hs]
def fewG (r : RC) : RC := ⟨Int.tmod r.f0 7, Int.tmod r.f1 7, r.f2⟩
def someG (l : Int) (r : RC) : CL := ⟨⟨Int.tmod r.f0 100, Int.tmod r.f1 100⟩, if l = 1 then 0 else r.f2 % 2⟩
theorem rdRC (l : List RC) (j : Nat) (hj : j < l.length) : rd_T60 l j = l[j] := by simp [rd_T60, hj]
theorem tmod_small (x m : Int) (h1 : -m < x) (h2 : x < m) : Int.tmod x m = x := by
  rcases Int.le_total 0 x with h | h
  · rw [Int.tmod_eq_emod_of_nonneg h, Int.emod_eq_of_lt h h2]
  · obtain ⟨y, rfl⟩ : ∃ y, x = -y := ⟨-x, by omega⟩
    rw [Int.neg_tmod, Int.tmod_eq_emod_of_nonneg (by omega), Int.emod_eq_of_lt (by omega) (by omega)]
theorem some4_l0 (l : Int) (raw : List RC) : ∀ (d k i : Nat) (acc : List CL), i + d = min raw.length 40 → d < k → acc.length ≤ i → honeycomblaw04_Some.l0 k l raw acc i = some (ofL (acc ++ ((raw.take (i + d)).drop i).map (someG l))) := by
  intro d
  induction d with
  | zero =>
    intro k i acc hi hk ha
    obtain ⟨k, rfl⟩ : ∃ m, k = m + 1 := ⟨k - 1, by omega⟩
    have hof : XOf.f acc = some (ofL acc) := by unfold XOf.f; rw [if_pos (by omega)]
    have hd : ((raw.take (i + 0)).drop i).map (someG l) = [] := by rw [List.drop_eq_nil_of_le (by rw [List.length_take]; omega)]; rfl
    rw [hd, List.append_nil]
    simp only [honeycomblaw04_Some.l0, hof, Option.bind_some]
    by_cases h : i < raw.length
    · rw [if_pos (by omega), if_neg (by omega)]
    · rw [if_neg (by omega)]
  | succ d ih =>
    intro k i acc hi hk ha
    obtain ⟨k, rfl⟩ : ∃ m, k = m + 1 := ⟨k - 1, by omega⟩
    have h1 : i < raw.length := by omega
    simp only [honeycomblaw04_Some.l0]
    rw [if_pos (by omega), if_pos (by omega), if_pos (by omega), rdRC raw i h1]
    unfold XSome3.f
    simp only [Option.bind_some]
    rw [if_pos (by omega), w64i ((i : Int) + 1) (by omega) (by omega)]
    have := ih k (i + 1) (acc ++ [someG l raw[i]]) (by omega) (by omega) (by rw [List.length_append]; simp; omega)
    simp only [Int.natCast_add, Int.cast_ofNat_Int] at this
    refine this.trans ?_
    have hd : (raw.take (i + (d + 1))).drop i = raw[i] :: (raw.take (i + 1 + d)).drop (i + 1) := by
      have hl : i < (raw.take (i + (d + 1))).length := by rw [List.length_take]; omega
      rw [List.drop_eq_getElem_cons hl, List.getElem_take]
      congr 3
      omega
    rw [hd, List.map_cons, List.append_assoc, List.singleton_append]
theorem some4_f (K : Nat) (l : Int) (raw : List RC) (hK : 41 ≤ K) : honeycomblaw04_Some.f K l raw = some (ofL ((raw.take 40).map (someG l))) := by
  unfold honeycomblaw04_Some.f
  have := some4_l0 l raw (min raw.length 40) K 0 [] (by omega) (by omega) (by simp)
  refine this.trans ?_
  rw [List.nil_append, List.drop_zero, Nat.zero_add]
  congr 3
  rw [List.take_eq_take_iff]
  omega
theorem few_l0 (l : Int) (raw : List RC) : ∀ (d k i : Nat) (acc : List RC), i + d = min raw.length 16 → d + 42 ≤ k → acc.length ≤ i → honeycomblaw08_Few.l0 k l raw acc i = some (ofL (((acc ++ ((raw.take (i + d)).drop i).map fewG).take 40).map (someG l))) := by
  intro d
  induction d with
  | zero =>
    intro k i acc hi hk ha
    obtain ⟨k, rfl⟩ : ∃ m, k = m + 1 := ⟨k - 1, by omega⟩
    have hd : ((raw.take (i + 0)).drop i).map fewG = [] := by rw [List.drop_eq_nil_of_le (by rw [List.length_take]; omega)]; rfl
    rw [hd, List.append_nil]
    simp only [honeycomblaw08_Few.l0, some4_f k l acc (by omega), Option.bind_some]
    by_cases h : i < raw.length
    · rw [if_pos (by omega), if_neg (by omega)]
    · rw [if_neg (by omega)]
  | succ d ih =>
    intro k i acc hi hk ha
    obtain ⟨k, rfl⟩ : ∃ m, k = m + 1 := ⟨k - 1, by omega⟩
    have h1 : i < raw.length := by omega
    simp only [honeycomblaw08_Few.l0]
    rw [if_pos (by omega), if_pos (by omega), if_pos (by omega), rdRC raw i h1, if_pos (by omega), w64i ((i : Int) + 1) (by omega) (by omega)]
    have := ih k (i + 1) (acc ++ [fewG raw[i]]) (by omega) (by omega) (by rw [List.length_append]; simp; omega)
    simp only [Int.natCast_add, Int.cast_ofNat_Int] at this
    refine this.trans ?_
    have hd : (raw.take (i + (d + 1))).drop i = raw[i] :: (raw.take (i + 1 + d)).drop (i + 1) := by
      have hl : i < (raw.take (i + (d + 1))).length := by rw [List.length_take]; omega
      rw [List.drop_eq_getElem_cons hl, List.getElem_take]
      congr 3
      omega
    rw [hd, List.map_cons, List.append_assoc, List.singleton_append]
/-- few cells near the origin -/
theorem few_f (K : Nat) (l : Int) (raw : List RC) (hK : 60 ≤ K) : ∃ s, honeycomblaw08_Few.f K l raw = some s ∧ Srt s ∧ s.length ≤ 16 ∧ Bx l 6 s := by
  have := few_l0 l raw (min raw.length 16) K 0 [] (by omega) (by omega) (by simp)
  refine ⟨_, this, ofL_srt _, ?_, ?_⟩
  · refine Nat.le_trans (ofL_le _) ?_
    simp [List.length_take]
    omega
  · intro c hc
    rw [ofL_mem] at hc
    obtain ⟨r, hr, rfl⟩ := List.mem_map.1 hc
    have hr := List.mem_of_mem_take hr
    rw [List.nil_append] at hr
    obtain ⟨q, _, rfl⟩ := List.mem_map.1 hr
    have t1 := tmod_range q.f0 7 (by omega)
    have t2 := tmod_range q.f1 7 (by omega)
    have u1 : Int.tmod (Int.tmod q.f0 7) 100 = Int.tmod q.f0 7 := tmod_small _ 100 (by omega) (by omega)
    have u2 : Int.tmod (Int.tmod q.f1 7) 100 = Int.tmod q.f1 7 := tmod_small _ 100 (by omega) (by omega)
    simp only [someG, fewG, u1, u2]
    refine ⟨?_, by omega, by omega⟩
    unfold hOK
    by_cases e : l = 1
    · rw [if_pos e]; exact ⟨.inl rfl, fun _ => rfl⟩
    · rw [if_neg e]; exact ⟨by omega, fun h => absurd h e⟩
end Go.Proofs.YtaeenefdbahfoaaDoor
namespace Go.Proofs.YtaeenefdbahfoaaDoorW.PrintWords
set_option linter.unusedSimpArgs false
set_option linter.unusedVariables false
open Go.RowKit
section
variable {P : Program} {ops : Array Oper} {rest : List Oper} {o : Oper} {a : Act} {Q : Exit → Act → World → Prop} {W : World}
/-- The gate takes the guard off (hw: 'by rfl', 'by kernel_rfl': the guard's slot holds what is wanted). -/
theorem gate_guard (hw : Region.wanted o (yielded ops a.tmps) = true) (h : wpList P ops Q ({ o with guard := none } :: rest) a W) : wpList P ops Q (o :: rest) a W := by
  have h1 : Region.wanted { o with guard := none } (yielded ops a.tmps) = true := rfl
  unfold wpList at h ⊢
  rw [if_pos h1] at h
  rw [if_pos hw]
  exact h
end
end Go.Proofs.YtaeenefdbahfoaaDoorW.PrintWords
namespace Go.Proofs.YtaeenefdbahfoaaDoor
open Go.RowKit Go.Proofs.YtaeenefdbahfoaaDoorW.PrintWords Go.Proofs.YtaeenefdbahfoaaDoorW.PrintLast Go.Proofs.YtaeenefdbahfoaaDoorW.PrintMore
open H
open Go.RowKit
set_option linter.unusedSimpArgs false
end Go.Proofs.YtaeenefdbahfoaaDoor
namespace Go.Proofs.YtaeenefdbahfoaaDoor
open Go.RowKit Go.Proofs.YtaeenefdbahfoaaDoorW.PrintWords Go.Proofs.YtaeenefdbahfoaaDoorW.PrintLast Go.Proofs.YtaeenefdbahfoaaDoorW.PrintMore
open H
open Go.RowKit
set_option linter.unusedSimpArgs false
def XLetter.f (x : Int) : Option Int := (bits_OnesCount.f (IntKind.u64.wrap x)).bind fun t => (table_turned.f x 1).bind fun u => (bits_OnesCount.f (IntKind.u64.wrap (Go.bits .and .i64 x u))).bind fun b => (table_turned.f x 2).bind fun v =>
  some (if t = 3 ∧ b = 0 then 112 else if t = 3 ∧ b = 1 then 109 else if b > 0 then 111 else if Go.bits .and .i64 x v = 0 then 112 else 109)
set_option maxRecDepth 100000 in
set_option maxHeartbeats 4000000 in
theorem letter_walk (x t u b v : Int) (w : World) (h1 : bits_OnesCount.f (IntKind.u64.wrap x) = some t) (h2 : table_turned.f x 1 = some u) (h3 : bits_OnesCount.f (IntKind.u64.wrap (Go.bits .and .i64 x u)) = some b) (h4 : table_turned.f x 2 = some v) :
    Calls Tryd.prog 109 #[.int .i64 x] w fun e w' => e = .returned (.int .u8 (if t = 3 ∧ b = 0 then 112 else if t = 3 ∧ b = 1 then 109 else if b > 0 then 111 else if Go.bits .and .i64 x v = 0 then 112 else 109)) ∧ Below w.heap.size w w' := by
  have c1 := fun W => bits_OnesCount.calls (IntKind.u64.wrap x) t W h1
  have c2 := fun W => table_turned.calls x 1 u W h2
  have c3 := fun W => bits_OnesCount.calls (IntKind.u64.wrap (Go.bits .and .i64 x u)) b W h3
  have c4 := fun W => table_turned.calls x 2 v W h4
  clear h1 h2 h3 h4
  generalize hy : Go.bits .and .i64 x u = y at c3
  generalize hz : Go.bits .and .i64 x v = z
  have HB0 := Aside0.mk (Below.refl w.heap.size w)
  have key : ∀ r : Int, (if t = 3 ∧ b = 0 then 112 else if t = 3 ∧ b = 1 then 109 else if b > 0 then 111 else if z = 0 then 112 else 109) = r →
      Calls Tryd.prog 109 #[.int .i64 x] w fun e w' => e = .returned (.int .u8 r) ∧ Below w.heap.size w w' := by
    intro r hr
    have HR := Aside0.mk hr
    clear hr
    go_enter Tryd.func109, Tryd.ntmps109
    go_wp2_with fail
    refine (c1 _).mono ?_
    rintro e w1 ⟨rfl, hd1⟩
    have HB1 := Aside0.mk (hd1.below : Below w.heap.size w w1)
    clear hd1
    by_cases ht : t = 3
    · subst ht
      go_wp2_with fail
      refine (c2 _).mono ?_
      rintro e w2 ⟨rfl, hd2⟩
      have HB2 := Aside0.mk (HB1.out.trans ((hd2.below).mono HB1.out.size))
      clear hd2
      go_wp2_with fail
      refine (c3 _).mono ?_
      rintro e w3 ⟨rfl, hd3⟩
      have HB3 := Aside0.mk (HB2.out.trans ((hd3.below).mono HB2.out.size))
      clear hd3
      by_cases hb0 : b = 0
      · subst hb0
        go_wp2
        go_ret
        exact ⟨by rw [← HR.out]; simp, HB3.out⟩
      · have e0 : (b == 0) = false := beq_eq_false_iff_ne.2 hb0
        by_cases hb1 : b = 1
        · subst hb1
          go_wp2
          go_ret
          exact ⟨by rw [← HR.out]; simp, HB3.out⟩
        · have e1 : (b == 1) = false := beq_eq_false_iff_ne.2 hb1
          by_cases hbp : b > 0
          · go_wp2
            go_ret
            exact ⟨by rw [← HR.out]; simp [hb0, hb1, hbp], HB3.out⟩
          · by_cases hz0 : z = 0
            · have ez : (z != 0) = false := by simp [hz0]
              go_wp2_with fail
              refine (c4 _).mono ?_
              rintro e w4 ⟨rfl, hd4⟩
              have HB4 := Aside0.mk (HB3.out.trans ((hd4.below).mono HB3.out.size))
              clear hd4
              go_wp2
              go_ret
              exact ⟨by rw [← HR.out]; simp [hb0, hb1, hbp, hz0], HB4.out⟩
            · have ez : (z != 0) = true := by simp [hz0]
              go_wp2_with fail
              refine (c4 _).mono ?_
              rintro e w4 ⟨rfl, hd4⟩
              have HB4 := Aside0.mk (HB3.out.trans ((hd4.below).mono HB3.out.size))
              clear hd4
              go_wp2
              go_ret
              exact ⟨by rw [← HR.out]; simp [hb0, hb1, hbp, hz0], HB4.out⟩
    · have et : (t == 3) = false := beq_eq_false_iff_ne.2 ht
      go_wp2_with fail
      refine (c2 _).mono ?_
      rintro e w2 ⟨rfl, hd2⟩
      have HB2 := Aside0.mk (HB1.out.trans ((hd2.below).mono HB1.out.size))
      clear hd2
      go_wp2_with fail
      refine (c3 _).mono ?_
      rintro e w3 ⟨rfl, hd3⟩
      have HB3 := Aside0.mk (HB2.out.trans ((hd3.below).mono HB2.out.size))
      clear hd3
      by_cases hbp : b > 0
      · go_wp2
        go_ret
        exact ⟨by rw [← HR.out]; simp [ht, hbp], HB3.out⟩
      · by_cases hz0 : z = 0
        · have ez : (z != 0) = false := by simp [hz0]
          go_wp2_with fail
          refine (c4 _).mono ?_
          rintro e w4 ⟨rfl, hd4⟩
          have HB4 := Aside0.mk (HB3.out.trans ((hd4.below).mono HB3.out.size))
          clear hd4
          go_wp2
          go_ret
          exact ⟨by rw [← HR.out]; simp [ht, hbp, hz0], HB4.out⟩
        · have ez : (z != 0) = true := by simp [hz0]
          go_wp2_with fail
          refine (c4 _).mono ?_
          rintro e w4 ⟨rfl, hd4⟩
          have HB4 := Aside0.mk (HB3.out.trans ((hd4.below).mono HB3.out.size))
          clear hd4
          go_wp2
          go_ret
          exact ⟨by rw [← HR.out]; simp [ht, hbp, hz0], HB4.out⟩
  exact key _ rfl
theorem XLetter.calls (a0 : Int) (r : Int) (w : World) (h : XLetter.f a0 = some r) :
    Calls Tryd.prog 109 #[.int .i64 a0] w fun e w' => e = .returned (.int .u8 r) ∧ Below w.heap.size w w' := by
  unfold XLetter.f at h
  obtain ⟨t, h1, h⟩ := Option.bind_eq_some_iff.1 h
  obtain ⟨u, h2, h⟩ := Option.bind_eq_some_iff.1 h
  obtain ⟨b, h3, h⟩ := Option.bind_eq_some_iff.1 h
  obtain ⟨v, h4, h⟩ := Option.bind_eq_some_iff.1 h
  obtain rfl := Option.some.inj h
  exact letter_walk a0 t u b v w h1 h2 h3 h4
end Go.Proofs.YtaeenefdbahfoaaDoor
namespace Go.Proofs.YtaeenefdbahfoaaDoor.H
open Go.RowKit Go.Proofs.YtaeenefdbahfoaaDoorW.PrintWords Go.Proofs.YtaeenefdbahfoaaDoorW.PrintLast Go.Proofs.YtaeenefdbahfoaaDoorW.PrintMore
attribute [local go_sem] max2_int min2_int max_two min_two max_three min_three max_four min_four   -- for this text's walks alone
set_option linter.unusedVariables false
set_option linter.unusedSimpArgs false
attribute [local go_sem high] eqA104
def table_Ring.j0 : Nat → Int → Int → Bool → Option (Int × Int)
 | 0, _, _, _ => none
 | k + 1, x0, x3, x12 => if x12 = true then ((XLetter.f x0).bind fun t283 => (some (x3, t283))) else (some (x3, 0))
def table_Ring.f (k : Nat) (a0 : Int) : Option (Int × Int) := (bits_OnesCount.f (IntKind.u64.wrap (Go.bits .and .i64 a0 63))).bind fun t281 => (if t281 = 4 then ((XLetter.f (Go.bits .and .i64 (Go.bits .xor .i64 (-1) (Go.bits .and .i64 a0 63)) 63)).bind fun t282 => (some (t281, t282))) else (if t281 = 2 then (table_Ring.j0 k (Go.bits .and .i64 a0 63) t281 (t281 == 2)) else (table_Ring.j0 k (Go.bits .and .i64 a0 63) t281 (t281 == 3))))
theorem table_Ring.mono_l : ∀ k, (∀ y0 y1 y2, LeO (table_Ring.j0 k y0 y1 y2) (table_Ring.j0 (k + 1) y0 y1 y2))
 | 0 => fun _ _ _ r h => by simp [table_Ring.j0] at h
 | k + 1 => by
  have ih0 := table_Ring.mono_l k
  ·
   intro y0 y1 y2
   unfold table_Ring.j0
   repeat' first
   | (with_reducible exact ih0 _ _ _)
   | (with_reducible exact LeO.refl _)
   | (with_reducible exact LeO.none _)
   | (with_reducible refine LeO.ite ?_ ?_)
   | (with_reducible refine LeO.bind ?_ (fun _ => ?_))
   | exact ih0 _ _ _
   | exact LeO.none _
   | refine LeO.ite ?_ ?_
   | refine LeO.bind ?_ (fun _ => ?_)
theorem table_Ring.mono : ∀ a0 k, LeO (table_Ring.f k a0) (table_Ring.f (k + 1) a0) := by
 intro a0 k
 have ih0 := table_Ring.mono_l k
 unfold table_Ring.f
 repeat' first
   | (with_reducible exact ih0 _ _ _)
   | (with_reducible exact LeO.refl _)
   | (with_reducible exact LeO.none _)
   | (with_reducible refine LeO.ite ?_ ?_)
   | (with_reducible refine LeO.bind ?_ (fun _ => ?_))
   | exact ih0 _ _ _
   | exact LeO.none _
   | refine LeO.ite ?_ ?_
   | refine LeO.bind ?_ (fun _ => ?_)
set_option maxHeartbeats 8000000 in
set_option maxRecDepth 100000 in
theorem table_Ring.calls (k : Nat) (a0 : Int) (r1 : Int) (r2 : Int) (w : World) (h : table_Ring.f k a0 = some (r1, r2)) :
  Calls Tryd.prog 94 #[.int .i64 a0] w fun e w' => e = .returned (.agg #[.int .i64 r1, .int .u8 r2]) ∧ Below w.heap.size w w' := by
 have hu104 := Tryd.underlying104
 have HB := Aside0.mk (Below.refl w.heap.size w)
 have H : ((bits_OnesCount.f (IntKind.u64.wrap (Go.bits .and .i64 a0 63))).bind fun t281 => (if t281 = 4 then ((XLetter.f (Go.bits .and .i64 (Go.bits .xor .i64 (-1) (Go.bits .and .i64 a0 63)) 63)).bind fun t282 => (some (t281, t282))) else (if t281 = 2 then (table_Ring.j0 k (Go.bits .and .i64 a0 63) t281 (t281 == 2)) else (table_Ring.j0 k (Go.bits .and .i64 a0 63) t281 (t281 == 3))))) = some (r1, r2) := h
 clear h
 replace H := Option.bind_eq_some_iff.mp H
 obtain ⟨t281, A20, H⟩ := H
 replace H : (if t281 = 4 then ((XLetter.f (Go.bits .and .i64 (Go.bits .xor .i64 (-1) (Go.bits .and .i64 a0 63)) 63)).bind fun t282 => (some (t281, t282))) else (if t281 = 2 then (table_Ring.j0 k (Go.bits .and .i64 a0 63) t281 (t281 == 2)) else (table_Ring.j0 k (Go.bits .and .i64 a0 63) t281 (t281 == 3)))) = some (r1, r2) := H
 have A2 := Aside0.mk A20
 clear A20
 by_cases c3 : t281 = 4
 ·
  rw [if_pos c3] at H
  have c3b0 : (t281 == 4) = true := beq_iff_eq.mpr c3
  have c3b1 : (t281 != 4) = false := bne_eq_false_iff_eq.mpr c3
  clear c3
  replace H := Option.bind_eq_some_iff.mp H
  obtain ⟨t282, A40, H⟩ := H
  replace H : (some (t281, t282)) = some (r1, r2) := H
  have A4 := Aside0.mk A40
  clear A40
  simp only [Option.some.injEq, Prod.mk.injEq] at H
  obtain ⟨rfl, rfl⟩ := H
  go_enter Tryd.func94, Tryd.ntmps94
  go_wp2_with (first | ((with_reducible refine gate_dst (N := 2) rfl ?_); refine box_event ?hg (N := 2) ?hd (cs := #[.int .i64 0, .int .u8 0]) (t := 104) ?hr ?_; (case hd => rfl); (case hg => rfl); (case hr => first | (go_simp; done) | (go_simp; rfl)); intro gb280 hg w5 hbox hb; have n0_ := Aside0.mk (below_step (by repeat (first | (with_reducible first | exact HB.out | apply ba_ | apply bn_ | apply bd_) | exact HB.out)) hb); have n1_ := Aside0.mk (hbox); have n2_ := Aside0.mk ((by rw [hg]; exact (below_size (by repeat (first | (with_reducible first | exact HB.out | apply ba_ | apply bn_ | apply bd_) | exact HB.out))) : w.heap.size ≤ gb280)); have n3_ := Aside0.mk ((by rw [hg]; exact (below_size (by repeat (first | (with_reducible first | exact HB.out | apply ba_ | apply bn_ | apply bd_) | exact HB.out))) : w.heap.size ≤ gb280)); clear HB; have HB := n0_; have BK280 := n1_; have GW280 := n2_; have GE280 := n3_; clear n0_ n1_ n2_ n3_; clear hb hbox hg) | ((with_reducible refine gate_callee (f := 108) rfl ?_); refine goesL_ (some 8) rfl rfl Tryd.func108 (by kernel_rfl) rfl #[.int .u64 (IntKind.u64.wrap (Go.bits .and .i64 a0 63))] rfl (by (try simp only [List.map_toArray, List.map_cons, List.map_nil]); first | done | rfl | (simp only [List.length_drop, List.length_take]; rfl)) ?_; (with_reducible refine (bits_OnesCount.calls (IntKind.u64.wrap (Go.bits .and .i64 a0 63)) t281 _ A2.out).mono ?_); rintro e w' ⟨rfl, ⟨nd, rfl⟩⟩; refine ⟨_, rfl, ?_⟩; (try (rw [drewN_self w5]; generalize hq_ : World.drewN w5 _ = w5; have n0_ : Aside0 (w5.heap[gb280]? = some (.cells #[.int .i64 0, .int .u8 0] 104 (0, 0))) := ⟨by rw [← hq_]; exact (by (with_reducible repeat (first | apply bN_ | apply bD_ | apply bA_)); exact BK280.out)⟩; have n1_ : Aside0 (Below w.heap.size w w5) := ⟨by rw [← hq_]; exact (by repeat (first | (with_reducible first | exact HB.out | apply ba_ | apply bn_ | apply bd_ | refine below_set ?_ GE280.out) | exact HB.out))⟩; clear BK280 HB hq_; have BK280 := n0_; have HB := n1_; clear n0_ n1_))) | ((with_reducible refine gate_callee (f := 109) rfl ?_); refine goesL_ (some 20) rfl rfl Tryd.func109 (by kernel_rfl) rfl #[.int .i64 (Go.bits .and .i64 (Go.bits .xor .i64 (-1) (Go.bits .and .i64 a0 63)) 63)] rfl (by (try simp only [List.map_toArray, List.map_cons, List.map_nil]); first | done | rfl | (simp only [List.length_drop, List.length_take]; rfl)) ?_; (with_reducible refine (XLetter.calls (Go.bits .and .i64 (Go.bits .xor .i64 (-1) (Go.bits .and .i64 a0 63)) 63) t282 _ A4.out).mono ?_); rintro e w6 ⟨rfl, hb⟩; refine ⟨_, rfl, ?_⟩; have n0_ := Aside0.mk (blk_below (g := gb280) (o := .cells #[.int .i64 0, .int .u8 0] 104 (0, 0)) (by (with_reducible repeat (first | apply bN_ | apply bD_ | apply bA_)); exact BK280.out) hb); have n1_ := Aside0.mk (below_step (by repeat (first | (with_reducible first | exact HB.out | apply ba_ | apply bn_ | apply bd_ | refine below_set ?_ GE280.out) | exact HB.out)) hb); clear BK280; clear HB; have BK280 := n0_; have HB := n1_; clear n0_ n1_; (try clear hb); (try clear hb2); (try clear hk); (try clear hi); have hcz7_0 : w6.cell? ⟨gb280, 0, none⟩ = some (.int .i64 0) := (blk_cell BK280.out 0).trans rfl; have hcz7_1 : w6.cell? ⟨gb280, 1, none⟩ = some (.int .u8 0) := (blk_cell BK280.out 1).trans rfl; have hfz7_0 := blk_frozen BK280.out 0; have hfz7_1 := blk_frozen BK280.out 1))
  refine bodyPost_ret (results_cell_row rfl _ _ gb280 104 #[.int .i64 t281, .int .u8 t282] (0, 0) _ rfl (by (with_reducible repeat (first | apply bN_ | apply bD_ | apply bA_)); refine blk_put (cs := #[.int .i64 t281, .int .u8 0]) ?_ 1 _ rfl; (with_reducible repeat (first | apply bN_ | apply bD_ | apply bA_)); refine blk_put (cs := #[.int .i64 0, .int .u8 0]) ?_ 0 _ rfl; (with_reducible repeat (first | apply bN_ | apply bD_ | apply bA_)); exact BK280.out) Tryd.underlying104 rfl (by kernel_rfl)) rfl ?_
  exact ⟨by first | rfl | (simp [errW_none, errW_some] <;> rfl) | (simp [*, errW_none, errW_some] <;> rfl), by repeat (first | (with_reducible first | exact HB.out | apply ba_ | apply bn_ | apply bd_ | refine below_set ?_ GE280.out) | exact HB.out)⟩
 ·
  rw [if_neg c3] at H
  have c3b0 : (t281 == 4) = false := beq_eq_false_iff_ne.mpr c3
  have c3b1 : (t281 != 4) = true := bne_iff_ne.mpr c3
  have HC8 := Aside0.mk H
  clear H
  go_enter Tryd.func94, Tryd.ntmps94
  go_upto_if 12 with (first | ((with_reducible refine gate_dst (N := 2) rfl ?_); refine box_event ?hg (N := 2) ?hd (cs := #[.int .i64 0, .int .u8 0]) (t := 104) ?hr ?_; (case hd => rfl); (case hg => rfl); (case hr => first | (go_simp; done) | (go_simp; rfl)); intro gb280 hg w9 hbox hb; have n0_ := Aside0.mk (below_step (by repeat (first | (with_reducible first | exact HB.out | apply ba_ | apply bn_ | apply bd_) | exact HB.out)) hb); have n1_ := Aside0.mk (hbox); have n2_ := Aside0.mk ((by rw [hg]; exact (below_size (by repeat (first | (with_reducible first | exact HB.out | apply ba_ | apply bn_ | apply bd_) | exact HB.out))) : w.heap.size ≤ gb280)); have n3_ := Aside0.mk ((by rw [hg]; exact (below_size (by repeat (first | (with_reducible first | exact HB.out | apply ba_ | apply bn_ | apply bd_) | exact HB.out))) : w.heap.size ≤ gb280)); clear HB; have HB := n0_; have BK280 := n1_; have GW280 := n2_; have GE280 := n3_; clear n0_ n1_ n2_ n3_; clear hb hbox hg) | ((with_reducible refine gate_callee (f := 108) rfl ?_); refine goesL_ (some 8) rfl rfl Tryd.func108 (by kernel_rfl) rfl #[.int .u64 (IntKind.u64.wrap (Go.bits .and .i64 a0 63))] rfl (by (try simp only [List.map_toArray, List.map_cons, List.map_nil]); first | done | rfl | (simp only [List.length_drop, List.length_take]; rfl)) ?_; (with_reducible refine (bits_OnesCount.calls (IntKind.u64.wrap (Go.bits .and .i64 a0 63)) t281 _ A2.out).mono ?_); rintro e w' ⟨rfl, ⟨nd, rfl⟩⟩; refine ⟨_, rfl, ?_⟩))
  (try simp only [Act.put, List.setIfInBounds_toArray, List.set_cons_zero, List.set_cons_succ])
  go_cut [12] (fun v12 wc => ∃ (kq : Nat) (x12_7 : Bool), v12 = .bool x12_7 ∧ Aside0 (table_Ring.j0 kq (Go.bits .and .i64 a0 63) t281 x12_7 = some (r1, r2)) ∧ Aside0 (kq ≤ k) ∧ Aside0 (wc.heap[gb280]? = some (.cells #[.int .i64 0, .int .u8 0] 104 (0, 0))) ∧ Aside0 (Below w.heap.size w wc))
  case first =>
   have H := HC8.out
   clear HC8
   by_cases c10 : t281 = 2
   ·
    rw [if_pos c10] at H
    have c10b0 : (t281 == 2) = true := beq_iff_eq.mpr c10
    have c10b1 : (t281 != 2) = false := bne_eq_false_iff_eq.mpr c10
    clear c10
    (first | rw [c10b0] | (simp only [i64_w, i32_w]; rw [c10b0]) | skip)
    have H' := Aside0.mk H
    clear H
    go_wp2
    go_meet
    case rel => exact ⟨_, ((t281 == 2)), (by first | rfl | (simp; done) | (simp [*]; done)), H', ⟨by first | omega | exact Nat.le_refl _⟩, ⟨by (with_reducible repeat (first | apply bN_ | apply bD_ | apply bA_)); exact BK280.out⟩, ⟨by repeat (first | (with_reducible first | exact HB.out | apply ba_ | apply bn_ | apply bd_ | refine below_set ?_ GE280.out) | exact HB.out)⟩⟩
   ·
    rw [if_neg c10] at H
    have c10b0 : (t281 == 2) = false := beq_eq_false_iff_ne.mpr c10
    have c10b1 : (t281 != 2) = true := bne_iff_ne.mpr c10
    (first | rw [c10b0] | (simp only [i64_w, i32_w]; rw [c10b0]) | skip)
    have H' := Aside0.mk H
    clear H
    go_wp2
    go_meet
    case rel => exact ⟨_, ((t281 == 3)), (by first | rfl | (simp; done) | (simp [*]; done)), H', ⟨by first | omega | exact Nat.le_refl _⟩, ⟨by (with_reducible repeat (first | apply bN_ | apply bD_ | apply bA_)); exact BK280.out⟩, ⟨by repeat (first | (with_reducible first | exact HB.out | apply ba_ | apply bn_ | apply bd_ | refine below_set ?_ GE280.out) | exact HB.out)⟩⟩
  case rest =>
   clear HC8
   try clear c1
   try clear p2
   try clear c3
   try clear c3b0
   try clear c3b1
   try clear c9
   try clear c10
   try clear c10b0
   try clear c10b1
   try clear hcz7_0
   try clear hcz7_1
   try clear hfz7_0
   try clear hfz7_1
   obtain ⟨kq, x12_7, rfl, HA, HJ7, BK280, HB⟩ := hcut
   cases kq with
   | zero => exact absurd HA.out (by simp [table_Ring.j0])
   | succ kj7 =>
    have H := HA.out
    clear HA
    simp only [table_Ring.j0] at H
    by_cases c11 : x12_7 = true
    ·
     subst c11
     have H1 : ((XLetter.f (Go.bits .and .i64 a0 63)).bind fun t283 => (some (t281, t283))) = some (r1, r2) := by rw [if_pos rfl] at H; exact H
     clear H
     have H := H1
     clear H1
     replace H := Option.bind_eq_some_iff.mp H
     obtain ⟨t283, A120, H⟩ := H
     replace H : (some (t281, t283)) = some (r1, r2) := H
     have A12 := Aside0.mk A120
     clear A120
     simp only [Option.some.injEq, Prod.mk.injEq] at H
     obtain ⟨rfl, rfl⟩ := H
     go_wp2_with (first | ((with_reducible refine gate_callee (f := 109) rfl ?_); refine goesL_ (some 20) rfl rfl Tryd.func109 (by kernel_rfl) rfl #[.int .i64 (Go.bits .and .i64 a0 63)] rfl (by (try simp only [List.map_toArray, List.map_cons, List.map_nil]); first | done | rfl | (simp only [List.length_drop, List.length_take]; rfl)) ?_; (with_reducible refine (XLetter.calls (Go.bits .and .i64 a0 63) t283 _ A12.out).mono ?_); rintro e w13 ⟨rfl, hb⟩; refine ⟨_, rfl, ?_⟩; have n0_ := Aside0.mk (blk_below (g := gb280) (o := .cells #[.int .i64 0, .int .u8 0] 104 (0, 0)) (by (with_reducible repeat (first | apply bN_ | apply bD_ | apply bA_)); exact BK280.out) hb); have n1_ := Aside0.mk (below_step (by repeat (first | (with_reducible first | exact HB.out | apply ba_ | apply bn_ | apply bd_ | refine below_set ?_ GE280.out) | exact HB.out)) hb); clear BK280; clear HB; have BK280 := n0_; have HB := n1_; clear n0_ n1_; (try clear hb); (try clear hb2); (try clear hk); (try clear hi); have hcz14_0 : w13.cell? ⟨gb280, 0, none⟩ = some (.int .i64 0) := (blk_cell BK280.out 0).trans rfl; have hcz14_1 : w13.cell? ⟨gb280, 1, none⟩ = some (.int .u8 0) := (blk_cell BK280.out 1).trans rfl; have hfz14_0 := blk_frozen BK280.out 0; have hfz14_1 := blk_frozen BK280.out 1))
     refine bodyPost_ret (results_cell_row rfl _ _ gb280 104 #[.int .i64 t281, .int .u8 t283] (0, 0) _ rfl (by (with_reducible repeat (first | apply bN_ | apply bD_ | apply bA_)); refine blk_put (cs := #[.int .i64 t281, .int .u8 0]) ?_ 1 _ rfl; (with_reducible repeat (first | apply bN_ | apply bD_ | apply bA_)); refine blk_put (cs := #[.int .i64 0, .int .u8 0]) ?_ 0 _ rfl; (with_reducible repeat (first | apply bN_ | apply bD_ | apply bA_)); exact BK280.out) Tryd.underlying104 rfl (by kernel_rfl)) rfl ?_
     exact ⟨by first | rfl | (simp [errW_none, errW_some] <;> rfl) | (simp [*, errW_none, errW_some] <;> rfl), by repeat (first | (with_reducible first | exact HB.out | apply ba_ | apply bn_ | apply bd_ | refine below_set ?_ GE280.out) | exact HB.out)⟩
    ·
     replace c11 := Bool.eq_false_iff.mpr c11
     subst c11
     have H1 : (some (t281, 0)) = some (r1, r2) := by rw [if_neg (show ¬ (false = true) by decide)] at H; exact H
     clear H
     have H := H1
     clear H1
     simp only [Option.some.injEq, Prod.mk.injEq] at H
     obtain ⟨rfl, rfl⟩ := H
     have hcz15_0 : wc.cell? ⟨gb280, 0, none⟩ = some (.int .i64 0) := (blk_cell BK280.out 0).trans rfl
     have hcz15_1 : wc.cell? ⟨gb280, 1, none⟩ = some (.int .u8 0) := (blk_cell BK280.out 1).trans rfl
     have hfz15_0 := blk_frozen BK280.out 0
     have hfz15_1 := blk_frozen BK280.out 1
     go_wp2
     refine bodyPost_ret (results_cell_row rfl _ _ gb280 104 #[.int .i64 t281, .int .u8 0] (0, 0) _ rfl (by (with_reducible repeat (first | apply bN_ | apply bD_ | apply bA_)); refine blk_put (cs := #[.int .i64 t281, .int .u8 0]) ?_ 1 _ rfl; (with_reducible repeat (first | apply bN_ | apply bD_ | apply bA_)); refine blk_put (cs := #[.int .i64 0, .int .u8 0]) ?_ 0 _ rfl; (with_reducible repeat (first | apply bN_ | apply bD_ | apply bA_)); exact BK280.out) Tryd.underlying104 rfl (by kernel_rfl)) rfl ?_
     exact ⟨by first | rfl | (simp [errW_none, errW_some] <;> rfl) | (simp [*, errW_none, errW_some] <;> rfl), by repeat (first | (with_reducible first | exact HB.out | apply ba_ | apply bn_ | apply bd_ | refine below_set ?_ GE280.out) | exact HB.out)⟩
def table_Rings.l0 : Nat → Int → Int → Int → Int → Option (Int)
 | 0, _, _, _, _ => none
 | k + 1, x3, x5, x285000, x285001 => if x5 < 64 then ((table_Ring.f k x5).bind fun bt285 => (if (bt285.1 == x285000 && (bt285.2 == x285001)) = true then (if 0 ≤ x5 then (table_Rings.l0 k (Go.bits .or .u64 x3 (shl .u64 1 x5)) (wrap64 (x5 + 1)) x285000 x285001) else (none)) else (table_Rings.l0 k x3 (wrap64 (x5 + 1)) x285000 x285001))) else (some x3)
def table_Rings.f (k : Nat) (a0_0 : Int) (a0_1 : Int) : Option (Int) := table_Rings.l0 k 0 0 a0_0 a0_1
theorem table_Rings.mono_l : ∀ k, (∀ y0 y1 y2 y3, LeO (table_Rings.l0 k y0 y1 y2 y3) (table_Rings.l0 (k + 1) y0 y1 y2 y3))
 | 0 => fun _ _ _ _ r h => by simp [table_Rings.l0] at h
 | k + 1 => by
  have ih0 := table_Rings.mono_l k
  ·
   intro y0 y1 y2 y3
   unfold table_Rings.l0
   repeat' first
   | (with_reducible exact ih0 _ _ _ _)
   | (with_reducible exact table_Ring.mono _ _)
   | (with_reducible exact LeO.refl _)
   | (with_reducible exact LeO.none _)
   | (with_reducible refine LeO.ite ?_ ?_)
   | (with_reducible refine LeO.bind ?_ (fun _ => ?_))
   | exact ih0 _ _ _ _
   | exact table_Ring.mono _ _
   | exact LeO.none _
   | refine LeO.ite ?_ ?_
   | refine LeO.bind ?_ (fun _ => ?_)
theorem table_Rings.mono : ∀ a0 a1 k, LeO (table_Rings.f k a0 a1) (table_Rings.f (k + 1) a0 a1) := by
 intro a0 a1 k
 have ih0 := table_Rings.mono_l k
 unfold table_Rings.f
 repeat' first
   | (with_reducible exact ih0 _ _ _ _)
   | (with_reducible exact table_Ring.mono _ _)
   | (with_reducible exact LeO.refl _)
   | (with_reducible exact LeO.none _)
   | (with_reducible refine LeO.ite ?_ ?_)
   | (with_reducible refine LeO.bind ?_ (fun _ => ?_))
   | exact ih0 _ _ _ _
   | exact table_Ring.mono _ _
   | exact LeO.none _
   | refine LeO.ite ?_ ?_
   | refine LeO.bind ?_ (fun _ => ?_)
set_option maxHeartbeats 8000000 in
set_option maxRecDepth 100000 in
theorem table_Rings.calls (k : Nat) (a0_0 : Int) (a0_1 : Int) (r : Int) (w : World) (h : table_Rings.f k a0_0 a0_1 = some r) :
  Calls Tryd.prog 59 #[.agg #[.int .i64 a0_0, .int .u8 a0_1]] w fun e w' => e = .returned (.int .u64 r) ∧ Below w.heap.size w w' := by
 have hu104 := Tryd.underlying104
 have HB := Aside0.mk (Below.refl w.heap.size w)
 have H : (table_Rings.l0 k 0 0 a0_0 a0_1) = some r := h
 clear h
 have H' := Aside0.mk H
 clear H
 go_enter Tryd.func59, Tryd.ntmps59
 go_wp2_with (first | ((with_reducible refine gate_dst (N := 1) rfl ?_); refine box_event ?hg (N := 1) ?hd (cs := #[.int .i64 a0_0, .int .u8 a0_1]) (t := 104) ?hr ?_; (case hd => rfl); (case hg => rfl); (case hr => first | (go_simp; done) | (go_simp; rfl)); intro gb284 hg w2 hbox hb; have n0_ := Aside0.mk (below_step (by repeat (first | (with_reducible first | exact HB.out | apply ba_ | apply bn_ | apply bd_) | exact HB.out)) hb); have n1_ := Aside0.mk (hbox); have n2_ := Aside0.mk ((by rw [hg]; exact (below_size (by repeat (first | (with_reducible first | exact HB.out | apply ba_ | apply bn_ | apply bd_) | exact HB.out))) : w.heap.size ≤ gb284)); have n3_ := Aside0.mk ((by rw [hg]; exact (below_size (by repeat (first | (with_reducible first | exact HB.out | apply ba_ | apply bn_ | apply bd_) | exact HB.out))) : w.heap.size ≤ gb284)); clear HB; have HB := n0_; have BK284 := n1_; have GW284 := n2_; have GE284 := n3_; clear n0_ n1_ n2_ n3_; clear hb hbox hg))
 go_loopg [3, 5] k (fun kq v3 v5 w' => ∃ (x3_1 : Int) (x5_1 : Int), v3 = .int .u64 x3_1 ∧ v5 = .int .i64 x5_1 ∧ Aside0 (table_Rings.l0 kq x3_1 x5_1 a0_0 a0_1 = some r) ∧ Aside0 (kq ≤ k) ∧ Aside0 (w'.heap[gb284]? = some (.cells #[.int .i64 a0_0, .int .u8 a0_1] 104 (0, 0))) ∧ Aside0 (Below w.heap.size w w'))
 case atStart => exact ⟨(0), (0), (by first | rfl | (simp; done) | (simp [*]; done)), (by first | rfl | (simp; done) | (simp [*]; done)), H', ⟨Nat.le_refl _⟩, ⟨by (with_reducible repeat (first | apply bN_ | apply bD_ | apply bA_)); exact BK284.out⟩, ⟨by repeat (first | (with_reducible first | exact HB.out | apply ba_ | apply bn_ | apply bd_ | refine below_set ?_ GE284.out) | exact HB.out)⟩⟩
 case round =>
  clear H'
  try clear p2
  obtain ⟨x3_1, x5_1, rfl, rfl, HA, HK1, BK284, HB⟩ := hrel
  cases gk with
  | zero => exact absurd HA.out (by simp [table_Rings.l0])
  | succ k1 =>
   have H := HA.out
   clear HA
   simp only [table_Rings.l0] at H
   by_cases c3 : x5_1 < 64
   ·
    rw [if_pos c3] at H
    have c3b0 : decide (x5_1 < 64) = true := decide_eq_true c3
    clear c3
    replace H := Option.bind_eq_some_iff.mp H
    obtain ⟨⟨t285, t286⟩, A40, H⟩ := H
    replace H : (if (t285 == a0_0 && (t286 == a0_1)) = true then (if 0 ≤ x5_1 then (table_Rings.l0 k1 (Go.bits .or .u64 x3_1 (shl .u64 1 x5_1)) (wrap64 (x5_1 + 1)) a0_0 a0_1) else (none)) else (table_Rings.l0 k1 x3_1 (wrap64 (x5_1 + 1)) a0_0 a0_1)) = some r := H
    have A4 := Aside0.mk A40
    clear A40
    by_cases c5 : (t285 == a0_0 && (t286 == a0_1)) = true
    ·
     rw [if_pos c5] at H
     have c5b0 : (t285 == a0_0 && (t286 == a0_1)) = true := c5
     (try (have c5b1 : decide (t285 = a0_0 && (t286 == a0_1)) = true := by simpa using c5))
     (try (have c5b2 : (t285 == a0_0 && (t286 == a0_1)) = true := by simpa using c5))
     clear c5
     by_cases c6 : 0 ≤ x5_1
     ·
      rw [if_pos c6] at H
      have c6b0 := eq_true c6
      have c6b1 : decide (0 ≤ x5_1) = true := decide_eq_true c6
      clear c6
      obtain ⟨ji7, hji7⟩ : ∃ j_ : Int, (shl .u64 1 x5_1) = j_ := ⟨_, rfl⟩
      replace H : (table_Rings.l0 k1 (Go.bits .or .u64 x3_1 (ji7)) (wrap64 (x5_1 + 1)) a0_0 a0_1) = some r := by first | (rw [hji7] at H; exact H) | (simp only [hji7] at H ⊢; exact H)
      (try rw [hji7] at A4)
      have hji7_ : (IntKind.u64.wrap (1 * 2 ^ min x5_1.toNat 64)) = ji7 := hji7
      have hji7z : x5_1 ≤ 64 → (IntKind.u64.wrap (1 * 2 ^ x5_1.toNat)) = ji7 := shl_small hji7
      have hji7u : (IntKind.u64.wrap (2 ^ min x5_1.toNat 64)) = ji7 := by have h_ := hji7_; rw [Int.one_mul] at h_; exact h_
      have hji7v : x5_1 ≤ 64 → (IntKind.u64.wrap (2 ^ x5_1.toNat)) = ji7 := fun hle_ => by have h_ := hji7z hle_; rw [Int.one_mul] at h_; exact h_
      have H' := Aside0.mk H
      clear H
      try go_wp2
      have n0_ := Aside0.mk (blk_drew BK284.out)
      have n1_ := Aside0.mk (below_drew1 HB.out)
      clear BK284
      clear HB
      have BK284 := n0_
      have HB := n1_
      clear n0_ n1_
      refine start_ (n := 4) (S := fun w' => w'.cell? ⟨gb284, 0, none⟩ = some (.int .i64 a0_0) ∧ w'.cell? ⟨gb284, 1, none⟩ = some (.int .u8 a0_1)) (ds := []) #[false, false, false, false] (by kernel_rfl) rfl rfl ⟨(blk_cell BK284.out 0).trans rfl, (blk_cell BK284.out 1).trans rfl⟩ (fun hHeld => ?_)
      generalize wr.drew = w8 at BK284 HB hHeld ⊢
      refine pure_ (i := 0) (N := some 8) (v := ?_) (a' := ?_) #[true, false, false, false] rfl rfl (by kernel_rfl) (fun _ _ _ h => h) (Or.inl ⟨by rfl, ?_⟩) ?_ ?_
      rotate_left
      ·
       intro w'
       go_simp
       with_reducible rfl
      rotate_left
      ·
       simp only [Act.put, List.setIfInBounds_toArray, List.set_cons_zero, List.set_cons_succ, i64_w, i32_w]
       rfl
      refine take_ (i := 2) (N := some 10) (v := ?_) (a' := ?_) #[true, false, true, false] rfl rfl (by kernel_rfl) (fun _ _ _ h => h) (Or.inl ⟨by rfl, ?_⟩) hHeld ?_ ?_
      rotate_left
      ·
       rintro w' ⟨s0, s1⟩
       go_simp
       with_reducible rfl
      rotate_left
      ·
       simp only [Act.put, List.setIfInBounds_toArray, List.set_cons_zero, List.set_cons_succ, i64_w, i32_w]
       rfl
      refine one_ (i := 1) (N := some 9) #[true, true, true, false] rfl rfl (by kernel_rfl) (by decide) (fun K hK => ?_)
      refine goes_ Tryd.func94 (by kernel_rfl) rfl #[.int .i64 x5_1] (by rfl) rfl rfl (by (try simp only [List.map_toArray, List.map_cons, List.map_nil]); first | done | rfl | (simp only [List.length_drop, List.length_take]; rfl)) ?_
      with_reducible refine (table_Ring.calls k1 x5_1 t285 t286 _ A4.out).mono ?_
      rintro e w9 ⟨rfl, hb⟩
      refine ⟨_, rfl, ?_⟩
      have n0_ := Aside0.mk (blk_below (g := gb284) (o := .cells #[.int .i64 a0_0, .int .u8 a0_1] 104 (0, 0)) (by (with_reducible repeat (first | apply bN_ | apply bD_ | apply bA_)); exact BK284.out) hb)
      have n1_ := Aside0.mk (below_step (by repeat (first | (with_reducible first | exact HB.out | apply ba_ | apply bn_ | apply bd_ | refine below_set ?_ GE284.out) | exact HB.out)) hb)
      clear BK284
      clear HB
      have BK284 := n0_
      have HB := n1_
      clear n0_ n1_
      (try clear hb)
      (try clear hb2)
      (try clear hk)
      (try clear hi)
      refine hK.out _ _ ⟨(blk_cell BK284.out 0).trans rfl, (blk_cell BK284.out 1).trans rfl⟩ (fun hHeld => ?_)
      clear hK K
      refine norm_ (a' := ?_) ?_ ?_
      rotate_left
      ·
       show Act.put _ (some 9) _ = _
       simp only [Act.put, List.setIfInBounds_toArray, List.set_cons_zero, List.set_cons_succ, i64_w, i32_w]
       rfl
      refine pure_ (i := 3) (N := some 11) (v := ?_) (a' := ?_) #[true, true, true, true] rfl rfl (by kernel_rfl) (fun _ _ _ h => h) (Or.inl ⟨by rfl, ?_⟩) ?_ ?_
      rotate_left
      ·
       intro w'
       go_simp
       with_reducible rfl
      rotate_left
      ·
       simp only [Act.put, List.setIfInBounds_toArray, List.set_cons_zero, List.set_cons_succ, i64_w, i32_w]
       rfl
      refine done_ (by kernel_rfl) ?_
      try go_wp2
      go_roundg k1
      case measure => have := HK1.out; omega
      case rel => exact ⟨(Go.bits .or .u64 x3_1 (ji7)), (wrap64 (x5_1 + 1)), (by first | rfl | (simp; done) | (simp only [← hji7] <;> (first | rfl | simp)) | (simp [*]; done)), (by first | rfl | (simp; done) | (simp [*]; done)), H', ⟨by have := HK1.out; omega⟩, ⟨by (with_reducible repeat (first | apply bN_ | apply bD_ | apply bA_)); exact BK284.out⟩, ⟨by repeat (first | (with_reducible first | exact HB.out | apply ba_ | apply bn_ | apply bd_ | refine below_set ?_ GE284.out) | exact HB.out)⟩⟩
     ·
      rw [if_neg c6] at H
      exact absurd H (by simp)
    ·
     rw [if_neg c5] at H
     have c5b0 : (t285 == a0_0 && (t286 == a0_1)) = false := by simpa using c5
     (try (have c5b1 : decide (t285 = a0_0 && (t286 == a0_1)) = false := by simpa using c5))
     (try (have c5b2 : (t285 == a0_0 && (t286 == a0_1)) = false := by simpa using c5))
     (try (have c5b3 : ¬ (t285 = a0_0 && (t286 == a0_1)) := by simpa using c5))
     clear c5
     have H' := Aside0.mk H
     clear H
     try go_wp2
     have n0_ := Aside0.mk (blk_drew BK284.out)
     have n1_ := Aside0.mk (below_drew1 HB.out)
     clear BK284
     clear HB
     have BK284 := n0_
     have HB := n1_
     clear n0_ n1_
     refine start_ (n := 4) (S := fun w' => w'.cell? ⟨gb284, 0, none⟩ = some (.int .i64 a0_0) ∧ w'.cell? ⟨gb284, 1, none⟩ = some (.int .u8 a0_1)) (ds := []) #[false, false, false, false] (by kernel_rfl) rfl rfl ⟨(blk_cell BK284.out 0).trans rfl, (blk_cell BK284.out 1).trans rfl⟩ (fun hHeld => ?_)
     generalize wr.drew = w10 at BK284 HB hHeld ⊢
     refine pure_ (i := 0) (N := some 8) (v := ?_) (a' := ?_) #[true, false, false, false] rfl rfl (by kernel_rfl) (fun _ _ _ h => h) (Or.inl ⟨by rfl, ?_⟩) ?_ ?_
     rotate_left
     ·
      intro w'
      go_simp
      with_reducible rfl
     rotate_left
     ·
      simp only [Act.put, List.setIfInBounds_toArray, List.set_cons_zero, List.set_cons_succ, i64_w, i32_w]
      rfl
     refine take_ (i := 2) (N := some 10) (v := ?_) (a' := ?_) #[true, false, true, false] rfl rfl (by kernel_rfl) (fun _ _ _ h => h) (Or.inl ⟨by rfl, ?_⟩) hHeld ?_ ?_
     rotate_left
     ·
      rintro w' ⟨s0, s1⟩
      go_simp
      with_reducible rfl
     rotate_left
     ·
      simp only [Act.put, List.setIfInBounds_toArray, List.set_cons_zero, List.set_cons_succ, i64_w, i32_w]
      rfl
     refine one_ (i := 1) (N := some 9) #[true, true, true, false] rfl rfl (by kernel_rfl) (by decide) (fun K hK => ?_)
     refine goes_ Tryd.func94 (by kernel_rfl) rfl #[.int .i64 x5_1] (by rfl) rfl rfl (by (try simp only [List.map_toArray, List.map_cons, List.map_nil]); first | done | rfl | (simp only [List.length_drop, List.length_take]; rfl)) ?_
     with_reducible refine (table_Ring.calls k1 x5_1 t285 t286 _ A4.out).mono ?_
     rintro e w11 ⟨rfl, hb⟩
     refine ⟨_, rfl, ?_⟩
     have n0_ := Aside0.mk (blk_below (g := gb284) (o := .cells #[.int .i64 a0_0, .int .u8 a0_1] 104 (0, 0)) (by (with_reducible repeat (first | apply bN_ | apply bD_ | apply bA_)); exact BK284.out) hb)
     have n1_ := Aside0.mk (below_step (by repeat (first | (with_reducible first | exact HB.out | apply ba_ | apply bn_ | apply bd_ | refine below_set ?_ GE284.out) | exact HB.out)) hb)
     clear BK284
     clear HB
     have BK284 := n0_
     have HB := n1_
     clear n0_ n1_
     (try clear hb)
     (try clear hb2)
     (try clear hk)
     (try clear hi)
     refine hK.out _ _ ⟨(blk_cell BK284.out 0).trans rfl, (blk_cell BK284.out 1).trans rfl⟩ (fun hHeld => ?_)
     clear hK K
     refine norm_ (a' := ?_) ?_ ?_
     rotate_left
     ·
      show Act.put _ (some 9) _ = _
      simp only [Act.put, List.setIfInBounds_toArray, List.set_cons_zero, List.set_cons_succ, i64_w, i32_w]
      rfl
     refine pure_ (i := 3) (N := some 11) (v := ?_) (a' := ?_) #[true, true, true, true] rfl rfl (by kernel_rfl) (fun _ _ _ h => h) (Or.inl ⟨by rfl, ?_⟩) ?_ ?_
     rotate_left
     ·
      intro w'
      go_simp
      with_reducible rfl
     rotate_left
     ·
      simp only [Act.put, List.setIfInBounds_toArray, List.set_cons_zero, List.set_cons_succ, i64_w, i32_w]
      rfl
     refine done_ (by kernel_rfl) ?_
     try go_wp2
     go_roundg k1
     case measure => have := HK1.out; omega
     case rel => exact ⟨(x3_1), (wrap64 (x5_1 + 1)), (by first | rfl | (simp; done) | (simp [*]; done)), (by first | rfl | (simp; done) | (simp [*]; done)), H', ⟨by have := HK1.out; omega⟩, ⟨by (with_reducible repeat (first | apply bN_ | apply bD_ | apply bA_)); exact BK284.out⟩, ⟨by repeat (first | (with_reducible first | exact HB.out | apply ba_ | apply bn_ | apply bd_ | refine below_set ?_ GE284.out) | exact HB.out)⟩⟩
   ·
    rw [if_neg c3] at H
    have c3b0 : decide (x5_1 < 64) = false := decide_eq_false c3
    clear c3
    obtain rfl := Option.some.inj H
    go_wp2
    go_ret
    exact ⟨by first | rfl | (simp [errW_none, errW_some] <;> rfl) | (simp [*, errW_none, errW_some] <;> rfl), by repeat (first | (with_reducible first | exact HB.out | apply ba_ | apply bn_ | apply bd_ | refine below_set ?_ GE284.out) | exact HB.out)⟩
end Go.Proofs.YtaeenefdbahfoaaDoor.H
