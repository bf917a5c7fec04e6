/- Parts of the proof (FlatShift), merged out of our texts by wip/tools/pack.py: Hhoneycomblaw08Few, XSome5, Plus, OnT, OpOn, OnP, Each, Shift0, PSteps, WGuard, XClasses. -/
import Derived.Test.YtaeenefdbahfoaaDoorKFlatShift1
import Derived.Test.YtaeenefdbahfoaaDoorKFlatShift7
import Derived.Test.YtaeenefdbahfoaaDoorKFlatShift6
import Derived.Test.YtaeenefdbahfoaaDoorKFlatShift2
import Derived.Test.YtaeenefdbahfoaaDoorKFlatShift4
import Derived.Test.YtaeenefdbahfoaaDoorKFlatShift5
import Derived.Test.YtaeenefdbahfoaaDoorKFlatShift0
import Derived.Laws.RangeString
namespace Go.Proofs.YtaeenefdbahfoaaDoor.H
open Go.RowKit Go.Proofs.YtaeenefdbahfoaaDoorW.PrintWords Go.Proofs.YtaeenefdbahfoaaDoorW.PrintLast Go.Proofs.YtaeenefdbahfoaaDoorW.PrintMore
attribute [local go_sem] max2_int min2_int max_two min_two max_three min_three max_four min_four   -- for this text's walks alone
set_option linter.unusedVariables false
set_option linter.unusedSimpArgs false
def honeycomblaw08_Few.l0 : Nat → Int → List (S60) → List (S60) → Int → Option ((List (S65)))
 | 0, _, _, _, _ => none
 | k + 1, x0, x1, x5, x6 => if x6 < (x1.length : Int) then (if x6 < 16 then (if 0 ≤ x6 then (if x5.length < 5864062014805 then (honeycomblaw08_Few.l0 k x0 x1 (x5 ++ [(⟨Int.tmod ((rd_T60 x1 x6).f0) 7, Int.tmod ((rd_T60 x1 x6).f1) 7, (rd_T60 x1 x6).f2⟩ : S60)]) (wrap64 (x6 + 1))) else (none)) else (none)) else ((honeycomblaw04_Some.f k x0 x5).bind fun t331 => (some t331))) else ((honeycomblaw04_Some.f k x0 x5).bind fun t334 => (some t334))
def honeycomblaw08_Few.f (k : Nat) (a0 : Int) (l1 : List (S60)) : Option ((List (S65))) := honeycomblaw08_Few.l0 k a0 l1 (([] : List (S60))) 0
theorem honeycomblaw08_Few.mono_l : ∀ k, (∀ y0 y1 y2 y3, LeO (honeycomblaw08_Few.l0 k y0 y1 y2 y3) (honeycomblaw08_Few.l0 (k + 1) y0 y1 y2 y3))
 | 0 => fun _ _ _ _ r h => by simp [honeycomblaw08_Few.l0] at h
 | k + 1 => by
  have ih0 := honeycomblaw08_Few.mono_l k
  ·
   intro y0 y1 y2 y3
   unfold honeycomblaw08_Few.l0
   repeat' first
   | (with_reducible exact ih0 _ _ _ _)
   | (with_reducible exact honeycomblaw04_Some.mono _ _ _)
   | (with_reducible exact LeO.refl _)
   | (with_reducible exact LeO.none _)
   | (with_reducible refine LeO.ite ?_ ?_)
   | (with_reducible refine LeO.bind ?_ (fun _ => ?_))
   | exact ih0 _ _ _ _
   | exact honeycomblaw04_Some.mono _ _ _
   | exact LeO.none _
   | refine LeO.ite ?_ ?_
   | refine LeO.bind ?_ (fun _ => ?_)
theorem honeycomblaw08_Few.mono : ∀ a0 a1 k, LeO (honeycomblaw08_Few.f k a0 a1) (honeycomblaw08_Few.f (k + 1) a0 a1) := by
 intro a0 a1 k
 have ih0 := honeycomblaw08_Few.mono_l k
 unfold honeycomblaw08_Few.f
 repeat' first
   | (with_reducible exact ih0 _ _ _ _)
   | (with_reducible exact honeycomblaw04_Some.mono _ _ _)
   | (with_reducible exact LeO.refl _)
   | (with_reducible exact LeO.none _)
   | (with_reducible refine LeO.ite ?_ ?_)
   | (with_reducible refine LeO.bind ?_ (fun _ => ?_))
   | exact ih0 _ _ _ _
   | exact honeycomblaw04_Some.mono _ _ _
   | exact LeO.none _
   | refine LeO.ite ?_ ?_
   | refine LeO.bind ?_ (fun _ => ?_)
def honeycomblaw08_Few.T5 : Bool × List (List Nat × List Nat) := (true, [([], []), ([], []), ([], []), ([1, 2], [1, 2]), ([3], [3]), ([4], [4]), ([5], [5]), ([], []), ([], []), ([7, 8], [7, 8]), ([9], [9]), ([10], [10]), ([11], [11]), ([], []), ([], []), ([13, 14], [13, 14]), ([15], [15]), ([16], [16]), ([6, 12, 17], [6, 12, 17]), ([18], [18]), ([0, 19], [0, 19]), ([20, 20, 0, 1, 2, 3, 4, 5, 6, 7, 8, 9, 10, 11, 12, 13, 14, 15, 16, 17, 18, 19, 20], [0, 20])])
def honeycomblaw08_Few.B5 : List Nat := [0, 0, 0, 6, 14, 30, 62, 0, 0, 384, 896, 1920, 3968, 0, 0, 24576, 57344, 122880, 262142, 524286, 1048575, 2097151]
theorem honeycomblaw08_Few.tab5 : rtab .any (opsOf Tryd.f21 5) = honeycomblaw08_Few.T5 := by kernel_rfl
theorem honeycomblaw08_Few.bits5 : waitsOk honeycomblaw08_Few.T5.2 honeycomblaw08_Few.B5 = true := by kernel_rfl
set_option maxHeartbeats 8000000 in
set_option maxRecDepth 100000 in
theorem honeycomblaw08_Few.calls (k : Nat) (a0 : Int) (A1 : Option Addr) (c1 : Nat) (l1 : List (S60)) (r : List (S65)) (w : World) (hr1 : Kd.C k60 w A1 l1.length l1) (hc1 : l1.length ≤ c1) (h : honeycomblaw08_Few.f k a0 l1 = some r) :
  Calls Tryd.prog 21 #[.int .i64 a0, .slice A1 l1.length c1] w fun e w' => ∃ v0_ : Value, e = .returned (v0_) ∧ Kd.R k65 65 w' w.heap.size (fun _ => True) v0_ r ∧ Below w.heap.size w w' := by
 have hu60 := Tryd.underlying60
 have HR1 := Aside0.mk hr1
 have HC1 := Aside0.mk hc1
 clear hr1 hc1
 have HB := Aside0.mk (Below.refl w.heap.size w)
 have H : (honeycomblaw08_Few.l0 k a0 l1 (([] : List (S60))) 0) = some r := h
 clear h
 obtain ⟨y322, hy322⟩ : ∃ y_ : List (S60), y_ = (([] : List (S60))) := ⟨_, rfl⟩
 replace H : (honeycomblaw08_Few.l0 k a0 l1 y322 0) = some r := by first | (rw [hy322]; with_reducible exact H) | (have H2_ := (Option.bind_some _ _).symm.trans H; rw [hy322]; with_reducible exact H2_) | (have H2_ := (Option.bind_some _ _).symm.trans H; with_reducible exact H2_) | with_reducible exact H | (rw [hy322]; exact H) | exact H
 have Ny322 := Aside0.mk hy322
 clear hy322
 have H' := Aside0.mk H
 clear H
 go_enter Tryd.func21, Tryd.ntmps21
 go_wp2_with (first | ((with_reducible refine gate_dst (N := 7) rfl ?_); refine Kd.R_lit k60 _ 60 ?hg (N := 7) ?hd (xs := ([] : List (S60))) (inner := []) (ok := fun _ => True) (okp := fun _ => True) ?hr ?hp (fun _ hk => hk) trivial (Below.refl _ _) (Nat.le_refl _) (by simp) ?_; (case hd => rfl); (case hg => rfl); (case hr => first | (go_simp; done) | (go_simp; rfl)); (case hp => exact (Reps.none _ _)); intro v323 w3 ho4 hb hg_ hnew_; clear hg_ hnew_; (first | rw [← Ny322.out] at ho4 | (simp only [Int.reduceToNat] at ho4; rw [← Ny322.out] at ho4)); have n0_ := Aside0.mk (Kd.R_lower ho4 (below_size (by repeat (first | (with_reducible first | exact HB.out | apply ba_ | apply bn_ | apply bd_) | exact HB.out)))); have n1_ := Aside0.mk (below_step (by repeat (first | (with_reducible first | exact HB.out | apply ba_ | apply bn_ | apply bd_) | exact HB.out)) hb); clear HB; have HO324 := n0_; have HB := n1_; clear n0_ n1_; clear hb ho4))
 go_loopg [5, 6] k (fun kq v5 v6 w' => ∃ (x5_1 : List (S60)) (x6_1 : Int), v6 = .int .i64 x6_1 ∧ Aside0 (honeycomblaw08_Few.l0 kq a0 l1 x5_1 x6_1 = some r) ∧ Aside0 (kq ≤ k) ∧ Aside0 (Kd.R k60 60 w' w.heap.size (fun _ => True) v5 x5_1) ∧ Aside0 (Below w.heap.size w w'))
 case atStart => exact ⟨(y322), (0), (by first | rfl | (simp; done) | (simp [*]; done)), H', ⟨Nat.le_refl _⟩, ⟨by (with_reducible repeat (first | apply Kd.R_alloc | apply Kd.R_drewN | apply Kd.R_drew)); exact HO324.out⟩, ⟨by repeat (first | (with_reducible first | exact HB.out | apply ba_ | apply bn_ | apply bd_) | exact HB.out)⟩⟩
 case round =>
  clear H'
  try clear c1
  try clear c2
  try clear p2
  obtain ⟨x5_1, x6_1, rfl, HA, HK1, HO_5, HB⟩ := hrel
  cases gk with
  | zero => exact absurd HA.out (by simp [honeycomblaw08_Few.l0])
  | succ k1 =>
   have H := HA.out
   clear HA
   simp only [honeycomblaw08_Few.l0] at H
   by_cases c5 : x6_1 < (l1.length : Int)
   ·
    rw [if_pos c5] at H
    have c5b0 : decide (x6_1 < (l1.length : Int)) = true := decide_eq_true c5
    clear c5
    by_cases c6 : x6_1 < 16
    ·
     rw [if_pos c6] at H
     have c6b0 : decide (x6_1 < 16) = true := decide_eq_true c6
     clear c6
     by_cases c7 : 0 ≤ x6_1
     ·
      rw [if_pos c7] at H
      have c7b0 : decide (0 ≤ x6_1) = true := decide_eq_true c7
      clear c7
      by_cases c8 : x5_1.length < 5864062014805
      ·
       rw [if_pos c8] at H
       have LMc8 := Aside0.mk c8
       clear c8
       obtain ⟨y328, hy328⟩ : ∃ y_ : List (S60), y_ = (x5_1 ++ [(⟨Int.tmod ((rd_T60 l1 x6_1).f0) 7, Int.tmod ((rd_T60 l1 x6_1).f1) 7, (rd_T60 l1 x6_1).f2⟩ : S60)]) := ⟨_, rfl⟩
       replace H : (honeycomblaw08_Few.l0 k1 a0 l1 y328 (wrap64 (x6_1 + 1))) = some r := by first | (rw [hy328]; with_reducible exact H) | (have H2_ := (Option.bind_some _ _).symm.trans H; rw [hy328]; with_reducible exact H2_) | (have H2_ := (Option.bind_some _ _).symm.trans H; with_reducible exact H2_) | with_reducible exact H | (rw [hy328]; exact H) | exact H
       have Ny328 := Aside0.mk hy328
       clear hy328
       have H' := Aside0.mk H
       clear H
       try go_wp2
       have n0_ := Aside0.mk (Kd.R_drew HO_5.out)
       have n1_ := Aside0.mk (below_drew1 HB.out)
       clear HO_5
       clear HB
       have HO_5 := n0_
       have HB := n1_
       clear n0_ n1_
       have p325 : 0 ≤ (x6_1 : Int) := of_decide_eq_true (by first | (with_reducible assumption) | assumption)
       have q325 : x6_1 < (l1.length : Int) := of_decide_eq_true (by first | (with_reducible assumption) | assumption)
       obtain ⟨ad325, e325, hx325_0, hx325_1, hx325_2⟩ := at_T60 HR1.out x6_1 p325 q325
       have hw325_2 := hx325_2
       have hw325_1 := hx325_1
       have hw325_0 := hx325_0
       cases e325
       try replace hx325_0 := (HB.out.cell (World.block_lt_of_cell? w _ hx325_0)).trans hx325_0
       try replace hx325_1 := (HB.out.cell (World.block_lt_of_cell? w _ hx325_1)).trans hx325_1
       try replace hx325_2 := (HB.out.cell (World.block_lt_of_cell? w _ hx325_2)).trans hx325_2
       replace p325 := eq_true p325
       replace q325 := eq_true q325
       have p326 : 0 ≤ (x6_1 : Int) := of_decide_eq_true (by first | (with_reducible assumption) | assumption)
       have q326 : x6_1 < (l1.length : Int) := of_decide_eq_true (by first | (with_reducible assumption) | assumption)
       obtain ⟨ad326, e326, hx326_0, hx326_1, hx326_2⟩ := at_T60 HR1.out x6_1 p326 q326
       have hw326_2 := hx326_2
       have hw326_1 := hx326_1
       have hw326_0 := hx326_0
       obtain rfl : ad325 = ad326 := (by injection e326)
       try replace hx326_0 := (HB.out.cell (World.block_lt_of_cell? w _ hx326_0)).trans hx326_0
       try replace hx326_1 := (HB.out.cell (World.block_lt_of_cell? w _ hx326_1)).trans hx326_1
       try replace hx326_2 := (HB.out.cell (World.block_lt_of_cell? w _ hx326_2)).trans hx326_2
       replace p326 := eq_true p326
       replace q326 := eq_true q326
       have p327 : 0 ≤ (x6_1 : Int) := of_decide_eq_true (by first | (with_reducible assumption) | assumption)
       have q327 : x6_1 < (l1.length : Int) := of_decide_eq_true (by first | (with_reducible assumption) | assumption)
       obtain ⟨ad327, e327, hx327_0, hx327_1, hx327_2⟩ := at_T60 HR1.out x6_1 p327 q327
       have hw327_2 := hx327_2
       have hw327_1 := hx327_1
       have hw327_0 := hx327_0
       obtain rfl : ad325 = ad327 := (by injection e327)
       try replace hx327_0 := (HB.out.cell (World.block_lt_of_cell? w _ hx327_0)).trans hx327_0
       try replace hx327_1 := (HB.out.cell (World.block_lt_of_cell? w _ hx327_1)).trans hx327_1
       try replace hx327_2 := (HB.out.cell (World.block_lt_of_cell? w _ hx327_2)).trans hx327_2
       replace p327 := eq_true p327
       replace q327 := eq_true q327
       refine start_ (n := 22) (S := fun w' => w'.cell? (ad325.add ((x6_1).toNat * 3)) = some (.int .i64 ((rd_T60 l1 x6_1).f0)) ∧ w'.cell? ⟨(ad325.add ((x6_1).toNat * 3)).block, (ad325.add ((x6_1).toNat * 3)).off + 1, none⟩ = some (.int .i64 ((rd_T60 l1 x6_1).f1)) ∧ w'.cell? ⟨(ad325.add ((x6_1).toNat * 3)).block, (ad325.add ((x6_1).toNat * 3)).off + 2, none⟩ = some (.int .i64 ((rd_T60 l1 x6_1).f2)) ∧ w'.cell? (ad325.add ((x6_1).toNat * 3)) = some (.int .i64 ((rd_T60 l1 x6_1).f0)) ∧ w'.cell? ⟨(ad325.add ((x6_1).toNat * 3)).block, (ad325.add ((x6_1).toNat * 3)).off + 1, none⟩ = some (.int .i64 ((rd_T60 l1 x6_1).f1)) ∧ w'.cell? ⟨(ad325.add ((x6_1).toNat * 3)).block, (ad325.add ((x6_1).toNat * 3)).off + 2, none⟩ = some (.int .i64 ((rd_T60 l1 x6_1).f2)) ∧ w'.cell? (ad325.add ((x6_1).toNat * 3)) = some (.int .i64 ((rd_T60 l1 x6_1).f0)) ∧ w'.cell? ⟨(ad325.add ((x6_1).toNat * 3)).block, (ad325.add ((x6_1).toNat * 3)).off + 1, none⟩ = some (.int .i64 ((rd_T60 l1 x6_1).f1)) ∧ w'.cell? ⟨(ad325.add ((x6_1).toNat * 3)).block, (ad325.add ((x6_1).toNat * 3)).off + 2, none⟩ = some (.int .i64 ((rd_T60 l1 x6_1).f2))) (ds := []) #[false, false, false, false, false, false, false, false, false, false, false, false, false, false, false, false, false, false, false, false, false, false] (by kernel_rfl) rfl rfl ⟨((HB.out.cell (World.block_lt_of_cell? w _ hw325_0)).trans hw325_0), ((HB.out.cell (World.block_lt_of_cell? w _ hw325_1)).trans hw325_1), ((HB.out.cell (World.block_lt_of_cell? w _ hw325_2)).trans hw325_2), ((HB.out.cell (World.block_lt_of_cell? w _ hw326_0)).trans hw326_0), ((HB.out.cell (World.block_lt_of_cell? w _ hw326_1)).trans hw326_1), ((HB.out.cell (World.block_lt_of_cell? w _ hw326_2)).trans hw326_2), ((HB.out.cell (World.block_lt_of_cell? w _ hw327_0)).trans hw327_0), ((HB.out.cell (World.block_lt_of_cell? w _ hw327_1)).trans hw327_1), ((HB.out.cell (World.block_lt_of_cell? w _ hw327_2)).trans hw327_2)⟩ (fun hHeld => ?_); refine with_tabW honeycomblaw08_Few.tab5 honeycomblaw08_Few.bits5 (fun HT_ HW_ => ?_)
       generalize wr.drew = w9 at HO_5 HB hx325_0 hx325_1 hx325_2 hx326_0 hx326_1 hx326_2 hx327_0 hx327_1 hx327_2 hHeld ⊢
       refine pure_ (i := 0) (N := some 18) (v := ?_) (a' := ?_) #[true, false, false, false, false, false, false, false, false, false, false, false, false, false, false, false, false, false, false, false, false, false] rfl rfl (any_of HT_.out (by kernel_rfl)) (fun _ _ _ h => h) (Or.inl ⟨by rfl, ?_⟩) ?_ ?_
       rotate_left
       ·
        intro w'
        go_simp
        with_reducible rfl
       rotate_left
       ·
        simp only [Act.put, List.setIfInBounds_toArray, List.set_cons_zero, List.set_cons_succ, i64_w, i32_w]
        rfl
       refine pure_ (i := 1) (N := some 19) (v := ?_) (a' := ?_) #[true, true, false, false, false, false, false, false, false, false, false, false, false, false, false, false, false, false, false, false, false, false] rfl rfl (any_of HT_.out (by kernel_rfl)) (fun _ _ _ h => h) (Or.inl ⟨by rfl, ?_⟩) ?_ ?_
       rotate_left
       ·
        intro w'
        go_simp
        with_reducible rfl
       rotate_left
       ·
        simp only [Act.put, List.setIfInBounds_toArray, List.set_cons_zero, List.set_cons_succ, i64_w, i32_w]
        rfl
       refine pure_ (i := 2) (N := some 20) (v := ?_) (a' := ?_) #[true, true, true, false, false, false, false, false, false, false, false, false, false, false, false, false, false, false, false, false, false, false] rfl rfl (any_of HT_.out (by kernel_rfl)) (fun _ _ _ h => h) (Or.inl ⟨by rfl, ?_⟩) ?_ ?_
       rotate_left
       ·
        intro w'
        go_simp
        with_reducible rfl
       rotate_left
       ·
        simp only [Act.put, List.setIfInBounds_toArray, List.set_cons_zero, List.set_cons_succ, i64_w, i32_w]
        rfl
       refine pure_ (i := 3) (N := some 21) (v := ?_) (a' := ?_) #[true, true, true, true, false, false, false, false, false, false, false, false, false, false, false, false, false, false, false, false, false, false] rfl rfl (any_of HT_.out (by kernel_rfl)) (fun _ _ _ h => h) (Or.inl ⟨by rfl, ?_⟩) ?_ ?_
       rotate_left
       ·
        intro w'
        go_simp
        with_reducible rfl
       rotate_left
       ·
        simp only [Act.put, List.setIfInBounds_toArray, List.set_cons_zero, List.set_cons_succ, i64_w, i32_w]
        rfl
       refine pure_ (i := 4) (N := some 22) (v := ?_) (a' := ?_) #[true, true, true, true, true, false, false, false, false, false, false, false, false, false, false, false, false, false, false, false, false, false] rfl rfl (any_of HT_.out (by kernel_rfl)) (fun _ _ _ h => h) (Or.inl ⟨by rfl, ?_⟩) ?_ ?_
       rotate_left
       ·
        intro w'
        go_simp
        with_reducible rfl
       rotate_left
       ·
        simp only [Act.put, List.setIfInBounds_toArray, List.set_cons_zero, List.set_cons_succ, i64_w, i32_w]
        rfl
       refine pure_ (i := 7) (N := some 25) (v := ?_) (a' := ?_) #[true, true, true, true, true, false, false, true, false, false, false, false, false, false, false, false, false, false, false, false, false, false] rfl rfl (any_of HT_.out (by kernel_rfl)) (fun _ _ _ h => h) (Or.inl ⟨by rfl, ?_⟩) ?_ ?_
       rotate_left
       ·
        intro w'
        go_simp
        with_reducible rfl
       rotate_left
       ·
        simp only [Act.put, List.setIfInBounds_toArray, List.set_cons_zero, List.set_cons_succ, i64_w, i32_w]
        rfl
       refine pure_ (i := 8) (N := some 26) (v := ?_) (a' := ?_) #[true, true, true, true, true, false, false, true, true, false, false, false, false, false, false, false, false, false, false, false, false, false] rfl rfl (any_of HT_.out (by kernel_rfl)) (fun _ _ _ h => h) (Or.inl ⟨by rfl, ?_⟩) ?_ ?_
       rotate_left
       ·
        intro w'
        go_simp
        with_reducible rfl
       rotate_left
       ·
        simp only [Act.put, List.setIfInBounds_toArray, List.set_cons_zero, List.set_cons_succ, i64_w, i32_w]
        rfl
       refine pure_ (i := 9) (N := some 27) (v := ?_) (a' := ?_) #[true, true, true, true, true, false, false, true, true, true, false, false, false, false, false, false, false, false, false, false, false, false] rfl rfl (any_of HT_.out (by kernel_rfl)) (fun _ _ _ h => h) (Or.inl ⟨by rfl, ?_⟩) ?_ ?_
       rotate_left
       ·
        intro w'
        go_simp
        with_reducible rfl
       rotate_left
       ·
        simp only [Act.put, List.setIfInBounds_toArray, List.set_cons_zero, List.set_cons_succ, i64_w, i32_w]
        rfl
       refine pure_ (i := 10) (N := some 28) (v := ?_) (a' := ?_) #[true, true, true, true, true, false, false, true, true, true, true, false, false, false, false, false, false, false, false, false, false, false] rfl rfl (any_of HT_.out (by kernel_rfl)) (fun _ _ _ h => h) (Or.inl ⟨by rfl, ?_⟩) ?_ ?_
       rotate_left
       ·
        intro w'
        go_simp
        with_reducible rfl
       rotate_left
       ·
        simp only [Act.put, List.setIfInBounds_toArray, List.set_cons_zero, List.set_cons_succ, i64_w, i32_w]
        rfl
       refine pure_ (i := 13) (N := some 31) (v := ?_) (a' := ?_) #[true, true, true, true, true, false, false, true, true, true, true, false, false, true, false, false, false, false, false, false, false, false] rfl rfl (any_of HT_.out (by kernel_rfl)) (fun _ _ _ h => h) (Or.inl ⟨by rfl, ?_⟩) ?_ ?_
       rotate_left
       ·
        intro w'
        go_simp
        with_reducible rfl
       rotate_left
       ·
        simp only [Act.put, List.setIfInBounds_toArray, List.set_cons_zero, List.set_cons_succ, i64_w, i32_w]
        rfl
       refine pure_ (i := 14) (N := some 32) (v := ?_) (a' := ?_) #[true, true, true, true, true, false, false, true, true, true, true, false, false, true, true, false, false, false, false, false, false, false] rfl rfl (any_of HT_.out (by kernel_rfl)) (fun _ _ _ h => h) (Or.inl ⟨by rfl, ?_⟩) ?_ ?_
       rotate_left
       ·
        intro w'
        go_simp
        with_reducible rfl
       rotate_left
       ·
        simp only [Act.put, List.setIfInBounds_toArray, List.set_cons_zero, List.set_cons_succ, i64_w, i32_w]
        rfl
       refine pure_ (i := 15) (N := some 33) (v := ?_) (a' := ?_) #[true, true, true, true, true, false, false, true, true, true, true, false, false, true, true, true, false, false, false, false, false, false] rfl rfl (any_of HT_.out (by kernel_rfl)) (fun _ _ _ h => h) (Or.inl ⟨by rfl, ?_⟩) ?_ ?_
       rotate_left
       ·
        intro w'
        go_simp
        with_reducible rfl
       rotate_left
       ·
        simp only [Act.put, List.setIfInBounds_toArray, List.set_cons_zero, List.set_cons_succ, i64_w, i32_w]
        rfl
       refine pure_ (i := 16) (N := some 34) (v := ?_) (a' := ?_) #[true, true, true, true, true, false, false, true, true, true, true, false, false, true, true, true, true, false, false, false, false, false] rfl rfl (any_of HT_.out (by kernel_rfl)) (fun _ _ _ h => h) (Or.inl ⟨by rfl, ?_⟩) ?_ ?_
       rotate_left
       ·
        intro w'
        go_simp
        with_reducible rfl
       rotate_left
       ·
        simp only [Act.put, List.setIfInBounds_toArray, List.set_cons_zero, List.set_cons_succ, i64_w, i32_w]
        rfl
       refine take_ (i := 5) (N := some 23) (v := ?_) (a' := ?_) #[true, true, true, true, true, true, false, true, true, true, true, false, false, true, true, true, true, false, false, false, false, false] rfl rfl (take_ofW HT_.out HW_.out (by kernel_rfl)) (fun _ _ _ h => h) (Or.inl ⟨by rfl, ?_⟩) hHeld ?_ ?_
       rotate_left
       ·
        rintro w' ⟨s0, s1, s2, s3, s4, s5, s6, s7, s8⟩
        go_simp
        with_reducible rfl
       rotate_left
       ·
        simp only [Act.put, List.setIfInBounds_toArray, List.set_cons_zero, List.set_cons_succ, i64_w, i32_w]
        rfl
       refine pure_ (i := 6) (N := some 24) (v := ?_) (a' := ?_) #[true, true, true, true, true, true, true, true, true, true, true, false, false, true, true, true, true, false, false, false, false, false] rfl rfl (any_of HT_.out (by kernel_rfl)) (fun _ _ _ h => h) (Or.inl ⟨by rfl, ?_⟩) ?_ ?_
       rotate_left
       ·
        intro w'
        go_simp
        with_reducible rfl
       rotate_left
       ·
        simp only [Act.put, List.setIfInBounds_toArray, List.set_cons_zero, List.set_cons_succ, i64_w, i32_w]
        rfl
       refine take_ (i := 11) (N := some 29) (v := ?_) (a' := ?_) #[true, true, true, true, true, true, true, true, true, true, true, true, false, true, true, true, true, false, false, false, false, false] rfl rfl (take_ofW HT_.out HW_.out (by kernel_rfl)) (fun _ _ _ h => h) (Or.inl ⟨by rfl, ?_⟩) hHeld ?_ ?_
       rotate_left
       ·
        rintro w' ⟨s0, s1, s2, s3, s4, s5, s6, s7, s8⟩
        go_simp
        with_reducible rfl
       rotate_left
       ·
        simp only [Act.put, List.setIfInBounds_toArray, List.set_cons_zero, List.set_cons_succ, i64_w, i32_w]
        rfl
       refine pure_ (i := 12) (N := some 30) (v := ?_) (a' := ?_) #[true, true, true, true, true, true, true, true, true, true, true, true, true, true, true, true, true, false, false, false, false, false] rfl rfl (any_of HT_.out (by kernel_rfl)) (fun _ _ _ h => h) (Or.inl ⟨by rfl, ?_⟩) ?_ ?_
       rotate_left
       ·
        intro w'
        go_simp
        with_reducible rfl
       rotate_left
       ·
        simp only [Act.put, List.setIfInBounds_toArray, List.set_cons_zero, List.set_cons_succ, i64_w, i32_w]
        rfl
       refine take_ (i := 17) (N := some 35) (v := ?_) (a' := ?_) #[true, true, true, true, true, true, true, true, true, true, true, true, true, true, true, true, true, true, false, false, false, false] rfl rfl (take_ofW HT_.out HW_.out (by kernel_rfl)) (fun _ _ _ h => h) (Or.inl ⟨by rfl, ?_⟩) hHeld ?_ ?_
       rotate_left
       ·
        rintro w' ⟨s0, s1, s2, s3, s4, s5, s6, s7, s8⟩
        go_simp
        with_reducible rfl
       rotate_left
       ·
        simp only [Act.put, List.setIfInBounds_toArray, List.set_cons_zero, List.set_cons_succ, i64_w, i32_w]
        rfl
       refine pure_ (i := 18) (N := some 36) (v := ?_) (a' := ?_) #[true, true, true, true, true, true, true, true, true, true, true, true, true, true, true, true, true, true, true, false, false, false] rfl rfl (any_of HT_.out (by kernel_rfl)) (fun _ _ _ h => h) (Or.inl ⟨by rfl, ?_⟩) ?_ ?_
       rotate_left
       ·
        intro w'
        go_simp
        with_reducible rfl
       rotate_left
       ·
        simp only [Act.put, List.setIfInBounds_toArray, List.set_cons_zero, List.set_cons_succ, i64_w, i32_w]
        rfl
       refine one_ (i := 19) (N := some 37) #[true, true, true, true, true, true, true, true, true, true, true, true, true, true, true, true, true, true, true, true, false, false] rfl rfl (one_of HT_.out (by kernel_rfl)) (by decide) (fun K hK => ?_)
       refine value_ (w1 := ?_) (v := ?_) (by rfl) rfl ?_ ?_
       rotate_left 2
       ·
        go_simp
        constructor
        ·
         rfl
        ·
         rfl
       refine hK.out _ _ ⟨(World.cell?_alloc_lt _ _ _ (World.block_lt_of_cell? _ _ (((HB.out.cell (World.block_lt_of_cell? w _ hw325_0)).trans hw325_0)))).trans (((HB.out.cell (World.block_lt_of_cell? w _ hw325_0)).trans hw325_0)), (World.cell?_alloc_lt _ _ _ (World.block_lt_of_cell? _ _ (((HB.out.cell (World.block_lt_of_cell? w _ hw325_1)).trans hw325_1)))).trans (((HB.out.cell (World.block_lt_of_cell? w _ hw325_1)).trans hw325_1)), (World.cell?_alloc_lt _ _ _ (World.block_lt_of_cell? _ _ (((HB.out.cell (World.block_lt_of_cell? w _ hw325_2)).trans hw325_2)))).trans (((HB.out.cell (World.block_lt_of_cell? w _ hw325_2)).trans hw325_2)), (World.cell?_alloc_lt _ _ _ (World.block_lt_of_cell? _ _ (((HB.out.cell (World.block_lt_of_cell? w _ hw326_0)).trans hw326_0)))).trans (((HB.out.cell (World.block_lt_of_cell? w _ hw326_0)).trans hw326_0)), (World.cell?_alloc_lt _ _ _ (World.block_lt_of_cell? _ _ (((HB.out.cell (World.block_lt_of_cell? w _ hw326_1)).trans hw326_1)))).trans (((HB.out.cell (World.block_lt_of_cell? w _ hw326_1)).trans hw326_1)), (World.cell?_alloc_lt _ _ _ (World.block_lt_of_cell? _ _ (((HB.out.cell (World.block_lt_of_cell? w _ hw326_2)).trans hw326_2)))).trans (((HB.out.cell (World.block_lt_of_cell? w _ hw326_2)).trans hw326_2)), (World.cell?_alloc_lt _ _ _ (World.block_lt_of_cell? _ _ (((HB.out.cell (World.block_lt_of_cell? w _ hw327_0)).trans hw327_0)))).trans (((HB.out.cell (World.block_lt_of_cell? w _ hw327_0)).trans hw327_0)), (World.cell?_alloc_lt _ _ _ (World.block_lt_of_cell? _ _ (((HB.out.cell (World.block_lt_of_cell? w _ hw327_1)).trans hw327_1)))).trans (((HB.out.cell (World.block_lt_of_cell? w _ hw327_1)).trans hw327_1)), (World.cell?_alloc_lt _ _ _ (World.block_lt_of_cell? _ _ (((HB.out.cell (World.block_lt_of_cell? w _ hw327_2)).trans hw327_2)))).trans (((HB.out.cell (World.block_lt_of_cell? w _ hw327_2)).trans hw327_2))⟩ (fun hHeld => ?_)
       clear hK K
       refine norm_ (a' := ?_) ?_ ?_
       rotate_left
       ·
        show Act.put _ (some 37) _ = _
        simp only [Act.put, List.setIfInBounds_toArray, List.set_cons_zero, List.set_cons_succ, i64_w, i32_w]
        rfl
       refine one_ (i := 20) (N := some 38) #[true, true, true, true, true, true, true, true, true, true, true, true, true, true, true, true, true, true, true, true, true, false] rfl rfl (one_of HT_.out (by kernel_rfl)) (by decide) (fun K hK => ?_)
       refine Kd.R_append_step k60 (w0 := w) w.heap.size (by rfl) (.tmp 18) (.tmp 37) 45 60 (.agg #[(.int .i64 0), (.int .i64 0), (.int .i64 0)]) 24 rfl Tryd.underlying45 info60 rfl (by decide) (by omega) u5 x5_1 (⟨Int.tmod ((rd_T60 l1 x6_1).f0) 7, Int.tmod ((rd_T60 l1 x6_1).f1) 7, (rd_T60 l1 x6_1).f2⟩ : S60) [.int .i64 (Int.tmod ((rd_T60 l1 x6_1).f0) 7), .int .i64 (Int.tmod ((rd_T60 l1 x6_1).f1) 7), .int .i64 ((rd_T60 l1 x6_1).f2)] (fun _ => True) (fun _ => False) rfl rfl ?aP (fun _ hk => hk.elim) ?aF ?aO ?aB ?aS ?aL ?_
       (case aP => exact k60_mkM _ _ _ (⟨Int.tmod ((rd_T60 l1 x6_1).f0) 7, Int.tmod ((rd_T60 l1 x6_1).f1) 7, (rd_T60 l1 x6_1).f2⟩ : S60))
       (case aB => exact (by repeat (first | (with_reducible first | exact HB.out | apply ba_ | apply bn_ | apply bd_) | exact HB.out)))
       (case aF => exact (fun _ _ => trivial))
       (case aO => exact (by (with_reducible repeat (first | apply Kd.R_alloc | apply Kd.R_drewN | apply Kd.R_drew)); exact HO_5.out))
       (case aS => exact (below_size (by repeat (first | (with_reducible first | exact HB.out | apply ba_ | apply bn_ | apply bd_) | exact HB.out))))
       (case aL => have := LMc8.out; omega)
       intro v329 w10 ho hb hg hat
       rw [← Ny328.out] at ho
       have n0_ := Aside0.mk (hb)
       have n1_ := Aside0.mk (ho)
       clear HB
       clear HO_5
       have HB := n0_
       have HO330 := n1_
       clear n0_ n1_
       clear ho hb hg hat
       refine hK.out _ _ ⟨((HB.out.cell (World.block_lt_of_cell? w _ hw325_0)).trans hw325_0), ((HB.out.cell (World.block_lt_of_cell? w _ hw325_1)).trans hw325_1), ((HB.out.cell (World.block_lt_of_cell? w _ hw325_2)).trans hw325_2), ((HB.out.cell (World.block_lt_of_cell? w _ hw326_0)).trans hw326_0), ((HB.out.cell (World.block_lt_of_cell? w _ hw326_1)).trans hw326_1), ((HB.out.cell (World.block_lt_of_cell? w _ hw326_2)).trans hw326_2), ((HB.out.cell (World.block_lt_of_cell? w _ hw327_0)).trans hw327_0), ((HB.out.cell (World.block_lt_of_cell? w _ hw327_1)).trans hw327_1), ((HB.out.cell (World.block_lt_of_cell? w _ hw327_2)).trans hw327_2)⟩ (fun hHeld => ?_)
       clear hK K
       refine norm_ (a' := ?_) ?_ ?_
       rotate_left
       ·
        show Act.put _ (some 38) _ = _
        simp only [Act.put, List.setIfInBounds_toArray, List.set_cons_zero, List.set_cons_succ, i64_w, i32_w]
        rfl
       refine pure_ (i := 21) (N := some 5) (v := ?_) (a' := ?_) #[true, true, true, true, true, true, true, true, true, true, true, true, true, true, true, true, true, true, true, true, true, true] rfl rfl (any_of HT_.out (by kernel_rfl)) (fun _ _ _ h => h) (Or.inl ⟨by rfl, ?_⟩) ?_ ?_
       rotate_left
       ·
        intro w'
        go_simp
        with_reducible rfl
       rotate_left
       ·
        simp only [Act.put, List.setIfInBounds_toArray, List.set_cons_zero, List.set_cons_succ, i64_w, i32_w]
        rfl
       refine done_ (done_of HT_.out (by kernel_rfl)) ?_
       try go_wp2
       go_roundg k1
       case measure => have := HK1.out; omega
       case rel => exact ⟨(y328), (wrap64 (x6_1 + 1)), (by first | rfl | (simp; done) | (simp [*]; done)), H', ⟨by have := HK1.out; omega⟩, ⟨by (with_reducible repeat (first | apply Kd.R_alloc | apply Kd.R_drewN | apply Kd.R_drew)); exact HO330.out⟩, ⟨by repeat (first | (with_reducible first | exact HB.out | apply ba_ | apply bn_ | apply bd_) | exact HB.out)⟩⟩
      ·
       rw [if_neg c8] at H
       exact absurd H (by simp)
     ·
      rw [if_neg c7] at H
      exact absurd H (by simp)
    ·
     rw [if_neg c6] at H
     have c6b0 : decide (x6_1 < 16) = false := decide_eq_false c6
     clear c6
     replace H := Option.bind_eq_some_iff.mp H
     obtain ⟨t331, A110, H⟩ := H
     replace H : (some t331) = some r := H
     have A11 := Aside0.mk A110
     clear A110
     obtain rfl := Option.some.inj H
     obtain ⟨Ao12, co12, eo12⟩ := Kd.R_slice HO_5.out
     subst eo12
     go_wp2_with (first | ((with_reducible refine gate_callee (f := 40) rfl ?_); refine goesL_ (some 41) rfl rfl Tryd.func40 (by kernel_rfl) rfl #[.int .i64 a0, .slice Ao12 x5_1.length co12] rfl (by (try simp only [List.map_toArray, List.map_cons, List.map_nil]); first | done | rfl | (simp only [List.length_drop, List.length_take]; rfl)) ?_; (with_reducible refine (honeycomblaw04_Some.calls k1 a0 _ _ x5_1 t331 _ ?side1 ?side2 A11.out).mono ?_); (case side1 => repeat (first | exact (Kd.R_reads' HO_5.out).2.2 | (with_reducible refine Kd.C_alloc ?_ _) | (with_reducible refine Kd.C_drewN ?_ _) | (with_reducible refine Kd.C_drew ?_))); (case side2 => exact (Kd.R_reads' HO_5.out).2.1); rintro e w13 ⟨v332, rfl, ho0, hb⟩; refine ⟨_, rfl, ?_⟩; have n0_ := Aside0.mk (Kd.R_below (by (with_reducible repeat (first | apply Kd.R_alloc | apply Kd.R_drewN | apply Kd.R_drew)); exact HO_5.out) hb); have n1_ := Aside0.mk (Kd.R_lower ho0 (below_size (by repeat (first | (with_reducible first | exact HB.out | apply ba_ | apply bn_ | apply bd_) | exact HB.out)))); have n2_ := Aside0.mk (below_step (by repeat (first | (with_reducible first | exact HB.out | apply ba_ | apply bn_ | apply bd_) | exact HB.out)) hb); clear HO_5; clear HB; have HO_5 := n0_; have HO333 := n1_; have HB := n2_; clear n0_ n1_ n2_; (try clear hb); (try clear hb2); (try clear hk); (try clear hi); (try clear ho0)))
     go_ret
     exact ⟨_, by first | rfl | (simp [errW_none, errW_some] <;> rfl) | (simp [*, errW_none, errW_some] <;> rfl), by (with_reducible repeat (first | apply Kd.R_alloc | apply Kd.R_drewN | apply Kd.R_drew)); exact HO333.out, by repeat (first | (with_reducible first | exact HB.out | apply ba_ | apply bn_ | apply bd_) | exact HB.out)⟩
   ·
    rw [if_neg c5] at H
    have c5b0 : decide (x6_1 < (l1.length : Int)) = false := decide_eq_false c5
    clear c5
    replace H := Option.bind_eq_some_iff.mp H
    obtain ⟨t334, A140, H⟩ := H
    replace H : (some t334) = some r := H
    have A14 := Aside0.mk A140
    clear A140
    obtain rfl := Option.some.inj H
    obtain ⟨Ao15, co15, eo15⟩ := Kd.R_slice HO_5.out
    subst eo15
    go_wp2_with (first | ((with_reducible refine gate_callee (f := 40) rfl ?_); refine goesL_ (some 41) rfl rfl Tryd.func40 (by kernel_rfl) rfl #[.int .i64 a0, .slice Ao15 x5_1.length co15] rfl (by (try simp only [List.map_toArray, List.map_cons, List.map_nil]); first | done | rfl | (simp only [List.length_drop, List.length_take]; rfl)) ?_; (with_reducible refine (honeycomblaw04_Some.calls k1 a0 _ _ x5_1 t334 _ ?side1 ?side2 A14.out).mono ?_); (case side1 => repeat (first | exact (Kd.R_reads' HO_5.out).2.2 | (with_reducible refine Kd.C_alloc ?_ _) | (with_reducible refine Kd.C_drewN ?_ _) | (with_reducible refine Kd.C_drew ?_))); (case side2 => exact (Kd.R_reads' HO_5.out).2.1); rintro e w16 ⟨v335, rfl, ho0, hb⟩; refine ⟨_, rfl, ?_⟩; have n0_ := Aside0.mk (Kd.R_below (by (with_reducible repeat (first | apply Kd.R_alloc | apply Kd.R_drewN | apply Kd.R_drew)); exact HO_5.out) hb); have n1_ := Aside0.mk (Kd.R_lower ho0 (below_size (by repeat (first | (with_reducible first | exact HB.out | apply ba_ | apply bn_ | apply bd_) | exact HB.out)))); have n2_ := Aside0.mk (below_step (by repeat (first | (with_reducible first | exact HB.out | apply ba_ | apply bn_ | apply bd_) | exact HB.out)) hb); clear HO_5; clear HB; have HO_5 := n0_; have HO336 := n1_; have HB := n2_; clear n0_ n1_ n2_; (try clear hb); (try clear hb2); (try clear hk); (try clear hi); (try clear ho0)))
    go_ret
    exact ⟨_, by first | rfl | (simp [errW_none, errW_some] <;> rfl) | (simp [*, errW_none, errW_some] <;> rfl), by (with_reducible repeat (first | apply Kd.R_alloc | apply Kd.R_drewN | apply Kd.R_drew)); exact HO336.out, by repeat (first | (with_reducible first | exact HB.out | apply ba_ | apply bn_ | apply bd_) | exact HB.out)⟩
end Go.Proofs.YtaeenefdbahfoaaDoor.H
namespace Go.Proofs.YtaeenefdbahfoaaDoor
open Go.RowKit Go.Proofs.YtaeenefdbahfoaaDoorW.PrintWords Go.Proofs.YtaeenefdbahfoaaDoorW.PrintLast Go.Proofs.YtaeenefdbahfoaaDoorW.PrintMore
open H
open Go.RowKit
/-- a table's number, of those that may be -/
def andM (x m : Int) : Int := Go.bits .and .u64 x m
set_option maxRecDepth 100000 in
set_option maxHeartbeats 4000000 in
theorem some5_2 (l b0 b1 s0 s1 : Int) (w : World) (ht : l % 256 % 3 = 1) :
    Calls Tryd.prog 14 #[.agg #[.int .i64 l, .int .u64 b0, .int .u64 b1, .int .u64 s0, .int .u64 s1]] w fun e w' => e = .returned (.agg #[.int .i64 (2), .int .u64 (andM b0 14), .int .u64 (andM b1 14), .int .u64 (andM s0 15), .int .u64 (andM s1 15)]) ∧ Below w.heap.size w w' := by
  have ho := fun W => honeycomblaw05_Own.calls l b0 b1 s0 s1 l b0 b1 s0 s1 W rfl
  have hand : Go.bits .and .i64 l 255 = l % 256 := by rw [and_255]
  have hmod : (l % 256).tmod 3 = 1 := by rw [Int.tmod_eq_emod_of_nonneg (by omega), ht]
  have hnot : Go.bits .andNot .u64 15 1 = 14 := by decide
  go_enter Tryd.func14, Tryd.ntmps14
  go_upto_region 1 with (fail)
  obtain ⟨w1, hw1⟩ : ∃ w1, w1 = (w.alloc (.cells #[.int .i64 l, .int .u64 b0, .int .u64 b1, .int .u64 s0, .int .u64 s1] 25)).alloc (.cells #[.int .i64 0, .int .u64 0, .int .u64 0, .int .u64 0, .int .u64 0] 29) := ⟨_, rfl⟩
  have hsz1 : (w.alloc (.cells #[.int .i64 l, .int .u64 b0, .int .u64 b1, .int .u64 s0, .int .u64 s1] 25)).heap.size = w.heap.size + 1 := by simp
  have hbx : w1.heap[w.heap.size]? = some (.cells #[.int .i64 l, .int .u64 b0, .int .u64 b1, .int .u64 s0, .int .u64 s1] 25 (0, 0)) := by
    rw [hw1]
    exact blk_alloc (blk_new w _) _
  have hbr : w1.heap[w.heap.size + 1]? = some (.cells #[.int .i64 0, .int .u64 0, .int .u64 0, .int .u64 0, .int .u64 0] 29 (0, 0)) := by
    rw [hw1, ← hsz1]
    exact blk_new _ _
  have hB1 : Below w.heap.size w w1 := by
    rw [hw1]
    exact below_alloc (below_alloc (Below.refl _ _) _) _
  rw [← hw1]
  clear hw1 hsz1
  have x0 := blk_cell hbx 0
  have x1 := blk_cell hbx 1
  have x2 := blk_cell hbx 2
  have x3 := blk_cell hbx 3
  have x4 := blk_cell hbx 4
  simp at x0 x1 x2 x3 x4
  have BX := Aside0.mk hbx
  have BR := Aside0.mk hbr
  have HB1 := Aside0.mk hB1
  have hz1 := blk_lt hbr
  clear hbx hbr hB1
  go_wp2_with fail
  refine (ho _).mono ?_
  rintro e w2 ⟨rfl, hb⟩
  have hz2 := hb.size
  have BX2 := Aside0.mk (blk_below BX.out hb)
  have BR2 := Aside0.mk (blk_below BR.out hb)
  have HB2 := Aside0.mk (HB1.out.trans (hb.mono (by omega)))
  clear hb x0 x1 x2 x3 x4
  go_upto_region 2 with (fail)
  obtain ⟨w3, hw3⟩ : ∃ w3, w3 = w2.alloc (.cells #[.int .i64 l, .int .u64 b0, .int .u64 b1, .int .u64 s0, .int .u64 s1] 29) := ⟨_, rfl⟩
  have hbt : w3.heap[w2.heap.size]? = some (.cells #[.int .i64 l, .int .u64 b0, .int .u64 b1, .int .u64 s0, .int .u64 s1] 29 (0, 0)) := by
    rw [hw3]
    exact blk_new _ _
  have BX3 := Aside0.mk (blk_alloc BX2.out (.cells #[.int .i64 l, .int .u64 b0, .int .u64 b1, .int .u64 s0, .int .u64 s1] 29))
  have BR3 := Aside0.mk (blk_alloc BR2.out (.cells #[.int .i64 l, .int .u64 b0, .int .u64 b1, .int .u64 s0, .int .u64 s1] 29))
  have HB3 := Aside0.mk (below_alloc HB2.out (.cells #[.int .i64 l, .int .u64 b0, .int .u64 b1, .int .u64 s0, .int .u64 s1] 29))
  rw [← hw3] at BX3 BR3 HB3
  rw [← hw3]
  have hz3 := blk_lt hbt
  clear hw3
  have x0 := blk_cell BX3.out 0
  have t0 := blk_cell hbt 0
  have tf := blk_frozen hbt
  simp at x0 t0
  have BT3 := Aside0.mk hbt
  have hne : ¬ w.heap.size = w2.heap.size := by omega
  clear hbt
  go_wp2_with fail
  obtain ⟨w4, hw4⟩ : ∃ w4, w4 = (w3.setCell ⟨w2.heap.size, 0, none⟩ (.int .i64 2)).alloc (.cells #[.int .u64 0, .int .u64 18446744073709551615, .int .u64 15, .int .u64 8191] 22) := ⟨_, rfl⟩
  have BT4 := Aside0.mk (blk_alloc (blk_put BT3.out 0 (.int .i64 2) rfl) (.cells #[.int .u64 0, .int .u64 18446744073709551615, .int .u64 15, .int .u64 8191] 22))
  have BR4 := Aside0.mk (blk_alloc (blk_far BR3.out (p := ⟨w2.heap.size, 0, none⟩) (by show ¬ w.heap.size + 1 = w2.heap.size; omega) (.int .i64 2)) (.cells #[.int .u64 0, .int .u64 18446744073709551615, .int .u64 15, .int .u64 8191] 22))
  have HB4 := Aside0.mk (below_alloc (Below.setCell (p := ⟨w2.heap.size, 0, none⟩) HB3.out (by show w.heap.size ≤ w2.heap.size; omega) (.int .i64 2)) (.cells #[.int .u64 0, .int .u64 18446744073709551615, .int .u64 15, .int .u64 8191] 22))
  rw [← hw4] at BT4 BR4 HB4
  rw [← hw4]
  have hz4 := blk_lt BT4.out
  clear hw4 x0 t0 tf
  go_loopw [19] (fun i wr => ∃ (j : Nat) (B0 B1 S0 S1 : Int), j ≤ 2 ∧ i = .int .i64 j ∧ B0 = (if 0 < j then andM b0 14 else b0) ∧ B1 = (if 1 < j then andM b1 14 else b1) ∧ S0 = (if 0 < j then andM s0 15 else s0) ∧ S1 = (if 1 < j then andM s1 15 else s1) ∧ wr.heap[w2.heap.size]? = some (.cells #[.int .i64 2, .int .u64 B0, .int .u64 B1, .int .u64 S0, .int .u64 S1] 29 (0, 0)) ∧ Below w2.heap.size w4 wr) (fun i _ => 2 - (intOf i).toNat)
  case atStart => exact ⟨0, b0, b1, s0, s1, by omega, rfl, rfl, rfl, rfl, rfl, BT4.out, Below.refl _ _⟩
  case round =>
    obtain ⟨j, B0, B1, S0, S1, hj, rfl, e0, e1, e2, e3, hbt, hb⟩ := hrel
    have HBR := Aside0.mk hb
    have BTR := Aside0.mk hbt
    have E := Aside0.mk (And.intro e0 (And.intro e1 (And.intro e2 e3)))
    have t0 := blk_cell hbt 0
    have t1 := blk_cell hbt 1
    have t2 := blk_cell hbt 2
    have t3 := blk_cell hbt 3
    have t4 := blk_cell hbt 4
    have tf := blk_frozen hbt
    simp at t0 t1 t2 t3 t4
    clear hb hbt e0 e1 e2 e3
    have hjj : j = 0 ∨ j = 1 ∨ j = 2 := by omega
    rcases hjj with rfl | rfl | rfl
    · go_wp2
      go_roundw
      case rel =>
        obtain ⟨e0, e1, e2, e3⟩ := E.out
        refine ⟨1, andM B0 14, B1, andM S0 15, S1, by omega, by first | rfl | go_num, by rw [e0]; rfl, by rw [e1]; rfl, by rw [e2]; rfl, by rw [e3]; rfl, ?_, ?_⟩
        · exact blk_put (blk_put BTR.out 1 _ rfl) 3 _ rfl
        · exact Below.setCell (p := ⟨w2.heap.size, 3, none⟩) (Below.setCell (p := ⟨w2.heap.size, 1, none⟩) HBR.out (Nat.le_refl _) _) (Nat.le_refl _) _
      case measure => simp [intOf]
    · go_wp2
      go_roundw
      case rel =>
        obtain ⟨e0, e1, e2, e3⟩ := E.out
        refine ⟨2, B0, andM B1 14, S0, andM S1 15, by omega, by first | rfl | go_num, by rw [e0]; rfl, by rw [e1]; rfl, by rw [e2]; rfl, by rw [e3]; rfl, ?_, ?_⟩
        · exact blk_put (blk_put BTR.out 2 _ rfl) 4 _ rfl
        · exact Below.setCell (p := ⟨w2.heap.size, 4, none⟩) (Below.setCell (p := ⟨w2.heap.size, 2, none⟩) HBR.out (Nat.le_refl _) _) (Nat.le_refl _) _
      case measure => simp [intOf]
    · obtain ⟨e0, e1, e2, e3⟩ := E.out
      have f0 : B0 = andM b0 14 := e0
      have f1 : B1 = andM b1 14 := e1
      have f2 : S0 = andM s0 15 := e2
      have f3 : S1 = andM s1 15 := e3
      clear e0 e1 e2 e3 E
      subst f0 f1 f2 f3
      have hr : wr.heap[w.heap.size + 1]? = _ := (HBR.out.block (w.heap.size + 1) (by omega)).trans BR4.out
      have rf := blk_frozen hr
      have q0 := blk_cell hr 0
      have q1 := blk_cell hr 1
      have q2 := blk_cell hr 2
      have q3 := blk_cell hr 3
      have q4 := blk_cell hr 4
      simp at q0 q1 q2 q3 q4
      have RR := Aside0.mk hr
      clear hr
      go_wp2
      have RR' := RR
      have hr := blk_set (blk_set (blk_set (blk_set (blk_set RR'.out 0 (.int .i64 (2))) 1 (.int .u64 (andM b0 14))) 2 (.int .u64 (andM b1 14))) 3 (.int .u64 (andM s0 15))) 4 (.int .u64 (andM s1 15))
      refine bodyPost_ret (results_cell_row rfl _ _ (w.heap.size + 1) 29 #[.int .i64 (2), .int .u64 (andM b0 14), .int .u64 (andM b1 14), .int .u64 (andM s0 15), .int .u64 (andM s1 15)] (0, 0) _ rfl hr Tryd.underlying29 rfl (by kernel_rfl)) rfl ⟨rfl, ?_⟩
      have hbb : Below w.heap.size w wr := HB4.out.trans (HBR.out.mono (by omega))
      exact Below.setCell (p := ⟨w.heap.size + 1, 4, none⟩) (Below.setCell (p := ⟨w.heap.size + 1, 3, none⟩) (Below.setCell (p := ⟨w.heap.size + 1, 2, none⟩) (Below.setCell (p := ⟨w.heap.size + 1, 1, none⟩) (Below.setCell (p := ⟨w.heap.size + 1, 0, none⟩) hbb (Nat.le_succ _) _) (Nat.le_succ _) _) (Nat.le_succ _) _) (Nat.le_succ _) _) (Nat.le_succ _) _
set_option maxRecDepth 100000 in
set_option maxHeartbeats 4000000 in
theorem some5_3 (l b0 b1 s0 s1 : Int) (w : World) (ht : l % 256 % 3 = 2) :
    Calls Tryd.prog 14 #[.agg #[.int .i64 l, .int .u64 b0, .int .u64 b1, .int .u64 s0, .int .u64 s1]] w fun e w' => e = .returned (.agg #[.int .i64 (3), .int .u64 (andM b0 8190), .int .u64 (andM b1 8190), .int .u64 (andM s0 8191), .int .u64 (andM s1 8191)]) ∧ Below w.heap.size w w' := by
  have ho := fun W => honeycomblaw05_Own.calls l b0 b1 s0 s1 l b0 b1 s0 s1 W rfl
  have hand : Go.bits .and .i64 l 255 = l % 256 := by rw [and_255]
  have hmod : (l % 256).tmod 3 = 2 := by rw [Int.tmod_eq_emod_of_nonneg (by omega), ht]
  have hnot : Go.bits .andNot .u64 8191 1 = 8190 := by decide
  go_enter Tryd.func14, Tryd.ntmps14
  go_upto_region 1 with (fail)
  obtain ⟨w1, hw1⟩ : ∃ w1, w1 = (w.alloc (.cells #[.int .i64 l, .int .u64 b0, .int .u64 b1, .int .u64 s0, .int .u64 s1] 25)).alloc (.cells #[.int .i64 0, .int .u64 0, .int .u64 0, .int .u64 0, .int .u64 0] 29) := ⟨_, rfl⟩
  have hsz1 : (w.alloc (.cells #[.int .i64 l, .int .u64 b0, .int .u64 b1, .int .u64 s0, .int .u64 s1] 25)).heap.size = w.heap.size + 1 := by simp
  have hbx : w1.heap[w.heap.size]? = some (.cells #[.int .i64 l, .int .u64 b0, .int .u64 b1, .int .u64 s0, .int .u64 s1] 25 (0, 0)) := by
    rw [hw1]
    exact blk_alloc (blk_new w _) _
  have hbr : w1.heap[w.heap.size + 1]? = some (.cells #[.int .i64 0, .int .u64 0, .int .u64 0, .int .u64 0, .int .u64 0] 29 (0, 0)) := by
    rw [hw1, ← hsz1]
    exact blk_new _ _
  have hB1 : Below w.heap.size w w1 := by
    rw [hw1]
    exact below_alloc (below_alloc (Below.refl _ _) _) _
  rw [← hw1]
  clear hw1 hsz1
  have x0 := blk_cell hbx 0
  have x1 := blk_cell hbx 1
  have x2 := blk_cell hbx 2
  have x3 := blk_cell hbx 3
  have x4 := blk_cell hbx 4
  simp at x0 x1 x2 x3 x4
  have BX := Aside0.mk hbx
  have BR := Aside0.mk hbr
  have HB1 := Aside0.mk hB1
  have hz1 := blk_lt hbr
  clear hbx hbr hB1
  go_wp2_with fail
  refine (ho _).mono ?_
  rintro e w2 ⟨rfl, hb⟩
  have hz2 := hb.size
  have BX2 := Aside0.mk (blk_below BX.out hb)
  have BR2 := Aside0.mk (blk_below BR.out hb)
  have HB2 := Aside0.mk (HB1.out.trans (hb.mono (by omega)))
  clear hb x0 x1 x2 x3 x4
  go_upto_region 2 with (fail)
  obtain ⟨w3, hw3⟩ : ∃ w3, w3 = w2.alloc (.cells #[.int .i64 l, .int .u64 b0, .int .u64 b1, .int .u64 s0, .int .u64 s1] 29) := ⟨_, rfl⟩
  have hbt : w3.heap[w2.heap.size]? = some (.cells #[.int .i64 l, .int .u64 b0, .int .u64 b1, .int .u64 s0, .int .u64 s1] 29 (0, 0)) := by
    rw [hw3]
    exact blk_new _ _
  have BX3 := Aside0.mk (blk_alloc BX2.out (.cells #[.int .i64 l, .int .u64 b0, .int .u64 b1, .int .u64 s0, .int .u64 s1] 29))
  have BR3 := Aside0.mk (blk_alloc BR2.out (.cells #[.int .i64 l, .int .u64 b0, .int .u64 b1, .int .u64 s0, .int .u64 s1] 29))
  have HB3 := Aside0.mk (below_alloc HB2.out (.cells #[.int .i64 l, .int .u64 b0, .int .u64 b1, .int .u64 s0, .int .u64 s1] 29))
  rw [← hw3] at BX3 BR3 HB3
  rw [← hw3]
  have hz3 := blk_lt hbt
  clear hw3
  have x0 := blk_cell BX3.out 0
  have t0 := blk_cell hbt 0
  have tf := blk_frozen hbt
  simp at x0 t0
  have BT3 := Aside0.mk hbt
  have hne : ¬ w.heap.size = w2.heap.size := by omega
  clear hbt
  go_wp2_with fail
  obtain ⟨w4, hw4⟩ : ∃ w4, w4 = (w3.setCell ⟨w2.heap.size, 0, none⟩ (.int .i64 3)).alloc (.cells #[.int .u64 0, .int .u64 18446744073709551615, .int .u64 15, .int .u64 8191] 22) := ⟨_, rfl⟩
  have BT4 := Aside0.mk (blk_alloc (blk_put BT3.out 0 (.int .i64 3) rfl) (.cells #[.int .u64 0, .int .u64 18446744073709551615, .int .u64 15, .int .u64 8191] 22))
  have BR4 := Aside0.mk (blk_alloc (blk_far BR3.out (p := ⟨w2.heap.size, 0, none⟩) (by show ¬ w.heap.size + 1 = w2.heap.size; omega) (.int .i64 3)) (.cells #[.int .u64 0, .int .u64 18446744073709551615, .int .u64 15, .int .u64 8191] 22))
  have HB4 := Aside0.mk (below_alloc (Below.setCell (p := ⟨w2.heap.size, 0, none⟩) HB3.out (by show w.heap.size ≤ w2.heap.size; omega) (.int .i64 3)) (.cells #[.int .u64 0, .int .u64 18446744073709551615, .int .u64 15, .int .u64 8191] 22))
  rw [← hw4] at BT4 BR4 HB4
  rw [← hw4]
  have hz4 := blk_lt BT4.out
  clear hw4 x0 t0 tf
  go_loopw [19] (fun i wr => ∃ (j : Nat) (B0 B1 S0 S1 : Int), j ≤ 2 ∧ i = .int .i64 j ∧ B0 = (if 0 < j then andM b0 8190 else b0) ∧ B1 = (if 1 < j then andM b1 8190 else b1) ∧ S0 = (if 0 < j then andM s0 8191 else s0) ∧ S1 = (if 1 < j then andM s1 8191 else s1) ∧ wr.heap[w2.heap.size]? = some (.cells #[.int .i64 3, .int .u64 B0, .int .u64 B1, .int .u64 S0, .int .u64 S1] 29 (0, 0)) ∧ Below w2.heap.size w4 wr) (fun i _ => 2 - (intOf i).toNat)
  case atStart => exact ⟨0, b0, b1, s0, s1, by omega, rfl, rfl, rfl, rfl, rfl, BT4.out, Below.refl _ _⟩
  case round =>
    obtain ⟨j, B0, B1, S0, S1, hj, rfl, e0, e1, e2, e3, hbt, hb⟩ := hrel
    have HBR := Aside0.mk hb
    have BTR := Aside0.mk hbt
    have E := Aside0.mk (And.intro e0 (And.intro e1 (And.intro e2 e3)))
    have t0 := blk_cell hbt 0
    have t1 := blk_cell hbt 1
    have t2 := blk_cell hbt 2
    have t3 := blk_cell hbt 3
    have t4 := blk_cell hbt 4
    have tf := blk_frozen hbt
    simp at t0 t1 t2 t3 t4
    clear hb hbt e0 e1 e2 e3
    have hjj : j = 0 ∨ j = 1 ∨ j = 2 := by omega
    rcases hjj with rfl | rfl | rfl
    · go_wp2
      go_roundw
      case rel =>
        obtain ⟨e0, e1, e2, e3⟩ := E.out
        refine ⟨1, andM B0 8190, B1, andM S0 8191, S1, by omega, by first | rfl | go_num, by rw [e0]; rfl, by rw [e1]; rfl, by rw [e2]; rfl, by rw [e3]; rfl, ?_, ?_⟩
        · exact blk_put (blk_put BTR.out 1 _ rfl) 3 _ rfl
        · exact Below.setCell (p := ⟨w2.heap.size, 3, none⟩) (Below.setCell (p := ⟨w2.heap.size, 1, none⟩) HBR.out (Nat.le_refl _) _) (Nat.le_refl _) _
      case measure => simp [intOf]
    · go_wp2
      go_roundw
      case rel =>
        obtain ⟨e0, e1, e2, e3⟩ := E.out
        refine ⟨2, B0, andM B1 8190, S0, andM S1 8191, by omega, by first | rfl | go_num, by rw [e0]; rfl, by rw [e1]; rfl, by rw [e2]; rfl, by rw [e3]; rfl, ?_, ?_⟩
        · exact blk_put (blk_put BTR.out 2 _ rfl) 4 _ rfl
        · exact Below.setCell (p := ⟨w2.heap.size, 4, none⟩) (Below.setCell (p := ⟨w2.heap.size, 2, none⟩) HBR.out (Nat.le_refl _) _) (Nat.le_refl _) _
      case measure => simp [intOf]
    · obtain ⟨e0, e1, e2, e3⟩ := E.out
      have f0 : B0 = andM b0 8190 := e0
      have f1 : B1 = andM b1 8190 := e1
      have f2 : S0 = andM s0 8191 := e2
      have f3 : S1 = andM s1 8191 := e3
      clear e0 e1 e2 e3 E
      subst f0 f1 f2 f3
      have hr : wr.heap[w.heap.size + 1]? = _ := (HBR.out.block (w.heap.size + 1) (by omega)).trans BR4.out
      have rf := blk_frozen hr
      have q0 := blk_cell hr 0
      have q1 := blk_cell hr 1
      have q2 := blk_cell hr 2
      have q3 := blk_cell hr 3
      have q4 := blk_cell hr 4
      simp at q0 q1 q2 q3 q4
      have RR := Aside0.mk hr
      clear hr
      go_wp2
      have RR' := RR
      have hr := blk_set (blk_set (blk_set (blk_set (blk_set RR'.out 0 (.int .i64 (3))) 1 (.int .u64 (andM b0 8190))) 2 (.int .u64 (andM b1 8190))) 3 (.int .u64 (andM s0 8191))) 4 (.int .u64 (andM s1 8191))
      refine bodyPost_ret (results_cell_row rfl _ _ (w.heap.size + 1) 29 #[.int .i64 (3), .int .u64 (andM b0 8190), .int .u64 (andM b1 8190), .int .u64 (andM s0 8191), .int .u64 (andM s1 8191)] (0, 0) _ rfl hr Tryd.underlying29 rfl (by kernel_rfl)) rfl ⟨rfl, ?_⟩
      have hbb : Below w.heap.size w wr := HB4.out.trans (HBR.out.mono (by omega))
      exact Below.setCell (p := ⟨w.heap.size + 1, 4, none⟩) (Below.setCell (p := ⟨w.heap.size + 1, 3, none⟩) (Below.setCell (p := ⟨w.heap.size + 1, 2, none⟩) (Below.setCell (p := ⟨w.heap.size + 1, 1, none⟩) (Below.setCell (p := ⟨w.heap.size + 1, 0, none⟩) hbb (Nat.le_succ _) _) (Nat.le_succ _) _) (Nat.le_succ _) _) (Nat.le_succ _) _) (Nat.le_succ _) _
set_option maxRecDepth 100000 in
set_option maxHeartbeats 4000000 in
theorem some5_1 (l b0 b1 s0 s1 : Int) (w : World) (ht : l % 256 % 3 = 0) :
    Calls Tryd.prog 14 #[.agg #[.int .i64 l, .int .u64 b0, .int .u64 b1, .int .u64 s0, .int .u64 s1]] w fun e w' => e = .returned (.agg #[.int .i64 (1), .int .u64 (andM b0 18446744073709551614), .int .u64 (0), .int .u64 (andM s0 18446744073709551615), .int .u64 (0)]) ∧ Below w.heap.size w w' := by
  have ho := fun W => honeycomblaw05_Own.calls l b0 b1 s0 s1 l b0 b1 s0 s1 W rfl
  have hand : Go.bits .and .i64 l 255 = l % 256 := by rw [and_255]
  have hmod : (l % 256).tmod 3 = 0 := by rw [Int.tmod_eq_emod_of_nonneg (by omega), ht]
  have hnot : Go.bits .andNot .u64 18446744073709551615 1 = 18446744073709551614 := by decide
  go_enter Tryd.func14, Tryd.ntmps14
  go_upto_region 1 with (fail)
  obtain ⟨w1, hw1⟩ : ∃ w1, w1 = (w.alloc (.cells #[.int .i64 l, .int .u64 b0, .int .u64 b1, .int .u64 s0, .int .u64 s1] 25)).alloc (.cells #[.int .i64 0, .int .u64 0, .int .u64 0, .int .u64 0, .int .u64 0] 29) := ⟨_, rfl⟩
  have hsz1 : (w.alloc (.cells #[.int .i64 l, .int .u64 b0, .int .u64 b1, .int .u64 s0, .int .u64 s1] 25)).heap.size = w.heap.size + 1 := by simp
  have hbx : w1.heap[w.heap.size]? = some (.cells #[.int .i64 l, .int .u64 b0, .int .u64 b1, .int .u64 s0, .int .u64 s1] 25 (0, 0)) := by
    rw [hw1]
    exact blk_alloc (blk_new w _) _
  have hbr : w1.heap[w.heap.size + 1]? = some (.cells #[.int .i64 0, .int .u64 0, .int .u64 0, .int .u64 0, .int .u64 0] 29 (0, 0)) := by
    rw [hw1, ← hsz1]
    exact blk_new _ _
  have hB1 : Below w.heap.size w w1 := by
    rw [hw1]
    exact below_alloc (below_alloc (Below.refl _ _) _) _
  rw [← hw1]
  clear hw1 hsz1
  have x0 := blk_cell hbx 0
  have x1 := blk_cell hbx 1
  have x2 := blk_cell hbx 2
  have x3 := blk_cell hbx 3
  have x4 := blk_cell hbx 4
  simp at x0 x1 x2 x3 x4
  have BX := Aside0.mk hbx
  have BR := Aside0.mk hbr
  have HB1 := Aside0.mk hB1
  have hz1 := blk_lt hbr
  clear hbx hbr hB1
  go_wp2_with fail
  refine (ho _).mono ?_
  rintro e w2 ⟨rfl, hb⟩
  have hz2 := hb.size
  have BX2 := Aside0.mk (blk_below BX.out hb)
  have BR2 := Aside0.mk (blk_below BR.out hb)
  have HB2 := Aside0.mk (HB1.out.trans (hb.mono (by omega)))
  clear hb x0 x1 x2 x3 x4
  go_upto_region 2 with (fail)
  obtain ⟨w3, hw3⟩ : ∃ w3, w3 = w2.alloc (.cells #[.int .i64 l, .int .u64 b0, .int .u64 b1, .int .u64 s0, .int .u64 s1] 29) := ⟨_, rfl⟩
  have hbt : w3.heap[w2.heap.size]? = some (.cells #[.int .i64 l, .int .u64 b0, .int .u64 b1, .int .u64 s0, .int .u64 s1] 29 (0, 0)) := by
    rw [hw3]
    exact blk_new _ _
  have BX3 := Aside0.mk (blk_alloc BX2.out (.cells #[.int .i64 l, .int .u64 b0, .int .u64 b1, .int .u64 s0, .int .u64 s1] 29))
  have BR3 := Aside0.mk (blk_alloc BR2.out (.cells #[.int .i64 l, .int .u64 b0, .int .u64 b1, .int .u64 s0, .int .u64 s1] 29))
  have HB3 := Aside0.mk (below_alloc HB2.out (.cells #[.int .i64 l, .int .u64 b0, .int .u64 b1, .int .u64 s0, .int .u64 s1] 29))
  rw [← hw3] at BX3 BR3 HB3
  rw [← hw3]
  have hz3 := blk_lt hbt
  clear hw3
  have x0 := blk_cell BX3.out 0
  have t0 := blk_cell hbt 0
  have tf := blk_frozen hbt
  simp at x0 t0
  have BT3 := Aside0.mk hbt
  have hne : ¬ w.heap.size = w2.heap.size := by omega
  clear hbt
  go_wp2_with fail
  obtain ⟨w4, hw4⟩ : ∃ w4, w4 = (w3.setCell ⟨w2.heap.size, 0, none⟩ (.int .i64 1)).alloc (.cells #[.int .u64 0, .int .u64 18446744073709551615, .int .u64 15, .int .u64 8191] 22) := ⟨_, rfl⟩
  have BT4 := Aside0.mk (blk_alloc (blk_put BT3.out 0 (.int .i64 1) rfl) (.cells #[.int .u64 0, .int .u64 18446744073709551615, .int .u64 15, .int .u64 8191] 22))
  have BR4 := Aside0.mk (blk_alloc (blk_far BR3.out (p := ⟨w2.heap.size, 0, none⟩) (by show ¬ w.heap.size + 1 = w2.heap.size; omega) (.int .i64 1)) (.cells #[.int .u64 0, .int .u64 18446744073709551615, .int .u64 15, .int .u64 8191] 22))
  have HB4 := Aside0.mk (below_alloc (Below.setCell (p := ⟨w2.heap.size, 0, none⟩) HB3.out (by show w.heap.size ≤ w2.heap.size; omega) (.int .i64 1)) (.cells #[.int .u64 0, .int .u64 18446744073709551615, .int .u64 15, .int .u64 8191] 22))
  rw [← hw4] at BT4 BR4 HB4
  rw [← hw4]
  have hz4 := blk_lt BT4.out
  clear hw4 x0 t0 tf
  go_loopw [19] (fun i wr => ∃ (j : Nat) (B0 B1 S0 S1 : Int), j ≤ 2 ∧ i = .int .i64 j ∧ B0 = (if 0 < j then andM b0 18446744073709551614 else b0) ∧ B1 = (if 1 < j then andM b1 18446744073709551614 else b1) ∧ S0 = (if 0 < j then andM s0 18446744073709551615 else s0) ∧ S1 = (if 1 < j then andM s1 18446744073709551615 else s1) ∧ wr.heap[w2.heap.size]? = some (.cells #[.int .i64 1, .int .u64 B0, .int .u64 B1, .int .u64 S0, .int .u64 S1] 29 (0, 0)) ∧ Below w2.heap.size w4 wr) (fun i _ => 2 - (intOf i).toNat)
  case atStart => exact ⟨0, b0, b1, s0, s1, by omega, rfl, rfl, rfl, rfl, rfl, BT4.out, Below.refl _ _⟩
  case round =>
    obtain ⟨j, B0, B1, S0, S1, hj, rfl, e0, e1, e2, e3, hbt, hb⟩ := hrel
    have HBR := Aside0.mk hb
    have BTR := Aside0.mk hbt
    have E := Aside0.mk (And.intro e0 (And.intro e1 (And.intro e2 e3)))
    have t0 := blk_cell hbt 0
    have t1 := blk_cell hbt 1
    have t2 := blk_cell hbt 2
    have t3 := blk_cell hbt 3
    have t4 := blk_cell hbt 4
    have tf := blk_frozen hbt
    simp at t0 t1 t2 t3 t4
    clear hb hbt e0 e1 e2 e3
    have hjj : j = 0 ∨ j = 1 ∨ j = 2 := by omega
    rcases hjj with rfl | rfl | rfl
    · go_wp2
      go_roundw
      case rel =>
        obtain ⟨e0, e1, e2, e3⟩ := E.out
        refine ⟨1, andM B0 18446744073709551614, B1, andM S0 18446744073709551615, S1, by omega, by first | rfl | go_num, by rw [e0]; rfl, by rw [e1]; rfl, by rw [e2]; rfl, by rw [e3]; rfl, ?_, ?_⟩
        · exact blk_put (blk_put BTR.out 1 _ rfl) 3 _ rfl
        · exact Below.setCell (p := ⟨w2.heap.size, 3, none⟩) (Below.setCell (p := ⟨w2.heap.size, 1, none⟩) HBR.out (Nat.le_refl _) _) (Nat.le_refl _) _
      case measure => simp [intOf]
    · go_wp2
      go_roundw
      case rel =>
        obtain ⟨e0, e1, e2, e3⟩ := E.out
        refine ⟨2, B0, andM B1 18446744073709551614, S0, andM S1 18446744073709551615, by omega, by first | rfl | go_num, by rw [e0]; rfl, by rw [e1]; rfl, by rw [e2]; rfl, by rw [e3]; rfl, ?_, ?_⟩
        · exact blk_put (blk_put BTR.out 2 _ rfl) 4 _ rfl
        · exact Below.setCell (p := ⟨w2.heap.size, 4, none⟩) (Below.setCell (p := ⟨w2.heap.size, 2, none⟩) HBR.out (Nat.le_refl _) _) (Nat.le_refl _) _
      case measure => simp [intOf]
    · obtain ⟨e0, e1, e2, e3⟩ := E.out
      have f0 : B0 = andM b0 18446744073709551614 := e0
      have f1 : B1 = andM b1 18446744073709551614 := e1
      have f2 : S0 = andM s0 18446744073709551615 := e2
      have f3 : S1 = andM s1 18446744073709551615 := e3
      clear e0 e1 e2 e3 E
      subst f0 f1 f2 f3
      have hr : wr.heap[w.heap.size + 1]? = _ := (HBR.out.block (w.heap.size + 1) (by omega)).trans BR4.out
      have rf := blk_frozen hr
      have q0 := blk_cell hr 0
      have q1 := blk_cell hr 1
      have q2 := blk_cell hr 2
      have q3 := blk_cell hr 3
      have q4 := blk_cell hr 4
      simp at q0 q1 q2 q3 q4
      have RR := Aside0.mk hr
      clear hr
      go_wp2
      have RR' := Aside0.mk (blk_far (blk_far RR.out (p := ⟨w2.heap.size, 2, none⟩) (by show ¬ w.heap.size + 1 = w2.heap.size; omega) (.int .u64 0)) (p := ⟨w2.heap.size, 4, none⟩) (by show ¬ w.heap.size + 1 = w2.heap.size; omega) (.int .u64 0))
      have hr := blk_set (blk_set (blk_set (blk_set (blk_set RR'.out 0 (.int .i64 (1))) 1 (.int .u64 (andM b0 18446744073709551614))) 2 (.int .u64 (0))) 3 (.int .u64 (andM s0 18446744073709551615))) 4 (.int .u64 (0))
      refine bodyPost_ret (results_cell_row rfl _ _ (w.heap.size + 1) 29 #[.int .i64 (1), .int .u64 (andM b0 18446744073709551614), .int .u64 (0), .int .u64 (andM s0 18446744073709551615), .int .u64 (0)] (0, 0) _ rfl hr Tryd.underlying29 rfl (by kernel_rfl)) rfl ⟨rfl, ?_⟩
      have hbb : Below w.heap.size w ((wr.setCell ⟨w2.heap.size, 2, none⟩ (.int .u64 0)).setCell ⟨w2.heap.size, 4, none⟩ (.int .u64 0)) := Below.setCell (p := ⟨w2.heap.size, 4, none⟩) (Below.setCell (p := ⟨w2.heap.size, 2, none⟩) (HB4.out.trans (HBR.out.mono (by omega))) (by show w.heap.size ≤ w2.heap.size; omega) _) (by show w.heap.size ≤ w2.heap.size; omega) _
      exact Below.setCell (p := ⟨w.heap.size + 1, 4, none⟩) (Below.setCell (p := ⟨w.heap.size + 1, 3, none⟩) (Below.setCell (p := ⟨w.heap.size + 1, 2, none⟩) (Below.setCell (p := ⟨w.heap.size + 1, 1, none⟩) (Below.setCell (p := ⟨w.heap.size + 1, 0, none⟩) hbb (Nat.le_succ _) _) (Nat.le_succ _) _) (Nat.le_succ _) _) (Nat.le_succ _) _) (Nat.le_succ _) _
def latT (l : Int) : Int := 1 + l % 256 % 3
def maskT (t : Int) : Int := if t = 1 then 18446744073709551615 else if t = 2 then 15 else 8191
def bornT (t : Int) : Int := if t = 1 then 18446744073709551614 else if t = 2 then 14 else 8190
def XSome5.f (l b0 b1 s0 s1 : Int) : Option (Int × Int × Int × Int × Int) := some (latT l, andM b0 (bornT (latT l)), if latT l = 1 then 0 else andM b1 (bornT (latT l)), andM s0 (maskT (latT l)), if latT l = 1 then 0 else andM s1 (maskT (latT l)))
theorem XSome5.calls (a0_0 : Int) (a0_1 : Int) (a0_2 : Int) (a0_3 : Int) (a0_4 : Int) (r1 : Int) (r2 : Int) (r3 : Int) (r4 : Int) (r5 : Int) (w : World) (h : XSome5.f a0_0 a0_1 a0_2 a0_3 a0_4 = some (r1, r2, r3, r4, r5)) :
    Calls Tryd.prog 14 #[.agg #[.int .i64 a0_0, .int .u64 a0_1, .int .u64 a0_2, .int .u64 a0_3, .int .u64 a0_4]] w fun e w' => e = .returned (.agg #[.int .i64 r1, .int .u64 r2, .int .u64 r3, .int .u64 r4, .int .u64 r5]) ∧ Below w.heap.size w w' := by
  simp only [XSome5.f, Option.some.injEq, Prod.mk.injEq] at h
  obtain ⟨rfl, rfl, rfl, rfl, rfl⟩ := h
  have hc : a0_0 % 256 % 3 = 0 ∨ a0_0 % 256 % 3 = 1 ∨ a0_0 % 256 % 3 = 2 := by omega
  rcases hc with hc | hc | hc
  · have e : latT a0_0 = 1 := by unfold latT; omega
    rw [e]
    exact some5_1 _ _ _ _ _ w hc
  · have e : latT a0_0 = 2 := by unfold latT; omega
    rw [e]
    exact some5_2 _ _ _ _ _ w hc
  · have e : latT a0_0 = 3 := by unfold latT; omega
    rw [e]
    exact some5_3 _ _ _ _ _ w hc
end Go.Proofs.YtaeenefdbahfoaaDoor
namespace Go.Proofs.YtaeenefdbahfoaaDoor
open Go.RowKit Go.Proofs.YtaeenefdbahfoaaDoorW.PrintWords Go.Proofs.YtaeenefdbahfoaaDoorW.PrintLast Go.Proofs.YtaeenefdbahfoaaDoorW.PrintMore
open H
open Go.Shelf Go.RowKit Go.Lib Go.Sort
set_option maxHeartbeats 1000000 in
theorem plus_any (a b c d : Int) (w : World) (h1 : goodP a b) (h2 : goodP c d) (h3 : goodP (a + c) (b + d)) :
    Calls Tryd.prog 72 #[.agg #[.int .i64 a, .int .i64 b], .agg #[.int .i64 c, .int .i64 d]] w fun e w' => e = .returned (.tuple #[.agg #[.int .i64 (a + c), .int .i64 (b + d)], .nilIface]) ∧ Below w.heap.size w w' := by
  obtain ⟨p1, p2, p3, p4⟩ := h1
  obtain ⟨q1, q2, q3, q4⟩ := h2
  obtain ⟨r1, r2, r3, r4⟩ := h3
  go_enter Tryd.func72, Tryd.ntmps72
  go_wp2
  exact bodyPost_ret (v := .tuple #[.agg #[.int .i64 (a + c), .int .i64 (b + d)], .nilIface]) (by simp [results, Tryd.results72, go_sem]) rfl ⟨rfl, (by with_reducible repeat (first | apply below_alloc | apply pw_below_drewN | apply below_drew | refine bset ?_ _ _ (by omega) _ | exact Below.refl _ _))⟩
end Go.Proofs.YtaeenefdbahfoaaDoor
namespace Go.Proofs.YtaeenefdbahfoaaDoor
open Go.RowKit Go.Proofs.YtaeenefdbahfoaaDoorW.PrintWords Go.Proofs.YtaeenefdbahfoaaDoorW.PrintLast Go.Proofs.YtaeenefdbahfoaaDoorW.PrintMore
open H
open Go.Shelf Go.RowKit Go.Lib Go.Sort
end Go.Proofs.YtaeenefdbahfoaaDoor
namespace Go.Proofs.YtaeenefdbahfoaaDoor
open Go.RowKit Go.Proofs.YtaeenefdbahfoaaDoorW.PrintWords Go.Proofs.YtaeenefdbahfoaaDoorW.PrintLast Go.Proofs.YtaeenefdbahfoaaDoorW.PrintMore
open H
open Go.Shelf Go.RowKit Go.Lib Go.Sort
end Go.Proofs.YtaeenefdbahfoaaDoor
namespace Go.Proofs.YtaeenefdbahfoaaDoor
open Go.RowKit Go.Proofs.YtaeenefdbahfoaaDoorW.PrintWords Go.Proofs.YtaeenefdbahfoaaDoorW.PrintLast Go.Proofs.YtaeenefdbahfoaaDoorW.PrintMore
open H
open Go.Shelf Go.RowKit Go.Lib Go.Sort
end Go.Proofs.YtaeenefdbahfoaaDoor
namespace Go.Proofs.YtaeenefdbahfoaaDoor
open Go.RowKit Go.Proofs.YtaeenefdbahfoaaDoorW.PrintWords Go.Proofs.YtaeenefdbahfoaaDoorW.PrintLast Go.Proofs.YtaeenefdbahfoaaDoorW.PrintMore
open H
open Go.Shelf Go.RowKit Go.Lib Go.Sort
set_option maxRecDepth 100000 in
set_option maxHeartbeats 2000000 in
theorem each_ok (l : List CL) (mv : CL → CL) (fn : FuncId) (cb : Array Value) (A0 : Option Addr) (c0 : Nat) (w : World) (hr0 : Kd.C k65 w A0 l.length l) (hn : l.length < 1099511627776)
    (eg : ∀ args W, (callFunc fn args).run Tryd.prog W = .ok (.enter fn args) W)
    (hmv : ∀ x ∈ l, ∀ W, Below w.heap.size w W → Calls Tryd.prog fn (#[.agg #[.int .i64 x.f0.f0, .int .i64 x.f0.f1, .int .i64 x.f1]] ++ cb) W fun e w' => e = .returned (.tuple #[.agg #[.int .i64 (mv x).f0.f0, .int .i64 (mv x).f0.f1, .int .i64 (mv x).f1], .nilIface]) ∧ Below W.heap.size W w') :
    Calls Tryd.prog 70 #[.slice A0 l.length c0, .func (.func fn) #[] cb] w fun e w' => ∃ v, e = .returned (.tuple #[v, .nilIface]) ∧ Kd.R k65 65 w' w.heap.size (fun _ => True) v (ofL (l.map mv)) ∧ Below w.heap.size w w' := by
  have HR := Aside0.mk hr0
  have HMV := Aside0.mk hmv
  have hof : ∀ (A : Option Addr) (c : Nat) W (_ : Kd.C k65 W A (l.map mv).length (l.map mv)) (_ : (l.map mv).length ≤ c), Calls Tryd.prog 37 #[.slice A l.length c] W fun e w' => ∃ v0_ : Value, e = .returned v0_ ∧ Kd.R k65 65 w' W.heap.size (fun _ => True) v0_ (ofL (l.map mv)) ∧ Below W.heap.size W w' := fun A c W hC hc => by
    have := XOf.calls A c (l.map mv) (ofL (l.map mv)) W hC hc (by simp [XOf.f]; omega)
    rw [List.length_map] at this
    exact this
  have HOF := Aside0.mk hof
  clear hr0 hmv hof
  go_enter Tryd.func70, Tryd.ntmps70
  go_wp2_with fail
  go_loopw [6, 13] (fun v i wr => ∃ k : Nat, k ≤ l.length ∧ i = .int .i64 k ∧ Kd.R k65 65 wr w.heap.size (fun _ => True) v ((l.take k).map mv) ∧ Below w.heap.size w wr) (fun _ i _ => l.length - (intOf i).toNat)
  case atStart => exact ⟨0, by omega, rfl, by simp; exact Kd.R_nil _ _ _ _ _, Below.refl _ _⟩
  case round =>
    obtain ⟨k, hk, rfl, hO, hB⟩ := hrel
    have HO := Aside0.mk hO
    have HB := Aside0.mk hB
    have hzr := hB.size
    have R2 := Aside0.mk (Kd.C_below HR.out hB)
    clear hO hB
    by_cases hlt : k < l.length
    · obtain ⟨ad, rfl, a0, a1, a2⟩ := at_T65 R2.out k (by omega) (by omega)
      rw [Int.toNat_natCast] at a0 a1 a2
      have hx : rd_T65 l k = l[k] := by simp [rd_T65, hlt]
      have hcl := fun W hW => HMV.out l[k] (List.getElem_mem hlt) W hW
      have htk : (l.take (k + 1)).map mv = (l.take k).map mv ++ [mv l[k]] := by
        rw [List.take_add_one, List.getElem?_eq_getElem hlt, List.map_append]
        rfl
      rw [hx] at a0 a1 a2
      generalize l[k] = x at a0 a1 a2 hcl htk
      generalize mv x = y at hcl htk
      have HCL := Aside0.mk hcl
      have HTK := Aside0.mk htk
      clear hx hcl htk
      go_wp2_with fail
      refine (HCL.out _ (below_alloc2 HB.out hzr _)).mono ?_
      rintro e w2 ⟨rfl, hb2⟩
      have hz2 := hb2.size
      rw [World.size_alloc] at hz2
      have HO2 := Aside0.mk (Kd.R_below (Kd.R_alloc HO.out _) hb2)
      have HB2 := Aside0.mk ((below_alloc2 HB.out hzr _).trans (hb2.mono (by rw [World.size_alloc]; omega)))
      clear hb2
      go_wp2_with (at_builtin; refine app1 k65 w.heap.size (.tmp 29) (.tmp 31) 35 65 (.agg #[.int .i64 0, .int .i64 0, .int .i64 0]) 24 (w0 := w) _ ((l.take k).map mv) y [.int .i64 y.f0.f0, .int .i64 y.f0.f1, .int .i64 y.f1] _ rfl rfl Tryd.underlying35 info65 rfl (by decide) (by decide) rfl (by simp; done) rfl (k65_mkM _ _ _ _) (Kd.R_alloc HO2.out _) (below_alloc2 HB2.out (by omega) _) (by simp; omega) (by simp; omega) ?_; intro v1 w4 ho4 hb4; have HO4 := Aside0.mk ho4; have HB4 := Aside0.mk hb4; clear ho4 hb4)
      go_roundw
      case rel => exact ⟨k + 1, by omega, by go_num, by rw [HTK.out]; exact HO4.out, HB4.out⟩
      case measure => simp [intOf]; omega
    · obtain rfl : k = l.length := by omega
      have hO3 := HO.out
      rw [List.take_length] at hO3
      obtain ⟨A3, c3, rfl, hl3, hc3⟩ := Kd.R_reads hO3
      have HC3 := Aside0.mk hc3
      have HL3 := Aside0.mk hl3
      clear hO3 hc3 hl3
      go_wp2_with (go_at_call 37; refine (HOF.out A3 c3 _ HC3.out HL3.out).mono ?_; rintro e w5 ⟨v5, rfl, ho5, hb5⟩; have HO5 := Aside0.mk ho5; have HB5 := Aside0.mk (HB.out.trans (hb5.mono hzr)); clear ho5 hb5)
      go_ret2
      exact ⟨_, rfl, Kd.R_lower HO5.out hzr, HB5.out⟩
end Go.Proofs.YtaeenefdbahfoaaDoor
namespace Go.Proofs.YtaeenefdbahfoaaDoor
open Go.RowKit Go.Proofs.YtaeenefdbahfoaaDoorW.PrintWords Go.Proofs.YtaeenefdbahfoaaDoorW.PrintLast Go.Proofs.YtaeenefdbahfoaaDoorW.PrintMore
open H
open Go.Shelf Go.RowKit Go.Lib Go.Sort
set_option maxRecDepth 100000 in
set_option maxHeartbeats 2000000 in
theorem shiftF_any (x : CL) (g : Nat) (a b : Int) (w : World) (hg0 : w.cell? ⟨g, 0, none⟩ = some (.int .i64 a)) (hg1 : w.cell? ⟨g, 1, none⟩ = some (.int .i64 b)) (h1 : goodP x.f0.f0 x.f0.f1) (h2 : goodP a b) (h3 : goodP (x.f0.f0 + a) (x.f0.f1 + b)) :
    Calls Tryd.prog 71 #[.agg #[.int .i64 x.f0.f0, .int .i64 x.f0.f1, .int .i64 x.f1], .pointer (some ⟨g, 0, none⟩)] w fun e w' => e = .returned (.tuple #[.agg #[.int .i64 (sh a b x).f0.f0, .int .i64 (sh a b x).f0.f1, .int .i64 (sh a b x).f1], .nilIface]) ∧ Below w.heap.size w w' := by
  have hpl := fun W => plus_any x.f0.f0 x.f0.f1 a b W h1 h2 h3
  have e0 : (sh a b x).f0.f0 = x.f0.f0 + a := Int.add_comm _ _
  have e1 : (sh a b x).f0.f1 = x.f0.f1 + b := Int.add_comm _ _
  have e2 : (sh a b x).f1 = x.f1 := rfl
  rw [e0, e1, e2]
  have hlt := World.block_lt_of_cell? w ⟨g, 0, none⟩ hg0
  clear h1 h2 h3 e0 e1 e2
  generalize x.f0.f0 + a = p at hpl ⊢
  generalize x.f0.f1 + b = q at hpl ⊢
  go_enter Tryd.func71, Tryd.ntmps71
  go_wp2_with fail
  obtain ⟨w2, hw2, hcc, _, hsz, hB2⟩ := two_new w #[.int .i64 x.f0.f0, .int .i64 x.f0.f1, .int .i64 x.f1] #[.int .i64 0, .int .i64 0, .int .i64 0] 65 65
  have hrb : w2.heap[w.heap.size + 1]? = some (.cells #[.int .i64 0, .int .i64 0, .int .i64 0] 65 (0, 0)) := by
    rw [hw2]
    have := blk_new (w.alloc (.cells #[.int .i64 x.f0.f0, .int .i64 x.f0.f1, .int .i64 x.f1] 65)) (.cells #[.int .i64 0, .int .i64 0, .int .i64 0] 65 (0, 0))
    simpa using this
  rw [← hw2]
  clear hw2
  have d2 : w2.cell? ⟨w.heap.size, 2, none⟩ = some (.int .i64 x.f1) := hcc 2 _ rfl
  have hz0 : w.heap.size < w2.heap.size := by omega
  have HB2 := Aside0.mk hB2
  have RB := Aside0.mk hrb
  clear hcc hB2 hrb hg0 hg1
  refine (hpl _).mono ?_
  rintro e w3 ⟨rfl, hb3⟩
  have hr3 := blk_below RB.out hb3
  have q0 := blk_cell hr3 0
  have q1 := blk_cell hr3 1
  have q2 := blk_cell hr3 2
  have q3 := blk_frozen hr3
  have d2 := pw_cell_below hb3 d2
  have hz3 : w.heap.size + 1 < w3.heap.size := blk_lt hr3
  have hz3' : w.heap.size < w3.heap.size := by omega
  have RB3 := Aside0.mk hr3
  have HB3 := Aside0.mk (HB2.out.trans (hb3.mono HB2.out.size))
  clear hr3 hb3
  go_wp2
  have hr := blk_alloc (blk_set (blk_set (blk_set RB3.out 0 (.int .i64 p)) 1 (.int .i64 q)) 2 (.int .i64 x.f1)) (.cells #[.int .i64 p, .int .i64 q] 63)
  refine bodyPost_ret (results_ct rfl _ _ (w.heap.size + 1) 65 #[.int .i64 p, .int .i64 q, .int .i64 x.f1] (0, 0) _ rfl hr Tryd.underlying65 rfl (by kernel_rfl)) rfl ⟨rfl, ?_⟩
  exact below_alloc (Below.setCell (p := ⟨w.heap.size + 1, 2, none⟩) (Below.setCell (p := ⟨w.heap.size + 1, 1, none⟩) (Below.setCell (p := ⟨w.heap.size + 1, 0, none⟩) HB3.out (Nat.le_succ _) _) (Nat.le_succ _) _) (Nat.le_succ _) _) _
def shOk (a b : Int) (x : CL) : Bool := decide (goodP x.f0.f0 x.f0.f1) && (decide (goodP a b) && decide (goodP (x.f0.f0 + a) (x.f0.f1 + b)))
def XShift.f (l : List CL) (a b : Int) : Option (List CL × Option Int) := if l.length < 1099511627776 then (if l.all (shOk a b) = true then some (ofL (l.map (sh a b)), none) else none) else none
set_option maxRecDepth 100000 in
set_option maxHeartbeats 1000000 in
theorem XShift.calls (A0 : Option Addr) (c0 : Nat) (l0 : List S65) (a1_0 : Int) (a1_1 : Int) (r1 : List S65) (r2 : Option Int) (w : World) (hr0 : Kd.C k65 w A0 l0.length l0) (_hc0 : l0.length ≤ c0) (h : XShift.f l0 a1_0 a1_1 = some (r1, r2)) :
    Calls Tryd.prog 36 #[.slice A0 l0.length c0, .agg #[.int .i64 a1_0, .int .i64 a1_1]] w fun e w' => ∃ v0_ : Value, e = .returned (.tuple #[v0_, errW r2]) ∧ Kd.R k65 65 w' w.heap.size (fun _ => True) v0_ r1 ∧ Below w.heap.size w w' := by
  unfold XShift.f at h
  by_cases hn : l0.length < 1099511627776
  · rw [if_pos hn] at h
    by_cases hall : l0.all (shOk a1_0 a1_1) = true
    · rw [if_pos hall] at h
      simp only [Option.some.injEq, Prod.mk.injEq] at h
      obtain ⟨rfl, rfl⟩ := h
      have eg : ∀ args W, (callFunc 71 args).run Tryd.prog W = .ok (.enter 71 args) W := enters_of Tryd.func71 (by kernel_rfl) rfl
      have hAll : ∀ x ∈ l0, goodP x.f0.f0 x.f0.f1 ∧ goodP a1_0 a1_1 ∧ goodP (x.f0.f0 + a1_0) (x.f0.f1 + a1_1) := fun x hx => by
        have := List.all_eq_true.1 hall x hx
        simpa [shOk] using this
      have HALL := Aside0.mk hAll
      have HR := Aside0.mk hr0
      have EG := Aside0.mk eg
      clear hAll hall hr0 eg
      rw [errW_none]
      go_enter Tryd.func36, Tryd.ntmps36
      go_wp2_with fail
      obtain ⟨w1, hw1, hcc, hsz, hB1⟩ := one_new w #[.int .i64 a1_0, .int .i64 a1_1] 63
      rw [← hw1]
      clear hw1
      have C0 : Aside0 (w1.cell? ⟨w.heap.size, 0, none⟩ = some (.int .i64 a1_0) ∧ w1.cell? ⟨w.heap.size, 1, none⟩ = some (.int .i64 a1_1)) := Aside0.mk ⟨hcc 0 _ rfl, hcc 1 _ rfl⟩
      have HB1 := Aside0.mk hB1
      clear hcc
      refine (each_ok l0 (sh a1_0 a1_1) 71 #[.pointer (some ⟨w.heap.size, 0, none⟩)] A0 c0 w1 (Kd.C_below HR.out hB1) hn EG.out (fun x hx W hW => shiftF_any x w.heap.size a1_0 a1_1 W (pw_cell_below hW C0.out.1) (pw_cell_below hW C0.out.2) (HALL.out x hx).1 (HALL.out x hx).2.1 (HALL.out x hx).2.2)).mono ?_
      rintro e w2 ⟨v, rfl, ho, hb2⟩
      have HO := Aside0.mk ho
      have HB2 := Aside0.mk (HB1.out.trans (hb2.mono HB1.out.size))
      clear ho hb2 hB1
      go_wp2
      go_ret2
      exact ⟨_, rfl, Kd.R_lower HO.out HB1.out.size, HB2.out⟩
    · rw [if_neg hall] at h
      cases h
  · rw [if_neg hn] at h
    cases h
end Go.Proofs.YtaeenefdbahfoaaDoor
namespace Go.Proofs.YtaeenefdbahfoaaDoor
open Go.RowKit Go.Proofs.YtaeenefdbahfoaaDoorW.PrintWords Go.Proofs.YtaeenefdbahfoaaDoorW.PrintLast Go.Proofs.YtaeenefdbahfoaaDoorW.PrintMore
open H
open Go.RowKit
theorem u64N (n : Nat) (h : n < 18446744073709551616) : IntKind.u64.wrap (n : Int) = n := by
  have : IntKind.u64.wrap (n : Int) = (n : Int) % 18446744073709551616 := by simp [IntKind.wrap, IntKind.signed, IntKind.bits]
  rw [this]
  omega
theorem ofIntN (n : Nat) (h : n < 18446744073709551616) : (BitVec.ofInt 64 (n : Int)).toNat = n := by
  rw [BitVec.toNat_ofInt]
  omega
theorem andN (a c : Nat) (ha : a < 18446744073709551616) (hc : c < 18446744073709551616) : Go.bits .and .u64 (a : Int) (c : Int) = ((a &&& c : Nat) : Int) := by
  have key : (BitVec.ofInt 64 (a : Int) &&& BitVec.ofInt 64 (c : Int)).toNat = a &&& c := by rw [BitVec.toNat_and, ofIntN a ha, ofIntN c hc]
  show IntKind.u64.wrap ((BitVec.ofInt 64 (a : Int) &&& BitVec.ofInt 64 (c : Int)).toNat : Nat) = _
  rw [key]
  exact u64N _ (Nat.lt_of_le_of_lt Nat.and_le_left ha)
theorem orN (a c : Nat) (ha : a < 18446744073709551616) (hc : c < 18446744073709551616) : Go.bits .or .u64 (a : Int) (c : Int) = ((a ||| c : Nat) : Int) := by
  have key : (BitVec.ofInt 64 (a : Int) ||| BitVec.ofInt 64 (c : Int)).toNat = a ||| c := by rw [BitVec.toNat_or, ofIntN a ha, ofIntN c hc]
  show IntKind.u64.wrap ((BitVec.ofInt 64 (a : Int) ||| BitVec.ofInt 64 (c : Int)).toNat : Nat) = _
  rw [key]
  exact u64N _ (Nat.or_lt_two_pow (n := 64) ha hc)
theorem leO_upG {α : Type} {g : Nat → Option α} (h : ∀ k, LeO (g k) (g (k + 1))) {n : Nat} {r : α} (hn : g n = some r) : ∀ m, g (n + m) = some r
  | 0 => hn
  | m + 1 => h (n + m) r (leO_upG h hn m)
theorem leO_geG {α : Type} {g : Nat → Option α} (h : ∀ k, LeO (g k) (g (k + 1))) {n : Nat} {r : α} (hn : g n = some r) (K : Nat) (hK : n ≤ K) : g K = some r := by
  obtain ⟨m, rfl⟩ : ∃ m, K = n + m := ⟨K - n, by omega⟩
  exact leO_upG h hn m
theorem badN (B S m1 m2 o : Nat) (hB : B < 18446744073709551616) (hS : S < 18446744073709551616) (ho : o < 18446744073709551616) (h1 : m1 &&& (o ||| 1) = 0) (h2 : m2 &&& o = 0) : badH ((B &&& m1 : Nat) : Int) ((S &&& m2 : Nat) : Int) (o : Int) = false := by
  unfold badH
  have e := orN o 1 ho (by decide)
  rw [show ((1 : Nat) : Int) = 1 from rfl] at e
  rw [e, andN _ _ (Nat.lt_of_le_of_lt Nat.and_le_left hB) (Nat.or_lt_two_pow (n := 64) ho (by decide)), andN _ _ (Nat.lt_of_le_of_lt Nat.and_le_left hS) ho, Nat.and_assoc, Nat.and_assoc, h1, h2]
  simp
theorem badZ (o : Int) (ho : o = 18446744073709551615) : badH 0 0 o = false := by subst ho; decide +kernel
theorem even_and (B m : Nat) (h : m % 2 = 0) : (B &&& m) % 2 = 0 := by
  have := Nat.and_mod_two_pow (a := B) (b := m) (n := 1)
  simp only [Nat.pow_one] at this
  rw [this, h, Nat.and_zero]
/-- a table as the law makes it: the numbers, and that it may be -/
def Tb (L : Int) (b0 b1 s0 s1 : Nat) : Prop := (1 ≤ L ∧ L ≤ 3) ∧ checkT L b0 b1 s0 s1 = none ∧ b0 % 2 = 0 ∧ b1 % 2 = 0 ∧ b0 < 18446744073709551616 ∧ b1 < 18446744073709551616 ∧ s0 < 18446744073709551616 ∧ s1 < 18446744073709551616 ∧ (L = 1 → b1 = 0 ∧ s1 = 0)
theorem some_rule (l : Int) (B B1 S S1 : Nat) (hB : B < 18446744073709551616) (hB1 : B1 < 18446744073709551616) (hS : S < 18446744073709551616) (hS1 : S1 < 18446744073709551616) :
    ∃ (L : Int) (b0 b1 s0 s1 : Nat), XSome5.f l B B1 S S1 = some (L, (b0 : Int), (b1 : Int), (s0 : Int), (s1 : Int)) ∧ Tb L b0 b1 s0 s1 := by
  have hL : latT l = 1 ∨ latT l = 2 ∨ latT l = 3 := by unfold latT; omega
  have lt := fun (a b : Nat) (h : a < 18446744073709551616) => Nat.lt_of_le_of_lt (Nat.and_le_left (n := a) (m := b)) h
  unfold XSome5.f
  rcases hL with hL | hL | hL <;> rw [hL]
  · have e1 : andM B (bornT 1) = ((B &&& 18446744073709551614 : Nat) : Int) := andN B 18446744073709551614 hB (by decide)
    have e2 : andM S (maskT 1) = ((S &&& 18446744073709551615 : Nat) : Int) := andN S 18446744073709551615 hS (by decide)
    have h0' : badH ((B &&& 18446744073709551614 : Nat) : Int) ((S &&& 18446744073709551615 : Nat) : Int) (restT 1) = false := badN B S 18446744073709551614 18446744073709551615 0 hB hS (by decide) (by decide +kernel) (by decide +kernel)
    refine ⟨1, B &&& 18446744073709551614, 0, S &&& 18446744073709551615, 0, ?_, ⟨by decide, by decide⟩, ?_, even_and _ _ rfl, rfl, lt _ _ hB, by decide, lt _ _ hS, by decide, fun _ => ⟨rfl, rfl⟩⟩
    · rw [e1, e2, if_pos rfl, if_pos rfl]; rfl
    · unfold checkT
      rw [if_pos (by decide), if_neg (by rw [h0', show ((0 : Nat) : Int) = 0 from rfl, badZ (outT 1) rfl]; decide)]
  · have e1 : andM B (bornT 2) = ((B &&& 14 : Nat) : Int) := andN B 14 hB (by decide)
    have e1' : andM B1 (bornT 2) = ((B1 &&& 14 : Nat) : Int) := andN B1 14 hB1 (by decide)
    have e2 : andM S (maskT 2) = ((S &&& 15 : Nat) : Int) := andN S 15 hS (by decide)
    have e2' : andM S1 (maskT 2) = ((S1 &&& 15 : Nat) : Int) := andN S1 15 hS1 (by decide)
    have h0 : badH ((B &&& 14 : Nat) : Int) ((S &&& 15 : Nat) : Int) (restT 2) = false := badN B S 14 15 18446744073709551600 hB hS (by decide) (by decide +kernel) (by decide +kernel)
    have h0' : badH ((B1 &&& 14 : Nat) : Int) ((S1 &&& 15 : Nat) : Int) (outT 2) = false := badN B1 S1 14 15 18446744073709551600 hB1 hS1 (by decide) (by decide +kernel) (by decide +kernel)
    refine ⟨2, B &&& 14, B1 &&& 14, S &&& 15, S1 &&& 15, ?_, ⟨by decide, by decide⟩, ?_, even_and _ _ rfl, even_and _ _ rfl, lt _ _ hB, lt _ _ hB1, lt _ _ hS, lt _ _ hS1, fun h => absurd h (by decide)⟩
    · rw [if_neg (by decide), if_neg (by decide), e1, e1', e2, e2']
    · unfold checkT
      rw [if_pos (by decide), if_neg (by rw [h0, h0']; decide)]
  · have e1 : andM B (bornT 3) = ((B &&& 8190 : Nat) : Int) := andN B 8190 hB (by decide)
    have e1' : andM B1 (bornT 3) = ((B1 &&& 8190 : Nat) : Int) := andN B1 8190 hB1 (by decide)
    have e2 : andM S (maskT 3) = ((S &&& 8191 : Nat) : Int) := andN S 8191 hS (by decide)
    have e2' : andM S1 (maskT 3) = ((S1 &&& 8191 : Nat) : Int) := andN S1 8191 hS1 (by decide)
    have h0 : badH ((B &&& 8190 : Nat) : Int) ((S &&& 8191 : Nat) : Int) (restT 3) = false := badN B S 8190 8191 18446744073709543424 hB hS (by decide) (by decide +kernel) (by decide +kernel)
    have h0' : badH ((B1 &&& 8190 : Nat) : Int) ((S1 &&& 8191 : Nat) : Int) (outT 3) = false := badN B1 S1 8190 8191 18446744073709543424 hB1 hS1 (by decide) (by decide +kernel) (by decide +kernel)
    refine ⟨3, B &&& 8190, B1 &&& 8190, S &&& 8191, S1 &&& 8191, ?_, ⟨by decide, by decide⟩, ?_, even_and _ _ rfl, even_and _ _ rfl, lt _ _ hB, lt _ _ hB1, lt _ _ hS, lt _ _ hS1, fun h => absurd h (by decide)⟩
    · rw [if_neg (by decide), if_neg (by decide), e1, e1', e2, e2']
    · unfold checkT
      rw [if_pos (by decide), if_neg (by rw [h0, h0']; decide)]
theorem nxB_zero (b : Nat) (hb : b < 18446744073709551616) (h : b % 2 = 0) : nxB (b : Int) 0 = false := by
  unfold nxB
  have e : (b : Int) / 2 ^ (0 : Int).toNat = (b : Int) := by simp
  have := andN b 1 hb (by decide)
  rw [e]
  rw [show ((1 : Nat) : Int) = 1 from rfl] at this
  rw [this, Nat.and_one_is_mod, h]
  rfl
theorem rule_zero {L : Int} {b0 b1 s0 s1 : Nat} (h : Tb L b0 b1 s0 s1) : ∀ x, nxtV b0 b1 s0 s1 x false 0 = false := by
  intro x
  obtain ⟨_, _, h0, h1, l0, l1, _⟩ := h
  unfold nxtV
  split
  · rfl
  · rw [if_neg (by decide)]
    split
    · exact nxB_zero b0 l0 h0
    · exact nxB_zero b1 l1 h1
def Bx (l R : Int) (s : List CL) : Prop := ∀ c ∈ s, hOK l c.f1 ∧ (-R ≤ c.f0.f0 ∧ c.f0.f0 ≤ R) ∧ (-R ≤ c.f0.f1 ∧ c.f0.f1 ≤ R)
theorem Bx.half {l R : Int} {s : List CL} (h : Bx l R s) : ∀ c ∈ s, hOK l c.f1 := fun c hc => (h c hc).1
theorem Bx.mono {l R R' : Int} {s : List CL} (h : Bx l R s) (hR : R ≤ R') : Bx l R' s := fun c hc => by
  obtain ⟨h1, h2, h3⟩ := h c hc
  exact ⟨h1, by omega, by omega⟩
theorem Bx.chk {l R : Int} {s : List CL} (hl : 1 ≤ l ∧ l ≤ 3) (hR : R ≤ 1000000000) (h : Bx l R s) : ∀ c ∈ s, checkR l c.f0.f0 c.f0.f1 c.f1 = none := fun c hc => by
  obtain ⟨h1, h2, h3⟩ := h c hc
  unfold checkR
  rw [if_pos hl, if_neg, if_pos (by unfold goodP; omega)]
  unfold hOK at h1
  by_cases e : l = 1
  · rw [if_pos e]; have := h1.2 e; omega
  · rw [if_neg e]; omega
theorem Bx.ok {l R : Int} {s : List CL} (hl : 1 ≤ l ∧ l ≤ 3) (hR : R ≤ 1000000000) (h : Bx l R s) : (s.all fun c => okC l c) = true := by
  rw [List.all_eq_true]
  intro c hc
  unfold okC
  rw [Bool.and_eq_true]
  refine ⟨by rw [h.chk hl hR c hc]; rfl, ?_⟩
  rw [List.all_eq_true]
  intro d hd
  obtain ⟨h1, h2, h3⟩ := h c hc
  have := bes_near l c d hl h1 hd
  exact decide_eq_true (by unfold goodP; omega)
theorem Bx.next {l R : Int} {s : List CL} {nx : Rul} (hl : 1 ≤ l ∧ l ≤ 3) (h0 : ∀ x, nx x false 0 = false) (hs : Srt s) (h : Bx l R s) : Bx l (R + 1) (nextL nx l s) := fun c hc => by
  have hh := ((next_mem nx l hl h0 s (srt_nodup hs) h.half c).1 hc).1
  obtain ⟨d, hd, h1, h2, h3, h4⟩ := next_near nx l hl h0 s (srt_nodup hs) h.half c hc
  obtain ⟨_, h5, h6⟩ := h d hd
  exact ⟨hh, by omega, by omega⟩
theorem next_len (nx : Rul) (l : Int) (s : List CL) : (nextL nx l s).length ≤ 13 * s.length := by
  unfold nextL nextRaw
  refine Nat.le_trans (ofL_le _) ?_
  rw [List.length_append]
  have h1 := keep_le nx (arL l s) s
  have h2 := bornL_le nx (keepL nx (arL l s) s).1
  have h3 := arL_le l s
  omega
theorem step_f {L : Int} {b0 b1 s0 s1 : Nat} (ht : Tb L b0 b1 s0 s1) (s : List CL) (hs : Srt s) (R : Int) (hR : R ≤ 1000000000) (hb : Bx L R s) (hn : s.length < 1073741824) :
    XStep.f L b0 b1 s0 s1 s = some (nextL (nxtV b0 b1 s0 s1) L s, none) := by
  unfold XStep.f
  rw [if_pos ⟨hn, ht.2.1, hs, hb.ok ht.1 hR⟩]
theorem XOf_srt {s : List CL} (hs : Srt s) (hn : s.length < 1073741824) : XOf.f s = some s := by
  unfold XOf.f
  rw [if_pos (by omega), ofL_of_srt hs]
theorem steps_l0 {L : Int} {b0 b1 s0 s1 : Nat} (ht : Tb L b0 b1 s0 s1) (n : Nat) (hn9 : n < 1000000000) : ∀ (d k i : Nat) (s : List CL) (R : Int), i + d = n → d < k → Srt s → R + d ≤ 1000000000 → Bx L R s → s.length * 13 ^ d < 1073741824 →
    flat_Steps.l0 k s n i L b0 b1 s0 s1 = some (stepsL (nxtV b0 b1 s0 s1) L d s, none) := by
  intro d
  induction d with
  | zero =>
    intro k i s R hi hk hs hR hb hlen
    obtain ⟨k, rfl⟩ : ∃ m, k = m + 1 := ⟨k - 1, by omega⟩
    simp only [flat_Steps.l0]
    rw [if_neg (by omega), XOf_srt hs (by simpa using hlen)]
    rfl
  | succ d ih =>
    intro k i s R hi hk hs hR hb hlen
    obtain ⟨k, rfl⟩ : ∃ m, k = m + 1 := ⟨k - 1, by omega⟩
    have hlen2 : 13 * s.length * 13 ^ d < 1073741824 := by
      have : s.length * 13 ^ (d + 1) = 13 * s.length * 13 ^ d := by rw [Nat.pow_succ, Nat.mul_comm 13 s.length, Nat.mul_assoc, Nat.mul_comm 13]
      omega
    have h1 : 1 ≤ 13 ^ d := Nat.one_le_pow _ _ (by decide)
    have hls : s.length < 1073741824 := by
      have : s.length * 1 ≤ 13 * s.length * 13 ^ d := Nat.mul_le_mul (by omega) h1
      omega
    simp only [flat_Steps.l0]
    rw [if_pos (by omega)]
    by_cases he : s = []
    · subst he
      rw [if_pos (by simp), XOf_srt List.Pairwise.nil (by decide), stepsL_nil _ L ht.1 (rule_zero ht)]
      rfl
    · have : 0 < s.length := List.length_pos_iff.2 he
      rw [if_neg (by omega), step_f ht s hs R (by omega) hb hls]
      simp only [Option.bind_some, Option.isNone_none, ↓reduceIte]
      rw [w64i ((i : Int) + 1) (by omega) (by omega)]
      have hx := ih k (i + 1) (nextL (nxtV b0 b1 s0 s1) L s) (R + 1) (by omega) (by omega) (next_srt _ _ _) (by omega) (hb.next ht.1 (rule_zero ht) hs) (by
        have := Nat.mul_le_mul_right (13 ^ d) (next_len (nxtV b0 b1 s0 s1) L s)
        omega)
      simp only [Int.natCast_add, Int.cast_ofNat_Int] at hx
      rw [hx]
      rfl
theorem steps_f {L : Int} {b0 b1 s0 s1 : Nat} (ht : Tb L b0 b1 s0 s1) (n : Nat) (hn9 : n < 1000000000) (K : Nat) (s : List CL) (R : Int) (hK : n < K) (hK2 : s.length + 1 < K) (hs : Srt s) (hR : R + n ≤ 1000000000) (hb : Bx L R s) (hlen : s.length * 13 ^ n < 1073741824) :
    flat_Steps.f K L b0 b1 s0 s1 s n = some (stepsL (nxtV b0 b1 s0 s1) L n s, none) := by
  have h1 : 1 ≤ 13 ^ n := Nat.one_le_pow _ _ (by decide)
  have hls : s.length < 1073741824 := by
    have : s.length * 1 ≤ s.length * 13 ^ n := Nat.mul_le_mul (by omega) h1
    omega
  unfold flat_Steps.f
  rw [if_neg (by omega), show XTCheck.f L b0 b1 s0 s1 = some none by unfold XTCheck.f; rw [ht.2.1]]
  simp only [Option.bind_some, Option.isNone_none, ↓reduceIte]
  rw [chk_f K s L ht.1.1 ht.1.2 hs (hb.chk ht.1 (by omega)) (by omega) hK2]
  simp only [Option.bind_some, Option.isNone_none, ↓reduceIte]
  have := steps_l0 ht n hn9 n K 0 s R (by omega) hK hs hR hb hlen
  exact this
theorem stepsL_srt (nx : Rul) (l : Int) : ∀ (n : Nat) (s : List CL), Srt s → Srt (stepsL nx l n s)
  | 0, _, h => h
  | n + 1, s, _ => stepsL_srt nx l n _ (next_srt nx l s)
theorem stepsL_box {nx : Rul} {l : Int} (hl : 1 ≤ l ∧ l ≤ 3) (h0 : ∀ x, nx x false 0 = false) : ∀ (n : Nat) (R : Int) (s : List CL), Srt s → Bx l R s → Bx l (R + n) (stepsL nx l n s)
  | 0, R, s, _, hb => by simpa [stepsL] using hb
  | n + 1, R, s, hs, hb => by
    have := stepsL_box hl h0 n (R + 1) _ (next_srt nx l s) (hb.next hl h0 hs)
    exact this.mono (by omega)
theorem stepsL_len (nx : Rul) (l : Int) : ∀ (n : Nat) (s : List CL), (stepsL nx l n s).length ≤ s.length * 13 ^ n
  | 0, s => by simp [stepsL]
  | n + 1, s => by
    have h1 := stepsL_len nx l n (nextL nx l s)
    have h2 := Nat.mul_le_mul_right (13 ^ n) (next_len nx l s)
    have : s.length * 13 ^ (n + 1) = 13 * s.length * 13 ^ n := by rw [Nat.pow_succ, Nat.mul_comm 13 s.length, Nat.mul_assoc, Nat.mul_comm 13]
    rw [stepsL]
    omega
theorem stepsL_sh {nx : Rul} {l : Int} (hl : 1 ≤ l ∧ l ≤ 3) (h0 : ∀ x, nx x false 0 = false) (a b : Int) : ∀ (n : Nat) (s : List CL), Srt s → (∀ c ∈ s, hOK l c.f1) → stepsL nx l n (s.map (sh a b)) = (stepsL nx l n s).map (sh a b)
  | 0, _, _, _ => rfl
  | n + 1, s, hs, hh => by
    rw [stepsL, next_sh nx l hl h0 s (srt_nodup hs) hh a b]
    exact stepsL_sh hl h0 a b n _ (next_srt nx l s) (next_halves nx l hl h0 s (srt_nodup hs) hh)
theorem Bx.shift {l R : Int} {s : List CL} (h : Bx l R s) (a b A : Int) (ha : -A ≤ a ∧ a ≤ A) (hb : -A ≤ b ∧ b ≤ A) : Bx l (R + A) (s.map (sh a b)) := fun c hc => by
  obtain ⟨d, hd, rfl⟩ := List.mem_map.1 hc
  obtain ⟨h1, h2, h3⟩ := h d hd
  exact ⟨h1, by simp only [sh]; omega, by simp only [sh]; omega⟩
theorem shift_f {l R : Int} {s : List CL} (hs : Srt s) (h : Bx l R s) (a b A : Int) (hn : s.length < 1073741824) (ha : -A ≤ a ∧ a ≤ A) (hb : -A ≤ b ∧ b ≤ A) (hR0 : 0 ≤ R) (hR : R + A ≤ 1000000000) : XShift.f s a b = some (s.map (sh a b), none) := by
  unfold XShift.f
  rw [if_pos (by omega), if_pos, ofL_of_srt (srt_sh a b hs)]
  rw [List.all_eq_true]
  intro x hx
  obtain ⟨_, h2, h3⟩ := h x hx
  unfold shOk
  have g1 : goodP x.f0.f0 x.f0.f1 := by unfold goodP; omega
  have g2 : goodP a b := by unfold goodP; omega
  have g3 : goodP (x.f0.f0 + a) (x.f0.f1 + b) := by unfold goodP; omega
  simp only [g1, g2, g3, decide_true, Bool.and_self]
def fewG (r : RC) : RC := ⟨Int.tmod r.f0 7, Int.tmod r.f1 7, r.f2⟩
def someG (l : Int) (r : RC) : CL := ⟨⟨Int.tmod r.f0 100, Int.tmod r.f1 100⟩, if l = 1 then 0 else r.f2 % 2⟩
theorem rdRC (l : List RC) (j : Nat) (hj : j < l.length) : rd_T60 l j = l[j] := by simp [rd_T60, hj]
theorem tmod_small (x m : Int) (h1 : -m < x) (h2 : x < m) : Int.tmod x m = x := by
  rcases Int.le_total 0 x with h | h
  · rw [Int.tmod_eq_emod_of_nonneg h, Int.emod_eq_of_lt h h2]
  · obtain ⟨y, rfl⟩ : ∃ y, x = -y := ⟨-x, by omega⟩
    rw [Int.neg_tmod, Int.tmod_eq_emod_of_nonneg (by omega), Int.emod_eq_of_lt (by omega) (by omega)]
theorem some4_l0 (l : Int) (raw : List RC) : ∀ (d k i : Nat) (acc : List CL), i + d = min raw.length 40 → d < k → acc.length ≤ i → honeycomblaw04_Some.l0 k l raw acc i = some (ofL (acc ++ ((raw.take (i + d)).drop i).map (someG l))) := by
  intro d
  induction d with
  | zero =>
    intro k i acc hi hk ha
    obtain ⟨k, rfl⟩ : ∃ m, k = m + 1 := ⟨k - 1, by omega⟩
    have hof : XOf.f acc = some (ofL acc) := by unfold XOf.f; rw [if_pos (by omega)]
    have hd : ((raw.take (i + 0)).drop i).map (someG l) = [] := by rw [List.drop_eq_nil_of_le (by rw [List.length_take]; omega)]; rfl
    rw [hd, List.append_nil]
    simp only [honeycomblaw04_Some.l0, hof, Option.bind_some]
    by_cases h : i < raw.length
    · rw [if_pos (by omega), if_neg (by omega)]
    · rw [if_neg (by omega)]
  | succ d ih =>
    intro k i acc hi hk ha
    obtain ⟨k, rfl⟩ : ∃ m, k = m + 1 := ⟨k - 1, by omega⟩
    have h1 : i < raw.length := by omega
    simp only [honeycomblaw04_Some.l0]
    rw [if_pos (by omega), if_pos (by omega), if_pos (by omega), rdRC raw i h1]
    unfold XSome3.f
    simp only [Option.bind_some]
    rw [if_pos (by omega), w64i ((i : Int) + 1) (by omega) (by omega)]
    have := ih k (i + 1) (acc ++ [someG l raw[i]]) (by omega) (by omega) (by rw [List.length_append]; simp; omega)
    simp only [Int.natCast_add, Int.cast_ofNat_Int] at this
    refine this.trans ?_
    have hd : (raw.take (i + (d + 1))).drop i = raw[i] :: (raw.take (i + 1 + d)).drop (i + 1) := by
      have hl : i < (raw.take (i + (d + 1))).length := by rw [List.length_take]; omega
      rw [List.drop_eq_getElem_cons hl, List.getElem_take]
      congr 3
      omega
    rw [hd, List.map_cons, List.append_assoc, List.singleton_append]
theorem some4_f (K : Nat) (l : Int) (raw : List RC) (hK : 41 ≤ K) : honeycomblaw04_Some.f K l raw = some (ofL ((raw.take 40).map (someG l))) := by
  unfold honeycomblaw04_Some.f
  have := some4_l0 l raw (min raw.length 40) K 0 [] (by omega) (by omega) (by simp)
  refine this.trans ?_
  rw [List.nil_append, List.drop_zero, Nat.zero_add]
  congr 3
  rw [List.take_eq_take_iff]
  omega
theorem few_l0 (l : Int) (raw : List RC) : ∀ (d k i : Nat) (acc : List RC), i + d = min raw.length 16 → d + 42 ≤ k → acc.length ≤ i → honeycomblaw08_Few.l0 k l raw acc i = some (ofL (((acc ++ ((raw.take (i + d)).drop i).map fewG).take 40).map (someG l))) := by
  intro d
  induction d with
  | zero =>
    intro k i acc hi hk ha
    obtain ⟨k, rfl⟩ : ∃ m, k = m + 1 := ⟨k - 1, by omega⟩
    have hd : ((raw.take (i + 0)).drop i).map fewG = [] := by rw [List.drop_eq_nil_of_le (by rw [List.length_take]; omega)]; rfl
    rw [hd, List.append_nil]
    simp only [honeycomblaw08_Few.l0, some4_f k l acc (by omega), Option.bind_some]
    by_cases h : i < raw.length
    · rw [if_pos (by omega), if_neg (by omega)]
    · rw [if_neg (by omega)]
  | succ d ih =>
    intro k i acc hi hk ha
    obtain ⟨k, rfl⟩ : ∃ m, k = m + 1 := ⟨k - 1, by omega⟩
    have h1 : i < raw.length := by omega
    simp only [honeycomblaw08_Few.l0]
    rw [if_pos (by omega), if_pos (by omega), if_pos (by omega), rdRC raw i h1, if_pos (by omega), w64i ((i : Int) + 1) (by omega) (by omega)]
    have := ih k (i + 1) (acc ++ [fewG raw[i]]) (by omega) (by omega) (by rw [List.length_append]; simp; omega)
    simp only [Int.natCast_add, Int.cast_ofNat_Int] at this
    refine this.trans ?_
    have hd : (raw.take (i + (d + 1))).drop i = raw[i] :: (raw.take (i + 1 + d)).drop (i + 1) := by
      have hl : i < (raw.take (i + (d + 1))).length := by rw [List.length_take]; omega
      rw [List.drop_eq_getElem_cons hl, List.getElem_take]
      congr 3
      omega
    rw [hd, List.map_cons, List.append_assoc, List.singleton_append]
/-- few cells near the origin -/
theorem few_f (K : Nat) (l : Int) (raw : List RC) (hK : 60 ≤ K) : ∃ s, honeycomblaw08_Few.f K l raw = some s ∧ Srt s ∧ s.length ≤ 16 ∧ Bx l 6 s := by
  have := few_l0 l raw (min raw.length 16) K 0 [] (by omega) (by omega) (by simp)
  refine ⟨_, this, ofL_srt _, ?_, ?_⟩
  · refine Nat.le_trans (ofL_le _) ?_
    simp [List.length_take]
    omega
  · intro c hc
    rw [ofL_mem] at hc
    obtain ⟨r, hr, rfl⟩ := List.mem_map.1 hc
    have hr := List.mem_of_mem_take hr
    rw [List.nil_append] at hr
    obtain ⟨q, _, rfl⟩ := List.mem_map.1 hr
    have t1 := tmod_range q.f0 7 (by omega)
    have t2 := tmod_range q.f1 7 (by omega)
    have u1 : Int.tmod (Int.tmod q.f0 7) 100 = Int.tmod q.f0 7 := tmod_small _ 100 (by omega) (by omega)
    have u2 : Int.tmod (Int.tmod q.f1 7) 100 = Int.tmod q.f1 7 := tmod_small _ 100 (by omega) (by omega)
    simp only [someG, fewG, u1, u2]
    refine ⟨?_, by omega, by omega⟩
    unfold hOK
    by_cases e : l = 1
    · rw [if_pos e]; exact ⟨.inl rfl, fun _ => rfl⟩
    · rw [if_neg e]; exact ⟨by omega, fun h => absurd h e⟩
end Go.Proofs.YtaeenefdbahfoaaDoor
namespace Go.Proofs.YtaeenefdbahfoaaDoorW.PrintWords
open Go.RowKit
section
variable {P : Program} {ops : Array Oper} {rest : List Oper} {o : Oper} {a : Act} {Q : Exit → Act → World → Prop} {W : World}
/-- The gate takes the guard off (hw: 'by rfl', 'by kernel_rfl': the guard's slot holds what is wanted). -/
theorem gate_guard (hw : Region.wanted o (yielded ops a.tmps) = true) (h : wpList P ops Q ({ o with guard := none } :: rest) a W) : wpList P ops Q (o :: rest) a W := by
  have h1 : Region.wanted { o with guard := none } (yielded ops a.tmps) = true := rfl
  unfold wpList at h ⊢
  rw [if_pos h1] at h
  rw [if_pos hw]
  exact h
end
end Go.Proofs.YtaeenefdbahfoaaDoorW.PrintWords
namespace Go.Proofs.YtaeenefdbahfoaaDoor
open Go.RowKit Go.Proofs.YtaeenefdbahfoaaDoorW.PrintWords Go.Proofs.YtaeenefdbahfoaaDoorW.PrintLast Go.Proofs.YtaeenefdbahfoaaDoorW.PrintMore
open H
open Go.RowKit
set_option linter.unusedSimpArgs false
def ompS : ByteArray := ⟨#[111, 109, 112]⟩
def ompC : Nat → Int
  | 0 => 111 | 1 => 109 | _ => 112
def setB (W : World) (g : Nat) (o : Obj) : World := { W with heap := W.heap.setIfInBounds g o }
theorem omp_next (W : World) (g pos : Nat) (ty : TypeId) (hp : pos < 3) (h : W.heap[g]? = some (.stringIter ompS pos)) :
    (Instr.next (.pointer (some ⟨g, 0, none⟩)) true ty).run Tryd.prog W = .ok (.tuple #[.bool true, .int .i64 pos, .int .i32 (ompC pos)]) (setB W g (.stringIter ompS (pos + 1))) := by
  have hd : Utf8.decode ompS pos = ((ompC pos).toNat, 1) := by
    have : pos = 0 ∨ pos = 1 ∨ pos = 2 := by omega
    rcases this with rfl | rfl | rfl <;> decide +kernel
  have hs : pos < ompS.size := hp
  have hc : (((ompC pos).toNat : Nat) : Int) = ompC pos := by
    unfold ompC
    split <;> rfl
  simp [Instr.next, getObj, setObj, Sem.run_bind, Sem.run, h, Result.andThen, hs, hd, goInt, hc, setB]
theorem omp_end (W : World) (g : Nat) (ty : TypeId) (h : W.heap[g]? = some (.stringIter ompS 3)) :
    (Instr.next (.pointer (some ⟨g, 0, none⟩)) true ty).run Tryd.prog W = .ok (.tuple #[.bool false]) W := by
  have hs : ¬ 3 < ompS.size := by decide
  simp [Instr.next, getObj, Sem.run, h, hs]
theorem omp_range (W : World) : (Instr.range 9 (.string ⟨#[111, 109, 112]⟩)).run Tryd.prog W = .ok (.pointer (some ⟨W.heap.size, 0, none⟩)) (W.alloc (.stringIter ompS 0)) := by
  have := run_range_string (P := Tryd.prog) W 9 ompS Tryd.underlying9
  exact this
theorem setB_same {W : World} {g : Nat} {o o' : Obj} (h : W.heap[g]? = some o) : (setB W g o').heap[g]? = some o' := by
  have := (Array.getElem?_eq_some_iff.1 h).1
  simp [setB, this]
theorem setB_below {B : Nat} {a W : World} {g : Nat} {o : Obj} (h : Below B a W) (hg : B ≤ g) : Below B a (setB W g o) := by
  obtain ⟨h1, h2, h3, h4, h5⟩ := h
  refine ⟨h1, h2, h3, by simpa [setB] using h4, fun k hk => ?_⟩
  rw [← h5 k hk]
  show (W.heap.setIfInBounds g o)[k]? = _
  rw [Array.getElem?_setIfInBounds_ne (by omega)]
theorem setB_R {W : World} {g base : Nat} {o : Obj} {v : Value} {xs : List S104} (h : Kd.R k104 104 W base (fun k => k ≠ g) v xs) : Kd.R k104 104 (setB W g o) base (fun k => k ≠ g) v xs :=
  Kd.R_move h fun k hk => by
    show (W.heap.setIfInBounds g o)[k]? = _
    rw [Array.getElem?_setIfInBounds_ne (by omega)]
theorem infoCl : (Tryd.prog.info? 104).map (fun i => (i.zero, i.size, i.bytes)) = some (some (.agg #[.int .i64 0, .int .u8 0]), 2, 16) := by kernel_rfl
theorem iterPos_of {W : World} {g : Nat} {s : ByteArray} {p : Nat} (h : W.heap[g]? = some (.stringIter s p)) : W.iterPos g = p := by
  unfold World.iterPos
  rw [h]
def ompL (n : Int) : List S104 := [⟨n, 111⟩, ⟨n, 109⟩, ⟨n, 112⟩]
def clsL : Nat → List S104
  | 0 => []
  | 1 => [⟨0, 0⟩]
  | 2 => [⟨0, 0⟩, ⟨1, 0⟩]
  | 3 => [⟨0, 0⟩, ⟨1, 0⟩] ++ ompL 2
  | 4 => [⟨0, 0⟩, ⟨1, 0⟩] ++ ompL 2 ++ ompL 3
  | 5 => [⟨0, 0⟩, ⟨1, 0⟩] ++ ompL 2 ++ ompL 3 ++ ompL 4
  | 6 => [⟨0, 0⟩, ⟨1, 0⟩] ++ ompL 2 ++ ompL 3 ++ ompL 4 ++ [⟨5, 0⟩]
  | _ => [⟨0, 0⟩, ⟨1, 0⟩] ++ ompL 2 ++ ompL 3 ++ ompL 4 ++ [⟨5, 0⟩] ++ [⟨6, 0⟩]
theorem clsL_le (n : Nat) : (clsL n).length ≤ 20 := by
  unfold clsL ompL
  split <;> simp
set_option maxRecDepth 100000 in
set_option maxHeartbeats 4000000 in
theorem classes_any (w : World) : Calls Tryd.prog 78 #[] w fun e w' => ∃ v, e = .returned v ∧ Kd.R k104 104 w' w.heap.size (fun _ => True) v (clsL 7) ∧ Below w.heap.size w w' := by
  have hrg := omp_range
  have h0 : clsL 0 = [] := rfl
  have H0 := Aside0.mk h0
  clear h0
  go_enter Tryd.func78, Tryd.ntmps78
  go_wp2_with fail
  go_loopw [5, 1] (fun i v wr => ∃ n : Nat, n ≤ 7 ∧ i = .int .i64 n ∧ Kd.R k104 104 wr w.heap.size (fun _ => True) v (clsL n) ∧ Below w.heap.size w wr) (fun i _ _ => 7 - (intOf i).toNat)
  case atStart => exact ⟨0, by omega, rfl, Kd.R_nil _ _ _ _ _, Below.refl _ _⟩
  case round =>
    obtain ⟨n, hn, rfl, hO, hb⟩ := hrel
    have HO := Aside0.mk hO
    have HB := Aside0.mk hb
    have hzr := hb.size
    clear hO hb
    have hnn : n = 0 ∨ n = 1 ∨ n = 2 ∨ n = 3 ∨ n = 4 ∨ n = 5 ∨ n = 6 ∨ n = 7 := by omega
    rcases hnn with rfl | rfl | rfl | rfl | rfl | rfl | rfl | rfl
    · have hcl : clsL 1 = clsL 0 ++ [⟨0, 0⟩] := rfl
      have HCL := Aside0.mk hcl
      have hle := clsL_le 0
      clear hcl
      go_wp2_with (at_builtin; refine Kd.R_append k104 (w0 := w) w.heap.size rfl (.tmp 14) (.tmp 17) 127 104 (.agg #[.int .i64 0, .int .u8 0]) 16 rfl Tryd.underlying127 infoCl rfl (by decide) (by decide) _ (clsL 0) (⟨0, 0⟩) [.int .i64 0, .int .u8 0] (fun _ => True) (fun _ => False) rfl (by first | (simp; done) | rfl) (k104_mkM _ _ _ _) (fun _ h => h.elim) (fun _ _ => trivial) HO.out HB.out hzr (by omega) ?_; intro v1 w1 ho1 hb1 hg1 _; have HO1 := Aside0.mk ho1; have HB1 := Aside0.mk hb1; have HG1 := Aside0.mk hg1; clear ho1 hb1 hg1)
      go_roundw
      case rel => exact ⟨1, by omega, by first | rfl | go_num, by rw [HCL.out]; exact HO1.out, HB1.out⟩
      case measure => simp [intOf]
    · have hcl : clsL 2 = clsL 1 ++ [⟨1, 0⟩] := rfl
      have HCL := Aside0.mk hcl
      have hle := clsL_le 1
      clear hcl
      go_wp2_with (at_builtin; refine Kd.R_append k104 (w0 := w) w.heap.size rfl (.tmp 14) (.tmp 17) 127 104 (.agg #[.int .i64 0, .int .u8 0]) 16 rfl Tryd.underlying127 infoCl rfl (by decide) (by decide) _ (clsL 1) (⟨1, 0⟩) [.int .i64 1, .int .u8 0] (fun _ => True) (fun _ => False) rfl (by first | (simp; done) | rfl) (k104_mkM _ _ _ _) (fun _ h => h.elim) (fun _ _ => trivial) HO.out HB.out hzr (by omega) ?_; intro v1 w1 ho1 hb1 hg1 _; have HO1 := Aside0.mk ho1; have HB1 := Aside0.mk hb1; have HG1 := Aside0.mk hg1; clear ho1 hb1 hg1)
      go_roundw
      case rel => exact ⟨2, by omega, by first | rfl | go_num, by rw [HCL.out]; exact HO1.out, HB1.out⟩
      case measure => simp [intOf]
    · have hcl : clsL 3 = clsL 2 ++ ompL 2 := rfl
      have HCL := Aside0.mk hcl
      have hle := clsL_le 2
      clear hcl
      go_wp2_with fail
      obtain ⟨wI, hwI⟩ : ∃ W, W = wr.alloc (.stringIter ompS 0) := ⟨_, rfl⟩
      have hi0 : wI.heap[wr.heap.size]? = some (.stringIter ompS 0) := by rw [hwI]; exact blk_new _ _
      have hBI : Below wr.heap.size wr wI := by rw [hwI]; exact below_alloc (Below.refl _ _) _
      have hOI : Kd.R k104 104 wI w.heap.size (fun k => k ≠ wr.heap.size) _ (clsL 2) := Kd.R_mono (Kd.R_below (Kd.R_bound HO.out) hBI) (fun k hk => by have := hk.2.2.1; omega)
      rw [← hwI]
      obtain ⟨g, hg⟩ : ∃ g, g = wr.heap.size := ⟨_, rfl⟩
      rw [← hg] at hi0 hOI ⊢
      have hgw : w.heap.size ≤ g := by omega
      have HBI := Aside0.mk (HB.out.trans (hBI.mono hzr))
      clear hwI hBI hg HO HB
      try rw [show ((2 : Nat) : Int) = 2 from rfl]
      go_loopw [1] (fun v wr => ∃ pos : Nat, pos ≤ 3 ∧ Kd.R k104 104 wr w.heap.size (fun k => k ≠ g) v (clsL 2 ++ (ompL 2).take pos) ∧ wr.heap[g]? = some (.stringIter ompS pos) ∧ Below w.heap.size w wr) (fun _ wr => 3 - wr.iterPos g)
      case atStart => exact ⟨0, by omega, by simpa using hOI, hi0, HBI.out⟩
      case round =>
        obtain ⟨pos, hpos, hO, hi, hb⟩ := hrel
        have HO := Aside0.mk hO
        have HI := Aside0.mk hi
        have HB := Aside0.mk hb
        clear hO hi hb hOI hi0 HBI
        have hpp : pos = 0 ∨ pos = 1 ∨ pos = 2 ∨ pos = 3 := by omega
        rcases hpp with rfl | rfl | rfl | rfl
        · have hnx := fun ty => omp_next wr g 0 ty (by omega) HI.out
          have hlt := blk_lt HI.out
          obtain ⟨w2, hw2⟩ : ∃ W, W = setB wr g (.stringIter ompS (0 + 1)) := ⟨_, rfl⟩
          rw [← hw2] at hnx
          have hI2 : w2.heap[g]? = some (.stringIter ompS 1) := by rw [hw2]; exact setB_same HI.out
          have hO2 := setB_R (o := .stringIter ompS (0 + 1)) HO.out
          rw [← hw2] at hO2
          have hB2 : Below w.heap.size w w2 := by rw [hw2]; exact setB_below HB.out hgw
          have hl2 : g < w2.heap.size := blk_lt hI2
          have HI2 := Aside0.mk hI2
          have HO2 := Aside0.mk hO2
          have HB2 := Aside0.mk hB2
          have hoc : ompC 0 = 111 := rfl
          rw [hoc] at hnx
          have hwr8 : IntKind.u8.wrap 111 = 111 := by decide
          clear hw2 hI2 hO2 hB2 hoc
          go_wp2_with (at_builtin; refine Kd.R_append k104 (w0 := w) w.heap.size rfl (.tmp 23) (.tmp 28) 127 104 (.agg #[.int .i64 0, .int .u8 0]) 16 rfl Tryd.underlying127 infoCl rfl (by decide) (by decide) _ (clsL 2 ++ (ompL 2).take 0) (⟨2, 111⟩) [.int .i64 2, .int .u8 111] (fun k => k ≠ g) (fun _ => False) rfl (by first | (simp; done) | rfl) (k104_mkM _ _ _ _) (fun _ h => h.elim) (fun k hk => by show k ≠ g; omega) HO2.out HB2.out HB2.out.size (by simp [ompL]; omega) ?_; intro v1 w1 ho1 hb1 hg1 _; have HO1 := Aside0.mk ho1; have HB1 := Aside0.mk hb1; have HG1 := Aside0.mk hg1; clear ho1 hb1 hg1)
          clear hnx
          have hz1 : w2.heap.size ≤ w1.heap.size := HG1.out.size
          go_roundw
          case rel => exact ⟨1, by omega, by simpa only [ompL, List.take_succ_cons, List.take_zero, List.append_assoc, List.cons_append, List.nil_append, List.append_nil] using HO1.out, (HG1.out.block g hl2 (Kd.R_away HO2.out (fun _ h => h))).trans HI2.out, HB1.out⟩
          case measure =>
            have hp1 := iterPos_of ((HG1.out.block g hl2 (Kd.R_away HO2.out (fun _ h => h))).trans HI2.out)
            have hp0 := iterPos_of HI.out
            simp only [hp1, hp0]
            omega
        · have hnx := fun ty => omp_next wr g 1 ty (by omega) HI.out
          have hlt := blk_lt HI.out
          obtain ⟨w2, hw2⟩ : ∃ W, W = setB wr g (.stringIter ompS (1 + 1)) := ⟨_, rfl⟩
          rw [← hw2] at hnx
          have hI2 : w2.heap[g]? = some (.stringIter ompS 2) := by rw [hw2]; exact setB_same HI.out
          have hO2 := setB_R (o := .stringIter ompS (1 + 1)) HO.out
          rw [← hw2] at hO2
          have hB2 : Below w.heap.size w w2 := by rw [hw2]; exact setB_below HB.out hgw
          have hl2 : g < w2.heap.size := blk_lt hI2
          have HI2 := Aside0.mk hI2
          have HO2 := Aside0.mk hO2
          have HB2 := Aside0.mk hB2
          have hoc : ompC 1 = 109 := rfl
          rw [hoc] at hnx
          have hwr8 : IntKind.u8.wrap 109 = 109 := by decide
          clear hw2 hI2 hO2 hB2 hoc
          go_wp2_with (at_builtin; refine Kd.R_append k104 (w0 := w) w.heap.size rfl (.tmp 23) (.tmp 28) 127 104 (.agg #[.int .i64 0, .int .u8 0]) 16 rfl Tryd.underlying127 infoCl rfl (by decide) (by decide) _ (clsL 2 ++ (ompL 2).take 1) (⟨2, 109⟩) [.int .i64 2, .int .u8 109] (fun k => k ≠ g) (fun _ => False) rfl (by first | (simp; done) | rfl) (k104_mkM _ _ _ _) (fun _ h => h.elim) (fun k hk => by show k ≠ g; omega) HO2.out HB2.out HB2.out.size (by simp [ompL]; omega) ?_; intro v1 w1 ho1 hb1 hg1 _; have HO1 := Aside0.mk ho1; have HB1 := Aside0.mk hb1; have HG1 := Aside0.mk hg1; clear ho1 hb1 hg1)
          clear hnx
          have hz1 : w2.heap.size ≤ w1.heap.size := HG1.out.size
          go_roundw
          case rel => exact ⟨2, by omega, by simpa only [ompL, List.take_succ_cons, List.take_zero, List.append_assoc, List.cons_append, List.nil_append, List.append_nil] using HO1.out, (HG1.out.block g hl2 (Kd.R_away HO2.out (fun _ h => h))).trans HI2.out, HB1.out⟩
          case measure =>
            have hp1 := iterPos_of ((HG1.out.block g hl2 (Kd.R_away HO2.out (fun _ h => h))).trans HI2.out)
            have hp0 := iterPos_of HI.out
            simp only [hp1, hp0]
            omega
        · have hnx := fun ty => omp_next wr g 2 ty (by omega) HI.out
          have hlt := blk_lt HI.out
          obtain ⟨w2, hw2⟩ : ∃ W, W = setB wr g (.stringIter ompS (2 + 1)) := ⟨_, rfl⟩
          rw [← hw2] at hnx
          have hI2 : w2.heap[g]? = some (.stringIter ompS 3) := by rw [hw2]; exact setB_same HI.out
          have hO2 := setB_R (o := .stringIter ompS (2 + 1)) HO.out
          rw [← hw2] at hO2
          have hB2 : Below w.heap.size w w2 := by rw [hw2]; exact setB_below HB.out hgw
          have hl2 : g < w2.heap.size := blk_lt hI2
          have HI2 := Aside0.mk hI2
          have HO2 := Aside0.mk hO2
          have HB2 := Aside0.mk hB2
          have hoc : ompC 2 = 112 := rfl
          rw [hoc] at hnx
          have hwr8 : IntKind.u8.wrap 112 = 112 := by decide
          clear hw2 hI2 hO2 hB2 hoc
          go_wp2_with (at_builtin; refine Kd.R_append k104 (w0 := w) w.heap.size rfl (.tmp 23) (.tmp 28) 127 104 (.agg #[.int .i64 0, .int .u8 0]) 16 rfl Tryd.underlying127 infoCl rfl (by decide) (by decide) _ (clsL 2 ++ (ompL 2).take 2) (⟨2, 112⟩) [.int .i64 2, .int .u8 112] (fun k => k ≠ g) (fun _ => False) rfl (by first | (simp; done) | rfl) (k104_mkM _ _ _ _) (fun _ h => h.elim) (fun k hk => by show k ≠ g; omega) HO2.out HB2.out HB2.out.size (by simp [ompL]; omega) ?_; intro v1 w1 ho1 hb1 hg1 _; have HO1 := Aside0.mk ho1; have HB1 := Aside0.mk hb1; have HG1 := Aside0.mk hg1; clear ho1 hb1 hg1)
          clear hnx
          have hz1 : w2.heap.size ≤ w1.heap.size := HG1.out.size
          go_roundw
          case rel => exact ⟨3, by omega, by simpa only [ompL, List.take_succ_cons, List.take_zero, List.append_assoc, List.cons_append, List.nil_append, List.append_nil] using HO1.out, (HG1.out.block g hl2 (Kd.R_away HO2.out (fun _ h => h))).trans HI2.out, HB1.out⟩
          case measure =>
            have hp1 := iterPos_of ((HG1.out.block g hl2 (Kd.R_away HO2.out (fun _ h => h))).trans HI2.out)
            have hp0 := iterPos_of HI.out
            simp only [hp1, hp0]
            omega
        · have hnx := fun ty => omp_end wr g ty HI.out
          go_wp2
          go_roundw
          case rel => exact ⟨3, by omega, by first | rfl | go_num, by rw [HCL.out]; exact Kd.R_mono HO.out (fun _ _ => trivial), HB.out⟩
          case measure => simp [intOf]
    · have hcl : clsL 4 = clsL 3 ++ ompL 3 := rfl
      have HCL := Aside0.mk hcl
      have hle := clsL_le 3
      clear hcl
      go_wp2_with fail
      obtain ⟨wI, hwI⟩ : ∃ W, W = wr.alloc (.stringIter ompS 0) := ⟨_, rfl⟩
      have hi0 : wI.heap[wr.heap.size]? = some (.stringIter ompS 0) := by rw [hwI]; exact blk_new _ _
      have hBI : Below wr.heap.size wr wI := by rw [hwI]; exact below_alloc (Below.refl _ _) _
      have hOI : Kd.R k104 104 wI w.heap.size (fun k => k ≠ wr.heap.size) _ (clsL 3) := Kd.R_mono (Kd.R_below (Kd.R_bound HO.out) hBI) (fun k hk => by have := hk.2.2.1; omega)
      rw [← hwI]
      obtain ⟨g, hg⟩ : ∃ g, g = wr.heap.size := ⟨_, rfl⟩
      rw [← hg] at hi0 hOI ⊢
      have hgw : w.heap.size ≤ g := by omega
      have HBI := Aside0.mk (HB.out.trans (hBI.mono hzr))
      clear hwI hBI hg HO HB
      try rw [show ((3 : Nat) : Int) = 3 from rfl]
      go_loopw [1] (fun v wr => ∃ pos : Nat, pos ≤ 3 ∧ Kd.R k104 104 wr w.heap.size (fun k => k ≠ g) v (clsL 3 ++ (ompL 3).take pos) ∧ wr.heap[g]? = some (.stringIter ompS pos) ∧ Below w.heap.size w wr) (fun _ wr => 3 - wr.iterPos g)
      case atStart => exact ⟨0, by omega, by simpa using hOI, hi0, HBI.out⟩
      case round =>
        obtain ⟨pos, hpos, hO, hi, hb⟩ := hrel
        have HO := Aside0.mk hO
        have HI := Aside0.mk hi
        have HB := Aside0.mk hb
        clear hO hi hb hOI hi0 HBI
        have hpp : pos = 0 ∨ pos = 1 ∨ pos = 2 ∨ pos = 3 := by omega
        rcases hpp with rfl | rfl | rfl | rfl
        · have hnx := fun ty => omp_next wr g 0 ty (by omega) HI.out
          have hlt := blk_lt HI.out
          obtain ⟨w2, hw2⟩ : ∃ W, W = setB wr g (.stringIter ompS (0 + 1)) := ⟨_, rfl⟩
          rw [← hw2] at hnx
          have hI2 : w2.heap[g]? = some (.stringIter ompS 1) := by rw [hw2]; exact setB_same HI.out
          have hO2 := setB_R (o := .stringIter ompS (0 + 1)) HO.out
          rw [← hw2] at hO2
          have hB2 : Below w.heap.size w w2 := by rw [hw2]; exact setB_below HB.out hgw
          have hl2 : g < w2.heap.size := blk_lt hI2
          have HI2 := Aside0.mk hI2
          have HO2 := Aside0.mk hO2
          have HB2 := Aside0.mk hB2
          have hoc : ompC 0 = 111 := rfl
          rw [hoc] at hnx
          have hwr8 : IntKind.u8.wrap 111 = 111 := by decide
          clear hw2 hI2 hO2 hB2 hoc
          go_wp2_with (at_builtin; refine Kd.R_append k104 (w0 := w) w.heap.size rfl (.tmp 23) (.tmp 28) 127 104 (.agg #[.int .i64 0, .int .u8 0]) 16 rfl Tryd.underlying127 infoCl rfl (by decide) (by decide) _ (clsL 3 ++ (ompL 3).take 0) (⟨3, 111⟩) [.int .i64 3, .int .u8 111] (fun k => k ≠ g) (fun _ => False) rfl (by first | (simp; done) | rfl) (k104_mkM _ _ _ _) (fun _ h => h.elim) (fun k hk => by show k ≠ g; omega) HO2.out HB2.out HB2.out.size (by simp [ompL]; omega) ?_; intro v1 w1 ho1 hb1 hg1 _; have HO1 := Aside0.mk ho1; have HB1 := Aside0.mk hb1; have HG1 := Aside0.mk hg1; clear ho1 hb1 hg1)
          clear hnx
          have hz1 : w2.heap.size ≤ w1.heap.size := HG1.out.size
          go_roundw
          case rel => exact ⟨1, by omega, by simpa only [ompL, List.take_succ_cons, List.take_zero, List.append_assoc, List.cons_append, List.nil_append, List.append_nil] using HO1.out, (HG1.out.block g hl2 (Kd.R_away HO2.out (fun _ h => h))).trans HI2.out, HB1.out⟩
          case measure =>
            have hp1 := iterPos_of ((HG1.out.block g hl2 (Kd.R_away HO2.out (fun _ h => h))).trans HI2.out)
            have hp0 := iterPos_of HI.out
            simp only [hp1, hp0]
            omega
        · have hnx := fun ty => omp_next wr g 1 ty (by omega) HI.out
          have hlt := blk_lt HI.out
          obtain ⟨w2, hw2⟩ : ∃ W, W = setB wr g (.stringIter ompS (1 + 1)) := ⟨_, rfl⟩
          rw [← hw2] at hnx
          have hI2 : w2.heap[g]? = some (.stringIter ompS 2) := by rw [hw2]; exact setB_same HI.out
          have hO2 := setB_R (o := .stringIter ompS (1 + 1)) HO.out
          rw [← hw2] at hO2
          have hB2 : Below w.heap.size w w2 := by rw [hw2]; exact setB_below HB.out hgw
          have hl2 : g < w2.heap.size := blk_lt hI2
          have HI2 := Aside0.mk hI2
          have HO2 := Aside0.mk hO2
          have HB2 := Aside0.mk hB2
          have hoc : ompC 1 = 109 := rfl
          rw [hoc] at hnx
          have hwr8 : IntKind.u8.wrap 109 = 109 := by decide
          clear hw2 hI2 hO2 hB2 hoc
          go_wp2_with (at_builtin; refine Kd.R_append k104 (w0 := w) w.heap.size rfl (.tmp 23) (.tmp 28) 127 104 (.agg #[.int .i64 0, .int .u8 0]) 16 rfl Tryd.underlying127 infoCl rfl (by decide) (by decide) _ (clsL 3 ++ (ompL 3).take 1) (⟨3, 109⟩) [.int .i64 3, .int .u8 109] (fun k => k ≠ g) (fun _ => False) rfl (by first | (simp; done) | rfl) (k104_mkM _ _ _ _) (fun _ h => h.elim) (fun k hk => by show k ≠ g; omega) HO2.out HB2.out HB2.out.size (by simp [ompL]; omega) ?_; intro v1 w1 ho1 hb1 hg1 _; have HO1 := Aside0.mk ho1; have HB1 := Aside0.mk hb1; have HG1 := Aside0.mk hg1; clear ho1 hb1 hg1)
          clear hnx
          have hz1 : w2.heap.size ≤ w1.heap.size := HG1.out.size
          go_roundw
          case rel => exact ⟨2, by omega, by simpa only [ompL, List.take_succ_cons, List.take_zero, List.append_assoc, List.cons_append, List.nil_append, List.append_nil] using HO1.out, (HG1.out.block g hl2 (Kd.R_away HO2.out (fun _ h => h))).trans HI2.out, HB1.out⟩
          case measure =>
            have hp1 := iterPos_of ((HG1.out.block g hl2 (Kd.R_away HO2.out (fun _ h => h))).trans HI2.out)
            have hp0 := iterPos_of HI.out
            simp only [hp1, hp0]
            omega
        · have hnx := fun ty => omp_next wr g 2 ty (by omega) HI.out
          have hlt := blk_lt HI.out
          obtain ⟨w2, hw2⟩ : ∃ W, W = setB wr g (.stringIter ompS (2 + 1)) := ⟨_, rfl⟩
          rw [← hw2] at hnx
          have hI2 : w2.heap[g]? = some (.stringIter ompS 3) := by rw [hw2]; exact setB_same HI.out
          have hO2 := setB_R (o := .stringIter ompS (2 + 1)) HO.out
          rw [← hw2] at hO2
          have hB2 : Below w.heap.size w w2 := by rw [hw2]; exact setB_below HB.out hgw
          have hl2 : g < w2.heap.size := blk_lt hI2
          have HI2 := Aside0.mk hI2
          have HO2 := Aside0.mk hO2
          have HB2 := Aside0.mk hB2
          have hoc : ompC 2 = 112 := rfl
          rw [hoc] at hnx
          have hwr8 : IntKind.u8.wrap 112 = 112 := by decide
          clear hw2 hI2 hO2 hB2 hoc
          go_wp2_with (at_builtin; refine Kd.R_append k104 (w0 := w) w.heap.size rfl (.tmp 23) (.tmp 28) 127 104 (.agg #[.int .i64 0, .int .u8 0]) 16 rfl Tryd.underlying127 infoCl rfl (by decide) (by decide) _ (clsL 3 ++ (ompL 3).take 2) (⟨3, 112⟩) [.int .i64 3, .int .u8 112] (fun k => k ≠ g) (fun _ => False) rfl (by first | (simp; done) | rfl) (k104_mkM _ _ _ _) (fun _ h => h.elim) (fun k hk => by show k ≠ g; omega) HO2.out HB2.out HB2.out.size (by simp [ompL]; omega) ?_; intro v1 w1 ho1 hb1 hg1 _; have HO1 := Aside0.mk ho1; have HB1 := Aside0.mk hb1; have HG1 := Aside0.mk hg1; clear ho1 hb1 hg1)
          clear hnx
          have hz1 : w2.heap.size ≤ w1.heap.size := HG1.out.size
          go_roundw
          case rel => exact ⟨3, by omega, by simpa only [ompL, List.take_succ_cons, List.take_zero, List.append_assoc, List.cons_append, List.nil_append, List.append_nil] using HO1.out, (HG1.out.block g hl2 (Kd.R_away HO2.out (fun _ h => h))).trans HI2.out, HB1.out⟩
          case measure =>
            have hp1 := iterPos_of ((HG1.out.block g hl2 (Kd.R_away HO2.out (fun _ h => h))).trans HI2.out)
            have hp0 := iterPos_of HI.out
            simp only [hp1, hp0]
            omega
        · have hnx := fun ty => omp_end wr g ty HI.out
          go_wp2
          go_roundw
          case rel => exact ⟨4, by omega, by first | rfl | go_num, by rw [HCL.out]; exact Kd.R_mono HO.out (fun _ _ => trivial), HB.out⟩
          case measure => simp [intOf]
    · have hcl : clsL 5 = clsL 4 ++ ompL 4 := rfl
      have HCL := Aside0.mk hcl
      have hle := clsL_le 4
      clear hcl
      go_wp2_with fail
      obtain ⟨wI, hwI⟩ : ∃ W, W = wr.alloc (.stringIter ompS 0) := ⟨_, rfl⟩
      have hi0 : wI.heap[wr.heap.size]? = some (.stringIter ompS 0) := by rw [hwI]; exact blk_new _ _
      have hBI : Below wr.heap.size wr wI := by rw [hwI]; exact below_alloc (Below.refl _ _) _
      have hOI : Kd.R k104 104 wI w.heap.size (fun k => k ≠ wr.heap.size) _ (clsL 4) := Kd.R_mono (Kd.R_below (Kd.R_bound HO.out) hBI) (fun k hk => by have := hk.2.2.1; omega)
      rw [← hwI]
      obtain ⟨g, hg⟩ : ∃ g, g = wr.heap.size := ⟨_, rfl⟩
      rw [← hg] at hi0 hOI ⊢
      have hgw : w.heap.size ≤ g := by omega
      have HBI := Aside0.mk (HB.out.trans (hBI.mono hzr))
      clear hwI hBI hg HO HB
      try rw [show ((4 : Nat) : Int) = 4 from rfl]
      go_loopw [1] (fun v wr => ∃ pos : Nat, pos ≤ 3 ∧ Kd.R k104 104 wr w.heap.size (fun k => k ≠ g) v (clsL 4 ++ (ompL 4).take pos) ∧ wr.heap[g]? = some (.stringIter ompS pos) ∧ Below w.heap.size w wr) (fun _ wr => 3 - wr.iterPos g)
      case atStart => exact ⟨0, by omega, by simpa using hOI, hi0, HBI.out⟩
      case round =>
        obtain ⟨pos, hpos, hO, hi, hb⟩ := hrel
        have HO := Aside0.mk hO
        have HI := Aside0.mk hi
        have HB := Aside0.mk hb
        clear hO hi hb hOI hi0 HBI
        have hpp : pos = 0 ∨ pos = 1 ∨ pos = 2 ∨ pos = 3 := by omega
        rcases hpp with rfl | rfl | rfl | rfl
        · have hnx := fun ty => omp_next wr g 0 ty (by omega) HI.out
          have hlt := blk_lt HI.out
          obtain ⟨w2, hw2⟩ : ∃ W, W = setB wr g (.stringIter ompS (0 + 1)) := ⟨_, rfl⟩
          rw [← hw2] at hnx
          have hI2 : w2.heap[g]? = some (.stringIter ompS 1) := by rw [hw2]; exact setB_same HI.out
          have hO2 := setB_R (o := .stringIter ompS (0 + 1)) HO.out
          rw [← hw2] at hO2
          have hB2 : Below w.heap.size w w2 := by rw [hw2]; exact setB_below HB.out hgw
          have hl2 : g < w2.heap.size := blk_lt hI2
          have HI2 := Aside0.mk hI2
          have HO2 := Aside0.mk hO2
          have HB2 := Aside0.mk hB2
          have hoc : ompC 0 = 111 := rfl
          rw [hoc] at hnx
          have hwr8 : IntKind.u8.wrap 111 = 111 := by decide
          clear hw2 hI2 hO2 hB2 hoc
          go_wp2_with (at_builtin; refine Kd.R_append k104 (w0 := w) w.heap.size rfl (.tmp 23) (.tmp 28) 127 104 (.agg #[.int .i64 0, .int .u8 0]) 16 rfl Tryd.underlying127 infoCl rfl (by decide) (by decide) _ (clsL 4 ++ (ompL 4).take 0) (⟨4, 111⟩) [.int .i64 4, .int .u8 111] (fun k => k ≠ g) (fun _ => False) rfl (by first | (simp; done) | rfl) (k104_mkM _ _ _ _) (fun _ h => h.elim) (fun k hk => by show k ≠ g; omega) HO2.out HB2.out HB2.out.size (by simp [ompL]; omega) ?_; intro v1 w1 ho1 hb1 hg1 _; have HO1 := Aside0.mk ho1; have HB1 := Aside0.mk hb1; have HG1 := Aside0.mk hg1; clear ho1 hb1 hg1)
          clear hnx
          have hz1 : w2.heap.size ≤ w1.heap.size := HG1.out.size
          go_roundw
          case rel => exact ⟨1, by omega, by simpa only [ompL, List.take_succ_cons, List.take_zero, List.append_assoc, List.cons_append, List.nil_append, List.append_nil] using HO1.out, (HG1.out.block g hl2 (Kd.R_away HO2.out (fun _ h => h))).trans HI2.out, HB1.out⟩
          case measure =>
            have hp1 := iterPos_of ((HG1.out.block g hl2 (Kd.R_away HO2.out (fun _ h => h))).trans HI2.out)
            have hp0 := iterPos_of HI.out
            simp only [hp1, hp0]
            omega
        · have hnx := fun ty => omp_next wr g 1 ty (by omega) HI.out
          have hlt := blk_lt HI.out
          obtain ⟨w2, hw2⟩ : ∃ W, W = setB wr g (.stringIter ompS (1 + 1)) := ⟨_, rfl⟩
          rw [← hw2] at hnx
          have hI2 : w2.heap[g]? = some (.stringIter ompS 2) := by rw [hw2]; exact setB_same HI.out
          have hO2 := setB_R (o := .stringIter ompS (1 + 1)) HO.out
          rw [← hw2] at hO2
          have hB2 : Below w.heap.size w w2 := by rw [hw2]; exact setB_below HB.out hgw
          have hl2 : g < w2.heap.size := blk_lt hI2
          have HI2 := Aside0.mk hI2
          have HO2 := Aside0.mk hO2
          have HB2 := Aside0.mk hB2
          have hoc : ompC 1 = 109 := rfl
          rw [hoc] at hnx
          have hwr8 : IntKind.u8.wrap 109 = 109 := by decide
          clear hw2 hI2 hO2 hB2 hoc
          go_wp2_with (at_builtin; refine Kd.R_append k104 (w0 := w) w.heap.size rfl (.tmp 23) (.tmp 28) 127 104 (.agg #[.int .i64 0, .int .u8 0]) 16 rfl Tryd.underlying127 infoCl rfl (by decide) (by decide) _ (clsL 4 ++ (ompL 4).take 1) (⟨4, 109⟩) [.int .i64 4, .int .u8 109] (fun k => k ≠ g) (fun _ => False) rfl (by first | (simp; done) | rfl) (k104_mkM _ _ _ _) (fun _ h => h.elim) (fun k hk => by show k ≠ g; omega) HO2.out HB2.out HB2.out.size (by simp [ompL]; omega) ?_; intro v1 w1 ho1 hb1 hg1 _; have HO1 := Aside0.mk ho1; have HB1 := Aside0.mk hb1; have HG1 := Aside0.mk hg1; clear ho1 hb1 hg1)
          clear hnx
          have hz1 : w2.heap.size ≤ w1.heap.size := HG1.out.size
          go_roundw
          case rel => exact ⟨2, by omega, by simpa only [ompL, List.take_succ_cons, List.take_zero, List.append_assoc, List.cons_append, List.nil_append, List.append_nil] using HO1.out, (HG1.out.block g hl2 (Kd.R_away HO2.out (fun _ h => h))).trans HI2.out, HB1.out⟩
          case measure =>
            have hp1 := iterPos_of ((HG1.out.block g hl2 (Kd.R_away HO2.out (fun _ h => h))).trans HI2.out)
            have hp0 := iterPos_of HI.out
            simp only [hp1, hp0]
            omega
        · have hnx := fun ty => omp_next wr g 2 ty (by omega) HI.out
          have hlt := blk_lt HI.out
          obtain ⟨w2, hw2⟩ : ∃ W, W = setB wr g (.stringIter ompS (2 + 1)) := ⟨_, rfl⟩
          rw [← hw2] at hnx
          have hI2 : w2.heap[g]? = some (.stringIter ompS 3) := by rw [hw2]; exact setB_same HI.out
          have hO2 := setB_R (o := .stringIter ompS (2 + 1)) HO.out
          rw [← hw2] at hO2
          have hB2 : Below w.heap.size w w2 := by rw [hw2]; exact setB_below HB.out hgw
          have hl2 : g < w2.heap.size := blk_lt hI2
          have HI2 := Aside0.mk hI2
          have HO2 := Aside0.mk hO2
          have HB2 := Aside0.mk hB2
          have hoc : ompC 2 = 112 := rfl
          rw [hoc] at hnx
          have hwr8 : IntKind.u8.wrap 112 = 112 := by decide
          clear hw2 hI2 hO2 hB2 hoc
          go_wp2_with (at_builtin; refine Kd.R_append k104 (w0 := w) w.heap.size rfl (.tmp 23) (.tmp 28) 127 104 (.agg #[.int .i64 0, .int .u8 0]) 16 rfl Tryd.underlying127 infoCl rfl (by decide) (by decide) _ (clsL 4 ++ (ompL 4).take 2) (⟨4, 112⟩) [.int .i64 4, .int .u8 112] (fun k => k ≠ g) (fun _ => False) rfl (by first | (simp; done) | rfl) (k104_mkM _ _ _ _) (fun _ h => h.elim) (fun k hk => by show k ≠ g; omega) HO2.out HB2.out HB2.out.size (by simp [ompL]; omega) ?_; intro v1 w1 ho1 hb1 hg1 _; have HO1 := Aside0.mk ho1; have HB1 := Aside0.mk hb1; have HG1 := Aside0.mk hg1; clear ho1 hb1 hg1)
          clear hnx
          have hz1 : w2.heap.size ≤ w1.heap.size := HG1.out.size
          go_roundw
          case rel => exact ⟨3, by omega, by simpa only [ompL, List.take_succ_cons, List.take_zero, List.append_assoc, List.cons_append, List.nil_append, List.append_nil] using HO1.out, (HG1.out.block g hl2 (Kd.R_away HO2.out (fun _ h => h))).trans HI2.out, HB1.out⟩
          case measure =>
            have hp1 := iterPos_of ((HG1.out.block g hl2 (Kd.R_away HO2.out (fun _ h => h))).trans HI2.out)
            have hp0 := iterPos_of HI.out
            simp only [hp1, hp0]
            omega
        · have hnx := fun ty => omp_end wr g ty HI.out
          go_wp2
          go_roundw
          case rel => exact ⟨5, by omega, by first | rfl | go_num, by rw [HCL.out]; exact Kd.R_mono HO.out (fun _ _ => trivial), HB.out⟩
          case measure => simp [intOf]
    · have hcl : clsL 6 = clsL 5 ++ [⟨5, 0⟩] := rfl
      have HCL := Aside0.mk hcl
      have hle := clsL_le 5
      clear hcl
      go_wp2_with (at_builtin; refine Kd.R_append k104 (w0 := w) w.heap.size rfl (.tmp 14) (.tmp 17) 127 104 (.agg #[.int .i64 0, .int .u8 0]) 16 rfl Tryd.underlying127 infoCl rfl (by decide) (by decide) _ (clsL 5) (⟨5, 0⟩) [.int .i64 5, .int .u8 0] (fun _ => True) (fun _ => False) rfl (by first | (simp; done) | rfl) (k104_mkM _ _ _ _) (fun _ h => h.elim) (fun _ _ => trivial) HO.out HB.out hzr (by omega) ?_; intro v1 w1 ho1 hb1 hg1 _; have HO1 := Aside0.mk ho1; have HB1 := Aside0.mk hb1; have HG1 := Aside0.mk hg1; clear ho1 hb1 hg1)
      go_roundw
      case rel => exact ⟨6, by omega, by first | rfl | go_num, by rw [HCL.out]; exact HO1.out, HB1.out⟩
      case measure => simp [intOf]
    · have hcl : clsL 7 = clsL 6 ++ [⟨6, 0⟩] := rfl
      have HCL := Aside0.mk hcl
      have hle := clsL_le 6
      clear hcl
      go_wp2_with (at_builtin; refine Kd.R_append k104 (w0 := w) w.heap.size rfl (.tmp 14) (.tmp 17) 127 104 (.agg #[.int .i64 0, .int .u8 0]) 16 rfl Tryd.underlying127 infoCl rfl (by decide) (by decide) _ (clsL 6) (⟨6, 0⟩) [.int .i64 6, .int .u8 0] (fun _ => True) (fun _ => False) rfl (by first | (simp; done) | rfl) (k104_mkM _ _ _ _) (fun _ h => h.elim) (fun _ _ => trivial) HO.out HB.out hzr (by omega) ?_; intro v1 w1 ho1 hb1 hg1 _; have HO1 := Aside0.mk ho1; have HB1 := Aside0.mk hb1; have HG1 := Aside0.mk hg1; clear ho1 hb1 hg1)
      go_roundw
      case rel => exact ⟨7, by omega, by first | rfl | go_num, by rw [HCL.out]; exact HO1.out, HB1.out⟩
      case measure => simp [intOf]
    · go_wp2
      go_ret
      exact ⟨_, rfl, HO.out, HB.out⟩
def XClasses.f : Option (List S104) := some (clsL 7)
theorem XClasses.calls (r : List S104) (w : World) (h : XClasses.f = some r) :
    Calls Tryd.prog 78 #[] w fun e w' => ∃ v0_ : Value, e = .returned (v0_) ∧ Kd.R k104 104 w' w.heap.size (fun _ => True) v0_ r ∧ Below w.heap.size w w' := by
  obtain rfl := Option.some.inj h
  exact classes_any w
end Go.Proofs.YtaeenefdbahfoaaDoor
