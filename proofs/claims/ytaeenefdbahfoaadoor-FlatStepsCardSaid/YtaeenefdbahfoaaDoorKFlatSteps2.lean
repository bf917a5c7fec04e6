/- Parts of the proof (FlatSteps), merged out of our texts by wip/tools/pack.py: HCell0, Good, CcKey, Near, LaySort, Comp, Beside, Pure3. -/
import Derived.Test.YtaeenefdbahfoaaDoorKFlatSteps1
import Derived.Shelf.SlGeneric
import Derived.Shelf.SlSortCmp.NoneTotal
import Derived.Test.YtaeenefdbahfoaaDoorProg
import Derived.Lib.SlicesCompact
namespace Go.Proofs.YtaeenefdbahfoaaDoor.H
open Go.RowKit Go.Proofs.YtaeenefdbahfoaaDoorW.PrintWords Go.Proofs.YtaeenefdbahfoaaDoorW.PrintLast Go.Proofs.YtaeenefdbahfoaaDoorW.PrintMore
attribute [local go_sem] max2_int min2_int max_two min_two max_three min_three max_four min_four   -- for this text's walks alone
set_option linter.unusedVariables false
set_option linter.unusedSimpArgs false
def cell_Lattice_Good.f (a0 : Int) : Option (Bool) := if a0 ≥ 1 then (some (decide (a0 ≤ 3))) else (some false)
set_option maxHeartbeats 8000000 in
set_option maxRecDepth 100000 in
theorem cell_Lattice_Good.calls (a0 : Int) (r : Bool) (w : World) (h : cell_Lattice_Good.f a0 = some r) :
  Calls Tryd.prog 80 #[.int .i64 a0] w fun e w' => e = .returned (.bool r) ∧ Drawn0 w w' := by
 have H : (if a0 ≥ 1 then (some (decide (a0 ≤ 3))) else (some false)) = some r := h
 clear h
 by_cases c2 : a0 ≥ 1
 ·
  rw [if_pos c2] at H
  have c2b0 : decide (1 ≤ a0) = true := decide_eq_true c2
  clear c2
  obtain rfl := Option.some.inj H
  go_enter Tryd.func80, Tryd.ntmps80
  go_wp2
  go_ret
  exact ⟨by first | rfl | (simp; done) | (simp [*]; done), by repeat (first | exact Drawn0.refl _ | apply Drawn0.step)⟩
 ·
  rw [if_neg c2] at H
  have c2b0 : decide (1 ≤ a0) = false := decide_eq_false c2
  clear c2
  obtain rfl := Option.some.inj H
  go_enter Tryd.func80, Tryd.ntmps80
  go_wp2
  go_ret
  exact ⟨by first | rfl | (simp; done) | (simp [*]; done), by repeat (first | exact Drawn0.refl _ | apply Drawn0.step)⟩
def cell_Lattice_Halves.f (a0 : Int) : Option (Int) := if a0 = 1 then (some 1) else (some 2)
set_option maxHeartbeats 8000000 in
set_option maxRecDepth 100000 in
theorem cell_Lattice_Halves.calls (a0 : Int) (r : Int) (w : World) (h : cell_Lattice_Halves.f a0 = some r) :
  Calls Tryd.prog 87 #[.int .i64 a0] w fun e w' => e = .returned (.int .i64 r) ∧ Drawn0 w w' := by
 have H : (if a0 = 1 then (some 1) else (some 2)) = some r := h
 clear h
 by_cases c2 : a0 = 1
 ·
  rw [if_pos c2] at H
  have c2b0 : (a0 == 1) = true := beq_iff_eq.mpr c2
  have c2b1 : (a0 != 1) = false := bne_eq_false_iff_eq.mpr c2
  clear c2
  obtain rfl := Option.some.inj H
  go_enter Tryd.func87, Tryd.ntmps87
  go_wp2
  go_ret
  exact ⟨by first | rfl | (simp; done) | (simp [*]; done), by repeat (first | exact Drawn0.refl _ | apply Drawn0.step)⟩
 ·
  rw [if_neg c2] at H
  have c2b0 : (a0 == 1) = false := beq_eq_false_iff_ne.mpr c2
  have c2b1 : (a0 != 1) = true := bne_iff_ne.mpr c2
  obtain rfl := Option.some.inj H
  go_enter Tryd.func87, Tryd.ntmps87
  go_wp2
  go_ret
  exact ⟨by first | rfl | (simp; done) | (simp [*]; done), by repeat (first | exact Drawn0.refl _ | apply Drawn0.step)⟩
def cell_around.l0 : Nat → List (S63) → List (S63) → List (S65) → Int → Int → Int → Int → Option ((List (S65)))
 | 0, _, _, _, _, _, _, _ => none
 | k + 1, x3, x4, x5, x16, x17, x132000, x132001 => if x17 < x16 then (if 0 ≤ x17 then (if x17 < (x3.length : Int) then (if x17 < (x4.length : Int) then ((some (([(⟨(⟨wrap64 (x132000 + ((rd_T63 x3 x17).f0)), wrap64 (x132001 + ((rd_T63 x3 x17).f1))⟩ : S63), 0⟩ : S65), (⟨(⟨wrap64 (x132000 + ((rd_T63 x4 x17).f0)), wrap64 (x132001 + ((rd_T63 x4 x17).f1))⟩ : S63), 1⟩ : S65)] : List (S65)) : List (S65))).bind fun y142 => (if x5.length + y142.length < 5864062014805 then (cell_around.l0 k x3 x4 (x5 ++ y142) x16 (wrap64 (x17 + 1)) x132000 x132001) else (none))) else (none)) else (none)) else (none)) else (some x5)
def cell_around.f (k : Nat) (a0_0 : Int) (a0_1 : Int) : Option ((List (S65))) := (some (([(⟨0, 0⟩ : S63), (⟨(-1), 0⟩ : S63), (⟨0, (-1)⟩ : S63)] : List (S63)) : List (S63))).bind fun y132 => (cell_around.l0 k y132 (([(⟨(-1), 0⟩ : S63), (⟨0, (-1)⟩ : S63), (⟨(-1), (-1)⟩ : S63)] : List (S63))) ([] : List (S65)) (y132.length : Int) 0 a0_0 a0_1)
def cell_around.T7 : Bool × List (List Nat × List Nat) := (true, [([], []), ([], []), ([1], [1]), ([], []), ([], []), ([3, 4], [3, 4]), ([5], [5]), ([6], [6]), ([2, 7], [2, 7]), ([], []), ([9], [9]), ([], []), ([], []), ([11, 12], [11, 12]), ([13], [13]), ([14], [14]), ([10, 15], [10, 15]), ([8, 16], [8, 16]), ([17], [17]), ([], []), ([19], [19]), ([], []), ([], []), ([21, 22], [21, 22]), ([23], [23]), ([24], [24]), ([20, 25], [20, 25]), ([], []), ([27], [27]), ([], []), ([], []), ([29, 30], [29, 30]), ([31], [31]), ([32], [32]), ([28, 33], [28, 33]), ([26, 34], [26, 34]), ([35], [35]), ([18, 36], [18, 36]), ([0, 37], [0, 37]), ([38, 38, 0, 1, 2, 3, 4, 5, 6, 7, 8, 9, 10, 11, 12, 13, 14, 15, 16, 17, 18, 19, 20, 21, 22, 23, 24, 25, 26, 27, 28, 29, 30, 31, 32, 33, 34, 35, 36, 37, 38], [0, 38])])
def cell_around.B7 : List Nat := [0, 0, 2, 0, 0, 24, 56, 120, 254, 0, 512, 0, 0, 6144, 14336, 30720, 65024, 131070, 262142, 0, 524288, 0, 0, 6291456, 14680064, 31457280, 66584576, 0, 134217728, 0, 0, 1610612736, 3758096384, 8053063680, 17045651456, 34359214080, 68718952448, 137438953470, 274877906943, 549755813887]
theorem cell_around.tab7 : rtab .any (opsOf Tryd.f125 7) = cell_around.T7 := by kernel_rfl
theorem cell_around.bits7 : waitsOk cell_around.T7.2 cell_around.B7 = true := by kernel_rfl
set_option maxHeartbeats 8000000 in
set_option maxRecDepth 100000 in
theorem cell_around.calls (k : Nat) (a0_0 : Int) (a0_1 : Int) (r : List (S65)) (w : World) (h : cell_around.f k a0_0 a0_1 = some r) :
  Calls Tryd.prog 125 #[.agg #[.int .i64 a0_0, .int .i64 a0_1]] w fun e w' => ∃ v0_ : Value, e = .returned (v0_) ∧ Kd.R k65 65 w' w.heap.size (fun _ => True) v0_ r ∧ Below w.heap.size w w' := by
 have hu63 := Tryd.underlying63
 have hu65 := Tryd.underlying65
 have HB := Aside0.mk (Below.refl w.heap.size w)
 have H : ((some (([(⟨0, 0⟩ : S63), (⟨(-1), 0⟩ : S63), (⟨0, (-1)⟩ : S63)] : List (S63)) : List (S63))).bind fun y132 => (cell_around.l0 k y132 (([(⟨(-1), 0⟩ : S63), (⟨0, (-1)⟩ : S63), (⟨(-1), (-1)⟩ : S63)] : List (S63))) ([] : List (S65)) (y132.length : Int) 0 a0_0 a0_1)) = some r := h
 clear h
 obtain ⟨y132, hy132⟩ : ∃ y_ : List (S63), y_ = (([(⟨0, 0⟩ : S63), (⟨(-1), 0⟩ : S63), (⟨0, (-1)⟩ : S63)] : List (S63))) := ⟨_, rfl⟩
 replace H : (cell_around.l0 k y132 (([(⟨(-1), 0⟩ : S63), (⟨0, (-1)⟩ : S63), (⟨(-1), (-1)⟩ : S63)] : List (S63))) ([] : List (S65)) (y132.length : Int) 0 a0_0 a0_1) = some r := by first | (rw [hy132]; with_reducible exact H) | (have H2_ := (Option.bind_some _ _).symm.trans H; rw [hy132]; with_reducible exact H2_) | (have H2_ := (Option.bind_some _ _).symm.trans H; with_reducible exact H2_) | with_reducible exact H | (rw [hy132]; exact H) | exact H
 have Ny132 := Aside0.mk hy132
 clear hy132
 obtain ⟨y135, hy135⟩ : ∃ y_ : List (S63), y_ = (([(⟨(-1), 0⟩ : S63), (⟨0, (-1)⟩ : S63), (⟨(-1), (-1)⟩ : S63)] : List (S63))) := ⟨_, rfl⟩
 replace H : (cell_around.l0 k y132 y135 ([] : List (S65)) (y132.length : Int) 0 a0_0 a0_1) = some r := by first | (rw [hy135]; with_reducible exact H) | (have H2_ := (Option.bind_some _ _).symm.trans H; rw [hy135]; with_reducible exact H2_) | (have H2_ := (Option.bind_some _ _).symm.trans H; with_reducible exact H2_) | with_reducible exact H | (rw [hy135]; exact H) | exact H
 have Ny135 := Aside0.mk hy135
 clear hy135
 have H' := Aside0.mk H
 clear H
 go_enter Tryd.func125, Tryd.ntmps125
 go_wp2_with (first | ((with_reducible refine gate_dst (N := 1) rfl ?_); refine box_event ?hg (N := 1) ?hd (cs := #[.int .i64 a0_0, .int .i64 a0_1]) (t := 63) ?hr ?_; (case hd => rfl); (case hg => rfl); (case hr => first | (go_simp; done) | (go_simp; rfl)); intro gb131 hg w2 hbox hb; have n0_ := Aside0.mk (below_step (by repeat (first | (with_reducible first | exact HB.out | apply ba_ | apply bn_ | apply bd_) | exact HB.out)) hb); have n1_ := Aside0.mk (hbox); have n2_ := Aside0.mk ((by rw [hg]; exact (below_size (by repeat (first | (with_reducible first | exact HB.out | apply ba_ | apply bn_ | apply bd_) | exact HB.out))) : w.heap.size ≤ gb131)); have n3_ := Aside0.mk ((by rw [hg]; exact (below_size (by repeat (first | (with_reducible first | exact HB.out | apply ba_ | apply bn_ | apply bd_) | exact HB.out))) : w.heap.size ≤ gb131)); clear HB; have HB := n0_; have BK131 := n1_; have GW131 := n2_; have GE131 := n3_; clear n0_ n1_ n2_ n3_; clear hb hbox hg) | ((with_reducible refine gate_dst (N := 10) rfl ?_); refine Kd.R_lit k63 _ 63 ?hg (N := 10) ?hd (xs := ([(⟨0, 0⟩ : S63), (⟨(-1), 0⟩ : S63), (⟨0, (-1)⟩ : S63)] : List (S63))) (inner := [.int .i64 0, .int .i64 0, .int .i64 (-1), .int .i64 0, .int .i64 0, .int .i64 (-1)]) (ok := fun _ => True) (okp := fun _ => True) ?hr ?hp (fun _ hk => hk) trivial (Below.refl _ _) (Nat.le_refl _) (by simp) ?_; (case hd => rfl); (case hg => rfl); (case hr => first | (go_simp; done) | (go_simp; rfl)); (case hp => exact (Reps.c2 (show Kd.M k63 _ _ _ (⟨0, 0⟩ : S63) [.int .i64 0, .int .i64 0] from (k63_mkM _ _ _ (⟨0, 0⟩ : S63) )) (Reps.c2 (show Kd.M k63 _ _ _ (⟨(-1), 0⟩ : S63) [.int .i64 (-1), .int .i64 0] from (k63_mkM _ _ _ (⟨(-1), 0⟩ : S63) )) (Reps.c2 (show Kd.M k63 _ _ _ (⟨0, (-1)⟩ : S63) [.int .i64 0, .int .i64 (-1)] from (k63_mkM _ _ _ (⟨0, (-1)⟩ : S63) )) (Reps.none _ _))))); intro v133 w3 ho4 hb hg_ hnew_; clear hg_ hnew_; (first | rw [← Ny132.out] at ho4 | (simp only [Int.reduceToNat] at ho4; rw [← Ny132.out] at ho4)); have n0_ := Aside0.mk (Kd.R_lower (Kd.R_newB ho4 (g := gb131) (o := .cells #[.int .i64 a0_0, .int .i64 a0_1] 63 (0, 0)) (by (with_reducible repeat (first | apply bN_ | apply bD_ | apply bA_)); exact BK131.out)) (below_size (by repeat (first | (with_reducible first | exact HB.out | apply ba_ | apply bn_ | apply bd_ | refine below_set ?_ GE131.out) | exact HB.out)))); have n1_ := Aside0.mk (blk_below (g := gb131) (o := .cells #[.int .i64 a0_0, .int .i64 a0_1] 63 (0, 0)) (by (with_reducible repeat (first | apply bN_ | apply bD_ | apply bA_)); exact BK131.out) hb); have n2_ := Aside0.mk (below_step (by repeat (first | (with_reducible first | exact HB.out | apply ba_ | apply bn_ | apply bd_ | refine below_set ?_ GE131.out) | exact HB.out)) hb); clear BK131; clear HB; have HO134 := n0_; have BK131 := n1_; have HB := n2_; clear n0_ n1_ n2_; clear hb ho4) | ((with_reducible refine gate_dst (N := 14) rfl ?_); refine Kd.R_lit k63 _ 63 ?hg (N := 14) ?hd (xs := ([(⟨(-1), 0⟩ : S63), (⟨0, (-1)⟩ : S63), (⟨(-1), (-1)⟩ : S63)] : List (S63))) (inner := [.int .i64 (-1), .int .i64 0, .int .i64 0, .int .i64 (-1), .int .i64 (-1), .int .i64 (-1)]) (ok := fun _ => True) (okp := fun _ => True) ?hr ?hp (fun _ hk => hk) trivial (Below.refl _ _) (Nat.le_refl _) (by simp) ?_; (case hd => rfl); (case hg => rfl); (case hr => first | (go_simp; done) | (go_simp; rfl)); (case hp => exact (Reps.c2 (show Kd.M k63 _ _ _ (⟨(-1), 0⟩ : S63) [.int .i64 (-1), .int .i64 0] from (k63_mkM _ _ _ (⟨(-1), 0⟩ : S63) )) (Reps.c2 (show Kd.M k63 _ _ _ (⟨0, (-1)⟩ : S63) [.int .i64 0, .int .i64 (-1)] from (k63_mkM _ _ _ (⟨0, (-1)⟩ : S63) )) (Reps.c2 (show Kd.M k63 _ _ _ (⟨(-1), (-1)⟩ : S63) [.int .i64 (-1), .int .i64 (-1)] from (k63_mkM _ _ _ (⟨(-1), (-1)⟩ : S63) )) (Reps.none _ _))))); intro v136 w5 ho6 hb hg_ hnew_; clear hg_ hnew_; (first | rw [← Ny135.out] at ho6 | (simp only [Int.reduceToNat] at ho6; rw [← Ny135.out] at ho6)); have n0_ := Aside0.mk (Kd.R_elder' (by (with_reducible repeat (first | apply Kd.R_alloc | apply Kd.R_drewN | apply Kd.R_drew)); exact HO134.out) (Kd.R_base ho6) hb); have n1_ := Aside0.mk (Kd.R_lower (Kd.R_newB (Kd.R_new' ho6 (Kd.R_lt (by (with_reducible repeat (first | apply Kd.R_alloc | apply Kd.R_drewN | apply Kd.R_drew)); exact HO134.out))) (g := gb131) (o := .cells #[.int .i64 a0_0, .int .i64 a0_1] 63 (0, 0)) (by (with_reducible repeat (first | apply bN_ | apply bD_ | apply bA_)); exact BK131.out)) (below_size (by repeat (first | (with_reducible first | exact HB.out | apply ba_ | apply bn_ | apply bd_ | refine below_set ?_ GE131.out) | exact HB.out)))); have n2_ := Aside0.mk (blk_below (g := gb131) (o := .cells #[.int .i64 a0_0, .int .i64 a0_1] 63 (0, 0)) (by (with_reducible repeat (first | apply bN_ | apply bD_ | apply bA_)); exact BK131.out) hb); have n3_ := Aside0.mk (below_step (by repeat (first | (with_reducible first | exact HB.out | apply ba_ | apply bn_ | apply bd_ | refine below_set ?_ GE131.out) | exact HB.out)) hb); clear HO134; clear BK131; clear HB; have HO134 := n0_; have HO137 := n1_; have BK131 := n2_; have HB := n3_; clear n0_ n1_ n2_ n3_; clear hb ho6; obtain ⟨Ao7, co7, eo7⟩ := Kd.R_slice HO134.out; subst eo7))
 go_loopg [5, 17] k (fun kq v5 v17 w' => ∃ (x5_1 : List (S65)) (x17_1 : Int), v17 = .int .i64 x17_1 ∧ Aside0 (cell_around.l0 kq y132 y135 x5_1 (y132.length : Int) x17_1 a0_0 a0_1 = some r) ∧ Aside0 (kq ≤ k) ∧ Aside0 (Kd.R k63 63 w' w.heap.size (fun k_ => some k_ ≠ (v136 : Value).ownBlock ∧ k_ ≠ gb131) (.slice Ao7 y132.length co7) y132) ∧ Aside0 (Kd.R k63 63 w' w.heap.size (fun k_ => some k_ ≠ ((.slice Ao7 y132.length co7) : Value).ownBlock ∧ k_ ≠ gb131) v136 y135) ∧ Aside0 (Kd.R k65 65 w' w.heap.size (fun _ => True) v5 x5_1) ∧ Aside0 (w'.heap[gb131]? = some (.cells #[.int .i64 a0_0, .int .i64 a0_1] 63 (0, 0))) ∧ Aside0 (Below w.heap.size w w'))
 case atStart => exact ⟨(([] : List (S65))), (0), (by first | rfl | (simp; done) | (simp [*]; done)), H', ⟨Nat.le_refl _⟩, ⟨by (with_reducible repeat (first | apply Kd.R_alloc | apply Kd.R_drewN | apply Kd.R_drew)); exact Kd.R_mono HO134.out (fun _ hk => ⟨hk.2, hk.1.2⟩)⟩, ⟨by (with_reducible repeat (first | apply Kd.R_alloc | apply Kd.R_drewN | apply Kd.R_drew)); exact Kd.R_mono HO137.out (fun _ hk => ⟨hk.1.2, hk.2⟩)⟩, ⟨by first | exact Kd.R_nil _ _ _ _ _ | exact Kd.N_nil _ _ _ _ _ | exact Kd.V_nil _ _ _ _ _ | exact Kd.Q_nil _ _ _ _ _ | exact Kd.S_nil _ _ _ _ _⟩, ⟨by (with_reducible repeat (first | apply bN_ | apply bD_ | apply bA_)); exact BK131.out⟩, ⟨by repeat (first | (with_reducible first | exact HB.out | apply ba_ | apply bn_ | apply bd_ | refine below_set ?_ GE131.out) | exact HB.out)⟩⟩
 case round =>
  clear H'
  try clear c1
  try clear c2
  try clear p2
  obtain ⟨x5_1, x17_1, rfl, HA, HK1, HO_3, HO_4, HO_5, BK131, HB⟩ := hrel
  cases gk with
  | zero => exact absurd HA.out (by simp [cell_around.l0])
  | succ k1 =>
   have H := HA.out
   clear HA
   simp only [cell_around.l0] at H
   by_cases c8 : x17_1 < (y132.length : Int)
   ·
    rw [if_pos c8] at H
    have c8b0 : decide (x17_1 < (y132.length : Int)) = true := decide_eq_true c8
    clear c8
    by_cases c9 : 0 ≤ x17_1
    ·
     rw [if_pos c9] at H
     have c9b0 : decide (0 ≤ x17_1) = true := decide_eq_true c9
     clear c9
     by_cases c10 : x17_1 < (y132.length : Int)
     ·
      rw [if_pos c10] at H
      have c10b0 : decide (x17_1 < (y132.length : Int)) = true := decide_eq_true c10
      clear c10
      by_cases c11 : x17_1 < (y135.length : Int)
      ·
       rw [if_pos c11] at H
       have c11b0 : decide (x17_1 < (y135.length : Int)) = true := decide_eq_true c11
       clear c11
       obtain ⟨y142, hy142⟩ : ∃ y_ : List (S65), y_ = (([(⟨(⟨wrap64 (a0_0 + ((rd_T63 y132 x17_1).f0)), wrap64 (a0_1 + ((rd_T63 y132 x17_1).f1))⟩ : S63), 0⟩ : S65), (⟨(⟨wrap64 (a0_0 + ((rd_T63 y135 x17_1).f0)), wrap64 (a0_1 + ((rd_T63 y135 x17_1).f1))⟩ : S63), 1⟩ : S65)] : List (S65))) := ⟨_, rfl⟩
       replace H : (if x5_1.length + y142.length < 5864062014805 then (cell_around.l0 k1 y132 y135 (x5_1 ++ y142) (y132.length : Int) (wrap64 (x17_1 + 1)) a0_0 a0_1) else (none)) = some r := by first | (rw [hy142]; with_reducible exact H) | (have H2_ := (Option.bind_some _ _).symm.trans H; rw [hy142]; with_reducible exact H2_) | (have H2_ := (Option.bind_some _ _).symm.trans H; with_reducible exact H2_) | with_reducible exact H | (rw [hy142]; exact H) | exact H
       have Ny142 := Aside0.mk hy142
       clear hy142
       by_cases c12 : x5_1.length + y142.length < 5864062014805
       ·
        rw [if_pos c12] at H
        have LMc12 := Aside0.mk c12
        clear c12
        obtain ⟨y145, hy145⟩ : ∃ y_ : List (S65), y_ = (x5_1 ++ y142) := ⟨_, rfl⟩
        replace H : (cell_around.l0 k1 y132 y135 y145 (y132.length : Int) (wrap64 (x17_1 + 1)) a0_0 a0_1) = some r := by first | (rw [hy145]; with_reducible exact H) | (have H2_ := (Option.bind_some _ _).symm.trans H; rw [hy145]; with_reducible exact H2_) | (have H2_ := (Option.bind_some _ _).symm.trans H; with_reducible exact H2_) | with_reducible exact H | (rw [hy145]; exact H) | exact H
        have Ny145 := Aside0.mk hy145
        clear hy145
        have H' := Aside0.mk H
        clear H
        try go_wp2
        have n0_ := Aside0.mk (Kd.R_drew HO_3.out)
        have n1_ := Aside0.mk (Kd.R_drew HO_4.out)
        have n2_ := Aside0.mk (Kd.R_drew HO_5.out)
        have n3_ := Aside0.mk (blk_drew BK131.out)
        have n4_ := Aside0.mk (below_drew1 HB.out)
        clear HO_3
        clear HO_4
        clear HO_5
        clear BK131
        clear HB
        have HO_3 := n0_
        have HO_4 := n1_
        have HO_5 := n2_
        have BK131 := n3_
        have HB := n4_
        clear n0_ n1_ n2_ n3_ n4_
        have p138 : 0 ≤ (x17_1 : Int) := of_decide_eq_true (by first | (with_reducible assumption) | assumption)
        have q138 : x17_1 < (y132.length : Int) := of_decide_eq_true (by first | (with_reducible assumption) | assumption)
        obtain ⟨ad138, e138, hx138_0, hx138_1⟩ := at_T63 (Kd.R_reads' HO_3.out).2.2 x17_1 p138 q138
        cases e138
        replace p138 := eq_true p138
        replace q138 := eq_true q138
        have p139 : 0 ≤ (x17_1 : Int) := of_decide_eq_true (by first | (with_reducible assumption) | assumption)
        have q139 : x17_1 < (y132.length : Int) := of_decide_eq_true (by first | (with_reducible assumption) | assumption)
        obtain ⟨ad139, e139, hx139_0, hx139_1⟩ := at_T63 (Kd.R_reads' HO_3.out).2.2 x17_1 p139 q139
        obtain rfl : ad138 = ad139 := (by injection e139)
        replace p139 := eq_true p139
        replace q139 := eq_true q139
        obtain ⟨Ao14, co14, eo14⟩ := Kd.R_slice HO_4.out
        (first | subst eo14 | (injection eo14 with f1_ f2_ f3_; have f4_ := f1_.symm; have f5_ := f3_.symm; clear f1_ f2_ f3_; subst f4_; subst f5_))
        have p140 : 0 ≤ (x17_1 : Int) := of_decide_eq_true (by first | (with_reducible assumption) | assumption)
        have q140 : x17_1 < (y135.length : Int) := of_decide_eq_true (by first | (with_reducible assumption) | assumption)
        obtain ⟨ad140, e140, hx140_0, hx140_1⟩ := at_T63 (Kd.R_reads' HO_4.out).2.2 x17_1 p140 q140
        cases e140
        replace p140 := eq_true p140
        replace q140 := eq_true q140
        have p141 : 0 ≤ (x17_1 : Int) := of_decide_eq_true (by first | (with_reducible assumption) | assumption)
        have q141 : x17_1 < (y135.length : Int) := of_decide_eq_true (by first | (with_reducible assumption) | assumption)
        obtain ⟨ad141, e141, hx141_0, hx141_1⟩ := at_T63 (Kd.R_reads' HO_4.out).2.2 x17_1 p141 q141
        obtain rfl : ad140 = ad141 := (by injection e141)
        replace p141 := eq_true p141
        replace q141 := eq_true q141
        refine start_ (n := 40) (S := fun w' => w'.cell? ⟨gb131, 0, none⟩ = some (.int .i64 a0_0) ∧ w'.cell? ⟨gb131, 1, none⟩ = some (.int .i64 a0_1) ∧ w'.cell? (ad138.add ((x17_1).toNat * 2)) = some (.int .i64 ((rd_T63 y132 x17_1).f0)) ∧ w'.cell? ⟨(ad138.add ((x17_1).toNat * 2)).block, (ad138.add ((x17_1).toNat * 2)).off + 1, none⟩ = some (.int .i64 ((rd_T63 y132 x17_1).f1)) ∧ w'.cell? (ad138.add ((x17_1).toNat * 2)) = some (.int .i64 ((rd_T63 y132 x17_1).f0)) ∧ w'.cell? ⟨(ad138.add ((x17_1).toNat * 2)).block, (ad138.add ((x17_1).toNat * 2)).off + 1, none⟩ = some (.int .i64 ((rd_T63 y132 x17_1).f1)) ∧ w'.cell? (ad140.add ((x17_1).toNat * 2)) = some (.int .i64 ((rd_T63 y135 x17_1).f0)) ∧ w'.cell? ⟨(ad140.add ((x17_1).toNat * 2)).block, (ad140.add ((x17_1).toNat * 2)).off + 1, none⟩ = some (.int .i64 ((rd_T63 y135 x17_1).f1)) ∧ w'.cell? (ad140.add ((x17_1).toNat * 2)) = some (.int .i64 ((rd_T63 y135 x17_1).f0)) ∧ w'.cell? ⟨(ad140.add ((x17_1).toNat * 2)).block, (ad140.add ((x17_1).toNat * 2)).off + 1, none⟩ = some (.int .i64 ((rd_T63 y135 x17_1).f1))) (ds := [38]) #[false, false, false, false, false, false, false, false, false, false, false, false, false, false, false, false, false, false, false, false, false, false, false, false, false, false, false, false, false, false, false, false, false, false, false, false, false, false, false, false] (by kernel_rfl) rfl rfl ⟨(blk_cell BK131.out 0).trans rfl, (blk_cell BK131.out 1).trans rfl, hx138_0, hx138_1, hx139_0, hx139_1, hx140_0, hx140_1, hx141_0, hx141_1⟩ (fun hHeld => ?_); refine with_tabW cell_around.tab7 cell_around.bits7 (fun HT_ HW_ => ?_)
        generalize wr.drew = w13 at HO_3 HO_4 HO_5 BK131 HB hx138_0 hx138_1 hx139_0 hx139_1 hx140_0 hx140_1 hx141_0 hx141_1 hHeld ⊢
        refine pure_ (i := 0) (N := some 20) (v := ?_) (a' := ?_) #[true, false, false, false, false, false, false, false, false, false, false, false, false, false, false, false, false, false, false, false, false, false, false, false, false, false, false, false, false, false, false, false, false, false, false, false, false, false, false, false] rfl rfl (any_of HT_.out (by kernel_rfl)) (fun _ _ _ h => h) (Or.inl ⟨by rfl, ?_⟩) ?_ ?_
        rotate_left
        ·
         intro w'
         go_simp
         with_reducible rfl
        rotate_left
        ·
         simp only [Act.put, List.setIfInBounds_toArray, List.set_cons_zero, List.set_cons_succ, i64_w, i32_w]
         rfl
        refine pure_ (i := 1) (N := some 21) (v := ?_) (a' := ?_) #[true, true, false, false, false, false, false, false, false, false, false, false, false, false, false, false, false, false, false, false, false, false, false, false, false, false, false, false, false, false, false, false, false, false, false, false, false, false, false, false] rfl rfl (any_of HT_.out (by kernel_rfl)) (fun _ _ _ h => h) (Or.inl ⟨by rfl, ?_⟩) ?_ ?_
        rotate_left
        ·
         intro w'
         go_simp
         with_reducible rfl
        rotate_left
        ·
         simp only [Act.put, List.setIfInBounds_toArray, List.set_cons_zero, List.set_cons_succ, i64_w, i32_w]
         rfl
        refine pure_ (i := 3) (N := some 23) (v := ?_) (a' := ?_) #[true, true, false, true, false, false, false, false, false, false, false, false, false, false, false, false, false, false, false, false, false, false, false, false, false, false, false, false, false, false, false, false, false, false, false, false, false, false, false, false] rfl rfl (any_of HT_.out (by kernel_rfl)) (fun _ _ _ h => h) (Or.inl ⟨by rfl, ?_⟩) ?_ ?_
        rotate_left
        ·
         intro w'
         go_simp
         with_reducible rfl
        rotate_left
        ·
         simp only [Act.put, List.setIfInBounds_toArray, List.set_cons_zero, List.set_cons_succ, i64_w, i32_w]
         rfl
        refine pure_ (i := 4) (N := some 24) (v := ?_) (a' := ?_) #[true, true, false, true, true, false, false, false, false, false, false, false, false, false, false, false, false, false, false, false, false, false, false, false, false, false, false, false, false, false, false, false, false, false, false, false, false, false, false, false] rfl rfl (any_of HT_.out (by kernel_rfl)) (fun _ _ _ h => h) (Or.inl ⟨by rfl, ?_⟩) ?_ ?_
        rotate_left
        ·
         intro w'
         go_simp
         with_reducible rfl
        rotate_left
        ·
         simp only [Act.put, List.setIfInBounds_toArray, List.set_cons_zero, List.set_cons_succ, i64_w, i32_w]
         rfl
        refine pure_ (i := 5) (N := some 25) (v := ?_) (a' := ?_) #[true, true, false, true, true, true, false, false, false, false, false, false, false, false, false, false, false, false, false, false, false, false, false, false, false, false, false, false, false, false, false, false, false, false, false, false, false, false, false, false] rfl rfl (any_of HT_.out (by kernel_rfl)) (fun _ _ _ h => h) (Or.inl ⟨by rfl, ?_⟩) ?_ ?_
        rotate_left
        ·
         intro w'
         go_simp
         with_reducible rfl
        rotate_left
        ·
         simp only [Act.put, List.setIfInBounds_toArray, List.set_cons_zero, List.set_cons_succ, i64_w, i32_w]
         rfl
        refine pure_ (i := 6) (N := some 26) (v := ?_) (a' := ?_) #[true, true, false, true, true, true, true, false, false, false, false, false, false, false, false, false, false, false, false, false, false, false, false, false, false, false, false, false, false, false, false, false, false, false, false, false, false, false, false, false] rfl rfl (any_of HT_.out (by kernel_rfl)) (fun _ _ _ h => h) (Or.inl ⟨by rfl, ?_⟩) ?_ ?_
        rotate_left
        ·
         intro w'
         go_simp
         with_reducible rfl
        rotate_left
        ·
         simp only [Act.put, List.setIfInBounds_toArray, List.set_cons_zero, List.set_cons_succ, i64_w, i32_w]
         rfl
        refine pure_ (i := 9) (N := some 29) (v := ?_) (a' := ?_) #[true, true, false, true, true, true, true, false, false, true, false, false, false, false, false, false, false, false, false, false, false, false, false, false, false, false, false, false, false, false, false, false, false, false, false, false, false, false, false, false] rfl rfl (any_of HT_.out (by kernel_rfl)) (fun _ _ _ h => h) (Or.inl ⟨by rfl, ?_⟩) ?_ ?_
        rotate_left
        ·
         intro w'
         go_simp
         with_reducible rfl
        rotate_left
        ·
         simp only [Act.put, List.setIfInBounds_toArray, List.set_cons_zero, List.set_cons_succ, i64_w, i32_w]
         rfl
        refine pure_ (i := 11) (N := some 31) (v := ?_) (a' := ?_) #[true, true, false, true, true, true, true, false, false, true, false, true, false, false, false, false, false, false, false, false, false, false, false, false, false, false, false, false, false, false, false, false, false, false, false, false, false, false, false, false] rfl rfl (any_of HT_.out (by kernel_rfl)) (fun _ _ _ h => h) (Or.inl ⟨by rfl, ?_⟩) ?_ ?_
        rotate_left
        ·
         intro w'
         go_simp
         with_reducible rfl
        rotate_left
        ·
         simp only [Act.put, List.setIfInBounds_toArray, List.set_cons_zero, List.set_cons_succ, i64_w, i32_w]
         rfl
        refine pure_ (i := 12) (N := some 32) (v := ?_) (a' := ?_) #[true, true, false, true, true, true, true, false, false, true, false, true, true, false, false, false, false, false, false, false, false, false, false, false, false, false, false, false, false, false, false, false, false, false, false, false, false, false, false, false] rfl rfl (any_of HT_.out (by kernel_rfl)) (fun _ _ _ h => h) (Or.inl ⟨by rfl, ?_⟩) ?_ ?_
        rotate_left
        ·
         intro w'
         go_simp
         with_reducible rfl
        rotate_left
        ·
         simp only [Act.put, List.setIfInBounds_toArray, List.set_cons_zero, List.set_cons_succ, i64_w, i32_w]
         rfl
        refine pure_ (i := 13) (N := some 33) (v := ?_) (a' := ?_) #[true, true, false, true, true, true, true, false, false, true, false, true, true, true, false, false, false, false, false, false, false, false, false, false, false, false, false, false, false, false, false, false, false, false, false, false, false, false, false, false] rfl rfl (any_of HT_.out (by kernel_rfl)) (fun _ _ _ h => h) (Or.inl ⟨by rfl, ?_⟩) ?_ ?_
        rotate_left
        ·
         intro w'
         go_simp
         with_reducible rfl
        rotate_left
        ·
         simp only [Act.put, List.setIfInBounds_toArray, List.set_cons_zero, List.set_cons_succ, i64_w, i32_w]
         rfl
        refine pure_ (i := 14) (N := some 34) (v := ?_) (a' := ?_) #[true, true, false, true, true, true, true, false, false, true, false, true, true, true, true, false, false, false, false, false, false, false, false, false, false, false, false, false, false, false, false, false, false, false, false, false, false, false, false, false] rfl rfl (any_of HT_.out (by kernel_rfl)) (fun _ _ _ h => h) (Or.inl ⟨by rfl, ?_⟩) ?_ ?_
        rotate_left
        ·
         intro w'
         go_simp
         with_reducible rfl
        rotate_left
        ·
         simp only [Act.put, List.setIfInBounds_toArray, List.set_cons_zero, List.set_cons_succ, i64_w, i32_w]
         rfl
        refine pure_ (i := 19) (N := some 39) (v := ?_) (a' := ?_) #[true, true, false, true, true, true, true, false, false, true, false, true, true, true, true, false, false, false, false, true, false, false, false, false, false, false, false, false, false, false, false, false, false, false, false, false, false, false, false, false] rfl rfl (any_of HT_.out (by kernel_rfl)) (fun _ _ _ h => h) (Or.inl ⟨by rfl, ?_⟩) ?_ ?_
        rotate_left
        ·
         intro w'
         go_simp
         with_reducible rfl
        rotate_left
        ·
         simp only [Act.put, List.setIfInBounds_toArray, List.set_cons_zero, List.set_cons_succ, i64_w, i32_w]
         rfl
        refine pure_ (i := 21) (N := some 41) (v := ?_) (a' := ?_) #[true, true, false, true, true, true, true, false, false, true, false, true, true, true, true, false, false, false, false, true, false, true, false, false, false, false, false, false, false, false, false, false, false, false, false, false, false, false, false, false] rfl rfl (any_of HT_.out (by kernel_rfl)) (fun _ _ _ h => h) (Or.inl ⟨by rfl, ?_⟩) ?_ ?_
        rotate_left
        ·
         intro w'
         go_simp
         with_reducible rfl
        rotate_left
        ·
         simp only [Act.put, List.setIfInBounds_toArray, List.set_cons_zero, List.set_cons_succ, i64_w, i32_w]
         rfl
        refine pure_ (i := 22) (N := some 42) (v := ?_) (a' := ?_) #[true, true, false, true, true, true, true, false, false, true, false, true, true, true, true, false, false, false, false, true, false, true, true, false, false, false, false, false, false, false, false, false, false, false, false, false, false, false, false, false] rfl rfl (any_of HT_.out (by kernel_rfl)) (fun _ _ _ h => h) (Or.inl ⟨by rfl, ?_⟩) ?_ ?_
        rotate_left
        ·
         intro w'
         go_simp
         with_reducible rfl
        rotate_left
        ·
         simp only [Act.put, List.setIfInBounds_toArray, List.set_cons_zero, List.set_cons_succ, i64_w, i32_w]
         rfl
        refine pure_ (i := 23) (N := some 43) (v := ?_) (a' := ?_) #[true, true, false, true, true, true, true, false, false, true, false, true, true, true, true, false, false, false, false, true, false, true, true, true, false, false, false, false, false, false, false, false, false, false, false, false, false, false, false, false] rfl rfl (any_of HT_.out (by kernel_rfl)) (fun _ _ _ h => h) (Or.inl ⟨by rfl, ?_⟩) ?_ ?_
        rotate_left
        ·
         intro w'
         go_simp
         with_reducible rfl
        rotate_left
        ·
         simp only [Act.put, List.setIfInBounds_toArray, List.set_cons_zero, List.set_cons_succ, i64_w, i32_w]
         rfl
        refine pure_ (i := 24) (N := some 44) (v := ?_) (a' := ?_) #[true, true, false, true, true, true, true, false, false, true, false, true, true, true, true, false, false, false, false, true, false, true, true, true, true, false, false, false, false, false, false, false, false, false, false, false, false, false, false, false] rfl rfl (any_of HT_.out (by kernel_rfl)) (fun _ _ _ h => h) (Or.inl ⟨by rfl, ?_⟩) ?_ ?_
        rotate_left
        ·
         intro w'
         go_simp
         with_reducible rfl
        rotate_left
        ·
         simp only [Act.put, List.setIfInBounds_toArray, List.set_cons_zero, List.set_cons_succ, i64_w, i32_w]
         rfl
        refine pure_ (i := 27) (N := some 47) (v := ?_) (a' := ?_) #[true, true, false, true, true, true, true, false, false, true, false, true, true, true, true, false, false, false, false, true, false, true, true, true, true, false, false, true, false, false, false, false, false, false, false, false, false, false, false, false] rfl rfl (any_of HT_.out (by kernel_rfl)) (fun _ _ _ h => h) (Or.inl ⟨by rfl, ?_⟩) ?_ ?_
        rotate_left
        ·
         intro w'
         go_simp
         with_reducible rfl
        rotate_left
        ·
         simp only [Act.put, List.setIfInBounds_toArray, List.set_cons_zero, List.set_cons_succ, i64_w, i32_w]
         rfl
        refine pure_ (i := 29) (N := some 49) (v := ?_) (a' := ?_) #[true, true, false, true, true, true, true, false, false, true, false, true, true, true, true, false, false, false, false, true, false, true, true, true, true, false, false, true, false, true, false, false, false, false, false, false, false, false, false, false] rfl rfl (any_of HT_.out (by kernel_rfl)) (fun _ _ _ h => h) (Or.inl ⟨by rfl, ?_⟩) ?_ ?_
        rotate_left
        ·
         intro w'
         go_simp
         with_reducible rfl
        rotate_left
        ·
         simp only [Act.put, List.setIfInBounds_toArray, List.set_cons_zero, List.set_cons_succ, i64_w, i32_w]
         rfl
        refine pure_ (i := 30) (N := some 50) (v := ?_) (a' := ?_) #[true, true, false, true, true, true, true, false, false, true, false, true, true, true, true, false, false, false, false, true, false, true, true, true, true, false, false, true, false, true, true, false, false, false, false, false, false, false, false, false] rfl rfl (any_of HT_.out (by kernel_rfl)) (fun _ _ _ h => h) (Or.inl ⟨by rfl, ?_⟩) ?_ ?_
        rotate_left
        ·
         intro w'
         go_simp
         with_reducible rfl
        rotate_left
        ·
         simp only [Act.put, List.setIfInBounds_toArray, List.set_cons_zero, List.set_cons_succ, i64_w, i32_w]
         rfl
        refine pure_ (i := 31) (N := some 51) (v := ?_) (a' := ?_) #[true, true, false, true, true, true, true, false, false, true, false, true, true, true, true, false, false, false, false, true, false, true, true, true, true, false, false, true, false, true, true, true, false, false, false, false, false, false, false, false] rfl rfl (any_of HT_.out (by kernel_rfl)) (fun _ _ _ h => h) (Or.inl ⟨by rfl, ?_⟩) ?_ ?_
        rotate_left
        ·
         intro w'
         go_simp
         with_reducible rfl
        rotate_left
        ·
         simp only [Act.put, List.setIfInBounds_toArray, List.set_cons_zero, List.set_cons_succ, i64_w, i32_w]
         rfl
        refine pure_ (i := 32) (N := some 52) (v := ?_) (a' := ?_) #[true, true, false, true, true, true, true, false, false, true, false, true, true, true, true, false, false, false, false, true, false, true, true, true, true, false, false, true, false, true, true, true, true, false, false, false, false, false, false, false] rfl rfl (any_of HT_.out (by kernel_rfl)) (fun _ _ _ h => h) (Or.inl ⟨by rfl, ?_⟩) ?_ ?_
        rotate_left
        ·
         intro w'
         go_simp
         with_reducible rfl
        rotate_left
        ·
         simp only [Act.put, List.setIfInBounds_toArray, List.set_cons_zero, List.set_cons_succ, i64_w, i32_w]
         rfl
        refine take_ (i := 2) (N := some 22) (v := ?_) (a' := ?_) #[true, true, true, true, true, true, true, false, false, true, false, true, true, true, true, false, false, false, false, true, false, true, true, true, true, false, false, true, false, true, true, true, true, false, false, false, false, false, false, false] rfl rfl (take_ofW HT_.out HW_.out (by kernel_rfl)) (fun _ _ _ h => h) (Or.inl ⟨by rfl, ?_⟩) hHeld ?_ ?_
        rotate_left
        ·
         rintro w' ⟨s0, s1, s2, s3, s4, s5, s6, s7, s8, s9⟩
         go_simp
         with_reducible rfl
        rotate_left
        ·
         simp only [Act.put, List.setIfInBounds_toArray, List.set_cons_zero, List.set_cons_succ, i64_w, i32_w]
         rfl
        refine take_ (i := 7) (N := some 27) (v := ?_) (a' := ?_) #[true, true, true, true, true, true, true, true, false, true, false, true, true, true, true, false, false, false, false, true, false, true, true, true, true, false, false, true, false, true, true, true, true, false, false, false, false, false, false, false] rfl rfl (take_ofW HT_.out HW_.out (by kernel_rfl)) (fun _ _ _ h => h) (Or.inl ⟨by rfl, ?_⟩) hHeld ?_ ?_
        rotate_left
        ·
         rintro w' ⟨s0, s1, s2, s3, s4, s5, s6, s7, s8, s9⟩
         go_simp
         with_reducible rfl
        rotate_left
        ·
         simp only [Act.put, List.setIfInBounds_toArray, List.set_cons_zero, List.set_cons_succ, i64_w, i32_w]
         rfl
        refine pure_ (i := 8) (N := some 28) (v := ?_) (a' := ?_) #[true, true, true, true, true, true, true, true, true, true, false, true, true, true, true, false, false, false, false, true, false, true, true, true, true, false, false, true, false, true, true, true, true, false, false, false, false, false, false, false] rfl rfl (any_of HT_.out (by kernel_rfl)) (fun _ _ _ h => h) (Or.inl ⟨by rfl, ?_⟩) ?_ ?_
        rotate_left
        ·
         intro w'
         go_simp
         with_reducible rfl
        rotate_left
        ·
         simp only [Act.put, List.setIfInBounds_toArray, List.set_cons_zero, List.set_cons_succ, i64_w, i32_w]
         rfl
        refine take_ (i := 10) (N := some 30) (v := ?_) (a' := ?_) #[true, true, true, true, true, true, true, true, true, true, true, true, true, true, true, false, false, false, false, true, false, true, true, true, true, false, false, true, false, true, true, true, true, false, false, false, false, false, false, false] rfl rfl (take_ofW HT_.out HW_.out (by kernel_rfl)) (fun _ _ _ h => h) (Or.inl ⟨by rfl, ?_⟩) hHeld ?_ ?_
        rotate_left
        ·
         rintro w' ⟨s0, s1, s2, s3, s4, s5, s6, s7, s8, s9⟩
         go_simp
         with_reducible rfl
        rotate_left
        ·
         simp only [Act.put, List.setIfInBounds_toArray, List.set_cons_zero, List.set_cons_succ, i64_w, i32_w]
         rfl
        refine take_ (i := 15) (N := some 35) (v := ?_) (a' := ?_) #[true, true, true, true, true, true, true, true, true, true, true, true, true, true, true, true, false, false, false, true, false, true, true, true, true, false, false, true, false, true, true, true, true, false, false, false, false, false, false, false] rfl rfl (take_ofW HT_.out HW_.out (by kernel_rfl)) (fun _ _ _ h => h) (Or.inl ⟨by rfl, ?_⟩) hHeld ?_ ?_
        rotate_left
        ·
         rintro w' ⟨s0, s1, s2, s3, s4, s5, s6, s7, s8, s9⟩
         go_simp
         with_reducible rfl
        rotate_left
        ·
         simp only [Act.put, List.setIfInBounds_toArray, List.set_cons_zero, List.set_cons_succ, i64_w, i32_w]
         rfl
        refine pure_ (i := 16) (N := some 36) (v := ?_) (a' := ?_) #[true, true, true, true, true, true, true, true, true, true, true, true, true, true, true, true, true, false, false, true, false, true, true, true, true, false, false, true, false, true, true, true, true, false, false, false, false, false, false, false] rfl rfl (any_of HT_.out (by kernel_rfl)) (fun _ _ _ h => h) (Or.inl ⟨by rfl, ?_⟩) ?_ ?_
        rotate_left
        ·
         intro w'
         go_simp
         with_reducible rfl
        rotate_left
        ·
         simp only [Act.put, List.setIfInBounds_toArray, List.set_cons_zero, List.set_cons_succ, i64_w, i32_w]
         rfl
        refine pure_ (i := 17) (N := some 37) (v := ?_) (a' := ?_) #[true, true, true, true, true, true, true, true, true, true, true, true, true, true, true, true, true, true, false, true, false, true, true, true, true, false, false, true, false, true, true, true, true, false, false, false, false, false, false, false] rfl rfl (any_of HT_.out (by kernel_rfl)) (fun _ _ _ h => h) (Or.inl ⟨by rfl, ?_⟩) ?_ ?_
        rotate_left
        ·
         intro w'
         go_simp
         with_reducible rfl
        rotate_left
        ·
         simp only [Act.put, List.setIfInBounds_toArray, List.set_cons_zero, List.set_cons_succ, i64_w, i32_w]
         rfl
        refine pure_ (i := 18) (N := some 38) (v := ?_) (a' := ?_) #[true, true, true, true, true, true, true, true, true, true, true, true, true, true, true, true, true, true, true, true, false, true, true, true, true, false, false, true, false, true, true, true, true, false, false, false, false, false, false, false] rfl rfl (any_of HT_.out (by kernel_rfl)) (fun _ _ _ h => h) (Or.inl ⟨by rfl, ?_⟩) ?_ ?_
        rotate_left
        ·
         intro w'
         go_simp
         with_reducible rfl
        rotate_left
        ·
         simp only [Act.put, List.setIfInBounds_toArray, List.set_cons_zero, List.set_cons_succ, i64_w, i32_w]
         rfl
        refine take_ (i := 20) (N := some 40) (v := ?_) (a' := ?_) #[true, true, true, true, true, true, true, true, true, true, true, true, true, true, true, true, true, true, true, true, true, true, true, true, true, false, false, true, false, true, true, true, true, false, false, false, false, false, false, false] rfl rfl (take_ofW HT_.out HW_.out (by kernel_rfl)) (fun _ _ _ h => h) (Or.inl ⟨by rfl, ?_⟩) hHeld ?_ ?_
        rotate_left
        ·
         rintro w' ⟨s0, s1, s2, s3, s4, s5, s6, s7, s8, s9⟩
         go_simp
         with_reducible rfl
        rotate_left
        ·
         simp only [Act.put, List.setIfInBounds_toArray, List.set_cons_zero, List.set_cons_succ, i64_w, i32_w]
         rfl
        refine take_ (i := 25) (N := some 45) (v := ?_) (a' := ?_) #[true, true, true, true, true, true, true, true, true, true, true, true, true, true, true, true, true, true, true, true, true, true, true, true, true, true, false, true, false, true, true, true, true, false, false, false, false, false, false, false] rfl rfl (take_ofW HT_.out HW_.out (by kernel_rfl)) (fun _ _ _ h => h) (Or.inl ⟨by rfl, ?_⟩) hHeld ?_ ?_
        rotate_left
        ·
         rintro w' ⟨s0, s1, s2, s3, s4, s5, s6, s7, s8, s9⟩
         go_simp
         with_reducible rfl
        rotate_left
        ·
         simp only [Act.put, List.setIfInBounds_toArray, List.set_cons_zero, List.set_cons_succ, i64_w, i32_w]
         rfl
        refine pure_ (i := 26) (N := some 46) (v := ?_) (a' := ?_) #[true, true, true, true, true, true, true, true, true, true, true, true, true, true, true, true, true, true, true, true, true, true, true, true, true, true, true, true, false, true, true, true, true, false, false, false, false, false, false, false] rfl rfl (any_of HT_.out (by kernel_rfl)) (fun _ _ _ h => h) (Or.inl ⟨by rfl, ?_⟩) ?_ ?_
        rotate_left
        ·
         intro w'
         go_simp
         with_reducible rfl
        rotate_left
        ·
         simp only [Act.put, List.setIfInBounds_toArray, List.set_cons_zero, List.set_cons_succ, i64_w, i32_w]
         rfl
        refine take_ (i := 28) (N := some 48) (v := ?_) (a' := ?_) #[true, true, true, true, true, true, true, true, true, true, true, true, true, true, true, true, true, true, true, true, true, true, true, true, true, true, true, true, true, true, true, true, true, false, false, false, false, false, false, false] rfl rfl (take_ofW HT_.out HW_.out (by kernel_rfl)) (fun _ _ _ h => h) (Or.inl ⟨by rfl, ?_⟩) hHeld ?_ ?_
        rotate_left
        ·
         rintro w' ⟨s0, s1, s2, s3, s4, s5, s6, s7, s8, s9⟩
         go_simp
         with_reducible rfl
        rotate_left
        ·
         simp only [Act.put, List.setIfInBounds_toArray, List.set_cons_zero, List.set_cons_succ, i64_w, i32_w]
         rfl
        refine take_ (i := 33) (N := some 53) (v := ?_) (a' := ?_) #[true, true, true, true, true, true, true, true, true, true, true, true, true, true, true, true, true, true, true, true, true, true, true, true, true, true, true, true, true, true, true, true, true, true, false, false, false, false, false, false] rfl rfl (take_ofW HT_.out HW_.out (by kernel_rfl)) (fun _ _ _ h => h) (Or.inl ⟨by rfl, ?_⟩) hHeld ?_ ?_
        rotate_left
        ·
         rintro w' ⟨s0, s1, s2, s3, s4, s5, s6, s7, s8, s9⟩
         go_simp
         with_reducible rfl
        rotate_left
        ·
         simp only [Act.put, List.setIfInBounds_toArray, List.set_cons_zero, List.set_cons_succ, i64_w, i32_w]
         rfl
        refine pure_ (i := 34) (N := some 54) (v := ?_) (a' := ?_) #[true, true, true, true, true, true, true, true, true, true, true, true, true, true, true, true, true, true, true, true, true, true, true, true, true, true, true, true, true, true, true, true, true, true, true, false, false, false, false, false] rfl rfl (any_of HT_.out (by kernel_rfl)) (fun _ _ _ h => h) (Or.inl ⟨by rfl, ?_⟩) ?_ ?_
        rotate_left
        ·
         intro w'
         go_simp
         with_reducible rfl
        rotate_left
        ·
         simp only [Act.put, List.setIfInBounds_toArray, List.set_cons_zero, List.set_cons_succ, i64_w, i32_w]
         rfl
        refine pure_ (i := 35) (N := some 55) (v := ?_) (a' := ?_) #[true, true, true, true, true, true, true, true, true, true, true, true, true, true, true, true, true, true, true, true, true, true, true, true, true, true, true, true, true, true, true, true, true, true, true, true, false, false, false, false] rfl rfl (any_of HT_.out (by kernel_rfl)) (fun _ _ _ h => h) (Or.inl ⟨by rfl, ?_⟩) ?_ ?_
        rotate_left
        ·
         intro w'
         go_simp
         with_reducible rfl
        rotate_left
        ·
         simp only [Act.put, List.setIfInBounds_toArray, List.set_cons_zero, List.set_cons_succ, i64_w, i32_w]
         rfl
        refine pure_ (i := 36) (N := some 56) (v := ?_) (a' := ?_) #[true, true, true, true, true, true, true, true, true, true, true, true, true, true, true, true, true, true, true, true, true, true, true, true, true, true, true, true, true, true, true, true, true, true, true, true, true, false, false, false] rfl rfl (any_of HT_.out (by kernel_rfl)) (fun _ _ _ h => h) (Or.inl ⟨by rfl, ?_⟩) ?_ ?_
        rotate_left
        ·
         intro w'
         go_simp
         with_reducible rfl
        rotate_left
        ·
         simp only [Act.put, List.setIfInBounds_toArray, List.set_cons_zero, List.set_cons_succ, i64_w, i32_w]
         rfl
        refine one_ (i := 37) (N := some 57) #[true, true, true, true, true, true, true, true, true, true, true, true, true, true, true, true, true, true, true, true, true, true, true, true, true, true, true, true, true, true, true, true, true, true, true, true, true, true, false, false] rfl rfl (one_of HT_.out (by kernel_rfl)) (by decide) (fun K hK => ?_)
        refine Kd.R_lit_step k65 _ 65 ?hg (N := 57) ?hd (xs := ([(⟨(⟨wrap64 (a0_0 + ((rd_T63 y132 x17_1).f0)), wrap64 (a0_1 + ((rd_T63 y132 x17_1).f1))⟩ : S63), 0⟩ : S65), (⟨(⟨wrap64 (a0_0 + ((rd_T63 y135 x17_1).f0)), wrap64 (a0_1 + ((rd_T63 y135 x17_1).f1))⟩ : S63), 1⟩ : S65)] : List (S65))) (inner := [.int .i64 (wrap64 (a0_0 + ((rd_T63 y132 x17_1).f0))), .int .i64 (wrap64 (a0_1 + ((rd_T63 y132 x17_1).f1))), .int .i64 0, .int .i64 (wrap64 (a0_0 + ((rd_T63 y135 x17_1).f0))), .int .i64 (wrap64 (a0_1 + ((rd_T63 y135 x17_1).f1))), .int .i64 1]) (ok := fun _ => True) (okp := fun _ => True) ?hr ?hp (fun _ hk => hk) trivial (Below.refl _ _) (Nat.le_refl _) (by simp) ?_; (case hd => rfl); (case hg => rfl); (case hr => first | (go_simp; done) | (go_simp; rfl)); (case hp => exact (Reps.c3 (show Kd.M k65 _ _ _ (⟨(⟨wrap64 (a0_0 + ((rd_T63 y132 x17_1).f0)), wrap64 (a0_1 + ((rd_T63 y132 x17_1).f1))⟩ : S63), 0⟩ : S65) [.int .i64 (wrap64 (a0_0 + ((rd_T63 y132 x17_1).f0))), .int .i64 (wrap64 (a0_1 + ((rd_T63 y132 x17_1).f1))), .int .i64 0] from (k65_mkM _ _ _ (⟨(⟨wrap64 (a0_0 + ((rd_T63 y132 x17_1).f0)), wrap64 (a0_1 + ((rd_T63 y132 x17_1).f1))⟩ : S63), 0⟩ : S65) )) (Reps.c3 (show Kd.M k65 _ _ _ (⟨(⟨wrap64 (a0_0 + ((rd_T63 y135 x17_1).f0)), wrap64 (a0_1 + ((rd_T63 y135 x17_1).f1))⟩ : S63), 1⟩ : S65) [.int .i64 (wrap64 (a0_0 + ((rd_T63 y135 x17_1).f0))), .int .i64 (wrap64 (a0_1 + ((rd_T63 y135 x17_1).f1))), .int .i64 1] from (k65_mkM _ _ _ (⟨(⟨wrap64 (a0_0 + ((rd_T63 y135 x17_1).f0)), wrap64 (a0_1 + ((rd_T63 y135 x17_1).f1))⟩ : S63), 1⟩ : S65) )) (Reps.none _ _))))
        intro v143 w15 ho16 hb hg_ hnew_
        have HS2_ := (hb.cell (World.block_lt_of_cell? _ _ (hHeld.2.2.1))).trans (hHeld.2.2.1)
        have HS3_ := (hb.cell (World.block_lt_of_cell? _ _ (hHeld.2.2.2.1))).trans (hHeld.2.2.2.1)
        have HS4_ := (hb.cell (World.block_lt_of_cell? _ _ (hHeld.2.2.2.2.1))).trans (hHeld.2.2.2.2.1)
        have HS5_ := (hb.cell (World.block_lt_of_cell? _ _ (hHeld.2.2.2.2.2.1))).trans (hHeld.2.2.2.2.2.1)
        have HS6_ := (hb.cell (World.block_lt_of_cell? _ _ (hHeld.2.2.2.2.2.2.1))).trans (hHeld.2.2.2.2.2.2.1)
        have HS7_ := (hb.cell (World.block_lt_of_cell? _ _ (hHeld.2.2.2.2.2.2.2.1))).trans (hHeld.2.2.2.2.2.2.2.1)
        have HS8_ := (hb.cell (World.block_lt_of_cell? _ _ (hHeld.2.2.2.2.2.2.2.2.1))).trans (hHeld.2.2.2.2.2.2.2.2.1)
        have HS9_ := (hb.cell (World.block_lt_of_cell? _ _ (hHeld.2.2.2.2.2.2.2.2.2))).trans (hHeld.2.2.2.2.2.2.2.2.2)
        clear hg_ hnew_
        (first | rw [← Ny142.out] at ho16 | (simp only [Int.reduceToNat] at ho16; rw [← Ny142.out] at ho16))
        have n0_ := Aside0.mk (Kd.R_below (by (with_reducible repeat (first | apply Kd.R_alloc | apply Kd.R_drewN | apply Kd.R_drew)); exact HO_3.out) hb)
        have n1_ := Aside0.mk (Kd.R_below (by (with_reducible repeat (first | apply Kd.R_alloc | apply Kd.R_drewN | apply Kd.R_drew)); exact HO_4.out) hb)
        have n2_ := Aside0.mk (Kd.R_elder' (by (with_reducible repeat (first | apply Kd.R_alloc | apply Kd.R_drewN | apply Kd.R_drew)); exact HO_5.out) (Kd.R_base ho16) hb)
        have n3_ := Aside0.mk (Kd.R_lower (Kd.R_new' ho16 (Kd.R_lt (by (with_reducible repeat (first | apply Kd.R_alloc | apply Kd.R_drewN | apply Kd.R_drew)); exact HO_5.out))) (below_size (by repeat (first | (with_reducible first | exact HB.out | apply ba_ | apply bn_ | apply bd_ | refine below_set ?_ GE131.out) | exact HB.out))))
        have n4_ := Aside0.mk (blk_below (g := gb131) (o := .cells #[.int .i64 a0_0, .int .i64 a0_1] 63 (0, 0)) (by (with_reducible repeat (first | apply bN_ | apply bD_ | apply bA_)); exact BK131.out) hb)
        have n5_ := Aside0.mk (below_step (by repeat (first | (with_reducible first | exact HB.out | apply ba_ | apply bn_ | apply bd_ | refine below_set ?_ GE131.out) | exact HB.out)) hb)
        clear HO_3
        clear HO_4
        clear HO_5
        clear BK131
        clear HB
        have HO_3 := n0_
        have HO_4 := n1_
        have HO_5 := n2_
        have HO144 := n3_
        have BK131 := n4_
        have HB := n5_
        clear n0_ n1_ n2_ n3_ n4_ n5_
        clear hb ho16
        obtain ⟨Ao18, co18, eo18⟩ := Kd.R_slice HO144.out
        (first | subst eo18 | (injection eo18 with f1_ f2_ f3_; have f4_ := f1_.symm; have f5_ := f3_.symm; clear f1_ f2_ f3_; subst f4_; subst f5_))
        refine hK.out _ _ ⟨(blk_cell BK131.out 0).trans rfl, (blk_cell BK131.out 1).trans rfl, HS2_, HS3_, HS4_, HS5_, HS6_, HS7_, HS8_, HS9_⟩ (fun hHeld => ?_)
        clear hK K
        refine norm_ (a' := ?_) ?_ ?_
        rotate_left
        ·
         show Act.put _ (some 57) _ = _
         simp only [Act.put, List.setIfInBounds_toArray, List.set_cons_zero, List.set_cons_succ, i64_w, i32_w]
         rfl
        refine last_ (i := 38) (N := some 58) #[true, true, true, true, true, true, true, true, true, true, true, true, true, true, true, true, true, true, true, true, true, true, true, true, true, true, true, true, true, true, true, true, true, true, true, true, true, true, true, false] rfl rfl (one_of HT_.out (by kernel_rfl)) (by decide) (fun K hK => ?_)
        refine Kd.R_append_rows_step k65 (w0 := w) w.heap.size (by rfl) (.tmp 20) (.tmp 57) 34 65 (.agg #[(.int .i64 0), (.int .i64 0), (.int .i64 0)]) 24 rfl Tryd.underlying34 info65 rfl (by decide) (by omega) u5 x5_1 y142 _ _ _ (fun k_ => some k_ ≠ (.slice Ao18 y142.length co18 : Value).ownBlock) (fun _ => False) rfl rfl ?aO ?aR (fun _ _ h => h) (fun _ h => h.elim) ?aF ?aB ?aS ?aL ?_
        (case aR => repeat (first | exact (Kd.R_reads' HO144.out).2.2 | (with_reducible refine Kd.C_alloc ?_ _) | (with_reducible refine Kd.C_drewN ?_ _) | (with_reducible refine Kd.C_drew ?_)))
        (case aB => exact (by repeat (first | (with_reducible first | exact HB.out | apply ba_ | apply bn_ | apply bd_ | refine below_set ?_ GE131.out) | exact HB.out)))
        (case aF => exact (fun k_ hk => Kd.fresh' (Kd.R_lt (by (with_reducible repeat (first | apply Kd.R_alloc | apply Kd.R_drewN | apply Kd.R_drew)); exact HO144.out)) k_ hk))
        (case aO => exact (by (with_reducible repeat (first | apply Kd.R_alloc | apply Kd.R_drewN | apply Kd.R_drew)); exact Kd.R_mono HO_5.out (fun _ hk => hk.2)))
        (case aS => exact (below_size (by repeat (first | (with_reducible first | exact HB.out | apply ba_ | apply bn_ | apply bd_ | refine below_set ?_ GE131.out) | exact HB.out))))
        (case aL => have := LMc12.out; omega)
        intro v146 w17 ho hb hg hat
        rw [← Ny145.out] at ho
        have n0_ := Aside0.mk (Kd.R_over' (by (with_reducible repeat (first | apply Kd.R_alloc | apply Kd.R_drewN | apply Kd.R_drew)); exact HO_3.out) (Kd.R_typed (by (with_reducible repeat (first | apply Kd.R_alloc | apply Kd.R_drewN | apply Kd.R_drew)); exact HO_5.out)) (by decide) hg)
        have n1_ := Aside0.mk (Kd.R_over' (by (with_reducible repeat (first | apply Kd.R_alloc | apply Kd.R_drewN | apply Kd.R_drew)); exact HO_4.out) (Kd.R_typed (by (with_reducible repeat (first | apply Kd.R_alloc | apply Kd.R_drewN | apply Kd.R_drew)); exact HO_5.out)) (by decide) hg)
        have n2_ := Aside0.mk (blk_grown (g := gb131) (o := .cells #[.int .i64 a0_0, .int .i64 a0_1] 63 (0, 0)) (by (with_reducible repeat (first | apply bN_ | apply bD_ | apply bA_)); exact BK131.out) hg (Kd.R_ne HO_5.out BK131.out (by decide)))
        have n3_ := Aside0.mk (Kd.R_after (ok := (fun _ => True)) (by (with_reducible repeat (first | apply Kd.R_alloc | apply Kd.R_drewN | apply Kd.R_drew)); exact HO144.out) hg hat)
        have n4_ := Aside0.mk (hb)
        have n5_ := Aside0.mk (ho)
        clear HO_3
        clear HO_4
        clear BK131
        clear HO144
        clear HB
        clear HO_5
        have HO_3 := n0_
        have HO_4 := n1_
        have BK131 := n2_
        have HO144 := n3_
        have HB := n4_
        have HO147 := n5_
        clear n0_ n1_ n2_ n3_ n4_ n5_
        clear ho hb hg hat
        refine hK.out _ _ ?_
        clear hK K
        refine norm_ (a' := ?_) ?_ ?_
        rotate_left
        ·
         show Act.put _ (some 58) _ = _
         simp only [Act.put, List.setIfInBounds_toArray, List.set_cons_zero, List.set_cons_succ, i64_w, i32_w]
         rfl
        refine pure_ (i := 39) (N := some 5) (v := ?_) (a' := ?_) #[true, true, true, true, true, true, true, true, true, true, true, true, true, true, true, true, true, true, true, true, true, true, true, true, true, true, true, true, true, true, true, true, true, true, true, true, true, true, true, true] rfl rfl (any_of HT_.out (by kernel_rfl)) (fun _ _ _ h => h) (Or.inl ⟨by rfl, ?_⟩) ?_ ?_
        rotate_left
        ·
         intro w'
         go_simp
         with_reducible rfl
        rotate_left
        ·
         simp only [Act.put, List.setIfInBounds_toArray, List.set_cons_zero, List.set_cons_succ, i64_w, i32_w]
         rfl
        refine done_ (done_of HT_.out (by kernel_rfl)) ?_
        try go_wp2
        go_roundg k1
        case measure => have := HK1.out; omega
        case rel => exact ⟨(y145), (wrap64 (x17_1 + 1)), (by first | rfl | (simp; done) | (simp [*]; done)), H', ⟨by have := HK1.out; omega⟩, ⟨by (with_reducible repeat (first | apply Kd.R_alloc | apply Kd.R_drewN | apply Kd.R_drew)); exact HO_3.out⟩, ⟨by (with_reducible repeat (first | apply Kd.R_alloc | apply Kd.R_drewN | apply Kd.R_drew)); exact HO_4.out⟩, ⟨by (with_reducible repeat (first | apply Kd.R_alloc | apply Kd.R_drewN | apply Kd.R_drew)); exact Kd.R_mono HO147.out (fun _ hk => trivial)⟩, ⟨by (with_reducible repeat (first | apply bN_ | apply bD_ | apply bA_)); exact BK131.out⟩, ⟨by repeat (first | (with_reducible first | exact HB.out | apply ba_ | apply bn_ | apply bd_ | refine below_set ?_ GE131.out) | exact HB.out)⟩⟩
       ·
        rw [if_neg c12] at H
        exact absurd H (by simp)
      ·
       rw [if_neg c11] at H
       exact absurd H (by simp)
     ·
      rw [if_neg c10] at H
      exact absurd H (by simp)
    ·
     rw [if_neg c9] at H
     exact absurd H (by simp)
   ·
    rw [if_neg c8] at H
    have c8b0 : decide (x17_1 < (y132.length : Int)) = false := decide_eq_false c8
    clear c8
    obtain rfl := Option.some.inj H
    go_wp2
    go_ret
    exact ⟨_, by first | rfl | (simp [errW_none, errW_some] <;> rfl) | (simp [*, errW_none, errW_some] <;> rfl), by (with_reducible repeat (first | apply Kd.R_alloc | apply Kd.R_drewN | apply Kd.R_drew)); exact HO_5.out, by repeat (first | (with_reducible first | exact HB.out | apply ba_ | apply bn_ | apply bd_ | refine below_set ?_ GE131.out) | exact HB.out)⟩
end Go.Proofs.YtaeenefdbahfoaaDoor.H
namespace Go.Proofs.YtaeenefdbahfoaaDoor
set_option linter.unusedSimpArgs false
set_option linter.unusedVariables false
open Go.RowKit Go.Proofs.YtaeenefdbahfoaaDoorW.PrintWords Go.Proofs.YtaeenefdbahfoaaDoorW.PrintLast Go.Proofs.YtaeenefdbahfoaaDoorW.PrintMore
open H
open Go.RowKit
abbrev CL := S65
def mk (a b h : Int) : CL := ⟨⟨a, b⟩, h⟩
def sh (a b : Int) (x : CL) : CL := ⟨⟨a + x.f0.f0, b + x.f0.f1⟩, x.f1⟩
theorem w64i (x : Int) (h1 : -9223372036854775808 ≤ x) (h2 : x ≤ 9223372036854775807) : wrap64 x = x := by unfold wrap64; omega
def goodP (a b : Int) : Prop := -1099511627776 ≤ a ∧ a ≤ 1099511627776 ∧ -1099511627776 ≤ b ∧ b ≤ 1099511627776
instance (a b : Int) : Decidable (goodP a b) := by unfold goodP; infer_instance
set_option maxHeartbeats 1000000 in
theorem good_any (a b : Int) (w : World) : Calls Tryd.prog 92 #[.agg #[.int .i64 a, .int .i64 b]] w fun e w' => e = .returned (.bool (decide (goodP a b))) ∧ Below w.heap.size w w' := by
  by_cases h : goodP a b
  · rw [decide_eq_true h]
    obtain ⟨h1, h2, h3, h4⟩ := h
    go_enter Tryd.func92, Tryd.ntmps92
    go_wp2
    go_ret
    exact ⟨rfl, (by with_reducible repeat (first | apply below_alloc | apply pw_below_drewN | apply below_drew | refine bset ?_ _ _ (by omega) _ | exact Below.refl _ _))⟩
  · rw [decide_eq_false h]
    simp only [goodP] at h
    go_enter Tryd.func92, Tryd.ntmps92
    go_wp2
    all_goals (first | (exfalso; omega) | (go_ret; exact ⟨by simp; try omega, (by with_reducible repeat (first | apply below_alloc | apply pw_below_drewN | apply below_drew | refine bset ?_ _ _ (by omega) _ | exact Below.refl _ _))⟩))
def checkR (l a b h : Int) : Option Int := if 1 ≤ l ∧ l ≤ 3 then (if h < 0 ∨ (if l = 1 then 1 else 2) ≤ h then some 4 else if goodP a b then none else some 6) else some 11
def halvesR (l : Int) : Int := if l = 1 then 1 else 2
theorem halves_any (l : Int) (w : World) : Calls Tryd.prog 87 #[.int .i64 l] w fun e w' => e = .returned (.int .i64 (halvesR l)) ∧ w' = w := by
  by_cases h : l = 1
  all_goals
    simp only [halvesR, h, ↓reduceIte]
    go_enter Tryd.func87, Tryd.ntmps87
    go_wp2
    go_ret
    exact ⟨rfl, rfl⟩
theorem lgood_any (l : Int) (w : World) : Calls Tryd.prog 80 #[.int .i64 l] w fun e w' => e = .returned (.bool (decide (1 ≤ l ∧ l ≤ 3))) ∧ w' = w := by
  by_cases h : 1 ≤ l ∧ l ≤ 3
  · rw [decide_eq_true h]
    obtain ⟨h1, h2⟩ := h
    go_enter Tryd.func80, Tryd.ntmps80
    go_wp2
    go_ret
    exact ⟨rfl, rfl⟩
  · rw [decide_eq_false h]
    go_enter Tryd.func80, Tryd.ntmps80
    go_wp2
    all_goals (first | (exfalso; omega) | (go_ret; exact ⟨by simp; try omega, rfl⟩))
set_option maxHeartbeats 1000000 in
theorem check_any (l a b h : Int) (w : World) : Calls Tryd.prog 81 #[.int .i64 l, .agg #[.int .i64 a, .int .i64 b, .int .i64 h]] w fun e w' => e = .returned (errW (checkR l a b h)) ∧ Below w.heap.size w w' := by
  have hl := lgood_any l
  have hh := halves_any l
  have hg := good_any a b
  unfold checkR
  by_cases h1 : 1 ≤ l ∧ l ≤ 3
  · rw [if_pos h1]
    rw [decide_eq_true h1] at hl
    have h2' : 1 ≤ halvesR l ∧ halvesR l ≤ 2 := by unfold halvesR; split <;> omega
    by_cases h2 : h < 0 ∨ (if l = 1 then 1 else 2) ≤ h
    · rw [if_pos h2]
      change h < 0 ∨ halvesR l ≤ h at h2
      by_cases h3 : h < 0
      · have hd : decide (h < 0) = true := decide_eq_true h3
        go_enter Tryd.func81, Tryd.ntmps81
        go_wp2_with (go_at_call 80; refine (hl _).mono ?_; rintro e w' ⟨rfl, rfl⟩)
        go_quiet (first | (go_at_call 87; exact Calls.quiet_of_same (hh _)))
        go_wp2
        go_ret
        exact ⟨rfl, (by with_reducible repeat (first | apply below_alloc | apply pw_below_drewN | apply below_drew | refine bset ?_ _ _ (by omega) _ | exact Below.refl _ _))⟩
      · have hd : decide (h < 0) = false := decide_eq_false h3
        have h4 : halvesR l ≤ h := by omega
        generalize halvesR l = hv at hh h4 h2'
        go_enter Tryd.func81, Tryd.ntmps81
        go_wp2_with (go_at_call 80; refine (hl _).mono ?_; rintro e w' ⟨rfl, rfl⟩)
        go_quiet (first | (go_at_call 87; exact Calls.quiet_of_same (hh _)))
        go_wp2
        go_ret
        exact ⟨rfl, (by with_reducible repeat (first | apply below_alloc | apply pw_below_drewN | apply below_drew | refine bset ?_ _ _ (by omega) _ | exact Below.refl _ _))⟩
    · rw [if_neg h2]
      change ¬ (h < 0 ∨ halvesR l ≤ h) at h2
      have hd : decide (h < 0) = false := decide_eq_false (by omega)
      have h4 : h < halvesR l := by omega
      have h5 : 0 ≤ h := by omega
      generalize halvesR l = hv at hh h4 h2'
      by_cases h6 : goodP a b
      · rw [if_pos h6]
        rw [decide_eq_true h6] at hg
        go_enter Tryd.func81, Tryd.ntmps81
        go_wp2_with (go_at_call 80; refine (hl _).mono ?_; rintro e w' ⟨rfl, rfl⟩)
        go_quiet (first | (go_at_call 87; exact Calls.quiet_of_same (hh _)))
        go_wp2_with (go_at_call 92; refine (hg _).mono ?_; rintro e w' ⟨rfl, hb⟩)
        go_ret
        exact ⟨rfl, Below.trans (by with_reducible repeat (first | apply below_alloc | apply pw_below_drewN | apply below_drew | refine bset ?_ _ _ (by omega) _ | exact Below.refl _ _)) (hb.mono (by simp))⟩
      · rw [if_neg h6]
        rw [decide_eq_false h6] at hg
        go_enter Tryd.func81, Tryd.ntmps81
        go_wp2_with (go_at_call 80; refine (hl _).mono ?_; rintro e w' ⟨rfl, rfl⟩)
        go_quiet (first | (go_at_call 87; exact Calls.quiet_of_same (hh _)))
        go_wp2_with (go_at_call 92; refine (hg _).mono ?_; rintro e w' ⟨rfl, hb⟩)
        go_ret
        exact ⟨rfl, Below.trans (by with_reducible repeat (first | apply below_alloc | apply pw_below_drewN | apply below_drew | refine bset ?_ _ _ (by omega) _ | exact Below.refl _ _)) (hb.mono (by simp))⟩
  · rw [if_neg h1]
    rw [decide_eq_false h1] at hl
    go_enter Tryd.func81, Tryd.ntmps81
    go_wp2_with (go_at_call 80; refine (hl _).mono ?_; rintro e w' ⟨rfl, rfl⟩)
    go_ret
    exact ⟨rfl, (by with_reducible repeat (first | apply below_alloc | apply pw_below_drewN | apply below_drew | refine bset ?_ _ _ (by omega) _ | exact Below.refl _ _))⟩
theorem checkR_ok {l a b h : Int} (hc : checkR l a b h = none) : 1 ≤ l ∧ l ≤ 3 ∧ goodP a b ∧ (h = 0 ∨ h = 1) ∧ (l = 1 → h = 0) := by
  unfold checkR at hc
  by_cases h0 : 1 ≤ l ∧ l ≤ 3
  · rw [if_pos h0] at hc
    by_cases h1 : h < 0 ∨ (if l = 1 then 1 else 2) ≤ h
    · rw [if_pos h1] at hc
      cases hc
    · rw [if_neg h1] at hc
      by_cases h2 : goodP a b
      · by_cases hl : l = 1
        · rw [if_pos hl] at h1
          exact ⟨h0.1, h0.2, h2, by omega, fun _ => by omega⟩
        · rw [if_neg hl] at h1
          exact ⟨h0.1, h0.2, h2, by omega, fun e => absurd e hl⟩
      · rw [if_neg h2] at hc
        cases hc
  · rw [if_neg h0] at hc
    cases hc
end Go.Proofs.YtaeenefdbahfoaaDoor
namespace Go.Proofs.YtaeenefdbahfoaaDoor
set_option linter.unusedSimpArgs false
set_option linter.unusedVariables false
open Go.RowKit Go.Proofs.YtaeenefdbahfoaaDoorW.PrintWords Go.Proofs.YtaeenefdbahfoaaDoorW.PrintLast Go.Proofs.YtaeenefdbahfoaaDoorW.PrintMore
open H
open Go.RowKit Go.ChangeMaps Go.MapKept Go.WideShapes
open Go.Maps (Keyed)
set_option maxRecDepth 100000
theorem ccWide : (match Tryd.prog.underlying 65 with | some (.array _ _) | some (.struct _) => true | _ => false) = true := by rw [Tryd.underlying65]
theorem ccLaw : Go.WideMaps.KeyLaw Tryd.prog 65 := deep_law_laid ptLaidOut (m := 3) (by omega) (of_decide_eq_true (by kernel_rfl)) (by kernel_rfl) ccWide
theorem ccKeyed : Go.Maps.Keyed Tryd.prog 65 := Go.Maps.Keyed.of_law ccLaw
theorem ccCells : Tryd.prog.cellsOf 65 = 3 := by kernel_rfl
theorem intCells : Tryd.prog.cellsOf 3 = 1 := by kernel_rfl
theorem ccFormed (a b c : Value) : (Value.agg #[a, b, c]).formed Tryd.prog 65 = true := by simp [Value.formed, Tryd.underlying65, ccCells]
theorem lits_int (n : Nat) (a : Int) (h : -9223372036854775808 ≤ a) (h' : a ≤ 9223372036854775807) : Tryd.prog.keyLits (n + 1) 3 [.int .i64 a] = some [.int .i64 a] := by
  simp [Program.keyLits, Tryd.underlying3, i64wf a h h']
theorem lits_cc (n : Nat) (a b c : Int) (ha : -9223372036854775808 ≤ a) (ha' : a ≤ 9223372036854775807) (hb : -9223372036854775808 ≤ b) (hb' : b ≤ 9223372036854775807) (hc : -9223372036854775808 ≤ c) (hc' : c ≤ 9223372036854775807) :
    Tryd.prog.keyLits (n + 3) 65 [.int .i64 a, .int .i64 b, .int .i64 c] = some [.int .i64 a, .int .i64 b, .int .i64 c] := by
  have h1 := lits_pt n a b ha ha' hb hb'
  have h2 := lits_int (n + 1) c hc hc'
  unfold Program.keyLits
  simp [Tryd.underlying65, ccCells, ptCells, intCells, h1, h2]
theorem ccKey (a b c : Int) (ha : -9223372036854775808 ≤ a) (ha' : a ≤ 9223372036854775807) (hb : -9223372036854775808 ≤ b) (hb' : b ≤ 9223372036854775807) (hc : -9223372036854775808 ≤ c) (hc' : c ≤ 9223372036854775807) :
    ∃ kl, keyOf Tryd.prog 65 (.agg #[.int .i64 a, .int .i64 b, .int .i64 c]) = some kl := by
  have hk : Tryd.prog.keyType 65 = true := by kernel_rfl
  have hs : ∃ n, Tryd.prog.types.size + 1 = n + 3 := ⟨Tryd.prog.types.size - 2, by have : 2 ≤ Tryd.prog.types.size := of_decide_eq_true (by kernel_rfl); omega⟩
  obtain ⟨n, hn⟩ := hs
  unfold keyOf
  simp only [Tryd.underlying65]
  rw [if_pos (by rw [hk, ccFormed]; rfl), hn]
  exact ⟨_, by rw [show (Value.agg #[Value.int .i64 a, Value.int .i64 b, Value.int .i64 c]).cells.toList = [.int .i64 a, .int .i64 b, .int .i64 c] from rfl, lits_cc n a b c ha ha' hb hb' hc hc']; rfl⟩
theorem zeroInt (w : World) : (zeroValue 3).run Tryd.prog w = .ok (.int .i64 0) w := by kernel_rfl
/-- a whole number for each of some cells -/
abbrev Tot := List (CL × Int)
def encC (p : CL × Int) : Value × Value := (.agg #[.int .i64 p.1.f0.f0, .int .i64 p.1.f0.f1, .int .i64 p.1.f1], .int .i64 p.2)
def cntC (L : Tot) (q : CL) : Int := match L.findIdx? (fun p => decide (p.1 = q)) with | some j => (L[j]?.map (·.2)).getD 0 | none => 0
def putC (L : Tot) (q : CL) (x : Int) : Tot := match L.findIdx? (fun p => decide (p.1 = q)) with | some j => L.set j (q, x) | none => L ++ [(q, x)]
def delC (L : Tot) (q : CL) : Tot := match L.findIdx? (fun p => decide (p.1 = q)) with | some j => L.eraseIdx j | none => L
theorem cl_of {x y : CL} (h0 : x.f0.f0 = y.f0.f0) (h1 : x.f0.f1 = y.f0.f1) (h2 : x.f1 = y.f1) : x = y := by
  obtain ⟨⟨a, b⟩, h⟩ := x
  obtain ⟨⟨c, d⟩, k⟩ := y
  simp only at h0 h1 h2
  rw [h0, h1, h2]
theorem encC_ne {p q : CL} (h : p ≠ q) : (Value.agg #[.int .i64 p.f0.f0, .int .i64 p.f0.f1, .int .i64 p.f1]) ≠ (Value.agg #[.int .i64 q.f0.f0, .int .i64 q.f0.f1, .int .i64 q.f1]) := by
  intro e
  simp at e
  exact h (cl_of e.1 e.2.1 e.2.2)
theorem bump_C (L : Tot) (q : CL) :
    (∃ j, (L.map encC)[j]? = some (.agg #[.int .i64 q.f0.f0, .int .i64 q.f0.f1, .int .i64 q.f1], .int .i64 (cntC L q)) ∧ (∀ n, (L.map encC).set j (.agg #[.int .i64 q.f0.f0, .int .i64 q.f0.f1, .int .i64 q.f1], .int .i64 n) = (putC L q n).map encC) ∧ (L.map encC).eraseIdx j = (delC L q).map encC) ∨
    ((∀ p ∈ L.map encC, p.1 ≠ .agg #[.int .i64 q.f0.f0, .int .i64 q.f0.f1, .int .i64 q.f1]) ∧ cntC L q = 0 ∧ (∀ n, L.map encC ++ [(.agg #[.int .i64 q.f0.f0, .int .i64 q.f0.f1, .int .i64 q.f1], .int .i64 n)] = (putC L q n).map encC) ∧ delC L q = L) := by
  cases hf : L.findIdx? (fun p => decide (p.1 = q)) with
  | some j =>
    obtain ⟨hj, hp, _⟩ := List.findIdx?_eq_some_iff_getElem.1 hf
    have hq : L[j].1 = q := by simpa using hp
    refine .inl ⟨j, ?_, fun n => ?_, ?_⟩
    · rw [List.getElem?_map, List.getElem?_eq_getElem hj]
      simp only [cntC, hf, List.getElem?_eq_getElem hj, Option.map_some, Option.getD_some, encC, hq]
    · simp [putC, hf, List.map_set, encC]
    · simp only [delC, hf]
      first | rw [map_eraseIdx] | rw [← map_eraseIdx]
  | none =>
    refine .inr ⟨fun p hp => ?_, by simp [cntC, hf], fun n => by simp [putC, hf, encC], by simp [delC, hf]⟩
    obtain ⟨x, hx, rfl⟩ := List.mem_map.1 hp
    have hne := List.findIdx?_eq_none_iff.1 hf x hx
    exact encC_ne (by simpa using hne)
/-- a cell whose numbers are in range -/
def inR (q : CL) : Prop := (-9223372036854775808 ≤ q.f0.f0 ∧ q.f0.f0 ≤ 9223372036854775807) ∧ (-9223372036854775808 ≤ q.f0.f1 ∧ q.f0.f1 ≤ 9223372036854775807) ∧ (-9223372036854775808 ≤ q.f1 ∧ q.f1 ≤ 9223372036854775807)
theorem inR.key {q : CL} (h : inR q) : ∃ kl, keyOf Tryd.prog 65 (.agg #[.int .i64 q.f0.f0, .int .i64 q.f0.f1, .int .i64 q.f1]) = some kl := ccKey q.f0.f0 q.f0.f1 q.f1 h.1.1 h.1.2 h.2.1.1 h.2.1.2 h.2.2.1 h.2.2.2
/-- a look-up -/
theorem look_C {w : World} {b : Nat} {L : Tot} (h : MapAt Tryd.prog 65 w b (L.map encC)) (q : CL) (hq : inR q) :
    (Instr.lookup 106 (.map (some b)) (.agg #[.int .i64 q.f0.f0, .int .i64 q.f0.f1, .int .i64 q.f1]) false).run Tryd.prog w = .ok (.int .i64 (cntC L q)) w := by
  obtain ⟨kl, hkl⟩ := hq.key
  rcases bump_C L q with ⟨j, hj, _⟩ | ⟨hn, h0, _⟩
  · exact h.look_some false ccKeyed Tryd.underlying106 hkl hj
  · rw [h0]
    exact h.look_none false ccKeyed Tryd.underlying106 zeroInt hkl hn
/-- 'm[q] op= ..' -/
theorem incr_C {w : World} {b : Nat} {L : Tot} (h : MapAt Tryd.prog 65 w b (L.map encC)) (q : CL) (hq : inR q) (x : Int) :
    (Instr.lookup 106 (.map (some b)) (.agg #[.int .i64 q.f0.f0, .int .i64 q.f0.f1, .int .i64 q.f1]) false).run Tryd.prog w = .ok (.int .i64 (cntC L q)) w ∧
    ∃ w1 st, (Instr.mapEntry 106 (.map (some b)) (.agg #[.int .i64 q.f0.f0, .int .i64 q.f0.f1, .int .i64 q.f1])).run Tryd.prog w = .ok (.tuple #[.int .i64 (cntC L q), .int .i64 st]) w1 ∧ w.mapTurned w1 b ∧
      (Instr.lookup 106 (.map (some b)) (.agg #[.int .i64 q.f0.f0, .int .i64 q.f0.f1, .int .i64 q.f1]) false).run Tryd.prog w1 = .ok (.int .i64 (cntC L q)) w1 ∧
      ∃ w2, (Instr.entryStore 106 (.map (some b)) (.int .i64 st) (.int .i64 x)).run Tryd.prog w1 = .ok () w2 ∧ w1.mapTurned w2 b ∧ MapAt Tryd.prog 65 w2 b ((putC L q x).map encC) := by
  obtain ⟨kl, hkl⟩ := hq.key
  rcases bump_C L q with ⟨j, hj, hput, _⟩ | ⟨hn, h0, hput, _⟩
  · obtain ⟨hl, w1, st, he, ht, hs, hl1⟩ := h.bump ccKeyed Tryd.underlying106 zeroInt hkl (.int .i64 (cntC L q)) _ (.inl ⟨j, hj, rfl⟩)
    obtain ⟨w2, h5, h6, h7⟩ := hs w1 rfl (.int .i64 x)
    exact ⟨hl, w1, st, he, ht, hl1, w2, h5, h7, by rw [← hput]; exact h6⟩
  · obtain ⟨hl, w1, st, he, ht, hs, hl1⟩ := h.bump ccKeyed Tryd.underlying106 zeroInt hkl (.int .i64 (cntC L q)) _ (.inr ⟨hn, by rw [h0], rfl⟩)
    obtain ⟨w2, h5, h6, h7⟩ := hs w1 rfl (.int .i64 x)
    exact ⟨hl, w1, st, he, ht, hl1, w2, h5, h7, by rw [← hput]; exact h6⟩
/-- 'delete(m, q)' -/
theorem del_C {w : World} {b : Nat} {L : Tot} (h : MapAt Tryd.prog 65 w b (L.map encC)) (q : CL) (hq : inR q) (ty : TypeId) :
    ∃ w1, (Builtin.delete_ #[106, 65] ty #[.map (some b), .agg #[.int .i64 q.f0.f0, .int .i64 q.f0.f1, .int .i64 q.f1]]).run Tryd.prog w = .ok (.tuple #[]) w1 ∧ MapAt Tryd.prog 65 w1 b ((delC L q).map encC) ∧ w.mapTurned w1 b := by
  obtain ⟨kl, hkl⟩ := hq.key
  rcases bump_C L q with ⟨j, hj, _, hdel⟩ | ⟨hn, h0, _, hdel⟩
  · obtain ⟨w1, h1, h2, h3⟩ := h.del_some ccKeyed Tryd.underlying106 hkl hj ty
    exact ⟨w1, h1, by rw [← hdel]; exact h2, h3⟩
  · obtain ⟨w1, h1, h2, h3⟩ := h.del_none ccKeyed Tryd.underlying106 hkl hn ty
    exact ⟨w1, h1, by rw [hdel]; exact h2, h3⟩
/-- the six, by number -/
def sxA : Nat → Int
  | 0 => 1 | 1 => 0 | 2 => -1 | 3 => -1 | 4 => 0 | _ => 1
def sxB : Nat → Int
  | 0 => 0 | 1 => 1 | 2 => 1 | 3 => 0 | 4 => -1 | _ => -1
theorem sx_bd (k : Nat) : -1 ≤ sxA k ∧ sxA k ≤ 1 ∧ -1 ≤ sxB k ∧ sxB k ≤ 1 := by
  unfold sxA sxB
  split <;> simp
theorem sx_index (k : Nat) (hk : k < 6) : ∀ (w : World), (Instr.index 69 (.agg #[.int .i64 1, .int .i64 0, .int .i64 0, .int .i64 1, .int .i64 (-1), .int .i64 1, .int .i64 (-1), .int .i64 0, .int .i64 0, .int .i64 (-1), .int .i64 1, .int .i64 (-1)]) (.int .i64 k)).run Tryd.prog w = .ok (.agg #[.int .i64 (sxA k), .int .i64 (sxB k)]) w := by
  have : k = 0 ∨ k = 1 ∨ k = 2 ∨ k = 3 ∨ k = 4 ∨ k = 5 := by omega
  rcases this with rfl | rfl | rfl | rfl | rfl | rfl <;> exact fun w => by kernel_rfl
end Go.Proofs.YtaeenefdbahfoaaDoor
namespace Go.Proofs.YtaeenefdbahfoaaDoor
set_option linter.unusedSimpArgs false
set_option linter.unusedVariables false
open Go.RowKit Go.Proofs.YtaeenefdbahfoaaDoorW.PrintWords Go.Proofs.YtaeenefdbahfoaaDoorW.PrintLast Go.Proofs.YtaeenefdbahfoaaDoorW.PrintMore
open H
theorem box3 (w : World) (x y z : Value) (t : Nat) : ∃ w1, w1 = w.alloc (.cells #[x, y, z] t) ∧ w1.cell? ⟨w.heap.size, 0, none⟩ = some x ∧ w1.cell? ⟨w.heap.size, 1, none⟩ = some y ∧ w1.cell? ⟨w.heap.size, 2, none⟩ = some z ∧ w.heap.size < w1.heap.size ∧ Below w.heap.size w w1 :=
  ⟨_, rfl, by simp, by simp, by simp, by simp, below_alloc (Below.refl _ _) _⟩
theorem six_index (k : Nat) (hk : k < 6) : ∃ x y : Int, -1 ≤ x ∧ x ≤ 1 ∧ -1 ≤ y ∧ y ≤ 1 ∧ sixI[2 * k]? = some x ∧ sixI[2 * k + 1]? = some y ∧ ∀ w : World, (Instr.index 69 (.agg #[.int .i64 1, .int .i64 0, .int .i64 0, .int .i64 1, .int .i64 (-1), .int .i64 1, .int .i64 (-1), .int .i64 0, .int .i64 0, .int .i64 (-1), .int .i64 1, .int .i64 (-1)]) (.int .i64 k)).run Tryd.prog w = .ok (.agg #[.int .i64 x, .int .i64 y]) w := by
  have : k = 0 ∨ k = 1 ∨ k = 2 ∨ k = 3 ∨ k = 4 ∨ k = 5 := by omega
  rcases this with rfl | rfl | rfl | rfl | rfl | rfl
  · exact ⟨1, 0, by decide, by decide, by decide, by decide, rfl, rfl, fun w => by kernel_rfl⟩
  · exact ⟨0, 1, by decide, by decide, by decide, by decide, rfl, rfl, fun w => by kernel_rfl⟩
  · exact ⟨-1, 1, by decide, by decide, by decide, by decide, rfl, rfl, fun w => by kernel_rfl⟩
  · exact ⟨-1, 0, by decide, by decide, by decide, by decide, rfl, rfl, fun w => by kernel_rfl⟩
  · exact ⟨0, -1, by decide, by decide, by decide, by decide, rfl, rfl, fun w => by kernel_rfl⟩
  · exact ⟨1, -1, by decide, by decide, by decide, by decide, rfl, rfl, fun w => by kernel_rfl⟩
def sixP : List (Int × Int) := [(1, 0), (0, 1), (-1, 1), (-1, 0), (0, -1), (1, -1)]
def hexL (a b : Int) (k : Nat) : List S65 := (sixP.take k).map fun p => ⟨⟨a + p.1, b + p.2⟩, 0⟩
theorem hexL_succ {a b : Int} (k : Nat) (hk : k < 6) {x y : Int} (hx : sixI[2 * k]? = some x) (hy : sixI[2 * k + 1]? = some y) : hexL a b (k + 1) = hexL a b k ++ [⟨⟨a + x, b + y⟩, 0⟩] := by
  have : k = 0 ∨ k = 1 ∨ k = 2 ∨ k = 3 ∨ k = 4 ∨ k = 5 := by omega
  rcases this with rfl | rfl | rfl | rfl | rfl | rfl <;> (simp [sixI] at hx hy; subst hx; subst hy; simp [hexL, sixP])
set_option maxHeartbeats 1000000 in
theorem near_hex (a b h : Int) (w : World) (hG : Six w) (ha : -4398046511104 ≤ a) (ha' : a ≤ 4398046511104) (hb : -4398046511104 ≤ b) (hb' : b ≤ 4398046511104) :
    Calls Tryd.prog 106 #[.int .i64 1, .agg #[.int .i64 a, .int .i64 b, .int .i64 h]] w fun e w' => ∃ v : Value, e = .returned v ∧ Kd.R k65 65 w' w.heap.size (fun _ => True) v (hexL a b 6) ∧ Below w.heap.size w w' := by
  go_enter Tryd.func106, Tryd.ntmps106
  go_wp2_with fail
  obtain ⟨w1, hw1, c0, c1, c2, hsz, hB1⟩ := box3 w (.int .i64 a) (.int .i64 b) (.int .i64 h) 65
  rw [← hw1]
  have hG1 := hG.below hB1
  clear hw1
  refine (six_any w1 hG1).mono ?_
  rintro e w2 ⟨rfl, hb2⟩
  have HB1 := Aside0.mk hB1
  have HB2 := Aside0.mk hb2
  clear hB1 hb2
  unfold sixVal
  go_wp2
  go_loopw [5, 27] (fun v i wr => ∃ k : Nat, k ≤ 6 ∧ i = .int .i64 k ∧ Kd.R k65 65 wr w1.heap.size (fun _ => True) v (hexL a b k) ∧ Below w1.heap.size w1 wr) (fun _ i _ => 6 - (intOf i).toNat)
  case atStart => exact ⟨0, by omega, rfl, Kd.R_nil _ _ _ _ _, HB2.out⟩
  case round =>
    obtain ⟨k, hk, rfl, hO, hB⟩ := hrel
    have d0 := (hB.cell (p := ⟨w.heap.size, 0, none⟩) hsz).trans c0
    have d1 := (hB.cell (p := ⟨w.heap.size, 1, none⟩) hsz).trans c1
    have hzr : w.heap.size < wr.heap.size := Nat.lt_of_lt_of_le hsz hB.size
    have HO := Aside0.mk hO
    have HB := Aside0.mk hB
    clear hO hB c0 c1 c2 HB2
    by_cases hlt : k < 6
    · obtain ⟨x, y, x1, x2, y1, y2, ex, ey, hix⟩ := six_index k hlt
      have EX := Aside0.mk ex
      have EY := Aside0.mk ey
      clear ex ey
      have hz1 := HB.out.size
      have hl : (hexL a b k).length ≤ 6 := by simp [hexL, sixP]; omega
      go_wp2_with (at_builtin; refine app1 k65 w1.heap.size (.tmp 30) (.tmp 45) 34 65 (.agg #[.int .i64 0, .int .i64 0, .int .i64 0]) 24 _ (hexL a b k) ⟨⟨a + x, b + y⟩, 0⟩ [.int .i64 (a + x), .int .i64 (b + y), .int .i64 0] _ rfl rfl Tryd.underlying34 info65 rfl (by decide) (by decide) rfl (by simp; done) rfl (k65_mkM _ _ _ _) (Kd.R_alloc HO.out _) (below_alloc2 HB.out (by omega) _) (by simp; omega) (by omega) ?_; intro v1 w3 ho3 hb3; have HO3 := Aside0.mk ho3; have HB3 := Aside0.mk hb3; clear ho3 hb3)
      go_roundw
      case rel => exact ⟨k + 1, by omega, by go_num, by rw [hexL_succ k hlt EX.out EY.out]; exact HO3.out, HB3.out⟩
      case measure => simp [intOf]; omega
    · obtain rfl : k = 6 := by omega
      go_wp2
      go_ret
      exact ⟨_, rfl, Kd.R_lower HO.out (by omega), (HB1.out.trans (HB.out.mono (by omega)))⟩
def edgeP (d : Int) : List (Int × Int) := [(0, 0), (d, 0), (0, d)]
def edgeL (a b h : Int) (k : Nat) : List S65 := ((edgeP (2 * h - 1)).take k).map fun p => ⟨⟨a + p.1, b + p.2⟩, 1 - h⟩
set_option maxHeartbeats 1000000 in
theorem near_edge (a b h : Int) (w : World) (ha : -4398046511104 ≤ a) (ha' : a ≤ 4398046511104) (hb : -4398046511104 ≤ b) (hb' : b ≤ 4398046511104) (hh0 : 0 ≤ h) (hh1 : h ≤ 1) :
    Calls Tryd.prog 106 #[.int .i64 2, .agg #[.int .i64 a, .int .i64 b, .int .i64 h]] w fun e w' => ∃ v : Value, e = .returned v ∧ Kd.R k65 65 w' w.heap.size (fun _ => True) v (edgeL a b h 3) ∧ Below w.heap.size w w' := by
  go_enter Tryd.func106, Tryd.ntmps106
  go_wp2_with fail
  obtain ⟨w2, hw2, hc, he, hsz, hB2⟩ := two_new w #[.int .i64 a, .int .i64 b, .int .i64 h] #[.int .i64 0, .int .i64 0, .int .i64 (2 * h - 1), .int .i64 0, .int .i64 0, .int .i64 (2 * h - 1)] 65 63
  rw [← hw2]
  clear hw2
  have HB2 := Aside0.mk hB2
  clear hB2
  go_loopw [5, 61] (fun v i wr => ∃ k : Nat, k ≤ 3 ∧ i = .int .i64 k ∧ Kd.R k65 65 wr w2.heap.size (fun _ => True) v (edgeL a b h k) ∧ Below w2.heap.size w2 wr) (fun _ i _ => 3 - (intOf i).toNat)
  case atStart => exact ⟨0, by omega, rfl, Kd.R_nil _ _ _ _ _, Below.refl _ _⟩
  case round =>
    obtain ⟨k, hk, rfl, hO, hB⟩ := hrel
    have d0 := (hB.cell (p := ⟨w.heap.size, 0, none⟩) (by show w.heap.size < _; omega)).trans (hc 0 _ rfl)
    have d1 := (hB.cell (p := ⟨w.heap.size, 1, none⟩) (by show w.heap.size < _; omega)).trans (hc 1 _ rfl)
    have d2 := (hB.cell (p := ⟨w.heap.size, 2, none⟩) (by show w.heap.size < _; omega)).trans (hc 2 _ rfl)
    have hE : ∀ j v, (#[.int .i64 0, .int .i64 0, .int .i64 (2 * h - 1), .int .i64 0, .int .i64 0, .int .i64 (2 * h - 1)] : Array Value)[j]? = some v → wr.cell? ⟨w.heap.size + 1, j, none⟩ = some v := fun j v hv => (hB.cell (p := ⟨w.heap.size + 1, j, none⟩) (by show w.heap.size + 1 < _; omega)).trans (he j v hv)
    have hzr : w.heap.size + 1 < wr.heap.size := Nat.lt_of_lt_of_le hsz hB.size
    have hzr0 : w.heap.size < wr.heap.size := by omega
    have hz1 := hB.size
    have HO := Aside0.mk hO
    have HB := Aside0.mk hB
    clear hO hB hc he
    by_cases hlt : k < 3
    · have hk3 : k = 0 ∨ k = 1 ∨ k = 2 := by omega
      rcases hk3 with rfl | rfl | rfl
      · have f0 := hE 0 _ rfl
        have f1 := hE 1 _ rfl
        clear hE
        go_wp2_with (at_builtin; refine app1 k65 w2.heap.size (.tmp 65) (.tmp 83) 34 65 (.agg #[.int .i64 0, .int .i64 0, .int .i64 0]) 24 _ (edgeL a b h 0) ⟨⟨a, b⟩, 1 - h⟩ [.int .i64 a, .int .i64 b, .int .i64 (1 - h)] _ rfl rfl Tryd.underlying34 info65 rfl (by decide) (by decide) rfl (by simp; done) rfl (k65_mkM _ _ _ _) (Kd.R_alloc HO.out _) (below_alloc2 HB.out (by omega) _) (by simp; omega) (by simp [edgeL]) ?_; intro v1 w3 ho3 hb3; have HO3 := Aside0.mk ho3; have HB3 := Aside0.mk hb3; clear ho3 hb3)
        go_roundw
        case rel => exact ⟨1, by omega, rfl, by have := HO3.out; simpa [edgeL, edgeP] using this, HB3.out⟩
        case measure => simp [intOf]
      · have f0 := hE 2 _ rfl
        have f1 := hE 3 _ rfl
        clear hE
        go_wp2_with (at_builtin; refine app1 k65 w2.heap.size (.tmp 65) (.tmp 83) 34 65 (.agg #[.int .i64 0, .int .i64 0, .int .i64 0]) 24 _ (edgeL a b h 1) ⟨⟨a + (2 * h - 1), b⟩, 1 - h⟩ [.int .i64 (a + (2 * h - 1)), .int .i64 b, .int .i64 (1 - h)] _ rfl rfl Tryd.underlying34 info65 rfl (by decide) (by decide) rfl (by simp; done) rfl (k65_mkM _ _ _ _) (Kd.R_alloc HO.out _) (below_alloc2 HB.out (by omega) _) (by simp; omega) (by simp [edgeL, edgeP]) ?_; intro v1 w3 ho3 hb3; have HO3 := Aside0.mk ho3; have HB3 := Aside0.mk hb3; clear ho3 hb3)
        go_roundw
        case rel => exact ⟨2, by omega, rfl, by have := HO3.out; simpa [edgeL, edgeP] using this, HB3.out⟩
        case measure => simp [intOf]
      · have f0 := hE 4 _ rfl
        have f1 := hE 5 _ rfl
        clear hE
        go_wp2_with (at_builtin; refine app1 k65 w2.heap.size (.tmp 65) (.tmp 83) 34 65 (.agg #[.int .i64 0, .int .i64 0, .int .i64 0]) 24 _ (edgeL a b h 2) ⟨⟨a, b + (2 * h - 1)⟩, 1 - h⟩ [.int .i64 a, .int .i64 (b + (2 * h - 1)), .int .i64 (1 - h)] _ rfl rfl Tryd.underlying34 info65 rfl (by decide) (by decide) rfl (by simp; done) rfl (k65_mkM _ _ _ _) (Kd.R_alloc HO.out _) (below_alloc2 HB.out (by omega) _) (by simp; omega) (by simp [edgeL, edgeP]) ?_; intro v1 w3 ho3 hb3; have HO3 := Aside0.mk ho3; have HB3 := Aside0.mk hb3; clear ho3 hb3)
        go_roundw
        case rel => exact ⟨3, by omega, rfl, by have := HO3.out; simpa [edgeL, edgeP] using this, HB3.out⟩
        case measure => simp [intOf]
    · obtain rfl : k = 3 := by omega
      go_wp2
      go_ret
      exact ⟨_, rfl, Kd.R_lower HO.out (by omega), (HB2.out.trans (HB.out.mono (by omega)))⟩
def cornP (a b h : Int) : List (Int × Int) := if h = 0 then [(a, b), (a + 1, b), (a, b + 1)] else [(a + 1, b), (a, b + 1), (a + 1, b + 1)]
def aroundL (a b : Int) : List S65 := [⟨⟨a, b⟩, 0⟩, ⟨⟨a - 1, b⟩, 1⟩, ⟨⟨a - 1, b⟩, 0⟩, ⟨⟨a, b - 1⟩, 1⟩, ⟨⟨a, b - 1⟩, 0⟩, ⟨⟨a - 1, b - 1⟩, 1⟩]
def vertL (a b h : Int) (k : Nat) : List S65 := ((cornP a b h).take k).flatMap fun p => aroundL p.1 p.2
theorem around_f (a b : Int) (ha : -5498046511104 ≤ a) (ha' : a ≤ 5498046511104) (hb : -5498046511104 ≤ b) (hb' : b ≤ 5498046511104) : cell_around.f 4 a b = some (aroundL a b) := by
  have w1 : wrap64 a = a := by unfold wrap64; omega
  have w2 : wrap64 b = b := by unfold wrap64; omega
  have w3 : wrap64 (a + -1) = a - 1 := by unfold wrap64; omega
  have w4 : wrap64 (b + -1) = b - 1 := by unfold wrap64; omega
  have e0 : wrap64 1 = 1 := by unfold wrap64; omega
  have e1 : wrap64 2 = 2 := by unfold wrap64; omega
  have e2 : wrap64 3 = 3 := by unfold wrap64; omega
  simp [cell_around.f, cell_around.l0, rd_T63, aroundL, w1, w2, w3, w4, e0, e1, e2]
theorem around_any (a b : Int) (w : World) (ha : -5498046511104 ≤ a) (ha' : a ≤ 5498046511104) (hb : -5498046511104 ≤ b) (hb' : b ≤ 5498046511104) :
    Calls Tryd.prog 125 #[.agg #[.int .i64 a, .int .i64 b]] w fun e w' => ∃ v0_ : Value, e = .returned (v0_) ∧ Kd.R k65 65 w' w.heap.size (fun _ => True) v0_ (aroundL a b) ∧ Below w.heap.size w w' :=
  cell_around.calls 4 a b _ w (around_f a b ha ha' hb hb')
def cornersV (a b h : Int) : Value := if h = 0 then .agg #[.int .i64 a, .int .i64 b, .int .i64 (a + 1), .int .i64 b, .int .i64 a, .int .i64 (b + 1)] else .agg #[.int .i64 (a + 1), .int .i64 b, .int .i64 a, .int .i64 (b + 1), .int .i64 (a + 1), .int .i64 (b + 1)]
theorem corners_any (a b h : Int) (w : World) (ha : -4398046511104 ≤ a) (ha' : a ≤ 4398046511104) (hb : -4398046511104 ≤ b) (hb' : b ≤ 4398046511104) :
    Calls Tryd.prog 124 #[.agg #[.int .i64 a, .int .i64 b, .int .i64 h]] w fun e w' => e = .returned (cornersV a b h) ∧ Below w.heap.size w w' := by
  by_cases hh : h = 0
  all_goals
    go_enter Tryd.func124, Tryd.ntmps124
    go_wp2
    go_quiet (fail)
    go_wp2
  · exact bodyPost_ret (v := .agg #[.int .i64 a, .int .i64 b, .int .i64 (a + 1), .int .i64 b, .int .i64 a, .int .i64 (b + 1)]) (by simp [results, Tryd.results124, go_sem]) rfl ⟨by rw [cornersV, if_pos hh], (by with_reducible repeat (first | apply below_alloc | apply pw_below_drewN | apply below_drew | refine bset ?_ _ _ (by omega) _ | exact Below.refl _ _))⟩
  · exact bodyPost_ret (v := .agg #[.int .i64 (a + 1), .int .i64 b, .int .i64 a, .int .i64 (b + 1), .int .i64 (a + 1), .int .i64 (b + 1)]) (by simp [results, Tryd.results124, go_sem]) rfl ⟨by rw [cornersV, if_neg hh], (by with_reducible repeat (first | apply below_alloc | apply pw_below_drewN | apply below_drew | refine bset ?_ _ _ (by omega) _ | exact Below.refl _ _))⟩
theorem corn_index (a b h : Int) (k : Nat) (hk : k < 3) : ∃ x y : Int, (cornP a b h)[k]? = some (x, y) ∧ a ≤ x ∧ x ≤ a + 1 ∧ b ≤ y ∧ y ≤ b + 1 ∧ ∀ w : World, (Instr.index 201 (cornersV a b h) (.int .i64 k)).run Tryd.prog w = .ok (.agg #[.int .i64 x, .int .i64 y]) w := by
  have hk3 : k = 0 ∨ k = 1 ∨ k = 2 := by omega
  unfold cornP cornersV
  by_cases hh : h = 0
  · simp only [hh, ↓reduceIte]
    rcases hk3 with rfl | rfl | rfl
    · exact ⟨a, b, rfl, by omega, by omega, by omega, by omega, fun w => by kernel_rfl⟩
    · exact ⟨a + 1, b, rfl, by omega, by omega, by omega, by omega, fun w => by kernel_rfl⟩
    · exact ⟨a, b + 1, rfl, by omega, by omega, by omega, by omega, fun w => by kernel_rfl⟩
  · simp only [hh, ↓reduceIte]
    rcases hk3 with rfl | rfl | rfl
    · exact ⟨a + 1, b, rfl, by omega, by omega, by omega, by omega, fun w => by kernel_rfl⟩
    · exact ⟨a, b + 1, rfl, by omega, by omega, by omega, by omega, fun w => by kernel_rfl⟩
    · exact ⟨a + 1, b + 1, rfl, by omega, by omega, by omega, by omega, fun w => by kernel_rfl⟩
theorem vertL_succ {a b h : Int} (k : Nat) {x y : Int} (hx : (cornP a b h)[k]? = some (x, y)) : vertL a b h (k + 1) = vertL a b h k ++ aroundL x y := by
  unfold vertL
  rw [List.take_add_one, hx]
  simp
theorem vertL_len (a b h : Int) (k : Nat) : (vertL a b h k).length ≤ 18 := by
  have h3 : (cornP a b h).length = 3 := by unfold cornP; split <;> rfl
  have : ∀ l : List (Int × Int), (l.flatMap fun p => aroundL p.1 p.2).length = 6 * l.length := by
    intro l
    induction l with
    | nil => rfl
    | cons p l ih => rw [List.flatMap_cons, List.length_append, ih, List.length_cons]; simp [aroundL]; omega
  unfold vertL
  rw [this, List.length_take]
  omega
set_option maxRecDepth 100000 in
set_option maxHeartbeats 1000000 in
theorem near_vert (l a b h : Int) (w : World) (hl1 : ¬ l = 1) (hl2 : ¬ l = 2) (ha : -4398046511104 ≤ a) (ha' : a ≤ 4398046511104) (hb : -4398046511104 ≤ b) (hb' : b ≤ 4398046511104) :
    Calls Tryd.prog 106 #[.int .i64 l, .agg #[.int .i64 a, .int .i64 b, .int .i64 h]] w fun e w' => ∃ v : Value, e = .returned v ∧ Kd.R k65 65 w' w.heap.size (fun _ => True) v (vertL a b h 3) ∧ Below w.heap.size w w' := by
  go_enter Tryd.func106, Tryd.ntmps106
  go_wp2_with fail
  obtain ⟨w1, hw1, hc, hsz, hB1⟩ := one_new w #[.int .i64 a, .int .i64 b, .int .i64 h] 65
  rw [← hw1]
  clear hw1
  have HB1 := Aside0.mk hB1
  clear hB1
  refine (corners_any a b h w1 ha ha' hb hb').mono ?_
  rintro e w2 ⟨rfl, hb2⟩
  have HB2 := Aside0.mk hb2
  clear hb2 hc
  have HIX := Aside0.mk (corn_index a b h)
  generalize cornersV a b h = cv at HIX ⊢
  go_wp2
  go_loopw [5, 16] (fun v i wr => ∃ k : Nat, k ≤ 3 ∧ i = .int .i64 k ∧ Kd.R k65 65 wr w1.heap.size (fun _ => True) v (vertL a b h k) ∧ Below w1.heap.size w1 wr) (fun _ i _ => 3 - (intOf i).toNat)
  case atStart => exact ⟨0, by omega, rfl, Kd.R_nil _ _ _ _ _, HB2.out⟩
  case round =>
    obtain ⟨k, hk, rfl, hO, hB⟩ := hrel
    have HO := Aside0.mk hO
    have HB := Aside0.mk hB
    clear hO hB HB2
    by_cases hlt : k < 3
    · obtain ⟨x, y, ex, x1, x2, y1, y2, hix⟩ := HIX.out k hlt
      have EX := Aside0.mk ex
      clear ex HIX
      have hz1 := HB.out.size
      have hl := vertL_len a b h k
      have hla : (aroundL x y).length = 6 := rfl
      go_wp2_with (first
        | (go_at_call 125; refine (around_any x y _ (by omega) (by omega) (by omega) (by omega)).mono ?_; rintro e w3 ⟨v3, rfl, ho3, hb3⟩; obtain ⟨A3, c3, rfl, hl3, hc3⟩ := Kd.R_reads ho3; have HC3 := Aside0.mk hc3; have HB3 := Aside0.mk hb3; clear ho3 hc3 hb3 hix)
        | (at_builtin; refine appN k65 w1.heap.size (.tmp 19) (.tmp 21) 34 65 (.agg #[.int .i64 0, .int .i64 0, .int .i64 0]) 24 _ (vertL a b h k) (aroundL x y) A3 c3 rfl rfl Tryd.underlying34 info65 rfl (by decide) (by decide) rfl rfl (fun x cs h => by obtain rfl := k65_open h; exact k65_mkM _ _ _ _) (Kd.R_below (Kd.R_alloc HO.out _) HB3.out) HC3.out ((below_alloc2 HB.out (by omega) _).trans (HB3.out.mono (by simp; omega))) (Nat.le_trans (by simp; omega) HB3.out.size) (by omega) ?_; intro v1 w4 ho4 hb4; have HO4 := Aside0.mk ho4; have HB4 := Aside0.mk hb4; clear ho4 hb4))
      go_roundw
      case rel => exact ⟨k + 1, by omega, by go_num, by rw [vertL_succ k EX.out]; exact HO4.out, HB4.out⟩
      case measure => simp [intOf]; omega
    · obtain rfl : k = 3 := by omega
      go_wp2
      go_ret
      exact ⟨_, rfl, Kd.R_lower HO.out (by omega), (HB1.out.trans (HB.out.mono (by omega)))⟩
end Go.Proofs.YtaeenefdbahfoaaDoor
namespace Go.Proofs
set_option linter.unusedSimpArgs false
set_option linter.unusedVariables false
open Go.Shelf
def Tryd.sortCell_ren : Go.Shelf.Ren := ⟨fun | 6 => 74 | 15 => 99 | 14 => 98 | 28 => 119 | 29 => 120 | 20 => 111 | 21 => 112 | 22 => 113 | 23 => 114 | 24 => 115 | 25 => 116 | 26 => 117 | 27 => 118 | 46 => 129 | 47 => 130 | 48 => 131 | 49 => 132 | 50 => 133 | 57 => 134 | n => n, fun | 22 => 34 | 24 => 65 | 25 => 125 | 3 => 3 | 39 => 158 | 0 => 0 | 53 => 186 | 55 => 22 | 4 => 4 | 46 => 180 | 45 => 179 | 50 => 93 | 5 => 5 | 9 => 9 | 66 => 204 | 70 => 208 | 76 => 210 | 77 => 91 | n => n, fun | n => n⟩
theorem Tryd.sortCell : Go.Proofs.SlLaysF0.n6 Tryd.prog Tryd.sortCell_ren := {
  mixed := by kernel_rfl
  f6 := ⟨Tryd.f74.name, by decide, Tryd.func74.trans (congrArg some (by kernel_rfl))⟩
  f14 := ⟨Tryd.f98.name, by decide, Tryd.func98.trans (congrArg some (by kernel_rfl))⟩
  f15 := Tryd.func99.trans (congrArg some (by kernel_rfl))
  f20 := ⟨Tryd.f111.name, by decide, Tryd.func111.trans (congrArg some (by kernel_rfl))⟩
  f21 := ⟨Tryd.f112.name, by decide, Tryd.func112.trans (congrArg some (by kernel_rfl))⟩
  f22 := ⟨Tryd.f113.name, by decide, Tryd.func113.trans (congrArg some (by kernel_rfl))⟩
  f23 := ⟨Tryd.f114.name, by decide, Tryd.func114.trans (congrArg some (by kernel_rfl))⟩
  f24 := ⟨Tryd.f115.name, by decide, Tryd.func115.trans (congrArg some (by kernel_rfl))⟩
  f25 := ⟨Tryd.f116.name, by decide, Tryd.func116.trans (congrArg some (by kernel_rfl))⟩
  f26 := ⟨Tryd.f117.name, by decide, Tryd.func117.trans (congrArg some (by kernel_rfl))⟩
  f27 := ⟨Tryd.f118.name, by decide, Tryd.func118.trans (congrArg some (by kernel_rfl))⟩
  f28 := Tryd.func119.trans (congrArg some (by kernel_rfl))
  f29 := Tryd.func120.trans (congrArg some (by kernel_rfl))
  f46 := ⟨Tryd.f129.name, by decide, Tryd.func129.trans (congrArg some (by kernel_rfl))⟩
  f47 := Tryd.func130.trans (congrArg some (by kernel_rfl))
  f48 := Tryd.func131.trans (congrArg some (by kernel_rfl))
  f49 := ⟨Tryd.f132.name, by decide, Tryd.func132.trans (congrArg some (by kernel_rfl))⟩
  f50 := ⟨Tryd.f133.name, by decide, Tryd.func133.trans (congrArg some (by kernel_rfl))⟩
  f57 := ⟨Tryd.f134.name, by decide, Tryd.func134.trans (congrArg some (by kernel_rfl))⟩
  t0 := Tryd.underlying0
  a0 := Tryd.isAgg0
  z0 := Tryd.sizeOf0
  v0 := Tryd.zeroValue0
  t3 := Tryd.underlying3
  a3 := Tryd.isAgg3
  z3 := Tryd.sizeOf3
  v3 := Tryd.zeroValue3
  t4 := Tryd.underlying4
  a4 := Tryd.isAgg4
  z4 := Tryd.sizeOf4
  v4 := Tryd.zeroValue4
  t5 := Tryd.underlying5
  a5 := Tryd.isAgg5
  z5 := Tryd.sizeOf5
  v5 := Tryd.zeroValue5
  t9 := Tryd.underlying9
  a9 := Tryd.isAgg9
  z9 := Tryd.sizeOf9
  v9 := Tryd.zeroValue9
  t22 := Tryd.underlying34
  a22 := Tryd.isAgg34
  z22 := Tryd.sizeOf34
  v22 := Tryd.zeroValue34
  t25 := Tryd.underlying125
  a25 := Tryd.isAgg125
  z25 := Tryd.sizeOf125
  v25 := Tryd.zeroValue125
  t39 := Tryd.underlying158
  a39 := Tryd.isAgg158
  z39 := Tryd.sizeOf158
  v39 := Tryd.zeroValue158
  t45 := Tryd.underlying179
  a45 := Tryd.isAgg179
  z45 := Tryd.sizeOf179
  v45 := Tryd.zeroValue179
  t46 := Tryd.underlying180
  a46 := Tryd.isAgg180
  z46 := Tryd.sizeOf180
  v46 := Tryd.zeroValue180
  t50 := Tryd.underlying93
  a50 := Tryd.isAgg93
  z50 := Tryd.sizeOf93
  v50 := Tryd.zeroValue93
  t53 := Tryd.underlying186
  a53 := Tryd.isAgg186
  z53 := Tryd.sizeOf186
  v53 := Tryd.zeroValue186
  t55 := Tryd.underlying22
  a55 := Tryd.isAgg22
  z55 := Tryd.sizeOf22
  v55 := Tryd.zeroValue22
  t66 := Tryd.underlying204
  a66 := Tryd.isAgg204
  z66 := Tryd.sizeOf204
  v66 := Tryd.zeroValue204
  t70 := Tryd.underlying208
  a70 := Tryd.isAgg208
  z70 := Tryd.sizeOf208
  v70 := Tryd.zeroValue208
  t76 := Tryd.underlying210
  a76 := Tryd.isAgg210
  z76 := Tryd.sizeOf210
  v76 := Tryd.zeroValue210
  t77 := Tryd.underlying91
  a77 := Tryd.isAgg91
  z77 := Tryd.sizeOf91
  v77 := Tryd.zeroValue91 }
end Go.Proofs
namespace Go.Proofs.YtaeenefdbahfoaaDoor
set_option linter.unusedSimpArgs false
set_option linter.unusedVariables false
open Go.RowKit Go.Proofs.YtaeenefdbahfoaaDoorW.PrintWords Go.Proofs.YtaeenefdbahfoaaDoorW.PrintLast Go.Proofs.YtaeenefdbahfoaaDoorW.PrintMore
open H
open Go.Shelf Go.RowKit Go.Lib Go.Sort
theorem sort_any (w : World) (g cap : Nat) (xs : List S65) (h : Row3 w g cap xs.toArray) (hsz : xs.length < 4611686018427387904) :
    Calls Tryd.prog 74 #[.slice (some ⟨g, 0, none⟩) xs.length cap, .func (.func 75) #[] #[]] w fun e w' => e = .returned (.tuple #[]) ∧ Row3 w' g cap (sortCells xs).toArray ∧ w.grownBy w' (some g) := by
  have eg : ∀ args w, (callFunc 75 args).run Tryd.prog w = .ok (.enter 75 args) w := enters_of Tryd.func75 (by kernel_rfl) rfl
  have hcmp : CmpLays Tryd.prog 75 #[] encCell 3 cmpCell g 0 xs.toArray.size w := fun _ _ _ _ x y => compare_any x y _
  have hcon := AnyQ.slices_SortFunc_total Tryd.sortCell 3 Tryd.isAgg65 Tryd.sizeOf65 encCell (fun _ => rfl) (fun x v hv => by simp [encCell] at hv; rcases hv with rfl | rfl | rfl <;> rfl) cmpCell swo_cell 75 #[] g 0 cap xs.toArray w eg hcmp (holds_row h) h.lt (by simpa using hsz) tot_cell
  refine Calls.mono hcon ?_
  rintro e w' ⟨rfl, n, os, rfl⟩
  exact ⟨rfl, row_sorted h (by simp [List.length_mergeSort])⟩
theorem sort_none (w : World) (v : Value) : Calls Tryd.prog 74 #[.slice none 0 0, v] w fun e w' => e = .returned (.tuple #[]) ∧ w' = w :=
  AnyF.slices_SortFunc_none Tryd.sortCell none 0 v w
theorem grownBy_refl (w : World) (g : Nat) : w.grownBy w (some g) := ⟨rfl, rfl, rfl, Nat.le_refl _, fun _ _ _ => rfl⟩
theorem grownBy_set {w W : World} {g : Nat} (h : w.grownBy W (some g)) (o : Nat) (v : Value) : w.grownBy (W.setCell ⟨g, o, none⟩ v) (some g) :=
  ⟨h.os, h.tape, h.output, by simpa using h.size, fun k hk hne => (Below.heap_setCell W ⟨g, o, none⟩ v k (fun e => hne (by rw [e]))).trans (h.block k hk hne)⟩
theorem grownBy_drewN {w W : World} {g : Nat} (h : w.grownBy W (some g)) (n : Nat) : w.grownBy (W.drewN n) (some g) := ⟨h.os, h.tape, h.output, h.size, h.block⟩
theorem grownBy_sets {w : World} {g : Nat} : ∀ (vs : List Value) (o : Nat) (W : World), w.grownBy W (some g) → w.grownBy (W.setCells g o vs) (some g)
  | [], _, _, h => h
  | v :: r, o, _, h => grownBy_sets r (o + 1) _ (grownBy_set h o v)
section
variable {w : World} {g cap : Nat} {d : Array S65}
theorem Row3.set_out (h : Row3 w g cap d) (o : Nat) (ho : d.size * 3 ≤ o) (v : Value) : Row3 (w.setCell ⟨g, o, none⟩ v) g cap d := by
  obtain ⟨cur, hb, hs, hc⟩ := h.blk
  refine ⟨h.le, h.max, _, blk_set hb _ _, by simp [hs], fun j hj => ?_⟩
  obtain ⟨c0, c1, c2⟩ := hc j hj
  refine ⟨?_, ?_, ?_⟩ <;> (rw [Array.getElem?_setIfInBounds, if_neg (by omega)]; assumption)
theorem Row3.sets_out : ∀ (vs : List Value) (o : Nat) (w : World), Row3 w g cap d → d.size * 3 ≤ o → Row3 (w.setCells g o vs) g cap d
  | [], _, _, h, _ => h
  | v :: r, o, _, h, ho => Row3.sets_out r (o + 1) _ (h.set_out o ho v) (by omega)
theorem Row3.pre (h : Row3 w g cap d) (d' : Array S65) (hs : d'.size ≤ d.size) (hd : ∀ j, j < d'.size → d'[j]! = d[j]!) : Row3 w g cap d' := by
  obtain ⟨cur, hb, hcs, hc⟩ := h.blk
  exact ⟨Nat.le_trans hs h.le, h.max, cur, hb, hcs, fun j hj => by rw [hd j hj]; exact hc j (by omega)⟩
theorem Row3.drew (h : Row3 w g cap d) : Row3 w.drew g cap d := ⟨h.le, h.max, h.blk⟩
theorem Row3.drewN (h : Row3 w g cap d) (n : Nat) : Row3 (w.drewN n) g cap d := ⟨h.le, h.max, h.blk⟩
end
theorem clear_cells (w : World) (g cap : Nat) (d : Array S65) (h : Row3 w g cap d) (k : Nat) (hk : k < d.size) (ty : TypeId) (c : Nat) :
    (Builtin.clear_ #[34] ty #[.slice (some ⟨g, k * 3, none⟩) (d.size - k) c]).run Tryd.prog w = .ok (.tuple #[]) (w.setCells g (k * 3) (List.replicate ((d.size - k) * 3) (.int .i64 0))) := by
  have hle := h.le
  have hz : (Builtin.zeroCells #[Value.int .i64 0, .int .i64 0, .int .i64 0] (d.size - k)).toList = List.replicate ((d.size - k) * 3) (.int .i64 0) := by
    simp only [Builtin.zeroCells, Array.toList_map, Array.toList_range, List.size_toArray]
    apply List.ext_getElem
    · simp
    · intro i h1 h2
      have : i % 3 = 0 ∨ i % 3 = 1 ∨ i % 3 = 2 := by omega
      rcases this with e | e | e <;> simp [e]
  have hcell : ∀ j, j < d.size * 3 → (w.cell? ⟨g, j, none⟩).isSome = true := fun j hj => by
    obtain ⟨c0, c1, c2⟩ := h.cell (j / 3) (by omega)
    have : j = j / 3 * 3 ∨ j = j / 3 * 3 + 1 ∨ j = j / 3 * 3 + 2 := by omega
    rcases this with e | e | e <;> (rw [e]; simp [c0, c1, c2])
  have hst := run_storeCells_cells (P := Tryd.prog) g (k * 3) (List.replicate ((d.size - k) * 3) (.int .i64 0)) 0 w (fun j hj => hcell _ (by simp at hj; omega)) (fun j hj => h.frozen _) (by intro v hv; rw [List.eq_of_mem_replicate hv]; rfl)
  simp only [Nat.add_zero] at hst
  obtain ⟨m, hm⟩ : ∃ m, d.size - k = m + 1 := ⟨d.size - k - 1, by omega⟩
  rw [hm] at hz hst ⊢
  have hv : ∀ w, (zeroValue 65).run Tryd.prog w = .ok (.agg #[.int .i64 0, .int .i64 0, .int .i64 0]) w := Tryd.zeroValue65
  simp [Builtin.clear_, run_underlying Tryd.underlying34, hv, Value.cells, hz, hst]
theorem eqPt (d : Nat) (w : World) (x0 y0 : Int) (x1 y1 : Int) :
    (Op.equalIn (d + 2) 63 (.agg #[.int .i64 x0, .int .i64 x1]) (.agg #[.int .i64 y0, .int .i64 y1])).run Tryd.prog w = .ok (x0 == y0 && (x1 == y1)) w := by
  refine eqA_of Tryd.underlying63 (by kernel_rfl) ?_
  refine eqf_cons (by rfl) (by go_simp; rfl) (by go_simp; rfl) (by go_simp) ?_
  exact eqf_last (by rfl) (by go_simp; rfl) (by go_simp; rfl) (by go_simp)
theorem eqCell (d : Nat) (w : World) (x0 y0 : Int) (x1 y1 : Int) (x2 y2 : Int) :
    (Op.equalIn (d + 3) 65 (.agg #[.int .i64 x0, .int .i64 x1, .int .i64 x2]) (.agg #[.int .i64 y0, .int .i64 y1, .int .i64 y2])).run Tryd.prog w = .ok ((x0 == y0 && (x1 == y1)) && (x2 == y2)) w := by
  refine eqA_of Tryd.underlying65 (by kernel_rfl) ?_
  refine eqf_cons (by rfl) (by go_simp) (by go_simp) (eqPt (d + 0) w _ _ _ _) ?_
  exact eqf_last (by rfl) (by go_simp; rfl) (by go_simp; rfl) (by go_simp)
/-- two cells' sameness, at cells that are whole -/
theorem eqCells (d : Nat) (w : World) (x y : S65) :
    (Op.equalIn (d + 3) 65 (.agg #[.int .i64 x.f0.f0, .int .i64 x.f0.f1, .int .i64 x.f1]) (.agg #[.int .i64 y.f0.f0, .int .i64 y.f0.f1, .int .i64 y.f1])).run Tryd.prog w = .ok (decide (x = y)) w := by
  rw [eqCell]
  congr 1
  obtain ⟨⟨a, b⟩, h⟩ := x
  obtain ⟨⟨c, d⟩, k⟩ := y
  rw [Bool.eq_iff_iff]
  simp [S65.mk.injEq, S63.mk.injEq]
attribute [local go_sem high] eqCells
theorem comp_all {d : Array S65} (h : ∀ j, j < d.size → keeps d j = true) : compactUpTo d d.size = d.toList := by
  rw [compactUpTo_all d _ h, range_map_get]
set_option maxHeartbeats 4000000 in
set_option maxRecDepth 100000 in
theorem compact_any (w : World) (g cap : Nat) (d : Array S65) (h : Row3 w g cap d) (hsz : d.size < 4611686018427387904) :
    Calls Tryd.prog 76 #[.slice (some ⟨g, 0, none⟩) d.size cap] w fun e w' => e = .returned (.slice (some ⟨g, 0, none⟩) (compactUpTo d d.size).length cap) ∧ Row3 w' g cap (compactUpTo d d.size).toArray ∧ w.grownBy w' (some g) := by
  have hle := h.le
  have hmx : cap ≤ 9223372036854775807 := h.max
  have HR := Aside0.mk h
  clear h
  by_cases h2 : d.size < 2
  · go_enter Tryd.func76, Tryd.ntmps76
    go_wp2
    go_ret
    have e := comp_all (d := d) (fun j hj => keeps_lt_one d j (by omega))
    rw [e]
    exact ⟨by simp, HR.out, grownBy_refl _ _⟩
  · go_enter Tryd.func76, Tryd.ntmps76
    go_wp2
    go_loopw [3] (fun s3 wr => ∃ k q : Nat, 1 ≤ k ∧ k ≤ d.size ∧ s3 = .int .i64 k ∧ wr = w.drewN q ∧ ∀ j, j < k → keeps d j = true) (fun s3 _ => d.size - (intOf s3).toNat)
    case atStart => exact ⟨1, 0, Nat.le_refl _, by omega, rfl, rfl, keeps_lt_one d⟩
    case round =>
      obtain ⟨k, q, hk1, hk, rfl, rfl, hall⟩ := hrel
      by_cases hlt : k < d.size
      · have A := Aside0.mk hall
        clear hall
        obtain ⟨a0, a1, a2⟩ := HR.out.cell k hlt
        obtain ⟨km, hkm⟩ : ∃ km, km = k - 1 := ⟨_, rfl⟩
        have hkm' : km < d.size := by omega
        obtain ⟨b0, b1, b2⟩ := HR.out.cell km hkm'
        generalize hx : d[k]! = x at a0 a1 a2
        generalize hy : d[km]! = y at b0 b1 b2
        have B := Aside0.mk (And.intro hx hy)
        clear hx hy
        have hw : IntKind.i64.wrap ((k : Int) - 1) = (km : Int) := by rw [IntKind.wrap_i64]; omega
        have KM := Aside0.mk hkm
        clear hkm
        go_wp2_with fail
        go_quiet (fail)
        by_cases hdup : x = y
        · have DUP := Aside0.mk hdup
          go_wp2_with fail
          clear a0 a1 a2 b0 b1 b2 hw
          go_loopw [3, 5] (fun s3 s5 wr => ∃ (kk k2 : Nat) (dk : Array S65), s3 = .int .i64 kk ∧ s5 = .int .i64 k2 ∧ 1 ≤ k2 ∧ k + k2 ≤ d.size ∧ CompInv d (k + k2) kk dk ∧ Row3 wr g cap dk ∧ w.grownBy wr (some g)) (fun _ s5 _ => d.size - (intOf s5).toNat)
          case atStart => exact ⟨k, 1, d, rfl, rfl, Nat.le_refl _, by omega, CompInv.start A.out (keeps_neg (by omega) (by rw [B.out.1, ← KM.out, B.out.2]; exact DUP.out)), HR.out.drewN _, grownBy_drewN (grownBy_refl _ _) _⟩
          case round =>
            obtain ⟨kk, k2, dk, rfl, rfl, h1, hle2, hI, hR, hG⟩ := hrel
            have hkk := hI.lt
            have hds := hI.size
            have I2 := Aside0.mk hI
            have R2 := Aside0.mk hR
            have G2 := Aside0.mk hG
            by_cases hlt2 : k + k2 < d.size
            · obtain ⟨km2, hkm2⟩ : ∃ km, km = k2 - 1 := ⟨_, rfl⟩
              obtain ⟨a0, a1, a2⟩ := hR.cell (k + k2) (by omega)
              obtain ⟨b0, b1, b2⟩ := hR.cell (k + km2) (by omega)
              have f0 := hR.frozen
              have hkb : kk < d.size := by omega
              obtain ⟨c0, c1, c2⟩ := hR.cell kk (by omega)
              have hkm2' : km2 < d.size - k := by omega
              have hk2' : k2 < d.size - k := by omega
              have hw : IntKind.i64.wrap ((k2 : Int) - 1) = (km2 : Int) := by rw [IntKind.wrap_i64]; omega
              rw [hI.high (k + k2) (by omega), show (k + k2) * 3 = k * 3 + k2 * 3 by omega] at a0 a1 a2
              rw [hI.high (k + km2) (by omega), show (k + km2) * 3 = k * 3 + km2 * 3 by omega] at b0 b1 b2
              clear hI hR hG
              generalize hu : d[k + k2]! = u at a0 a1 a2
              generalize hv : d[k + km2]! = v at b0 b1 b2
              generalize dk[kk]! = old at c0 c1 c2
              have C := Aside0.mk (And.intro hu hv)
              have KM2 := Aside0.mk hkm2
              clear hu hv hkm2 hdup
              go_wp2_with fail
              go_quiet (fail)
              by_cases huv : u = v
              · rw [show decide (u = v) = true from by simp [huv]]
                go_wp2_with fail
                go_roundw
                case rel => exact ⟨kk, k2 + 1, dk, rfl, by go_num, by omega, by omega, I2.out.skip (keeps_neg (by omega) (by rw [C.out.1, show k + k2 - 1 = k + km2 by have := KM2.out; omega, C.out.2]; exact huv)), R2.out.drewN _, grownBy_drewN G2.out _⟩
                case measure => simp [intOf]; omega
              · rw [show decide (u = v) = false from by simp [huv]]
                go_wp2_with fail
                go_roundw
                case rel => exact ⟨kk + 1, k2 + 1, dk.setIfInBounds kk u, by go_num, by go_num, by omega, by omega, by have := I2.out.keep hlt2 (keeps_pos (by rw [C.out.1, show k + k2 - 1 = k + km2 by have := KM2.out; omega, C.out.2]; exact huv)); rwa [C.out.1] at this, (R2.out.drewN _).set kk (by omega) u, grownBy_set (grownBy_set (grownBy_set (grownBy_drewN G2.out _) _ _) _ _) _ _⟩
                case measure => simp [intOf]; omega
            · have hend : k + k2 = d.size := by omega
              have hcl := fun ty c => clear_cells wr g cap dk R2.out kk (by omega) ty c
              rw [hds] at hcl
              clear hI hR hG hdup
              go_wp2
              go_ret
              have hI := I2.out
              rw [hend] at hI
              have hlen := hI.len
              refine ⟨by rw [hlen]; rfl, Row3.sets_out _ _ _ (R2.out.pre _ (by simp [hlen]; omega) (fun j hj => ?_)) (by simp [hlen]), grownBy_sets _ _ _ G2.out⟩
              have hj' : j < kk := by simpa [hlen] using hj
              have := hI.low j hj'
              rw [getElem!_def, List.getElem?_toArray, this]
        · go_wp2
          go_roundw
          case rel =>
            refine ⟨k + 1, _, by omega, by omega, by go_num, rfl, fun j hj => ?_⟩
            by_cases e : j = k
            · subst e
              exact keeps_pos (by rw [B.out.1, ← KM.out, B.out.2]; exact hdup)
            · exact A.out j (by omega)
          case measure => simp [intOf]; omega
      · have : k = d.size := by omega
        subst this
        go_wp2
        go_ret
        rw [comp_all hall]
        exact ⟨by simp, HR.out.drewN q, grownBy_drewN (grownBy_refl _ _) q⟩
end Go.Proofs.YtaeenefdbahfoaaDoor
namespace Go.Proofs.YtaeenefdbahfoaaDoor
set_option linter.unusedSimpArgs false
set_option linter.unusedVariables false
open Go.RowKit Go.Proofs.YtaeenefdbahfoaaDoorW.PrintWords Go.Proofs.YtaeenefdbahfoaaDoorW.PrintLast Go.Proofs.YtaeenefdbahfoaaDoorW.PrintMore
open H
open Go.Shelf Go.RowKit Go.Lib Go.Sort
def nearL (l a b h : Int) : List S65 := if l = 1 then hexL a b 6 else if l = 2 then edgeL a b h 3 else vertL a b h 3
theorem near_any (l a b h : Int) (w : World) (hG : Six w) (hg : goodP a b) (hh0 : 0 ≤ h) (hh1 : h ≤ 1) :
    Calls Tryd.prog 106 #[.int .i64 l, .agg #[.int .i64 a, .int .i64 b, .int .i64 h]] w fun e w' => ∃ v : Value, e = .returned v ∧ Kd.R k65 65 w' w.heap.size (fun _ => True) v (nearL l a b h) ∧ Below w.heap.size w w' := by
  obtain ⟨g1, g2, g3, g4⟩ := hg
  unfold nearL
  by_cases h1 : l = 1
  · subst h1
    exact near_hex a b h w hG (by omega) (by omega) (by omega) (by omega)
  · rw [if_neg h1]
    by_cases h2 : l = 2
    · subst h2
      exact near_edge a b h w (by omega) (by omega) (by omega) (by omega) hh0 hh1
    · rw [if_neg h2]
      exact near_vert l a b h w h1 h2 (by omega) (by omega) (by omega) (by omega)
theorem near_ne (l a b h : Int) : nearL l a b h ≠ [] := by
  unfold nearL
  split
  · simp [hexL, sixP]
  · split
    · simp [edgeL, edgeP]
    · unfold vertL cornP
      split <;> simp [aroundL]
theorem near_len (l a b h : Int) : (nearL l a b h).length ≤ 18 := by
  unfold nearL
  split
  · simp [hexL, sixP]
  · split
    · simp [edgeL, edgeP]
    · exact vertL_len a b h 3
theorem near_row (l a b h : Int) (w : World) (hG : Six w) (hg : goodP a b) (hh0 : 0 ≤ h) (hh1 : h ≤ 1) :
    Calls Tryd.prog 106 #[.int .i64 l, .agg #[.int .i64 a, .int .i64 b, .int .i64 h]] w fun e w' => ∃ g cap : Nat, e = .returned (.slice (some ⟨g, 0, none⟩) (nearL l a b h).length cap) ∧ (nearL l a b h).length ≤ cap ∧ w.heap.size ≤ g ∧ Row3 w' g cap (nearL l a b h).toArray ∧ Below w.heap.size w w' := by
  refine (near_any l a b h w hG hg hh0 hh1).mono ?_
  rintro e w' ⟨v, rfl, hR, hB⟩
  rcases row_of_R hR with ⟨_, h0⟩ | ⟨g, cap, rfl, hb, _, hrow⟩
  · exact absurd h0 (near_ne l a b h)
  · exact ⟨g, cap, rfl, by simpa using hrow.le, hb, hrow, hB⟩
/-- those beside a cell: all that are near but itself, rising, each once -/
def farL (l a b h : Int) : List S65 := (nearL l a b h).filter fun x => !decide (x = ⟨⟨a, b⟩, h⟩)
def besideL (l a b h : Int) : List S65 := compactUpTo (sortCells (farL l a b h)).toArray (sortCells (farL l a b h)).toArray.size
def allGood (xs : List S65) : Prop := ∀ x ∈ xs, goodP x.f0.f0 x.f0.f1
def besideV (w' : World) (base : Nat) (e : Ending) (xs : List S65) : Prop := (allGood xs ∧ ∃ v, e = .returned (.tuple #[v, .nilIface]) ∧ Kd.R k65 65 w' base (fun _ => True) v xs) ∨ (¬ allGood xs ∧ e = .returned (.tuple #[.slice none 0 0, errW (some 6)]))
attribute [local go_sem high] eqCells
set_option maxRecDepth 100000 in
set_option maxHeartbeats 4000000 in
theorem beside_ok (l a b h : Int) (w : World) (hG : Six w) (hc : checkR l a b h = none) (hg : goodP a b) (hh0 : 0 ≤ h) (hh1 : h ≤ 1) (hne : farL l a b h ≠ []) :
    Calls Tryd.prog 89 #[.int .i64 l, .agg #[.int .i64 a, .int .i64 b, .int .i64 h]] w fun e w' => besideV w' w.heap.size e (besideL l a b h) ∧ Below w.heap.size w w' := by
  have hck := fun W => check_any l a b h W
  simp only [hc, errW_none] at hck
  obtain ⟨c, hcdef⟩ : ∃ c : S65, c = ⟨⟨a, b⟩, h⟩ := ⟨_, rfl⟩
  have hca : a = c.f0.f0 := by rw [hcdef]
  have hcb : b = c.f0.f1 := by rw [hcdef]
  have hch : h = c.f1 := by rw [hcdef]
  have hnr := fun W hW => near_row l a b h W hW hg hh0 hh1
  obtain ⟨L, hL⟩ : ∃ L, L = nearL l a b h := ⟨_, rfl⟩
  have hLn : L ≠ [] := by rw [hL]; exact near_ne l a b h
  have hLl : L.length ≤ 18 := by rw [hL]; exact near_len l a b h
  have hF : farL l a b h = L.filter fun x => !decide (x = c) := by rw [hL, hcdef]; rfl
  unfold besideL
  rw [hF] at hne ⊢
  obtain ⟨F, hFd⟩ : ∃ F, F = L.filter fun x => !decide (x = c) := ⟨_, rfl⟩
  rw [← hFd] at hne ⊢
  obtain ⟨X, hXd⟩ : ∃ X, X = compactUpTo (sortCells F).toArray (sortCells F).toArray.size := ⟨_, rfl⟩
  rw [← hXd]
  have HFD := Aside0.mk hFd
  have HXD := Aside0.mk hXd
  clear hFd hXd
  rw [← hL] at hnr
  rw [hca, hcb, hch] at hck hnr ⊢
  clear hca hcb hch hc hg hh0 hh1 hF hL hcdef
  go_enter Tryd.func89, Tryd.ntmps89
  go_wp2_with fail
  obtain ⟨w1, hw1, hcc, hsz, hB1⟩ := one_new w #[.int .i64 c.f0.f0, .int .i64 c.f0.f1, .int .i64 c.f1] 65
  rw [← hw1]
  clear hw1
  have hG1 := hG.below hB1
  have HB1 := Aside0.mk hB1
  clear hB1
  have d0 : w1.cell? ⟨w.heap.size, 0, none⟩ = some (.int .i64 c.f0.f0) := hcc 0 _ rfl
  have d1 : w1.cell? ⟨w.heap.size, 1, none⟩ = some (.int .i64 c.f0.f1) := hcc 1 _ rfl
  have d2 : w1.cell? ⟨w.heap.size, 2, none⟩ = some (.int .i64 c.f1) := hcc 2 _ rfl
  clear hcc
  have G1 := Aside0.mk hG1
  clear hG1 hG
  go_wp2_with (first
    | (go_at_call 81; refine (hck _).mono ?_; rintro e w2 ⟨rfl, hb2⟩
       have G2 := Aside0.mk (G1.out.below hb2)
       have d0 := pw_cell_below hb2 d0
       have d1 := pw_cell_below hb2 d1
       have d2 := pw_cell_below hb2 d2
       have HB2 := Aside0.mk hb2
       clear hb2)
    | (go_at_call 106; refine (hnr _ G2.out).mono ?_; rintro e w3 ⟨g3, c3, rfl, hlc3, hg3, hrow3, hb3⟩
       have d0 := pw_cell_below hb3 d0
       have d1 := pw_cell_below hb3 d1
       have d2 := pw_cell_below hb3 d2
       have HB3 := Aside0.mk (HB2.out.trans (hb3.mono HB2.out.size))
       have HR3 := Aside0.mk hrow3
       clear hb3 hrow3))
  have hz3 := HB3.out.size
  have hg3' := HR3.out.lt
  have C0 := Aside0.mk (And.intro d0 (And.intro d1 d2))
  clear d0 d1 d2
  go_loopw [7, 22] (fun v i wr => ∃ k : Nat, k ≤ L.length ∧ i = .int .i64 k ∧ Kd.R k65 65 wr w3.heap.size (fun _ => True) v ((L.take k).filter fun x => !decide (x = c)) ∧ Below w3.heap.size w3 wr) (fun _ i _ => L.length - (intOf i).toNat)
  case atStart => exact ⟨0, by omega, rfl, by simp; exact Kd.R_nil _ _ _ _ _, Below.refl _ _⟩
  case round =>
    obtain ⟨k, hk, rfl, hO, hB⟩ := hrel
    have HO := Aside0.mk hO
    have HB := Aside0.mk hB
    have d0 := pw_cell_below hB C0.out.1
    have d1 := pw_cell_below hB C0.out.2.1
    have d2 := pw_cell_below hB C0.out.2.2
    have hzr := hB.size
    have hzz : w.heap.size < wr.heap.size := Nat.lt_of_lt_of_le (Nat.lt_of_lt_of_le hsz hz3) hzr
    have hg3z : g3 < wr.heap.size := Nat.lt_of_lt_of_le hg3' hzr
    by_cases hlt : k < L.length
    · obtain ⟨a0, a1, a2⟩ := (HR3.out.below hB).cell k (by simpa using hlt)
      generalize hx : L.toArray[k]! = x at a0 a1 a2
      clear hO hB
      have HX := Aside0.mk hx
      clear hx
      have hlf : ((L.take k).filter fun x => !decide (x = c)).length ≤ 18 := Nat.le_trans (List.length_filter_le _ _) (by simp; omega)
      have htk : L.take (k + 1) = L.take k ++ [x] := by
        rw [List.take_add_one, List.getElem?_eq_getElem hlt]
        have : L.toArray[k]! = L[k] := by simp [hlt]
        rw [← HX.out, this]
        rfl
      have HTK := Aside0.mk htk
      clear htk
      by_cases hxc : x = c
      · go_wp2_with fail
        go_roundw
        case rel => exact ⟨k + 1, by omega, by go_num, by rw [HTK.out, List.filter_append]; simpa [hxc] using Kd.R_alloc HO.out _, below_alloc2 HB.out (by omega) _⟩
        case measure => simp [intOf]; omega
      · go_wp2_with (at_builtin; refine app1 k65 w3.heap.size (.tmp 29) (.tmp 31) 34 65 (.agg #[.int .i64 0, .int .i64 0, .int .i64 0]) 24 _ ((L.take k).filter fun x => !decide (x = c)) x [.int .i64 x.f0.f0, .int .i64 x.f0.f1, .int .i64 x.f1] _ rfl rfl Tryd.underlying34 info65 rfl (by decide) (by decide) rfl (by simp; done) rfl (k65_mkM _ _ _ _) (Kd.R_alloc HO.out _) (below_alloc2 HB.out (by omega) _) (by simp; omega) (by omega) ?_; intro v1 w4 ho4 hb4; have HO4 := Aside0.mk ho4; have HB4 := Aside0.mk hb4; clear ho4 hb4)
        go_roundw
        case rel => exact ⟨k + 1, by omega, by go_num, by rw [HTK.out, List.filter_append]; simpa [hxc] using HO4.out, HB4.out⟩
        case measure => simp [intOf]; omega
    · obtain rfl : k = L.length := by omega
      have hO2 := hO
      rw [List.take_length, ← HFD.out] at hO2
      rcases row_of_R hO2 with ⟨_, h0⟩ | ⟨g5, c5, rfl, hb5, _, hrow5⟩
      · exact absurd h0 hne
      have hlen5 : F.length ≤ 18 := by rw [HFD.out]; exact Nat.le_trans (List.length_filter_le _ _) hLl
      clear hO hO2 HO hck hnr
      have R5 := Aside0.mk hrow5
      have hsl : (sortCells F).length = F.length := List.length_mergeSort _
      have hsort := fun W hW => sort_any W g5 c5 F hW (by omega)
      have hcomp : ∀ W, Row3 W g5 c5 (sortCells F).toArray → Calls Tryd.prog 76 #[.slice (some ⟨g5, 0, none⟩) F.length c5] W fun e w' => e = .returned (.slice (some ⟨g5, 0, none⟩) X.length c5) ∧ Row3 w' g5 c5 X.toArray ∧ W.grownBy w' (some g5) := fun W hW => by
        have := compact_any W g5 c5 _ hW (by simp [hsl]; omega)
        rw [← HXD.out] at this
        rwa [show (sortCells F).toArray.size = F.length by simp [hsl]] at this
      clear hrow5
      have hXl : X.length ≤ 18 := by
        rw [HXD.out]
        unfold compactUpTo
        rw [List.length_map]
        exact Nat.le_trans (List.length_filter_le _ _) (by simp [hsl]; omega)
      go_wp2_with (first
        | (go_at_call 74; refine (hsort _ R5.out).mono ?_; rintro e w5 ⟨rfl, hr5, hgr5⟩; have R6 := Aside0.mk hr5; have GR5 := Aside0.mk hgr5; clear hr5 hgr5)
        | (go_at_call 76; refine (hcomp _ R6.out).mono ?_; rintro e w6 ⟨rfl, hr6, hgr6⟩; have R7 := Aside0.mk hr6; have GR6 := Aside0.mk hgr6; clear hr6 hgr6))
      have hB36 : Below w3.heap.size w3 w6 := pw_below_grown (pw_below_grown HB.out _ (by omega) GR5.out (fun k hk => by cases hk; exact hb5)) _ (Nat.le_trans (by omega) GR5.out.size) GR6.out (fun k hk => by cases hk; exact hb5)
      have HB36 := Aside0.mk hB36
      have hz36 := hB36.size
      clear hB36 hsort hcomp
      have hzw : w.heap.size ≤ w3.heap.size := by omega
      have hzb : w.heap.size ≤ g5 := by omega
      go_loopw [40] (fun i wq => ∃ k : Nat, k ≤ X.length ∧ i = .int .i64 k ∧ (∀ j, j < k → goodP X.toArray[j]!.f0.f0 X.toArray[j]!.f0.f1) ∧ Below w6.heap.size w6 wq) (fun i _ => X.length - (intOf i).toNat)
      case atStart => exact ⟨0, by omega, rfl, fun j hj => by omega, Below.refl _ _⟩
      case round =>
        obtain ⟨k, hk, rfl, hgood, hB⟩ := hrel
        have GD := Aside0.mk hgood
        have HBQ := Aside0.mk hB
        have hzq := hB.size
        have hg5q : g5 < wr.heap.size := (R7.out.below hB).lt
        by_cases hlt : k < X.length
        · obtain ⟨a0, a1, a2⟩ := (R7.out.below hB).cell k (by simpa using hlt)
          generalize hx : X.toArray[k]! = x at a0 a1 a2
          have HX := Aside0.mk hx
          have hga := fun W => good_any x.f0.f0 x.f0.f1 W
          clear hx hgood hB
          by_cases hgx : goodP x.f0.f0 x.f0.f1
          · rw [decide_eq_true hgx] at hga
            go_wp2_with (go_at_call 92; refine (hga _).mono ?_; rintro e w7 ⟨rfl, hb7⟩; have HB7 := Aside0.mk hb7; clear hb7)
            go_roundw
            case rel =>
              refine ⟨k + 1, by omega, by go_num, fun j hj => ?_, (below_alloc2 HBQ.out (by omega) _).trans (HB7.out.mono (by simp; omega))⟩
              rcases Nat.lt_or_ge j k with hjk | hjk
              · exact GD.out j hjk
              · obtain rfl : j = k := by omega
                rw [HX.out]
                exact hgx
            case measure => simp [intOf]; omega
          · rw [decide_eq_false hgx] at hga
            go_wp2_with (go_at_call 92; refine (hga _).mono ?_; rintro e w7 ⟨rfl, hb7⟩; have HB7 := Aside0.mk hb7; clear hb7)
            refine bodyPost_ret (v := .tuple #[.slice none 0 0, errW (some 6)]) (by simp [results, Tryd.results89, go_sem, errW_some]) rfl ⟨.inr ⟨fun hall => hgx ?_, rfl⟩, ?_⟩
            · have : x ∈ X := by
                have hxe : X.toArray[k]! = X[k] := by simp [hlt]
                rw [← HX.out, hxe]
                exact List.getElem_mem _
              exact hall x this
            · exact HB1.out.trans ((HB3.out.trans ((HB36.out.trans (((below_alloc2 HBQ.out (by omega) _).trans (HB7.out.mono (by simp; omega))).mono (by omega))).mono (by omega))).mono (by omega))
        · obtain rfl : k = X.length := by omega
          clear hB hgood
          go_wp2
          refine bodyPost_ret (v := .tuple #[.slice (some ⟨g5, 0, none⟩) X.length c5, .nilIface]) (by simp [results, Tryd.results89, go_sem]) rfl ⟨.inl ⟨fun x hx => ?_, _, rfl, R_of_row (R7.out.below HBQ.out) hzb trivial⟩, ?_⟩
          · obtain ⟨j, hj, rfl⟩ := List.getElem_of_mem hx
            have := GD.out j hj
            have hxe : X.toArray[j]! = X[j] := by simp [hj]
            rwa [hxe] at this
          · exact HB1.out.trans ((HB3.out.trans ((HB36.out.trans (HBQ.out.mono (by omega))).mono (by omega))).mono (by omega))
end Go.Proofs.YtaeenefdbahfoaaDoor
namespace Go.Proofs.YtaeenefdbahfoaaDoor
set_option linter.unusedSimpArgs false
set_option linter.unusedVariables false
open Go.RowKit Go.Proofs.YtaeenefdbahfoaaDoorW.PrintWords Go.Proofs.YtaeenefdbahfoaaDoorW.PrintLast Go.Proofs.YtaeenefdbahfoaaDoorW.PrintMore
open H
open Go.Shelf Go.RowKit Go.Lib Go.Sort
theorem sh_inj (a b : Int) {x y : CL} (h : sh a b x = sh a b y) : x = y := by
  obtain ⟨⟨p, q⟩, r⟩ := x
  obtain ⟨⟨p', q'⟩, r'⟩ := y
  simp only [sh, S65.mk.injEq, S63.mk.injEq] at h ⊢
  omega
theorem sh_lt (a b : Int) (x y : CL) : ltOf cmpCell (sh a b x) (sh a b y) = ltOf cmpCell x y := by
  rw [lt_cell, lt_cell]
  simp only [sh]
  congr 1
  rw [eq_iff_iff]
  omega
theorem near_sh (l a b h : Int) (h0 : h = 0 ∨ h = 1) : nearL l a b h = (nearL l 0 0 h).map (sh a b) := by
  unfold nearL
  split
  · simp [hexL, sixP, sh]
  · split
    · rcases h0 with rfl | rfl <;> simp [edgeL, edgeP, sh]
    · rcases h0 with rfl | rfl
      · simp [vertL, cornP, aroundL, sh]; omega
      · simp [vertL, cornP, aroundL, sh]; omega
theorem far_sh (l a b h : Int) (h0 : h = 0 ∨ h = 1) : farL l a b h = (farL l 0 0 h).map (sh a b) := by
  unfold farL
  rw [near_sh l a b h h0, List.filter_map]
  congr 2
  funext x
  obtain ⟨⟨p, q⟩, r⟩ := x
  rw [Bool.eq_iff_iff]
  simp [sh, S65.mk.injEq, S63.mk.injEq]
  omega
theorem sort_sh (a b : Int) (xs : List CL) : sortCells (xs.map (sh a b)) = (sortCells xs).map (sh a b) := by
  unfold sortCells
  rw [List.map_mergeSort]
  intro x _ y _
  rw [sh_lt]
theorem keeps_map (f : CL → CL) (hf : ∀ x y, f x = f y → x = y) (xs : List CL) (j : Nat) (hj : j < xs.length) : keeps (xs.map f).toArray j = keeps xs.toArray j := by
  unfold keeps
  have e : ∀ i, i < xs.length → (xs.map f).toArray[i]! = f xs.toArray[i]! := fun i hi => by simp [hi]
  rw [e j hj, e (j - 1) (by omega)]
  rw [Bool.eq_iff_iff]
  simp only [decide_eq_true_eq]
  constructor
  · rintro (h | h)
    · exact .inl h
    · exact .inr fun h' => h (by rw [h'])
  · rintro (h | h)
    · exact .inl h
    · exact .inr fun h' => h (hf _ _ h')
theorem compact_map (f : CL → CL) (hf : ∀ x y, f x = f y → x = y) (xs : List CL) : compactUpTo (xs.map f).toArray (xs.map f).toArray.size = (compactUpTo xs.toArray xs.toArray.size).map f := by
  unfold compactUpTo
  simp only [List.size_toArray, List.length_map, List.map_map]
  rw [List.filter_congr (q := keeps xs.toArray) (fun j hj => keeps_map f hf xs j (by simpa using hj))]
  apply List.map_congr_left
  intro j hj
  have : j < xs.length := by simpa using (List.mem_filter.1 hj).1
  simp [this]
def offs (l h : Int) : List CL :=
  if l = 1 then [mk 0 (-1) 0, mk 1 (-1) 0, mk (-1) 0 0, mk 1 0 0, mk (-1) 1 0, mk 0 1 0]
  else if l = 2 then (if h = 0 then [mk 0 (-1) 1, mk (-1) 0 1, mk 0 0 1] else [mk 0 0 0, mk 1 0 0, mk 0 1 0])
  else if h = 0 then [mk (-1) (-1) 1, mk 0 (-1) 0, mk 0 (-1) 1, mk 1 (-1) 0, mk 1 (-1) 1, mk (-1) 0 0, mk (-1) 0 1, mk 0 0 1, mk 1 0 0, mk (-1) 1 0, mk (-1) 1 1, mk 0 1 0]
  else [mk 0 (-1) 1, mk 1 (-1) 0, mk 1 (-1) 1, mk (-1) 0 1, mk 0 0 0, mk 1 0 0, mk 1 0 1, mk (-1) 1 0, mk (-1) 1 1, mk 0 1 0, mk 0 1 1, mk 1 1 0]
theorem sort_is (xs ys : List CL) (hp : xs.Perm ys) (hs : ys.Pairwise fun x y => (!(ltOf cmpCell) y x) = true) : sortCells xs = ys := by
  have hle : ∀ x y : CL, (!(ltOf cmpCell) y x) = true → (!(ltOf cmpCell) x y) = true → x = y := fun x y h1 h2 => tot_cell x y (by simpa using h2) (by simpa using h1)
  refine List.Perm.eq_of_pairwise (le := fun x y => (!(ltOf cmpCell) y x) = true) (fun a b _ _ => hle a b) (List.pairwise_mergeSort ?_ ?_ xs) hs ((List.mergeSort_perm xs _).trans hp)
  · intro x y z h1 h2
    simp only [lt_cell, Bool.not_eq_true', decide_eq_false_iff_not] at *
    omega
  · intro x y
    simp only [lt_cell, Bool.or_eq_true, Bool.not_eq_true', decide_eq_false_iff_not]
    omega
instance (xs : List CL) : Decidable (xs.Pairwise fun x y => (!(ltOf cmpCell) y x) = true) := inferInstance
theorem base_is (l h : Int) (ys : List CL) (hp : (farL l 0 0 h).Perm ys) (hs : ys.Pairwise fun x y => (!(ltOf cmpCell) y x) = true) : besideL l 0 0 h = compactUpTo ys.toArray ys.toArray.size := by
  unfold besideL
  rw [sort_is _ ys hp hs]
/-- the sorted lists, with those that come twice -/
def dups (h : Int) : List CL := if h = 0 then [mk (-1) (-1) 1, mk 0 (-1) 0, mk 0 (-1) 1, mk 0 (-1) 1, mk 1 (-1) 0, mk 1 (-1) 1, mk (-1) 0 0, mk (-1) 0 1, mk (-1) 0 1, mk 0 0 1, mk 0 0 1, mk 1 0 0, mk (-1) 1 0, mk (-1) 1 1, mk 0 1 0]
  else [mk 0 (-1) 1, mk 1 (-1) 0, mk 1 (-1) 1, mk (-1) 0 1, mk 0 0 0, mk 0 0 0, mk 1 0 0, mk 1 0 0, mk 1 0 1, mk (-1) 1 0, mk (-1) 1 1, mk 0 1 0, mk 0 1 0, mk 0 1 1, mk 1 1 0]
theorem beside_base (l h : Int) (hl : 1 ≤ l) (hl' : l ≤ 3) (h0 : h = 0 ∨ h = 1) (h1 : l = 1 → h = 0) : besideL l 0 0 h = offs l h := by
  have : l = 1 ∨ l = 2 ∨ l = 3 := by omega
  rcases this with rfl | rfl | rfl
  · obtain rfl := h1 rfl
    rw [base_is 1 0 (offs 1 0) (by decide) (by decide)]
    decide
  · rcases h0 with rfl | rfl
    · rw [base_is 2 0 (offs 2 0) (by decide) (by decide)]; decide
    · rw [base_is 2 1 (offs 2 1) (by decide) (by decide)]; decide
  · rcases h0 with rfl | rfl
    · rw [base_is 3 0 (dups 0) (by decide) (by decide)]; decide
    · rw [base_is 3 1 (dups 1) (by decide) (by decide)]; decide
theorem beside_eq (l a b h : Int) (hl : 1 ≤ l) (hl' : l ≤ 3) (h0 : h = 0 ∨ h = 1) (h1 : l = 1 → h = 0) : besideL l a b h = (offs l h).map (sh a b) := by
  rw [← beside_base l h hl hl' h0 h1]
  unfold besideL
  rw [far_sh l a b h h0, sort_sh, compact_map _ (fun x y => sh_inj a b)]
theorem far_ne (l a b h : Int) (hl : 1 ≤ l) (hl' : l ≤ 3) (h0 : h = 0 ∨ h = 1) (h1 : l = 1 → h = 0) : farL l a b h ≠ [] := by
  intro he
  have h2 := beside_eq l a b h hl hl' h0 h1
  unfold besideL at h2
  rw [he] at h2
  have h3 : (offs l h).map (sh a b) = [] := by rw [← h2]; simp [sortCells, compactUpTo]
  unfold offs at h3
  split at h3
  · simp at h3
  · split at h3 <;> split at h3 <;> simp at h3
/-- BESIDE, at a cell that may be. -/
theorem beside_any (l a b h : Int) (w : World) (hG : Six w) (hl : 1 ≤ l) (hl' : l ≤ 3) (h0 : h = 0 ∨ h = 1) (h1 : l = 1 → h = 0) (hg : goodP a b) :
    Calls Tryd.prog 89 #[.int .i64 l, .agg #[.int .i64 a, .int .i64 b, .int .i64 h]] w fun e w' => besideV w' w.heap.size e ((offs l h).map (sh a b)) ∧ Below w.heap.size w w' := by
  have := beside_ok l a b h w hG ?_ hg (by omega) (by omega) (far_ne l a b h hl hl' h0 h1)
  · rwa [beside_eq l a b h hl hl' h0 h1] at this
  · unfold checkR
    rw [if_pos ⟨hl, hl'⟩, if_neg ?_, if_pos hg]
    rcases h0 with rfl | rfl
    · split <;> omega
    · by_cases e : l = 1
      · have := h1 e; omega
      · rw [if_neg e]; omega
end Go.Proofs.YtaeenefdbahfoaaDoor
