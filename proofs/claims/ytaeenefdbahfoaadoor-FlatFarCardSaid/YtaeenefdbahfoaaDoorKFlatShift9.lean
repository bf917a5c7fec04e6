/- Parts of the proof (FlatShift), merged out of our texts by wip/tools/pack.py: XLetter, HTab. -/
import Derived.Test.YtaeenefdbahfoaaDoorKFlatShift6
import Derived.Test.YtaeenefdbahfoaaDoorKFlatShift1
import Derived.Test.YtaeenefdbahfoaaDoorKFlatShift3
import Derived.Test.YtaeenefdbahfoaaDoorKFlatShift8
namespace Go.Proofs.YtaeenefdbahfoaaDoor
open Go.RowKit Go.Proofs.YtaeenefdbahfoaaDoorW.PrintWords Go.Proofs.YtaeenefdbahfoaaDoorW.PrintLast Go.Proofs.YtaeenefdbahfoaaDoorW.PrintMore
open H
open Go.RowKit
set_option linter.unusedSimpArgs false
def XLetter.f (x : Int) : Option Int := (bits_OnesCount.f (IntKind.u64.wrap x)).bind fun t => (table_turned.f x 1).bind fun u => (bits_OnesCount.f (IntKind.u64.wrap (Go.bits .and .i64 x u))).bind fun b => (table_turned.f x 2).bind fun v =>
  some (if t = 3 ∧ b = 0 then 112 else if t = 3 ∧ b = 1 then 109 else if b > 0 then 111 else if Go.bits .and .i64 x v = 0 then 112 else 109)
set_option maxRecDepth 100000 in
set_option maxHeartbeats 4000000 in
theorem letter_walk (x t u b v : Int) (w : World) (h1 : bits_OnesCount.f (IntKind.u64.wrap x) = some t) (h2 : table_turned.f x 1 = some u) (h3 : bits_OnesCount.f (IntKind.u64.wrap (Go.bits .and .i64 x u)) = some b) (h4 : table_turned.f x 2 = some v) :
    Calls Tryd.prog 109 #[.int .i64 x] w fun e w' => e = .returned (.int .u8 (if t = 3 ∧ b = 0 then 112 else if t = 3 ∧ b = 1 then 109 else if b > 0 then 111 else if Go.bits .and .i64 x v = 0 then 112 else 109)) ∧ Below w.heap.size w w' := by
  have c1 := fun W => bits_OnesCount.calls (IntKind.u64.wrap x) t W h1
  have c2 := fun W => table_turned.calls x 1 u W h2
  have c3 := fun W => bits_OnesCount.calls (IntKind.u64.wrap (Go.bits .and .i64 x u)) b W h3
  have c4 := fun W => table_turned.calls x 2 v W h4
  clear h1 h2 h3 h4
  generalize hy : Go.bits .and .i64 x u = y at c3
  generalize hz : Go.bits .and .i64 x v = z
  have HB0 := Aside0.mk (Below.refl w.heap.size w)
  have key : ∀ r : Int, (if t = 3 ∧ b = 0 then 112 else if t = 3 ∧ b = 1 then 109 else if b > 0 then 111 else if z = 0 then 112 else 109) = r →
      Calls Tryd.prog 109 #[.int .i64 x] w fun e w' => e = .returned (.int .u8 r) ∧ Below w.heap.size w w' := by
    intro r hr
    have HR := Aside0.mk hr
    clear hr
    go_enter Tryd.func109, Tryd.ntmps109
    go_wp2_with fail
    refine (c1 _).mono ?_
    rintro e w1 ⟨rfl, hd1⟩
    have HB1 := Aside0.mk (hd1.below : Below w.heap.size w w1)
    clear hd1
    by_cases ht : t = 3
    · subst ht
      go_wp2_with fail
      refine (c2 _).mono ?_
      rintro e w2 ⟨rfl, hd2⟩
      have HB2 := Aside0.mk (HB1.out.trans ((hd2.below).mono HB1.out.size))
      clear hd2
      go_wp2_with fail
      refine (c3 _).mono ?_
      rintro e w3 ⟨rfl, hd3⟩
      have HB3 := Aside0.mk (HB2.out.trans ((hd3.below).mono HB2.out.size))
      clear hd3
      by_cases hb0 : b = 0
      · subst hb0
        go_wp2
        go_ret
        exact ⟨by rw [← HR.out]; simp, HB3.out⟩
      · have e0 : (b == 0) = false := beq_eq_false_iff_ne.2 hb0
        by_cases hb1 : b = 1
        · subst hb1
          go_wp2
          go_ret
          exact ⟨by rw [← HR.out]; simp, HB3.out⟩
        · have e1 : (b == 1) = false := beq_eq_false_iff_ne.2 hb1
          by_cases hbp : b > 0
          · go_wp2
            go_ret
            exact ⟨by rw [← HR.out]; simp [hb0, hb1, hbp], HB3.out⟩
          · by_cases hz0 : z = 0
            · have ez : (z != 0) = false := by simp [hz0]
              go_wp2_with fail
              refine (c4 _).mono ?_
              rintro e w4 ⟨rfl, hd4⟩
              have HB4 := Aside0.mk (HB3.out.trans ((hd4.below).mono HB3.out.size))
              clear hd4
              go_wp2
              go_ret
              exact ⟨by rw [← HR.out]; simp [hb0, hb1, hbp, hz0], HB4.out⟩
            · have ez : (z != 0) = true := by simp [hz0]
              go_wp2_with fail
              refine (c4 _).mono ?_
              rintro e w4 ⟨rfl, hd4⟩
              have HB4 := Aside0.mk (HB3.out.trans ((hd4.below).mono HB3.out.size))
              clear hd4
              go_wp2
              go_ret
              exact ⟨by rw [← HR.out]; simp [hb0, hb1, hbp, hz0], HB4.out⟩
    · have et : (t == 3) = false := beq_eq_false_iff_ne.2 ht
      go_wp2_with fail
      refine (c2 _).mono ?_
      rintro e w2 ⟨rfl, hd2⟩
      have HB2 := Aside0.mk (HB1.out.trans ((hd2.below).mono HB1.out.size))
      clear hd2
      go_wp2_with fail
      refine (c3 _).mono ?_
      rintro e w3 ⟨rfl, hd3⟩
      have HB3 := Aside0.mk (HB2.out.trans ((hd3.below).mono HB2.out.size))
      clear hd3
      by_cases hbp : b > 0
      · go_wp2
        go_ret
        exact ⟨by rw [← HR.out]; simp [ht, hbp], HB3.out⟩
      · by_cases hz0 : z = 0
        · have ez : (z != 0) = false := by simp [hz0]
          go_wp2_with fail
          refine (c4 _).mono ?_
          rintro e w4 ⟨rfl, hd4⟩
          have HB4 := Aside0.mk (HB3.out.trans ((hd4.below).mono HB3.out.size))
          clear hd4
          go_wp2
          go_ret
          exact ⟨by rw [← HR.out]; simp [ht, hbp, hz0], HB4.out⟩
        · have ez : (z != 0) = true := by simp [hz0]
          go_wp2_with fail
          refine (c4 _).mono ?_
          rintro e w4 ⟨rfl, hd4⟩
          have HB4 := Aside0.mk (HB3.out.trans ((hd4.below).mono HB3.out.size))
          clear hd4
          go_wp2
          go_ret
          exact ⟨by rw [← HR.out]; simp [ht, hbp, hz0], HB4.out⟩
  exact key _ rfl
theorem XLetter.calls (a0 : Int) (r : Int) (w : World) (h : XLetter.f a0 = some r) :
    Calls Tryd.prog 109 #[.int .i64 a0] w fun e w' => e = .returned (.int .u8 r) ∧ Below w.heap.size w w' := by
  unfold XLetter.f at h
  obtain ⟨t, h1, h⟩ := Option.bind_eq_some_iff.1 h
  obtain ⟨u, h2, h⟩ := Option.bind_eq_some_iff.1 h
  obtain ⟨b, h3, h⟩ := Option.bind_eq_some_iff.1 h
  obtain ⟨v, h4, h⟩ := Option.bind_eq_some_iff.1 h
  obtain rfl := Option.some.inj h
  exact letter_walk a0 t u b v w h1 h2 h3 h4
end Go.Proofs.YtaeenefdbahfoaaDoor
namespace Go.Proofs.YtaeenefdbahfoaaDoor.H
open Go.RowKit Go.Proofs.YtaeenefdbahfoaaDoorW.PrintWords Go.Proofs.YtaeenefdbahfoaaDoorW.PrintLast Go.Proofs.YtaeenefdbahfoaaDoorW.PrintMore
attribute [local go_sem] max2_int min2_int max_two min_two max_three min_three max_four min_four   -- for this text's walks alone
set_option linter.unusedVariables false
set_option linter.unusedSimpArgs false
attribute [local go_sem high] eqA104
def table_Ring.j0 : Nat → Int → Int → Bool → Option (Int × Int)
 | 0, _, _, _ => none
 | k + 1, x0, x3, x12 => if x12 = true then ((XLetter.f x0).bind fun t283 => (some (x3, t283))) else (some (x3, 0))
def table_Ring.f (k : Nat) (a0 : Int) : Option (Int × Int) := (bits_OnesCount.f (IntKind.u64.wrap (Go.bits .and .i64 a0 63))).bind fun t281 => (if t281 = 4 then ((XLetter.f (Go.bits .and .i64 (Go.bits .xor .i64 (-1) (Go.bits .and .i64 a0 63)) 63)).bind fun t282 => (some (t281, t282))) else (if t281 = 2 then (table_Ring.j0 k (Go.bits .and .i64 a0 63) t281 (t281 == 2)) else (table_Ring.j0 k (Go.bits .and .i64 a0 63) t281 (t281 == 3))))
theorem table_Ring.mono_l : ∀ k, (∀ y0 y1 y2, LeO (table_Ring.j0 k y0 y1 y2) (table_Ring.j0 (k + 1) y0 y1 y2))
 | 0 => fun _ _ _ r h => by simp [table_Ring.j0] at h
 | k + 1 => by
  have ih0 := table_Ring.mono_l k
  ·
   intro y0 y1 y2
   unfold table_Ring.j0
   repeat' first
   | (with_reducible exact ih0 _ _ _)
   | (with_reducible exact LeO.refl _)
   | (with_reducible exact LeO.none _)
   | (with_reducible refine LeO.ite ?_ ?_)
   | (with_reducible refine LeO.bind ?_ (fun _ => ?_))
   | exact ih0 _ _ _
   | exact LeO.none _
   | refine LeO.ite ?_ ?_
   | refine LeO.bind ?_ (fun _ => ?_)
theorem table_Ring.mono : ∀ a0 k, LeO (table_Ring.f k a0) (table_Ring.f (k + 1) a0) := by
 intro a0 k
 have ih0 := table_Ring.mono_l k
 unfold table_Ring.f
 repeat' first
   | (with_reducible exact ih0 _ _ _)
   | (with_reducible exact LeO.refl _)
   | (with_reducible exact LeO.none _)
   | (with_reducible refine LeO.ite ?_ ?_)
   | (with_reducible refine LeO.bind ?_ (fun _ => ?_))
   | exact ih0 _ _ _
   | exact LeO.none _
   | refine LeO.ite ?_ ?_
   | refine LeO.bind ?_ (fun _ => ?_)
set_option maxHeartbeats 8000000 in
set_option maxRecDepth 100000 in
theorem table_Ring.calls (k : Nat) (a0 : Int) (r1 : Int) (r2 : Int) (w : World) (h : table_Ring.f k a0 = some (r1, r2)) :
  Calls Tryd.prog 94 #[.int .i64 a0] w fun e w' => e = .returned (.agg #[.int .i64 r1, .int .u8 r2]) ∧ Below w.heap.size w w' := by
 have hu104 := Tryd.underlying104
 have HB := Aside0.mk (Below.refl w.heap.size w)
 have H : ((bits_OnesCount.f (IntKind.u64.wrap (Go.bits .and .i64 a0 63))).bind fun t281 => (if t281 = 4 then ((XLetter.f (Go.bits .and .i64 (Go.bits .xor .i64 (-1) (Go.bits .and .i64 a0 63)) 63)).bind fun t282 => (some (t281, t282))) else (if t281 = 2 then (table_Ring.j0 k (Go.bits .and .i64 a0 63) t281 (t281 == 2)) else (table_Ring.j0 k (Go.bits .and .i64 a0 63) t281 (t281 == 3))))) = some (r1, r2) := h
 clear h
 replace H := Option.bind_eq_some_iff.mp H
 obtain ⟨t281, A20, H⟩ := H
 replace H : (if t281 = 4 then ((XLetter.f (Go.bits .and .i64 (Go.bits .xor .i64 (-1) (Go.bits .and .i64 a0 63)) 63)).bind fun t282 => (some (t281, t282))) else (if t281 = 2 then (table_Ring.j0 k (Go.bits .and .i64 a0 63) t281 (t281 == 2)) else (table_Ring.j0 k (Go.bits .and .i64 a0 63) t281 (t281 == 3)))) = some (r1, r2) := H
 have A2 := Aside0.mk A20
 clear A20
 by_cases c3 : t281 = 4
 ·
  rw [if_pos c3] at H
  have c3b0 : (t281 == 4) = true := beq_iff_eq.mpr c3
  have c3b1 : (t281 != 4) = false := bne_eq_false_iff_eq.mpr c3
  clear c3
  replace H := Option.bind_eq_some_iff.mp H
  obtain ⟨t282, A40, H⟩ := H
  replace H : (some (t281, t282)) = some (r1, r2) := H
  have A4 := Aside0.mk A40
  clear A40
  simp only [Option.some.injEq, Prod.mk.injEq] at H
  obtain ⟨rfl, rfl⟩ := H
  go_enter Tryd.func94, Tryd.ntmps94
  go_wp2_with (first | ((with_reducible refine gate_dst (N := 2) rfl ?_); refine box_event ?hg (N := 2) ?hd (cs := #[.int .i64 0, .int .u8 0]) (t := 104) ?hr ?_; (case hd => rfl); (case hg => rfl); (case hr => first | (go_simp; done) | (go_simp; rfl)); intro gb280 hg w5 hbox hb; have n0_ := Aside0.mk (below_step (by repeat (first | (with_reducible first | exact HB.out | apply ba_ | apply bn_ | apply bd_) | exact HB.out)) hb); have n1_ := Aside0.mk (hbox); have n2_ := Aside0.mk ((by rw [hg]; exact (below_size (by repeat (first | (with_reducible first | exact HB.out | apply ba_ | apply bn_ | apply bd_) | exact HB.out))) : w.heap.size ≤ gb280)); have n3_ := Aside0.mk ((by rw [hg]; exact (below_size (by repeat (first | (with_reducible first | exact HB.out | apply ba_ | apply bn_ | apply bd_) | exact HB.out))) : w.heap.size ≤ gb280)); clear HB; have HB := n0_; have BK280 := n1_; have GW280 := n2_; have GE280 := n3_; clear n0_ n1_ n2_ n3_; clear hb hbox hg) | ((with_reducible refine gate_callee (f := 108) rfl ?_); refine goesL_ (some 8) rfl rfl Tryd.func108 (by kernel_rfl) rfl #[.int .u64 (IntKind.u64.wrap (Go.bits .and .i64 a0 63))] rfl (by (try simp only [List.map_toArray, List.map_cons, List.map_nil]); first | done | rfl | (simp only [List.length_drop, List.length_take]; rfl)) ?_; (with_reducible refine (bits_OnesCount.calls (IntKind.u64.wrap (Go.bits .and .i64 a0 63)) t281 _ A2.out).mono ?_); rintro e w' ⟨rfl, ⟨nd, rfl⟩⟩; refine ⟨_, rfl, ?_⟩; (try (rw [drewN_self w5]; generalize hq_ : World.drewN w5 _ = w5; have n0_ : Aside0 (w5.heap[gb280]? = some (.cells #[.int .i64 0, .int .u8 0] 104 (0, 0))) := ⟨by rw [← hq_]; exact (by (with_reducible repeat (first | apply bN_ | apply bD_ | apply bA_)); exact BK280.out)⟩; have n1_ : Aside0 (Below w.heap.size w w5) := ⟨by rw [← hq_]; exact (by repeat (first | (with_reducible first | exact HB.out | apply ba_ | apply bn_ | apply bd_ | refine below_set ?_ GE280.out) | exact HB.out))⟩; clear BK280 HB hq_; have BK280 := n0_; have HB := n1_; clear n0_ n1_))) | ((with_reducible refine gate_callee (f := 109) rfl ?_); refine goesL_ (some 20) rfl rfl Tryd.func109 (by kernel_rfl) rfl #[.int .i64 (Go.bits .and .i64 (Go.bits .xor .i64 (-1) (Go.bits .and .i64 a0 63)) 63)] rfl (by (try simp only [List.map_toArray, List.map_cons, List.map_nil]); first | done | rfl | (simp only [List.length_drop, List.length_take]; rfl)) ?_; (with_reducible refine (XLetter.calls (Go.bits .and .i64 (Go.bits .xor .i64 (-1) (Go.bits .and .i64 a0 63)) 63) t282 _ A4.out).mono ?_); rintro e w6 ⟨rfl, hb⟩; refine ⟨_, rfl, ?_⟩; have n0_ := Aside0.mk (blk_below (g := gb280) (o := .cells #[.int .i64 0, .int .u8 0] 104 (0, 0)) (by (with_reducible repeat (first | apply bN_ | apply bD_ | apply bA_)); exact BK280.out) hb); have n1_ := Aside0.mk (below_step (by repeat (first | (with_reducible first | exact HB.out | apply ba_ | apply bn_ | apply bd_ | refine below_set ?_ GE280.out) | exact HB.out)) hb); clear BK280; clear HB; have BK280 := n0_; have HB := n1_; clear n0_ n1_; (try clear hb); (try clear hb2); (try clear hk); (try clear hi); have hcz7_0 : w6.cell? ⟨gb280, 0, none⟩ = some (.int .i64 0) := (blk_cell BK280.out 0).trans rfl; have hcz7_1 : w6.cell? ⟨gb280, 1, none⟩ = some (.int .u8 0) := (blk_cell BK280.out 1).trans rfl; have hfz7_0 := blk_frozen BK280.out 0; have hfz7_1 := blk_frozen BK280.out 1))
  refine bodyPost_ret (results_cell_row rfl _ _ gb280 104 #[.int .i64 t281, .int .u8 t282] (0, 0) _ rfl (by (with_reducible repeat (first | apply bN_ | apply bD_ | apply bA_)); refine blk_put (cs := #[.int .i64 t281, .int .u8 0]) ?_ 1 _ rfl; (with_reducible repeat (first | apply bN_ | apply bD_ | apply bA_)); refine blk_put (cs := #[.int .i64 0, .int .u8 0]) ?_ 0 _ rfl; (with_reducible repeat (first | apply bN_ | apply bD_ | apply bA_)); exact BK280.out) Tryd.underlying104 rfl (by kernel_rfl)) rfl ?_
  exact ⟨by first | rfl | (simp [errW_none, errW_some] <;> rfl) | (simp [*, errW_none, errW_some] <;> rfl), by repeat (first | (with_reducible first | exact HB.out | apply ba_ | apply bn_ | apply bd_ | refine below_set ?_ GE280.out) | exact HB.out)⟩
 ·
  rw [if_neg c3] at H
  have c3b0 : (t281 == 4) = false := beq_eq_false_iff_ne.mpr c3
  have c3b1 : (t281 != 4) = true := bne_iff_ne.mpr c3
  have HC8 := Aside0.mk H
  clear H
  go_enter Tryd.func94, Tryd.ntmps94
  go_upto_if 12 with (first | ((with_reducible refine gate_dst (N := 2) rfl ?_); refine box_event ?hg (N := 2) ?hd (cs := #[.int .i64 0, .int .u8 0]) (t := 104) ?hr ?_; (case hd => rfl); (case hg => rfl); (case hr => first | (go_simp; done) | (go_simp; rfl)); intro gb280 hg w9 hbox hb; have n0_ := Aside0.mk (below_step (by repeat (first | (with_reducible first | exact HB.out | apply ba_ | apply bn_ | apply bd_) | exact HB.out)) hb); have n1_ := Aside0.mk (hbox); have n2_ := Aside0.mk ((by rw [hg]; exact (below_size (by repeat (first | (with_reducible first | exact HB.out | apply ba_ | apply bn_ | apply bd_) | exact HB.out))) : w.heap.size ≤ gb280)); have n3_ := Aside0.mk ((by rw [hg]; exact (below_size (by repeat (first | (with_reducible first | exact HB.out | apply ba_ | apply bn_ | apply bd_) | exact HB.out))) : w.heap.size ≤ gb280)); clear HB; have HB := n0_; have BK280 := n1_; have GW280 := n2_; have GE280 := n3_; clear n0_ n1_ n2_ n3_; clear hb hbox hg) | ((with_reducible refine gate_callee (f := 108) rfl ?_); refine goesL_ (some 8) rfl rfl Tryd.func108 (by kernel_rfl) rfl #[.int .u64 (IntKind.u64.wrap (Go.bits .and .i64 a0 63))] rfl (by (try simp only [List.map_toArray, List.map_cons, List.map_nil]); first | done | rfl | (simp only [List.length_drop, List.length_take]; rfl)) ?_; (with_reducible refine (bits_OnesCount.calls (IntKind.u64.wrap (Go.bits .and .i64 a0 63)) t281 _ A2.out).mono ?_); rintro e w' ⟨rfl, ⟨nd, rfl⟩⟩; refine ⟨_, rfl, ?_⟩))
  (try simp only [Act.put, List.setIfInBounds_toArray, List.set_cons_zero, List.set_cons_succ])
  go_cut [12] (fun v12 wc => ∃ (kq : Nat) (x12_7 : Bool), v12 = .bool x12_7 ∧ Aside0 (table_Ring.j0 kq (Go.bits .and .i64 a0 63) t281 x12_7 = some (r1, r2)) ∧ Aside0 (kq ≤ k) ∧ Aside0 (wc.heap[gb280]? = some (.cells #[.int .i64 0, .int .u8 0] 104 (0, 0))) ∧ Aside0 (Below w.heap.size w wc))
  case first =>
   have H := HC8.out
   clear HC8
   by_cases c10 : t281 = 2
   ·
    rw [if_pos c10] at H
    have c10b0 : (t281 == 2) = true := beq_iff_eq.mpr c10
    have c10b1 : (t281 != 2) = false := bne_eq_false_iff_eq.mpr c10
    clear c10
    (first | rw [c10b0] | (simp only [i64_w, i32_w]; rw [c10b0]) | skip)
    have H' := Aside0.mk H
    clear H
    go_wp2
    go_meet
    case rel => exact ⟨_, ((t281 == 2)), (by first | rfl | (simp; done) | (simp [*]; done)), H', ⟨by first | omega | exact Nat.le_refl _⟩, ⟨by (with_reducible repeat (first | apply bN_ | apply bD_ | apply bA_)); exact BK280.out⟩, ⟨by repeat (first | (with_reducible first | exact HB.out | apply ba_ | apply bn_ | apply bd_ | refine below_set ?_ GE280.out) | exact HB.out)⟩⟩
   ·
    rw [if_neg c10] at H
    have c10b0 : (t281 == 2) = false := beq_eq_false_iff_ne.mpr c10
    have c10b1 : (t281 != 2) = true := bne_iff_ne.mpr c10
    (first | rw [c10b0] | (simp only [i64_w, i32_w]; rw [c10b0]) | skip)
    have H' := Aside0.mk H
    clear H
    go_wp2
    go_meet
    case rel => exact ⟨_, ((t281 == 3)), (by first | rfl | (simp; done) | (simp [*]; done)), H', ⟨by first | omega | exact Nat.le_refl _⟩, ⟨by (with_reducible repeat (first | apply bN_ | apply bD_ | apply bA_)); exact BK280.out⟩, ⟨by repeat (first | (with_reducible first | exact HB.out | apply ba_ | apply bn_ | apply bd_ | refine below_set ?_ GE280.out) | exact HB.out)⟩⟩
  case rest =>
   clear HC8
   try clear c1
   try clear p2
   try clear c3
   try clear c3b0
   try clear c3b1
   try clear c9
   try clear c10
   try clear c10b0
   try clear c10b1
   try clear hcz7_0
   try clear hcz7_1
   try clear hfz7_0
   try clear hfz7_1
   obtain ⟨kq, x12_7, rfl, HA, HJ7, BK280, HB⟩ := hcut
   cases kq with
   | zero => exact absurd HA.out (by simp [table_Ring.j0])
   | succ kj7 =>
    have H := HA.out
    clear HA
    simp only [table_Ring.j0] at H
    by_cases c11 : x12_7 = true
    ·
     subst c11
     have H1 : ((XLetter.f (Go.bits .and .i64 a0 63)).bind fun t283 => (some (t281, t283))) = some (r1, r2) := by rw [if_pos rfl] at H; exact H
     clear H
     have H := H1
     clear H1
     replace H := Option.bind_eq_some_iff.mp H
     obtain ⟨t283, A120, H⟩ := H
     replace H : (some (t281, t283)) = some (r1, r2) := H
     have A12 := Aside0.mk A120
     clear A120
     simp only [Option.some.injEq, Prod.mk.injEq] at H
     obtain ⟨rfl, rfl⟩ := H
     go_wp2_with (first | ((with_reducible refine gate_callee (f := 109) rfl ?_); refine goesL_ (some 20) rfl rfl Tryd.func109 (by kernel_rfl) rfl #[.int .i64 (Go.bits .and .i64 a0 63)] rfl (by (try simp only [List.map_toArray, List.map_cons, List.map_nil]); first | done | rfl | (simp only [List.length_drop, List.length_take]; rfl)) ?_; (with_reducible refine (XLetter.calls (Go.bits .and .i64 a0 63) t283 _ A12.out).mono ?_); rintro e w13 ⟨rfl, hb⟩; refine ⟨_, rfl, ?_⟩; have n0_ := Aside0.mk (blk_below (g := gb280) (o := .cells #[.int .i64 0, .int .u8 0] 104 (0, 0)) (by (with_reducible repeat (first | apply bN_ | apply bD_ | apply bA_)); exact BK280.out) hb); have n1_ := Aside0.mk (below_step (by repeat (first | (with_reducible first | exact HB.out | apply ba_ | apply bn_ | apply bd_ | refine below_set ?_ GE280.out) | exact HB.out)) hb); clear BK280; clear HB; have BK280 := n0_; have HB := n1_; clear n0_ n1_; (try clear hb); (try clear hb2); (try clear hk); (try clear hi); have hcz14_0 : w13.cell? ⟨gb280, 0, none⟩ = some (.int .i64 0) := (blk_cell BK280.out 0).trans rfl; have hcz14_1 : w13.cell? ⟨gb280, 1, none⟩ = some (.int .u8 0) := (blk_cell BK280.out 1).trans rfl; have hfz14_0 := blk_frozen BK280.out 0; have hfz14_1 := blk_frozen BK280.out 1))
     refine bodyPost_ret (results_cell_row rfl _ _ gb280 104 #[.int .i64 t281, .int .u8 t283] (0, 0) _ rfl (by (with_reducible repeat (first | apply bN_ | apply bD_ | apply bA_)); refine blk_put (cs := #[.int .i64 t281, .int .u8 0]) ?_ 1 _ rfl; (with_reducible repeat (first | apply bN_ | apply bD_ | apply bA_)); refine blk_put (cs := #[.int .i64 0, .int .u8 0]) ?_ 0 _ rfl; (with_reducible repeat (first | apply bN_ | apply bD_ | apply bA_)); exact BK280.out) Tryd.underlying104 rfl (by kernel_rfl)) rfl ?_
     exact ⟨by first | rfl | (simp [errW_none, errW_some] <;> rfl) | (simp [*, errW_none, errW_some] <;> rfl), by repeat (first | (with_reducible first | exact HB.out | apply ba_ | apply bn_ | apply bd_ | refine below_set ?_ GE280.out) | exact HB.out)⟩
    ·
     replace c11 := Bool.eq_false_iff.mpr c11
     subst c11
     have H1 : (some (t281, 0)) = some (r1, r2) := by rw [if_neg (show ¬ (false = true) by decide)] at H; exact H
     clear H
     have H := H1
     clear H1
     simp only [Option.some.injEq, Prod.mk.injEq] at H
     obtain ⟨rfl, rfl⟩ := H
     have hcz15_0 : wc.cell? ⟨gb280, 0, none⟩ = some (.int .i64 0) := (blk_cell BK280.out 0).trans rfl
     have hcz15_1 : wc.cell? ⟨gb280, 1, none⟩ = some (.int .u8 0) := (blk_cell BK280.out 1).trans rfl
     have hfz15_0 := blk_frozen BK280.out 0
     have hfz15_1 := blk_frozen BK280.out 1
     go_wp2
     refine bodyPost_ret (results_cell_row rfl _ _ gb280 104 #[.int .i64 t281, .int .u8 0] (0, 0) _ rfl (by (with_reducible repeat (first | apply bN_ | apply bD_ | apply bA_)); refine blk_put (cs := #[.int .i64 t281, .int .u8 0]) ?_ 1 _ rfl; (with_reducible repeat (first | apply bN_ | apply bD_ | apply bA_)); refine blk_put (cs := #[.int .i64 0, .int .u8 0]) ?_ 0 _ rfl; (with_reducible repeat (first | apply bN_ | apply bD_ | apply bA_)); exact BK280.out) Tryd.underlying104 rfl (by kernel_rfl)) rfl ?_
     exact ⟨by first | rfl | (simp [errW_none, errW_some] <;> rfl) | (simp [*, errW_none, errW_some] <;> rfl), by repeat (first | (with_reducible first | exact HB.out | apply ba_ | apply bn_ | apply bd_ | refine below_set ?_ GE280.out) | exact HB.out)⟩
def table_Rings.l0 : Nat → Int → Int → Int → Int → Option (Int)
 | 0, _, _, _, _ => none
 | k + 1, x3, x5, x285000, x285001 => if x5 < 64 then ((table_Ring.f k x5).bind fun bt285 => (if (bt285.1 == x285000 && (bt285.2 == x285001)) = true then (if 0 ≤ x5 then (table_Rings.l0 k (Go.bits .or .u64 x3 (shl .u64 1 x5)) (wrap64 (x5 + 1)) x285000 x285001) else (none)) else (table_Rings.l0 k x3 (wrap64 (x5 + 1)) x285000 x285001))) else (some x3)
def table_Rings.f (k : Nat) (a0_0 : Int) (a0_1 : Int) : Option (Int) := table_Rings.l0 k 0 0 a0_0 a0_1
theorem table_Rings.mono_l : ∀ k, (∀ y0 y1 y2 y3, LeO (table_Rings.l0 k y0 y1 y2 y3) (table_Rings.l0 (k + 1) y0 y1 y2 y3))
 | 0 => fun _ _ _ _ r h => by simp [table_Rings.l0] at h
 | k + 1 => by
  have ih0 := table_Rings.mono_l k
  ·
   intro y0 y1 y2 y3
   unfold table_Rings.l0
   repeat' first
   | (with_reducible exact ih0 _ _ _ _)
   | (with_reducible exact table_Ring.mono _ _)
   | (with_reducible exact LeO.refl _)
   | (with_reducible exact LeO.none _)
   | (with_reducible refine LeO.ite ?_ ?_)
   | (with_reducible refine LeO.bind ?_ (fun _ => ?_))
   | exact ih0 _ _ _ _
   | exact table_Ring.mono _ _
   | exact LeO.none _
   | refine LeO.ite ?_ ?_
   | refine LeO.bind ?_ (fun _ => ?_)
theorem table_Rings.mono : ∀ a0 a1 k, LeO (table_Rings.f k a0 a1) (table_Rings.f (k + 1) a0 a1) := by
 intro a0 a1 k
 have ih0 := table_Rings.mono_l k
 unfold table_Rings.f
 repeat' first
   | (with_reducible exact ih0 _ _ _ _)
   | (with_reducible exact table_Ring.mono _ _)
   | (with_reducible exact LeO.refl _)
   | (with_reducible exact LeO.none _)
   | (with_reducible refine LeO.ite ?_ ?_)
   | (with_reducible refine LeO.bind ?_ (fun _ => ?_))
   | exact ih0 _ _ _ _
   | exact table_Ring.mono _ _
   | exact LeO.none _
   | refine LeO.ite ?_ ?_
   | refine LeO.bind ?_ (fun _ => ?_)
set_option maxHeartbeats 8000000 in
set_option maxRecDepth 100000 in
theorem table_Rings.calls (k : Nat) (a0_0 : Int) (a0_1 : Int) (r : Int) (w : World) (h : table_Rings.f k a0_0 a0_1 = some r) :
  Calls Tryd.prog 59 #[.agg #[.int .i64 a0_0, .int .u8 a0_1]] w fun e w' => e = .returned (.int .u64 r) ∧ Below w.heap.size w w' := by
 have hu104 := Tryd.underlying104
 have HB := Aside0.mk (Below.refl w.heap.size w)
 have H : (table_Rings.l0 k 0 0 a0_0 a0_1) = some r := h
 clear h
 have H' := Aside0.mk H
 clear H
 go_enter Tryd.func59, Tryd.ntmps59
 go_wp2_with (first | ((with_reducible refine gate_dst (N := 1) rfl ?_); refine box_event ?hg (N := 1) ?hd (cs := #[.int .i64 a0_0, .int .u8 a0_1]) (t := 104) ?hr ?_; (case hd => rfl); (case hg => rfl); (case hr => first | (go_simp; done) | (go_simp; rfl)); intro gb284 hg w2 hbox hb; have n0_ := Aside0.mk (below_step (by repeat (first | (with_reducible first | exact HB.out | apply ba_ | apply bn_ | apply bd_) | exact HB.out)) hb); have n1_ := Aside0.mk (hbox); have n2_ := Aside0.mk ((by rw [hg]; exact (below_size (by repeat (first | (with_reducible first | exact HB.out | apply ba_ | apply bn_ | apply bd_) | exact HB.out))) : w.heap.size ≤ gb284)); have n3_ := Aside0.mk ((by rw [hg]; exact (below_size (by repeat (first | (with_reducible first | exact HB.out | apply ba_ | apply bn_ | apply bd_) | exact HB.out))) : w.heap.size ≤ gb284)); clear HB; have HB := n0_; have BK284 := n1_; have GW284 := n2_; have GE284 := n3_; clear n0_ n1_ n2_ n3_; clear hb hbox hg))
 go_loopg [3, 5] k (fun kq v3 v5 w' => ∃ (x3_1 : Int) (x5_1 : Int), v3 = .int .u64 x3_1 ∧ v5 = .int .i64 x5_1 ∧ Aside0 (table_Rings.l0 kq x3_1 x5_1 a0_0 a0_1 = some r) ∧ Aside0 (kq ≤ k) ∧ Aside0 (w'.heap[gb284]? = some (.cells #[.int .i64 a0_0, .int .u8 a0_1] 104 (0, 0))) ∧ Aside0 (Below w.heap.size w w'))
 case atStart => exact ⟨(0), (0), (by first | rfl | (simp; done) | (simp [*]; done)), (by first | rfl | (simp; done) | (simp [*]; done)), H', ⟨Nat.le_refl _⟩, ⟨by (with_reducible repeat (first | apply bN_ | apply bD_ | apply bA_)); exact BK284.out⟩, ⟨by repeat (first | (with_reducible first | exact HB.out | apply ba_ | apply bn_ | apply bd_ | refine below_set ?_ GE284.out) | exact HB.out)⟩⟩
 case round =>
  clear H'
  try clear p2
  obtain ⟨x3_1, x5_1, rfl, rfl, HA, HK1, BK284, HB⟩ := hrel
  cases gk with
  | zero => exact absurd HA.out (by simp [table_Rings.l0])
  | succ k1 =>
   have H := HA.out
   clear HA
   simp only [table_Rings.l0] at H
   by_cases c3 : x5_1 < 64
   ·
    rw [if_pos c3] at H
    have c3b0 : decide (x5_1 < 64) = true := decide_eq_true c3
    clear c3
    replace H := Option.bind_eq_some_iff.mp H
    obtain ⟨⟨t285, t286⟩, A40, H⟩ := H
    replace H : (if (t285 == a0_0 && (t286 == a0_1)) = true then (if 0 ≤ x5_1 then (table_Rings.l0 k1 (Go.bits .or .u64 x3_1 (shl .u64 1 x5_1)) (wrap64 (x5_1 + 1)) a0_0 a0_1) else (none)) else (table_Rings.l0 k1 x3_1 (wrap64 (x5_1 + 1)) a0_0 a0_1)) = some r := H
    have A4 := Aside0.mk A40
    clear A40
    by_cases c5 : (t285 == a0_0 && (t286 == a0_1)) = true
    ·
     rw [if_pos c5] at H
     have c5b0 : (t285 == a0_0 && (t286 == a0_1)) = true := c5
     (try (have c5b1 : decide (t285 = a0_0 && (t286 == a0_1)) = true := by simpa using c5))
     (try (have c5b2 : (t285 == a0_0 && (t286 == a0_1)) = true := by simpa using c5))
     clear c5
     by_cases c6 : 0 ≤ x5_1
     ·
      rw [if_pos c6] at H
      have c6b0 := eq_true c6
      have c6b1 : decide (0 ≤ x5_1) = true := decide_eq_true c6
      clear c6
      obtain ⟨ji7, hji7⟩ : ∃ j_ : Int, (shl .u64 1 x5_1) = j_ := ⟨_, rfl⟩
      replace H : (table_Rings.l0 k1 (Go.bits .or .u64 x3_1 (ji7)) (wrap64 (x5_1 + 1)) a0_0 a0_1) = some r := by first | (rw [hji7] at H; exact H) | (simp only [hji7] at H ⊢; exact H)
      (try rw [hji7] at A4)
      have hji7_ : (IntKind.u64.wrap (1 * 2 ^ min x5_1.toNat 64)) = ji7 := hji7
      have hji7z : x5_1 ≤ 64 → (IntKind.u64.wrap (1 * 2 ^ x5_1.toNat)) = ji7 := shl_small hji7
      have hji7u : (IntKind.u64.wrap (2 ^ min x5_1.toNat 64)) = ji7 := by have h_ := hji7_; rw [Int.one_mul] at h_; exact h_
      have hji7v : x5_1 ≤ 64 → (IntKind.u64.wrap (2 ^ x5_1.toNat)) = ji7 := fun hle_ => by have h_ := hji7z hle_; rw [Int.one_mul] at h_; exact h_
      have H' := Aside0.mk H
      clear H
      try go_wp2
      have n0_ := Aside0.mk (blk_drew BK284.out)
      have n1_ := Aside0.mk (below_drew1 HB.out)
      clear BK284
      clear HB
      have BK284 := n0_
      have HB := n1_
      clear n0_ n1_
      refine start_ (n := 4) (S := fun w' => w'.cell? ⟨gb284, 0, none⟩ = some (.int .i64 a0_0) ∧ w'.cell? ⟨gb284, 1, none⟩ = some (.int .u8 a0_1)) (ds := []) #[false, false, false, false] (by kernel_rfl) rfl rfl ⟨(blk_cell BK284.out 0).trans rfl, (blk_cell BK284.out 1).trans rfl⟩ (fun hHeld => ?_)
      generalize wr.drew = w8 at BK284 HB hHeld ⊢
      refine pure_ (i := 0) (N := some 8) (v := ?_) (a' := ?_) #[true, false, false, false] rfl rfl (by kernel_rfl) (fun _ _ _ h => h) (Or.inl ⟨by rfl, ?_⟩) ?_ ?_
      rotate_left
      ·
       intro w'
       go_simp
       with_reducible rfl
      rotate_left
      ·
       simp only [Act.put, List.setIfInBounds_toArray, List.set_cons_zero, List.set_cons_succ, i64_w, i32_w]
       rfl
      refine take_ (i := 2) (N := some 10) (v := ?_) (a' := ?_) #[true, false, true, false] rfl rfl (by kernel_rfl) (fun _ _ _ h => h) (Or.inl ⟨by rfl, ?_⟩) hHeld ?_ ?_
      rotate_left
      ·
       rintro w' ⟨s0, s1⟩
       go_simp
       with_reducible rfl
      rotate_left
      ·
       simp only [Act.put, List.setIfInBounds_toArray, List.set_cons_zero, List.set_cons_succ, i64_w, i32_w]
       rfl
      refine one_ (i := 1) (N := some 9) #[true, true, true, false] rfl rfl (by kernel_rfl) (by decide) (fun K hK => ?_)
      refine goes_ Tryd.func94 (by kernel_rfl) rfl #[.int .i64 x5_1] (by rfl) rfl rfl (by (try simp only [List.map_toArray, List.map_cons, List.map_nil]); first | done | rfl | (simp only [List.length_drop, List.length_take]; rfl)) ?_
      with_reducible refine (table_Ring.calls k1 x5_1 t285 t286 _ A4.out).mono ?_
      rintro e w9 ⟨rfl, hb⟩
      refine ⟨_, rfl, ?_⟩
      have n0_ := Aside0.mk (blk_below (g := gb284) (o := .cells #[.int .i64 a0_0, .int .u8 a0_1] 104 (0, 0)) (by (with_reducible repeat (first | apply bN_ | apply bD_ | apply bA_)); exact BK284.out) hb)
      have n1_ := Aside0.mk (below_step (by repeat (first | (with_reducible first | exact HB.out | apply ba_ | apply bn_ | apply bd_ | refine below_set ?_ GE284.out) | exact HB.out)) hb)
      clear BK284
      clear HB
      have BK284 := n0_
      have HB := n1_
      clear n0_ n1_
      (try clear hb)
      (try clear hb2)
      (try clear hk)
      (try clear hi)
      refine hK.out _ _ ⟨(blk_cell BK284.out 0).trans rfl, (blk_cell BK284.out 1).trans rfl⟩ (fun hHeld => ?_)
      clear hK K
      refine norm_ (a' := ?_) ?_ ?_
      rotate_left
      ·
       show Act.put _ (some 9) _ = _
       simp only [Act.put, List.setIfInBounds_toArray, List.set_cons_zero, List.set_cons_succ, i64_w, i32_w]
       rfl
      refine pure_ (i := 3) (N := some 11) (v := ?_) (a' := ?_) #[true, true, true, true] rfl rfl (by kernel_rfl) (fun _ _ _ h => h) (Or.inl ⟨by rfl, ?_⟩) ?_ ?_
      rotate_left
      ·
       intro w'
       go_simp
       with_reducible rfl
      rotate_left
      ·
       simp only [Act.put, List.setIfInBounds_toArray, List.set_cons_zero, List.set_cons_succ, i64_w, i32_w]
       rfl
      refine done_ (by kernel_rfl) ?_
      try go_wp2
      go_roundg k1
      case measure => have := HK1.out; omega
      case rel => exact ⟨(Go.bits .or .u64 x3_1 (ji7)), (wrap64 (x5_1 + 1)), (by first | rfl | (simp; done) | (simp only [← hji7] <;> (first | rfl | simp)) | (simp [*]; done)), (by first | rfl | (simp; done) | (simp [*]; done)), H', ⟨by have := HK1.out; omega⟩, ⟨by (with_reducible repeat (first | apply bN_ | apply bD_ | apply bA_)); exact BK284.out⟩, ⟨by repeat (first | (with_reducible first | exact HB.out | apply ba_ | apply bn_ | apply bd_ | refine below_set ?_ GE284.out) | exact HB.out)⟩⟩
     ·
      rw [if_neg c6] at H
      exact absurd H (by simp)
    ·
     rw [if_neg c5] at H
     have c5b0 : (t285 == a0_0 && (t286 == a0_1)) = false := by simpa using c5
     (try (have c5b1 : decide (t285 = a0_0 && (t286 == a0_1)) = false := by simpa using c5))
     (try (have c5b2 : (t285 == a0_0 && (t286 == a0_1)) = false := by simpa using c5))
     (try (have c5b3 : ¬ (t285 = a0_0 && (t286 == a0_1)) := by simpa using c5))
     clear c5
     have H' := Aside0.mk H
     clear H
     try go_wp2
     have n0_ := Aside0.mk (blk_drew BK284.out)
     have n1_ := Aside0.mk (below_drew1 HB.out)
     clear BK284
     clear HB
     have BK284 := n0_
     have HB := n1_
     clear n0_ n1_
     refine start_ (n := 4) (S := fun w' => w'.cell? ⟨gb284, 0, none⟩ = some (.int .i64 a0_0) ∧ w'.cell? ⟨gb284, 1, none⟩ = some (.int .u8 a0_1)) (ds := []) #[false, false, false, false] (by kernel_rfl) rfl rfl ⟨(blk_cell BK284.out 0).trans rfl, (blk_cell BK284.out 1).trans rfl⟩ (fun hHeld => ?_)
     generalize wr.drew = w10 at BK284 HB hHeld ⊢
     refine pure_ (i := 0) (N := some 8) (v := ?_) (a' := ?_) #[true, false, false, false] rfl rfl (by kernel_rfl) (fun _ _ _ h => h) (Or.inl ⟨by rfl, ?_⟩) ?_ ?_
     rotate_left
     ·
      intro w'
      go_simp
      with_reducible rfl
     rotate_left
     ·
      simp only [Act.put, List.setIfInBounds_toArray, List.set_cons_zero, List.set_cons_succ, i64_w, i32_w]
      rfl
     refine take_ (i := 2) (N := some 10) (v := ?_) (a' := ?_) #[true, false, true, false] rfl rfl (by kernel_rfl) (fun _ _ _ h => h) (Or.inl ⟨by rfl, ?_⟩) hHeld ?_ ?_
     rotate_left
     ·
      rintro w' ⟨s0, s1⟩
      go_simp
      with_reducible rfl
     rotate_left
     ·
      simp only [Act.put, List.setIfInBounds_toArray, List.set_cons_zero, List.set_cons_succ, i64_w, i32_w]
      rfl
     refine one_ (i := 1) (N := some 9) #[true, true, true, false] rfl rfl (by kernel_rfl) (by decide) (fun K hK => ?_)
     refine goes_ Tryd.func94 (by kernel_rfl) rfl #[.int .i64 x5_1] (by rfl) rfl rfl (by (try simp only [List.map_toArray, List.map_cons, List.map_nil]); first | done | rfl | (simp only [List.length_drop, List.length_take]; rfl)) ?_
     with_reducible refine (table_Ring.calls k1 x5_1 t285 t286 _ A4.out).mono ?_
     rintro e w11 ⟨rfl, hb⟩
     refine ⟨_, rfl, ?_⟩
     have n0_ := Aside0.mk (blk_below (g := gb284) (o := .cells #[.int .i64 a0_0, .int .u8 a0_1] 104 (0, 0)) (by (with_reducible repeat (first | apply bN_ | apply bD_ | apply bA_)); exact BK284.out) hb)
     have n1_ := Aside0.mk (below_step (by repeat (first | (with_reducible first | exact HB.out | apply ba_ | apply bn_ | apply bd_ | refine below_set ?_ GE284.out) | exact HB.out)) hb)
     clear BK284
     clear HB
     have BK284 := n0_
     have HB := n1_
     clear n0_ n1_
     (try clear hb)
     (try clear hb2)
     (try clear hk)
     (try clear hi)
     refine hK.out _ _ ⟨(blk_cell BK284.out 0).trans rfl, (blk_cell BK284.out 1).trans rfl⟩ (fun hHeld => ?_)
     clear hK K
     refine norm_ (a' := ?_) ?_ ?_
     rotate_left
     ·
      show Act.put _ (some 9) _ = _
      simp only [Act.put, List.setIfInBounds_toArray, List.set_cons_zero, List.set_cons_succ, i64_w, i32_w]
      rfl
     refine pure_ (i := 3) (N := some 11) (v := ?_) (a' := ?_) #[true, true, true, true] rfl rfl (by kernel_rfl) (fun _ _ _ h => h) (Or.inl ⟨by rfl, ?_⟩) ?_ ?_
     rotate_left
     ·
      intro w'
      go_simp
      with_reducible rfl
     rotate_left
     ·
      simp only [Act.put, List.setIfInBounds_toArray, List.set_cons_zero, List.set_cons_succ, i64_w, i32_w]
      rfl
     refine done_ (by kernel_rfl) ?_
     try go_wp2
     go_roundg k1
     case measure => have := HK1.out; omega
     case rel => exact ⟨(x3_1), (wrap64 (x5_1 + 1)), (by first | rfl | (simp; done) | (simp [*]; done)), (by first | rfl | (simp; done) | (simp [*]; done)), H', ⟨by have := HK1.out; omega⟩, ⟨by (with_reducible repeat (first | apply bN_ | apply bD_ | apply bA_)); exact BK284.out⟩, ⟨by repeat (first | (with_reducible first | exact HB.out | apply ba_ | apply bn_ | apply bd_ | refine below_set ?_ GE284.out) | exact HB.out)⟩⟩
   ·
    rw [if_neg c3] at H
    have c3b0 : decide (x5_1 < 64) = false := decide_eq_false c3
    clear c3
    obtain rfl := Option.some.inj H
    go_wp2
    go_ret
    exact ⟨by first | rfl | (simp [errW_none, errW_some] <;> rfl) | (simp [*, errW_none, errW_some] <;> rfl), by repeat (first | (with_reducible first | exact HB.out | apply ba_ | apply bn_ | apply bd_ | refine below_set ?_ GE284.out) | exact HB.out)⟩
mutual
def honeycomblaw07_whole.l0 : Nat → List (S104) → Int → Int → Int → Int → Int → Int → Int → Option (Int × Int × Int × Int × Int)
 | 0, _, _, _, _, _, _, _, _ => none
 | k + 1, x23, x24, x25, x706000, x706001, x706002, x706003, x706004 => if x25 < x24 then (if 0 ≤ x25 then (if x25 < (x23.length : Int) then (if (Int.tmod x25 3) = 1 then ((table_Rings.f k ((rd_T104 x23 x25).f0) ((rd_T104 x23 x25).f1)).bind fun t712 => (honeycomblaw07_whole.j1 k x25 x23 x24 x25 x706000 (Go.bits .or .u64 x706001 t712) x706002 x706003 x706004 ((rd_T104 x23 x25).f0) ((rd_T104 x23 x25).f1))) else (honeycomblaw07_whole.j1 k x25 x23 x24 x25 x706000 x706001 x706002 x706003 x706004 ((rd_T104 x23 x25).f0) ((rd_T104 x23 x25).f1))) else (none)) else (none)) else (some (x706000, x706001, x706002, x706003, x706004))
def honeycomblaw07_whole.j1 : Nat → Int → List (S104) → Int → Int → Int → Int → Int → Int → Int → Int → Int → Option (Int × Int × Int × Int × Int)
 | 0, _, _, _, _, _, _, _, _, _, _, _ => none
 | k + 1, x3, x23, x24, x25, x706000, x706001, x706002, x706003, x706004, x712000, x712001 => if (Int.tmod x3 2) = 0 then ((table_Rings.f k x712000 x712001).bind fun t713 => (honeycomblaw07_whole.l0 k x23 x24 (wrap64 (x25 + 1)) x706000 x706001 x706002 (Go.bits .or .u64 x706003 t713) x706004)) else (honeycomblaw07_whole.l0 k x23 x24 (wrap64 (x25 + 1)) x706000 x706001 x706002 x706003 x706004)
end
def honeycomblaw07_whole.f (k : Nat) (a0_0 : Int) (a0_1 : Int) (a0_2 : Int) (a0_3 : Int) (a0_4 : Int) : Option (Int × Int × Int × Int × Int) := if a0_0 = 1 then ((XClasses.f).bind fun t707 => (honeycomblaw07_whole.l0 k t707 (t707.length : Int) 0 a0_0 0 0 0 0)) else (some (a0_0, a0_1, a0_1, a0_3, a0_3))
theorem honeycomblaw07_whole.mono_l : ∀ k, (∀ y0 y1 y2 y3 y4 y5 y6 y7, LeO (honeycomblaw07_whole.l0 k y0 y1 y2 y3 y4 y5 y6 y7) (honeycomblaw07_whole.l0 (k + 1) y0 y1 y2 y3 y4 y5 y6 y7)) ∧ (∀ y0 y1 y2 y3 y4 y5 y6 y7 y8 y9 y10, LeO (honeycomblaw07_whole.j1 k y0 y1 y2 y3 y4 y5 y6 y7 y8 y9 y10) (honeycomblaw07_whole.j1 (k + 1) y0 y1 y2 y3 y4 y5 y6 y7 y8 y9 y10))
 | 0 => ⟨fun _ _ _ _ _ _ _ _ r h => by simp [honeycomblaw07_whole.l0] at h, fun _ _ _ _ _ _ _ _ _ _ _ r h => by simp [honeycomblaw07_whole.j1] at h⟩
 | k + 1 => by
  obtain ⟨ih0, ih1⟩ := honeycomblaw07_whole.mono_l k
  refine ⟨?_, ?_⟩
  ·
   intro y0 y1 y2 y3 y4 y5 y6 y7
   unfold honeycomblaw07_whole.l0
   repeat' first
   | (with_reducible exact ih0 _ _ _ _ _ _ _ _)
   | (with_reducible exact ih1 _ _ _ _ _ _ _ _ _ _ _)
   | (with_reducible exact table_Rings.mono _ _ _)
   | (with_reducible exact LeO.refl _)
   | (with_reducible exact LeO.none _)
   | (with_reducible refine LeO.ite ?_ ?_)
   | (with_reducible refine LeO.bind ?_ (fun _ => ?_))
   | exact ih0 _ _ _ _ _ _ _ _
   | exact ih1 _ _ _ _ _ _ _ _ _ _ _
   | exact table_Rings.mono _ _ _
   | exact LeO.none _
   | refine LeO.ite ?_ ?_
   | refine LeO.bind ?_ (fun _ => ?_)
  ·
   intro y0 y1 y2 y3 y4 y5 y6 y7 y8 y9 y10
   unfold honeycomblaw07_whole.j1
   repeat' first
   | (with_reducible exact ih0 _ _ _ _ _ _ _ _)
   | (with_reducible exact ih1 _ _ _ _ _ _ _ _ _ _ _)
   | (with_reducible exact table_Rings.mono _ _ _)
   | (with_reducible exact LeO.refl _)
   | (with_reducible exact LeO.none _)
   | (with_reducible refine LeO.ite ?_ ?_)
   | (with_reducible refine LeO.bind ?_ (fun _ => ?_))
   | exact ih0 _ _ _ _ _ _ _ _
   | exact ih1 _ _ _ _ _ _ _ _ _ _ _
   | exact table_Rings.mono _ _ _
   | exact LeO.none _
   | refine LeO.ite ?_ ?_
   | refine LeO.bind ?_ (fun _ => ?_)
theorem honeycomblaw07_whole.mono : ∀ a0 a1 a2 a3 a4 k, LeO (honeycomblaw07_whole.f k a0 a1 a2 a3 a4) (honeycomblaw07_whole.f (k + 1) a0 a1 a2 a3 a4) := by
 intro a0 a1 a2 a3 a4 k
 obtain ⟨ih0, ih1⟩ := honeycomblaw07_whole.mono_l k
 unfold honeycomblaw07_whole.f
 repeat' first
   | (with_reducible exact ih0 _ _ _ _ _ _ _ _)
   | (with_reducible exact ih1 _ _ _ _ _ _ _ _ _ _ _)
   | (with_reducible exact table_Rings.mono _ _ _)
   | (with_reducible exact LeO.refl _)
   | (with_reducible exact LeO.none _)
   | (with_reducible refine LeO.ite ?_ ?_)
   | (with_reducible refine LeO.bind ?_ (fun _ => ?_))
   | exact ih0 _ _ _ _ _ _ _ _
   | exact ih1 _ _ _ _ _ _ _ _ _ _ _
   | exact table_Rings.mono _ _ _
   | exact LeO.none _
   | refine LeO.ite ?_ ?_
   | refine LeO.bind ?_ (fun _ => ?_)
def honeycomblaw07_whole.T9 : Bool × List (List Nat × List Nat) := (true, [([], []), ([0], [0]), ([1], [1]), ([], []), ([3], [3]), ([2, 4], [2, 4]), ([], []), ([6, 0, 1, 2, 3, 4, 5], [6]), ([7, 5, 4, 0, 1, 2, 3, 4, 5], [5, 7])])
def honeycomblaw07_whole.B9 : List Nat := [0, 1, 3, 0, 8, 31, 0, 127, 255]
theorem honeycomblaw07_whole.tab9 : rtab .any (opsOf Tryd.f39 9) = honeycomblaw07_whole.T9 := by kernel_rfl
theorem honeycomblaw07_whole.bits9 : waitsOk honeycomblaw07_whole.T9.2 honeycomblaw07_whole.B9 = true := by kernel_rfl
def honeycomblaw07_whole.T11 : Bool × List (List Nat × List Nat) := (true, [([], []), ([0], [0]), ([1], [1]), ([], []), ([3], [3]), ([2, 4], [2, 4]), ([], []), ([6, 0, 1, 2, 3, 4, 5], [6]), ([7, 5, 4, 0, 1, 2, 3, 4, 5], [5, 7])])
def honeycomblaw07_whole.B11 : List Nat := [0, 1, 3, 0, 8, 31, 0, 127, 255]
theorem honeycomblaw07_whole.tab11 : rtab .any (opsOf Tryd.f39 11) = honeycomblaw07_whole.T11 := by kernel_rfl
theorem honeycomblaw07_whole.bits11 : waitsOk honeycomblaw07_whole.T11.2 honeycomblaw07_whole.B11 = true := by kernel_rfl
set_option maxHeartbeats 8000000 in
set_option maxRecDepth 100000 in
theorem honeycomblaw07_whole.calls (k : Nat) (a0_0 : Int) (a0_1 : Int) (a0_2 : Int) (a0_3 : Int) (a0_4 : Int) (r1 : Int) (r2 : Int) (r3 : Int) (r4 : Int) (r5 : Int) (w : World) (h : honeycomblaw07_whole.f k a0_0 a0_1 a0_2 a0_3 a0_4 = some (r1, r2, r3, r4, r5)) :
  Calls Tryd.prog 39 #[.agg #[.int .i64 a0_0, .int .u64 a0_1, .int .u64 a0_2, .int .u64 a0_3, .int .u64 a0_4]] w fun e w' => e = .returned (.agg #[.int .i64 r1, .int .u64 r2, .int .u64 r3, .int .u64 r4, .int .u64 r5]) ∧ Below w.heap.size w w' := by
 have hu29 := Tryd.underlying29
 have hu23 := Tryd.underlying23
 have hu104 := Tryd.underlying104
 have HB := Aside0.mk (Below.refl w.heap.size w)
 have H : (if a0_0 = 1 then ((XClasses.f).bind fun t707 => (honeycomblaw07_whole.l0 k t707 (t707.length : Int) 0 a0_0 0 0 0 0)) else (some (a0_0, a0_1, a0_1, a0_3, a0_3))) = some (r1, r2, r3, r4, r5) := h
 clear h
 by_cases c2 : a0_0 = 1
 ·
  rw [if_pos c2] at H
  have c2b0 : (a0_0 == 1) = true := beq_iff_eq.mpr c2
  have c2b1 : (a0_0 != 1) = false := bne_eq_false_iff_eq.mpr c2
  clear c2
  replace H := Option.bind_eq_some_iff.mp H
  obtain ⟨t707, A30, H⟩ := H
  replace H : (honeycomblaw07_whole.l0 k t707 (t707.length : Int) 0 a0_0 0 0 0 0) = some (r1, r2, r3, r4, r5) := H
  have A3 := Aside0.mk A30
  clear A30
  have H' := Aside0.mk H
  clear H
  go_enter Tryd.func39, Tryd.ntmps39
  go_wp2_with (first | ((with_reducible refine gate_dst (N := 1) rfl ?_); refine box_event ?hg (N := 1) ?hd (cs := #[.int .i64 a0_0, .int .u64 a0_1, .int .u64 a0_2, .int .u64 a0_3, .int .u64 a0_4]) (t := 29) ?hr ?_; (case hd => rfl); (case hg => rfl); (case hr => first | (go_simp; done) | (go_simp; rfl)); intro gb705 hg w4 hbox hb; have n0_ := Aside0.mk (below_step (by repeat (first | (with_reducible first | exact HB.out | apply ba_ | apply bn_ | apply bd_) | exact HB.out)) hb); have n1_ := Aside0.mk (hbox); have n2_ := Aside0.mk ((by rw [hg]; exact (below_size (by repeat (first | (with_reducible first | exact HB.out | apply ba_ | apply bn_ | apply bd_) | exact HB.out))) : w.heap.size ≤ gb705)); have n3_ := Aside0.mk ((by rw [hg]; exact (below_size (by repeat (first | (with_reducible first | exact HB.out | apply ba_ | apply bn_ | apply bd_) | exact HB.out))) : w.heap.size ≤ gb705)); clear HB; have HB := n0_; have BK705 := n1_; have GW705 := n2_; have GE705 := n3_; clear n0_ n1_ n2_ n3_; clear hb hbox hg) | ((with_reducible refine gate_dst (N := 2) rfl ?_); refine box_event ?hg (N := 2) ?hd (cs := #[.int .i64 0, .int .u64 0, .int .u64 0, .int .u64 0, .int .u64 0]) (t := 29) ?hr ?_; (case hd => rfl); (case hg => rfl); (case hr => first | (go_simp; done) | (go_simp; rfl)); intro gb706 hg w5 hbox hb; have n0_ := Aside0.mk (blk_below (g := gb705) (o := .cells #[.int .i64 a0_0, .int .u64 a0_1, .int .u64 a0_2, .int .u64 a0_3, .int .u64 a0_4] 29 (0, 0)) (by (with_reducible repeat (first | apply bN_ | apply bD_ | apply bA_)); exact BK705.out) hb); have n1_ := Aside0.mk (below_step (by repeat (first | (with_reducible first | exact HB.out | apply ba_ | apply bn_ | apply bd_ | refine below_set ?_ GE705.out) | exact HB.out)) hb); have n2_ := Aside0.mk (hbox); have n3_ := Aside0.mk ((by rw [hg]; exact (below_size (by repeat (first | (with_reducible first | exact HB.out | apply ba_ | apply bn_ | apply bd_ | refine below_set ?_ GE705.out) | exact HB.out))) : w.heap.size ≤ gb706)); have n4_ := Aside0.mk ((by rw [hg]; exact (below_size (by repeat (first | (with_reducible first | exact HB.out | apply ba_ | apply bn_ | apply bd_ | refine below_set ?_ GE705.out) | exact HB.out))) : w.heap.size ≤ gb706)); have n5_ := Aside0.mk ((by rw [hg]; exact Nat.ne_of_lt (blk_lt (g := gb705) (o := .cells #[.int .i64 a0_0, .int .u64 a0_1, .int .u64 a0_2, .int .u64 a0_3, .int .u64 a0_4] 29 (0, 0)) (by (with_reducible repeat (first | apply bN_ | apply bD_ | apply bA_)); exact BK705.out)) : gb705 ≠ gb706)); have n6_ := Aside0.mk ((by rw [hg]; exact Nat.ne_of_gt (blk_lt (g := gb705) (o := .cells #[.int .i64 a0_0, .int .u64 a0_1, .int .u64 a0_2, .int .u64 a0_3, .int .u64 a0_4] 29 (0, 0)) (by (with_reducible repeat (first | apply bN_ | apply bD_ | apply bA_)); exact BK705.out)) : gb706 ≠ gb705)); clear BK705; clear HB; have BK705 := n0_; have HB := n1_; have BK706 := n2_; have GW706 := n3_; have GE706 := n4_; have NB705_706 := n5_; have NB706_705 := n6_; clear n0_ n1_ n2_ n3_ n4_ n5_ n6_; clear hb hbox hg; have hnb6 := NB705_706.out; have hnc6 := NB706_705.out; have hcz7_0 : w5.cell? ⟨gb705, 0, none⟩ = some (.int .i64 a0_0) := (blk_cell BK705.out 0).trans rfl; have hcz7_1 : w5.cell? ⟨gb705, 1, none⟩ = some (.int .u64 a0_1) := (blk_cell BK705.out 1).trans rfl; have hcz7_2 : w5.cell? ⟨gb705, 2, none⟩ = some (.int .u64 a0_2) := (blk_cell BK705.out 2).trans rfl; have hcz7_3 : w5.cell? ⟨gb705, 3, none⟩ = some (.int .u64 a0_3) := (blk_cell BK705.out 3).trans rfl; have hcz7_4 : w5.cell? ⟨gb705, 4, none⟩ = some (.int .u64 a0_4) := (blk_cell BK705.out 4).trans rfl; have hfz7_0 := blk_frozen BK705.out 0; have hfz7_1 := blk_frozen BK705.out 1; have hfz7_2 := blk_frozen BK705.out 2; have hfz7_3 := blk_frozen BK705.out 3; have hfz7_4 := blk_frozen BK705.out 4) | ((with_reducible refine gate_callee (f := 78) rfl ?_); refine goesL_ (some 23) rfl rfl Tryd.func78 (by kernel_rfl) rfl #[] rfl (by (try simp only [List.map_toArray, List.map_cons, List.map_nil]); first | done | rfl | (simp only [List.length_drop, List.length_take]; rfl)) ?_; (with_reducible refine (XClasses.calls  t707 _ A3.out).mono ?_); rintro e w8 ⟨v708, rfl, ho0, hb⟩; refine ⟨_, rfl, ?_⟩; have n0_ := Aside0.mk (Kd.R_lower ho0 (below_size (by repeat (first | (with_reducible first | exact HB.out | apply ba_ | apply bn_ | apply bd_ | refine below_set ?_ GE705.out | refine below_set ?_ GE706.out) | exact HB.out)))); have n1_ := Aside0.mk (blk_below (g := gb705) (o := .cells #[.int .i64 a0_0, .int .u64 0, .int .u64 0, .int .u64 0, .int .u64 0] 29 (0, 0)) (by (with_reducible repeat (first | apply bN_ | apply bD_ | apply bA_)); refine blk_put (cs := #[.int .i64 a0_0, .int .u64 0, .int .u64 0, .int .u64 0, .int .u64 a0_3]) ?_ 4 _ rfl; (with_reducible repeat (first | apply bN_ | apply bD_ | apply bA_)); refine blk_put (cs := #[.int .i64 a0_0, .int .u64 0, .int .u64 0, .int .u64 a0_3, .int .u64 a0_3]) ?_ 3 _ rfl; (with_reducible repeat (first | apply bN_ | apply bD_ | apply bA_)); refine blk_put (cs := #[.int .i64 a0_0, .int .u64 0, .int .u64 a0_1, .int .u64 a0_3, .int .u64 a0_3]) ?_ 2 _ rfl; (with_reducible repeat (first | apply bN_ | apply bD_ | apply bA_)); refine blk_put (cs := #[.int .i64 a0_0, .int .u64 a0_1, .int .u64 a0_1, .int .u64 a0_3, .int .u64 a0_3]) ?_ 1 _ rfl; (with_reducible repeat (first | apply bN_ | apply bD_ | apply bA_)); refine blk_put (cs := #[.int .i64 a0_0, .int .u64 a0_1, .int .u64 a0_1, .int .u64 a0_3, .int .u64 a0_4]) ?_ 4 _ rfl; (with_reducible repeat (first | apply bN_ | apply bD_ | apply bA_)); refine blk_put (cs := #[.int .i64 a0_0, .int .u64 a0_1, .int .u64 a0_2, .int .u64 a0_3, .int .u64 a0_4]) ?_ 2 _ rfl; (with_reducible repeat (first | apply bN_ | apply bD_ | apply bA_)); exact BK705.out) hb); have n2_ := Aside0.mk (blk_below (g := gb706) (o := .cells #[.int .i64 0, .int .u64 0, .int .u64 0, .int .u64 0, .int .u64 0] 29 (0, 0)) (by (with_reducible repeat (first | apply bN_ | apply bD_ | apply bA_)); refine blk_far ?_ NB706_705.out _; (with_reducible repeat (first | apply bN_ | apply bD_ | apply bA_)); refine blk_far ?_ NB706_705.out _; (with_reducible repeat (first | apply bN_ | apply bD_ | apply bA_)); refine blk_far ?_ NB706_705.out _; (with_reducible repeat (first | apply bN_ | apply bD_ | apply bA_)); refine blk_far ?_ NB706_705.out _; (with_reducible repeat (first | apply bN_ | apply bD_ | apply bA_)); refine blk_far ?_ NB706_705.out _; (with_reducible repeat (first | apply bN_ | apply bD_ | apply bA_)); refine blk_far ?_ NB706_705.out _; (with_reducible repeat (first | apply bN_ | apply bD_ | apply bA_)); exact BK706.out) hb); have n3_ := Aside0.mk (below_step (by repeat (first | (with_reducible first | exact HB.out | apply ba_ | apply bn_ | apply bd_ | refine below_set ?_ GE705.out | refine below_set ?_ GE706.out) | exact HB.out)) hb); clear BK705; clear BK706; clear HB; have HO709 := n0_; have BK705 := n1_; have BK706 := n2_; have HB := n3_; clear n0_ n1_ n2_ n3_; (try clear hb); (try clear hb2); (try clear hk); (try clear hi); (try clear ho0); obtain ⟨Ao9, co9, eo9⟩ := Kd.R_slice HO709.out; subst eo9))
  go_loopg [25] k (fun kq v25 w' => ∃ (x25_1 : Int) (x706001_1 : Int) (x706002_1 : Int) (x706003_1 : Int) (x706004_1 : Int), v25 = .int .i64 x25_1 ∧ Aside0 (honeycomblaw07_whole.l0 kq t707 (t707.length : Int) x25_1 a0_0 x706001_1 x706002_1 x706003_1 x706004_1 = some (r1, r2, r3, r4, r5)) ∧ Aside0 (kq ≤ k) ∧ Aside0 (Kd.R k104 104 w' w.heap.size (fun _ => True) (.slice Ao9 t707.length co9) t707) ∧ Aside0 (w'.heap[gb705]? = some (.cells #[.int .i64 a0_0, .int .u64 x706001_1, .int .u64 x706002_1, .int .u64 x706003_1, .int .u64 x706004_1] 29 (0, 0))) ∧ Aside0 (w'.heap[gb706]? = some (.cells #[.int .i64 0, .int .u64 0, .int .u64 0, .int .u64 0, .int .u64 0] 29 (0, 0))) ∧ Aside0 (Below w.heap.size w w'))
  case atStart => exact ⟨(0), (0), (0), (0), (0), (by first | rfl | (simp; done) | (simp [*]; done)), H', ⟨Nat.le_refl _⟩, ⟨by (with_reducible repeat (first | apply Kd.R_alloc | apply Kd.R_drewN | apply Kd.R_drew)); exact HO709.out⟩, ⟨by (with_reducible repeat (first | apply bN_ | apply bD_ | apply bA_)); exact BK705.out⟩, ⟨by (with_reducible repeat (first | apply bN_ | apply bD_ | apply bA_)); exact BK706.out⟩, ⟨by repeat (first | (with_reducible first | exact HB.out | apply ba_ | apply bn_ | apply bd_ | refine below_set ?_ GE705.out | refine below_set ?_ GE706.out) | exact HB.out)⟩⟩
  case round =>
   clear H'
   try clear c2
   try clear c2b0
   try clear c2b1
   try clear p2
   try clear c3
   try clear c6
   try clear c7
   try clear hcz7_0
   try clear hcz7_1
   try clear hcz7_2
   try clear hcz7_3
   try clear hcz7_4
   try clear hfz7_0
   try clear hfz7_1
   try clear hfz7_2
   try clear hfz7_3
   try clear hfz7_4
   obtain ⟨x25_1, x706001_1, x706002_1, x706003_1, x706004_1, rfl, HA, HK1, HO_23, BK705, BK706, HB⟩ := hrel
   cases gk with
   | zero => exact absurd HA.out (by simp [honeycomblaw07_whole.l0])
   | succ k1 =>
    have H := HA.out
    clear HA
    simp only [honeycomblaw07_whole.l0] at H
    by_cases c10 : x25_1 < (t707.length : Int)
    ·
     rw [if_pos c10] at H
     have c10b0 : decide (x25_1 < (t707.length : Int)) = true := decide_eq_true c10
     clear c10
     by_cases c11 : 0 ≤ x25_1
     ·
      rw [if_pos c11] at H
      have c11b0 : decide (0 ≤ x25_1) = true := decide_eq_true c11
      clear c11
      by_cases c12 : x25_1 < (t707.length : Int)
      ·
       rw [if_pos c12] at H
       have c12b0 : decide (x25_1 < (t707.length : Int)) = true := decide_eq_true c12
       clear c12
       have HC13 := Aside0.mk H
       clear H
       have p710 : 0 ≤ (x25_1 : Int) := of_decide_eq_true (by first | (with_reducible assumption) | assumption)
       have q710 : x25_1 < (t707.length : Int) := of_decide_eq_true (by first | (with_reducible assumption) | assumption)
       obtain ⟨ad710, e710, hx710_0, hx710_1⟩ := at_T104 (Kd.R_reads' HO_23.out).2.2 x25_1 p710 q710
       cases e710
       replace p710 := eq_true p710
       replace q710 := eq_true q710
       go_upto_if 32 with (first | ((with_reducible refine gate_dst (N := 4) rfl ?_); refine box_event ?hg (N := 4) ?hd (cs := #[.int .i64 0, .int .u8 0]) (t := 104) ?hr ?_; (case hd => rfl); (case hg => rfl); (case hr => first | (go_simp; done) | (go_simp; rfl)); intro gb711 hg w14 hbox hb; have n0_ := Aside0.mk (Kd.R_below (Kd.R_elderB (by (with_reducible repeat (first | apply Kd.R_alloc | apply Kd.R_drewN | apply Kd.R_drew)); exact HO_23.out) gb711 (Nat.le_of_eq hg.symm)) hb); have n1_ := Aside0.mk (blk_below (g := gb705) (o := .cells #[.int .i64 a0_0, .int .u64 x706001_1, .int .u64 x706002_1, .int .u64 x706003_1, .int .u64 x706004_1] 29 (0, 0)) (by (with_reducible repeat (first | apply bN_ | apply bD_ | apply bA_)); exact BK705.out) hb); have n2_ := Aside0.mk (blk_below (g := gb706) (o := .cells #[.int .i64 0, .int .u64 0, .int .u64 0, .int .u64 0, .int .u64 0] 29 (0, 0)) (by (with_reducible repeat (first | apply bN_ | apply bD_ | apply bA_)); exact BK706.out) hb); have n3_ := Aside0.mk (below_step (by repeat (first | (with_reducible first | exact HB.out | apply ba_ | apply bn_ | apply bd_ | refine below_set ?_ GE705.out | refine below_set ?_ GE706.out) | exact HB.out)) hb); have n4_ := Aside0.mk (hbox); have n5_ := Aside0.mk ((by rw [hg]; exact (below_size (by repeat (first | (with_reducible first | exact HB.out | apply ba_ | apply bn_ | apply bd_ | refine below_set ?_ GE705.out | refine below_set ?_ GE706.out) | exact HB.out))) : w.heap.size ≤ gb711)); have n6_ := Aside0.mk ((by rw [hg]; exact (below_size (by repeat (first | (with_reducible first | exact HB.out | apply ba_ | apply bn_ | apply bd_ | refine below_set ?_ GE705.out | refine below_set ?_ GE706.out) | exact HB.out))) : w.heap.size ≤ gb711)); have n7_ := Aside0.mk ((by rw [hg]; exact Nat.ne_of_lt (blk_lt (g := gb705) (o := .cells #[.int .i64 a0_0, .int .u64 x706001_1, .int .u64 x706002_1, .int .u64 x706003_1, .int .u64 x706004_1] 29 (0, 0)) (by (with_reducible repeat (first | apply bN_ | apply bD_ | apply bA_)); exact BK705.out)) : gb705 ≠ gb711)); have n8_ := Aside0.mk ((by rw [hg]; exact Nat.ne_of_gt (blk_lt (g := gb705) (o := .cells #[.int .i64 a0_0, .int .u64 x706001_1, .int .u64 x706002_1, .int .u64 x706003_1, .int .u64 x706004_1] 29 (0, 0)) (by (with_reducible repeat (first | apply bN_ | apply bD_ | apply bA_)); exact BK705.out)) : gb711 ≠ gb705)); have n9_ := Aside0.mk ((by rw [hg]; exact Nat.ne_of_lt (blk_lt (g := gb706) (o := .cells #[.int .i64 0, .int .u64 0, .int .u64 0, .int .u64 0, .int .u64 0] 29 (0, 0)) (by (with_reducible repeat (first | apply bN_ | apply bD_ | apply bA_)); exact BK706.out)) : gb706 ≠ gb711)); have n10_ := Aside0.mk ((by rw [hg]; exact Nat.ne_of_gt (blk_lt (g := gb706) (o := .cells #[.int .i64 0, .int .u64 0, .int .u64 0, .int .u64 0, .int .u64 0] 29 (0, 0)) (by (with_reducible repeat (first | apply bN_ | apply bD_ | apply bA_)); exact BK706.out)) : gb711 ≠ gb706)); clear HO_23; clear BK705; clear BK706; clear HB; have HO_23 := n0_; have BK705 := n1_; have BK706 := n2_; have HB := n3_; have BK711 := n4_; have GW711 := n5_; have GE711 := n6_; have NB705_711 := n7_; have NB711_705 := n8_; have NB706_711 := n9_; have NB711_706 := n10_; clear n0_ n1_ n2_ n3_ n4_ n5_ n6_ n7_ n8_ n9_ n10_; clear hb hbox hg; have hnb15 := NB711_705.out; have hnc15 := NB705_711.out; have hnb16 := NB711_706.out; have hnc16 := NB706_711.out; have hcz17_0 : w14.cell? ⟨gb711, 0, none⟩ = some (.int .i64 0) := (blk_cell BK711.out 0).trans rfl; have hcz17_1 : w14.cell? ⟨gb711, 1, none⟩ = some (.int .u8 0) := (blk_cell BK711.out 1).trans rfl; have hfz17_0 := blk_frozen BK711.out 0; have hfz17_1 := blk_frozen BK711.out 1))
       (try simp only [Act.put, List.setIfInBounds_toArray, List.set_cons_zero, List.set_cons_succ])
       go_cut [] (fun wc => ∃ (kq : Nat) (x706001_12 : Int) (x706002_12 : Int), Aside0 (honeycomblaw07_whole.j1 kq x25_1 t707 (t707.length : Int) x25_1 a0_0 x706001_12 x706002_12 x706003_1 x706004_1 ((rd_T104 t707 x25_1).f0) ((rd_T104 t707 x25_1).f1) = some (r1, r2, r3, r4, r5)) ∧ Aside0 (kq ≤ k1) ∧ Aside0 (Kd.R k104 104 wc w.heap.size (fun k_ => k_ ≠ gb711) (.slice (some ad710) t707.length co9) t707) ∧ Aside0 (wc.heap[gb705]? = some (.cells #[.int .i64 a0_0, .int .u64 x706001_12, .int .u64 x706002_12, .int .u64 x706003_1, .int .u64 x706004_1] 29 (0, 0))) ∧ Aside0 (wc.heap[gb706]? = some (.cells #[.int .i64 0, .int .u64 0, .int .u64 0, .int .u64 0, .int .u64 0] 29 (0, 0))) ∧ Aside0 (wc.heap[gb711]? = some (.cells #[.int .i64 ((rd_T104 t707 x25_1).f0), .int .u8 ((rd_T104 t707 x25_1).f1)] 104 (0, 0))) ∧ Aside0 (Below w.heap.size w wc))
       case first =>
        have H := HC13.out
        clear HC13
        by_cases c18 : (Int.tmod x25_1 3) = 1
        ·
         rw [if_pos c18] at H
         have c18b0 : ((Int.tmod x25_1 3) == 1) = true := beq_iff_eq.mpr c18
         have c18b1 : ((Int.tmod x25_1 3) != 1) = false := bne_eq_false_iff_eq.mpr c18
         clear c18
         (first | rw [c18b0] | (simp only [i64_w, i32_w]; rw [c18b0]) | skip)
         replace H := Option.bind_eq_some_iff.mp H
         obtain ⟨t712, A190, H⟩ := H
         replace H : (honeycomblaw07_whole.j1 k1 x25_1 t707 (t707.length : Int) x25_1 a0_0 (Go.bits .or .u64 x706001_1 t712) x706002_1 x706003_1 x706004_1 ((rd_T104 t707 x25_1).f0) ((rd_T104 t707 x25_1).f1)) = some (r1, r2, r3, r4, r5) := H
         have A19 := Aside0.mk A190
         clear A190
         have H' := Aside0.mk H
         clear H
         try go_wp2
         have n0_ : Aside0 (Kd.R k104 104 ((w14.setCell ⟨gb711, 0, none⟩ (.int .i64 ((rd_T104 t707 x25_1).f0))).setCell ⟨gb711, 1, none⟩ (.int .u8 ((rd_T104 t707 x25_1).f1))) w.heap.size (fun k_ => k_ ≠ gb711) (.slice (some ad710) t707.length co9) t707) := ⟨by (with_reducible repeat (first | apply Kd.R_alloc | apply Kd.R_drewN | apply Kd.R_drew)); exact Kd.R_mono (Kd.R_far (p := ⟨gb711, 1, none⟩) (Kd.R_far (p := ⟨gb711, 0, none⟩) (Kd.R_mono HO_23.out (fun k_ hk => (⟨hk, hk.2⟩ : _ ∧ k_ ≠ gb711))) (fun _ hk => hk.2) (.int .i64 ((rd_T104 t707 x25_1).f0))) (fun _ hk => hk.2) (.int .u8 ((rd_T104 t707 x25_1).f1))) (fun _ hk => hk.1.2)⟩
         have n1_ : Aside0 (((w14.setCell ⟨gb711, 0, none⟩ (.int .i64 ((rd_T104 t707 x25_1).f0))).setCell ⟨gb711, 1, none⟩ (.int .u8 ((rd_T104 t707 x25_1).f1))).heap[gb705]? = some (.cells #[.int .i64 a0_0, .int .u64 x706001_1, .int .u64 x706002_1, .int .u64 x706003_1, .int .u64 x706004_1] 29 (0, 0))) := ⟨by (with_reducible repeat (first | apply bN_ | apply bD_ | apply bA_)); refine blk_far ?_ NB705_711.out _; (with_reducible repeat (first | apply bN_ | apply bD_ | apply bA_)); refine blk_far ?_ NB705_711.out _; (with_reducible repeat (first | apply bN_ | apply bD_ | apply bA_)); exact BK705.out⟩
         have n2_ : Aside0 (((w14.setCell ⟨gb711, 0, none⟩ (.int .i64 ((rd_T104 t707 x25_1).f0))).setCell ⟨gb711, 1, none⟩ (.int .u8 ((rd_T104 t707 x25_1).f1))).heap[gb706]? = some (.cells #[.int .i64 0, .int .u64 0, .int .u64 0, .int .u64 0, .int .u64 0] 29 (0, 0))) := ⟨by (with_reducible repeat (first | apply bN_ | apply bD_ | apply bA_)); refine blk_far ?_ NB706_711.out _; (with_reducible repeat (first | apply bN_ | apply bD_ | apply bA_)); refine blk_far ?_ NB706_711.out _; (with_reducible repeat (first | apply bN_ | apply bD_ | apply bA_)); exact BK706.out⟩
         have n3_ : Aside0 (((w14.setCell ⟨gb711, 0, none⟩ (.int .i64 ((rd_T104 t707 x25_1).f0))).setCell ⟨gb711, 1, none⟩ (.int .u8 ((rd_T104 t707 x25_1).f1))).heap[gb711]? = some (.cells #[.int .i64 ((rd_T104 t707 x25_1).f0), .int .u8 ((rd_T104 t707 x25_1).f1)] 104 (0, 0))) := ⟨by (with_reducible repeat (first | apply bN_ | apply bD_ | apply bA_)); refine blk_put (cs := #[.int .i64 ((rd_T104 t707 x25_1).f0), .int .u8 0]) ?_ 1 _ rfl; (with_reducible repeat (first | apply bN_ | apply bD_ | apply bA_)); refine blk_put (cs := #[.int .i64 0, .int .u8 0]) ?_ 0 _ rfl; (with_reducible repeat (first | apply bN_ | apply bD_ | apply bA_)); exact BK711.out⟩
         have n4_ : Aside0 (Below w.heap.size w ((w14.setCell ⟨gb711, 0, none⟩ (.int .i64 ((rd_T104 t707 x25_1).f0))).setCell ⟨gb711, 1, none⟩ (.int .u8 ((rd_T104 t707 x25_1).f1)))) := ⟨by repeat (first | (with_reducible first | exact HB.out | apply ba_ | apply bn_ | apply bd_ | refine below_set ?_ GE705.out | refine below_set ?_ GE706.out | refine below_set ?_ GE711.out) | exact HB.out)⟩
         (try clear HO_23)
         (try clear BK705)
         (try clear BK706)
         (try clear BK711)
         (try clear HB)
         generalize ((w14.setCell ⟨gb711, 0, none⟩ (.int .i64 ((rd_T104 t707 x25_1).f0))).setCell ⟨gb711, 1, none⟩ (.int .u8 ((rd_T104 t707 x25_1).f1))) = w20 at n0_ n1_ n2_ n3_ n4_ ⊢
         have HO_23 := n0_
         have BK705 := n1_
         have BK706 := n2_
         have BK711 := n3_
         have HB := n4_
         clear n0_ n1_ n2_ n3_ n4_
         have n0_ := Aside0.mk (Kd.R_drew HO_23.out)
         have n1_ := Aside0.mk (blk_drew BK705.out)
         have n2_ := Aside0.mk (blk_drew BK706.out)
         have n3_ := Aside0.mk (blk_drew BK711.out)
         have n4_ := Aside0.mk (below_drew1 HB.out)
         clear HO_23
         clear BK705
         clear BK706
         clear BK711
         clear HB
         have HO_23 := n0_
         have BK705 := n1_
         have BK706 := n2_
         have BK711 := n3_
         have HB := n4_
         clear n0_ n1_ n2_ n3_ n4_
         refine start_ (n := 9) (S := fun w' => w'.cell? ⟨gb705, 0, none⟩ = some (.int .i64 a0_0) ∧ w'.cell? ⟨gb705, 1, none⟩ = some (.int .u64 x706001_1) ∧ w'.cell? ⟨gb705, 2, none⟩ = some (.int .u64 x706002_1) ∧ w'.cell? ⟨gb705, 3, none⟩ = some (.int .u64 x706003_1) ∧ w'.cell? ⟨gb705, 4, none⟩ = some (.int .u64 x706004_1) ∧ w'.cell? ⟨gb711, 0, none⟩ = some (.int .i64 ((rd_T104 t707 x25_1).f0)) ∧ w'.cell? ⟨gb711, 1, none⟩ = some (.int .u8 ((rd_T104 t707 x25_1).f1))) (ds := [8]) #[false, false, false, false, false, false, false, false, false] (by kernel_rfl) rfl rfl ⟨(blk_cell BK705.out 0).trans rfl, (blk_cell BK705.out 1).trans rfl, (blk_cell BK705.out 2).trans rfl, (blk_cell BK705.out 3).trans rfl, (blk_cell BK705.out 4).trans rfl, (blk_cell BK711.out 0).trans rfl, (blk_cell BK711.out 1).trans rfl⟩ (fun hHeld => ?_); refine with_tabW honeycomblaw07_whole.tab9 honeycomblaw07_whole.bits9 (fun HT_ HW_ => ?_)
         generalize w20.drew = w21 at HO_23 BK705 BK706 BK711 HB hHeld ⊢
         refine pure_ (i := 0) (N := some 33) (v := ?_) (a' := ?_) #[true, false, false, false, false, false, false, false, false] rfl rfl (any_of HT_.out (by kernel_rfl)) (fun _ _ _ h => h) (Or.inl ⟨by rfl, ?_⟩) ?_ ?_
         rotate_left
         ·
          intro w'
          go_simp
          with_reducible rfl
         rotate_left
         ·
          simp only [Act.put, List.setIfInBounds_toArray, List.set_cons_zero, List.set_cons_succ, i64_w, i32_w]
          rfl
         refine pure_ (i := 1) (N := some 34) (v := ?_) (a' := ?_) #[true, true, false, false, false, false, false, false, false] rfl rfl (any_of HT_.out (by kernel_rfl)) (fun _ _ _ h => h) (Or.inl ⟨by rfl, ?_⟩) ?_ ?_
         rotate_left
         ·
          intro w'
          go_simp
          with_reducible rfl
         rotate_left
         ·
          simp only [Act.put, List.setIfInBounds_toArray, List.set_cons_zero, List.set_cons_succ, i64_w, i32_w]
          rfl
         refine pure_ (i := 6) (N := some 39) (v := ?_) (a' := ?_) #[true, true, false, false, false, false, true, false, false] rfl rfl (any_of HT_.out (by kernel_rfl)) (fun _ _ _ h => h) (Or.inl ⟨by rfl, ?_⟩) ?_ ?_
         rotate_left
         ·
          intro w'
          go_simp
          with_reducible rfl
         rotate_left
         ·
          simp only [Act.put, List.setIfInBounds_toArray, List.set_cons_zero, List.set_cons_succ, i64_w, i32_w]
          rfl
         refine take_ (i := 2) (N := some 35) (v := ?_) (a' := ?_) #[true, true, true, false, false, false, true, false, false] rfl rfl (take_ofW HT_.out HW_.out (by kernel_rfl)) (fun _ _ _ h => h) (Or.inl ⟨by rfl, ?_⟩) hHeld ?_ ?_
         rotate_left
         ·
          rintro w' ⟨s0, s1, s2, s3, s4, s5, s6⟩
          go_simp
          with_reducible rfl
         rotate_left
         ·
          simp only [Act.put, List.setIfInBounds_toArray, List.set_cons_zero, List.set_cons_succ, i64_w, i32_w]
          rfl
         refine take_ (i := 3) (N := some 36) (v := ?_) (a' := ?_) #[true, true, true, true, false, false, true, false, false] rfl rfl (take_ofW HT_.out HW_.out (by kernel_rfl)) (fun _ _ _ h => h) (Or.inl ⟨by rfl, ?_⟩) hHeld ?_ ?_
         rotate_left
         ·
          rintro w' ⟨s0, s1, s2, s3, s4, s5, s6⟩
          go_simp
          with_reducible rfl
         rotate_left
         ·
          simp only [Act.put, List.setIfInBounds_toArray, List.set_cons_zero, List.set_cons_succ, i64_w, i32_w]
          rfl
         refine one_ (i := 4) (N := some 37) #[true, true, true, true, true, false, true, false, false] rfl rfl (one_of HT_.out (by kernel_rfl)) (by decide) (fun K hK => ?_)
         refine goes_ Tryd.func59 (by kernel_rfl) rfl #[.agg #[.int .i64 ((rd_T104 t707 x25_1).f0), .int .u8 ((rd_T104 t707 x25_1).f1)]] (by rfl) rfl rfl (by (try simp only [List.map_toArray, List.map_cons, List.map_nil]); first | done | rfl | (simp only [List.length_drop, List.length_take]; rfl)) ?_
         with_reducible refine (table_Rings.calls k1 ((rd_T104 t707 x25_1).f0) ((rd_T104 t707 x25_1).f1) t712 _ A19.out).mono ?_
         rintro e w22 ⟨rfl, hb⟩
         refine ⟨_, rfl, ?_⟩
         have n0_ := Aside0.mk (Kd.R_below (by (with_reducible repeat (first | apply Kd.R_alloc | apply Kd.R_drewN | apply Kd.R_drew)); exact HO_23.out) hb)
         have n1_ := Aside0.mk (blk_below (g := gb705) (o := .cells #[.int .i64 a0_0, .int .u64 x706001_1, .int .u64 x706002_1, .int .u64 x706003_1, .int .u64 x706004_1] 29 (0, 0)) (by (with_reducible repeat (first | apply bN_ | apply bD_ | apply bA_)); exact BK705.out) hb)
         have n2_ := Aside0.mk (blk_below (g := gb706) (o := .cells #[.int .i64 0, .int .u64 0, .int .u64 0, .int .u64 0, .int .u64 0] 29 (0, 0)) (by (with_reducible repeat (first | apply bN_ | apply bD_ | apply bA_)); exact BK706.out) hb)
         have n3_ := Aside0.mk (blk_below (g := gb711) (o := .cells #[.int .i64 ((rd_T104 t707 x25_1).f0), .int .u8 ((rd_T104 t707 x25_1).f1)] 104 (0, 0)) (by (with_reducible repeat (first | apply bN_ | apply bD_ | apply bA_)); exact BK711.out) hb)
         have n4_ := Aside0.mk (below_step (by repeat (first | (with_reducible first | exact HB.out | apply ba_ | apply bn_ | apply bd_ | refine below_set ?_ GE705.out | refine below_set ?_ GE706.out | refine below_set ?_ GE711.out) | exact HB.out)) hb)
         clear HO_23
         clear BK705
         clear BK706
         clear BK711
         clear HB
         have HO_23 := n0_
         have BK705 := n1_
         have BK706 := n2_
         have BK711 := n3_
         have HB := n4_
         clear n0_ n1_ n2_ n3_ n4_
         (try clear hb)
         (try clear hb2)
         (try clear hk)
         (try clear hi)
         refine hK.out _ _ ⟨(blk_cell BK705.out 0).trans rfl, (blk_cell BK705.out 1).trans rfl, (blk_cell BK705.out 2).trans rfl, (blk_cell BK705.out 3).trans rfl, (blk_cell BK705.out 4).trans rfl, (blk_cell BK711.out 0).trans rfl, (blk_cell BK711.out 1).trans rfl⟩ (fun hHeld => ?_)
         clear hK K
         refine norm_ (a' := ?_) ?_ ?_
         rotate_left
         ·
          show Act.put _ (some 37) _ = _
          simp only [Act.put, List.setIfInBounds_toArray, List.set_cons_zero, List.set_cons_succ, i64_w, i32_w]
          rfl
         refine pure_ (i := 5) (N := some 38) (v := ?_) (a' := ?_) #[true, true, true, true, true, true, true, false, false] rfl rfl (any_of HT_.out (by kernel_rfl)) (fun _ _ _ h => h) (Or.inl ⟨by rfl, ?_⟩) ?_ ?_
         rotate_left
         ·
          intro w'
          go_simp
          with_reducible rfl
         rotate_left
         ·
          simp only [Act.put, List.setIfInBounds_toArray, List.set_cons_zero, List.set_cons_succ, i64_w, i32_w]
          rfl
         refine pure_ (i := 7) (N := some 40) (v := ?_) (a' := ?_) #[true, true, true, true, true, true, true, true, false] rfl rfl (any_of HT_.out (by kernel_rfl)) (fun _ _ _ h => h) (Or.inl ⟨by rfl, ?_⟩) ?_ ?_
         rotate_left
         ·
          intro w'
          go_simp
          with_reducible rfl
         rotate_left
         ·
          simp only [Act.put, List.setIfInBounds_toArray, List.set_cons_zero, List.set_cons_succ, i64_w, i32_w]
          rfl
         refine last_ (i := 8) (N := none) #[true, true, true, true, true, true, true, true, true] rfl rfl (one_of HT_.out (by kernel_rfl)) (by decide) (fun K hK => ?_)
         have hs23 : w22.cell? ⟨gb705, 1, none⟩ = some (.int .u64 x706001_1) := (blk_cell BK705.out 1).trans rfl
         have hfs23 := blk_frozen BK705.out 1
         have hns23_1 := NB706_705.out
         have hns23_2 := NB711_705.out
         have hms23_1 := NB705_706.out
         have hms23_2 := NB705_711.out
         refine skip_ (w1 := ?_) (by rfl) rfl ?_ ?_
         rotate_left
         ·
          go_simp
          rfl
         refine hK.out _ _ ?_
         clear hK K
         refine done_ (done_of HT_.out (by kernel_rfl)) ?_
         try go_wp2
         go_meet
         case rel => exact ⟨_, (Go.bits .or .u64 x706001_1 t712), (x706002_1), H', ⟨by have := HK1.out; first | omega | exact Nat.le_refl _⟩, ⟨by (with_reducible repeat (first | apply Kd.R_alloc | apply Kd.R_drewN | apply Kd.R_drew)); exact Kd.R_mono (Kd.R_far (p := ⟨gb705, 1, none⟩) (Kd.R_types HO_23.out BK705.out (by decide)) (fun _ hk => hk.2) (.int .u64 (Go.bits .or .u64 x706001_1 t712))) (fun _ hk => hk.1)⟩, ⟨by (with_reducible repeat (first | apply bN_ | apply bD_ | apply bA_)); refine blk_put (cs := #[.int .i64 a0_0, .int .u64 x706001_1, .int .u64 x706002_1, .int .u64 x706003_1, .int .u64 x706004_1]) ?_ 1 _ rfl; (with_reducible repeat (first | apply bN_ | apply bD_ | apply bA_)); exact BK705.out⟩, ⟨by (with_reducible repeat (first | apply bN_ | apply bD_ | apply bA_)); refine blk_far ?_ NB706_705.out _; (with_reducible repeat (first | apply bN_ | apply bD_ | apply bA_)); exact BK706.out⟩, ⟨by (with_reducible repeat (first | apply bN_ | apply bD_ | apply bA_)); refine blk_far ?_ NB711_705.out _; (with_reducible repeat (first | apply bN_ | apply bD_ | apply bA_)); exact BK711.out⟩, ⟨by repeat (first | (with_reducible first | exact HB.out | apply ba_ | apply bn_ | apply bd_ | refine below_set ?_ GE705.out | refine below_set ?_ GE706.out | refine below_set ?_ GE711.out) | exact HB.out)⟩⟩
        ·
         rw [if_neg c18] at H
         have c18b0 : ((Int.tmod x25_1 3) == 1) = false := beq_eq_false_iff_ne.mpr c18
         have c18b1 : ((Int.tmod x25_1 3) != 1) = true := bne_iff_ne.mpr c18
         (first | rw [c18b0] | (simp only [i64_w, i32_w]; rw [c18b0]) | skip)
         have H' := Aside0.mk H
         clear H
         go_wp2
         go_meet
         case rel => exact ⟨_, (x706001_1), (x706002_1), H', ⟨by have := HK1.out; first | omega | exact Nat.le_refl _⟩, ⟨by (with_reducible repeat (first | apply Kd.R_alloc | apply Kd.R_drewN | apply Kd.R_drew)); exact Kd.R_mono (Kd.R_far (p := ⟨gb711, 1, none⟩) (Kd.R_far (p := ⟨gb711, 0, none⟩) (Kd.R_mono HO_23.out (fun k_ hk => (⟨hk, hk.2⟩ : _ ∧ k_ ≠ gb711))) (fun _ hk => hk.2) (.int .i64 ((rd_T104 t707 x25_1).f0))) (fun _ hk => hk.2) (.int .u8 ((rd_T104 t707 x25_1).f1))) (fun _ hk => hk.1.2)⟩, ⟨by (with_reducible repeat (first | apply bN_ | apply bD_ | apply bA_)); refine blk_far ?_ NB705_711.out _; (with_reducible repeat (first | apply bN_ | apply bD_ | apply bA_)); refine blk_far ?_ NB705_711.out _; (with_reducible repeat (first | apply bN_ | apply bD_ | apply bA_)); exact BK705.out⟩, ⟨by (with_reducible repeat (first | apply bN_ | apply bD_ | apply bA_)); refine blk_far ?_ NB706_711.out _; (with_reducible repeat (first | apply bN_ | apply bD_ | apply bA_)); refine blk_far ?_ NB706_711.out _; (with_reducible repeat (first | apply bN_ | apply bD_ | apply bA_)); exact BK706.out⟩, ⟨by (with_reducible repeat (first | apply bN_ | apply bD_ | apply bA_)); refine blk_put (cs := #[.int .i64 ((rd_T104 t707 x25_1).f0), .int .u8 0]) ?_ 1 _ rfl; (with_reducible repeat (first | apply bN_ | apply bD_ | apply bA_)); refine blk_put (cs := #[.int .i64 0, .int .u8 0]) ?_ 0 _ rfl; (with_reducible repeat (first | apply bN_ | apply bD_ | apply bA_)); exact BK711.out⟩, ⟨by repeat (first | (with_reducible first | exact HB.out | apply ba_ | apply bn_ | apply bd_ | refine below_set ?_ GE705.out | refine below_set ?_ GE706.out | refine below_set ?_ GE711.out) | exact HB.out)⟩⟩
       case rest =>
        clear HC13
        try clear c1
        try clear c2
        try clear c2b0
        try clear c2b1
        try clear p2
        try clear c3
        try clear c5
        try clear c6
        try clear c7
        try clear p7
        try clear q7
        try clear hx7
        try clear c10
        try clear c10b0
        try clear c11
        try clear c11b0
        try clear c12
        try clear c12b0
        try clear c15
        try clear c16
        try clear c18
        try clear c18b0
        try clear c18b1
        try clear hcz17_0
        try clear hcz17_1
        try clear hcz7_0
        try clear hcz7_1
        try clear hcz7_2
        try clear hcz7_3
        try clear hcz7_4
        try clear hfz17_0
        try clear hfz17_1
        try clear hfz7_0
        try clear hfz7_1
        try clear hfz7_2
        try clear hfz7_3
        try clear hfz7_4
        try clear hx710_0
        try clear hx710_1
        try clear p2
        try clear p710
        try clear q710
        obtain ⟨kq, x706001_12, x706002_12, HA, HJ12, HO_23, BK705, BK706, BK711, HB⟩ := hcut
        cases kq with
        | zero => exact absurd HA.out (by simp [honeycomblaw07_whole.j1])
        | succ kj12 =>
         have H := HA.out
         clear HA
         simp only [honeycomblaw07_whole.j1] at H
         by_cases c24 : (Int.tmod x25_1 2) = 0
         ·
          rw [if_pos c24] at H
          have c24b0 : ((Int.tmod x25_1 2) == 0) = true := beq_iff_eq.mpr c24
          have c24b1 : ((Int.tmod x25_1 2) != 0) = false := bne_eq_false_iff_eq.mpr c24
          clear c24
          replace H := Option.bind_eq_some_iff.mp H
          obtain ⟨t713, A250, H⟩ := H
          replace H : (honeycomblaw07_whole.l0 kj12 t707 (t707.length : Int) (wrap64 (x25_1 + 1)) a0_0 x706001_12 x706002_12 (Go.bits .or .u64 x706003_1 t713) x706004_1) = some (r1, r2, r3, r4, r5) := H
          have A25 := Aside0.mk A250
          clear A250
          have H' := Aside0.mk H
          clear H
          try go_wp2
          have n0_ := Aside0.mk (Kd.R_drew HO_23.out)
          have n1_ := Aside0.mk (blk_drew BK705.out)
          have n2_ := Aside0.mk (blk_drew BK706.out)
          have n3_ := Aside0.mk (blk_drew BK711.out)
          have n4_ := Aside0.mk (below_drew1 HB.out)
          clear HO_23
          clear BK705
          clear BK706
          clear BK711
          clear HB
          have HO_23 := n0_
          have BK705 := n1_
          have BK706 := n2_
          have BK711 := n3_
          have HB := n4_
          clear n0_ n1_ n2_ n3_ n4_
          refine start_ (n := 9) (S := fun w' => w'.cell? ⟨gb705, 0, none⟩ = some (.int .i64 a0_0) ∧ w'.cell? ⟨gb705, 1, none⟩ = some (.int .u64 x706001_12) ∧ w'.cell? ⟨gb705, 2, none⟩ = some (.int .u64 x706002_12) ∧ w'.cell? ⟨gb705, 3, none⟩ = some (.int .u64 x706003_1) ∧ w'.cell? ⟨gb705, 4, none⟩ = some (.int .u64 x706004_1) ∧ w'.cell? ⟨gb711, 0, none⟩ = some (.int .i64 ((rd_T104 t707 x25_1).f0)) ∧ w'.cell? ⟨gb711, 1, none⟩ = some (.int .u8 ((rd_T104 t707 x25_1).f1))) (ds := [8]) #[false, false, false, false, false, false, false, false, false] (by kernel_rfl) rfl rfl ⟨(blk_cell BK705.out 0).trans rfl, (blk_cell BK705.out 1).trans rfl, (blk_cell BK705.out 2).trans rfl, (blk_cell BK705.out 3).trans rfl, (blk_cell BK705.out 4).trans rfl, (blk_cell BK711.out 0).trans rfl, (blk_cell BK711.out 1).trans rfl⟩ (fun hHeld => ?_); refine with_tabW honeycomblaw07_whole.tab11 honeycomblaw07_whole.bits11 (fun HT_ HW_ => ?_)
          generalize wc.drew = w26 at HO_23 BK705 BK706 BK711 HB hHeld ⊢
          refine pure_ (i := 0) (N := some 44) (v := ?_) (a' := ?_) #[true, false, false, false, false, false, false, false, false] rfl rfl (any_of HT_.out (by kernel_rfl)) (fun _ _ _ h => h) (Or.inl ⟨by rfl, ?_⟩) ?_ ?_
          rotate_left
          ·
           intro w'
           go_simp
           with_reducible rfl
          rotate_left
          ·
           simp only [Act.put, List.setIfInBounds_toArray, List.set_cons_zero, List.set_cons_succ, i64_w, i32_w]
           rfl
          refine pure_ (i := 1) (N := some 45) (v := ?_) (a' := ?_) #[true, true, false, false, false, false, false, false, false] rfl rfl (any_of HT_.out (by kernel_rfl)) (fun _ _ _ h => h) (Or.inl ⟨by rfl, ?_⟩) ?_ ?_
          rotate_left
          ·
           intro w'
           go_simp
           with_reducible rfl
          rotate_left
          ·
           simp only [Act.put, List.setIfInBounds_toArray, List.set_cons_zero, List.set_cons_succ, i64_w, i32_w]
           rfl
          refine pure_ (i := 6) (N := some 50) (v := ?_) (a' := ?_) #[true, true, false, false, false, false, true, false, false] rfl rfl (any_of HT_.out (by kernel_rfl)) (fun _ _ _ h => h) (Or.inl ⟨by rfl, ?_⟩) ?_ ?_
          rotate_left
          ·
           intro w'
           go_simp
           with_reducible rfl
          rotate_left
          ·
           simp only [Act.put, List.setIfInBounds_toArray, List.set_cons_zero, List.set_cons_succ, i64_w, i32_w]
           rfl
          refine take_ (i := 2) (N := some 46) (v := ?_) (a' := ?_) #[true, true, true, false, false, false, true, false, false] rfl rfl (take_ofW HT_.out HW_.out (by kernel_rfl)) (fun _ _ _ h => h) (Or.inl ⟨by rfl, ?_⟩) hHeld ?_ ?_
          rotate_left
          ·
           rintro w' ⟨s0, s1, s2, s3, s4, s5, s6⟩
           go_simp
           with_reducible rfl
          rotate_left
          ·
           simp only [Act.put, List.setIfInBounds_toArray, List.set_cons_zero, List.set_cons_succ, i64_w, i32_w]
           rfl
          refine take_ (i := 3) (N := some 47) (v := ?_) (a' := ?_) #[true, true, true, true, false, false, true, false, false] rfl rfl (take_ofW HT_.out HW_.out (by kernel_rfl)) (fun _ _ _ h => h) (Or.inl ⟨by rfl, ?_⟩) hHeld ?_ ?_
          rotate_left
          ·
           rintro w' ⟨s0, s1, s2, s3, s4, s5, s6⟩
           go_simp
           with_reducible rfl
          rotate_left
          ·
           simp only [Act.put, List.setIfInBounds_toArray, List.set_cons_zero, List.set_cons_succ, i64_w, i32_w]
           rfl
          refine one_ (i := 4) (N := some 48) #[true, true, true, true, true, false, true, false, false] rfl rfl (one_of HT_.out (by kernel_rfl)) (by decide) (fun K hK => ?_)
          refine goes_ Tryd.func59 (by kernel_rfl) rfl #[.agg #[.int .i64 ((rd_T104 t707 x25_1).f0), .int .u8 ((rd_T104 t707 x25_1).f1)]] (by rfl) rfl rfl (by (try simp only [List.map_toArray, List.map_cons, List.map_nil]); first | done | rfl | (simp only [List.length_drop, List.length_take]; rfl)) ?_
          with_reducible refine (table_Rings.calls kj12 ((rd_T104 t707 x25_1).f0) ((rd_T104 t707 x25_1).f1) t713 _ A25.out).mono ?_
          rintro e w27 ⟨rfl, hb⟩
          refine ⟨_, rfl, ?_⟩
          have n0_ := Aside0.mk (Kd.R_below (by (with_reducible repeat (first | apply Kd.R_alloc | apply Kd.R_drewN | apply Kd.R_drew)); exact HO_23.out) hb)
          have n1_ := Aside0.mk (blk_below (g := gb705) (o := .cells #[.int .i64 a0_0, .int .u64 x706001_12, .int .u64 x706002_12, .int .u64 x706003_1, .int .u64 x706004_1] 29 (0, 0)) (by (with_reducible repeat (first | apply bN_ | apply bD_ | apply bA_)); exact BK705.out) hb)
          have n2_ := Aside0.mk (blk_below (g := gb706) (o := .cells #[.int .i64 0, .int .u64 0, .int .u64 0, .int .u64 0, .int .u64 0] 29 (0, 0)) (by (with_reducible repeat (first | apply bN_ | apply bD_ | apply bA_)); exact BK706.out) hb)
          have n3_ := Aside0.mk (blk_below (g := gb711) (o := .cells #[.int .i64 ((rd_T104 t707 x25_1).f0), .int .u8 ((rd_T104 t707 x25_1).f1)] 104 (0, 0)) (by (with_reducible repeat (first | apply bN_ | apply bD_ | apply bA_)); exact BK711.out) hb)
          have n4_ := Aside0.mk (below_step (by repeat (first | (with_reducible first | exact HB.out | apply ba_ | apply bn_ | apply bd_ | refine below_set ?_ GE705.out | refine below_set ?_ GE706.out | refine below_set ?_ GE711.out) | exact HB.out)) hb)
          clear HO_23
          clear BK705
          clear BK706
          clear BK711
          clear HB
          have HO_23 := n0_
          have BK705 := n1_
          have BK706 := n2_
          have BK711 := n3_
          have HB := n4_
          clear n0_ n1_ n2_ n3_ n4_
          (try clear hb)
          (try clear hb2)
          (try clear hk)
          (try clear hi)
          refine hK.out _ _ ⟨(blk_cell BK705.out 0).trans rfl, (blk_cell BK705.out 1).trans rfl, (blk_cell BK705.out 2).trans rfl, (blk_cell BK705.out 3).trans rfl, (blk_cell BK705.out 4).trans rfl, (blk_cell BK711.out 0).trans rfl, (blk_cell BK711.out 1).trans rfl⟩ (fun hHeld => ?_)
          clear hK K
          refine norm_ (a' := ?_) ?_ ?_
          rotate_left
          ·
           show Act.put _ (some 48) _ = _
           simp only [Act.put, List.setIfInBounds_toArray, List.set_cons_zero, List.set_cons_succ, i64_w, i32_w]
           rfl
          refine pure_ (i := 5) (N := some 49) (v := ?_) (a' := ?_) #[true, true, true, true, true, true, true, false, false] rfl rfl (any_of HT_.out (by kernel_rfl)) (fun _ _ _ h => h) (Or.inl ⟨by rfl, ?_⟩) ?_ ?_
          rotate_left
          ·
           intro w'
           go_simp
           with_reducible rfl
          rotate_left
          ·
           simp only [Act.put, List.setIfInBounds_toArray, List.set_cons_zero, List.set_cons_succ, i64_w, i32_w]
           rfl
          refine pure_ (i := 7) (N := some 51) (v := ?_) (a' := ?_) #[true, true, true, true, true, true, true, true, false] rfl rfl (any_of HT_.out (by kernel_rfl)) (fun _ _ _ h => h) (Or.inl ⟨by rfl, ?_⟩) ?_ ?_
          rotate_left
          ·
           intro w'
           go_simp
           with_reducible rfl
          rotate_left
          ·
           simp only [Act.put, List.setIfInBounds_toArray, List.set_cons_zero, List.set_cons_succ, i64_w, i32_w]
           rfl
          refine last_ (i := 8) (N := none) #[true, true, true, true, true, true, true, true, true] rfl rfl (one_of HT_.out (by kernel_rfl)) (by decide) (fun K hK => ?_)
          have hs28 : w27.cell? ⟨gb705, 3, none⟩ = some (.int .u64 x706003_1) := (blk_cell BK705.out 3).trans rfl
          have hfs28 := blk_frozen BK705.out 3
          have hns28_1 := NB706_705.out
          have hns28_2 := NB711_705.out
          have hms28_1 := NB705_706.out
          have hms28_2 := NB705_711.out
          refine skip_ (w1 := ?_) (by rfl) rfl ?_ ?_
          rotate_left
          ·
           go_simp
           rfl
          refine hK.out _ _ ?_
          clear hK K
          refine done_ (done_of HT_.out (by kernel_rfl)) ?_
          try go_wp2
          go_roundg kj12
          case measure => have := HK1.out; have := HJ12.out; omega
          case rel => exact ⟨(wrap64 (x25_1 + 1)), (x706001_12), (x706002_12), (Go.bits .or .u64 x706003_1 t713), (x706004_1), (by first | rfl | (simp; done) | (simp [*]; done)), H', ⟨by have := HK1.out; have := HJ12.out; omega⟩, ⟨by (with_reducible repeat (first | apply Kd.R_alloc | apply Kd.R_drewN | apply Kd.R_drew)); exact Kd.R_mono (Kd.R_far (p := ⟨gb705, 3, none⟩) (Kd.R_types HO_23.out BK705.out (by decide)) (fun _ hk => hk.2) (.int .u64 (Go.bits .or .u64 x706003_1 t713))) (fun _ hk => trivial)⟩, ⟨by (with_reducible repeat (first | apply bN_ | apply bD_ | apply bA_)); refine blk_put (cs := #[.int .i64 a0_0, .int .u64 x706001_12, .int .u64 x706002_12, .int .u64 x706003_1, .int .u64 x706004_1]) ?_ 3 _ rfl; (with_reducible repeat (first | apply bN_ | apply bD_ | apply bA_)); exact BK705.out⟩, ⟨by (with_reducible repeat (first | apply bN_ | apply bD_ | apply bA_)); refine blk_far ?_ NB706_705.out _; (with_reducible repeat (first | apply bN_ | apply bD_ | apply bA_)); exact BK706.out⟩, ⟨by repeat (first | (with_reducible first | exact HB.out | apply ba_ | apply bn_ | apply bd_ | refine below_set ?_ GE705.out | refine below_set ?_ GE706.out | refine below_set ?_ GE711.out) | exact HB.out)⟩⟩
         ·
          rw [if_neg c24] at H
          have c24b0 : ((Int.tmod x25_1 2) == 0) = false := beq_eq_false_iff_ne.mpr c24
          have c24b1 : ((Int.tmod x25_1 2) != 0) = true := bne_iff_ne.mpr c24
          have H' := Aside0.mk H
          clear H
          go_wp2
          go_roundg kj12
          case measure => have := HK1.out; have := HJ12.out; omega
          case rel => exact ⟨(wrap64 (x25_1 + 1)), (x706001_12), (x706002_12), (x706003_1), (x706004_1), (by first | rfl | (simp; done) | (simp [*]; done)), H', ⟨by have := HK1.out; have := HJ12.out; omega⟩, ⟨by (with_reducible repeat (first | apply Kd.R_alloc | apply Kd.R_drewN | apply Kd.R_drew)); exact Kd.R_mono HO_23.out (fun _ hk => trivial)⟩, ⟨by (with_reducible repeat (first | apply bN_ | apply bD_ | apply bA_)); exact BK705.out⟩, ⟨by (with_reducible repeat (first | apply bN_ | apply bD_ | apply bA_)); exact BK706.out⟩, ⟨by repeat (first | (with_reducible first | exact HB.out | apply ba_ | apply bn_ | apply bd_ | refine below_set ?_ GE705.out | refine below_set ?_ GE706.out | refine below_set ?_ GE711.out) | exact HB.out)⟩⟩
      ·
       rw [if_neg c12] at H
       exact absurd H (by simp)
     ·
      rw [if_neg c11] at H
      exact absurd H (by simp)
    ·
     rw [if_neg c10] at H
     have c10b0 : decide (x25_1 < (t707.length : Int)) = false := decide_eq_false c10
     clear c10
     simp only [Option.some.injEq, Prod.mk.injEq] at H
     obtain ⟨rfl, rfl, rfl, rfl, rfl⟩ := H
     have hnb29 := NB705_706.out
     have hnc29 := NB706_705.out
     have hcz30_0 : wr.cell? ⟨gb705, 0, none⟩ = some (.int .i64 a0_0) := (blk_cell BK705.out 0).trans rfl
     have hcz30_1 : wr.cell? ⟨gb705, 1, none⟩ = some (.int .u64 x706001_1) := (blk_cell BK705.out 1).trans rfl
     have hcz30_2 : wr.cell? ⟨gb705, 2, none⟩ = some (.int .u64 x706002_1) := (blk_cell BK705.out 2).trans rfl
     have hcz30_3 : wr.cell? ⟨gb705, 3, none⟩ = some (.int .u64 x706003_1) := (blk_cell BK705.out 3).trans rfl
     have hcz30_4 : wr.cell? ⟨gb705, 4, none⟩ = some (.int .u64 x706004_1) := (blk_cell BK705.out 4).trans rfl
     have hfz30_0 := blk_frozen BK705.out 0
     have hfz30_1 := blk_frozen BK705.out 1
     have hfz30_2 := blk_frozen BK705.out 2
     have hfz30_3 := blk_frozen BK705.out 3
     have hfz30_4 := blk_frozen BK705.out 4
     have hcz31_0 : wr.cell? ⟨gb706, 0, none⟩ = some (.int .i64 0) := (blk_cell BK706.out 0).trans rfl
     have hcz31_1 : wr.cell? ⟨gb706, 1, none⟩ = some (.int .u64 0) := (blk_cell BK706.out 1).trans rfl
     have hcz31_2 : wr.cell? ⟨gb706, 2, none⟩ = some (.int .u64 0) := (blk_cell BK706.out 2).trans rfl
     have hcz31_3 : wr.cell? ⟨gb706, 3, none⟩ = some (.int .u64 0) := (blk_cell BK706.out 3).trans rfl
     have hcz31_4 : wr.cell? ⟨gb706, 4, none⟩ = some (.int .u64 0) := (blk_cell BK706.out 4).trans rfl
     have hfz31_0 := blk_frozen BK706.out 0
     have hfz31_1 := blk_frozen BK706.out 1
     have hfz31_2 := blk_frozen BK706.out 2
     have hfz31_3 := blk_frozen BK706.out 3
     have hfz31_4 := blk_frozen BK706.out 4
     go_wp2
     refine bodyPost_ret (results_cell_row rfl _ _ gb706 29 #[.int .i64 a0_0, .int .u64 x706001_1, .int .u64 x706002_1, .int .u64 x706003_1, .int .u64 x706004_1] (0, 0) _ rfl (by (with_reducible repeat (first | apply bN_ | apply bD_ | apply bA_)); refine blk_put (cs := #[.int .i64 a0_0, .int .u64 x706001_1, .int .u64 x706002_1, .int .u64 x706003_1, .int .u64 0]) ?_ 4 _ rfl; (with_reducible repeat (first | apply bN_ | apply bD_ | apply bA_)); refine blk_put (cs := #[.int .i64 a0_0, .int .u64 x706001_1, .int .u64 x706002_1, .int .u64 0, .int .u64 0]) ?_ 3 _ rfl; (with_reducible repeat (first | apply bN_ | apply bD_ | apply bA_)); refine blk_put (cs := #[.int .i64 a0_0, .int .u64 x706001_1, .int .u64 0, .int .u64 0, .int .u64 0]) ?_ 2 _ rfl; (with_reducible repeat (first | apply bN_ | apply bD_ | apply bA_)); refine blk_put (cs := #[.int .i64 a0_0, .int .u64 0, .int .u64 0, .int .u64 0, .int .u64 0]) ?_ 1 _ rfl; (with_reducible repeat (first | apply bN_ | apply bD_ | apply bA_)); refine blk_put (cs := #[.int .i64 0, .int .u64 0, .int .u64 0, .int .u64 0, .int .u64 0]) ?_ 0 _ rfl; (with_reducible repeat (first | apply bN_ | apply bD_ | apply bA_)); exact BK706.out) Tryd.underlying29 rfl (by kernel_rfl)) rfl ?_
     exact ⟨by first | rfl | (simp [errW_none, errW_some] <;> rfl) | (simp [*, errW_none, errW_some] <;> rfl), by repeat (first | (with_reducible first | exact HB.out | apply ba_ | apply bn_ | apply bd_ | refine below_set ?_ GE705.out | refine below_set ?_ GE706.out) | exact HB.out)⟩
 ·
  rw [if_neg c2] at H
  have c2b0 : (a0_0 == 1) = false := beq_eq_false_iff_ne.mpr c2
  have c2b1 : (a0_0 != 1) = true := bne_iff_ne.mpr c2
  simp only [Option.some.injEq, Prod.mk.injEq] at H
  obtain ⟨rfl, rfl, rfl, rfl, rfl⟩ := H
  go_enter Tryd.func39, Tryd.ntmps39
  go_wp2_with (first | ((with_reducible refine gate_dst (N := 1) rfl ?_); refine box_event ?hg (N := 1) ?hd (cs := #[.int .i64 a0_0, .int .u64 a0_1, .int .u64 a0_2, .int .u64 a0_3, .int .u64 a0_4]) (t := 29) ?hr ?_; (case hd => rfl); (case hg => rfl); (case hr => first | (go_simp; done) | (go_simp; rfl)); intro gb705 hg w32 hbox hb; have n0_ := Aside0.mk (below_step (by repeat (first | (with_reducible first | exact HB.out | apply ba_ | apply bn_ | apply bd_) | exact HB.out)) hb); have n1_ := Aside0.mk (hbox); have n2_ := Aside0.mk ((by rw [hg]; exact (below_size (by repeat (first | (with_reducible first | exact HB.out | apply ba_ | apply bn_ | apply bd_) | exact HB.out))) : w.heap.size ≤ gb705)); have n3_ := Aside0.mk ((by rw [hg]; exact (below_size (by repeat (first | (with_reducible first | exact HB.out | apply ba_ | apply bn_ | apply bd_) | exact HB.out))) : w.heap.size ≤ gb705)); clear HB; have HB := n0_; have BK705 := n1_; have GW705 := n2_; have GE705 := n3_; clear n0_ n1_ n2_ n3_; clear hb hbox hg) | ((with_reducible refine gate_dst (N := 2) rfl ?_); refine box_event ?hg (N := 2) ?hd (cs := #[.int .i64 0, .int .u64 0, .int .u64 0, .int .u64 0, .int .u64 0]) (t := 29) ?hr ?_; (case hd => rfl); (case hg => rfl); (case hr => first | (go_simp; done) | (go_simp; rfl)); intro gb706 hg w33 hbox hb; have n0_ := Aside0.mk (blk_below (g := gb705) (o := .cells #[.int .i64 a0_0, .int .u64 a0_1, .int .u64 a0_2, .int .u64 a0_3, .int .u64 a0_4] 29 (0, 0)) (by (with_reducible repeat (first | apply bN_ | apply bD_ | apply bA_)); exact BK705.out) hb); have n1_ := Aside0.mk (below_step (by repeat (first | (with_reducible first | exact HB.out | apply ba_ | apply bn_ | apply bd_ | refine below_set ?_ GE705.out) | exact HB.out)) hb); have n2_ := Aside0.mk (hbox); have n3_ := Aside0.mk ((by rw [hg]; exact (below_size (by repeat (first | (with_reducible first | exact HB.out | apply ba_ | apply bn_ | apply bd_ | refine below_set ?_ GE705.out) | exact HB.out))) : w.heap.size ≤ gb706)); have n4_ := Aside0.mk ((by rw [hg]; exact (below_size (by repeat (first | (with_reducible first | exact HB.out | apply ba_ | apply bn_ | apply bd_ | refine below_set ?_ GE705.out) | exact HB.out))) : w.heap.size ≤ gb706)); have n5_ := Aside0.mk ((by rw [hg]; exact Nat.ne_of_lt (blk_lt (g := gb705) (o := .cells #[.int .i64 a0_0, .int .u64 a0_1, .int .u64 a0_2, .int .u64 a0_3, .int .u64 a0_4] 29 (0, 0)) (by (with_reducible repeat (first | apply bN_ | apply bD_ | apply bA_)); exact BK705.out)) : gb705 ≠ gb706)); have n6_ := Aside0.mk ((by rw [hg]; exact Nat.ne_of_gt (blk_lt (g := gb705) (o := .cells #[.int .i64 a0_0, .int .u64 a0_1, .int .u64 a0_2, .int .u64 a0_3, .int .u64 a0_4] 29 (0, 0)) (by (with_reducible repeat (first | apply bN_ | apply bD_ | apply bA_)); exact BK705.out)) : gb706 ≠ gb705)); clear BK705; clear HB; have BK705 := n0_; have HB := n1_; have BK706 := n2_; have GW706 := n3_; have GE706 := n4_; have NB705_706 := n5_; have NB706_705 := n6_; clear n0_ n1_ n2_ n3_ n4_ n5_ n6_; clear hb hbox hg; have hnb34 := NB705_706.out; have hnc34 := NB706_705.out; have hcz35_0 : w33.cell? ⟨gb705, 0, none⟩ = some (.int .i64 a0_0) := (blk_cell BK705.out 0).trans rfl; have hcz35_1 : w33.cell? ⟨gb705, 1, none⟩ = some (.int .u64 a0_1) := (blk_cell BK705.out 1).trans rfl; have hcz35_2 : w33.cell? ⟨gb705, 2, none⟩ = some (.int .u64 a0_2) := (blk_cell BK705.out 2).trans rfl; have hcz35_3 : w33.cell? ⟨gb705, 3, none⟩ = some (.int .u64 a0_3) := (blk_cell BK705.out 3).trans rfl; have hcz35_4 : w33.cell? ⟨gb705, 4, none⟩ = some (.int .u64 a0_4) := (blk_cell BK705.out 4).trans rfl; have hfz35_0 := blk_frozen BK705.out 0; have hfz35_1 := blk_frozen BK705.out 1; have hfz35_2 := blk_frozen BK705.out 2; have hfz35_3 := blk_frozen BK705.out 3; have hfz35_4 := blk_frozen BK705.out 4; have hcz36_0 : w33.cell? ⟨gb706, 0, none⟩ = some (.int .i64 0) := (blk_cell BK706.out 0).trans rfl; have hcz36_1 : w33.cell? ⟨gb706, 1, none⟩ = some (.int .u64 0) := (blk_cell BK706.out 1).trans rfl; have hcz36_2 : w33.cell? ⟨gb706, 2, none⟩ = some (.int .u64 0) := (blk_cell BK706.out 2).trans rfl; have hcz36_3 : w33.cell? ⟨gb706, 3, none⟩ = some (.int .u64 0) := (blk_cell BK706.out 3).trans rfl; have hcz36_4 : w33.cell? ⟨gb706, 4, none⟩ = some (.int .u64 0) := (blk_cell BK706.out 4).trans rfl; have hfz36_0 := blk_frozen BK706.out 0; have hfz36_1 := blk_frozen BK706.out 1; have hfz36_2 := blk_frozen BK706.out 2; have hfz36_3 := blk_frozen BK706.out 3; have hfz36_4 := blk_frozen BK706.out 4))
  refine bodyPost_ret (results_cell_row rfl _ _ gb706 29 #[.int .i64 a0_0, .int .u64 a0_1, .int .u64 a0_1, .int .u64 a0_3, .int .u64 a0_3] (0, 0) _ rfl (by (with_reducible repeat (first | apply bN_ | apply bD_ | apply bA_)); refine blk_put (cs := #[.int .i64 a0_0, .int .u64 a0_1, .int .u64 a0_1, .int .u64 a0_3, .int .u64 0]) ?_ 4 _ rfl; (with_reducible repeat (first | apply bN_ | apply bD_ | apply bA_)); refine blk_put (cs := #[.int .i64 a0_0, .int .u64 a0_1, .int .u64 a0_1, .int .u64 0, .int .u64 0]) ?_ 3 _ rfl; (with_reducible repeat (first | apply bN_ | apply bD_ | apply bA_)); refine blk_put (cs := #[.int .i64 a0_0, .int .u64 a0_1, .int .u64 0, .int .u64 0, .int .u64 0]) ?_ 2 _ rfl; (with_reducible repeat (first | apply bN_ | apply bD_ | apply bA_)); refine blk_put (cs := #[.int .i64 a0_0, .int .u64 0, .int .u64 0, .int .u64 0, .int .u64 0]) ?_ 1 _ rfl; (with_reducible repeat (first | apply bN_ | apply bD_ | apply bA_)); refine blk_put (cs := #[.int .i64 0, .int .u64 0, .int .u64 0, .int .u64 0, .int .u64 0]) ?_ 0 _ rfl; (with_reducible repeat (first | apply bN_ | apply bD_ | apply bA_)); refine blk_far ?_ NB706_705.out _; (with_reducible repeat (first | apply bN_ | apply bD_ | apply bA_)); refine blk_far ?_ NB706_705.out _; (with_reducible repeat (first | apply bN_ | apply bD_ | apply bA_)); exact BK706.out) Tryd.underlying29 rfl (by kernel_rfl)) rfl ?_
  exact ⟨by first | rfl | (simp [errW_none, errW_some] <;> rfl) | (simp [*, errW_none, errW_some] <;> rfl), by repeat (first | (with_reducible first | exact HB.out | apply ba_ | apply bn_ | apply bd_ | refine below_set ?_ GE705.out | refine below_set ?_ GE706.out) | exact HB.out)⟩
def rule_Total.l0 : Nat → Int → List (S104) → Int → Int → Option (Bool)
 | 0, _, _, _, _ => none
 | k + 1, x0, x6, x7, x8 => if x8 < x7 then (if 0 ≤ x8 then (if x8 < (x6.length : Int) then ((table_Rings.f k ((rd_T104 x6 x8).f0) ((rd_T104 x6 x8).f1)).bind fun t829 => (if (Go.bits .and .u64 x0 t829) = 0 then (rule_Total.l0 k x0 x6 x7 (wrap64 (x8 + 1))) else (if (Go.bits .and .u64 x0 t829) = t829 then (rule_Total.l0 k x0 x6 x7 (wrap64 (x8 + 1))) else (some false)))) else (none)) else (none)) else (some true)
def rule_Total.f (k : Nat) (a0 : Int) : Option (Bool) := (XClasses.f).bind fun t824 => (rule_Total.l0 k a0 t824 (t824.length : Int) 0)
theorem rule_Total.mono_l : ∀ k, (∀ y0 y1 y2 y3, LeO (rule_Total.l0 k y0 y1 y2 y3) (rule_Total.l0 (k + 1) y0 y1 y2 y3))
 | 0 => fun _ _ _ _ r h => by simp [rule_Total.l0] at h
 | k + 1 => by
  have ih0 := rule_Total.mono_l k
  ·
   intro y0 y1 y2 y3
   unfold rule_Total.l0
   repeat' first
   | (with_reducible exact ih0 _ _ _ _)
   | (with_reducible exact table_Rings.mono _ _ _)
   | (with_reducible exact LeO.refl _)
   | (with_reducible exact LeO.none _)
   | (with_reducible refine LeO.ite ?_ ?_)
   | (with_reducible refine LeO.bind ?_ (fun _ => ?_))
   | exact ih0 _ _ _ _
   | exact table_Rings.mono _ _ _
   | exact LeO.none _
   | refine LeO.ite ?_ ?_
   | refine LeO.bind ?_ (fun _ => ?_)
theorem rule_Total.mono : ∀ a0 k, LeO (rule_Total.f k a0) (rule_Total.f (k + 1) a0) := by
 intro a0 k
 have ih0 := rule_Total.mono_l k
 unfold rule_Total.f
 repeat' first
   | (with_reducible exact ih0 _ _ _ _)
   | (with_reducible exact table_Rings.mono _ _ _)
   | (with_reducible exact LeO.refl _)
   | (with_reducible exact LeO.none _)
   | (with_reducible refine LeO.ite ?_ ?_)
   | (with_reducible refine LeO.bind ?_ (fun _ => ?_))
   | exact ih0 _ _ _ _
   | exact table_Rings.mono _ _ _
   | exact LeO.none _
   | refine LeO.ite ?_ ?_
   | refine LeO.bind ?_ (fun _ => ?_)
set_option maxHeartbeats 8000000 in
set_option maxRecDepth 100000 in
theorem rule_Total.calls (k : Nat) (a0 : Int) (r : Bool) (w : World) (h : rule_Total.f k a0 = some r) :
  Calls Tryd.prog 45 #[.int .u64 a0] w fun e w' => e = .returned (.bool r) ∧ Below w.heap.size w w' := by
 have hu104 := Tryd.underlying104
 have HB := Aside0.mk (Below.refl w.heap.size w)
 have H : ((XClasses.f).bind fun t824 => (rule_Total.l0 k a0 t824 (t824.length : Int) 0)) = some r := h
 clear h
 replace H := Option.bind_eq_some_iff.mp H
 obtain ⟨t824, A20, H⟩ := H
 replace H : (rule_Total.l0 k a0 t824 (t824.length : Int) 0) = some r := H
 have A2 := Aside0.mk A20
 clear A20
 have H' := Aside0.mk H
 clear H
 go_enter Tryd.func45, Tryd.ntmps45
 go_wp2_with (first | ((with_reducible refine gate_callee (f := 78) rfl ?_); refine goesL_ (some 6) rfl rfl Tryd.func78 (by kernel_rfl) rfl #[] rfl (by (try simp only [List.map_toArray, List.map_cons, List.map_nil]); first | done | rfl | (simp only [List.length_drop, List.length_take]; rfl)) ?_; (with_reducible refine (XClasses.calls  t824 _ A2.out).mono ?_); rintro e w3 ⟨v825, rfl, ho0, hb⟩; refine ⟨_, rfl, ?_⟩; have n0_ := Aside0.mk (Kd.R_lower ho0 (below_size (by repeat (first | (with_reducible first | exact HB.out | apply ba_ | apply bn_ | apply bd_) | exact HB.out)))); have n1_ := Aside0.mk (below_step (by repeat (first | (with_reducible first | exact HB.out | apply ba_ | apply bn_ | apply bd_) | exact HB.out)) hb); clear HB; have HO826 := n0_; have HB := n1_; clear n0_ n1_; (try clear hb); (try clear hb2); (try clear hk); (try clear hi); (try clear ho0); obtain ⟨Ao4, co4, eo4⟩ := Kd.R_slice HO826.out; subst eo4))
 go_loopg [8] k (fun kq v8 w' => ∃ (x8_1 : Int), v8 = .int .i64 x8_1 ∧ Aside0 (rule_Total.l0 kq a0 t824 (t824.length : Int) x8_1 = some r) ∧ Aside0 (kq ≤ k) ∧ Aside0 (Kd.R k104 104 w' w.heap.size (fun _ => True) (.slice Ao4 t824.length co4) t824) ∧ Aside0 (Below w.heap.size w w'))
 case atStart => exact ⟨(0), (by first | rfl | (simp; done) | (simp [*]; done)), H', ⟨Nat.le_refl _⟩, ⟨by (with_reducible repeat (first | apply Kd.R_alloc | apply Kd.R_drewN | apply Kd.R_drew)); exact HO826.out⟩, ⟨by repeat (first | (with_reducible first | exact HB.out | apply ba_ | apply bn_ | apply bd_) | exact HB.out)⟩⟩
 case round =>
  clear H'
  try clear p2
  try clear c4
  obtain ⟨x8_1, rfl, HA, HK1, HO_6, HB⟩ := hrel
  cases gk with
  | zero => exact absurd HA.out (by simp [rule_Total.l0])
  | succ k1 =>
   have H := HA.out
   clear HA
   simp only [rule_Total.l0] at H
   by_cases c5 : x8_1 < (t824.length : Int)
   ·
    rw [if_pos c5] at H
    have c5b0 : decide (x8_1 < (t824.length : Int)) = true := decide_eq_true c5
    clear c5
    by_cases c6 : 0 ≤ x8_1
    ·
     rw [if_pos c6] at H
     have c6b0 : decide (0 ≤ x8_1) = true := decide_eq_true c6
     clear c6
     by_cases c7 : x8_1 < (t824.length : Int)
     ·
      rw [if_pos c7] at H
      have c7b0 : decide (x8_1 < (t824.length : Int)) = true := decide_eq_true c7
      clear c7
      replace H := Option.bind_eq_some_iff.mp H
      obtain ⟨t829, A80, H⟩ := H
      replace H : (if (Go.bits .and .u64 a0 t829) = 0 then (rule_Total.l0 k1 a0 t824 (t824.length : Int) (wrap64 (x8_1 + 1))) else (if (Go.bits .and .u64 a0 t829) = t829 then (rule_Total.l0 k1 a0 t824 (t824.length : Int) (wrap64 (x8_1 + 1))) else (some false))) = some r := H
      have A8 := Aside0.mk A80
      clear A80
      by_cases c9 : (Go.bits .and .u64 a0 t829) = 0
      ·
       rw [if_pos c9] at H
       have c9b0 : ((Go.bits .and .u64 a0 t829) == 0) = true := beq_iff_eq.mpr c9
       have c9b1 : ((Go.bits .and .u64 a0 t829) != 0) = false := bne_eq_false_iff_eq.mpr c9
       clear c9
       have H' := Aside0.mk H
       clear H
       have p827 : 0 ≤ (x8_1 : Int) := of_decide_eq_true (by first | (with_reducible assumption) | assumption)
       have q827 : x8_1 < (t824.length : Int) := of_decide_eq_true (by first | (with_reducible assumption) | assumption)
       obtain ⟨ad827, e827, hx827_0, hx827_1⟩ := at_T104 (Kd.R_reads' HO_6.out).2.2 x8_1 p827 q827
       cases e827
       replace p827 := eq_true p827
       replace q827 := eq_true q827
       go_wp2_with (first | ((with_reducible refine gate_dst (N := 4) rfl ?_); refine box_event ?hg (N := 4) ?hd (cs := #[.int .i64 0, .int .u8 0]) (t := 104) ?hr ?_; (case hd => rfl); (case hg => rfl); (case hr => first | (go_simp; done) | (go_simp; rfl)); intro gb828 hg w10 hbox hb; have n0_ := Aside0.mk (Kd.R_below (Kd.R_elderB (by (with_reducible repeat (first | apply Kd.R_alloc | apply Kd.R_drewN | apply Kd.R_drew)); exact HO_6.out) gb828 (Nat.le_of_eq hg.symm)) hb); have n1_ := Aside0.mk (below_step (by repeat (first | (with_reducible first | exact HB.out | apply ba_ | apply bn_ | apply bd_) | exact HB.out)) hb); have n2_ := Aside0.mk (hbox); have n3_ := Aside0.mk ((by rw [hg]; exact (below_size (by repeat (first | (with_reducible first | exact HB.out | apply ba_ | apply bn_ | apply bd_) | exact HB.out))) : w.heap.size ≤ gb828)); have n4_ := Aside0.mk ((by rw [hg]; exact (below_size (by repeat (first | (with_reducible first | exact HB.out | apply ba_ | apply bn_ | apply bd_) | exact HB.out))) : w.heap.size ≤ gb828)); clear HO_6; clear HB; have HO_6 := n0_; have HB := n1_; have BK828 := n2_; have GW828 := n3_; have GE828 := n4_; clear n0_ n1_ n2_ n3_ n4_; clear hb hbox hg; have hcz11_0 : w10.cell? ⟨gb828, 0, none⟩ = some (.int .i64 0) := (blk_cell BK828.out 0).trans rfl; have hcz11_1 : w10.cell? ⟨gb828, 1, none⟩ = some (.int .u8 0) := (blk_cell BK828.out 1).trans rfl; have hfz11_0 := blk_frozen BK828.out 0; have hfz11_1 := blk_frozen BK828.out 1) | ((with_reducible refine gate_callee (f := 59) rfl ?_); refine goesL_ (some 13) rfl rfl Tryd.func59 (by kernel_rfl) rfl #[.agg #[.int .i64 ((rd_T104 t824 x8_1).f0), .int .u8 ((rd_T104 t824 x8_1).f1)]] rfl (by (try simp only [List.map_toArray, List.map_cons, List.map_nil]); first | done | rfl | (simp only [List.length_drop, List.length_take]; rfl)) ?_; (with_reducible refine (table_Rings.calls k1 ((rd_T104 t824 x8_1).f0) ((rd_T104 t824 x8_1).f1) t829 _ A8.out).mono ?_); rintro e w12 ⟨rfl, hb⟩; refine ⟨_, rfl, ?_⟩; have n0_ := Aside0.mk (Kd.R_below (by (with_reducible repeat (first | apply Kd.R_alloc | apply Kd.R_drewN | apply Kd.R_drew)); exact (Kd.R_mono (Kd.R_far (p := ⟨gb828, 1, none⟩) (Kd.R_far (p := ⟨gb828, 0, none⟩) (Kd.R_mono HO_6.out (fun k_ hk => (⟨hk, hk.2⟩ : _ ∧ k_ ≠ gb828))) (fun _ hk => hk.2) (.int .i64 ((rd_T104 t824 x8_1).f0))) (fun _ hk => hk.2) (.int .u8 ((rd_T104 t824 x8_1).f1))) (fun _ h_ => h_.1))) hb); have n1_ := Aside0.mk (blk_below (g := gb828) (o := .cells #[.int .i64 ((rd_T104 t824 x8_1).f0), .int .u8 ((rd_T104 t824 x8_1).f1)] 104 (0, 0)) (by (with_reducible repeat (first | apply bN_ | apply bD_ | apply bA_)); refine blk_put (cs := #[.int .i64 ((rd_T104 t824 x8_1).f0), .int .u8 0]) ?_ 1 _ rfl; (with_reducible repeat (first | apply bN_ | apply bD_ | apply bA_)); refine blk_put (cs := #[.int .i64 0, .int .u8 0]) ?_ 0 _ rfl; (with_reducible repeat (first | apply bN_ | apply bD_ | apply bA_)); exact BK828.out) hb); have n2_ := Aside0.mk (below_step (by repeat (first | (with_reducible first | exact HB.out | apply ba_ | apply bn_ | apply bd_ | refine below_set ?_ GE828.out) | exact HB.out)) hb); clear HO_6; clear BK828; clear HB; have HO_6 := n0_; have BK828 := n1_; have HB := n2_; clear n0_ n1_ n2_; (try clear hb); (try clear hb2); (try clear hk); (try clear hi)))
       go_roundg k1
       case measure => have := HK1.out; omega
       case rel => exact ⟨(wrap64 (x8_1 + 1)), (by first | rfl | (simp; done) | (simp [*]; done)), H', ⟨by have := HK1.out; omega⟩, ⟨by (with_reducible repeat (first | apply Kd.R_alloc | apply Kd.R_drewN | apply Kd.R_drew)); exact Kd.R_mono HO_6.out (fun _ hk => trivial)⟩, ⟨by repeat (first | (with_reducible first | exact HB.out | apply ba_ | apply bn_ | apply bd_ | refine below_set ?_ GE828.out) | exact HB.out)⟩⟩
      ·
       rw [if_neg c9] at H
       have c9b0 : ((Go.bits .and .u64 a0 t829) == 0) = false := beq_eq_false_iff_ne.mpr c9
       have c9b1 : ((Go.bits .and .u64 a0 t829) != 0) = true := bne_iff_ne.mpr c9
       by_cases c13 : (Go.bits .and .u64 a0 t829) = t829
       ·
        rw [if_pos c13] at H
        have c13b0 : ((Go.bits .and .u64 a0 t829) == t829) = true := beq_iff_eq.mpr c13
        have c13b1 : ((Go.bits .and .u64 a0 t829) != t829) = false := bne_eq_false_iff_eq.mpr c13
        clear c13
        have H' := Aside0.mk H
        clear H
        have p827 : 0 ≤ (x8_1 : Int) := of_decide_eq_true (by first | (with_reducible assumption) | assumption)
        have q827 : x8_1 < (t824.length : Int) := of_decide_eq_true (by first | (with_reducible assumption) | assumption)
        obtain ⟨ad827, e827, hx827_0, hx827_1⟩ := at_T104 (Kd.R_reads' HO_6.out).2.2 x8_1 p827 q827
        cases e827
        replace p827 := eq_true p827
        replace q827 := eq_true q827
        go_wp2_with (first | ((with_reducible refine gate_dst (N := 4) rfl ?_); refine box_event ?hg (N := 4) ?hd (cs := #[.int .i64 0, .int .u8 0]) (t := 104) ?hr ?_; (case hd => rfl); (case hg => rfl); (case hr => first | (go_simp; done) | (go_simp; rfl)); intro gb828 hg w14 hbox hb; have n0_ := Aside0.mk (Kd.R_below (Kd.R_elderB (by (with_reducible repeat (first | apply Kd.R_alloc | apply Kd.R_drewN | apply Kd.R_drew)); exact HO_6.out) gb828 (Nat.le_of_eq hg.symm)) hb); have n1_ := Aside0.mk (below_step (by repeat (first | (with_reducible first | exact HB.out | apply ba_ | apply bn_ | apply bd_) | exact HB.out)) hb); have n2_ := Aside0.mk (hbox); have n3_ := Aside0.mk ((by rw [hg]; exact (below_size (by repeat (first | (with_reducible first | exact HB.out | apply ba_ | apply bn_ | apply bd_) | exact HB.out))) : w.heap.size ≤ gb828)); have n4_ := Aside0.mk ((by rw [hg]; exact (below_size (by repeat (first | (with_reducible first | exact HB.out | apply ba_ | apply bn_ | apply bd_) | exact HB.out))) : w.heap.size ≤ gb828)); clear HO_6; clear HB; have HO_6 := n0_; have HB := n1_; have BK828 := n2_; have GW828 := n3_; have GE828 := n4_; clear n0_ n1_ n2_ n3_ n4_; clear hb hbox hg; have hcz15_0 : w14.cell? ⟨gb828, 0, none⟩ = some (.int .i64 0) := (blk_cell BK828.out 0).trans rfl; have hcz15_1 : w14.cell? ⟨gb828, 1, none⟩ = some (.int .u8 0) := (blk_cell BK828.out 1).trans rfl; have hfz15_0 := blk_frozen BK828.out 0; have hfz15_1 := blk_frozen BK828.out 1) | ((with_reducible refine gate_callee (f := 59) rfl ?_); refine goesL_ (some 13) rfl rfl Tryd.func59 (by kernel_rfl) rfl #[.agg #[.int .i64 ((rd_T104 t824 x8_1).f0), .int .u8 ((rd_T104 t824 x8_1).f1)]] rfl (by (try simp only [List.map_toArray, List.map_cons, List.map_nil]); first | done | rfl | (simp only [List.length_drop, List.length_take]; rfl)) ?_; (with_reducible refine (table_Rings.calls k1 ((rd_T104 t824 x8_1).f0) ((rd_T104 t824 x8_1).f1) t829 _ A8.out).mono ?_); rintro e w16 ⟨rfl, hb⟩; refine ⟨_, rfl, ?_⟩; have n0_ := Aside0.mk (Kd.R_below (by (with_reducible repeat (first | apply Kd.R_alloc | apply Kd.R_drewN | apply Kd.R_drew)); exact (Kd.R_mono (Kd.R_far (p := ⟨gb828, 1, none⟩) (Kd.R_far (p := ⟨gb828, 0, none⟩) (Kd.R_mono HO_6.out (fun k_ hk => (⟨hk, hk.2⟩ : _ ∧ k_ ≠ gb828))) (fun _ hk => hk.2) (.int .i64 ((rd_T104 t824 x8_1).f0))) (fun _ hk => hk.2) (.int .u8 ((rd_T104 t824 x8_1).f1))) (fun _ h_ => h_.1))) hb); have n1_ := Aside0.mk (blk_below (g := gb828) (o := .cells #[.int .i64 ((rd_T104 t824 x8_1).f0), .int .u8 ((rd_T104 t824 x8_1).f1)] 104 (0, 0)) (by (with_reducible repeat (first | apply bN_ | apply bD_ | apply bA_)); refine blk_put (cs := #[.int .i64 ((rd_T104 t824 x8_1).f0), .int .u8 0]) ?_ 1 _ rfl; (with_reducible repeat (first | apply bN_ | apply bD_ | apply bA_)); refine blk_put (cs := #[.int .i64 0, .int .u8 0]) ?_ 0 _ rfl; (with_reducible repeat (first | apply bN_ | apply bD_ | apply bA_)); exact BK828.out) hb); have n2_ := Aside0.mk (below_step (by repeat (first | (with_reducible first | exact HB.out | apply ba_ | apply bn_ | apply bd_ | refine below_set ?_ GE828.out) | exact HB.out)) hb); clear HO_6; clear BK828; clear HB; have HO_6 := n0_; have BK828 := n1_; have HB := n2_; clear n0_ n1_ n2_; (try clear hb); (try clear hb2); (try clear hk); (try clear hi)))
        go_roundg k1
        case measure => have := HK1.out; omega
        case rel => exact ⟨(wrap64 (x8_1 + 1)), (by first | rfl | (simp; done) | (simp [*]; done)), H', ⟨by have := HK1.out; omega⟩, ⟨by (with_reducible repeat (first | apply Kd.R_alloc | apply Kd.R_drewN | apply Kd.R_drew)); exact Kd.R_mono HO_6.out (fun _ hk => trivial)⟩, ⟨by repeat (first | (with_reducible first | exact HB.out | apply ba_ | apply bn_ | apply bd_ | refine below_set ?_ GE828.out) | exact HB.out)⟩⟩
       ·
        rw [if_neg c13] at H
        have c13b0 : ((Go.bits .and .u64 a0 t829) == t829) = false := beq_eq_false_iff_ne.mpr c13
        have c13b1 : ((Go.bits .and .u64 a0 t829) != t829) = true := bne_iff_ne.mpr c13
        obtain rfl := Option.some.inj H
        have p827 : 0 ≤ (x8_1 : Int) := of_decide_eq_true (by first | (with_reducible assumption) | assumption)
        have q827 : x8_1 < (t824.length : Int) := of_decide_eq_true (by first | (with_reducible assumption) | assumption)
        obtain ⟨ad827, e827, hx827_0, hx827_1⟩ := at_T104 (Kd.R_reads' HO_6.out).2.2 x8_1 p827 q827
        cases e827
        replace p827 := eq_true p827
        replace q827 := eq_true q827
        go_wp2_with (first | ((with_reducible refine gate_dst (N := 4) rfl ?_); refine box_event ?hg (N := 4) ?hd (cs := #[.int .i64 0, .int .u8 0]) (t := 104) ?hr ?_; (case hd => rfl); (case hg => rfl); (case hr => first | (go_simp; done) | (go_simp; rfl)); intro gb828 hg w17 hbox hb; have n0_ := Aside0.mk (Kd.R_below (Kd.R_elderB (by (with_reducible repeat (first | apply Kd.R_alloc | apply Kd.R_drewN | apply Kd.R_drew)); exact HO_6.out) gb828 (Nat.le_of_eq hg.symm)) hb); have n1_ := Aside0.mk (below_step (by repeat (first | (with_reducible first | exact HB.out | apply ba_ | apply bn_ | apply bd_) | exact HB.out)) hb); have n2_ := Aside0.mk (hbox); have n3_ := Aside0.mk ((by rw [hg]; exact (below_size (by repeat (first | (with_reducible first | exact HB.out | apply ba_ | apply bn_ | apply bd_) | exact HB.out))) : w.heap.size ≤ gb828)); have n4_ := Aside0.mk ((by rw [hg]; exact (below_size (by repeat (first | (with_reducible first | exact HB.out | apply ba_ | apply bn_ | apply bd_) | exact HB.out))) : w.heap.size ≤ gb828)); clear HO_6; clear HB; have HO_6 := n0_; have HB := n1_; have BK828 := n2_; have GW828 := n3_; have GE828 := n4_; clear n0_ n1_ n2_ n3_ n4_; clear hb hbox hg; have hcz18_0 : w17.cell? ⟨gb828, 0, none⟩ = some (.int .i64 0) := (blk_cell BK828.out 0).trans rfl; have hcz18_1 : w17.cell? ⟨gb828, 1, none⟩ = some (.int .u8 0) := (blk_cell BK828.out 1).trans rfl; have hfz18_0 := blk_frozen BK828.out 0; have hfz18_1 := blk_frozen BK828.out 1) | ((with_reducible refine gate_callee (f := 59) rfl ?_); refine goesL_ (some 13) rfl rfl Tryd.func59 (by kernel_rfl) rfl #[.agg #[.int .i64 ((rd_T104 t824 x8_1).f0), .int .u8 ((rd_T104 t824 x8_1).f1)]] rfl (by (try simp only [List.map_toArray, List.map_cons, List.map_nil]); first | done | rfl | (simp only [List.length_drop, List.length_take]; rfl)) ?_; (with_reducible refine (table_Rings.calls k1 ((rd_T104 t824 x8_1).f0) ((rd_T104 t824 x8_1).f1) t829 _ A8.out).mono ?_); rintro e w19 ⟨rfl, hb⟩; refine ⟨_, rfl, ?_⟩; have n0_ := Aside0.mk (Kd.R_below (by (with_reducible repeat (first | apply Kd.R_alloc | apply Kd.R_drewN | apply Kd.R_drew)); exact (Kd.R_mono (Kd.R_far (p := ⟨gb828, 1, none⟩) (Kd.R_far (p := ⟨gb828, 0, none⟩) (Kd.R_mono HO_6.out (fun k_ hk => (⟨hk, hk.2⟩ : _ ∧ k_ ≠ gb828))) (fun _ hk => hk.2) (.int .i64 ((rd_T104 t824 x8_1).f0))) (fun _ hk => hk.2) (.int .u8 ((rd_T104 t824 x8_1).f1))) (fun _ h_ => h_.1))) hb); have n1_ := Aside0.mk (blk_below (g := gb828) (o := .cells #[.int .i64 ((rd_T104 t824 x8_1).f0), .int .u8 ((rd_T104 t824 x8_1).f1)] 104 (0, 0)) (by (with_reducible repeat (first | apply bN_ | apply bD_ | apply bA_)); refine blk_put (cs := #[.int .i64 ((rd_T104 t824 x8_1).f0), .int .u8 0]) ?_ 1 _ rfl; (with_reducible repeat (first | apply bN_ | apply bD_ | apply bA_)); refine blk_put (cs := #[.int .i64 0, .int .u8 0]) ?_ 0 _ rfl; (with_reducible repeat (first | apply bN_ | apply bD_ | apply bA_)); exact BK828.out) hb); have n2_ := Aside0.mk (below_step (by repeat (first | (with_reducible first | exact HB.out | apply ba_ | apply bn_ | apply bd_ | refine below_set ?_ GE828.out) | exact HB.out)) hb); clear HO_6; clear BK828; clear HB; have HO_6 := n0_; have BK828 := n1_; have HB := n2_; clear n0_ n1_ n2_; (try clear hb); (try clear hb2); (try clear hk); (try clear hi)))
        go_ret
        exact ⟨by first | rfl | (simp [errW_none, errW_some] <;> rfl) | (simp [*, errW_none, errW_some] <;> rfl), by repeat (first | (with_reducible first | exact HB.out | apply ba_ | apply bn_ | apply bd_ | refine below_set ?_ GE828.out) | exact HB.out)⟩
     ·
      rw [if_neg c7] at H
      exact absurd H (by simp)
    ·
     rw [if_neg c6] at H
     exact absurd H (by simp)
   ·
    rw [if_neg c5] at H
    have c5b0 : decide (x8_1 < (t824.length : Int)) = false := decide_eq_false c5
    clear c5
    obtain rfl := Option.some.inj H
    go_wp2
    go_ret
    exact ⟨by first | rfl | (simp [errW_none, errW_some] <;> rfl) | (simp [*, errW_none, errW_some] <;> rfl), by repeat (first | (with_reducible first | exact HB.out | apply ba_ | apply bn_ | apply bd_) | exact HB.out)⟩
end Go.Proofs.YtaeenefdbahfoaaDoor.H
