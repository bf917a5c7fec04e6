/- Parts of the proof of IsoWitness, merged out of our texts by wip/tools/pack.py. -/
import Derived.Test.YtaeenefdbahfoaaDoorKIsoWitness1
import Derived.Test.YtaeenefdbahfoaaDoorKIsoWitness6
import Derived.Test.YtaeenefdbahfoaaDoorKIsoWitness2
import Derived.BigRegion
import Derived.Test.YtaeenefdbahfoaaDoorKIsoWitness5
import Derived.Test.YtaeenefdbahfoaaDoorKIsoWitness4
import Derived.Test.YtaeenefdbahfoaaDoorKIsoWitness3
namespace Go.Proofs.YtaeenefdbahfoaaDoor
set_option linter.unusedSimpArgs false
set_option linter.unusedVariables false
set_option maxRecDepth 100000
set_option maxHeartbeats 16000000
section
open Go.RowKit Go.Proofs.YtaeenefdbahfoaaDoorW.PrintWords Go.Proofs.YtaeenefdbahfoaaDoorW.PrintLast Go.Proofs.YtaeenefdbahfoaaDoorW.PrintMore
open H
def XRNear.f (k : Nat) (l a b h a' b' h' : Int) : Option Bool :=
 if a = a' ∧ b = b' ∧ h = h' then some false
 else if l = 1 then some (decide (-1 ≤ wrap64 (a' - a) ∧ wrap64 (a' - a) ≤ 1 ∧ -1 ≤ wrap64 (b' - b) ∧ wrap64 (b' - b) ≤ 1 ∧ wrap64 (a' - a) ≠ wrap64 (b' - b)))
 else (honeycombref03_common.f k a b h a' b' h').bind fun n => some (if l = 2 then n == 2 else decide (n > 0))
attribute [local go_sem high] eqA60
theorem XRNear.calls (k : Nat) (a0 : Int) (a1_0 : Int) (a1_1 : Int) (a1_2 : Int) (a2_0 : Int) (a2_1 : Int) (a2_2 : Int) (r : Bool) (w : World) (hr : XRNear.f k a0 a1_0 a1_1 a1_2 a2_0 a2_1 a2_2 = some r) :
    Calls Tryd.prog 66 #[.int .i64 a0, .agg #[.int .i64 a1_0, .int .i64 a1_1, .int .i64 a1_2], .agg #[.int .i64 a2_0, .int .i64 a2_1, .int .i64 a2_2]] w fun e w' => e = .returned (.bool r) ∧ Below w.heap.size w w' := by
 go_enter Tryd.func66, Tryd.ntmps66
 go_upto_region 1 with (fail)
 obtain ⟨w1, hw1⟩ : ∃ W, W = (w.alloc (.cells #[.int .i64 a1_0, .int .i64 a1_1, .int .i64 a1_2] 60 (0, 0))).alloc (.cells #[.int .i64 a2_0, .int .i64 a2_1, .int .i64 a2_2] 60 (0, 0)) := ⟨_, rfl⟩
 have t1 : w1.heap[w.heap.size]? = some (.cells #[.int .i64 a1_0, .int .i64 a1_1, .int .i64 a1_2] 60 (0, 0)) := by rw [hw1]; exact blk_alloc (blk_new _ _) _
 have t2 : w1.heap[w.heap.size + 1]? = some (.cells #[.int .i64 a2_0, .int .i64 a2_1, .int .i64 a2_2] 60 (0, 0)) := by
  have := blk_new (w.alloc (.cells #[.int .i64 a1_0, .int .i64 a1_1, .int .i64 a1_2] 60 (0, 0))) (.cells #[.int .i64 a2_0, .int .i64 a2_1, .int .i64 a2_2] 60 (0, 0))
  rw [World.size_alloc] at this
  rw [hw1]
  exact this
 have hB1 : Below w.heap.size w w1 := by rw [hw1]; exact below_alloc2 (below_alloc (Below.refl _ _) _) (by simp) _
 rw [← hw1]
 clear hw1
 have HB := Aside0.mk hB1
 have p0 := blk_cell t1 0
 have p1 := blk_cell t1 1
 have p2 := blk_cell t1 2
 have q0 := blk_cell t2 0
 have q1 := blk_cell t2 1
 have q2 := blk_cell t2 2
 simp only [List.getElem?_toArray, List.getElem?_cons_zero, List.getElem?_cons_succ] at p0 p1 p2 q0 q1 q2
 clear t1 t2 hB1
 unfold XRNear.f at hr
 by_cases h0 : a1_0 = a2_0 ∧ a1_1 = a2_1 ∧ a1_2 = a2_2
 ·rw [if_pos h0] at hr
  obtain rfl := Option.some.inj hr
  have hee : (a1_0 == a2_0 && (a1_1 == a2_1 && (a1_2 == a2_2))) = true := by simp [h0]
  clear h0 hr
  go_wp2
  go_ret
  exact ⟨rfl, HB.out⟩
 ·rw [if_neg h0] at hr
  have hne : (a1_0 == a2_0 && (a1_1 == a2_1 && (a1_2 == a2_2))) = false := by
   rw [Bool.eq_false_iff]
   intro he
   simp only [Bool.and_eq_true, beq_iff_eq] at he
   exact h0 ⟨he.1, he.2.1, he.2.2⟩
  have HR := Aside0.mk hr
  clear h0 hr
  by_cases h1 : a0 = 1
  ·subst h1
   have hrv : r = decide (-1 ≤ wrap64 (a2_0 - a1_0) ∧ wrap64 (a2_0 - a1_0) ≤ 1 ∧ -1 ≤ wrap64 (a2_1 - a1_1) ∧ wrap64 (a2_1 - a1_1) ≤ 1 ∧ wrap64 (a2_0 - a1_0) ≠ wrap64 (a2_1 - a1_1)) := by
    have := HR.out
    rw [if_pos rfl] at this
    exact (Option.some.inj this).symm
   have HRV := Aside0.mk hrv
   clear HR hrv
   go_upto_region 5 with (fail)
   go_region
   all_goals
    clear p0 p1 p2 q0 q1 q2 hne
    go_wp2
   all_goals
    go_ret
    refine ⟨?_, below_drew HB.out⟩
    rw [HRV.out]
    show Ending.returned (Value.bool _) = Ending.returned (Value.bool _)
    congr 2
    first
     | (rw [eq_comm, decide_eq_false_iff_not]; omega)
     | (rw [Bool.eq_iff_iff]; simp only [bne_iff_ne, decide_eq_true_eq]; omega)
  ·have hl1 : (a0 == 1) = false := by simpa using h1
   obtain ⟨n, hn, hrv⟩ : ∃ n, honeycombref03_common.f k a1_0 a1_1 a1_2 a2_0 a2_1 a2_2 = some n ∧ r = if a0 = 2 then n == 2 else decide (n > 0) := by
    have := HR.out
    rw [if_neg h1] at this
    obtain ⟨n, hn, hx⟩ := Option.bind_eq_some_iff.mp this
    exact ⟨n, hn, (Option.some.inj hx).symm⟩
   have HN := Aside0.mk hn
   have HRV := Aside0.mk hrv
   clear HR hn hrv
   by_cases h2 : a0 = 2
   ·subst h2
    go_wp2_with fail
    refine (honeycombref03_common.calls k _ _ _ _ _ _ n _ HN.out).mono ?_
    rintro e w2 ⟨rfl, hb⟩
    have HB2 := Aside0.mk (HB.out.trans (hb.mono HB.out.size))
    clear p0 p1 p2 q0 q1 q2 hb hne
    go_wp2
    go_ret
    exact ⟨by rw [HRV.out]; simp only [↓reduceIte]; rfl, HB2.out⟩
   ·have hl2 : (a0 == 2) = false := by simpa using h2
    go_wp2_with fail
    refine (honeycombref03_common.calls k _ _ _ _ _ _ n _ HN.out).mono ?_
    rintro e w2 ⟨rfl, hb⟩
    have HB2 := Aside0.mk (HB.out.trans (hb.mono HB.out.size))
    clear p0 p1 p2 q0 q1 q2 hb hne
    go_wp2
    go_ret
    exact ⟨by rw [HRV.out, if_neg h2]; rfl, HB2.out⟩
end
open Go.RowKit Go.Proofs.YtaeenefdbahfoaaDoorW.PrintWords Go.Proofs.YtaeenefdbahfoaaDoorW.PrintLast Go.Proofs.YtaeenefdbahfoaaDoorW.PrintMore
namespace H
attribute [local go_sem] max2_int min2_int max_two min_two max_three min_three max_four min_four
mutual
def honeycombref08_neighbourhood.l0 : Nat → List (S60) → Int → Int → List (List Int) → Int → Int → Int → Int → Int → Option (Int)
 | 0, _, _, _, _, _, _, _, _, _ => none
 | k + 1, x1, x7, x9, x23, x24, x25, x420000, x420001, x420002 => if x25 < x24 then (if 0 ≤ x25 then (if x25 < (x23.length : Int) then (if 0 < ((rd_L10 x23 x25).length : Int) then (if 1 < ((rd_L10 x23 x25).length : Int) then ((honeycombref04_Has.f k x1 (wrap64 (x420000 + (rd (rd_L10 x23 x25) 0))) (wrap64 (x420001 + (rd (rd_L10 x23 x25) 1))) 0).bind fun t444 => (if t444 = true then (honeycombref08_neighbourhood.l0 k x1 (wrap64 (x7 + x9)) (wrap64 (2 * x9)) x23 x24 (wrap64 (x25 + 1)) x420000 x420001 x420002) else (honeycombref08_neighbourhood.l0 k x1 x7 (wrap64 (2 * x9)) x23 x24 (wrap64 (x25 + 1)) x420000 x420001 x420002))) else (none)) else (none)) else (none)) else (none)) else (some x7)
def honeycombref08_neighbourhood.l1 : Nat → Int → Int → List (S60) → Int → Int → Int → Int → Int → Option (Int)
 | 0, _, _, _, _, _, _, _, _ => none
 | k + 1, x0, x7, x51, x52, x53, x420000, x420001, x420002 => if x53 < x52 then (if 0 ≤ x53 then (if x53 < (x51.length : Int) then (if (wrap64 (((rd_T60 x51 x53).f0) - x420000)) ≤ 1 then (if (wrap64 (x420000 - ((rd_T60 x51 x53).f0))) ≤ 1 then (if (wrap64 (((rd_T60 x51 x53).f1) - x420001)) ≤ 1 then (if (wrap64 (x420001 - ((rd_T60 x51 x53).f1))) ≤ 1 then ((XRNear.f k x0 x420000 x420001 x420002 ((rd_T60 x51 x53).f0) ((rd_T60 x51 x53).f1) ((rd_T60 x51 x53).f2)).bind fun t447 => (honeycombref08_neighbourhood.j2 k x0 x7 x51 x52 x53 t447 x420000 x420001 x420002)) else (honeycombref08_neighbourhood.j2 k x0 x7 x51 x52 x53 false x420000 x420001 x420002)) else (honeycombref08_neighbourhood.j2 k x0 x7 x51 x52 x53 false x420000 x420001 x420002)) else (honeycombref08_neighbourhood.j2 k x0 x7 x51 x52 x53 false x420000 x420001 x420002)) else (honeycombref08_neighbourhood.j2 k x0 x7 x51 x52 x53 false x420000 x420001 x420002)) else (none)) else (none)) else (some x7)
def honeycombref08_neighbourhood.j2 : Nat → Int → Int → List (S60) → Int → Int → Bool → Int → Int → Int → Option (Int)
 | 0, _, _, _, _, _, _, _, _, _ => none
 | k + 1, x0, x7, x51, x52, x53, x92, x420000, x420001, x420002 => if x92 = true then (honeycombref08_neighbourhood.l1 k x0 (wrap64 (x7 + 1)) x51 x52 (wrap64 (x53 + 1)) x420000 x420001 x420002) else (honeycombref08_neighbourhood.l1 k x0 x7 x51 x52 (wrap64 (x53 + 1)) x420000 x420001 x420002)
end
def honeycombref08_neighbourhood.f (k : Nat) (a0 : Int) (l1 : List (S60)) (a2_0 : Int) (a2_1 : Int) (a2_2 : Int) : Option (Int) := if a0 = 1 then ((some (([(([1, 0] : List Int)), (([0, 1] : List Int)), (([(-1), 1] : List Int)), (([(-1), 0] : List Int)), (([0, (-1)] : List Int)), (([1, (-1)] : List Int))] : List (List Int)) : List (List Int))).bind fun y438 => (honeycombref08_neighbourhood.l0 k l1 0 1 y438 (y438.length : Int) 0 a2_0 a2_1 a2_2)) else (honeycombref08_neighbourhood.l1 k a0 0 l1 (l1.length : Int) 0 a2_0 a2_1 a2_2)
def honeycombref08_neighbourhood.T8 : Bool × List (List Nat × List Nat) := (true, [([], []), ([], []), ([1], [1]), ([], []), ([3], [3]), ([4], [4]), ([2, 5], [2, 5]), ([], []), ([7], [7]), ([], []), ([9], [9]), ([10], [10]), ([8, 11], [8, 11]), ([6, 12], [6, 12]), ([0, 13], [0, 13])])
def honeycombref08_neighbourhood.B8 : List Nat := [0, 0, 2, 0, 8, 24, 62, 0, 128, 0, 512, 1536, 3968, 8190, 16383]
theorem honeycombref08_neighbourhood.tab8 : rtab .any (opsOf Tryd.f64 8) = honeycombref08_neighbourhood.T8 := by kernel_rfl
theorem honeycombref08_neighbourhood.bits8 : waitsOk honeycombref08_neighbourhood.T8.2 honeycombref08_neighbourhood.B8 = true := by kernel_rfl
theorem honeycombref08_neighbourhood.calls (k : Nat) (a0 : Int) (A1 : Option Addr) (c1 : Nat) (l1 : List (S60)) (a2_0 : Int) (a2_1 : Int) (a2_2 : Int) (r : Int) (w : World) (hr1 : Kd.C k60 w A1 l1.length l1) (hc1 : l1.length ≤ c1) (h : honeycombref08_neighbourhood.f k a0 l1 a2_0 a2_1 a2_2 = some r) :
  Calls Tryd.prog 64 #[.int .i64 a0, .slice A1 l1.length c1, .agg #[.int .i64 a2_0, .int .i64 a2_1, .int .i64 a2_2]] w fun e w' => e = .returned (.int .i64 r) ∧ Below w.heap.size w w' := by
 have hu60 := Tryd.underlying60
 have HR1 := Aside0.mk hr1
 have HC1 := Aside0.mk hc1
 clear hr1 hc1
 have HB := Aside0.mk (Below.refl w.heap.size w)
 have H : (if a0 = 1 then ((some (([(([1, 0] : List Int)), (([0, 1] : List Int)), (([(-1), 1] : List Int)), (([(-1), 0] : List Int)), (([0, (-1)] : List Int)), (([1, (-1)] : List Int))] : List (List Int)) : List (List Int))).bind fun y438 => (honeycombref08_neighbourhood.l0 k l1 0 1 y438 (y438.length : Int) 0 a2_0 a2_1 a2_2)) else (honeycombref08_neighbourhood.l1 k a0 0 l1 (l1.length : Int) 0 a2_0 a2_1 a2_2)) = some r := h
 clear h
 by_cases c4 : a0 = 1
 rotate_left
 ·
  rw [if_neg c4] at H
  have c4b0 : (a0 == 1) = false := beq_eq_false_iff_ne.mpr c4
  have c4b1 : (a0 != 1) = true := bne_iff_ne.mpr c4
  have H' := Aside0.mk H
  clear H
  go_enter Tryd.func64, Tryd.ntmps64
  go_wp2_with (first | ((with_reducible refine gate_dst (N := 5) rfl ?_); refine bx_ 5 #[.int .i64 a2_0, .int .i64 a2_1, .int .i64 a2_2] 60 ?_; intro gb419 hg w38 hbox hb; have BK419 := Aside0.mk (hbox); have GW419 := Aside0.mk ((by rw [hg]; exact (below_size hb_) : w.heap.size ≤ gb419)); have GE419 := GW419; replace HB := Aside0.mk (below_step hb_ hb); clear hb hbox hg))
  go_loopg [7, 53] k (fun kq v7 v53 w' => ∃ (x7_1 : Int) (x53_1 : Int), v7 = .int .i64 x7_1 ∧ v53 = .int .i64 x53_1 ∧ Aside0 (honeycombref08_neighbourhood.l1 kq a0 x7_1 l1 (l1.length : Int) x53_1 a2_0 a2_1 a2_2 = some r) ∧ Aside0 (kq ≤ k) ∧ Aside0 (w'.heap[gb419]? = some (.cells #[.int .i64 a2_0, .int .i64 a2_1, .int .i64 a2_2] 60 (0, 0))) ∧ Aside0 (Below w.heap.size w w'))
  case atStart => exact ⟨(0), (0), rs_, rs_, H', ⟨Nat.le_refl _⟩, ⟨bk_ BK419.out⟩, ⟨by repeat (first | (with_reducible first | exact HB.out | apply ba_ | apply bn_ | apply bd_ | refine below_set ?_ GE419.out) | exact HB.out)⟩⟩
  case round =>
   clear H'
   try clear c1
   try clear c2
   try clear p2
   try clear c3
   try clear c4
   try clear c4b0
   try clear c4b1
   try clear p4
   try clear q4
   try clear hx4
   try clear qi4
   try clear c6
   try clear p6
   try clear c27
   try clear c27b0
   try clear c28
   try clear c28b0
   try clear c29
   try clear c29b0
   try clear c30
   try clear c30b0
   try clear c30b1
   try clear c31
   try clear c31b0
   try clear c31b1
   try clear c33
   try clear hx441_0
   try clear hx442_0
   try clear hx443_0
   try clear p2
   try clear p441
   try clear p442
   try clear p443
   try clear q441
   try clear q442
   try clear q443
   obtain ⟨x7_1, x53_1, rfl, rfl, HA, HK1, BK419, HB⟩ := hrel
   cases gk with
   | zero => exact absurd HA.out (by simp [honeycombref08_neighbourhood.l1])
   | succ k1 =>
    have H := HA.out
    clear HA
    simp only [honeycombref08_neighbourhood.l1] at H
    by_cases c39 : x53_1 < (l1.length : Int)
    rotate_left
    ·
     rw [if_neg c39] at H
     have c39b0 : decide (x53_1 < (l1.length : Int)) = false := decide_eq_false c39
     clear c39
     obtain rfl := Option.some.inj H
     go_wp2
     go_ret
     exact ⟨er_, hg_ GE419.out⟩
    rw [if_pos c39] at H
    have c39b0 : decide (x53_1 < (l1.length : Int)) = true := decide_eq_true c39
    clear c39
    by_cases c40 : 0 ≤ x53_1
    rotate_left
    ·
     rw [if_neg c40] at H
     exact absurd H (by simp)
    rw [if_pos c40] at H
    have c40b0 : decide (0 ≤ x53_1) = true := decide_eq_true c40
    clear c40
    by_cases c41 : x53_1 < (l1.length : Int)
    rotate_left
    ·
     rw [if_neg c41] at H
     exact absurd H (by simp)
    rw [if_pos c41] at H
    have c41b0 : decide (x53_1 < (l1.length : Int)) = true := decide_eq_true c41
    clear c41
    have HC42 := Aside0.mk H
    clear H
    have p445 : 0 ≤ (x53_1 : Int) := of_decide_eq_true as_
    have q445 : x53_1 < (l1.length : Int) := of_decide_eq_true as_
    obtain ⟨ad445, e445, hx445_0, hx445_1, hx445_2⟩ := at_T60 HR1.out x53_1 p445 q445
    cases e445
    try replace hx445_0 := (HB.out.cell (World.block_lt_of_cell? w _ hx445_0)).trans hx445_0
    try replace hx445_1 := (HB.out.cell (World.block_lt_of_cell? w _ hx445_1)).trans hx445_1
    try replace hx445_2 := (HB.out.cell (World.block_lt_of_cell? w _ hx445_2)).trans hx445_2
    replace p445 := eq_true p445
    replace q445 := eq_true q445
    go_upto_region 16 with (first | ((with_reducible refine gate_dst (N := 13) rfl ?_); refine bx_ 13 #[.int .i64 0, .int .i64 0, .int .i64 0] 60 ?_; intro gb446 hg w43 hbox hb; have BK446 := Aside0.mk (hbox); have GW446 := Aside0.mk ((by rw [hg]; exact (below_size (hg_ GE419.out)) : w.heap.size ≤ gb446)); have GE446 := GW446; have NB419_446 := Aside0.mk ((by rw [hg]; exact ne1_ BK419.out : gb419 ≠ gb446)); have NB446_419 := Aside0.mk ((by rw [hg]; exact ne2_ BK419.out : gb446 ≠ gb419)); replace BK419 := bb_ BK419.out hb; replace HB := Aside0.mk (below_step (hg_ GE419.out) hb); clear hb hbox hg; have hnb44 := NB446_419.out; have hnc44 := NB419_446.out; obtain ⟨hcz45_0, hcz45_1, hcz45_2⟩ := cz3_ BK446.out; obtain ⟨hfz45_0, hfz45_1, hfz45_2⟩ := fz3_ BK446.out))
    (try simp only [Act.put, List.setIfInBounds_toArray, List.set_cons_zero, List.set_cons_succ])
    go_cut [92] (fun v92 wc => ∃ (kq : Nat) (x92_41 : Bool), v92 = .bool x92_41 ∧ Aside0 (honeycombref08_neighbourhood.j2 kq a0 x7_1 l1 (l1.length : Int) x53_1 x92_41 a2_0 a2_1 a2_2 = some r) ∧ Aside0 (kq ≤ k1) ∧ Aside0 (wc.heap[gb419]? = some (.cells #[.int .i64 a2_0, .int .i64 a2_1, .int .i64 a2_2] 60 (0, 0))) ∧ Aside0 (wc.heap[gb446]? = some (.cells #[.int .i64 ((rd_T60 l1 x53_1).f0), .int .i64 ((rd_T60 l1 x53_1).f1), .int .i64 ((rd_T60 l1 x53_1).f2)] 60 (0, 0))) ∧ Aside0 (Below w.heap.size w wc))
    case first =>
     have H := HC42.out
     clear HC42
     by_cases c46 : (wrap64 (((rd_T60 l1 x53_1).f0) - a2_0)) ≤ 1
     rotate_left
     ·
      rw [if_neg c46] at H
      have c46b0 : decide ((wrap64 (((rd_T60 l1 x53_1).f0) - a2_0)) ≤ 1) = false := decide_eq_false c46
      clear c46
      (first | rw [c46b0] | (simp only [i64_w, i32_w]; rw [c46b0]) | skip)
      have H' := Aside0.mk H
      clear H
      have hnb64 := NB446_419.out
      have hnc64 := NB419_446.out
      obtain ⟨hcz65_0, hcz65_1, hcz65_2⟩ := cz3_ BK446.out
      obtain ⟨hfz65_0, hfz65_1, hfz65_2⟩ := fz3_ BK446.out
      obtain ⟨hcz66_0, hcz66_1, hcz66_2⟩ := cz3_ BK419.out
      obtain ⟨hfz66_0, hfz66_1, hfz66_2⟩ := fz3_ BK419.out
      go_wp2
      go_meet
      case rel => exact ⟨_, (false), rs_, H', ⟨by have := HK1.out; first | omega | exact Nat.le_refl _⟩, ⟨by (with_reducible repeat (first | apply bN_ | apply bD_ | apply bA_)); refine blk_far ?_ NB419_446.out _; (with_reducible repeat (first | apply bN_ | apply bD_ | apply bA_)); refine blk_far ?_ NB419_446.out _; (with_reducible repeat (first | apply bN_ | apply bD_ | apply bA_)); refine blk_far ?_ NB419_446.out _; (with_reducible repeat (first | apply bN_ | apply bD_ | apply bA_)); exact BK419.out⟩, ⟨by (with_reducible repeat (first | apply bN_ | apply bD_ | apply bA_)); refine blk_put (cs := #[.int .i64 ((rd_T60 l1 x53_1).f0), .int .i64 ((rd_T60 l1 x53_1).f1), .int .i64 0]) ?_ 2 _ rfl; (with_reducible repeat (first | apply bN_ | apply bD_ | apply bA_)); refine blk_put (cs := #[.int .i64 ((rd_T60 l1 x53_1).f0), .int .i64 0, .int .i64 0]) ?_ 1 _ rfl; (with_reducible repeat (first | apply bN_ | apply bD_ | apply bA_)); refine blk_put (cs := #[.int .i64 0, .int .i64 0, .int .i64 0]) ?_ 0 _ rfl; (with_reducible repeat (first | apply bN_ | apply bD_ | apply bA_)); exact BK446.out⟩, ⟨by repeat (first | (with_reducible first | exact HB.out | apply ba_ | apply bn_ | apply bd_ | refine below_set ?_ GE419.out | refine below_set ?_ GE446.out) | exact HB.out)⟩⟩
     rw [if_pos c46] at H
     have c46b0 : decide ((wrap64 (((rd_T60 l1 x53_1).f0) - a2_0)) ≤ 1) = true := decide_eq_true c46
     clear c46
     (first | rw [c46b0] | (simp only [i64_w, i32_w]; rw [c46b0]) | skip)
     by_cases c47 : (wrap64 (a2_0 - ((rd_T60 l1 x53_1).f0))) ≤ 1
     rotate_left
     ·
      rw [if_neg c47] at H
      have c47b0 : decide ((wrap64 (a2_0 - ((rd_T60 l1 x53_1).f0))) ≤ 1) = false := decide_eq_false c47
      clear c47
      have H' := Aside0.mk H
      clear H
      have hnb61 := NB446_419.out
      have hnc61 := NB419_446.out
      obtain ⟨hcz62_0, hcz62_1, hcz62_2⟩ := cz3_ BK446.out
      obtain ⟨hfz62_0, hfz62_1, hfz62_2⟩ := fz3_ BK446.out
      obtain ⟨hcz63_0, hcz63_1, hcz63_2⟩ := cz3_ BK419.out
      obtain ⟨hfz63_0, hfz63_1, hfz63_2⟩ := fz3_ BK419.out
      go_wp2
      go_meet
      case rel => exact ⟨_, (false), rs_, H', ⟨by have := HK1.out; first | omega | exact Nat.le_refl _⟩, ⟨by (with_reducible repeat (first | apply bN_ | apply bD_ | apply bA_)); refine blk_far ?_ NB419_446.out _; (with_reducible repeat (first | apply bN_ | apply bD_ | apply bA_)); refine blk_far ?_ NB419_446.out _; (with_reducible repeat (first | apply bN_ | apply bD_ | apply bA_)); refine blk_far ?_ NB419_446.out _; (with_reducible repeat (first | apply bN_ | apply bD_ | apply bA_)); exact BK419.out⟩, ⟨by (with_reducible repeat (first | apply bN_ | apply bD_ | apply bA_)); refine blk_put (cs := #[.int .i64 ((rd_T60 l1 x53_1).f0), .int .i64 ((rd_T60 l1 x53_1).f1), .int .i64 0]) ?_ 2 _ rfl; (with_reducible repeat (first | apply bN_ | apply bD_ | apply bA_)); refine blk_put (cs := #[.int .i64 ((rd_T60 l1 x53_1).f0), .int .i64 0, .int .i64 0]) ?_ 1 _ rfl; (with_reducible repeat (first | apply bN_ | apply bD_ | apply bA_)); refine blk_put (cs := #[.int .i64 0, .int .i64 0, .int .i64 0]) ?_ 0 _ rfl; (with_reducible repeat (first | apply bN_ | apply bD_ | apply bA_)); exact BK446.out⟩, ⟨by repeat (first | (with_reducible first | exact HB.out | apply ba_ | apply bn_ | apply bd_ | refine below_set ?_ GE419.out | refine below_set ?_ GE446.out) | exact HB.out)⟩⟩
     rw [if_pos c47] at H
     have c47b0 : decide ((wrap64 (a2_0 - ((rd_T60 l1 x53_1).f0))) ≤ 1) = true := decide_eq_true c47
     clear c47
     by_cases c48 : (wrap64 (((rd_T60 l1 x53_1).f1) - a2_1)) ≤ 1
     rotate_left
     ·
      rw [if_neg c48] at H
      have c48b0 : decide ((wrap64 (((rd_T60 l1 x53_1).f1) - a2_1)) ≤ 1) = false := decide_eq_false c48
      clear c48
      have H' := Aside0.mk H
      clear H
      have hnb58 := NB446_419.out
      have hnc58 := NB419_446.out
      obtain ⟨hcz59_0, hcz59_1, hcz59_2⟩ := cz3_ BK446.out
      obtain ⟨hfz59_0, hfz59_1, hfz59_2⟩ := fz3_ BK446.out
      obtain ⟨hcz60_0, hcz60_1, hcz60_2⟩ := cz3_ BK419.out
      obtain ⟨hfz60_0, hfz60_1, hfz60_2⟩ := fz3_ BK419.out
      go_wp2
      go_meet
      case rel => exact ⟨_, (false), rs_, H', ⟨by have := HK1.out; first | omega | exact Nat.le_refl _⟩, ⟨by (with_reducible repeat (first | apply bN_ | apply bD_ | apply bA_)); refine blk_far ?_ NB419_446.out _; (with_reducible repeat (first | apply bN_ | apply bD_ | apply bA_)); refine blk_far ?_ NB419_446.out _; (with_reducible repeat (first | apply bN_ | apply bD_ | apply bA_)); refine blk_far ?_ NB419_446.out _; (with_reducible repeat (first | apply bN_ | apply bD_ | apply bA_)); exact BK419.out⟩, ⟨by (with_reducible repeat (first | apply bN_ | apply bD_ | apply bA_)); refine blk_put (cs := #[.int .i64 ((rd_T60 l1 x53_1).f0), .int .i64 ((rd_T60 l1 x53_1).f1), .int .i64 0]) ?_ 2 _ rfl; (with_reducible repeat (first | apply bN_ | apply bD_ | apply bA_)); refine blk_put (cs := #[.int .i64 ((rd_T60 l1 x53_1).f0), .int .i64 0, .int .i64 0]) ?_ 1 _ rfl; (with_reducible repeat (first | apply bN_ | apply bD_ | apply bA_)); refine blk_put (cs := #[.int .i64 0, .int .i64 0, .int .i64 0]) ?_ 0 _ rfl; (with_reducible repeat (first | apply bN_ | apply bD_ | apply bA_)); exact BK446.out⟩, ⟨by repeat (first | (with_reducible first | exact HB.out | apply ba_ | apply bn_ | apply bd_ | refine below_set ?_ GE419.out | refine below_set ?_ GE446.out) | exact HB.out)⟩⟩
     rw [if_pos c48] at H
     have c48b0 : decide ((wrap64 (((rd_T60 l1 x53_1).f1) - a2_1)) ≤ 1) = true := decide_eq_true c48
     clear c48
     by_cases c49 : (wrap64 (a2_1 - ((rd_T60 l1 x53_1).f1))) ≤ 1
     rotate_left
     ·
      rw [if_neg c49] at H
      have c49b0 : decide ((wrap64 (a2_1 - ((rd_T60 l1 x53_1).f1))) ≤ 1) = false := decide_eq_false c49
      clear c49
      have H' := Aside0.mk H
      clear H
      have hnb55 := NB446_419.out
      have hnc55 := NB419_446.out
      obtain ⟨hcz56_0, hcz56_1, hcz56_2⟩ := cz3_ BK446.out
      obtain ⟨hfz56_0, hfz56_1, hfz56_2⟩ := fz3_ BK446.out
      obtain ⟨hcz57_0, hcz57_1, hcz57_2⟩ := cz3_ BK419.out
      obtain ⟨hfz57_0, hfz57_1, hfz57_2⟩ := fz3_ BK419.out
      go_wp2
      go_meet
      case rel => exact ⟨_, (false), rs_, H', ⟨by have := HK1.out; first | omega | exact Nat.le_refl _⟩, ⟨by (with_reducible repeat (first | apply bN_ | apply bD_ | apply bA_)); refine blk_far ?_ NB419_446.out _; (with_reducible repeat (first | apply bN_ | apply bD_ | apply bA_)); refine blk_far ?_ NB419_446.out _; (with_reducible repeat (first | apply bN_ | apply bD_ | apply bA_)); refine blk_far ?_ NB419_446.out _; (with_reducible repeat (first | apply bN_ | apply bD_ | apply bA_)); exact BK419.out⟩, ⟨by (with_reducible repeat (first | apply bN_ | apply bD_ | apply bA_)); refine blk_put (cs := #[.int .i64 ((rd_T60 l1 x53_1).f0), .int .i64 ((rd_T60 l1 x53_1).f1), .int .i64 0]) ?_ 2 _ rfl; (with_reducible repeat (first | apply bN_ | apply bD_ | apply bA_)); refine blk_put (cs := #[.int .i64 ((rd_T60 l1 x53_1).f0), .int .i64 0, .int .i64 0]) ?_ 1 _ rfl; (with_reducible repeat (first | apply bN_ | apply bD_ | apply bA_)); refine blk_put (cs := #[.int .i64 0, .int .i64 0, .int .i64 0]) ?_ 0 _ rfl; (with_reducible repeat (first | apply bN_ | apply bD_ | apply bA_)); exact BK446.out⟩, ⟨by repeat (first | (with_reducible first | exact HB.out | apply ba_ | apply bn_ | apply bd_ | refine below_set ?_ GE419.out | refine below_set ?_ GE446.out) | exact HB.out)⟩⟩
     rw [if_pos c49] at H
     have c49b0 : decide ((wrap64 (a2_1 - ((rd_T60 l1 x53_1).f1))) ≤ 1) = true := decide_eq_true c49
     clear c49
     replace H := Option.bind_eq_some_iff.mp H
     obtain ⟨t447, A500, H⟩ := H
     replace H : (honeycombref08_neighbourhood.j2 k1 a0 x7_1 l1 (l1.length : Int) x53_1 t447 a2_0 a2_1 a2_2) = some r := H
     have A50 := Aside0.mk A500
     clear A500
     have H' := Aside0.mk H
     clear H
     have hnb51 := NB446_419.out
     have hnc51 := NB419_446.out
     obtain ⟨hcz52_0, hcz52_1, hcz52_2⟩ := cz3_ BK446.out
     obtain ⟨hfz52_0, hfz52_1, hfz52_2⟩ := fz3_ BK446.out
     obtain ⟨hcz53_0, hcz53_1, hcz53_2⟩ := cz3_ BK419.out
     obtain ⟨hfz53_0, hfz53_1, hfz53_2⟩ := fz3_ BK419.out
     go_wp2_with (first | (go_at_call 66; (with_reducible refine (XRNear.calls k1 a0 a2_0 a2_1 a2_2 ((rd_T60 l1 x53_1).f0) ((rd_T60 l1 x53_1).f1) ((rd_T60 l1 x53_1).f2) t447 _ A50.out).mono ?_); rintro e w54 ⟨rfl, hb⟩; replace BK419 := Aside0.mk (blk_below (g := gb419) (o := .cells #[.int .i64 a2_0, .int .i64 a2_1, .int .i64 a2_2] 60 (0, 0)) (by (with_reducible repeat (first | apply bN_ | apply bD_ | apply bA_)); refine blk_far ?_ NB419_446.out _; (with_reducible repeat (first | apply bN_ | apply bD_ | apply bA_)); refine blk_far ?_ NB419_446.out _; (with_reducible repeat (first | apply bN_ | apply bD_ | apply bA_)); refine blk_far ?_ NB419_446.out _; (with_reducible repeat (first | apply bN_ | apply bD_ | apply bA_)); exact BK419.out) hb); replace BK446 := Aside0.mk (blk_below (g := gb446) (o := .cells #[.int .i64 ((rd_T60 l1 x53_1).f0), .int .i64 ((rd_T60 l1 x53_1).f1), .int .i64 ((rd_T60 l1 x53_1).f2)] 60 (0, 0)) (by (with_reducible repeat (first | apply bN_ | apply bD_ | apply bA_)); refine blk_put (cs := #[.int .i64 ((rd_T60 l1 x53_1).f0), .int .i64 ((rd_T60 l1 x53_1).f1), .int .i64 0]) ?_ 2 _ rfl; (with_reducible repeat (first | apply bN_ | apply bD_ | apply bA_)); refine blk_put (cs := #[.int .i64 ((rd_T60 l1 x53_1).f0), .int .i64 0, .int .i64 0]) ?_ 1 _ rfl; (with_reducible repeat (first | apply bN_ | apply bD_ | apply bA_)); refine blk_put (cs := #[.int .i64 0, .int .i64 0, .int .i64 0]) ?_ 0 _ rfl; (with_reducible repeat (first | apply bN_ | apply bD_ | apply bA_)); exact BK446.out) hb); replace HB := Aside0.mk (below_step (hg2_ GE419.out GE446.out) hb); (try clear hb); (try clear hb2); (try clear hk); (try clear hi)))
     go_meet
     case rel => exact ⟨_, (t447), rs_, H', ⟨by have := HK1.out; first | omega | exact Nat.le_refl _⟩, ⟨bk_ BK419.out⟩, ⟨bk_ BK446.out⟩, ⟨by repeat (first | (with_reducible first | exact HB.out | apply ba_ | apply bn_ | apply bd_ | refine below_set ?_ GE419.out | refine below_set ?_ GE446.out) | exact HB.out)⟩⟩
    case rest =>
     clear HC42
     try clear c1
     try clear c2
     try clear p2
     try clear c3
     try clear c4
     try clear c4b0
     try clear c4b1
     try clear p4
     try clear q4
     try clear hx4
     try clear qi4
     try clear c5
     try clear c6
     try clear p6
     try clear c27
     try clear c27b0
     try clear c28
     try clear c28b0
     try clear c29
     try clear c29b0
     try clear c30
     try clear c30b0
     try clear c30b1
     try clear c31
     try clear c31b0
     try clear c31b1
     try clear c33
     try clear c39
     try clear c39b0
     try clear c40
     try clear c40b0
     try clear c41
     try clear c41b0
     try clear c44
     try clear p44
     try clear q44
     try clear hx44
     try clear qi44
     try clear c46
     try clear c46b0
     try clear c47
     try clear c47b0
     try clear c48
     try clear c48b0
     try clear c49
     try clear c49b0
     try clear c51
     try clear c55
     try clear c58
     try clear c61
     try clear c63
     try clear c64
     try clear p64
     try clear hcz45_0
     try clear hcz45_1
     try clear hcz45_2
     try clear hcz52_0
     try clear hcz52_1
     try clear hcz52_2
     try clear hcz53_0
     try clear hcz53_1
     try clear hcz53_2
     try clear hcz56_0
     try clear hcz56_1
     try clear hcz56_2
     try clear hcz57_0
     try clear hcz57_1
     try clear hcz57_2
     try clear hcz59_0
     try clear hcz59_1
     try clear hcz59_2
     try clear hcz60_0
     try clear hcz60_1
     try clear hcz60_2
     try clear hcz62_0
     try clear hcz62_1
     try clear hcz62_2
     try clear hcz63_0
     try clear hcz63_1
     try clear hcz63_2
     try clear hcz65_0
     try clear hcz65_1
     try clear hcz65_2
     try clear hcz66_0
     try clear hcz66_1
     try clear hcz66_2
     try clear hfz45_0
     try clear hfz45_1
     try clear hfz45_2
     try clear hfz52_0
     try clear hfz52_1
     try clear hfz52_2
     try clear hfz53_0
     try clear hfz53_1
     try clear hfz53_2
     try clear hfz56_0
     try clear hfz56_1
     try clear hfz56_2
     try clear hfz57_0
     try clear hfz57_1
     try clear hfz57_2
     try clear hfz59_0
     try clear hfz59_1
     try clear hfz59_2
     try clear hfz60_0
     try clear hfz60_1
     try clear hfz60_2
     try clear hfz62_0
     try clear hfz62_1
     try clear hfz62_2
     try clear hfz63_0
     try clear hfz63_1
     try clear hfz63_2
     try clear hfz65_0
     try clear hfz65_1
     try clear hfz65_2
     try clear hfz66_0
     try clear hfz66_1
     try clear hfz66_2
     try clear hx441_0
     try clear hx442_0
     try clear hx443_0
     try clear hx445_0
     try clear hx445_1
     try clear hx445_2
     try clear p2
     try clear p4
     try clear p441
     try clear p442
     try clear p443
     try clear p445
     try clear p6
     try clear q4
     try clear q441
     try clear q442
     try clear q443
     try clear q445
     obtain ⟨kq, x92_41, rfl, HA, HJ41, BK419, BK446, HB⟩ := hcut
     cases kq with
     | zero => exact absurd HA.out (by simp [honeycombref08_neighbourhood.j2])
     | succ kj41 =>
      have H := HA.out
      clear HA
      simp only [honeycombref08_neighbourhood.j2] at H
      by_cases c67 : x92_41 = true
      ·
       subst c67
       have H1 : (honeycombref08_neighbourhood.l1 kj41 a0 (wrap64 (x7_1 + 1)) l1 (l1.length : Int) (wrap64 (x53_1 + 1)) a2_0 a2_1 a2_2) = some r := by rw [if_pos rfl] at H; exact H
       clear H
       have H := H1
       clear H1
       have H' := Aside0.mk H
       clear H
       go_wp2
       go_roundg kj41
       case measure => have := HK1.out; have := HJ41.out; omega
       case rel => exact ⟨(wrap64 (x7_1 + 1)), (wrap64 (x53_1 + 1)), rs_, rs_, H', ⟨by have := HK1.out; have := HJ41.out; omega⟩, ⟨bk_ BK419.out⟩, ⟨by repeat (first | (with_reducible first | exact HB.out | apply ba_ | apply bn_ | apply bd_ | refine below_set ?_ GE419.out | refine below_set ?_ GE446.out) | exact HB.out)⟩⟩
      replace c67 := Bool.eq_false_iff.mpr c67
      subst c67
      have H1 : (honeycombref08_neighbourhood.l1 kj41 a0 x7_1 l1 (l1.length : Int) (wrap64 (x53_1 + 1)) a2_0 a2_1 a2_2) = some r := by rw [if_neg (show ¬ (false = true) by decide)] at H; exact H
      clear H
      have H := H1
      clear H1
      have H' := Aside0.mk H
      clear H
      go_wp2
      go_roundg kj41
      case measure => have := HK1.out; have := HJ41.out; omega
      case rel => exact ⟨(x7_1), (wrap64 (x53_1 + 1)), rs_, rs_, H', ⟨by have := HK1.out; have := HJ41.out; omega⟩, ⟨bk_ BK419.out⟩, ⟨by repeat (first | (with_reducible first | exact HB.out | apply ba_ | apply bn_ | apply bd_ | refine below_set ?_ GE419.out | refine below_set ?_ GE446.out) | exact HB.out)⟩⟩
 rw [if_pos c4] at H
 have c4b0 : (a0 == 1) = true := beq_iff_eq.mpr c4
 have c4b1 : (a0 != 1) = false := bne_eq_false_iff_eq.mpr c4
 clear c4
 obtain ⟨y420, hy420⟩ : ∃ y_ : List Int, y_ = (([1, 0] : List Int)) := ⟨_, rfl⟩
 replace H : ((some (([y420, (([0, 1] : List Int)), (([(-1), 1] : List Int)), (([(-1), 0] : List Int)), (([0, (-1)] : List Int)), (([1, (-1)] : List Int))] : List (List Int)) : List (List Int))).bind fun y438 => (honeycombref08_neighbourhood.l0 k l1 0 1 y438 (y438.length : Int) 0 a2_0 a2_1 a2_2)) = some r := by first | (rw [hy420]; with_reducible exact H) | (have H2_ := (Option.bind_some _ _).symm.trans H; rw [hy420]; with_reducible exact H2_) | (have H2_ := (Option.bind_some _ _).symm.trans H; with_reducible exact H2_) | with_reducible exact H | (rw [hy420]; exact H) | exact H
 have Ny420 := Aside0.mk hy420
 clear hy420
 obtain ⟨y423, hy423⟩ : ∃ y_ : List Int, y_ = (([0, 1] : List Int)) := ⟨_, rfl⟩
 replace H : ((some (([y420, y423, (([(-1), 1] : List Int)), (([(-1), 0] : List Int)), (([0, (-1)] : List Int)), (([1, (-1)] : List Int))] : List (List Int)) : List (List Int))).bind fun y438 => (honeycombref08_neighbourhood.l0 k l1 0 1 y438 (y438.length : Int) 0 a2_0 a2_1 a2_2)) = some r := by first | (rw [hy423]; with_reducible exact H) | (have H2_ := (Option.bind_some _ _).symm.trans H; rw [hy423]; with_reducible exact H2_) | (have H2_ := (Option.bind_some _ _).symm.trans H; with_reducible exact H2_) | with_reducible exact H | (rw [hy423]; exact H) | exact H
 have Ny423 := Aside0.mk hy423
 clear hy423
 obtain ⟨y426, hy426⟩ : ∃ y_ : List Int, y_ = (([(-1), 1] : List Int)) := ⟨_, rfl⟩
 replace H : ((some (([y420, y423, y426, (([(-1), 0] : List Int)), (([0, (-1)] : List Int)), (([1, (-1)] : List Int))] : List (List Int)) : List (List Int))).bind fun y438 => (honeycombref08_neighbourhood.l0 k l1 0 1 y438 (y438.length : Int) 0 a2_0 a2_1 a2_2)) = some r := by first | (rw [hy426]; with_reducible exact H) | (have H2_ := (Option.bind_some _ _).symm.trans H; rw [hy426]; with_reducible exact H2_) | (have H2_ := (Option.bind_some _ _).symm.trans H; with_reducible exact H2_) | with_reducible exact H | (rw [hy426]; exact H) | exact H
 have Ny426 := Aside0.mk hy426
 clear hy426
 obtain ⟨y429, hy429⟩ : ∃ y_ : List Int, y_ = (([(-1), 0] : List Int)) := ⟨_, rfl⟩
 replace H : ((some (([y420, y423, y426, y429, (([0, (-1)] : List Int)), (([1, (-1)] : List Int))] : List (List Int)) : List (List Int))).bind fun y438 => (honeycombref08_neighbourhood.l0 k l1 0 1 y438 (y438.length : Int) 0 a2_0 a2_1 a2_2)) = some r := by first | (rw [hy429]; with_reducible exact H) | (have H2_ := (Option.bind_some _ _).symm.trans H; rw [hy429]; with_reducible exact H2_) | (have H2_ := (Option.bind_some _ _).symm.trans H; with_reducible exact H2_) | with_reducible exact H | (rw [hy429]; exact H) | exact H
 have Ny429 := Aside0.mk hy429
 clear hy429
 obtain ⟨y432, hy432⟩ : ∃ y_ : List Int, y_ = (([0, (-1)] : List Int)) := ⟨_, rfl⟩
 replace H : ((some (([y420, y423, y426, y429, y432, (([1, (-1)] : List Int))] : List (List Int)) : List (List Int))).bind fun y438 => (honeycombref08_neighbourhood.l0 k l1 0 1 y438 (y438.length : Int) 0 a2_0 a2_1 a2_2)) = some r := by first | (rw [hy432]; with_reducible exact H) | (have H2_ := (Option.bind_some _ _).symm.trans H; rw [hy432]; with_reducible exact H2_) | (have H2_ := (Option.bind_some _ _).symm.trans H; with_reducible exact H2_) | with_reducible exact H | (rw [hy432]; exact H) | exact H
 have Ny432 := Aside0.mk hy432
 clear hy432
 obtain ⟨y435, hy435⟩ : ∃ y_ : List Int, y_ = (([1, (-1)] : List Int)) := ⟨_, rfl⟩
 replace H : ((some (([y420, y423, y426, y429, y432, y435] : List (List Int)) : List (List Int))).bind fun y438 => (honeycombref08_neighbourhood.l0 k l1 0 1 y438 (y438.length : Int) 0 a2_0 a2_1 a2_2)) = some r := by first | (rw [hy435]; with_reducible exact H) | (have H2_ := (Option.bind_some _ _).symm.trans H; rw [hy435]; with_reducible exact H2_) | (have H2_ := (Option.bind_some _ _).symm.trans H; with_reducible exact H2_) | with_reducible exact H | (rw [hy435]; exact H) | exact H
 have Ny435 := Aside0.mk hy435
 clear hy435
 obtain ⟨y438, hy438⟩ : ∃ y_ : List (List Int), y_ = (([y420, y423, y426, y429, y432, y435] : List (List Int))) := ⟨_, rfl⟩
 replace H : (honeycombref08_neighbourhood.l0 k l1 0 1 y438 (y438.length : Int) 0 a2_0 a2_1 a2_2) = some r := by first | (rw [hy438]; with_reducible exact H) | (have H2_ := (Option.bind_some _ _).symm.trans H; rw [hy438]; with_reducible exact H2_) | (have H2_ := (Option.bind_some _ _).symm.trans H; with_reducible exact H2_) | with_reducible exact H | (rw [hy438]; exact H) | exact H
 have Ny438 := Aside0.mk hy438
 clear hy438
 have H' := Aside0.mk H
 clear H
 go_enter Tryd.func64, Tryd.ntmps64
 go_wp2_with (first | ((with_reducible refine gate_dst (N := 5) rfl ?_); refine bx_ 5 #[.int .i64 a2_0, .int .i64 a2_1, .int .i64 a2_2] 60 ?_; intro gb419 hg w5 hbox hb; have BK419 := Aside0.mk (hbox); have GW419 := Aside0.mk ((by rw [hg]; exact (below_size hb_) : w.heap.size ≤ gb419)); have GE419 := GW419; replace HB := Aside0.mk (below_step hb_ hb); clear hb hbox hg) | ((with_reducible refine gate_dst (N := 16) rfl ?_); refine rl_ (Kd.int .i64) 2 16 ([1, 0] : List Int) [.int .i64 1, .int .i64 0] ?_; intro v421 w6 ho7 hb; (first | rw [← Ny420.out] at ho7 | (simp only [Int.reduceToNat] at ho7; rw [← Ny420.out] at ho7)); have HO422 := Aside0.mk (Kd.R_lower ho7 (below_size (hg_ GE419.out))); replace BK419 := bb_ BK419.out hb; replace HB := Aside0.mk (below_step (hg_ GE419.out) hb); clear hb ho7) | ((with_reducible refine gate_dst (N := 17) rfl ?_); refine rl_ (Kd.int .i64) 2 17 ([0, 1] : List Int) [.int .i64 0, .int .i64 1] ?_; intro v424 w8 ho9 hb; (first | rw [← Ny423.out] at ho9 | (simp only [Int.reduceToNat] at ho9; rw [← Ny423.out] at ho9)); have HO425 := Aside0.mk (Kd.R_lower (Kd.R_new' ho9 (Kd.R_lt (kr_ HO422.out))) (below_size (hg_ GE419.out))); replace HO422 := Aside0.mk (Kd.R_elder' (kr_ HO422.out) (Kd.R_base ho9) hb); replace BK419 := bb_ BK419.out hb; replace HB := Aside0.mk (below_step (hg_ GE419.out) hb); clear hb ho9) | ((with_reducible refine gate_dst (N := 18) rfl ?_); refine rl_ (Kd.int .i64) 2 18 ([(-1), 1] : List Int) [.int .i64 (-1), .int .i64 1] ?_; intro v427 w10 ho11 hb; (first | rw [← Ny426.out] at ho11 | (simp only [Int.reduceToNat] at ho11; rw [← Ny426.out] at ho11)); have HO428 := Aside0.mk (Kd.R_lower (Kd.R_new' (Kd.R_new' ho11 (Kd.R_lt (kr_ HO422.out))) (Kd.R_lt (kr_ HO425.out))) (below_size (hg_ GE419.out))); replace HO422 := Aside0.mk (Kd.R_elder' (kr_ HO422.out) (Kd.R_base ho11) hb); replace HO425 := Aside0.mk (Kd.R_elder' (kr_ HO425.out) (Kd.R_base ho11) hb); replace BK419 := bb_ BK419.out hb; replace HB := Aside0.mk (below_step (hg_ GE419.out) hb); clear hb ho11) | ((with_reducible refine gate_dst (N := 19) rfl ?_); refine rl_ (Kd.int .i64) 2 19 ([(-1), 0] : List Int) [.int .i64 (-1), .int .i64 0] ?_; intro v430 w12 ho13 hb; (first | rw [← Ny429.out] at ho13 | (simp only [Int.reduceToNat] at ho13; rw [← Ny429.out] at ho13)); have HO431 := Aside0.mk (Kd.R_lower (Kd.R_new' (Kd.R_new' (Kd.R_new' ho13 (Kd.R_lt (kr_ HO422.out))) (Kd.R_lt (kr_ HO425.out))) (Kd.R_lt (kr_ HO428.out))) (below_size (hg_ GE419.out))); replace HO422 := Aside0.mk (Kd.R_elder' (kr_ HO422.out) (Kd.R_base ho13) hb); replace HO425 := Aside0.mk (Kd.R_elder' (kr_ HO425.out) (Kd.R_base ho13) hb); replace HO428 := Aside0.mk (Kd.R_elder' (kr_ HO428.out) (Kd.R_base ho13) hb); replace BK419 := bb_ BK419.out hb; replace HB := Aside0.mk (below_step (hg_ GE419.out) hb); clear hb ho13) | ((with_reducible refine gate_dst (N := 20) rfl ?_); refine rl_ (Kd.int .i64) 2 20 ([0, (-1)] : List Int) [.int .i64 0, .int .i64 (-1)] ?_; intro v433 w14 ho15 hb; (first | rw [← Ny432.out] at ho15 | (simp only [Int.reduceToNat] at ho15; rw [← Ny432.out] at ho15)); have HO434 := Aside0.mk (Kd.R_lower (Kd.R_new' (Kd.R_new' (Kd.R_new' (Kd.R_new' ho15 (Kd.R_lt (kr_ HO422.out))) (Kd.R_lt (kr_ HO425.out))) (Kd.R_lt (kr_ HO428.out))) (Kd.R_lt (kr_ HO431.out))) (below_size (hg_ GE419.out))); replace HO422 := Aside0.mk (Kd.R_elder' (kr_ HO422.out) (Kd.R_base ho15) hb); replace HO425 := Aside0.mk (Kd.R_elder' (kr_ HO425.out) (Kd.R_base ho15) hb); replace HO428 := Aside0.mk (Kd.R_elder' (kr_ HO428.out) (Kd.R_base ho15) hb); replace HO431 := Aside0.mk (Kd.R_elder' (kr_ HO431.out) (Kd.R_base ho15) hb); replace BK419 := bb_ BK419.out hb; replace HB := Aside0.mk (below_step (hg_ GE419.out) hb); clear hb ho15) | ((with_reducible refine gate_dst (N := 21) rfl ?_); refine rl_ (Kd.int .i64) 2 21 ([1, (-1)] : List Int) [.int .i64 1, .int .i64 (-1)] ?_; intro v436 w16 ho17 hb; (first | rw [← Ny435.out] at ho17 | (simp only [Int.reduceToNat] at ho17; rw [← Ny435.out] at ho17)); have HO437 := Aside0.mk (Kd.R_lower (Kd.R_new' (Kd.R_new' (Kd.R_new' (Kd.R_new' (Kd.R_new' ho17 (Kd.R_lt (kr_ HO422.out))) (Kd.R_lt (kr_ HO425.out))) (Kd.R_lt (kr_ HO428.out))) (Kd.R_lt (kr_ HO431.out))) (Kd.R_lt (kr_ HO434.out))) (below_size (hg_ GE419.out))); replace HO422 := Aside0.mk (Kd.R_elder' (kr_ HO422.out) (Kd.R_base ho17) hb); replace HO425 := Aside0.mk (Kd.R_elder' (kr_ HO425.out) (Kd.R_base ho17) hb); replace HO428 := Aside0.mk (Kd.R_elder' (kr_ HO428.out) (Kd.R_base ho17) hb); replace HO431 := Aside0.mk (Kd.R_elder' (kr_ HO431.out) (Kd.R_base ho17) hb); replace HO434 := Aside0.mk (Kd.R_elder' (kr_ HO434.out) (Kd.R_base ho17) hb); replace BK419 := bb_ BK419.out hb; replace HB := Aside0.mk (below_step (hg_ GE419.out) hb); clear hb ho17; obtain ⟨Ao18, co18, eo18⟩ := Kd.R_slice HO422.out; subst eo18; obtain ⟨Ao19, co19, eo19⟩ := Kd.R_slice HO425.out; subst eo19; obtain ⟨Ao20, co20, eo20⟩ := Kd.R_slice HO428.out; subst eo20; obtain ⟨Ao21, co21, eo21⟩ := Kd.R_slice HO431.out; subst eo21; obtain ⟨Ao22, co22, eo22⟩ := Kd.R_slice HO434.out; subst eo22; obtain ⟨Ao23, co23, eo23⟩ := Kd.R_slice HO437.out; subst eo23) | ((with_reducible refine gate_dst (N := 22) rfl ?_); refine Kd.N_lit (Kd.slice 2 (Kd.int .i64)) _ 111 ?hg (N' := 22) ?hd (xs := ([y420, y423, y426, y429, y432, y435] : List (List Int))) (inner := [.slice Ao18 y420.length co18, .slice Ao19 y423.length co19, .slice Ao20 y426.length co20, .slice Ao21 y429.length co21, .slice Ao22 y432.length co22, .slice Ao23 y435.length co23]) (ok := (fun k_ => k_ ≠ gb419)) (okp := (fun k_ => k_ ≠ gb419)) ?hr ?hp (fun _ hk => hk) ((show ∀ k_, w16.heap.size ≤ k_ → (fun k_ => k_ ≠ gb419) k_ from fun k_ hk => Kd.freshB (g := gb419) (o := .cells #[.int .i64 a2_0, .int .i64 a2_1, .int .i64 a2_2] 60 (0, 0)) (bk_ BK419.out) k_ hk) _ (Nat.le_refl _)) (Below.refl _ _) (Nat.le_refl _) (by simp) ?_; (case hd => rfl); (case hg => rfl); (case hr => first | (go_simp; done) | (go_simp; rfl)); (case hp => exact (Reps.one (show Kd.FK (Kd.slice 2 (Kd.int .i64)) _ _ y420 [.slice Ao18 y420.length co18] from (Kd.FK_slice_mk (Kd.R_reads' (Kd.R_mono (ok' := (fun k_ => k_ ≠ gb419)) (Kd.R_types (HO422.out) BK419.out (by decide)) (fun k_ hk => hk.2))).2.1 (Kd.R_F (Kd.R_mono (ok' := (fun k_ => k_ ≠ gb419)) (Kd.R_types (HO422.out) BK419.out (by decide)) (fun k_ hk => hk.2))))) (Reps.one (show Kd.FK (Kd.slice 2 (Kd.int .i64)) _ _ y423 [.slice Ao19 y423.length co19] from (Kd.FK_slice_mk (Kd.R_reads' (Kd.R_mono (ok' := (fun k_ => k_ ≠ gb419)) (Kd.R_types (HO425.out) BK419.out (by decide)) (fun k_ hk => hk.2))).2.1 (Kd.R_F (Kd.R_mono (ok' := (fun k_ => k_ ≠ gb419)) (Kd.R_types (HO425.out) BK419.out (by decide)) (fun k_ hk => hk.2))))) (Reps.one (show Kd.FK (Kd.slice 2 (Kd.int .i64)) _ _ y426 [.slice Ao20 y426.length co20] from (Kd.FK_slice_mk (Kd.R_reads' (Kd.R_mono (ok' := (fun k_ => k_ ≠ gb419)) (Kd.R_types (HO428.out) BK419.out (by decide)) (fun k_ hk => hk.2))).2.1 (Kd.R_F (Kd.R_mono (ok' := (fun k_ => k_ ≠ gb419)) (Kd.R_types (HO428.out) BK419.out (by decide)) (fun k_ hk => hk.2))))) (Reps.one (show Kd.FK (Kd.slice 2 (Kd.int .i64)) _ _ y429 [.slice Ao21 y429.length co21] from (Kd.FK_slice_mk (Kd.R_reads' (Kd.R_mono (ok' := (fun k_ => k_ ≠ gb419)) (Kd.R_types (HO431.out) BK419.out (by decide)) (fun k_ hk => hk.2))).2.1 (Kd.R_F (Kd.R_mono (ok' := (fun k_ => k_ ≠ gb419)) (Kd.R_types (HO431.out) BK419.out (by decide)) (fun k_ hk => hk.2))))) (Reps.one (show Kd.FK (Kd.slice 2 (Kd.int .i64)) _ _ y432 [.slice Ao22 y432.length co22] from (Kd.FK_slice_mk (Kd.R_reads' (Kd.R_mono (ok' := (fun k_ => k_ ≠ gb419)) (Kd.R_types (HO434.out) BK419.out (by decide)) (fun k_ hk => hk.2))).2.1 (Kd.R_F (Kd.R_mono (ok' := (fun k_ => k_ ≠ gb419)) (Kd.R_types (HO434.out) BK419.out (by decide)) (fun k_ hk => hk.2))))) (Reps.one (show Kd.FK (Kd.slice 2 (Kd.int .i64)) _ _ y435 [.slice Ao23 y435.length co23] from (Kd.FK_slice_mk (Kd.R_reads' (Kd.R_mono (ok' := (fun k_ => k_ ≠ gb419)) (Kd.R_types (HO437.out) BK419.out (by decide)) (fun k_ hk => hk.2))).2.1 (Kd.R_F (Kd.R_mono (ok' := (fun k_ => k_ ≠ gb419)) (Kd.R_types (HO437.out) BK419.out (by decide)) (fun k_ hk => hk.2))))) (Reps.none _ _)))))))); intro v439 w24 ho25 hb hg_ hnew_; clear hg_ hnew_; (first | rw [← Ny438.out] at ho25 | (simp only [Int.reduceToNat] at ho25; rw [← Ny438.out] at ho25)); have HO440 := Aside0.mk (Kd.N_lower ho25 (below_size (hg_ GE419.out))); replace BK419 := bb_ BK419.out hb; replace HB := Aside0.mk (below_step (hg_ GE419.out) hb); clear HO422; clear HO425; clear HO428; clear HO431; clear HO434; clear HO437; clear hb ho25; obtain ⟨Ao26, co26, eo26⟩ := Kd.N_slice HO440.out; subst eo26))
 go_loopg [7, 9, 25] k (fun kq v7 v9 v25 w' => ∃ (x7_1 : Int) (x9_1 : Int) (x25_1 : Int), v7 = .int .i64 x7_1 ∧ v9 = .int .i64 x9_1 ∧ v25 = .int .i64 x25_1 ∧ Aside0 (honeycombref08_neighbourhood.l0 kq l1 x7_1 x9_1 y438 (y438.length : Int) x25_1 a2_0 a2_1 a2_2 = some r) ∧ Aside0 (kq ≤ k) ∧ Aside0 (Kd.N (Kd.slice 2 (Kd.int .i64)) 111 w' w.heap.size (fun k_ => k_ ≠ gb419) (.slice Ao26 y438.length co26) y438) ∧ Aside0 (w'.heap[gb419]? = some (.cells #[.int .i64 a2_0, .int .i64 a2_1, .int .i64 a2_2] 60 (0, 0))) ∧ Aside0 (Below w.heap.size w w'))
 case atStart => exact ⟨(0), (1), (0), rs_, rs_, rs_, H', ⟨Nat.le_refl _⟩, ⟨kn_ HO440.out⟩, ⟨bk_ BK419.out⟩, ⟨by repeat (first | (with_reducible first | exact HB.out | apply ba_ | apply bn_ | apply bd_ | refine below_set ?_ GE419.out) | exact HB.out)⟩⟩
 case round =>
  clear H'
  try clear c1
  try clear p2
  try clear c4
  try clear c4b0
  try clear c4b1
  try clear c6
  obtain ⟨x7_1, x9_1, x25_1, rfl, rfl, rfl, HA, HK1, HO_23, BK419, HB⟩ := hrel
  cases gk with
  | zero => exact absurd HA.out (by simp [honeycombref08_neighbourhood.l0])
  | succ k1 =>
   have H := HA.out
   clear HA
   simp only [honeycombref08_neighbourhood.l0] at H
   by_cases c27 : x25_1 < (y438.length : Int)
   rotate_left
   ·
    rw [if_neg c27] at H
    have c27b0 : decide (x25_1 < (y438.length : Int)) = false := decide_eq_false c27
    clear c27
    obtain rfl := Option.some.inj H
    go_wp2
    go_ret
    exact ⟨er_, hg_ GE419.out⟩
   rw [if_pos c27] at H
   have c27b0 : decide (x25_1 < (y438.length : Int)) = true := decide_eq_true c27
   clear c27
   by_cases c28 : 0 ≤ x25_1
   rotate_left
   ·
    rw [if_neg c28] at H
    exact absurd H (by simp)
   rw [if_pos c28] at H
   have c28b0 : decide (0 ≤ x25_1) = true := decide_eq_true c28
   clear c28
   by_cases c29 : x25_1 < (y438.length : Int)
   rotate_left
   ·
    rw [if_neg c29] at H
    exact absurd H (by simp)
   rw [if_pos c29] at H
   have c29b0 : decide (x25_1 < (y438.length : Int)) = true := decide_eq_true c29
   clear c29
   by_cases c30 : 0 < ((rd_L10 y438 x25_1).length : Int)
   rotate_left
   ·
    rw [if_neg c30] at H
    exact absurd H (by simp)
   rw [if_pos c30] at H
   have c30b0 : decide (0 < ((rd_L10 y438 x25_1).length : Int)) = true := decide_eq_true c30
   have c30b1 : decide (0 < (rd_L10 y438 x25_1).length) = true := decide_eq_true (by omega)
   clear c30
   by_cases c31 : 1 < ((rd_L10 y438 x25_1).length : Int)
   rotate_left
   ·
    rw [if_neg c31] at H
    exact absurd H (by simp)
   rw [if_pos c31] at H
   have c31b0 : decide (1 < ((rd_L10 y438 x25_1).length : Int)) = true := decide_eq_true c31
   have c31b1 : decide (1 < (rd_L10 y438 x25_1).length) = true := decide_eq_true (by omega)
   clear c31
   replace H := Option.bind_eq_some_iff.mp H
   obtain ⟨t444, A320, H⟩ := H
   replace H : (if t444 = true then (honeycombref08_neighbourhood.l0 k1 l1 (wrap64 (x7_1 + x9_1)) (wrap64 (2 * x9_1)) y438 (y438.length : Int) (wrap64 (x25_1 + 1)) a2_0 a2_1 a2_2) else (honeycombref08_neighbourhood.l0 k1 l1 x7_1 (wrap64 (2 * x9_1)) y438 (y438.length : Int) (wrap64 (x25_1 + 1)) a2_0 a2_1 a2_2)) = some r := H
   have A32 := Aside0.mk A320
   clear A320
   by_cases c33 : t444 = true
   ·
    subst c33
    have H1 : (honeycombref08_neighbourhood.l0 k1 l1 (wrap64 (x7_1 + x9_1)) (wrap64 (2 * x9_1)) y438 (y438.length : Int) (wrap64 (x25_1 + 1)) a2_0 a2_1 a2_2) = some r := by rw [if_pos rfl] at H; exact H
    clear H
    have H := H1
    clear H1
    have H' := Aside0.mk H
    clear H
    have p441 : 0 ≤ (x25_1 : Int) := of_decide_eq_true as_
    have q441 : x25_1 < (y438.length : Int) := of_decide_eq_true as_
    obtain ⟨ad441, A441_0, c441_0, e441, hx441_0, hl441_0, hi441_0⟩ := at_L10 (Kd.N_reads' HO_23.out).2.2 x25_1 p441 q441
    cases e441
    obtain ⟨ce441, hce441, hMe441, hcc441⟩ := Kd.N_get HO_23.out [] x25_1 p441 (by first | exact q441 | exact of_decide_eq_true as_ | (have e_ := (Kd.N_reads' HO_23.out).1; omega))
    obtain ⟨ua441_0, uc441_0, rfl, ul441_0, ge441_0⟩ := Kd.FK_slice_open hMe441
    have hv441_0 := hcc441 0 _ rfl
    rw [Nat.add_zero, show ((Kd.slice 2 (Kd.int .i64))).sz = 1 from rfl, Nat.mul_one] at hv441_0
    replace hv441_0 := Option.some.inj (hv441_0.symm.trans hx441_0)
    injection hv441_0 with hva_ hvn_ hvc_
    rw [hva_] at ge441_0
    rw [hvc_] at ul441_0
    have HL441_0 := Aside0.mk (show Kd.V (Kd.int .i64) 2 _ w.heap.size _ _ (rd_L10 y438 x25_1) from Kd.V_mk ul441_0 ge441_0)
    clear hva_ hvn_ hvc_ ge441_0 ul441_0
    clear hcc441 hce441
    have HR441_0 := Aside0.mk hi441_0
    have HC441_0 := Aside0.mk hl441_0
    clear hi441_0 hl441_0
    replace p441 := eq_true p441
    replace q441 := eq_true q441
    try go_wp2
    replace HO_23 := Aside0.mk (Kd.N_drew HO_23.out)
    replace HL441_0 := Aside0.mk (Kd.V_drew HL441_0.out)
    replace BK419 := Aside0.mk (blk_drew BK419.out)
    replace HR441_0 := Aside0.mk (Kd.C_drew HR441_0.out)
    replace HB := Aside0.mk (below_drew1 HB.out)
    have p442 : 0 ≤ (0 : Int) := (by omega)
    have q442 : 0 < ((rd_L10 y438 x25_1).length : Int) := of_decide_eq_true as_
    obtain ⟨ad442, e442, hx442_0⟩ := Kd.at_int (by repeat (first | (with_reducible exact HR441_0.out) | (with_reducible refine Kd.C_alloc ?_ _) | (with_reducible refine Kd.C_drewN ?_ _) | (with_reducible refine Kd.C_drew ?_) | exact HR441_0.out)) 0 p442 q442
    cases e442
    have qi442 : (0 < (rd_L10 y438 x25_1).length) = True := eq_true (by omega)
    (try rw [show ((0 : Int)).toNat = 0 from rfl] at hx442_0)
    (try rw [Addr.add_zero'] at hx442_0)
    replace p442 := eq_true p442
    replace q442 := eq_true q442
    have p443 : 0 ≤ (1 : Int) := (by omega)
    have q443 : 1 < ((rd_L10 y438 x25_1).length : Int) := of_decide_eq_true as_
    obtain ⟨ad443, e443, hx443_0⟩ := Kd.at_int (by repeat (first | (with_reducible exact HR441_0.out) | (with_reducible refine Kd.C_alloc ?_ _) | (with_reducible refine Kd.C_drewN ?_ _) | (with_reducible refine Kd.C_drew ?_) | exact HR441_0.out)) 1 p443 q443
    obtain rfl : ad442 = ad443 := (by injection e443)
    (try simp only [show (1 : Int).toNat = 1 from rfl, Nat.reduceMul, Nat.reduceEqDiff, Go.Addr.add, ↓reduceIte] at hx443_0)
    have qi443 : (1 < (rd_L10 y438 x25_1).length) = True := eq_true (by omega)
    (try rw [show ((1 : Int)).toNat = 1 from rfl] at hx443_0)
    replace p443 := eq_true p443
    replace q443 := eq_true q443
    refine start_ (n := 15) (S := fun w' => w'.cell? ⟨gb419, 0, none⟩ = some (.int .i64 a2_0) ∧ w'.cell? ⟨gb419, 1, none⟩ = some (.int .i64 a2_1) ∧ w'.cell? ⟨gb419, 2, none⟩ = some (.int .i64 a2_2) ∧ w'.cell? ad442 = some (.int .i64 (rd (rd_L10 y438 x25_1) 0)) ∧ w'.cell? ⟨ad442.block, ad442.off + 1, none⟩ = some (.int .i64 (rd (rd_L10 y438 x25_1) 1))) (ds := []) (m_ 15 0) (by kernel_rfl) rfl rfl ⟨(blk_cell BK419.out 0).trans rfl, (blk_cell BK419.out 1).trans rfl, (blk_cell BK419.out 2).trans rfl, hx442_0, hx443_0⟩ (fun hHeld => ?_); refine with_tabW honeycombref08_neighbourhood.tab8 honeycombref08_neighbourhood.bits8 (fun HT_ HW_ => ?_)
    generalize wr.drew = w34 at HO_23 HL441_0 BK419 HR441_0 HB hx442_0 hx443_0 hHeld ⊢
    refine pq_ 0 (some 29) (m_ 15 1) (h := ?_)
    refine pq_ 1 (some 30) (m_ 15 3) (h := ?_)
    refine pq_ 3 (some 32) (m_ 15 11) (h := ?_)
    refine pq_ 4 (some 33) (m_ 15 27) (h := ?_)
    refine pq_ 7 (some 36) (m_ 15 155) (h := ?_)
    refine pq_ 9 (some 38) (m_ 15 667) (h := ?_)
    refine pq_ 10 (some 39) (m_ 15 1691) (h := ?_)
    refine tq5_ 2 (some 31) (m_ 15 1695) (h := ?_)
    refine tq5_ 5 (some 34) (m_ 15 1727) (h := ?_)
    refine pq_ 6 (some 35) (m_ 15 1791) (h := ?_)
    refine tq5_ 8 (some 37) (m_ 15 2047) (h := ?_)
    refine tq5_ 11 (some 40) (m_ 15 4095) (h := ?_)
    refine pq_ 12 (some 41) (m_ 15 8191) (h := ?_)
    refine pq_ 13 (some 42) (m_ 15 16383) (h := ?_)
    refine one_ (i := 14) (N := some 43) (m_ 15 32767) rfl rfl (one_of HT_.out (by kernel_rfl)) (by decide) (fun K hK => ?_)
    refine goes_ Tryd.func63 (by kernel_rfl) rfl #[.slice A1 l1.length c1, .agg #[.int .i64 (wrap64 (a2_0 + (rd (rd_L10 y438 x25_1) 0))), .int .i64 (wrap64 (a2_1 + (rd (rd_L10 y438 x25_1) 1))), .int .i64 0]] (by rfl) rfl rfl ar_ ?_
    with_reducible refine (honeycombref04_Has.calls k1 _ _ l1 (wrap64 (a2_0 + (rd (rd_L10 y438 x25_1) 0))) (wrap64 (a2_1 + (rd (rd_L10 y438 x25_1) 1))) 0 true _ ?side1 ?side2 A32.out).mono ?_
    (case side1 => repeat (first | exact (Kd.C_below HR1.out HB.out) | (with_reducible refine Kd.C_alloc ?_ _) | (with_reducible refine Kd.C_drewN ?_ _) | (with_reducible refine Kd.C_drew ?_)))
    (case side2 => exact HC1.out)
    rintro e w35 ⟨rfl, hb⟩
    have HS3_ := (hb.cell (World.block_lt_of_cell? _ _ (hHeld.2.2.2.1))).trans (hHeld.2.2.2.1)
    have HS4_ := (hb.cell (World.block_lt_of_cell? _ _ (hHeld.2.2.2.2))).trans (hHeld.2.2.2.2)
    refine ⟨_, rfl, ?_⟩
    replace HO_23 := Aside0.mk (Kd.N_below (kn_ HO_23.out) hb)
    replace HL441_0 := Aside0.mk (Kd.V_below (by (with_reducible repeat (first | apply Kd.V_alloc | apply Kd.V_drewN | apply Kd.V_drew)); exact HL441_0.out) hb)
    replace BK419 := bb_ BK419.out hb
    replace HR441_0 := Aside0.mk (Kd.C_below (by repeat (first | (with_reducible exact HR441_0.out) | (with_reducible refine Kd.C_alloc ?_ _) | (with_reducible refine Kd.C_drewN ?_ _) | (with_reducible refine Kd.C_drew ?_) | exact HR441_0.out)) hb)
    replace HB := Aside0.mk (below_step (hg_ GE419.out) hb)
    (try clear hb)
    (try clear hb2)
    (try clear hk)
    (try clear hi)
    refine hK.out _ _ ⟨(blk_cell BK419.out 0).trans rfl, (blk_cell BK419.out 1).trans rfl, (blk_cell BK419.out 2).trans rfl, HS3_, HS4_⟩ (fun hHeld => ?_)
    clear hK K
    refine norm_ (a' := ?_) ?_ ?_
    rotate_left
    ·
     show Act.put _ (some 43) _ = _
     simp only [puts_]
     rfl
    refine done_ (done_of HT_.out (by kernel_rfl)) ?_
    try go_wp2
    go_roundg k1
    case measure => have := HK1.out; omega
    case rel => exact ⟨(wrap64 (x7_1 + x9_1)), (wrap64 (2 * x9_1)), (wrap64 (x25_1 + 1)), rs_, rs_, rs_, H', ⟨by have := HK1.out; omega⟩, ⟨kn_ HO_23.out⟩, ⟨bk_ BK419.out⟩, ⟨by repeat (first | (with_reducible first | exact HB.out | apply ba_ | apply bn_ | apply bd_ | refine below_set ?_ GE419.out) | exact HB.out)⟩⟩
   replace c33 := Bool.eq_false_iff.mpr c33
   subst c33
   have H1 : (honeycombref08_neighbourhood.l0 k1 l1 x7_1 (wrap64 (2 * x9_1)) y438 (y438.length : Int) (wrap64 (x25_1 + 1)) a2_0 a2_1 a2_2) = some r := by rw [if_neg (show ¬ (false = true) by decide)] at H; exact H
   clear H
   have H := H1
   clear H1
   have H' := Aside0.mk H
   clear H
   have p441 : 0 ≤ (x25_1 : Int) := of_decide_eq_true as_
   have q441 : x25_1 < (y438.length : Int) := of_decide_eq_true as_
   obtain ⟨ad441, A441_0, c441_0, e441, hx441_0, hl441_0, hi441_0⟩ := at_L10 (Kd.N_reads' HO_23.out).2.2 x25_1 p441 q441
   cases e441
   obtain ⟨ce441, hce441, hMe441, hcc441⟩ := Kd.N_get HO_23.out [] x25_1 p441 (by first | exact q441 | exact of_decide_eq_true as_ | (have e_ := (Kd.N_reads' HO_23.out).1; omega))
   obtain ⟨ua441_0, uc441_0, rfl, ul441_0, ge441_0⟩ := Kd.FK_slice_open hMe441
   have hv441_0 := hcc441 0 _ rfl
   rw [Nat.add_zero, show ((Kd.slice 2 (Kd.int .i64))).sz = 1 from rfl, Nat.mul_one] at hv441_0
   replace hv441_0 := Option.some.inj (hv441_0.symm.trans hx441_0)
   injection hv441_0 with hva_ hvn_ hvc_
   rw [hva_] at ge441_0
   rw [hvc_] at ul441_0
   have HL441_0 := Aside0.mk (show Kd.V (Kd.int .i64) 2 _ w.heap.size _ _ (rd_L10 y438 x25_1) from Kd.V_mk ul441_0 ge441_0)
   clear hva_ hvn_ hvc_ ge441_0 ul441_0
   clear hcc441 hce441
   have HR441_0 := Aside0.mk hi441_0
   have HC441_0 := Aside0.mk hl441_0
   clear hi441_0 hl441_0
   replace p441 := eq_true p441
   replace q441 := eq_true q441
   try go_wp2
   replace HO_23 := Aside0.mk (Kd.N_drew HO_23.out)
   replace HL441_0 := Aside0.mk (Kd.V_drew HL441_0.out)
   replace BK419 := Aside0.mk (blk_drew BK419.out)
   replace HR441_0 := Aside0.mk (Kd.C_drew HR441_0.out)
   replace HB := Aside0.mk (below_drew1 HB.out)
   have p442 : 0 ≤ (0 : Int) := (by omega)
   have q442 : 0 < ((rd_L10 y438 x25_1).length : Int) := of_decide_eq_true as_
   obtain ⟨ad442, e442, hx442_0⟩ := Kd.at_int (by repeat (first | (with_reducible exact HR441_0.out) | (with_reducible refine Kd.C_alloc ?_ _) | (with_reducible refine Kd.C_drewN ?_ _) | (with_reducible refine Kd.C_drew ?_) | exact HR441_0.out)) 0 p442 q442
   cases e442
   have qi442 : (0 < (rd_L10 y438 x25_1).length) = True := eq_true (by omega)
   (try rw [show ((0 : Int)).toNat = 0 from rfl] at hx442_0)
   (try rw [Addr.add_zero'] at hx442_0)
   replace p442 := eq_true p442
   replace q442 := eq_true q442
   have p443 : 0 ≤ (1 : Int) := (by omega)
   have q443 : 1 < ((rd_L10 y438 x25_1).length : Int) := of_decide_eq_true as_
   obtain ⟨ad443, e443, hx443_0⟩ := Kd.at_int (by repeat (first | (with_reducible exact HR441_0.out) | (with_reducible refine Kd.C_alloc ?_ _) | (with_reducible refine Kd.C_drewN ?_ _) | (with_reducible refine Kd.C_drew ?_) | exact HR441_0.out)) 1 p443 q443
   obtain rfl : ad442 = ad443 := (by injection e443)
   (try simp only [show (1 : Int).toNat = 1 from rfl, Nat.reduceMul, Nat.reduceEqDiff, Go.Addr.add, ↓reduceIte] at hx443_0)
   have qi443 : (1 < (rd_L10 y438 x25_1).length) = True := eq_true (by omega)
   (try rw [show ((1 : Int)).toNat = 1 from rfl] at hx443_0)
   replace p443 := eq_true p443
   replace q443 := eq_true q443
   refine start_ (n := 15) (S := fun w' => w'.cell? ⟨gb419, 0, none⟩ = some (.int .i64 a2_0) ∧ w'.cell? ⟨gb419, 1, none⟩ = some (.int .i64 a2_1) ∧ w'.cell? ⟨gb419, 2, none⟩ = some (.int .i64 a2_2) ∧ w'.cell? ad442 = some (.int .i64 (rd (rd_L10 y438 x25_1) 0)) ∧ w'.cell? ⟨ad442.block, ad442.off + 1, none⟩ = some (.int .i64 (rd (rd_L10 y438 x25_1) 1))) (ds := []) (m_ 15 0) (by kernel_rfl) rfl rfl ⟨(blk_cell BK419.out 0).trans rfl, (blk_cell BK419.out 1).trans rfl, (blk_cell BK419.out 2).trans rfl, hx442_0, hx443_0⟩ (fun hHeld => ?_); refine with_tabW honeycombref08_neighbourhood.tab8 honeycombref08_neighbourhood.bits8 (fun HT_ HW_ => ?_)
   generalize wr.drew = w36 at HO_23 HL441_0 BK419 HR441_0 HB hx442_0 hx443_0 hHeld ⊢
   refine pq_ 0 (some 29) (m_ 15 1) (h := ?_)
   refine pq_ 1 (some 30) (m_ 15 3) (h := ?_)
   refine pq_ 3 (some 32) (m_ 15 11) (h := ?_)
   refine pq_ 4 (some 33) (m_ 15 27) (h := ?_)
   refine pq_ 7 (some 36) (m_ 15 155) (h := ?_)
   refine pq_ 9 (some 38) (m_ 15 667) (h := ?_)
   refine pq_ 10 (some 39) (m_ 15 1691) (h := ?_)
   refine tq5_ 2 (some 31) (m_ 15 1695) (h := ?_)
   refine tq5_ 5 (some 34) (m_ 15 1727) (h := ?_)
   refine pq_ 6 (some 35) (m_ 15 1791) (h := ?_)
   refine tq5_ 8 (some 37) (m_ 15 2047) (h := ?_)
   refine tq5_ 11 (some 40) (m_ 15 4095) (h := ?_)
   refine pq_ 12 (some 41) (m_ 15 8191) (h := ?_)
   refine pq_ 13 (some 42) (m_ 15 16383) (h := ?_)
   refine one_ (i := 14) (N := some 43) (m_ 15 32767) rfl rfl (one_of HT_.out (by kernel_rfl)) (by decide) (fun K hK => ?_)
   refine goes_ Tryd.func63 (by kernel_rfl) rfl #[.slice A1 l1.length c1, .agg #[.int .i64 (wrap64 (a2_0 + (rd (rd_L10 y438 x25_1) 0))), .int .i64 (wrap64 (a2_1 + (rd (rd_L10 y438 x25_1) 1))), .int .i64 0]] (by rfl) rfl rfl ar_ ?_
   with_reducible refine (honeycombref04_Has.calls k1 _ _ l1 (wrap64 (a2_0 + (rd (rd_L10 y438 x25_1) 0))) (wrap64 (a2_1 + (rd (rd_L10 y438 x25_1) 1))) 0 false _ ?side1 ?side2 A32.out).mono ?_
   (case side1 => repeat (first | exact (Kd.C_below HR1.out HB.out) | (with_reducible refine Kd.C_alloc ?_ _) | (with_reducible refine Kd.C_drewN ?_ _) | (with_reducible refine Kd.C_drew ?_)))
   (case side2 => exact HC1.out)
   rintro e w37 ⟨rfl, hb⟩
   have HS3_ := (hb.cell (World.block_lt_of_cell? _ _ (hHeld.2.2.2.1))).trans (hHeld.2.2.2.1)
   have HS4_ := (hb.cell (World.block_lt_of_cell? _ _ (hHeld.2.2.2.2))).trans (hHeld.2.2.2.2)
   refine ⟨_, rfl, ?_⟩
   replace HO_23 := Aside0.mk (Kd.N_below (kn_ HO_23.out) hb)
   replace HL441_0 := Aside0.mk (Kd.V_below (by (with_reducible repeat (first | apply Kd.V_alloc | apply Kd.V_drewN | apply Kd.V_drew)); exact HL441_0.out) hb)
   replace BK419 := bb_ BK419.out hb
   replace HR441_0 := Aside0.mk (Kd.C_below (by repeat (first | (with_reducible exact HR441_0.out) | (with_reducible refine Kd.C_alloc ?_ _) | (with_reducible refine Kd.C_drewN ?_ _) | (with_reducible refine Kd.C_drew ?_) | exact HR441_0.out)) hb)
   replace HB := Aside0.mk (below_step (hg_ GE419.out) hb)
   (try clear hb)
   (try clear hb2)
   (try clear hk)
   (try clear hi)
   refine hK.out _ _ ⟨(blk_cell BK419.out 0).trans rfl, (blk_cell BK419.out 1).trans rfl, (blk_cell BK419.out 2).trans rfl, HS3_, HS4_⟩ (fun hHeld => ?_)
   clear hK K
   refine norm_ (a' := ?_) ?_ ?_
   rotate_left
   ·
    show Act.put _ (some 43) _ = _
    simp only [puts_]
    rfl
   refine done_ (done_of HT_.out (by kernel_rfl)) ?_
   try go_wp2
   go_roundg k1
   case measure => have := HK1.out; omega
   case rel => exact ⟨(x7_1), (wrap64 (2 * x9_1)), (wrap64 (x25_1 + 1)), rs_, rs_, rs_, H', ⟨by have := HK1.out; omega⟩, ⟨kn_ HO_23.out⟩, ⟨bk_ BK419.out⟩, ⟨by repeat (first | (with_reducible first | exact HB.out | apply ba_ | apply bn_ | apply bd_ | refine below_set ?_ GE419.out) | exact HB.out)⟩⟩
end H
open H
theorem rnear_f (k : Nat) (l a b h dx dy h' : Int) (ha : -4000000000000 ≤ a) (ha' : a ≤ 4000000000000) (hb : -4000000000000 ≤ b) (hb' : b ≤ 4000000000000) (hdx : -100 ≤ dx) (hdx' : dx ≤ 100) (hdy : -100 ≤ dy) (hdy' : dy ≤ 100) :
    XRNear.f (k + 16) l a b h (a + dx) (b + dy) h' = some (nearD l h dx dy h') := by
 unfold XRNear.f nearD
 by_cases h0 : dx = 0 ∧ dy = 0 ∧ h = h'
 ·rw [if_pos h0, if_pos (by omega)]
 ·rw [if_neg h0, if_neg (by omega), w64i (a + dx - a) (by omega) (by omega), w64i (b + dy - b) (by omega) (by omega), common_f k a b h dx dy h' ha ha' hb hb' hdx hdx' hdy hdy', show a + dx - a = dx by omega, show b + dy - b = dy by omega]
  by_cases h1 : l = 1
  ·rw [if_pos h1, if_pos h1]
  ·rw [if_neg h1, if_neg h1]
   by_cases h2 : l = 2
   ·rw [if_pos h2]; simp [h2]
   ·rw [if_neg h2]; simp [h2]
theorem near_offs : ∀ (l h h' : Int), (l = 2 ∨ l = 3) → (h = 0 ∨ h = 1) → (h' = 0 ∨ h' = 1) → ∀ dx ∈ ([-1, 0, 1] : List Int), ∀ dy ∈ ([-1, 0, 1] : List Int), nearD l h dx dy h' = decide (mk dx dy h' ∈ offs l h) := by
 intro l h h' hl hh hh'
 rcases hl with rfl | rfl <;> rcases hh with rfl | rfl <;> rcases hh' with rfl | rfl <;> decide
theorem three (x : Int) (h1 : x ≤ 1) (h2 : -1 ≤ x) : x ∈ ([-1, 0, 1] : List Int) := by
 have : x = -1 ∨ x = 0 ∨ x = 1 := by omega
 rcases this with rfl | rfl | rfl <;> simp
theorem bes_offs (l : Int) (c d : CL) : d ∈ besL l c ↔ mk (d.f0.f0 - c.f0.f0) (d.f0.f1 - c.f0.f1) d.f1 ∈ offs l c.f1 := by
 constructor
 ·intro h
  obtain ⟨e, he, rfl⟩ := List.mem_map.1 h
  have : mk ((sh c.f0.f0 c.f0.f1 e).f0.f0 - c.f0.f0) ((sh c.f0.f0 c.f0.f1 e).f0.f1 - c.f0.f1) (sh c.f0.f0 c.f0.f1 e).f1 = e := cl_of (by simp only [mk, sh]; omega) (by simp only [mk, sh]; omega) rfl
  rw [this]
  exact he
 ·intro h
  exact List.mem_map.2 ⟨_, h, cl_of (by simp only [mk, sh]; omega) (by simp only [mk, sh]; omega) rfl⟩
theorem nbh_tri (l : Int) (hl : l = 2 ∨ l = 3) (c : CL) (hc : c.f1 = 0 ∨ c.f1 = 1) (s : List CL) (hs : ∀ d ∈ s, (d.f1 = 0 ∨ d.f1 = 1) ∧ (-1000 ≤ d.f0.f0 ∧ d.f0.f0 ≤ 1000) ∧ (-1000 ≤ d.f0.f1 ∧ d.f0.f1 ≤ 1000)) (hcx : -1000 ≤ c.f0.f0 ∧ c.f0.f0 ≤ 1000) (hcy : -1000 ≤ c.f0.f1 ∧ c.f0.f1 ≤ 1000) (hn : s.length ≤ 1000) :
    ∀ (d k j : Nat) (n : Int), j + d = s.length → 2 * d + 20 ≤ k → 0 ≤ n → n ≤ j →
    honeycombref08_neighbourhood.l1 k l n (s.map told) ((s.map told).length : Int) j c.f0.f0 c.f0.f1 c.f1 = some (n + (((s.drop j).filter fun d => decide (d ∈ besL l c)).length : Int)) := by
 intro d
 induction d with
 | zero =>
  intro k j n hj hk h0 h1
  obtain ⟨k, rfl⟩ : ∃ m, k = m + 1 := ⟨k - 1, by omega⟩
  simp only [honeycombref08_neighbourhood.l1]
  rw [if_neg (by rw [List.length_map]; omega), List.drop_eq_nil_of_le (by omega)]
  simp
 | succ d ih =>
  intro k j n hj hk h0 h1
  obtain ⟨k, rfl⟩ : ∃ m, k = m + 18 := ⟨k - 18, by omega⟩
  have hjl : j < s.length := by omega
  obtain ⟨hh, hx, hy⟩ := hs s[j] (List.getElem_mem hjl)
  have hdrop := List.drop_eq_getElem_cons hjl
  obtain ⟨e, he⟩ : ∃ e, e = s[j] := ⟨_, rfl⟩
  rw [← he] at hh hx hy hdrop
  have hrd : rd_T60 (s.map told) j = told e := by rw [rdT s j hjl, he]
  have hwj : wrap64 ((j : Int) + 1) = ((j + 1 : Nat) : Int) := by rw [w64i _ (by omega) (by omega)]; rfl
  have hbes := bes_offs l c e
  have j2t : honeycombref08_neighbourhood.j2 (k + 17) l n (s.map told) ((s.map told).length : Int) j true c.f0.f0 c.f0.f1 c.f1 = some (n + 1 + (((s.drop (j + 1)).filter fun d => decide (d ∈ besL l c)).length : Int)) := by
   rw [show k + 17 = (k + 16) + 1 from rfl]
   simp only [honeycombref08_neighbourhood.j2, ↓reduceIte]
   rw [hwj, w64i (n + 1) (by omega) (by omega)]
   exact ih (k + 16) (j + 1) (n + 1) (by omega) (by omega) (by omega) (by omega)
  have j2f : honeycombref08_neighbourhood.j2 (k + 17) l n (s.map told) ((s.map told).length : Int) j false c.f0.f0 c.f0.f1 c.f1 = some (n + (((s.drop (j + 1)).filter fun d => decide (d ∈ besL l c)).length : Int)) := by
   rw [show k + 17 = (k + 16) + 1 from rfl]
   simp only [honeycombref08_neighbourhood.j2, Bool.false_eq_true, ↓reduceIte]
   rw [hwj]
   exact ih (k + 16) (j + 1) n (by omega) (by omega) (by omega) (by omega)
  have fin : ∀ B : Bool, B = decide (e ∈ besL l c) → honeycombref08_neighbourhood.j2 (k + 17) l n (s.map told) ((s.map told).length : Int) j B c.f0.f0 c.f0.f1 c.f1 = some (n + (((s.drop j).filter fun d => decide (d ∈ besL l c)).length : Int)) := by
   intro B hB
   rw [hdrop, List.filter_cons]
   cases B
   ·rw [j2f, if_neg (by rw [← hB]; decide)]
   ·rw [j2t, if_pos hB.symm]
    simp only [List.length_cons]
    congr 1
    omega
  have hnot : ¬ (-1 ≤ e.f0.f0 - c.f0.f0 ∧ e.f0.f0 - c.f0.f0 ≤ 1 ∧ -1 ≤ e.f0.f1 - c.f0.f1 ∧ e.f0.f1 - c.f0.f1 ≤ 1) → false = decide (e ∈ besL l c) := by
   intro hno
   refine (decide_eq_false fun hm => hno ?_).symm
   have := bes_near l c e (by omega) ⟨hc, fun h => by omega⟩ hm
   omega
  rw [show k + 18 = (k + 17) + 1 from rfl]
  simp only [honeycombref08_neighbourhood.l1]
  rw [if_pos (by rw [List.length_map]; omega), if_pos (by omega), if_pos (by rw [List.length_map]; omega), hrd]
  simp only [told]
  have f1 := w64i (e.f0.f0 - c.f0.f0) (by omega) (by omega)
  have f2 := w64i (c.f0.f0 - e.f0.f0) (by omega) (by omega)
  have f3 := w64i (e.f0.f1 - c.f0.f1) (by omega) (by omega)
  have f4 := w64i (c.f0.f1 - e.f0.f1) (by omega) (by omega)
  simp only [f1, f2, f3, f4]
  by_cases c1 : e.f0.f0 - c.f0.f0 ≤ 1
  ·by_cases c2 : c.f0.f0 - e.f0.f0 ≤ 1
   ·by_cases c3 : e.f0.f1 - c.f0.f1 ≤ 1
    ·by_cases c4 : c.f0.f1 - e.f0.f1 ≤ 1
     ·rw [if_pos c1, if_pos c2, if_pos c3, if_pos c4]
      have hnr := rnear_f (k + 1) l c.f0.f0 c.f0.f1 c.f1 (e.f0.f0 - c.f0.f0) (e.f0.f1 - c.f0.f1) e.f1 (by omega) (by omega) (by omega) (by omega) (by omega) (by omega) (by omega) (by omega)
      rw [show c.f0.f0 + (e.f0.f0 - c.f0.f0) = e.f0.f0 by omega, show c.f0.f1 + (e.f0.f1 - c.f0.f1) = e.f0.f1 by omega, show k + 1 + 16 = k + 17 by omega] at hnr
      rw [hnr, Option.bind_some]
      refine fin _ ?_
      rw [near_offs l c.f1 e.f1 hl hc hh _ (three _ c1 (by omega)) _ (three _ c3 (by omega)), decide_eq_decide]
      exact hbes.symm
     ·rw [if_pos c1, if_pos c2, if_pos c3, if_neg c4]; exact fin false (hnot (by omega))
    ·rw [if_pos c1, if_pos c2, if_neg c3]; exact fin false (hnot (by omega))
   ·rw [if_pos c1, if_neg c2]; exact fin false (hnot (by omega))
  ·rw [if_neg c1]; exact fin false (hnot (by omega))
theorem nbh_hex (c : CL) (s : List CL) (hcx : -1000 ≤ c.f0.f0 ∧ c.f0.f0 ≤ 1000) (hcy : -1000 ≤ c.f0.f1 ∧ c.f0.f1 ≤ 1000) (hn : s.length ≤ 1000) (k : Nat) (hk : s.length + 20 ≤ k) :
    honeycombref08_neighbourhood.f k 1 (s.map told) c.f0.f0 c.f0.f1 c.f1 = some (hexN s c) := by
 obtain ⟨k, rfl⟩ : ∃ m, k = m + 7 := ⟨k - 7, by omega⟩
 have step : ∀ (K : Nat) (x7 x9 : Int) (i : Nat) (p q : Int), s.length < K → i < 6 → 0 ≤ x7 → x7 ≤ 1000 → 0 ≤ x9 → x9 ≤ 1000 → -1 ≤ p → p ≤ 1 → -1 ≤ q → q ≤ 1 → rd_L10 ([[1, 0], [0, 1], [-1, 1], [-1, 0], [0, -1], [1, -1]] : List (List Int)) (i : Int) = [p, q] →
     honeycombref08_neighbourhood.l0 (K + 1) (s.map told) x7 x9 [[1, 0], [0, 1], [-1, 1], [-1, 0], [0, -1], [1, -1]] 6 (i : Int) c.f0.f0 c.f0.f1 c.f1 = honeycombref08_neighbourhood.l0 K (s.map told) (x7 + b2 (decide (mk (c.f0.f0 + p) (c.f0.f1 + q) 0 ∈ s)) x9) (2 * x9) [[1, 0], [0, 1], [-1, 1], [-1, 0], [0, -1], [1, -1]] 6 ((i + 1 : Nat) : Int) c.f0.f0 c.f0.f1 c.f1 := by
  intro K x7 x9 i p q hK hi h0 h1 h2 h3 p1 p2 q1 q2 hrd
  have hhas := hasR_f K s (mk (c.f0.f0 + p) (c.f0.f1 + q) 0) hn hK
  simp only [mk] at hhas
  simp only [honeycombref08_neighbourhood.l0]
  rw [if_pos (by omega), if_pos (by omega), if_pos (by simp; omega), hrd, if_pos (by simp), if_pos (by simp)]
  simp only [rd, List.getD_cons_zero, List.getD_cons_succ, Int.toNat_zero, show (1 : Int).toNat = 1 from rfl]
  rw [w64i (c.f0.f0 + p) (by omega) (by omega), w64i (c.f0.f1 + q) (by omega) (by omega), hhas, w64i (2 * x9) (by omega) (by omega), w64i (x7 + x9) (by omega) (by omega), w64i ((i : Int) + 1) (by omega) (by omega)]
  simp only [Option.bind_some, mk]
  by_cases hm : (⟨⟨c.f0.f0 + p, c.f0.f1 + q⟩, 0⟩ : CL) ∈ s
  ·simp [hm, b2]
  ·simp [hm, b2]
 have bb : ∀ (P : Bool) (n : Int), 0 ≤ n → 0 ≤ b2 P n ∧ b2 P n ≤ n := fun P n hn => by unfold b2; split <;> omega
 unfold honeycombref08_neighbourhood.f
 rw [if_pos rfl]
 simp only [Option.bind_some]
 have e6 : ((([[1, 0], [0, 1], [-1, 1], [-1, 0], [0, -1], [1, -1]] : List (List Int)).length : Nat) : Int) = 6 := rfl
 rw [e6]
 have B0 := bb (decide (mk (c.f0.f0 + 1) (c.f0.f1 + 0) 0 ∈ s)) 1 (by omega)
 have B1 := bb (decide (mk (c.f0.f0 + 0) (c.f0.f1 + 1) 0 ∈ s)) (2 * 1) (by omega)
 have B2 := bb (decide (mk (c.f0.f0 + -1) (c.f0.f1 + 1) 0 ∈ s)) (2 * (2 * 1)) (by omega)
 have B3 := bb (decide (mk (c.f0.f0 + -1) (c.f0.f1 + 0) 0 ∈ s)) (2 * (2 * (2 * 1))) (by omega)
 have B4 := bb (decide (mk (c.f0.f0 + 0) (c.f0.f1 + -1) 0 ∈ s)) (2 * (2 * (2 * (2 * 1)))) (by omega)
 have B5 := bb (decide (mk (c.f0.f0 + 1) (c.f0.f1 + -1) 0 ∈ s)) (2 * (2 * (2 * (2 * (2 * 1))))) (by omega)
 have st0 := step (k + 6) 0 1 0 1 0 (by omega) (by omega) (by omega) (by omega) (by omega) (by omega) (by omega) (by omega) (by omega) (by omega) rfl
 rw [show ((0 : Nat) : Int) = 0 from rfl] at st0
 rw [show k + 7 = (k + 6) + 1 from rfl, st0]
 have st1 := step (k + 5) (0 + b2 (decide (mk (c.f0.f0 + 1) (c.f0.f1 + 0) 0 ∈ s)) 1) (2 * 1) (0 + 1) 0 1 (by omega) (by omega) (by omega) (by omega) (by omega) (by omega) (by omega) (by omega) (by omega) (by omega) rfl
 rw [show k + 6 = (k + 5) + 1 from rfl, st1]
 have st2 := step (k + 4) (0 + b2 (decide (mk (c.f0.f0 + 1) (c.f0.f1 + 0) 0 ∈ s)) 1 + b2 (decide (mk (c.f0.f0 + 0) (c.f0.f1 + 1) 0 ∈ s)) (2 * 1)) (2 * (2 * 1)) (0 + 1 + 1) (-1) 1 (by omega) (by omega) (by omega) (by omega) (by omega) (by omega) (by omega) (by omega) (by omega) (by omega) rfl
 rw [show k + 5 = (k + 4) + 1 from rfl, st2]
 have st3 := step (k + 3) (0 + b2 (decide (mk (c.f0.f0 + 1) (c.f0.f1 + 0) 0 ∈ s)) 1 + b2 (decide (mk (c.f0.f0 + 0) (c.f0.f1 + 1) 0 ∈ s)) (2 * 1) + b2 (decide (mk (c.f0.f0 + -1) (c.f0.f1 + 1) 0 ∈ s)) (2 * (2 * 1))) (2 * (2 * (2 * 1))) (0 + 1 + 1 + 1) (-1) 0 (by omega) (by omega) (by omega) (by omega) (by omega) (by omega) (by omega) (by omega) (by omega) (by omega) rfl
 rw [show k + 4 = (k + 3) + 1 from rfl, st3]
 have st4 := step (k + 2) (0 + b2 (decide (mk (c.f0.f0 + 1) (c.f0.f1 + 0) 0 ∈ s)) 1 + b2 (decide (mk (c.f0.f0 + 0) (c.f0.f1 + 1) 0 ∈ s)) (2 * 1) + b2 (decide (mk (c.f0.f0 + -1) (c.f0.f1 + 1) 0 ∈ s)) (2 * (2 * 1)) + b2 (decide (mk (c.f0.f0 + -1) (c.f0.f1 + 0) 0 ∈ s)) (2 * (2 * (2 * 1)))) (2 * (2 * (2 * (2 * 1)))) (0 + 1 + 1 + 1 + 1) 0 (-1) (by omega) (by omega) (by omega) (by omega) (by omega) (by omega) (by omega) (by omega) (by omega) (by omega) rfl
 rw [show k + 3 = (k + 2) + 1 from rfl, st4]
 have st5 := step (k + 1) (0 + b2 (decide (mk (c.f0.f0 + 1) (c.f0.f1 + 0) 0 ∈ s)) 1 + b2 (decide (mk (c.f0.f0 + 0) (c.f0.f1 + 1) 0 ∈ s)) (2 * 1) + b2 (decide (mk (c.f0.f0 + -1) (c.f0.f1 + 1) 0 ∈ s)) (2 * (2 * 1)) + b2 (decide (mk (c.f0.f0 + -1) (c.f0.f1 + 0) 0 ∈ s)) (2 * (2 * (2 * 1))) + b2 (decide (mk (c.f0.f0 + 0) (c.f0.f1 + -1) 0 ∈ s)) (2 * (2 * (2 * (2 * 1))))) (2 * (2 * (2 * (2 * (2 * 1))))) (0 + 1 + 1 + 1 + 1 + 1) 1 (-1) (by omega) (by omega) (by omega) (by omega) (by omega) (by omega) (by omega) (by omega) (by omega) (by omega) rfl
 rw [show k + 2 = (k + 1) + 1 from rfl, st5]
 simp only [honeycombref08_neighbourhood.l0]
 rw [if_neg (by omega)]
 congr 1
 unfold hexN hexQ
 simp only [sxA, sxB]
 rw [show (2 : Int) * 1 = 2 from rfl, show (2 : Int) * 2 = 4 from rfl, show (2 : Int) * 4 = 8 from rfl, show (2 : Int) * 8 = 16 from rfl, show (2 : Int) * 16 = 32 from rfl]
 omega
theorem nbh_f (l : Int) (hl : 1 ≤ l ∧ l ≤ 3) (c : CL) (hc : hOK l c.f1) (s : List CL) (hnd : s.Nodup) (hs : ∀ d ∈ s, hOK l d.f1 ∧ (-1000 ≤ d.f0.f0 ∧ d.f0.f0 ≤ 1000) ∧ (-1000 ≤ d.f0.f1 ∧ d.f0.f1 ≤ 1000)) (hcx : -1000 ≤ c.f0.f0 ∧ c.f0.f0 ≤ 1000) (hcy : -1000 ≤ c.f0.f1 ∧ c.f0.f1 ≤ 1000) (hn : s.length ≤ 1000) (k : Nat) (hk : 2 * s.length + 20 ≤ k) :
    honeycombref08_neighbourhood.f k l (s.map told) c.f0.f0 c.f0.f1 c.f1 = some (ngh l s c) := by
 unfold ngh
 by_cases h1 : l = 1
 ·subst h1
  rw [if_pos rfl]
  exact nbh_hex c s hcx hcy hn k (by omega)
 ·rw [if_neg h1]
  unfold honeycombref08_neighbourhood.f
  rw [if_neg h1]
  have := nbh_tri l (by omega) c hc.1 s (fun d hd => ⟨(hs d hd).1.1, (hs d hd).2⟩) hcx hcy hn s.length k 0 0 (by omega) (by omega) (by omega) (by omega)
  refine this.trans ?_
  rw [List.drop_zero, Int.zero_add, both_len s (besL l c) hnd (bes_nodup l c hl hc)]
section
theorem rot_lin (o a b x y : Int) (h0 : 0 ≤ o) (h1 : o < 12) : rotG o (3 * a + x, 3 * b + y) = (3 * (rotG o (a, b)).1 + (rotG o (x, y)).1, 3 * (rotG o (a, b)).2 + (rotG o (x, y)).2) := by
 rcases twelve o h0 h1 with rfl | rfl | rfl | rfl | rfl | rfl | rfl | rfl | rfl | rfl | rfl | rfl <;>
  (simp only [rotG, Int.reduceMod, Int.reduceToNat, Int.reduceLT, ↓reduceIte, rotI, turnP, Prod.mk.injEq] <;> omega)
theorem rot_add (o a b x y : Int) (h0 : 0 ≤ o) (h1 : o < 12) : rotG o (a + x, b + y) = ((rotG o (a, b)).1 + (rotG o (x, y)).1, (rotG o (a, b)).2 + (rotG o (x, y)).2) := by
 rcases twelve o h0 h1 with rfl | rfl | rfl | rfl | rfl | rfl | rfl | rfl | rfl | rfl | rfl | rfl <;>
  (simp only [rotG, Int.reduceMod, Int.reduceToNat, Int.reduceLT, ↓reduceIte, rotI, turnP, Prod.mk.injEq] <;> omega)
theorem onC_sh (l o a b : Int) (x : CL) (h0 : 0 ≤ o) (h1 : o < 12) : onC l o (sh a b x) = sh (rotG o (a, b)).1 (rotG o (a, b)).2 (onC l o x) := by
 unfold onC sh
 by_cases hl : l = 1
 ·simp only [if_pos hl]
  rw [onP_rot o _ _ h0 h1, onP_rot o _ _ h0 h1, rot_add o a b _ _ h0 h1]
 ·simp only [if_neg hl]
  rw [onT_rot o, onT_rot o, show 3 * (a + x.f0.f0) + 1 + x.f1 = 3 * a + (3 * x.f0.f0 + 1 + x.f1) by omega, show 3 * (b + x.f0.f1) + 1 + x.f1 = 3 * b + (3 * x.f0.f1 + 1 + x.f1) by omega, rot_lin o a b _ _ h0 h1]
  simp only [S65.mk.injEq, S63.mk.injEq]
  omega
theorem onC_inj (l o : Int) (x y : CL) (h0 : 0 ≤ o) (h1 : o < 12) (hx : hOK l x.f1) (hy : hOK l y.f1) (h : onC l o x = onC l o y) : x = y := by
 rw [← onC_back l o x h0 h1 hx, h, onC_back l o y h0 h1 hy]
theorem onC_ok (l o : Int) (x : CL) (h0 : 0 ≤ o) (h1 : o < 12) (hx : hOK l x.f1) : hOK l (onC l o x).f1 := onC_half l o x h0 h1 hx
def symC (l o h : Int) : Bool := (offs l h).all fun d => decide (mk ((onC l o d).f0.f0 - (onC l o (mk 0 0 h)).f0.f0) ((onC l o d).f0.f1 - (onC l o (mk 0 0 h)).f0.f1) (onC l o d).f1 ∈ offs l (onC l o (mk 0 0 h)).f1)
theorem symC_all : ∀ o : Fin 12, symC 2 o.val 0 = true ∧ symC 2 o.val 1 = true ∧ symC 3 o.val 0 = true ∧ symC 3 o.val 1 = true := by decide +kernel
theorem bes_on (l o : Int) (hl : l = 2 ∨ l = 3) (h0 : 0 ≤ o) (h1 : o < 12) (c d : CL) (hc : hOK l c.f1) (h : d ∈ besL l c) : onC l o d ∈ besL l (onC l o c) := by
 rw [bes_offs] at h ⊢
 have hs : symC l o c.f1 = true := by
  have := symC_all ⟨o.toNat, by omega⟩
  simp only [Int.toNat_of_nonneg h0] at this
  obtain ⟨p, q, r, t⟩ := this
  obtain ⟨hh, _⟩ := hc
  rcases hl with rfl | rfl <;> rcases hh with e | e <;> rw [e] <;> assumption
 have hm := List.all_eq_true.1 hs _ h
 rw [decide_eq_true_eq] at hm
 have ec : c = sh c.f0.f0 c.f0.f1 (mk 0 0 c.f1) := cl_of (by simp only [sh, mk]; omega) (by simp only [sh, mk]; omega) rfl
 have ed : d = sh c.f0.f0 c.f0.f1 (mk (d.f0.f0 - c.f0.f0) (d.f0.f1 - c.f0.f1) d.f1) := cl_of (by simp only [sh, mk]; omega) (by simp only [sh, mk]; omega) rfl
 obtain ⟨u, hu⟩ : ∃ u, u = mk (d.f0.f0 - c.f0.f0) (d.f0.f1 - c.f0.f1) d.f1 := ⟨_, rfl⟩
 obtain ⟨z, hz⟩ : ∃ z, z = mk 0 0 c.f1 := ⟨_, rfl⟩
 rw [← hu] at hm ed
 rw [← hz] at hm ec
 have e1 : onC l o d = sh (rotG o (c.f0.f0, c.f0.f1)).1 (rotG o (c.f0.f0, c.f0.f1)).2 (onC l o u) := by rw [← onC_sh l o _ _ u h0 h1, ← ed]
 have e2 : onC l o c = sh (rotG o (c.f0.f0, c.f0.f1)).1 (rotG o (c.f0.f0, c.f0.f1)).2 (onC l o z) := by rw [← onC_sh l o _ _ z h0 h1, ← ec]
 rw [e1, e2]
 generalize rotG o (c.f0.f0, c.f0.f1) = r
 have f0 : (sh r.1 r.2 (onC l o u)).f0.f0 - (sh r.1 r.2 (onC l o z)).f0.f0 = (onC l o u).f0.f0 - (onC l o z).f0.f0 := by simp only [sh]; omega
 have f1 : (sh r.1 r.2 (onC l o u)).f0.f1 - (sh r.1 r.2 (onC l o z)).f0.f1 = (onC l o u).f0.f1 - (onC l o z).f0.f1 := by simp only [sh]; omega
 rw [f0, f1]
 exact hm
theorem bes_on_iff (l o : Int) (hl : l = 2 ∨ l = 3) (h0 : 0 ≤ o) (h1 : o < 12) (c d : CL) (hc : hOK l c.f1) (hd : hOK l d.f1) : onC l o d ∈ besL l (onC l o c) ↔ d ∈ besL l c := by
 refine ⟨fun h => ?_, bes_on l o hl h0 h1 c d hc⟩
 have := bes_on l (backR o) hl (backR_rng o h0 h1).1 (backR_rng o h0 h1).2 _ _ (onC_ok l o c h0 h1 hc) h
 rwa [onC_back l o c h0 h1 hc, onC_back l o d h0 h1 hd] at this
def onL (l o : Int) (s : List CL) : List CL := ofL (s.map (onC l o))
theorem mem_on (l o : Int) (h0 : 0 ≤ o) (h1 : o < 12) (s : List CL) (hs : ∀ c ∈ s, hOK l c.f1) (x : CL) (hx : hOK l x.f1) : onC l o x ∈ onL l o s ↔ x ∈ s := by
 unfold onL
 rw [ofL_mem, List.mem_map]
 constructor
 ·rintro ⟨y, hy, e⟩
  rw [← onC_inj l o y x h0 h1 (hs y hy) hx e]
  exact hy
 ·exact fun h => ⟨x, h, rfl⟩
theorem on_ok (l o : Int) (h0 : 0 ≤ o) (h1 : o < 12) (s : List CL) (hs : ∀ c ∈ s, hOK l c.f1) : ∀ c ∈ onL l o s, hOK l c.f1 := by
 intro c hc
 unfold onL at hc
 rw [ofL_mem, List.mem_map] at hc
 obtain ⟨y, hy, rfl⟩ := hc
 exact onC_ok l o y h0 h1 (hs y hy)
theorem ngh_tri (l o : Int) (hl : l = 2 ∨ l = 3) (h0 : 0 ≤ o) (h1 : o < 12) (s : List CL) (hs : ∀ c ∈ s, hOK l c.f1) (x : CL) (hx : hOK l x.f1) : ngh l (onL l o s) (onC l o x) = ngh l s x := by
 have hl3 : 1 ≤ l ∧ l ≤ 3 := by omega
 unfold ngh
 rw [if_neg (by omega), if_neg (by omega)]
 have hp : ((besL l (onC l o x)).filter fun d => decide (d ∈ onL l o s)).Perm (((besL l x).filter fun d => decide (d ∈ s)).map (onC l o)) := by
  rw [List.perm_ext_iff_of_nodup (List.Pairwise.filter _ (bes_nodup l _ hl3 (onC_ok l o x h0 h1 hx))) ?_]
  ·intro y
   rw [List.mem_filter, List.mem_map, decide_eq_true_eq]
   constructor
   ·rintro ⟨hy, hm⟩
    unfold onL at hm
    rw [ofL_mem, List.mem_map] at hm
    obtain ⟨d, hd, rfl⟩ := hm
    exact ⟨d, List.mem_filter.2 ⟨(bes_on_iff l o hl h0 h1 x d hx (hs d hd)).1 hy, by rw [decide_eq_true_eq]; exact hd⟩, rfl⟩
   ·rintro ⟨d, hd, rfl⟩
    rw [List.mem_filter, decide_eq_true_eq] at hd
    exact ⟨bes_on l o hl h0 h1 x d hx hd.1, (mem_on l o h0 h1 s hs d (hs d hd.2)).2 hd.2⟩
  ·refine List.pairwise_map.2 ((List.Pairwise.filter _ (bes_nodup l x hl3 hx)).imp_of_mem ?_)
   intro a b ha hb hab e
   rw [List.mem_filter] at ha hb
   exact hab (onC_inj l o a b h0 h1 (bes_hOK l x hl3 a ha.1) (bes_hOK l x hl3 b hb.1) e)
 rw [hp.length_eq, List.length_map]
theorem six_on : ∀ o : Fin 12, ∀ j : Fin 6, rotG (o.1 : Int) (sxA j.1, sxB j.1) = (sxA (posT o.1 j.1), sxB (posT o.1 j.1)) ∧ posT o.1 j.1 < 6 := by decide +kernel
theorem pos_on : ∀ o : Fin 12, ∀ j : Fin 6, ∃ i : Fin 6, posT o.1 i.1 = j.1 := by decide +kernel
theorem br_bit : ∀ o : Fin 12, ∀ r : Fin 64, ∀ j : Fin 6, (brT o.1 r.1).testBit (posT o.1 j.1) = r.1.testBit j.1 := by decide +kernel
theorem hexQ_on (o : Nat) (ho : o < 12) (q : CL) (j : Nat) (hj : j < 6) : onC 1 (o : Int) (hexQ q j) = hexQ (onC 1 (o : Int) q) (posT o j) := by
 obtain ⟨h, _⟩ := six_on ⟨o, ho⟩ ⟨j, hj⟩
 simp only at h
 unfold onC hexQ
 simp only [↓reduceIte, mk]
 rw [onP_rot _ _ _ (by omega) (by omega), onP_rot _ _ _ (by omega) (by omega), rot_add _ _ _ _ _ (by omega) (by omega), h]
theorem ngh_hex (o : Nat) (ho : o < 12) (s : List CL) (hs : ∀ c ∈ s, hOK 1 c.f1) (x : CL) : ngh 1 (onL 1 (o : Int) s) (onC 1 (o : Int) x) = (brT o (ngh 1 s x).toNat : Int) := by
 have e1 : ∀ s q, ngh 1 s q = hexN s q := fun s q => if_pos rfl
 rw [e1, e1]
 have hb := hexN_bd s x
 have hb' := hexN_bd (onL 1 (o : Int) s) (onC 1 (o : Int) x)
 have hlt := brT_lt o (hexN s x).toNat ho (by omega)
 refine bit_ext _ _ hb'.1 hb'.2 (by omega) (by omega) fun j hj => ?_
 obtain ⟨⟨i, hi⟩, he⟩ := pos_on ⟨o, ho⟩ ⟨j, hj⟩
 simp only at he
 subst he
 rw [hexN_bit _ _ _ hj, ← hexQ_on o ho x i hi]
 have hbb := br_bit ⟨o, ho⟩ ⟨(hexN s x).toNat, by omega⟩ ⟨i, hi⟩
 simp only at hbb
 have h2 : bitOf (brT o (hexN s x).toNat : Int) (posT o i) = bitOf (hexN s x) i := by
  unfold bitOf
  rw [Int.toNat_natCast]
  exact hbb
 rw [h2, hexN_bit s x i hi, decide_eq_decide]
 exact mem_on 1 (o : Int) (by omega) (by omega) s hs _ ⟨.inl rfl, fun _ => rfl⟩
section
variable {L : Int} {b0 b1 s0 s1 : Nat} (hT : Tb L b0 b1 s0 s1) (o : Nat) (ho : o < 12) (hk : KP L b0 b1 s0 s1 o) (s : List CL) (hn : s.Nodup) (hs : ∀ c ∈ s, hOK L c.f1)
include hT ho hk hs
end
end
def patL (ring : Int) (live : Bool) : Nat → List S65
 | 0 => if live = true then [⟨⟨0, 0⟩, 0⟩] else []
 | j + 1 => if Go.bits .and .i64 (ring / 2 ^ j) 1 = 1 then patL ring live j ++ [⟨⟨sixA j, sixB j⟩, 0⟩] else patL ring live j
theorem patL_le (ring : Int) (live : Bool) : ∀ j, (patL ring live j).length ≤ j + 1
 | 0 => by unfold patL; split <;> simp
 | j + 1 => by
  have := patL_le ring live j
  unfold patL
  split
  ·rw [List.length_append]; simp; omega
  ·omega
theorem XPattern_any (ring : Int) (live : Bool) (w : World) (hG : Six w) :
    Calls Tryd.prog 88 #[.int .i64 ring, .bool live] w fun e w' => ∃ v, e = .returned v ∧ Kd.R k65 65 w' w.heap.size (fun _ => True) v (ofL (patL ring live 6)) ∧ Below w.heap.size w w' := by
 have hsix := fun W hW => XSix.calls 1 0 0 1 (-1) 1 (-1) 0 0 (-1) 1 (-1) W hW rfl
 have HG := Aside0.mk hG
 have HSIX := Aside0.mk hsix
 have hof : ∀ (A : Option Addr) (c : Nat) W (_ : Kd.C k65 W A (patL ring live 6).length (patL ring live 6)) (_ : (patL ring live 6).length ≤ c), Calls Tryd.prog 37 #[.slice A (patL ring live 6).length c] W fun e w' => ∃ v0_ : Value, e = .returned v0_ ∧ Kd.R k65 65 w' W.heap.size (fun _ => True) v0_ (ofL (patL ring live 6)) ∧ Below W.heap.size W w' := fun A c W hC hc =>
  XOf.calls A c (patL ring live 6) (ofL (patL ring live 6)) W hC hc (by have := patL_le ring live 6; simp [XOf.f]; omega)
 have HOF := Aside0.mk hof
 clear hsix hG hof
 have h00 : patL ring live 0 = if live = true then [⟨⟨0, 0⟩, 0⟩] else [] := rfl
 have H00 := Aside0.mk h00
 clear h00
 -- the end: behind the origin
 cases live
 ·have h0 : patL ring false 0 = [] := rfl
  have H0 := Aside0.mk h0
  clear h0 H00
  generalize hX : ofL (patL ring false 6) = X at HOF ⊢
  have HX := Aside0.mk hX
  clear hX
  go_enter Tryd.func88, Tryd.ntmps88
  go_wp2_with fail
  refine (HSIX.out _ (Six.below HG.out (Below.refl _ _))).mono ?_
  rintro e w2 ⟨rfl, hb2⟩
  have HB2 := Aside0.mk hb2
  clear hb2
  go_wp2_with fail
  go_loopw [14, 5] (fun i v wr => ∃ j : Nat, j ≤ 6 ∧ i = .int .i64 j ∧ Kd.R k65 65 wr w.heap.size (fun _ => True) v (patL ring false j) ∧ Below w.heap.size w wr) (fun i _ _ => 6 - (intOf i).toNat)
  case atStart => exact ⟨0, by omega, rfl, by rw [H0.out]; exact Kd.R_nil _ _ _ _ _, HB2.out⟩
  case round =>
   obtain ⟨j, hj, rfl, hO, hb⟩ := hrel
   have HO := Aside0.mk hO
   have HB := Aside0.mk hb
   have hzr := hb.size
   clear hO hb H0
   have hjj : j = 0 ∨ j = 1 ∨ j = 2 ∨ j = 3 ∨ j = 4 ∨ j = 5 ∨ j = 6 := by omega
   rcases hjj with rfl | rfl | rfl | rfl | rfl | rfl | rfl
   ·have hix : ∀ w : World, (Instr.index 69 (.agg #[.int .i64 1, .int .i64 0, .int .i64 0, .int .i64 1, .int .i64 (-1), .int .i64 1, .int .i64 (-1), .int .i64 0, .int .i64 0, .int .i64 (-1), .int .i64 1, .int .i64 (-1)]) (.int .i64 0)).run Tryd.prog w = .ok (.agg #[.int .i64 1, .int .i64 0]) w := fun w => by kernel_rfl
    have hpl := patL_le ring false 0
    have hp : patL ring false 1 = if Go.bits .and .i64 (ring / 2 ^ 0) 1 = 1 then patL ring false 0 ++ [⟨⟨1, 0⟩, 0⟩] else patL ring false 0 := rfl
    by_cases hbit : Go.bits .and .i64 (ring / 2 ^ 0) 1 = 1
    ·have hp := hp.trans (if_pos hbit)
     have HP := Aside0.mk hp
     have hbit2 : (Go.bits .and .i64 (ring / 2 ^ 0) 1 == 1) = true := beq_iff_eq.2 hbit
     simp only [Int.reducePow, Int.ediv_one] at hbit hbit2
     clear hp hbit
     go_wp2_with (at_builtin; refine app1 k65 w.heap.size (.tmp 23) (.tmp 26) 34 65 (.agg #[.int .i64 0, .int .i64 0, .int .i64 0]) 24 (w0 := w) _ (patL ring false 0) (⟨⟨1, 0⟩, 0⟩) [.int .i64 1, .int .i64 0, .int .i64 0] _ rfl rfl Tryd.underlying34 info65 rfl (by decide) (by decide) rfl (by simp; done) rfl (k65_mkM _ _ _ _) (Kd.R_alloc HO.out _) (below_alloc2 HB.out hzr _) (by simp; omega) (by omega) ?_; intro v1 w4 ho1 hb1; have HO1 := Aside0.mk ho1; have HB1 := Aside0.mk hb1; clear ho1 hb1)
     go_roundw
     case rel => exact ⟨1, by omega, by first | rfl | go_num, by rw [HP.out]; exact HO1.out, HB1.out⟩
     case measure => simp [intOf]
    ·have hp := hp.trans (if_neg hbit)
     have HP := Aside0.mk hp
     have hbit2 : (Go.bits .and .i64 (ring / 2 ^ 0) 1 == 1) = false := beq_eq_false_iff_ne.2 hbit
     simp only [Int.reducePow, Int.ediv_one] at hbit hbit2
     clear hp hbit
     go_wp2
     go_roundw
     case rel => exact ⟨1, by omega, by first | rfl | go_num, by rw [HP.out]; exact Kd.R_alloc HO.out _, below_alloc2 HB.out hzr _⟩
     case measure => simp [intOf]
   ·have hix : ∀ w : World, (Instr.index 69 (.agg #[.int .i64 1, .int .i64 0, .int .i64 0, .int .i64 1, .int .i64 (-1), .int .i64 1, .int .i64 (-1), .int .i64 0, .int .i64 0, .int .i64 (-1), .int .i64 1, .int .i64 (-1)]) (.int .i64 1)).run Tryd.prog w = .ok (.agg #[.int .i64 0, .int .i64 1]) w := fun w => by kernel_rfl
    have hpl := patL_le ring false 1
    have hp : patL ring false 2 = if Go.bits .and .i64 (ring / 2 ^ 1) 1 = 1 then patL ring false 1 ++ [⟨⟨0, 1⟩, 0⟩] else patL ring false 1 := rfl
    by_cases hbit : Go.bits .and .i64 (ring / 2 ^ 1) 1 = 1
    ·have hp := hp.trans (if_pos hbit)
     have HP := Aside0.mk hp
     have hbit2 : (Go.bits .and .i64 (ring / 2 ^ 1) 1 == 1) = true := beq_iff_eq.2 hbit
     simp only [Int.reducePow, Int.ediv_one] at hbit hbit2
     clear hp hbit
     go_wp2_with (at_builtin; refine app1 k65 w.heap.size (.tmp 23) (.tmp 26) 34 65 (.agg #[.int .i64 0, .int .i64 0, .int .i64 0]) 24 (w0 := w) _ (patL ring false 1) (⟨⟨0, 1⟩, 0⟩) [.int .i64 0, .int .i64 1, .int .i64 0] _ rfl rfl Tryd.underlying34 info65 rfl (by decide) (by decide) rfl (by simp; done) rfl (k65_mkM _ _ _ _) (Kd.R_alloc HO.out _) (below_alloc2 HB.out hzr _) (by simp; omega) (by omega) ?_; intro v1 w4 ho1 hb1; have HO1 := Aside0.mk ho1; have HB1 := Aside0.mk hb1; clear ho1 hb1)
     go_roundw
     case rel => exact ⟨2, by omega, by first | rfl | go_num, by rw [HP.out]; exact HO1.out, HB1.out⟩
     case measure => simp [intOf]
    ·have hp := hp.trans (if_neg hbit)
     have HP := Aside0.mk hp
     have hbit2 : (Go.bits .and .i64 (ring / 2 ^ 1) 1 == 1) = false := beq_eq_false_iff_ne.2 hbit
     simp only [Int.reducePow, Int.ediv_one] at hbit hbit2
     clear hp hbit
     go_wp2
     go_roundw
     case rel => exact ⟨2, by omega, by first | rfl | go_num, by rw [HP.out]; exact Kd.R_alloc HO.out _, below_alloc2 HB.out hzr _⟩
     case measure => simp [intOf]
   ·have hix : ∀ w : World, (Instr.index 69 (.agg #[.int .i64 1, .int .i64 0, .int .i64 0, .int .i64 1, .int .i64 (-1), .int .i64 1, .int .i64 (-1), .int .i64 0, .int .i64 0, .int .i64 (-1), .int .i64 1, .int .i64 (-1)]) (.int .i64 2)).run Tryd.prog w = .ok (.agg #[.int .i64 (-1), .int .i64 1]) w := fun w => by kernel_rfl
    have hpl := patL_le ring false 2
    have hp : patL ring false 3 = if Go.bits .and .i64 (ring / 2 ^ 2) 1 = 1 then patL ring false 2 ++ [⟨⟨(-1), 1⟩, 0⟩] else patL ring false 2 := rfl
    by_cases hbit : Go.bits .and .i64 (ring / 2 ^ 2) 1 = 1
    ·have hp := hp.trans (if_pos hbit)
     have HP := Aside0.mk hp
     have hbit2 : (Go.bits .and .i64 (ring / 2 ^ 2) 1 == 1) = true := beq_iff_eq.2 hbit
     simp only [Int.reducePow, Int.ediv_one] at hbit hbit2
     clear hp hbit
     go_wp2_with (at_builtin; refine app1 k65 w.heap.size (.tmp 23) (.tmp 26) 34 65 (.agg #[.int .i64 0, .int .i64 0, .int .i64 0]) 24 (w0 := w) _ (patL ring false 2) (⟨⟨(-1), 1⟩, 0⟩) [.int .i64 (-1), .int .i64 1, .int .i64 0] _ rfl rfl Tryd.underlying34 info65 rfl (by decide) (by decide) rfl (by simp; done) rfl (k65_mkM _ _ _ _) (Kd.R_alloc HO.out _) (below_alloc2 HB.out hzr _) (by simp; omega) (by omega) ?_; intro v1 w4 ho1 hb1; have HO1 := Aside0.mk ho1; have HB1 := Aside0.mk hb1; clear ho1 hb1)
     go_roundw
     case rel => exact ⟨3, by omega, by first | rfl | go_num, by rw [HP.out]; exact HO1.out, HB1.out⟩
     case measure => simp [intOf]
    ·have hp := hp.trans (if_neg hbit)
     have HP := Aside0.mk hp
     have hbit2 : (Go.bits .and .i64 (ring / 2 ^ 2) 1 == 1) = false := beq_eq_false_iff_ne.2 hbit
     simp only [Int.reducePow, Int.ediv_one] at hbit hbit2
     clear hp hbit
     go_wp2
     go_roundw
     case rel => exact ⟨3, by omega, by first | rfl | go_num, by rw [HP.out]; exact Kd.R_alloc HO.out _, below_alloc2 HB.out hzr _⟩
     case measure => simp [intOf]
   ·have hix : ∀ w : World, (Instr.index 69 (.agg #[.int .i64 1, .int .i64 0, .int .i64 0, .int .i64 1, .int .i64 (-1), .int .i64 1, .int .i64 (-1), .int .i64 0, .int .i64 0, .int .i64 (-1), .int .i64 1, .int .i64 (-1)]) (.int .i64 3)).run Tryd.prog w = .ok (.agg #[.int .i64 (-1), .int .i64 0]) w := fun w => by kernel_rfl
    have hpl := patL_le ring false 3
    have hp : patL ring false 4 = if Go.bits .and .i64 (ring / 2 ^ 3) 1 = 1 then patL ring false 3 ++ [⟨⟨(-1), 0⟩, 0⟩] else patL ring false 3 := rfl
    by_cases hbit : Go.bits .and .i64 (ring / 2 ^ 3) 1 = 1
    ·have hp := hp.trans (if_pos hbit)
     have HP := Aside0.mk hp
     have hbit2 : (Go.bits .and .i64 (ring / 2 ^ 3) 1 == 1) = true := beq_iff_eq.2 hbit
     simp only [Int.reducePow, Int.ediv_one] at hbit hbit2
     clear hp hbit
     go_wp2_with (at_builtin; refine app1 k65 w.heap.size (.tmp 23) (.tmp 26) 34 65 (.agg #[.int .i64 0, .int .i64 0, .int .i64 0]) 24 (w0 := w) _ (patL ring false 3) (⟨⟨(-1), 0⟩, 0⟩) [.int .i64 (-1), .int .i64 0, .int .i64 0] _ rfl rfl Tryd.underlying34 info65 rfl (by decide) (by decide) rfl (by simp; done) rfl (k65_mkM _ _ _ _) (Kd.R_alloc HO.out _) (below_alloc2 HB.out hzr _) (by simp; omega) (by omega) ?_; intro v1 w4 ho1 hb1; have HO1 := Aside0.mk ho1; have HB1 := Aside0.mk hb1; clear ho1 hb1)
     go_roundw
     case rel => exact ⟨4, by omega, by first | rfl | go_num, by rw [HP.out]; exact HO1.out, HB1.out⟩
     case measure => simp [intOf]
    ·have hp := hp.trans (if_neg hbit)
     have HP := Aside0.mk hp
     have hbit2 : (Go.bits .and .i64 (ring / 2 ^ 3) 1 == 1) = false := beq_eq_false_iff_ne.2 hbit
     simp only [Int.reducePow, Int.ediv_one] at hbit hbit2
     clear hp hbit
     go_wp2
     go_roundw
     case rel => exact ⟨4, by omega, by first | rfl | go_num, by rw [HP.out]; exact Kd.R_alloc HO.out _, below_alloc2 HB.out hzr _⟩
     case measure => simp [intOf]
   ·have hix : ∀ w : World, (Instr.index 69 (.agg #[.int .i64 1, .int .i64 0, .int .i64 0, .int .i64 1, .int .i64 (-1), .int .i64 1, .int .i64 (-1), .int .i64 0, .int .i64 0, .int .i64 (-1), .int .i64 1, .int .i64 (-1)]) (.int .i64 4)).run Tryd.prog w = .ok (.agg #[.int .i64 0, .int .i64 (-1)]) w := fun w => by kernel_rfl
    have hpl := patL_le ring false 4
    have hp : patL ring false 5 = if Go.bits .and .i64 (ring / 2 ^ 4) 1 = 1 then patL ring false 4 ++ [⟨⟨0, (-1)⟩, 0⟩] else patL ring false 4 := rfl
    by_cases hbit : Go.bits .and .i64 (ring / 2 ^ 4) 1 = 1
    ·have hp := hp.trans (if_pos hbit)
     have HP := Aside0.mk hp
     have hbit2 : (Go.bits .and .i64 (ring / 2 ^ 4) 1 == 1) = true := beq_iff_eq.2 hbit
     simp only [Int.reducePow, Int.ediv_one] at hbit hbit2
     clear hp hbit
     go_wp2_with (at_builtin; refine app1 k65 w.heap.size (.tmp 23) (.tmp 26) 34 65 (.agg #[.int .i64 0, .int .i64 0, .int .i64 0]) 24 (w0 := w) _ (patL ring false 4) (⟨⟨0, (-1)⟩, 0⟩) [.int .i64 0, .int .i64 (-1), .int .i64 0] _ rfl rfl Tryd.underlying34 info65 rfl (by decide) (by decide) rfl (by simp; done) rfl (k65_mkM _ _ _ _) (Kd.R_alloc HO.out _) (below_alloc2 HB.out hzr _) (by simp; omega) (by omega) ?_; intro v1 w4 ho1 hb1; have HO1 := Aside0.mk ho1; have HB1 := Aside0.mk hb1; clear ho1 hb1)
     go_roundw
     case rel => exact ⟨5, by omega, by first | rfl | go_num, by rw [HP.out]; exact HO1.out, HB1.out⟩
     case measure => simp [intOf]
    ·have hp := hp.trans (if_neg hbit)
     have HP := Aside0.mk hp
     have hbit2 : (Go.bits .and .i64 (ring / 2 ^ 4) 1 == 1) = false := beq_eq_false_iff_ne.2 hbit
     simp only [Int.reducePow, Int.ediv_one] at hbit hbit2
     clear hp hbit
     go_wp2
     go_roundw
     case rel => exact ⟨5, by omega, by first | rfl | go_num, by rw [HP.out]; exact Kd.R_alloc HO.out _, below_alloc2 HB.out hzr _⟩
     case measure => simp [intOf]
   ·have hix : ∀ w : World, (Instr.index 69 (.agg #[.int .i64 1, .int .i64 0, .int .i64 0, .int .i64 1, .int .i64 (-1), .int .i64 1, .int .i64 (-1), .int .i64 0, .int .i64 0, .int .i64 (-1), .int .i64 1, .int .i64 (-1)]) (.int .i64 5)).run Tryd.prog w = .ok (.agg #[.int .i64 1, .int .i64 (-1)]) w := fun w => by kernel_rfl
    have hpl := patL_le ring false 5
    have hp : patL ring false 6 = if Go.bits .and .i64 (ring / 2 ^ 5) 1 = 1 then patL ring false 5 ++ [⟨⟨1, (-1)⟩, 0⟩] else patL ring false 5 := rfl
    by_cases hbit : Go.bits .and .i64 (ring / 2 ^ 5) 1 = 1
    ·have hp := hp.trans (if_pos hbit)
     have HP := Aside0.mk hp
     have hbit2 : (Go.bits .and .i64 (ring / 2 ^ 5) 1 == 1) = true := beq_iff_eq.2 hbit
     simp only [Int.reducePow, Int.ediv_one] at hbit hbit2
     clear hp hbit
     go_wp2_with (at_builtin; refine app1 k65 w.heap.size (.tmp 23) (.tmp 26) 34 65 (.agg #[.int .i64 0, .int .i64 0, .int .i64 0]) 24 (w0 := w) _ (patL ring false 5) (⟨⟨1, (-1)⟩, 0⟩) [.int .i64 1, .int .i64 (-1), .int .i64 0] _ rfl rfl Tryd.underlying34 info65 rfl (by decide) (by decide) rfl (by simp; done) rfl (k65_mkM _ _ _ _) (Kd.R_alloc HO.out _) (below_alloc2 HB.out hzr _) (by simp; omega) (by omega) ?_; intro v1 w4 ho1 hb1; have HO1 := Aside0.mk ho1; have HB1 := Aside0.mk hb1; clear ho1 hb1)
     go_roundw
     case rel => exact ⟨6, by omega, by first | rfl | go_num, by rw [HP.out]; exact HO1.out, HB1.out⟩
     case measure => simp [intOf]
    ·have hp := hp.trans (if_neg hbit)
     have HP := Aside0.mk hp
     have hbit2 : (Go.bits .and .i64 (ring / 2 ^ 5) 1 == 1) = false := beq_eq_false_iff_ne.2 hbit
     simp only [Int.reducePow, Int.ediv_one] at hbit hbit2
     clear hp hbit
     go_wp2
     go_roundw
     case rel => exact ⟨6, by omega, by first | rfl | go_num, by rw [HP.out]; exact Kd.R_alloc HO.out _, below_alloc2 HB.out hzr _⟩
     case measure => simp [intOf]
   ·obtain ⟨A3, c3, rfl, hl3, hc3⟩ := Kd.R_reads HO.out
    have HC3 := Aside0.mk hc3
    have HL3 := Aside0.mk hl3
    clear hc3 hl3
    go_wp2_with (go_at_call 37; refine (HOF.out A3 c3 _ HC3.out HL3.out).mono ?_; rintro e w5 ⟨v5, rfl, ho5, hb5⟩; have HO5 := Aside0.mk ho5; have HB5 := Aside0.mk (HB.out.trans (hb5.mono hzr)); clear ho5 hb5)
    go_ret
    exact ⟨_, rfl, Kd.R_lower HO5.out hzr, HB5.out⟩
 ·have h0 : patL ring true 0 = [⟨⟨0, 0⟩, 0⟩] := rfl
  have H0 := Aside0.mk h0
  clear h0 H00
  generalize hX : ofL (patL ring true 6) = X at HOF ⊢
  have HX := Aside0.mk hX
  clear hX
  go_enter Tryd.func88, Tryd.ntmps88
  go_wp2_with (at_builtin; refine app1 k65 w.heap.size (.tmp 9) (.tmp 11) 34 65 (.agg #[.int .i64 0, .int .i64 0, .int .i64 0]) 24 (w0 := w) _ ([]) (⟨⟨0, 0⟩, 0⟩) [.int .i64 0, .int .i64 0, .int .i64 0] _ rfl rfl Tryd.underlying34 info65 rfl (by decide) (by decide) rfl (by simp; done) rfl (k65_mkM _ _ _ _) (Kd.R_nil _ _ _ _ _) (Below.refl _ _) (Nat.le_refl _) (by decide) ?_; intro v1 w1 ho1 hb1; have HO1 := Aside0.mk ho1; have HB1 := Aside0.mk hb1; clear ho1 hb1)
  refine (HSIX.out _ (Six.below HG.out (HB1.out))).mono ?_
  rintro e w2 ⟨rfl, hb2⟩
  have hz1 := HB1.out.size
  have HO2 := Aside0.mk (Kd.R_below HO1.out hb2)
  have HB2 := Aside0.mk (HB1.out.trans (hb2.mono hz1))
  clear hb2
  go_wp2_with fail
  go_loopw [14, 5] (fun i v wr => ∃ j : Nat, j ≤ 6 ∧ i = .int .i64 j ∧ Kd.R k65 65 wr w.heap.size (fun _ => True) v (patL ring true j) ∧ Below w.heap.size w wr) (fun i _ _ => 6 - (intOf i).toNat)
  case atStart => exact ⟨0, by omega, rfl, by rw [H0.out]; exact HO2.out, HB2.out⟩
  case round =>
   obtain ⟨j, hj, rfl, hO, hb⟩ := hrel
   have HO := Aside0.mk hO
   have HB := Aside0.mk hb
   have hzr := hb.size
   clear hO hb H0
   have hjj : j = 0 ∨ j = 1 ∨ j = 2 ∨ j = 3 ∨ j = 4 ∨ j = 5 ∨ j = 6 := by omega
   rcases hjj with rfl | rfl | rfl | rfl | rfl | rfl | rfl
   ·have hix : ∀ w : World, (Instr.index 69 (.agg #[.int .i64 1, .int .i64 0, .int .i64 0, .int .i64 1, .int .i64 (-1), .int .i64 1, .int .i64 (-1), .int .i64 0, .int .i64 0, .int .i64 (-1), .int .i64 1, .int .i64 (-1)]) (.int .i64 0)).run Tryd.prog w = .ok (.agg #[.int .i64 1, .int .i64 0]) w := fun w => by kernel_rfl
    have hpl := patL_le ring true 0
    have hp : patL ring true 1 = if Go.bits .and .i64 (ring / 2 ^ 0) 1 = 1 then patL ring true 0 ++ [⟨⟨1, 0⟩, 0⟩] else patL ring true 0 := rfl
    by_cases hbit : Go.bits .and .i64 (ring / 2 ^ 0) 1 = 1
    ·have hp := hp.trans (if_pos hbit)
     have HP := Aside0.mk hp
     have hbit2 : (Go.bits .and .i64 (ring / 2 ^ 0) 1 == 1) = true := beq_iff_eq.2 hbit
     simp only [Int.reducePow, Int.ediv_one] at hbit hbit2
     clear hp hbit
     go_wp2_with (at_builtin; refine app1 k65 w.heap.size (.tmp 23) (.tmp 26) 34 65 (.agg #[.int .i64 0, .int .i64 0, .int .i64 0]) 24 (w0 := w) _ (patL ring true 0) (⟨⟨1, 0⟩, 0⟩) [.int .i64 1, .int .i64 0, .int .i64 0] _ rfl rfl Tryd.underlying34 info65 rfl (by decide) (by decide) rfl (by simp; done) rfl (k65_mkM _ _ _ _) (Kd.R_alloc HO.out _) (below_alloc2 HB.out hzr _) (by simp; omega) (by omega) ?_; intro v1 w4 ho1 hb1; have HO1 := Aside0.mk ho1; have HB1 := Aside0.mk hb1; clear ho1 hb1)
     go_roundw
     case rel => exact ⟨1, by omega, by first | rfl | go_num, by rw [HP.out]; exact HO1.out, HB1.out⟩
     case measure => simp [intOf]
    ·have hp := hp.trans (if_neg hbit)
     have HP := Aside0.mk hp
     have hbit2 : (Go.bits .and .i64 (ring / 2 ^ 0) 1 == 1) = false := beq_eq_false_iff_ne.2 hbit
     simp only [Int.reducePow, Int.ediv_one] at hbit hbit2
     clear hp hbit
     go_wp2
     go_roundw
     case rel => exact ⟨1, by omega, by first | rfl | go_num, by rw [HP.out]; exact Kd.R_alloc HO.out _, below_alloc2 HB.out hzr _⟩
     case measure => simp [intOf]
   ·have hix : ∀ w : World, (Instr.index 69 (.agg #[.int .i64 1, .int .i64 0, .int .i64 0, .int .i64 1, .int .i64 (-1), .int .i64 1, .int .i64 (-1), .int .i64 0, .int .i64 0, .int .i64 (-1), .int .i64 1, .int .i64 (-1)]) (.int .i64 1)).run Tryd.prog w = .ok (.agg #[.int .i64 0, .int .i64 1]) w := fun w => by kernel_rfl
    have hpl := patL_le ring true 1
    have hp : patL ring true 2 = if Go.bits .and .i64 (ring / 2 ^ 1) 1 = 1 then patL ring true 1 ++ [⟨⟨0, 1⟩, 0⟩] else patL ring true 1 := rfl
    by_cases hbit : Go.bits .and .i64 (ring / 2 ^ 1) 1 = 1
    ·have hp := hp.trans (if_pos hbit)
     have HP := Aside0.mk hp
     have hbit2 : (Go.bits .and .i64 (ring / 2 ^ 1) 1 == 1) = true := beq_iff_eq.2 hbit
     simp only [Int.reducePow, Int.ediv_one] at hbit hbit2
     clear hp hbit
     go_wp2_with (at_builtin; refine app1 k65 w.heap.size (.tmp 23) (.tmp 26) 34 65 (.agg #[.int .i64 0, .int .i64 0, .int .i64 0]) 24 (w0 := w) _ (patL ring true 1) (⟨⟨0, 1⟩, 0⟩) [.int .i64 0, .int .i64 1, .int .i64 0] _ rfl rfl Tryd.underlying34 info65 rfl (by decide) (by decide) rfl (by simp; done) rfl (k65_mkM _ _ _ _) (Kd.R_alloc HO.out _) (below_alloc2 HB.out hzr _) (by simp; omega) (by omega) ?_; intro v1 w4 ho1 hb1; have HO1 := Aside0.mk ho1; have HB1 := Aside0.mk hb1; clear ho1 hb1)
     go_roundw
     case rel => exact ⟨2, by omega, by first | rfl | go_num, by rw [HP.out]; exact HO1.out, HB1.out⟩
     case measure => simp [intOf]
    ·have hp := hp.trans (if_neg hbit)
     have HP := Aside0.mk hp
     have hbit2 : (Go.bits .and .i64 (ring / 2 ^ 1) 1 == 1) = false := beq_eq_false_iff_ne.2 hbit
     simp only [Int.reducePow, Int.ediv_one] at hbit hbit2
     clear hp hbit
     go_wp2
     go_roundw
     case rel => exact ⟨2, by omega, by first | rfl | go_num, by rw [HP.out]; exact Kd.R_alloc HO.out _, below_alloc2 HB.out hzr _⟩
     case measure => simp [intOf]
   ·have hix : ∀ w : World, (Instr.index 69 (.agg #[.int .i64 1, .int .i64 0, .int .i64 0, .int .i64 1, .int .i64 (-1), .int .i64 1, .int .i64 (-1), .int .i64 0, .int .i64 0, .int .i64 (-1), .int .i64 1, .int .i64 (-1)]) (.int .i64 2)).run Tryd.prog w = .ok (.agg #[.int .i64 (-1), .int .i64 1]) w := fun w => by kernel_rfl
    have hpl := patL_le ring true 2
    have hp : patL ring true 3 = if Go.bits .and .i64 (ring / 2 ^ 2) 1 = 1 then patL ring true 2 ++ [⟨⟨(-1), 1⟩, 0⟩] else patL ring true 2 := rfl
    by_cases hbit : Go.bits .and .i64 (ring / 2 ^ 2) 1 = 1
    ·have hp := hp.trans (if_pos hbit)
     have HP := Aside0.mk hp
     have hbit2 : (Go.bits .and .i64 (ring / 2 ^ 2) 1 == 1) = true := beq_iff_eq.2 hbit
     simp only [Int.reducePow, Int.ediv_one] at hbit hbit2
     clear hp hbit
     go_wp2_with (at_builtin; refine app1 k65 w.heap.size (.tmp 23) (.tmp 26) 34 65 (.agg #[.int .i64 0, .int .i64 0, .int .i64 0]) 24 (w0 := w) _ (patL ring true 2) (⟨⟨(-1), 1⟩, 0⟩) [.int .i64 (-1), .int .i64 1, .int .i64 0] _ rfl rfl Tryd.underlying34 info65 rfl (by decide) (by decide) rfl (by simp; done) rfl (k65_mkM _ _ _ _) (Kd.R_alloc HO.out _) (below_alloc2 HB.out hzr _) (by simp; omega) (by omega) ?_; intro v1 w4 ho1 hb1; have HO1 := Aside0.mk ho1; have HB1 := Aside0.mk hb1; clear ho1 hb1)
     go_roundw
     case rel => exact ⟨3, by omega, by first | rfl | go_num, by rw [HP.out]; exact HO1.out, HB1.out⟩
     case measure => simp [intOf]
    ·have hp := hp.trans (if_neg hbit)
     have HP := Aside0.mk hp
     have hbit2 : (Go.bits .and .i64 (ring / 2 ^ 2) 1 == 1) = false := beq_eq_false_iff_ne.2 hbit
     simp only [Int.reducePow, Int.ediv_one] at hbit hbit2
     clear hp hbit
     go_wp2
     go_roundw
     case rel => exact ⟨3, by omega, by first | rfl | go_num, by rw [HP.out]; exact Kd.R_alloc HO.out _, below_alloc2 HB.out hzr _⟩
     case measure => simp [intOf]
   ·have hix : ∀ w : World, (Instr.index 69 (.agg #[.int .i64 1, .int .i64 0, .int .i64 0, .int .i64 1, .int .i64 (-1), .int .i64 1, .int .i64 (-1), .int .i64 0, .int .i64 0, .int .i64 (-1), .int .i64 1, .int .i64 (-1)]) (.int .i64 3)).run Tryd.prog w = .ok (.agg #[.int .i64 (-1), .int .i64 0]) w := fun w => by kernel_rfl
    have hpl := patL_le ring true 3
    have hp : patL ring true 4 = if Go.bits .and .i64 (ring / 2 ^ 3) 1 = 1 then patL ring true 3 ++ [⟨⟨(-1), 0⟩, 0⟩] else patL ring true 3 := rfl
    by_cases hbit : Go.bits .and .i64 (ring / 2 ^ 3) 1 = 1
    ·have hp := hp.trans (if_pos hbit)
     have HP := Aside0.mk hp
     have hbit2 : (Go.bits .and .i64 (ring / 2 ^ 3) 1 == 1) = true := beq_iff_eq.2 hbit
     simp only [Int.reducePow, Int.ediv_one] at hbit hbit2
     clear hp hbit
     go_wp2_with (at_builtin; refine app1 k65 w.heap.size (.tmp 23) (.tmp 26) 34 65 (.agg #[.int .i64 0, .int .i64 0, .int .i64 0]) 24 (w0 := w) _ (patL ring true 3) (⟨⟨(-1), 0⟩, 0⟩) [.int .i64 (-1), .int .i64 0, .int .i64 0] _ rfl rfl Tryd.underlying34 info65 rfl (by decide) (by decide) rfl (by simp; done) rfl (k65_mkM _ _ _ _) (Kd.R_alloc HO.out _) (below_alloc2 HB.out hzr _) (by simp; omega) (by omega) ?_; intro v1 w4 ho1 hb1; have HO1 := Aside0.mk ho1; have HB1 := Aside0.mk hb1; clear ho1 hb1)
     go_roundw
     case rel => exact ⟨4, by omega, by first | rfl | go_num, by rw [HP.out]; exact HO1.out, HB1.out⟩
     case measure => simp [intOf]
    ·have hp := hp.trans (if_neg hbit)
     have HP := Aside0.mk hp
     have hbit2 : (Go.bits .and .i64 (ring / 2 ^ 3) 1 == 1) = false := beq_eq_false_iff_ne.2 hbit
     simp only [Int.reducePow, Int.ediv_one] at hbit hbit2
     clear hp hbit
     go_wp2
     go_roundw
     case rel => exact ⟨4, by omega, by first | rfl | go_num, by rw [HP.out]; exact Kd.R_alloc HO.out _, below_alloc2 HB.out hzr _⟩
     case measure => simp [intOf]
   ·have hix : ∀ w : World, (Instr.index 69 (.agg #[.int .i64 1, .int .i64 0, .int .i64 0, .int .i64 1, .int .i64 (-1), .int .i64 1, .int .i64 (-1), .int .i64 0, .int .i64 0, .int .i64 (-1), .int .i64 1, .int .i64 (-1)]) (.int .i64 4)).run Tryd.prog w = .ok (.agg #[.int .i64 0, .int .i64 (-1)]) w := fun w => by kernel_rfl
    have hpl := patL_le ring true 4
    have hp : patL ring true 5 = if Go.bits .and .i64 (ring / 2 ^ 4) 1 = 1 then patL ring true 4 ++ [⟨⟨0, (-1)⟩, 0⟩] else patL ring true 4 := rfl
    by_cases hbit : Go.bits .and .i64 (ring / 2 ^ 4) 1 = 1
    ·have hp := hp.trans (if_pos hbit)
     have HP := Aside0.mk hp
     have hbit2 : (Go.bits .and .i64 (ring / 2 ^ 4) 1 == 1) = true := beq_iff_eq.2 hbit
     simp only [Int.reducePow, Int.ediv_one] at hbit hbit2
     clear hp hbit
     go_wp2_with (at_builtin; refine app1 k65 w.heap.size (.tmp 23) (.tmp 26) 34 65 (.agg #[.int .i64 0, .int .i64 0, .int .i64 0]) 24 (w0 := w) _ (patL ring true 4) (⟨⟨0, (-1)⟩, 0⟩) [.int .i64 0, .int .i64 (-1), .int .i64 0] _ rfl rfl Tryd.underlying34 info65 rfl (by decide) (by decide) rfl (by simp; done) rfl (k65_mkM _ _ _ _) (Kd.R_alloc HO.out _) (below_alloc2 HB.out hzr _) (by simp; omega) (by omega) ?_; intro v1 w4 ho1 hb1; have HO1 := Aside0.mk ho1; have HB1 := Aside0.mk hb1; clear ho1 hb1)
     go_roundw
     case rel => exact ⟨5, by omega, by first | rfl | go_num, by rw [HP.out]; exact HO1.out, HB1.out⟩
     case measure => simp [intOf]
    ·have hp := hp.trans (if_neg hbit)
     have HP := Aside0.mk hp
     have hbit2 : (Go.bits .and .i64 (ring / 2 ^ 4) 1 == 1) = false := beq_eq_false_iff_ne.2 hbit
     simp only [Int.reducePow, Int.ediv_one] at hbit hbit2
     clear hp hbit
     go_wp2
     go_roundw
     case rel => exact ⟨5, by omega, by first | rfl | go_num, by rw [HP.out]; exact Kd.R_alloc HO.out _, below_alloc2 HB.out hzr _⟩
     case measure => simp [intOf]
   ·have hix : ∀ w : World, (Instr.index 69 (.agg #[.int .i64 1, .int .i64 0, .int .i64 0, .int .i64 1, .int .i64 (-1), .int .i64 1, .int .i64 (-1), .int .i64 0, .int .i64 0, .int .i64 (-1), .int .i64 1, .int .i64 (-1)]) (.int .i64 5)).run Tryd.prog w = .ok (.agg #[.int .i64 1, .int .i64 (-1)]) w := fun w => by kernel_rfl
    have hpl := patL_le ring true 5
    have hp : patL ring true 6 = if Go.bits .and .i64 (ring / 2 ^ 5) 1 = 1 then patL ring true 5 ++ [⟨⟨1, (-1)⟩, 0⟩] else patL ring true 5 := rfl
    by_cases hbit : Go.bits .and .i64 (ring / 2 ^ 5) 1 = 1
    ·have hp := hp.trans (if_pos hbit)
     have HP := Aside0.mk hp
     have hbit2 : (Go.bits .and .i64 (ring / 2 ^ 5) 1 == 1) = true := beq_iff_eq.2 hbit
     simp only [Int.reducePow, Int.ediv_one] at hbit hbit2
     clear hp hbit
     go_wp2_with (at_builtin; refine app1 k65 w.heap.size (.tmp 23) (.tmp 26) 34 65 (.agg #[.int .i64 0, .int .i64 0, .int .i64 0]) 24 (w0 := w) _ (patL ring true 5) (⟨⟨1, (-1)⟩, 0⟩) [.int .i64 1, .int .i64 (-1), .int .i64 0] _ rfl rfl Tryd.underlying34 info65 rfl (by decide) (by decide) rfl (by simp; done) rfl (k65_mkM _ _ _ _) (Kd.R_alloc HO.out _) (below_alloc2 HB.out hzr _) (by simp; omega) (by omega) ?_; intro v1 w4 ho1 hb1; have HO1 := Aside0.mk ho1; have HB1 := Aside0.mk hb1; clear ho1 hb1)
     go_roundw
     case rel => exact ⟨6, by omega, by first | rfl | go_num, by rw [HP.out]; exact HO1.out, HB1.out⟩
     case measure => simp [intOf]
    ·have hp := hp.trans (if_neg hbit)
     have HP := Aside0.mk hp
     have hbit2 : (Go.bits .and .i64 (ring / 2 ^ 5) 1 == 1) = false := beq_eq_false_iff_ne.2 hbit
     simp only [Int.reducePow, Int.ediv_one] at hbit hbit2
     clear hp hbit
     go_wp2
     go_roundw
     case rel => exact ⟨6, by omega, by first | rfl | go_num, by rw [HP.out]; exact Kd.R_alloc HO.out _, below_alloc2 HB.out hzr _⟩
     case measure => simp [intOf]
   ·obtain ⟨A3, c3, rfl, hl3, hc3⟩ := Kd.R_reads HO.out
    have HC3 := Aside0.mk hc3
    have HL3 := Aside0.mk hl3
    clear hc3 hl3
    go_wp2_with (go_at_call 37; refine (HOF.out A3 c3 _ HC3.out HL3.out).mono ?_; rintro e w5 ⟨v5, rfl, ho5, hb5⟩; have HO5 := Aside0.mk ho5; have HB5 := Aside0.mk (HB.out.trans (hb5.mono hzr)); clear ho5 hb5)
    go_ret
    exact ⟨_, rfl, Kd.R_lower HO5.out hzr, HB5.out⟩
def XPattern.f (ring : Int) (live : Bool) : Option (List S65) := some (ofL (patL ring live 6))
theorem XPattern.calls (a0 : Int) (a1 : Bool) (r : List S65) (w : World) (hGSix : Six w) (h : XPattern.f a0 a1 = some r) :
    Calls Tryd.prog 88 #[.int .i64 a0, .bool a1] w fun e w' => ∃ v0_ : Value, e = .returned v0_ ∧ Kd.R k65 65 w' w.heap.size (fun _ => True) v0_ r ∧ Below w.heap.size w w' := by
 obtain rfl := Option.some.inj h
 exact XPattern_any a0 a1 w hGSix
abbrev Z0 : CL := mk 0 0 0
theorem onL_nodup (l o : Int) (s : List CL) : (onL l o s).Nodup := srt_nodup (ofL_srt _)
theorem pat_tab : ∀ r : Fin 64, ∀ live : Bool, (decide (Z0 ∈ patL (r.1 : Int) live 6) = live) ∧ (∀ j : Fin 6, decide (hexQ Z0 j.1 ∈ patL (r.1 : Int) live 6) = r.1.testBit j.1) ∧ (∀ c ∈ patL (r.1 : Int) live 6, c.f1 = 0) := by decide +kernel
theorem pat_ok (r : Nat) (hr : r < 64) (live : Bool) : ∀ c ∈ ofL (patL (r : Int) live 6), hOK 1 c.f1 := by
 intro c hc
 rw [ofL_mem] at hc
 have := (pat_tab ⟨r, hr⟩ live).2.2 c hc
 exact ⟨.inl this, fun _ => this⟩
theorem pat_mem (r : Nat) (hr : r < 64) (live : Bool) : decide (Z0 ∈ ofL (patL (r : Int) live 6)) = live := by
 have := (pat_tab ⟨r, hr⟩ live).1
 simp only at this
 refine Eq.trans ?_ this
 rw [decide_eq_decide, ofL_mem]
theorem pat_ngh (r : Nat) (hr : r < 64) (live : Bool) : ngh 1 (ofL (patL (r : Int) live 6)) Z0 = (r : Int) := by
 unfold ngh
 rw [if_pos rfl]
 have hb := hexN_bd (ofL (patL (r : Int) live 6)) Z0
 refine bit_ext _ _ hb.1 hb.2 (by omega) (by omega) fun j hj => ?_
 rw [hexN_bit _ _ j hj]
 have := (pat_tab ⟨r, hr⟩ live).2.1 ⟨j, hj⟩
 simp only at this
 have e : bitOf (r : Int) j = r.testBit j := by unfold bitOf; rw [Int.toNat_natCast]
 rw [e, ← this, decide_eq_decide, ofL_mem]
theorem box_tab : ∀ r : Fin 64, ∀ live : Bool, ∀ c ∈ patL (r.1 : Int) live 6, (-1 ≤ c.f0.f0 ∧ c.f0.f0 ≤ 1) ∧ (-1 ≤ c.f0.f1 ∧ c.f0.f1 ≤ 1) := by decide +kernel
theorem pat_box (r : Nat) (hr : r < 64) (live : Bool) : ∀ c ∈ patL (r : Int) live 6, (-1 ≤ c.f0.f0 ∧ c.f0.f0 ≤ 1) ∧ (-1 ≤ c.f0.f1 ∧ c.f0.f1 ≤ 1) := box_tab ⟨r, hr⟩ live
theorem z_hex : ∀ o : Fin 12, onC 1 (o.1 : Int) Z0 = Z0 := by decide +kernel
theorem hex_wit {b0 b1 s0 s1 : Nat} (hT : Tb 1 b0 b1 s0 s1) (p r : Nat) (hp : p < 12) (hr : r < 64) (live : Bool) (h : nxtV b0 b1 s0 s1 0 live (r : Int) ≠ nxtV b0 b1 s0 s1 0 live (brT p r : Int)) :
    nextL (nxtV b0 b1 s0 s1) 1 (onL 1 (p : Int) (ofL (patL (r : Int) live 6))) ≠ onL 1 (p : Int) (nextL (nxtV b0 b1 s0 s1) 1 (ofL (patL (r : Int) live 6))) := by
 intro e
 obtain ⟨s, hs⟩ : ∃ s, s = ofL (patL (r : Int) live 6) := ⟨_, rfl⟩
 have hok := pat_ok r hr live
 have hm := pat_mem r hr live
 have hg := pat_ngh r hr live
 have hsrt : Srt s := hs ▸ ofL_srt _
 rw [← hs] at e hok hm hg
 have hz := rule_zero hT
 have o0 : (0 : Int) ≤ (p : Int) := by omega
 have o1 : (p : Int) < 12 := by omega
 have zok : hOK 1 Z0.f1 := ⟨.inl rfl, fun _ => rfl⟩
 have ez := z_hex ⟨p, hp⟩
 simp only at ez
 have h1 : Z0 ∈ nextL (nxtV b0 b1 s0 s1) 1 (onL 1 (p : Int) s) ↔ nxtV b0 b1 s0 s1 0 live (brT p r : Int) = true := by
  rw [next_mem _ 1 hT.1 hz _ (onL_nodup 1 (p : Int) s) (on_ok 1 (p : Int) o0 o1 s hok)]
  have hn := ngh_hex p hp s hok Z0
  rw [ez, hg, Int.toNat_natCast] at hn
  have hmm := mem_on 1 (p : Int) o0 o1 s hok Z0 zok
  rw [ez] at hmm
  have : decide (Z0 ∈ onL 1 (p : Int) s) = live := by rw [← hm, decide_eq_decide]; exact hmm
  rw [hn, this]
  exact ⟨fun h => h.2, fun h => ⟨zok, h⟩⟩
 have h2 : Z0 ∈ onL 1 (p : Int) (nextL (nxtV b0 b1 s0 s1) 1 s) ↔ nxtV b0 b1 s0 s1 0 live (r : Int) = true := by
  have hmm := mem_on 1 (p : Int) o0 o1 _ (next_halves (nxtV b0 b1 s0 s1) 1 hT.1 hz s (srt_nodup hsrt) hok) Z0 zok
  rw [ez] at hmm
  rw [hmm, next_mem _ 1 hT.1 hz s (srt_nodup hsrt) hok, hg, hm]
  exact ⟨fun h => h.2, fun h => ⟨zok, h⟩⟩
 rw [e] at h1
 exact h (Bool.eq_iff_iff.2 (h2.symm.trans h1))
def triL (l : Int) (n : Nat) (live : Bool) : List CL := (besL l Z0).take n ++ (if live = true then [Z0] else [])
def cntT (l : Int) : Nat := if l = 2 then 3 else 12
theorem tri_len2 : ∀ l : Int, l = 2 ∨ l = 3 → (besL l Z0).length = cntT l := by rintro l (rfl | rfl) <;> decide
theorem tri_tab : ∀ n : Fin 13, ∀ live : Bool, (n.1 ≤ 3 → (((besL 2 Z0).filter fun d => decide (d ∈ triL 2 n.1 live)).length = n.1 ∧ decide (Z0 ∈ triL 2 n.1 live) = live ∧ ∀ c ∈ triL 2 n.1 live, c.f1 = 0 ∨ c.f1 = 1)) ∧ (((besL 3 Z0).filter fun d => decide (d ∈ triL 3 n.1 live)).length = n.1 ∧ decide (Z0 ∈ triL 3 n.1 live) = live ∧ ∀ c ∈ triL 3 n.1 live, c.f1 = 0 ∨ c.f1 = 1) := by decide +kernel
theorem tri_facts (l : Int) (hl : l = 2 ∨ l = 3) (n : Nat) (hn : n ≤ cntT l) (live : Bool) : ngh l (ofL (triL l n live)) Z0 = (n : Int) ∧ decide (Z0 ∈ ofL (triL l n live)) = live ∧ ∀ c ∈ ofL (triL l n live), hOK l c.f1 := by
 have hn12 : n < 13 := by unfold cntT at hn; split at hn <;> omega
 have key : ((besL l Z0).filter fun d => decide (d ∈ triL l n live)).length = n ∧ decide (Z0 ∈ triL l n live) = live ∧ ∀ c ∈ triL l n live, c.f1 = 0 ∨ c.f1 = 1 := by
  obtain ⟨a, b⟩ := tri_tab ⟨n, hn12⟩ live
  rcases hl with rfl | rfl
  ·exact a hn
  ·exact b
 obtain ⟨k1, k2, k3⟩ := key
 refine ⟨?_, ?_, fun c hc => ?_⟩
 ·unfold ngh
  rw [if_neg (by omega)]
  have : ((besL l Z0).filter fun d => decide (d ∈ ofL (triL l n live))) = ((besL l Z0).filter fun d => decide (d ∈ triL l n live)) := List.filter_congr fun d _ => by rw [decide_eq_decide, ofL_mem]
  rw [this, k1]
 ·refine Eq.trans ?_ k2
  rw [decide_eq_decide, ofL_mem]
 ·rw [ofL_mem] at hc
  exact ⟨k3 c hc, fun e => by omega⟩
theorem tri_btab : ∀ n : Fin 13, ∀ live : Bool, (∀ c ∈ triL 2 n.1 live, (-1 ≤ c.f0.f0 ∧ c.f0.f0 ≤ 1) ∧ (-1 ≤ c.f0.f1 ∧ c.f0.f1 ≤ 1)) ∧ (∀ c ∈ triL 3 n.1 live, (-1 ≤ c.f0.f0 ∧ c.f0.f0 ≤ 1) ∧ (-1 ≤ c.f0.f1 ∧ c.f0.f1 ≤ 1)) := by decide +kernel
theorem tri_box (l : Int) (hl : l = 2 ∨ l = 3) (n : Nat) (hn : n ≤ cntT l) (live : Bool) : ∀ c ∈ triL l n live, (-1 ≤ c.f0.f0 ∧ c.f0.f0 ≤ 1) ∧ (-1 ≤ c.f0.f1 ∧ c.f0.f1 ≤ 1) := by
 have hn12 : n < 13 := by unfold cntT at hn; split at hn <;> omega
 obtain ⟨a, b⟩ := tri_btab ⟨n, hn12⟩ live
 rcases hl with rfl | rfl
 ·exact a
 ·exact b
theorem z_tri : (onC 2 1 Z0).f1 = 1 ∧ (onC 3 1 Z0).f1 = 1 := by decide +kernel
theorem tri_wit {L : Int} {b0 b1 s0 s1 : Nat} (hT : Tb L b0 b1 s0 s1) (hl : L = 2 ∨ L = 3) (n : Nat) (hn : n ≤ cntT L) (live : Bool) (h : nxtV b0 b1 s0 s1 0 live (n : Int) ≠ nxtV b0 b1 s0 s1 1 live (n : Int)) :
    nextL (nxtV b0 b1 s0 s1) L (onL L 1 (ofL (triL L n live))) ≠ onL L 1 (nextL (nxtV b0 b1 s0 s1) L (ofL (triL L n live))) := by
 intro e
 obtain ⟨hg, hm, hok⟩ := tri_facts L hl n hn live
 obtain ⟨s, hs⟩ : ∃ s, s = ofL (triL L n live) := ⟨_, rfl⟩
 have hsrt : Srt s := hs ▸ ofL_srt _
 rw [← hs] at e hok hm hg
 have hz := rule_zero hT
 have zok : hOK L Z0.f1 := ⟨.inl rfl, fun _ => rfl⟩
 have e1 : (onC L 1 Z0).f1 = 1 := by rcases hl with rfl | rfl; exact z_tri.1; exact z_tri.2
 have h1 : onC L 1 Z0 ∈ nextL (nxtV b0 b1 s0 s1) L (onL L 1 s) ↔ nxtV b0 b1 s0 s1 1 live (n : Int) = true := by
  rw [next_mem _ L hT.1 hz _ (onL_nodup L 1 s) (on_ok L 1 (by omega) (by omega) s hok), ngh_tri L 1 hl (by omega) (by omega) s hok Z0 zok, hg]
  have hmm := mem_on L 1 (by omega) (by omega) s hok Z0 zok
  have : decide (onC L 1 Z0 ∈ onL L 1 s) = live := by rw [← hm, decide_eq_decide]; exact hmm
  rw [this, e1]
  exact ⟨fun h => h.2, fun h => ⟨⟨.inr rfl, fun e => by omega⟩, h⟩⟩
 have h2 : onC L 1 Z0 ∈ onL L 1 (nextL (nxtV b0 b1 s0 s1) L s) ↔ nxtV b0 b1 s0 s1 0 live (n : Int) = true := by
  rw [mem_on L 1 (by omega) (by omega) _ (next_halves (nxtV b0 b1 s0 s1) L hT.1 hz s (srt_nodup hsrt) hok) Z0 zok, next_mem _ L hT.1 hz s (srt_nodup hsrt) hok, hg, hm]
  exact ⟨fun h => h.2, fun h => ⟨zok, h⟩⟩
 rw [e] at h1
 exact h (Bool.eq_iff_iff.2 (h2.symm.trans h1))
end Go.Proofs.YtaeenefdbahfoaaDoor
