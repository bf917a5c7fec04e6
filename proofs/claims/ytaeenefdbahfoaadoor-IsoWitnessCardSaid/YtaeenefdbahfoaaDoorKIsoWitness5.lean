/- Parts of the proof of IsoWitness, merged out of our texts by wip/tools/pack.py. -/
import Derived.Test.YtaeenefdbahfoaaDoorKIsoWitness1
import Derived.Test.YtaeenefdbahfoaaDoorKIsoWitness2
import Derived.Test.YtaeenefdbahfoaaDoorKIsoWitness3
import Derived.Test.YtaeenefdbahfoaaDoorKIsoWitness4
import Derived.Deep.RegionHeld3
namespace Go.Proofs.YtaeenefdbahfoaaDoor
set_option linter.unusedSimpArgs false
set_option linter.unusedVariables false
set_option maxRecDepth 100000
set_option maxHeartbeats 16000000
open Go.RowKit Go.Proofs.YtaeenefdbahfoaaDoorW.PrintWords Go.Proofs.YtaeenefdbahfoaaDoorW.PrintLast Go.Proofs.YtaeenefdbahfoaaDoorW.PrintMore
namespace H
attribute [local go_sem] max2_int min2_int max_two min_two max_three min_three max_four min_four
attribute [local go_sem high] eqA65
def honeycomblaw03_Told.f (a0_0 : Int) (a0_1 : Int) (a0_2 : Int) : Option (Int × Int × Int) := some (a0_0, a0_1, a0_2)
theorem honeycomblaw03_Told.calls (a0_0 : Int) (a0_1 : Int) (a0_2 : Int) (r1 : Int) (r2 : Int) (r3 : Int) (w : World) (h : honeycomblaw03_Told.f a0_0 a0_1 a0_2 = some (r1, r2, r3)) :
  Calls Tryd.prog 29 #[.agg #[.int .i64 a0_0, .int .i64 a0_1, .int .i64 a0_2]] w fun e w' => e = .returned (.agg #[.int .i64 r1, .int .i64 r2, .int .i64 r3]) ∧ Below w.heap.size w w' := by
 have hu65 := Tryd.underlying65
 have hu60 := Tryd.underlying60
 have HB := Aside0.mk (Below.refl w.heap.size w)
 have H : (some (a0_0, a0_1, a0_2)) = some (r1, r2, r3) := h
 clear h
 simp only [Option.some.injEq, Prod.mk.injEq] at H
 obtain ⟨rfl, rfl, rfl⟩ := H
 go_enter Tryd.func29, Tryd.ntmps29
 go_wp2_with (first | ((with_reducible refine gate_dst (N := 1) rfl ?_); refine bx_ 1 #[.int .i64 a0_0, .int .i64 a0_1, .int .i64 a0_2] 65 ?_; intro gb337 hg w2 hbox hb; have BK337 := Aside0.mk (hbox); have GW337 := Aside0.mk ((by rw [hg]; exact (below_size hb_) : w.heap.size ≤ gb337)); have GE337 := GW337; replace HB := Aside0.mk (below_step hb_ hb); clear hb hbox hg) | ((with_reducible refine gate_dst (N := 2) rfl ?_); refine bx_ 2 #[.int .i64 0, .int .i64 0, .int .i64 0] 60 ?_; intro gb338 hg w3 hbox hb; have BK338 := Aside0.mk (hbox); have GW338 := Aside0.mk ((by rw [hg]; exact (below_size (hg_ GE337.out)) : w.heap.size ≤ gb338)); have GE338 := GW338; have NB337_338 := Aside0.mk ((by rw [hg]; exact ne1_ BK337.out : gb337 ≠ gb338)); have NB338_337 := Aside0.mk ((by rw [hg]; exact ne2_ BK337.out : gb338 ≠ gb337)); replace BK337 := bb_ BK337.out hb; replace HB := Aside0.mk (below_step (hg_ GE337.out) hb); clear hb hbox hg; have hnb4 := NB337_338.out; have hnc4 := NB338_337.out; obtain ⟨hcz5_0, hcz5_1, hcz5_2⟩ := cz3_ BK337.out; obtain ⟨hfz5_0, hfz5_1, hfz5_2⟩ := fz3_ BK337.out; obtain ⟨hcz6_0, hcz6_1, hcz6_2⟩ := cz3_ BK338.out; obtain ⟨hfz6_0, hfz6_1, hfz6_2⟩ := fz3_ BK338.out))
 refine bodyPost_ret (results_cell_row rfl _ _ gb338 60 #[.int .i64 a0_0, .int .i64 a0_1, .int .i64 a0_2] (0, 0) _ rfl (by (with_reducible repeat (first | apply bN_ | apply bD_ | apply bA_)); refine blk_put (cs := #[.int .i64 a0_0, .int .i64 a0_1, .int .i64 0]) ?_ 2 _ rfl; (with_reducible repeat (first | apply bN_ | apply bD_ | apply bA_)); refine blk_put (cs := #[.int .i64 a0_0, .int .i64 0, .int .i64 0]) ?_ 1 _ rfl; (with_reducible repeat (first | apply bN_ | apply bD_ | apply bA_)); refine blk_put (cs := #[.int .i64 0, .int .i64 0, .int .i64 0]) ?_ 0 _ rfl; (with_reducible repeat (first | apply bN_ | apply bD_ | apply bA_)); exact BK338.out) Tryd.underlying60 rfl (by kernel_rfl)) rfl ?_
 exact ⟨er_, hg2_ GE337.out GE338.out⟩
def honeycombref03_Ahead.f (a0_0 : Int) (a0_1 : Int) (a0_2 : Int) (a1_0 : Int) (a1_1 : Int) (a1_2 : Int) : Option (Bool) := if a0_1 = a1_1 then (if a0_0 = a1_0 then (some (decide (a0_2 < a1_2))) else (some (decide (a0_0 < a1_0)))) else (some (decide (a0_1 < a1_1)))
theorem honeycombref03_Ahead.calls (a0_0 : Int) (a0_1 : Int) (a0_2 : Int) (a1_0 : Int) (a1_1 : Int) (a1_2 : Int) (r : Bool) (w : World) (h : honeycombref03_Ahead.f a0_0 a0_1 a0_2 a1_0 a1_1 a1_2 = some r) :
  Calls Tryd.prog 84 #[.agg #[.int .i64 a0_0, .int .i64 a0_1, .int .i64 a0_2], .agg #[.int .i64 a1_0, .int .i64 a1_1, .int .i64 a1_2]] w fun e w' => e = .returned (.bool r) ∧ Below w.heap.size w w' := by
 have hu60 := Tryd.underlying60
 have HB := Aside0.mk (Below.refl w.heap.size w)
 have H : (if a0_1 = a1_1 then (if a0_0 = a1_0 then (some (decide (a0_2 < a1_2))) else (some (decide (a0_0 < a1_0)))) else (some (decide (a0_1 < a1_1)))) = some r := h
 clear h
 by_cases c3 : a0_1 = a1_1
 rotate_left
 ·
  rw [if_neg c3] at H
  have c3b0 : (a0_1 == a1_1) = false := beq_eq_false_iff_ne.mpr c3
  have c3b1 : (a0_1 != a1_1) = true := bne_iff_ne.mpr c3
  obtain rfl := Option.some.inj H
  go_enter Tryd.func84, Tryd.ntmps84
  go_wp2_with (first | ((with_reducible refine gate_dst (N := 2) rfl ?_); refine bx_ 2 #[.int .i64 a0_0, .int .i64 a0_1, .int .i64 a0_2] 60 ?_; intro gb448 hg w15 hbox hb; have BK448 := Aside0.mk (hbox); have GW448 := Aside0.mk ((by rw [hg]; exact (below_size hb_) : w.heap.size ≤ gb448)); have GE448 := GW448; replace HB := Aside0.mk (below_step hb_ hb); clear hb hbox hg) | ((with_reducible refine gate_dst (N := 3) rfl ?_); refine bx_ 3 #[.int .i64 a1_0, .int .i64 a1_1, .int .i64 a1_2] 60 ?_; intro gb449 hg w16 hbox hb; have BK449 := Aside0.mk (hbox); have GW449 := Aside0.mk ((by rw [hg]; exact (below_size (hg_ GE448.out)) : w.heap.size ≤ gb449)); have GE449 := GW449; have NB448_449 := Aside0.mk ((by rw [hg]; exact ne1_ BK448.out : gb448 ≠ gb449)); have NB449_448 := Aside0.mk ((by rw [hg]; exact ne2_ BK448.out : gb449 ≠ gb448)); replace BK448 := bb_ BK448.out hb; replace HB := Aside0.mk (below_step (hg_ GE448.out) hb); clear hb hbox hg; have hnb17 := NB448_449.out; have hnc17 := NB449_448.out; obtain ⟨hcz18_0, hcz18_1, hcz18_2⟩ := cz3_ BK448.out; obtain ⟨hfz18_0, hfz18_1, hfz18_2⟩ := fz3_ BK448.out; obtain ⟨hcz19_0, hcz19_1, hcz19_2⟩ := cz3_ BK449.out; obtain ⟨hfz19_0, hfz19_1, hfz19_2⟩ := fz3_ BK449.out))
  go_ret
  exact ⟨er_, hg2_ GE448.out GE449.out⟩
 rw [if_pos c3] at H
 have c3b0 : (a0_1 == a1_1) = true := beq_iff_eq.mpr c3
 have c3b1 : (a0_1 != a1_1) = false := bne_eq_false_iff_eq.mpr c3
 clear c3
 by_cases c4 : a0_0 = a1_0
 ·
  rw [if_pos c4] at H
  have c4b0 : (a0_0 == a1_0) = true := beq_iff_eq.mpr c4
  have c4b1 : (a0_0 != a1_0) = false := bne_eq_false_iff_eq.mpr c4
  clear c4
  obtain rfl := Option.some.inj H
  go_enter Tryd.func84, Tryd.ntmps84
  go_wp2_with (first | ((with_reducible refine gate_dst (N := 2) rfl ?_); refine bx_ 2 #[.int .i64 a0_0, .int .i64 a0_1, .int .i64 a0_2] 60 ?_; intro gb448 hg w5 hbox hb; have BK448 := Aside0.mk (hbox); have GW448 := Aside0.mk ((by rw [hg]; exact (below_size hb_) : w.heap.size ≤ gb448)); have GE448 := GW448; replace HB := Aside0.mk (below_step hb_ hb); clear hb hbox hg) | ((with_reducible refine gate_dst (N := 3) rfl ?_); refine bx_ 3 #[.int .i64 a1_0, .int .i64 a1_1, .int .i64 a1_2] 60 ?_; intro gb449 hg w6 hbox hb; have BK449 := Aside0.mk (hbox); have GW449 := Aside0.mk ((by rw [hg]; exact (below_size (hg_ GE448.out)) : w.heap.size ≤ gb449)); have GE449 := GW449; have NB448_449 := Aside0.mk ((by rw [hg]; exact ne1_ BK448.out : gb448 ≠ gb449)); have NB449_448 := Aside0.mk ((by rw [hg]; exact ne2_ BK448.out : gb449 ≠ gb448)); replace BK448 := bb_ BK448.out hb; replace HB := Aside0.mk (below_step (hg_ GE448.out) hb); clear hb hbox hg; have hnb7 := NB448_449.out; have hnc7 := NB449_448.out; obtain ⟨hcz8_0, hcz8_1, hcz8_2⟩ := cz3_ BK448.out; obtain ⟨hfz8_0, hfz8_1, hfz8_2⟩ := fz3_ BK448.out; obtain ⟨hcz9_0, hcz9_1, hcz9_2⟩ := cz3_ BK449.out; obtain ⟨hfz9_0, hfz9_1, hfz9_2⟩ := fz3_ BK449.out))
  go_ret
  exact ⟨er_, hg2_ GE448.out GE449.out⟩
 rw [if_neg c4] at H
 have c4b0 : (a0_0 == a1_0) = false := beq_eq_false_iff_ne.mpr c4
 have c4b1 : (a0_0 != a1_0) = true := bne_iff_ne.mpr c4
 obtain rfl := Option.some.inj H
 go_enter Tryd.func84, Tryd.ntmps84
 go_wp2_with (first | ((with_reducible refine gate_dst (N := 2) rfl ?_); refine bx_ 2 #[.int .i64 a0_0, .int .i64 a0_1, .int .i64 a0_2] 60 ?_; intro gb448 hg w10 hbox hb; have BK448 := Aside0.mk (hbox); have GW448 := Aside0.mk ((by rw [hg]; exact (below_size hb_) : w.heap.size ≤ gb448)); have GE448 := GW448; replace HB := Aside0.mk (below_step hb_ hb); clear hb hbox hg) | ((with_reducible refine gate_dst (N := 3) rfl ?_); refine bx_ 3 #[.int .i64 a1_0, .int .i64 a1_1, .int .i64 a1_2] 60 ?_; intro gb449 hg w11 hbox hb; have BK449 := Aside0.mk (hbox); have GW449 := Aside0.mk ((by rw [hg]; exact (below_size (hg_ GE448.out)) : w.heap.size ≤ gb449)); have GE449 := GW449; have NB448_449 := Aside0.mk ((by rw [hg]; exact ne1_ BK448.out : gb448 ≠ gb449)); have NB449_448 := Aside0.mk ((by rw [hg]; exact ne2_ BK448.out : gb449 ≠ gb448)); replace BK448 := bb_ BK448.out hb; replace HB := Aside0.mk (below_step (hg_ GE448.out) hb); clear hb hbox hg; have hnb12 := NB448_449.out; have hnc12 := NB449_448.out; obtain ⟨hcz13_0, hcz13_1, hcz13_2⟩ := cz3_ BK448.out; obtain ⟨hfz13_0, hfz13_1, hfz13_2⟩ := fz3_ BK448.out; obtain ⟨hcz14_0, hcz14_1, hcz14_2⟩ := cz3_ BK449.out; obtain ⟨hfz14_0, hfz14_1, hfz14_2⟩ := fz3_ BK449.out))
 go_ret
 exact ⟨er_, hg2_ GE448.out GE449.out⟩
def honeycombref01_Good.f (a0 : Int) (a1 : Int) : Option (Bool) := if a0 ≤ 1099511627776 then (if a0 ≥ (-1099511627776) then (if a1 ≤ 1099511627776 then (some (decide (a1 ≥ (-1099511627776)))) else (some false)) else (some false)) else (some false)
theorem honeycombref01_Good.calls (a0 : Int) (a1 : Int) (r : Bool) (w : World) (h : honeycombref01_Good.f a0 a1 = some r) :
  Calls Tryd.prog 67 #[.int .i64 a0, .int .i64 a1] w fun e w' => e = .returned (.bool r) ∧ Drawn0 w w' := by
 have H : (if a0 ≤ 1099511627776 then (if a0 ≥ (-1099511627776) then (if a1 ≤ 1099511627776 then (some (decide (a1 ≥ (-1099511627776)))) else (some false)) else (some false)) else (some false)) = some r := h
 clear h
 by_cases c3 : a0 ≤ 1099511627776
 rotate_left
 ·
  rw [if_neg c3] at H
  have c3b0 : decide (a0 ≤ 1099511627776) = false := decide_eq_false c3
  clear c3
  obtain rfl := Option.some.inj H
  go_enter Tryd.func67, Tryd.ntmps67
  go_wp2
  go_ret
  exact ⟨by first | rfl | (simp; done) | (simp [*]; done), by repeat (first | exact Drawn0.refl _ | apply Drawn0.step)⟩
 rw [if_pos c3] at H
 have c3b0 : decide (a0 ≤ 1099511627776) = true := decide_eq_true c3
 clear c3
 by_cases c4 : a0 ≥ (-1099511627776)
 rotate_left
 ·
  rw [if_neg c4] at H
  have c4b0 : decide ((-1099511627776) ≤ a0) = false := decide_eq_false c4
  clear c4
  obtain rfl := Option.some.inj H
  go_enter Tryd.func67, Tryd.ntmps67
  go_wp2
  go_ret
  exact ⟨by first | rfl | (simp; done) | (simp [*]; done), by repeat (first | exact Drawn0.refl _ | apply Drawn0.step)⟩
 rw [if_pos c4] at H
 have c4b0 : decide ((-1099511627776) ≤ a0) = true := decide_eq_true c4
 clear c4
 by_cases c5 : a1 ≤ 1099511627776
 ·
  rw [if_pos c5] at H
  have c5b0 : decide (a1 ≤ 1099511627776) = true := decide_eq_true c5
  clear c5
  obtain rfl := Option.some.inj H
  go_enter Tryd.func67, Tryd.ntmps67
  go_wp2
  go_ret
  exact ⟨by first | rfl | (simp; done) | (simp [*]; done), by repeat (first | exact Drawn0.refl _ | apply Drawn0.step)⟩
 rw [if_neg c5] at H
 have c5b0 : decide (a1 ≤ 1099511627776) = false := decide_eq_false c5
 clear c5
 obtain rfl := Option.some.inj H
 go_enter Tryd.func67, Tryd.ntmps67
 go_wp2
 go_ret
 exact ⟨by first | rfl | (simp; done) | (simp [*]; done), by repeat (first | exact Drawn0.refl _ | apply Drawn0.step)⟩
mutual
def honeycombref03_Check.j0 : Nat → Int → Bool → Int → Int → Int → Option (Int)
 | 0, _, _, _, _, _ => none
 | k + 1, x0, x5, x683000, x683001, x683002 => if x5 = true then (some 11) else (if x683002 < 0 then (honeycombref03_Check.j1 k true x683000 x683001 x683002) else (if x683002 > 1 then (honeycombref03_Check.j1 k true x683000 x683001 x683002) else (if x0 = 1 then (honeycombref03_Check.j1 k (decide (x683002 > 0)) x683000 x683001 x683002) else (honeycombref03_Check.j1 k false x683000 x683001 x683002))))
def honeycombref03_Check.j1 : Nat → Bool → Int → Int → Int → Option (Int)
 | 0, _, _, _, _ => none
 | k + 1, x12, x683000, x683001, x683002 => if x12 = true then (some 4) else ((honeycombref01_Good.f x683000 x683001).bind fun t683 => (if t683 = true then (some 0) else (some 6)))
end
def honeycombref03_Check.f (k : Nat) (a0 : Int) (a1_0 : Int) (a1_1 : Int) (a1_2 : Int) : Option (Int) := if a0 < 1 then (honeycombref03_Check.j0 k a0 true a1_0 a1_1 a1_2) else (honeycombref03_Check.j0 k a0 (decide (a0 > 3)) a1_0 a1_1 a1_2)
theorem honeycombref03_Check.calls (k : Nat) (a0 : Int) (a1_0 : Int) (a1_1 : Int) (a1_2 : Int) (r : Int) (w : World) (h : honeycombref03_Check.f k a0 a1_0 a1_1 a1_2 = some r) :
  Calls Tryd.prog 83 #[.int .i64 a0, .agg #[.int .i64 a1_0, .int .i64 a1_1, .int .i64 a1_2]] w fun e w' => e = .returned (.int .i64 r) ∧ Below w.heap.size w w' := by
 have hu60 := Tryd.underlying60
 have HB := Aside0.mk (Below.refl w.heap.size w)
 have H : (if a0 < 1 then (honeycombref03_Check.j0 k a0 true a1_0 a1_1 a1_2) else (honeycombref03_Check.j0 k a0 (decide (a0 > 3)) a1_0 a1_1 a1_2)) = some r := h
 clear h
 have HC3 := Aside0.mk H
 clear H
 go_enter Tryd.func83, Tryd.ntmps83
 go_upto_region 1 with (first | ((with_reducible refine gate_dst (N := 3) rfl ?_); refine bx_ 3 #[.int .i64 a1_0, .int .i64 a1_1, .int .i64 a1_2] 60 ?_; intro gb682 hg w4 hbox hb; have BK682 := Aside0.mk (hbox); have GW682 := Aside0.mk ((by rw [hg]; exact (below_size hb_) : w.heap.size ≤ gb682)); have GE682 := GW682; replace HB := Aside0.mk (below_step hb_ hb); clear hb hbox hg))
 (try simp only [Act.put, List.setIfInBounds_toArray, List.set_cons_zero, List.set_cons_succ])
 go_cut [5] (fun v5 wc => ∃ (kq : Nat) (x5_2 : Bool), v5 = .bool x5_2 ∧ Aside0 (honeycombref03_Check.j0 kq a0 x5_2 a1_0 a1_1 a1_2 = some r) ∧ Aside0 (kq ≤ k) ∧ Aside0 (wc.heap[gb682]? = some (.cells #[.int .i64 a1_0, .int .i64 a1_1, .int .i64 a1_2] 60 (0, 0))) ∧ Aside0 (Below w.heap.size w wc))
 case first =>
  have H := HC3.out
  clear HC3
  by_cases c5 : a0 < 1
  ·
   rw [if_pos c5] at H
   have c5b0 : decide (a0 < 1) = true := decide_eq_true c5
   clear c5
   (first | rw [c5b0] | (simp only [i64_w, i32_w]; rw [c5b0]) | skip)
   have H' := Aside0.mk H
   clear H
   go_wp2
   go_meet
   case rel => exact ⟨_, (true), rs_, H', ⟨by first | omega | exact Nat.le_refl _⟩, ⟨bk_ BK682.out⟩, ⟨by repeat (first | (with_reducible first | exact HB.out | apply ba_ | apply bn_ | apply bd_ | refine below_set ?_ GE682.out) | exact HB.out)⟩⟩
  rw [if_neg c5] at H
  have c5b0 : decide (a0 < 1) = false := decide_eq_false c5
  clear c5
  (first | rw [c5b0] | (simp only [i64_w, i32_w]; rw [c5b0]) | skip)
  have H' := Aside0.mk H
  clear H
  go_wp2
  go_meet
  case rel => exact ⟨_, (decide (a0 > 3)), rs_, H', ⟨by first | omega | exact Nat.le_refl _⟩, ⟨bk_ BK682.out⟩, ⟨by repeat (first | (with_reducible first | exact HB.out | apply ba_ | apply bn_ | apply bd_ | refine below_set ?_ GE682.out) | exact HB.out)⟩⟩
 case rest =>
  clear HC3
  try clear p2
  try clear c5
  try clear c5b0
  obtain ⟨kq, x5_2, rfl, HA, HJ2, BK682, HB⟩ := hcut
  cases kq with
  | zero => exact absurd HA.out (by simp [honeycombref03_Check.j0])
  | succ kj2 =>
   have H := HA.out
   clear HA
   simp only [honeycombref03_Check.j0] at H
   by_cases c6 : x5_2 = true
   ·
    subst c6
    have H1 : (some 11) = some r := by rw [if_pos rfl] at H; exact H
    clear H
    have H := H1
    clear H1
    obtain rfl := Option.some.inj H
    go_wp2
    go_ret
    exact ⟨er_, hg_ GE682.out⟩
   replace c6 := Bool.eq_false_iff.mpr c6
   subst c6
   have H1 : (if a1_2 < 0 then (honeycombref03_Check.j1 kj2 true a1_0 a1_1 a1_2) else (if a1_2 > 1 then (honeycombref03_Check.j1 kj2 true a1_0 a1_1 a1_2) else (if a0 = 1 then (honeycombref03_Check.j1 kj2 (decide (a1_2 > 0)) a1_0 a1_1 a1_2) else (honeycombref03_Check.j1 kj2 false a1_0 a1_1 a1_2)))) = some r := by rw [if_neg (show ¬ (false = true) by decide)] at H; exact H
   clear H
   have H := H1
   clear H1
   have HC7 := Aside0.mk H
   clear H
   go_upto_region 3 with (fail)
   go_cut [12] (fun v12 wc => ∃ (kq : Nat) (x12_6 : Bool), v12 = .bool x12_6 ∧ Aside0 (honeycombref03_Check.j1 kq x12_6 a1_0 a1_1 a1_2 = some r) ∧ Aside0 (kq ≤ kj2) ∧ Aside0 (wc.heap[gb682]? = some (.cells #[.int .i64 a1_0, .int .i64 a1_1, .int .i64 a1_2] 60 (0, 0))) ∧ Aside0 (Below w.heap.size w wc))
   case first =>
    have H := HC7.out
    clear HC7
    by_cases c8 : a1_2 < 0
    ·
     rw [if_pos c8] at H
     have c8b0 : decide (a1_2 < 0) = true := decide_eq_true c8
     clear c8
     (first | rw [c8b0] | (simp only [i64_w, i32_w]; rw [c8b0]) | skip)
     have H' := Aside0.mk H
     clear H
     obtain ⟨hcz9_0, hcz9_1, hcz9_2⟩ := cz3_ BK682.out
     obtain ⟨hfz9_0, hfz9_1, hfz9_2⟩ := fz3_ BK682.out
     go_wp2
     go_meet
     case rel => exact ⟨_, (true), rs_, H', ⟨by have := HJ2.out; first | omega | exact Nat.le_refl _⟩, ⟨bk_ BK682.out⟩, ⟨by repeat (first | (with_reducible first | exact HB.out | apply ba_ | apply bn_ | apply bd_ | refine below_set ?_ GE682.out) | exact HB.out)⟩⟩
    rw [if_neg c8] at H
    have c8b0 : decide (a1_2 < 0) = false := decide_eq_false c8
    clear c8
    (first | rw [c8b0] | (simp only [i64_w, i32_w]; rw [c8b0]) | skip)
    by_cases c10 : a1_2 > 1
    ·
     rw [if_pos c10] at H
     have c10b0 : decide (1 < a1_2) = true := decide_eq_true c10
     clear c10
     have H' := Aside0.mk H
     clear H
     obtain ⟨hcz11_0, hcz11_1, hcz11_2⟩ := cz3_ BK682.out
     obtain ⟨hfz11_0, hfz11_1, hfz11_2⟩ := fz3_ BK682.out
     go_wp2
     go_meet
     case rel => exact ⟨_, (true), rs_, H', ⟨by have := HJ2.out; first | omega | exact Nat.le_refl _⟩, ⟨bk_ BK682.out⟩, ⟨by repeat (first | (with_reducible first | exact HB.out | apply ba_ | apply bn_ | apply bd_ | refine below_set ?_ GE682.out) | exact HB.out)⟩⟩
    rw [if_neg c10] at H
    have c10b0 : decide (1 < a1_2) = false := decide_eq_false c10
    clear c10
    by_cases c12 : a0 = 1
    rotate_left
    ·
     rw [if_neg c12] at H
     have c12b0 : (a0 == 1) = false := beq_eq_false_iff_ne.mpr c12
     have c12b1 : (a0 != 1) = true := bne_iff_ne.mpr c12
     have H' := Aside0.mk H
     clear H
     obtain ⟨hcz14_0, hcz14_1, hcz14_2⟩ := cz3_ BK682.out
     obtain ⟨hfz14_0, hfz14_1, hfz14_2⟩ := fz3_ BK682.out
     go_wp2
     go_meet
     case rel => exact ⟨_, (false), rs_, H', ⟨by have := HJ2.out; first | omega | exact Nat.le_refl _⟩, ⟨bk_ BK682.out⟩, ⟨by repeat (first | (with_reducible first | exact HB.out | apply ba_ | apply bn_ | apply bd_ | refine below_set ?_ GE682.out) | exact HB.out)⟩⟩
    rw [if_pos c12] at H
    have c12b0 : (a0 == 1) = true := beq_iff_eq.mpr c12
    have c12b1 : (a0 != 1) = false := bne_eq_false_iff_eq.mpr c12
    clear c12
    have H' := Aside0.mk H
    clear H
    obtain ⟨hcz13_0, hcz13_1, hcz13_2⟩ := cz3_ BK682.out
    obtain ⟨hfz13_0, hfz13_1, hfz13_2⟩ := fz3_ BK682.out
    go_wp2
    go_meet
    case rel => exact ⟨_, (decide (a1_2 > 0)), rs_, H', ⟨by have := HJ2.out; first | omega | exact Nat.le_refl _⟩, ⟨bk_ BK682.out⟩, ⟨by repeat (first | (with_reducible first | exact HB.out | apply ba_ | apply bn_ | apply bd_ | refine below_set ?_ GE682.out) | exact HB.out)⟩⟩
   case rest =>
    clear HC7
    try clear c1
    try clear p2
    try clear c5
    try clear c5b0
    try clear c6
    try clear c8
    try clear c8b0
    try clear c10
    try clear c10b0
    try clear c12
    try clear c12b0
    try clear c12b1
    try clear hcz11_0
    try clear hcz11_1
    try clear hcz11_2
    try clear hcz13_0
    try clear hcz13_1
    try clear hcz13_2
    try clear hcz14_0
    try clear hcz14_1
    try clear hcz14_2
    try clear hcz9_0
    try clear hcz9_1
    try clear hcz9_2
    try clear hfz11_0
    try clear hfz11_1
    try clear hfz11_2
    try clear hfz13_0
    try clear hfz13_1
    try clear hfz13_2
    try clear hfz14_0
    try clear hfz14_1
    try clear hfz14_2
    try clear hfz9_0
    try clear hfz9_1
    try clear hfz9_2
    try clear p2
    obtain ⟨kq, x12_6, rfl, HA, HJ6, BK682, HB⟩ := hcut
    cases kq with
    | zero => exact absurd HA.out (by simp [honeycombref03_Check.j1])
    | succ kj6 =>
     have H := HA.out
     clear HA
     simp only [honeycombref03_Check.j1] at H
     by_cases c15 : x12_6 = true
     ·
      subst c15
      have H1 : (some 4) = some r := by rw [if_pos rfl] at H; exact H
      clear H
      have H := H1
      clear H1
      obtain rfl := Option.some.inj H
      go_wp2
      go_ret
      exact ⟨er_, hg_ GE682.out⟩
     replace c15 := Bool.eq_false_iff.mpr c15
     subst c15
     have H1 : ((honeycombref01_Good.f a1_0 a1_1).bind fun t683 => (if t683 = true then (some 0) else (some 6))) = some r := by rw [if_neg (show ¬ (false = true) by decide)] at H; exact H
     clear H
     have H := H1
     clear H1
     replace H := Option.bind_eq_some_iff.mp H
     obtain ⟨t683, A160, H⟩ := H
     replace H : (if t683 = true then (some 0) else (some 6)) = some r := H
     have A16 := Aside0.mk A160
     clear A160
     by_cases c17 : t683 = true
     ·
      subst c17
      have H1 : (some 0) = some r := by rw [if_pos rfl] at H; exact H
      clear H
      have H := H1
      clear H1
      obtain rfl := Option.some.inj H
      obtain ⟨hcz18_0, hcz18_1, hcz18_2⟩ := cz3_ BK682.out
      obtain ⟨hfz18_0, hfz18_1, hfz18_2⟩ := fz3_ BK682.out
      go_wp2_with (first | ((with_reducible refine gate_callee (f := 67) rfl ?_); refine goesL_ (some 35) rfl rfl Tryd.func67 (by kernel_rfl) rfl #[.int .i64 a1_0, .int .i64 a1_1] rfl ar_ ?_; (with_reducible refine (honeycombref01_Good.calls a1_0 a1_1 true _ A16.out).mono ?_); rintro e w' ⟨rfl, ⟨nd, rfl⟩⟩; refine ⟨_, rfl, ?_⟩))
      go_ret
      exact ⟨er_, hg_ GE682.out⟩
     replace c17 := Bool.eq_false_iff.mpr c17
     subst c17
     have H1 : (some 6) = some r := by rw [if_neg (show ¬ (false = true) by decide)] at H; exact H
     clear H
     have H := H1
     clear H1
     obtain rfl := Option.some.inj H
     obtain ⟨hcz19_0, hcz19_1, hcz19_2⟩ := cz3_ BK682.out
     obtain ⟨hfz19_0, hfz19_1, hfz19_2⟩ := fz3_ BK682.out
     go_wp2_with (first | ((with_reducible refine gate_callee (f := 67) rfl ?_); refine goesL_ (some 35) rfl rfl Tryd.func67 (by kernel_rfl) rfl #[.int .i64 a1_0, .int .i64 a1_1] rfl ar_ ?_; (with_reducible refine (honeycombref01_Good.calls a1_0 a1_1 false _ A16.out).mono ?_); rintro e w' ⟨rfl, ⟨nd, rfl⟩⟩; refine ⟨_, rfl, ?_⟩))
     go_ret
     exact ⟨er_, hg_ GE682.out⟩
end H
open H
abbrev RC := S60
theorem lGood_f (l : Int) : cell_Lattice_Good.f l = some (decide (1 ≤ l ∧ l ≤ 3)) := by
 unfold cell_Lattice_Good.f
 by_cases h1 : l ≥ 1
 ·rw [if_pos h1]
  simp [show 1 ≤ l from h1]
 ·rw [if_neg h1, decide_eq_false (by omega)]
def aheadP (a b h c d k : Int) : Prop := b < d ∨ (b = d ∧ (a < c ∨ (a = c ∧ h < k)))
instance (a b h c d k : Int) : Decidable (aheadP a b h c d k) := by unfold aheadP; infer_instance
theorem ahead_f (a b h c d k : Int) : honeycombref03_Ahead.f a b h c d k = some (decide (aheadP a b h c d k)) := by
 unfold honeycombref03_Ahead.f
 by_cases h2 : b = d
 ·by_cases h4 : a = c
  ·rw [if_pos h2, if_pos h4]
   simp [aheadP, h2, h4]
  ·rw [if_pos h2, if_neg h4]
   simp [aheadP, h2, h4]
 ·rw [if_neg h2]
  simp [aheadP, h2]
open Go.Shelf Go.Lib Go.Sort
theorem cmp_lt (x y : CL) : cmpCell x y < 0 ↔ x.f0.f1 < y.f0.f1 ∨ (x.f0.f1 = y.f0.f1 ∧ (x.f0.f0 < y.f0.f0 ∨ (x.f0.f0 = y.f0.f0 ∧ x.f1 < y.f1))) := by
 unfold cmpCell
 split
 ·rename_i h; exact ⟨fun _ => h, fun _ => by omega⟩
 ·rename_i h
  split
  ·exact ⟨fun h' => by omega, fun h' => absurd h' h⟩
  ·exact ⟨fun h' => by omega, fun h' => absurd h' h⟩
theorem cl_ext {x y : CL} (h0 : x.f0.f0 = y.f0.f0) (h1 : x.f0.f1 = y.f0.f1) (h2 : x.f1 = y.f1) : x = y := by
 obtain ⟨⟨a, b⟩, h⟩ := x
 obtain ⟨⟨c, d⟩, k⟩ := y
 simp only at h0 h1 h2
 rw [h0, h1, h2]
def ltC (x y : CL) : Prop := cmpCell x y < 0
instance (x y : CL) : Decidable (ltC x y) := by unfold ltC; infer_instance
theorem ltC_irrefl (x : CL) : ¬ ltC x x := by unfold ltC; rw [cmp_lt]; omega
theorem ltC_trans {x y z : CL} (h1 : ltC x y) (h2 : ltC y z) : ltC x z := by unfold ltC at *; rw [cmp_lt] at *; omega
theorem ltC_tri (x y : CL) : ltC x y ∨ x = y ∨ ltC y x := by
 by_cases h : x = y
 ·exact .inr (.inl h)
 ·unfold ltC
  rw [cmp_lt, cmp_lt]
  have : ¬ (x.f0.f0 = y.f0.f0 ∧ x.f0.f1 = y.f0.f1 ∧ x.f1 = y.f1) := fun e => h (cl_ext e.1 e.2.1 e.2.2)
  omega
theorem ltC_asymm {x y : CL} (h : ltC x y) : ¬ ltC y x := fun h' => ltC_irrefl x (ltC_trans h h')
theorem ltC_le_trans {x y z : CL} (h1 : ¬ ltC y x) (h2 : ltC y z) : ltC x z := by
 rcases ltC_tri x y with h | rfl | h
 ·exact ltC_trans h h2
 ·exact h2
 ·exact absurd h h1
def Srt (l : List CL) : Prop := l.Pairwise ltC
instance (l : List CL) : Decidable (Srt l) := by unfold Srt; infer_instance
theorem srt_ext : ∀ {xs ys : List CL}, Srt xs → Srt ys → (∀ x, x ∈ xs ↔ x ∈ ys) → xs = ys
 | [], [], _, _, _ => rfl
 | [], y :: ys, _, _, h => absurd ((h y).2 (by simp)) (by simp)
 | x :: xs, [], _, _, h => absurd ((h x).1 (by simp)) (by simp)
 | x :: xs, y :: ys, hx, hy, h => by
  obtain ⟨hx1, hx2⟩ := List.pairwise_cons.1 hx
  obtain ⟨hy1, hy2⟩ := List.pairwise_cons.1 hy
  have e : x = y := by
   rcases List.mem_cons.1 ((h x).1 (by simp)) with e | e
   ·exact e
   ·rcases List.mem_cons.1 ((h y).2 (by simp)) with e' | e'
    ·exact e'.symm
    ·exact absurd (hx1 y e') (ltC_asymm (hy1 x e))
  subst e
  rw [srt_ext hx2 hy2 (fun z => ?_)]
  have hz := h z
  simp only [List.mem_cons] at hz
  constructor
  ·intro hm
   rcases hz.1 (.inr hm) with e | e
   ·subst e; exact absurd (hx1 _ hm) (ltC_irrefl _)
   ·exact e
  ·intro hm
   rcases hz.2 (.inr hm) with e | e
   ·subst e; exact absurd (hy1 _ hm) (ltC_irrefl _)
   ·exact e
theorem sort_pair (l : List CL) : (sortCells l).Pairwise fun x y => ¬ ltC y x := by
 have h : (sortCells l).Pairwise fun x y => (!(ltOf cmpCell) y x) = true := by
  unfold sortCells
  apply List.pairwise_mergeSort
  ·intro a b c h1 h2
   simp only [Bool.not_eq_true', lt_cell, decide_eq_false_iff_not] at *
   omega
  ·intro a b
   simp only [Bool.or_eq_true, Bool.not_eq_true', lt_cell, decide_eq_false_iff_not]
   omega
 refine h.imp fun {a b} hab => ?_
 simp only [Bool.not_eq_true', lt_cell, decide_eq_false_iff_not] at hab
 unfold ltC
 rw [cmp_lt]
 exact hab
theorem sort_mem (l : List CL) (x : CL) : x ∈ sortCells l ↔ x ∈ l := List.mem_mergeSort
theorem comp_srt (d : Array CL) (hd : ∀ i j, i ≤ j → j < d.size → ¬ ltC d[j]! d[i]!) : ∀ m, m ≤ d.size → Srt (compactUpTo d m) ∧ ∀ x, x ∈ compactUpTo d m ↔ ∃ j, j < m ∧ d[j]! = x
 | 0, _ => by simp [compactUpTo, Srt]
 | m + 1, hm => by
  obtain ⟨hs, hx⟩ := comp_srt d hd m (by omega)
  rw [compactUpTo_succ]
  by_cases hk : keeps d m = true
  ·rw [if_pos hk]
   refine ⟨List.pairwise_append.2 ⟨hs, by simp, fun a ha b hb => ?_⟩, fun x => ?_⟩
   ·obtain rfl : b = d[m]! := by simpa using hb
    obtain ⟨j, hj, rfl⟩ := (hx a).1 ha
    have hne : d[m]! ≠ d[m - 1]! := by
     have : m = 0 ∨ d[m]! ≠ d[m - 1]! := by simpa [keeps] using hk
     rcases this with h | h
     ·omega
     ·exact h
    have h1 := hd j (m - 1) (by omega) (by omega)
    have h2 := hd (m - 1) m (by omega) (by omega)
    rcases ltC_tri d[m - 1]! d[m]! with h | h | h
    ·exact ltC_le_trans h1 h
    ·exact absurd h.symm hne
    ·exact absurd h h2
   ·rw [List.mem_append, hx]
    constructor
    ·rintro (⟨j, hj, e⟩ | h)
     ·exact ⟨j, by omega, e⟩
     ·exact ⟨m, by omega, by simpa using (Eq.symm (by simpa using h))⟩
    ·rintro ⟨j, hj, e⟩
     by_cases h : j < m
     ·exact .inl ⟨j, h, e⟩
     ·obtain rfl : j = m := by omega
      exact .inr (by simp [e])
  ·rw [if_neg hk, List.append_nil]
   refine ⟨hs, fun x => ?_⟩
   rw [hx]
   constructor
   ·rintro ⟨j, hj, e⟩
    exact ⟨j, by omega, e⟩
   ·rintro ⟨j, hj, e⟩
    by_cases h : j < m
    ·exact ⟨j, h, e⟩
    ·obtain rfl : j = m := by omega
     have : ¬ (j = 0 ∨ d[j]! ≠ d[j - 1]!) := by simpa [keeps] using hk
     have h2 : d[j]! = d[j - 1]! := by
      by_cases h' : d[j]! = d[j - 1]!
      ·exact h'
      ·exact absurd (.inr h') this
     exact ⟨j - 1, by omega, h2.symm.trans e⟩
theorem ofL_both (l : List CL) : Srt (ofL l) ∧ ∀ x, x ∈ ofL l ↔ x ∈ l := by
 have hp := sort_pair l
 have := comp_srt (sortCells l).toArray (fun i j hij hj => by
  have hj' : j < (sortCells l).length := by simpa using hj
  have e : ∀ k, k < (sortCells l).length → (sortCells l).toArray[k]! = (sortCells l)[k]! := fun k hk => by simp
  rw [e j hj', e i (by omega)]
  rcases Nat.lt_or_ge i j with h | h
  ·have := List.pairwise_iff_getElem.1 hp i j (by omega) hj' h
   rwa [getElem!_pos (sortCells l) j hj', getElem!_pos (sortCells l) i (by omega)]
  ·obtain rfl : i = j := by omega
   exact ltC_irrefl _) (sortCells l).toArray.size (Nat.le_refl _)
 refine ⟨this.1, fun x => ?_⟩
 rw [ofL, this.2, ← sort_mem l x]
 constructor
 ·rintro ⟨j, hj, e⟩
  have hj' : j < (sortCells l).length := by simpa using hj
  rw [← e]
  simp [hj']
 ·intro hm
  obtain ⟨j, hj, e⟩ := List.getElem_of_mem hm
  exact ⟨j, by simpa using hj, by simp [hj, e]⟩
theorem ofL_srt (l : List CL) : Srt (ofL l) := (ofL_both l).1
theorem ofL_mem (l : List CL) (x : CL) : x ∈ ofL l ↔ x ∈ l := (ofL_both l).2 x
theorem ofL_of_srt {l : List CL} (h : Srt l) : ofL l = l := srt_ext (ofL_srt l) h (ofL_mem l)
def lo (l : List CL) (c : CL) : Nat := (l.filter fun x => decide (ltC x c)).length
theorem cl_of {x y : CL} (h0 : x.f0.f0 = y.f0.f0) (h1 : x.f0.f1 = y.f0.f1) (h2 : x.f1 = y.f1) : x = y := by
 obtain ⟨⟨a, b⟩, h⟩ := x
 obtain ⟨⟨c, d⟩, k⟩ := y
 simp only at h0 h1 h2
 rw [h0, h1, h2]
def nxtV (b0 b1 s0 s1 : Int) (half : Int) (live : Bool) (n : Int) : Bool := if half < 0 ∨ 1 < half ∨ n < 0 ∨ 63 < n then false else nxB (if live = true then (if half = 0 then s0 else s1) else (if half = 0 then b0 else b1)) n
abbrev Rul := Int → Bool → Int → Bool
def sxA : Nat → Int
 | 0 => 1 | 1 => 0 | 2 => -1 | 3 => -1 | 4 => 0 | _ => 1
def sxB : Nat → Int
 | 0 => 0 | 1 => 1 | 2 => 1 | 3 => 0 | 4 => -1 | _ => -1
def hexQ (c : CL) (k : Nat) : CL := mk (c.f0.f0 + sxA k) (c.f0.f1 + sxB k) 0
def besL (l : Int) (c : CL) : List CL := (offs l c.f1).map (sh c.f0.f0 c.f0.f1)
theorem offs_le0 (l h : Int) : (offs l h).length ≤ 12 := by
 unfold offs
 split
 ·decide
 ·split
  ·split <;> decide
  ·split <;> decide
def hOK (l h : Int) : Prop := (h = 0 ∨ h = 1) ∧ (l = 1 → h = 0)
theorem offs_hOK (l h : Int) (hl : 1 ≤ l ∧ l ≤ 3) : ∀ d ∈ offs l h, hOK l d.f1 := by
 obtain ⟨h1, h2⟩ := hl
 have : l = 1 ∨ l = 2 ∨ l = 3 := by omega
 intro d hd
 unfold offs at hd
 rcases this with rfl | rfl | rfl
 ·rw [if_pos rfl] at hd
  exact (by decide : ∀ d ∈ [mk 0 (-1) 0, mk 1 (-1) 0, mk (-1) 0 0, mk 1 0 0, mk (-1) 1 0, mk 0 1 0], (d.f1 = 0 ∨ d.f1 = 1) ∧ ((1 : Int) = 1 → d.f1 = 0)) d hd
 ·simp only [show ¬ ((2 : Int) = 1) by omega, ↓reduceIte] at hd
  split at hd
  ·exact (by decide : ∀ d ∈ [mk 0 (-1) 1, mk (-1) 0 1, mk 0 0 1], (d.f1 = 0 ∨ d.f1 = 1) ∧ ((2 : Int) = 1 → d.f1 = 0)) d hd
  ·exact (by decide : ∀ d ∈ [mk 0 0 0, mk 1 0 0, mk 0 1 0], (d.f1 = 0 ∨ d.f1 = 1) ∧ ((2 : Int) = 1 → d.f1 = 0)) d hd
 ·simp only [show ¬ ((3 : Int) = 1) by omega, show ¬ ((3 : Int) = 2) by omega, ↓reduceIte] at hd
  split at hd
  ·exact (by decide : ∀ d ∈ [mk (-1) (-1) 1, mk 0 (-1) 0, mk 0 (-1) 1, mk 1 (-1) 0, mk 1 (-1) 1, mk (-1) 0 0, mk (-1) 0 1, mk 0 0 1, mk 1 0 0, mk (-1) 1 0, mk (-1) 1 1, mk 0 1 0], (d.f1 = 0 ∨ d.f1 = 1) ∧ ((3 : Int) = 1 → d.f1 = 0)) d hd
  ·exact (by decide : ∀ d ∈ [mk 0 (-1) 1, mk 1 (-1) 0, mk 1 (-1) 1, mk (-1) 0 1, mk 0 0 0, mk 1 0 0, mk 1 0 1, mk (-1) 1 0, mk (-1) 1 1, mk 0 1 0, mk 0 1 1, mk 1 1 0], (d.f1 = 0 ∨ d.f1 = 1) ∧ ((3 : Int) = 1 → d.f1 = 0)) d hd
theorem bes_hOK (l : Int) (c : CL) (hl : 1 ≤ l ∧ l ≤ 3) : ∀ d ∈ besL l c, hOK l d.f1 := by
 intro d hd
 obtain ⟨e, he, rfl⟩ := List.mem_map.1 hd
 exact offs_hOK l _ hl e he
theorem mut_pure (l r : Int) (hl : 1 ≤ l ∧ l ≤ 3) (hr : hOK l r) : (∀ y ∈ offs l r, (-1 ≤ y.f0.f0 ∧ y.f0.f0 ≤ 1 ∧ -1 ≤ y.f0.f1 ∧ y.f0.f1 ≤ 1) ∧ mk (-y.f0.f0) (-y.f0.f1) r ∈ offs l y.f1) ∧ (offs l r).Nodup := by
 obtain ⟨hr, h1⟩ := hr
 have : l = 1 ∨ l = 2 ∨ l = 3 := by omega
 rcases this with rfl | rfl | rfl
 ·obtain rfl := h1 rfl
  exact ⟨by decide, by decide⟩
 ·rcases hr with rfl | rfl <;> exact ⟨by decide, by decide⟩
 ·rcases hr with rfl | rfl <;> exact ⟨by decide, by decide⟩
theorem bes_near (l : Int) (c d : CL) (hl : 1 ≤ l ∧ l ≤ 3) (hc : hOK l c.f1) (h : d ∈ besL l c) : c.f0.f0 - 1 ≤ d.f0.f0 ∧ d.f0.f0 ≤ c.f0.f0 + 1 ∧ c.f0.f1 - 1 ≤ d.f0.f1 ∧ d.f0.f1 ≤ c.f0.f1 + 1 := by
 obtain ⟨e, he, rfl⟩ := List.mem_map.1 h
 have := ((mut_pure l c.f1 hl hc).1 e he).1
 simp only [sh]
 omega
theorem bes_mut1 (l : Int) (c d : CL) (hl : 1 ≤ l ∧ l ≤ 3) (hc : hOK l c.f1) (h : d ∈ besL l c) : c ∈ besL l d := by
 obtain ⟨e, he, rfl⟩ := List.mem_map.1 h
 have h2 := ((mut_pure l c.f1 hl hc).1 e he).2
 refine List.mem_map.2 ⟨_, h2, ?_⟩
 refine cl_of ?_ ?_ ?_
 ·simp only [sh, mk]; omega
 ·simp only [sh, mk]; omega
 ·rfl
theorem sh_inj' (a b : Int) {x y : CL} (h : sh a b x = sh a b y) : x = y := by
 have h0 := congrArg (fun z : CL => z.f0.f0) h
 have h1 := congrArg (fun z : CL => z.f0.f1) h
 have h2 := congrArg (fun z : CL => z.f1) h
 simp only [sh] at h0 h1 h2
 exact cl_of (by omega) (by omega) h2
theorem nd_map {α β : Type} (f : α → β) (hf : ∀ x y, f x = f y → x = y) : ∀ xs : List α, xs.Nodup → (xs.map f).Nodup
 | [], _ => List.nodup_nil
 | x :: xs, h => by
  rw [List.nodup_cons] at h
  rw [List.map_cons, List.nodup_cons]
  refine ⟨fun hm => ?_, nd_map f hf xs h.2⟩
  obtain ⟨y, hy, e⟩ := List.mem_map.1 hm
  exact h.1 (hf _ _ e ▸ hy)
theorem bes_nodup (l : Int) (c : CL) (hl : 1 ≤ l ∧ l ≤ 3) (hc : hOK l c.f1) : (besL l c).Nodup := nd_map _ (fun _ _ => sh_inj' _ _) _ (mut_pure l c.f1 hl hc).2
theorem both_len {α : Type} [DecidableEq α] (a b : List α) (ha : a.Nodup) (hb : b.Nodup) : (a.filter fun x => decide (x ∈ b)).length = (b.filter fun x => decide (x ∈ a)).length := by
 have h : (a.filter fun x => decide (x ∈ b)).Perm (b.filter fun x => decide (x ∈ a)) := by
  rw [List.perm_ext_iff_of_nodup (List.Pairwise.filter _ ha) (List.Pairwise.filter _ hb)]
  intro x
  simp [and_comm]
 exact h.length_eq
def bitOf (x : Int) (j : Nat) : Bool := x.toNat.testBit j
theorem bit_ext0 : ∀ (x y : Fin 64), (∀ j : Fin 6, x.1.testBit j.1 = y.1.testBit j.1) → x = y := by decide +kernel
theorem bit_ext (x y : Int) (h0 : 0 ≤ x) (h1 : x ≤ 63) (h2 : 0 ≤ y) (h3 : y ≤ 63) (h : ∀ j, j < 6 → bitOf x j = bitOf y j) : x = y := by
 have := bit_ext0 ⟨x.toNat, by omega⟩ ⟨y.toNat, by omega⟩ (fun j => h j.1 j.2)
 have := congrArg Fin.val this
 simp only at this
 omega
def b2 (p : Bool) (n : Int) : Int := if p = true then n else 0
def hexN (s : List CL) (q : CL) : Int := b2 (decide (hexQ q 0 ∈ s)) 1 + b2 (decide (hexQ q 1 ∈ s)) 2 + b2 (decide (hexQ q 2 ∈ s)) 4 + b2 (decide (hexQ q 3 ∈ s)) 8 + b2 (decide (hexQ q 4 ∈ s)) 16 + b2 (decide (hexQ q 5 ∈ s)) 32
theorem six_bits : ∀ (p0 p1 p2 p3 p4 p5 : Bool), (0 ≤ b2 p0 1 + b2 p1 2 + b2 p2 4 + b2 p3 8 + b2 p4 16 + b2 p5 32 ∧ b2 p0 1 + b2 p1 2 + b2 p2 4 + b2 p3 8 + b2 p4 16 + b2 p5 32 ≤ 63) ∧
    bitOf (b2 p0 1 + b2 p1 2 + b2 p2 4 + b2 p3 8 + b2 p4 16 + b2 p5 32) 0 = p0 ∧ bitOf (b2 p0 1 + b2 p1 2 + b2 p2 4 + b2 p3 8 + b2 p4 16 + b2 p5 32) 1 = p1 ∧ bitOf (b2 p0 1 + b2 p1 2 + b2 p2 4 + b2 p3 8 + b2 p4 16 + b2 p5 32) 2 = p2 ∧
    bitOf (b2 p0 1 + b2 p1 2 + b2 p2 4 + b2 p3 8 + b2 p4 16 + b2 p5 32) 3 = p3 ∧ bitOf (b2 p0 1 + b2 p1 2 + b2 p2 4 + b2 p3 8 + b2 p4 16 + b2 p5 32) 4 = p4 ∧ bitOf (b2 p0 1 + b2 p1 2 + b2 p2 4 + b2 p3 8 + b2 p4 16 + b2 p5 32) 5 = p5 := by decide +kernel
theorem hexN_bd (s : List CL) (q : CL) : 0 ≤ hexN s q ∧ hexN s q ≤ 63 := (six_bits _ _ _ _ _ _).1
theorem hexN_bit (s : List CL) (q : CL) (j : Nat) (hj : j < 6) : bitOf (hexN s q) j = decide (hexQ q j ∈ s) := by
 obtain ⟨_, h0, h1, h2, h3, h4, h5⟩ := six_bits (decide (hexQ q 0 ∈ s)) (decide (hexQ q 1 ∈ s)) (decide (hexQ q 2 ∈ s)) (decide (hexQ q 3 ∈ s)) (decide (hexQ q 4 ∈ s)) (decide (hexQ q 5 ∈ s))
 have : j = 0 ∨ j = 1 ∨ j = 2 ∨ j = 3 ∨ j = 4 ∨ j = 5 := by omega
 rcases this with rfl | rfl | rfl | rfl | rfl | rfl
 ·exact h0
 ·exact h1
 ·exact h2
 ·exact h3
 ·exact h4
 ·exact h5
def ngh (l : Int) (s : List CL) (q : CL) : Int := if l = 1 then hexN s q else (((besL l q).filter fun d => decide (d ∈ s)).length : Int)
theorem hexQ_bes (q : CL) (j : Nat) (hj : j < 6) : hexQ q j ∈ besL 1 q := by
 refine List.mem_map.2 ⟨mk (sxA j) (sxB j) 0, ?_, rfl⟩
 have : ∀ j : Fin 6, mk (sxA j.1) (sxB j.1) 0 ∈ offs 1 q.f1 := by
  unfold offs
  rw [if_pos rfl]
  decide
 exact this ⟨j, hj⟩
theorem ngh_congr (l : Int) (s s' : List CL) (q : CL) (h : ∀ d ∈ besL l q, d ∈ s ↔ d ∈ s') : ngh l s q = ngh l s' q := by
 unfold ngh
 by_cases h1 : l = 1
 ·subst h1
  rw [if_pos rfl, if_pos rfl]
  have e : ∀ j, j < 6 → decide (hexQ q j ∈ s) = decide (hexQ q j ∈ s') := fun j hj => by rw [decide_eq_decide]; exact h _ (hexQ_bes q j hj)
  unfold hexN
  rw [e 0 (by omega), e 1 (by omega), e 2 (by omega), e 3 (by omega), e 4 (by omega), e 5 (by omega)]
 ·rw [if_neg h1, if_neg h1]
  congr 2
  exact List.filter_congr fun d hd => by rw [decide_eq_decide]; exact h d hd
theorem ngh_nil (l : Int) (q : CL) : ngh l [] q = 0 := by
 unfold ngh
 split
 ·simp [hexN, b2]
 ·simp
theorem ngh_ne (l : Int) (s : List CL) (q : CL) (h : ¬ ngh l s q = 0) : ∃ d ∈ besL l q, d ∈ s := by
 apply Classical.byContradiction
 intro hn
 refine h ((ngh_congr l s [] q fun d hd => ?_).trans (ngh_nil l q))
 exact ⟨fun hm => absurd ⟨d, hd, hm⟩ hn, fun hm => by cases hm⟩
def nextL (nx : Rul) (l : Int) (s : List CL) : List CL := ofL ((s ++ s.flatMap (besL l)).filter fun x => nx x.f1 (decide (x ∈ s)) (ngh l s x))
theorem next_mem (nx : Rul) (l : Int) (hl : 1 ≤ l ∧ l ≤ 3) (h0 : ∀ h, nx h false 0 = false) (s : List CL) (hn : s.Nodup) (hs : ∀ c ∈ s, hOK l c.f1) (x : CL) :
    x ∈ nextL nx l s ↔ hOK l x.f1 ∧ nx x.f1 (decide (x ∈ s)) (ngh l s x) = true := by
 unfold nextL
 rw [ofL_mem, List.mem_filter, List.mem_append, List.mem_flatMap]
 constructor
 ·rintro ⟨h | ⟨c, hc, h⟩, hx⟩
  ·exact ⟨hs x h, hx⟩
  ·exact ⟨bes_hOK l c hl x h, hx⟩
 ·rintro ⟨hok, hx⟩
  refine ⟨?_, hx⟩
  by_cases hxs : x ∈ s
  ·exact .inl hxs
  ·rw [decide_eq_false hxs] at hx
   obtain ⟨d, hd, hds⟩ := ngh_ne l s x (fun e => by rw [e, h0] at hx; cases hx)
   exact .inr ⟨d, hds, bes_mut1 l x d hl hok hd⟩
theorem next_near (nx : Rul) (l : Int) (hl : 1 ≤ l ∧ l ≤ 3) (h0 : ∀ h, nx h false 0 = false) (s : List CL) (hn : s.Nodup) (hs : ∀ c ∈ s, hOK l c.f1) (x : CL) (hx : x ∈ nextL nx l s) :
    ∃ c ∈ s, c.f0.f0 - 1 ≤ x.f0.f0 ∧ x.f0.f0 ≤ c.f0.f0 + 1 ∧ c.f0.f1 - 1 ≤ x.f0.f1 ∧ x.f0.f1 ≤ c.f0.f1 + 1 := by
 obtain ⟨hok, h⟩ := (next_mem nx l hl h0 s hn hs x).1 hx
 by_cases hxs : x ∈ s
 ·exact ⟨x, hxs, by omega, by omega, by omega, by omega⟩
 ·rw [decide_eq_false hxs] at h
  obtain ⟨d, hd, hds⟩ := ngh_ne l s x (fun e => by rw [e, h0] at h; cases h)
  have := bes_near l x d hl hok hd
  exact ⟨d, hds, by omega, by omega, by omega, by omega⟩
theorem next_srt (nx : Rul) (l : Int) (s : List CL) : Srt (nextL nx l s) := ofL_srt _
theorem srt_nodup {s : List CL} (h : Srt s) : s.Nodup := h.imp fun {a b} hab e => by subst e; exact ltC_irrefl _ hab
theorem next_halves (nx : Rul) (l : Int) (hl : 1 ≤ l ∧ l ≤ 3) (h0 : ∀ h, nx h false 0 = false) (s : List CL) (hn : s.Nodup) (hs : ∀ c ∈ s, hOK l c.f1) : ∀ c ∈ nextL nx l s, hOK l c.f1 := fun c hc => ((next_mem nx l hl h0 s hn hs c).1 hc).1
theorem app1k {P : Program} {ops : Array Oper} {rest : List Oper} {o : Oper} {a : Act} {Q : Exit → Act → World → Prop} (ok : Nat → Prop) {α : Type} (d : Kd α) (base : Nat) (s x : Operand) (t e : TypeId) (z : Value) (bytes : Nat) {W : World} (v : Value) (xs : List α) (p : α) (cs : List Value) (B : Nat)
    (hgd : o.guard = none) (ho : o.op = .call { callee := .builtin .append, args := #[s, x], argTypes := #[t, t] })
    (ht : P.underlying t = some (.slice e)) (hinfo : (P.info? e).map (fun i => (i.zero, i.size, i.bytes)) = some (some z, d.sz, bytes)) (hz : z.cells.size = d.sz) (hs0 : 0 < d.sz) (hb0 : 0 < bytes)
    (hs : a.eval s = v) (hB : W.heap.size = B) (hx : a.eval x = .slice (some ⟨B, 0, none⟩) 1 1) (hp : d.M W base (fun _ => False) p cs)
    (hfresh : ∀ k, W.heap.size ≤ k → ok k) (HO : d.R e W base ok v xs) (hbase : base ≤ W.heap.size) (hl : (xs.length + 1) * bytes ≤ 140737488355328)
    (h : ∀ v1 w1, d.R e w1 base ok v1 (xs ++ [p]) → Below base W w1 → (∀ k, k < W.heap.size → ¬ ok k → w1.heap[k]? = W.heap[k]?) → wpList P ops Q rest (a.put o.dst v1) w1) :
    wpList P ops Q (o :: rest) a (W.alloc (.cells cs.toArray e)) := by
 subst hB
 exact Kd.R_append d base hgd s x t e z bytes ho ht hinfo hz hs0 hb0 v xs p cs ok (fun _ => False) hs hx hp (fun _ h => h.elim) hfresh HO (Below.refl _ _) hbase hl (fun v1 w1 h1 h2 h3 _ => h v1 w1 h1 h2 (fun k hk hnk => h3.block k hk (fun e => hnk (HO.1 k e.symm))))
def okC (l : Int) (c : CL) : Bool := (checkR l c.f0.f0 c.f0.f1 c.f1 == none) && (besL l c).all fun d => decide (goodP d.f0.f0 d.f0.f1)
def XCheck.f (l a b h : Int) : Option (Option Int) := some (checkR l a b h)
theorem XCheck.calls (a0 : Int) (a1_0 : Int) (a1_1 : Int) (a1_2 : Int) (r : Option Int) (w : World) (h : XCheck.f a0 a1_0 a1_1 a1_2 = some r) :
    Calls Tryd.prog 81 #[.int .i64 a0, .agg #[.int .i64 a1_0, .int .i64 a1_1, .int .i64 a1_2]] w fun e w' => e = .returned (errW r) ∧ Below w.heap.size w w' := by
 obtain rfl := Option.some.inj h
 exact check_any a0 a1_0 a1_1 a1_2 w
def XCompare.f (a b h c d k : Int) : Option Int := some (cmpCell ⟨⟨a, b⟩, h⟩ ⟨⟨c, d⟩, k⟩)
theorem XCompare.calls (a0_0 : Int) (a0_1 : Int) (a0_2 : Int) (a1_0 : Int) (a1_1 : Int) (a1_2 : Int) (r : Int) (w : World) (h : XCompare.f a0_0 a0_1 a0_2 a1_0 a1_1 a1_2 = some r) :
    Calls Tryd.prog 75 #[.agg #[.int .i64 a0_0, .int .i64 a0_1, .int .i64 a0_2], .agg #[.int .i64 a1_0, .int .i64 a1_1, .int .i64 a1_2]] w fun e w' => e = .returned (.int .i64 r) ∧ Below w.heap.size w w' := by
 obtain rfl := Option.some.inj h
 simp only [cmpCell]
 go_enter Tryd.func75, Tryd.ntmps75
 go_wp2
 all_goals go_ret
 all_goals exact ⟨rfl, (by with_reducible repeat (first | apply below_alloc | apply pw_below_drewN | apply below_drew | refine bset ?_ _ _ (by omega) _ | exact Below.refl _ _))⟩
abbrev SB (B : Nat) (w0 : World) (ad : Addr) (g : Nat) (x y : CL) (W : World) : Prop :=
 W.cell? ad = some (.int .i64 x.f0.f0) ∧ W.cell? ⟨ad.block, ad.off + 1, none⟩ = some (.int .i64 x.f0.f1) ∧ W.cell? ⟨ad.block, ad.off + 2, none⟩ = some (.int .i64 x.f1) ∧ W.cell? ⟨g, 0, none⟩ = some (.int .i64 y.f0.f0) ∧ W.cell? ⟨g, 1, none⟩ = some (.int .i64 y.f0.f1) ∧ W.cell? ⟨g, 2, none⟩ = some (.int .i64 y.f1) ∧ Below B w0 W ∧ B ≤ W.heap.size
theorem SB.below {B : Nat} {w0 : World} {ad : Addr} {g : Nat} {x y : CL} {W w1 : World} (h : SB B w0 ad g x y W) (hb : Below W.heap.size W w1) : SB B w0 ad g x y w1 := by
 obtain ⟨h0, h1, h2, h3, h4, h5, h6, h7⟩ := h
 exact ⟨pw_cell_below hb h0, pw_cell_below hb h1, pw_cell_below hb h2, pw_cell_below hb h3, pw_cell_below hb h4, pw_cell_below hb h5, h6.trans (hb.mono h7), Nat.le_trans h7 hb.size⟩
namespace H
attribute [local go_sem] max2_int min2_int max_two min_two max_three min_three max_four min_four
def set_Set_Check.l0 : Nat → List (S65) → Int → List (S65) → Int → Int → Option (Option Int)
 | 0, _, _, _, _, _ => none
 | k + 1, x0, x1, x12, x13, x14 => if x14 < x13 then (if 0 ≤ x14 then (if x14 < (x12.length : Int) then ((XCheck.f x1 ((rd_T65 x12 x14).f0.f0) ((rd_T65 x12 x14).f0.f1) ((rd_T65 x12 x14).f1)).bind fun t266 => (if t266.isNone = true then (if x14 > 0 then (if 0 ≤ (wrap64 (x14 - 1)) then (if (wrap64 (x14 - 1)) < (x0.length : Int) then ((XCompare.f ((rd_T65 x0 (wrap64 (x14 - 1))).f0.f0) ((rd_T65 x0 (wrap64 (x14 - 1))).f0.f1) ((rd_T65 x0 (wrap64 (x14 - 1))).f1) ((rd_T65 x12 x14).f0.f0) ((rd_T65 x12 x14).f0.f1) ((rd_T65 x12 x14).f1)).bind fun t269 => (if t269 ≥ 0 then (none) else (set_Set_Check.l0 k x0 x1 x12 x13 (wrap64 (x14 + 1))))) else (none)) else (none)) else (set_Set_Check.l0 k x0 x1 x12 x13 (wrap64 (x14 + 1)))) else (none))) else (none)) else (none)) else (some none)
def set_Set_Check.f (k : Nat) (l0 : List (S65)) (a1 : Int) : Option (Option Int) := (cell_Lattice_Good.f a1).bind fun t263 => (if t263 = true then (set_Set_Check.l0 k l0 a1 l0 (l0.length : Int) 0) else (none))
def set_Set_Check.T9 : Bool × List (List Nat × List Nat) := (true, [([], []), ([0], [0]), ([1], [1]), ([2], [2]), ([2], [2]), ([4, 2], [2, 4]), ([3, 5, 2], [2, 3, 5]), ([6, 2], [2, 6]), ([2], [2]), ([7, 8, 2, 2], [2, 7, 8]), ([9, 2], [2, 9]), ([2, 10], [2, 10])])
def set_Set_Check.B9 : List Nat := [0, 1, 3, 7, 7, 23, 63, 127, 7, 511, 1023, 2047]
theorem set_Set_Check.tab9 : rtab .any (opsOf Tryd.f43 9) = set_Set_Check.T9 := by kernel_rfl
theorem set_Set_Check.bits9 : waitsOk set_Set_Check.T9.2 set_Set_Check.B9 = true := by kernel_rfl
theorem set_Set_Check.calls (k : Nat) (A0 : Option Addr) (c0 : Nat) (l0 : List (S65)) (a1 : Int) (r : Option Int) (w : World) (hr0 : Kd.C k65 w A0 l0.length l0) (hc0 : l0.length ≤ c0) (h : set_Set_Check.f k l0 a1 = some r) :
  Calls Tryd.prog 43 #[.slice A0 l0.length c0, .int .i64 a1] w fun e w' => e = .returned (errW r) ∧ Below w.heap.size w w' := by
 have hu65 := Tryd.underlying65
 have hu39 := Tryd.underlying39
 have HR0 := Aside0.mk hr0
 have HC0 := Aside0.mk hc0
 clear hr0 hc0
 have HB := Aside0.mk (Below.refl w.heap.size w)
 have H : ((cell_Lattice_Good.f a1).bind fun t263 => (if t263 = true then (set_Set_Check.l0 k l0 a1 l0 (l0.length : Int) 0) else (none))) = some r := h
 clear h
 replace H := Option.bind_eq_some_iff.mp H
 obtain ⟨t263, A30, H⟩ := H
 replace H : (if t263 = true then (set_Set_Check.l0 k l0 a1 l0 (l0.length : Int) 0) else (none)) = some r := H
 have A3 := Aside0.mk A30
 clear A30
 by_cases c4 : t263 = true
 rotate_left
 ·
  replace c4 := Bool.eq_false_iff.mpr c4
  subst c4
  have H1 : (none) = some r := by rw [if_neg (show ¬ (false = true) by decide)] at H; exact H
  clear H
  have H := H1
  clear H1
  exact absurd H (by simp)
 subst c4
 have H1 : (set_Set_Check.l0 k l0 a1 l0 (l0.length : Int) 0) = some r := by rw [if_pos rfl] at H; exact H
 clear H
 have H := H1
 clear H1
 have H' := Aside0.mk H
 clear H
 go_enter Tryd.func43, Tryd.ntmps43
 go_wp2_with (first | ((with_reducible refine gate_callee (f := 80) rfl ?_); refine goesL_ (some 9) rfl rfl Tryd.func80 (by kernel_rfl) rfl #[.int .i64 a1] rfl ar_ ?_; (with_reducible refine (cell_Lattice_Good.calls a1 true _ A3.out).mono ?_); rintro e w' ⟨rfl, ⟨nd, rfl⟩⟩; refine ⟨_, rfl, ?_⟩))
 go_loopg [14] k (fun kq v14 w' => ∃ (x14_1 : Int), v14 = .int .i64 x14_1 ∧ Aside0 (set_Set_Check.l0 kq l0 a1 l0 (l0.length : Int) x14_1 = some r) ∧ Aside0 (kq ≤ k) ∧ Aside0 (Below w.heap.size w w'))
 case atStart => exact ⟨(0), rs_, H', ⟨Nat.le_refl _⟩, ⟨by repeat (first | (with_reducible first | exact HB.out | apply ba_ | apply bn_ | apply bd_) | exact HB.out)⟩⟩
 case round =>
  clear H'
  try clear p2
  try clear c4
  obtain ⟨x14_1, rfl, HA, HK1, HB⟩ := hrel
  cases gk with
  | zero => exact absurd HA.out (by simp [set_Set_Check.l0])
  | succ k1 =>
   have H := HA.out
   clear HA
   simp only [set_Set_Check.l0] at H
   by_cases c5 : x14_1 < (l0.length : Int)
   rotate_left
   ·
    rw [if_neg c5] at H
    have c5b0 : decide (x14_1 < (l0.length : Int)) = false := decide_eq_false c5
    clear c5
    obtain rfl := Option.some.inj H
    go_wp2
    go_ret
    exact ⟨er_, hb_⟩
   rw [if_pos c5] at H
   have c5b0 : decide (x14_1 < (l0.length : Int)) = true := decide_eq_true c5
   clear c5
   by_cases c6 : 0 ≤ x14_1
   rotate_left
   ·
    rw [if_neg c6] at H
    exact absurd H (by simp)
   rw [if_pos c6] at H
   have c6b0 : decide (0 ≤ x14_1) = true := decide_eq_true c6
   clear c6
   by_cases c7 : x14_1 < (l0.length : Int)
   rotate_left
   ·
    rw [if_neg c7] at H
    exact absurd H (by simp)
   rw [if_pos c7] at H
   have c7b0 : decide (x14_1 < (l0.length : Int)) = true := decide_eq_true c7
   clear c7
   replace H := Option.bind_eq_some_iff.mp H
   obtain ⟨t266, A80, H⟩ := H
   replace H : (if t266.isNone = true then (if x14_1 > 0 then (if 0 ≤ (wrap64 (x14_1 - 1)) then (if (wrap64 (x14_1 - 1)) < (l0.length : Int) then ((XCompare.f ((rd_T65 l0 (wrap64 (x14_1 - 1))).f0.f0) ((rd_T65 l0 (wrap64 (x14_1 - 1))).f0.f1) ((rd_T65 l0 (wrap64 (x14_1 - 1))).f1) ((rd_T65 l0 x14_1).f0.f0) ((rd_T65 l0 x14_1).f0.f1) ((rd_T65 l0 x14_1).f1)).bind fun t269 => (if t269 ≥ 0 then (none) else (set_Set_Check.l0 k1 l0 a1 l0 (l0.length : Int) (wrap64 (x14_1 + 1))))) else (none)) else (none)) else (set_Set_Check.l0 k1 l0 a1 l0 (l0.length : Int) (wrap64 (x14_1 + 1)))) else (none)) = some r := H
   have A8 := Aside0.mk A80
   clear A80
   rcases t266 with _ | q267
   rotate_left
   ·
    have H1 : (none) = some r := by rw [if_neg (show ¬ (some q267).isNone = true by simp)] at H; exact H
    clear H
    have H := H1
    clear H1
    try simp only [errW_none, errW_some]
    exact absurd H (by simp)
   have H1 : (if x14_1 > 0 then (if 0 ≤ (wrap64 (x14_1 - 1)) then (if (wrap64 (x14_1 - 1)) < (l0.length : Int) then ((XCompare.f ((rd_T65 l0 (wrap64 (x14_1 - 1))).f0.f0) ((rd_T65 l0 (wrap64 (x14_1 - 1))).f0.f1) ((rd_T65 l0 (wrap64 (x14_1 - 1))).f1) ((rd_T65 l0 x14_1).f0.f0) ((rd_T65 l0 x14_1).f0.f1) ((rd_T65 l0 x14_1).f1)).bind fun t269 => (if t269 ≥ 0 then (none) else (set_Set_Check.l0 k1 l0 a1 l0 (l0.length : Int) (wrap64 (x14_1 + 1))))) else (none)) else (none)) else (set_Set_Check.l0 k1 l0 a1 l0 (l0.length : Int) (wrap64 (x14_1 + 1)))) = some r := by rw [if_pos (show (none : Option Int).isNone = true by rfl)] at H; exact H
   clear H
   have H := H1
   clear H1
   try simp only [errW_none, errW_some]
   by_cases c9 : x14_1 > 0
   rotate_left
   ·
    rw [if_neg c9] at H
    have c9b0 : decide (0 < x14_1) = false := decide_eq_false c9
    clear c9
    have H' := Aside0.mk H
    clear H
    have p264 : 0 ≤ (x14_1 : Int) := of_decide_eq_true as_
    have q264 : x14_1 < (l0.length : Int) := of_decide_eq_true as_
    obtain ⟨ad264, e264, hx264_0, hx264_1, hx264_2⟩ := at_T65 HR0.out x14_1 p264 q264
    cases e264
    try replace hx264_0 := (HB.out.cell (World.block_lt_of_cell? w _ hx264_0)).trans hx264_0
    try replace hx264_1 := (HB.out.cell (World.block_lt_of_cell? w _ hx264_1)).trans hx264_1
    try replace hx264_2 := (HB.out.cell (World.block_lt_of_cell? w _ hx264_2)).trans hx264_2
    replace p264 := eq_true p264
    replace q264 := eq_true q264
    try go_wp2_with (first | ((with_reducible refine gate_dst (N := 6) rfl ?_); refine bx_ 6 #[.int .i64 0, .int .i64 0, .int .i64 0] 65 ?_; intro gb265 hg w20 hbox hb; have BK265 := Aside0.mk (hbox); have GW265 := Aside0.mk ((by rw [hg]; exact (below_size hb_) : w.heap.size ≤ gb265)); have GE265 := GW265; replace HB := Aside0.mk (below_step hb_ hb); clear hb hbox hg; obtain ⟨hcz21_0, hcz21_1, hcz21_2⟩ := cz3_ BK265.out; obtain ⟨hfz21_0, hfz21_1, hfz21_2⟩ := fz3_ BK265.out) | ((with_reducible refine gate_callee (f := 81) rfl ?_); refine goesL_ (some 21) rfl rfl Tryd.func81 (by kernel_rfl) rfl #[.int .i64 a1, .agg #[.int .i64 ((rd_T65 l0 x14_1).f0.f0), .int .i64 ((rd_T65 l0 x14_1).f0.f1), .int .i64 ((rd_T65 l0 x14_1).f1)]] rfl ar_ ?_; (with_reducible refine (XCheck.calls a1 ((rd_T65 l0 x14_1).f0.f0) ((rd_T65 l0 x14_1).f0.f1) ((rd_T65 l0 x14_1).f1) none _ A8.out).mono ?_); rintro e w22 ⟨rfl, hb⟩; refine ⟨_, rfl, ?_⟩; replace BK265 := Aside0.mk (blk_below (g := gb265) (o := .cells #[.int .i64 ((rd_T65 l0 x14_1).f0.f0), .int .i64 ((rd_T65 l0 x14_1).f0.f1), .int .i64 ((rd_T65 l0 x14_1).f1)] 65 (0, 0)) (by (with_reducible repeat (first | apply bN_ | apply bD_ | apply bA_)); refine blk_put (cs := #[.int .i64 ((rd_T65 l0 x14_1).f0.f0), .int .i64 ((rd_T65 l0 x14_1).f0.f1), .int .i64 0]) ?_ 2 _ rfl; (with_reducible repeat (first | apply bN_ | apply bD_ | apply bA_)); refine blk_put (cs := #[.int .i64 ((rd_T65 l0 x14_1).f0.f0), .int .i64 0, .int .i64 0]) ?_ 1 _ rfl; (with_reducible repeat (first | apply bN_ | apply bD_ | apply bA_)); refine blk_put (cs := #[.int .i64 0, .int .i64 0, .int .i64 0]) ?_ 0 _ rfl; (with_reducible repeat (first | apply bN_ | apply bD_ | apply bA_)); exact BK265.out) hb); replace HB := Aside0.mk (below_step (hg_ GE265.out) hb); (try clear hb); (try clear hb2); (try clear hk); (try clear hi); (try simp only [errW_none, errW_some])))
    replace BK265 := Aside0.mk (blk_drew BK265.out)
    replace HB := Aside0.mk (below_drew1 HB.out)
    refine start_ (n := 12) (S := fun w' => True) (ds := []) (m_ 12 0) (by kernel_rfl) rfl rfl trivial (fun hHeld => ?_); refine with_tabW set_Set_Check.tab9 set_Set_Check.bits9 (fun HT_ HW_ => ?_)
    generalize w22.drew = w23 at BK265 HB hHeld ⊢
    refine pq_ 0 (some 27) (m_ 12 1) (h := ?_)
    refine pq_ 1 (some 28) (m_ 12 3) (h := ?_)
    refine pq_ 2 (some 29) (m_ 12 7) (h := ?_)
    refine pu_ 3 (some 30) (m_ 12 15) (h := ?_)
    refine pu_ 4 (some 31) (m_ 12 31) (h := ?_)
    refine pu_ 5 (some 32) (m_ 12 63) (h := ?_)
    refine pu_ 6 (some 33) (m_ 12 127) (h := ?_)
    refine pu_ 7 (some 34) (m_ 12 255) (h := ?_)
    refine pu_ 8 (some 35) (m_ 12 511) (h := ?_)
    refine pu_ 9 (some 36) (m_ 12 1023) (h := ?_)
    refine pu_ 10 (some 37) (m_ 12 2047) (h := ?_)
    refine pq_ 11 (some 38) (m_ 12 4095) (h := ?_)
    refine done_ (done_of HT_.out (by kernel_rfl)) ?_
    try go_wp2
    go_roundg k1
    case measure => have := HK1.out; omega
    case rel => exact ⟨(wrap64 (x14_1 + 1)), rs_, H', ⟨by have := HK1.out; omega⟩, ⟨by repeat (first | (with_reducible first | exact HB.out | apply ba_ | apply bn_ | apply bd_ | refine below_set ?_ GE265.out) | exact HB.out)⟩⟩
   rw [if_pos c9] at H
   have c9b0 : decide (0 < x14_1) = true := decide_eq_true c9
   clear c9
   obtain ⟨ji10, hji10⟩ : ∃ j_ : Int, (wrap64 (x14_1 - 1)) = j_ := ⟨_, rfl⟩
   replace H : (if 0 ≤ (ji10) then (if (ji10) < (l0.length : Int) then ((XCompare.f ((rd_T65 l0 (ji10)).f0.f0) ((rd_T65 l0 (ji10)).f0.f1) ((rd_T65 l0 (ji10)).f1) ((rd_T65 l0 x14_1).f0.f0) ((rd_T65 l0 x14_1).f0.f1) ((rd_T65 l0 x14_1).f1)).bind fun t269 => (if t269 ≥ 0 then (none) else (set_Set_Check.l0 k1 l0 a1 l0 (l0.length : Int) (wrap64 (x14_1 + 1))))) else (none)) else (none)) = some r := by first | (rw [hji10] at H; exact H) | (simp only [hji10] at H ⊢; exact H)
   (try rw [hji10] at A8)
   have hji10w : (IntKind.i64.wrap (x14_1 - 1)) = ji10 := (i64_w _).trans hji10
   by_cases c11 : 0 ≤ (ji10)
   rotate_left
   ·
    rw [if_neg c11] at H
    exact absurd H (by simp)
   rw [if_pos c11] at H
   have c11b0 : decide (0 ≤ (ji10)) = true := decide_eq_true c11
   clear c11
   by_cases c12 : (ji10) < (l0.length : Int)
   rotate_left
   ·
    rw [if_neg c12] at H
    exact absurd H (by simp)
   rw [if_pos c12] at H
   have c12b0 : decide ((ji10) < (l0.length : Int)) = true := decide_eq_true c12
   clear c12
   replace H := Option.bind_eq_some_iff.mp H
   obtain ⟨t269, A130, H⟩ := H
   replace H : (if t269 ≥ 0 then (none) else (set_Set_Check.l0 k1 l0 a1 l0 (l0.length : Int) (wrap64 (x14_1 + 1)))) = some r := H
   have A13 := Aside0.mk A130
   clear A130
   by_cases c14 : t269 ≥ 0
   ·
    rw [if_pos c14] at H
    exact absurd H (by simp)
   rw [if_neg c14] at H
   have c14b0 : decide (0 ≤ t269) = false := decide_eq_false c14
   clear c14
   have H' := Aside0.mk H
   clear H
   have p264 : 0 ≤ (x14_1 : Int) := of_decide_eq_true as_
   have q264 : x14_1 < (l0.length : Int) := of_decide_eq_true as_
   obtain ⟨ad264, e264, hx264_0, hx264_1, hx264_2⟩ := at_T65 HR0.out x14_1 p264 q264
   cases e264
   try replace hx264_0 := (HB.out.cell (World.block_lt_of_cell? w _ hx264_0)).trans hx264_0
   try replace hx264_1 := (HB.out.cell (World.block_lt_of_cell? w _ hx264_1)).trans hx264_1
   try replace hx264_2 := (HB.out.cell (World.block_lt_of_cell? w _ hx264_2)).trans hx264_2
   replace p264 := eq_true p264
   replace q264 := eq_true q264
   try go_wp2_with (first | ((with_reducible refine gate_dst (N := 6) rfl ?_); refine bx_ 6 #[.int .i64 0, .int .i64 0, .int .i64 0] 65 ?_; intro gb265 hg w15 hbox hb; have BK265 := Aside0.mk (hbox); have GW265 := Aside0.mk ((by rw [hg]; exact (below_size hb_) : w.heap.size ≤ gb265)); have GE265 := GW265; replace HB := Aside0.mk (below_step hb_ hb); clear hb hbox hg; obtain ⟨hcz16_0, hcz16_1, hcz16_2⟩ := cz3_ BK265.out; obtain ⟨hfz16_0, hfz16_1, hfz16_2⟩ := fz3_ BK265.out) | ((with_reducible refine gate_callee (f := 81) rfl ?_); refine goesL_ (some 21) rfl rfl Tryd.func81 (by kernel_rfl) rfl #[.int .i64 a1, .agg #[.int .i64 ((rd_T65 l0 x14_1).f0.f0), .int .i64 ((rd_T65 l0 x14_1).f0.f1), .int .i64 ((rd_T65 l0 x14_1).f1)]] rfl ar_ ?_; (with_reducible refine (XCheck.calls a1 ((rd_T65 l0 x14_1).f0.f0) ((rd_T65 l0 x14_1).f0.f1) ((rd_T65 l0 x14_1).f1) none _ A8.out).mono ?_); rintro e w17 ⟨rfl, hb⟩; refine ⟨_, rfl, ?_⟩; replace BK265 := Aside0.mk (blk_below (g := gb265) (o := .cells #[.int .i64 ((rd_T65 l0 x14_1).f0.f0), .int .i64 ((rd_T65 l0 x14_1).f0.f1), .int .i64 ((rd_T65 l0 x14_1).f1)] 65 (0, 0)) (by (with_reducible repeat (first | apply bN_ | apply bD_ | apply bA_)); refine blk_put (cs := #[.int .i64 ((rd_T65 l0 x14_1).f0.f0), .int .i64 ((rd_T65 l0 x14_1).f0.f1), .int .i64 0]) ?_ 2 _ rfl; (with_reducible repeat (first | apply bN_ | apply bD_ | apply bA_)); refine blk_put (cs := #[.int .i64 ((rd_T65 l0 x14_1).f0.f0), .int .i64 0, .int .i64 0]) ?_ 1 _ rfl; (with_reducible repeat (first | apply bN_ | apply bD_ | apply bA_)); refine blk_put (cs := #[.int .i64 0, .int .i64 0, .int .i64 0]) ?_ 0 _ rfl; (with_reducible repeat (first | apply bN_ | apply bD_ | apply bA_)); exact BK265.out) hb); replace HB := Aside0.mk (below_step (hg_ GE265.out) hb); (try clear hb); (try clear hb2); (try clear hk); (try clear hi); (try simp only [errW_none, errW_some])))
   replace BK265 := Aside0.mk (blk_drew BK265.out)
   replace HB := Aside0.mk (below_drew1 HB.out)
   have p268 : 0 ≤ ((ji10) : Int) := of_decide_eq_true as_
   have q268 : (ji10) < (l0.length : Int) := of_decide_eq_true as_
   obtain ⟨ad268, e268, hx268_0, hx268_1, hx268_2⟩ := at_T65 HR0.out (ji10) p268 q268
   have hw268_2 := hx268_2
   have hw268_1 := hx268_1
   have hw268_0 := hx268_0
   obtain rfl : ad264 = ad268 := (by injection e268)
   try replace hx268_0 := (HB.out.cell (World.block_lt_of_cell? w _ hx268_0)).trans hx268_0
   try replace hx268_1 := (HB.out.cell (World.block_lt_of_cell? w _ hx268_1)).trans hx268_1
   try replace hx268_2 := (HB.out.cell (World.block_lt_of_cell? w _ hx268_2)).trans hx268_2
   replace p268 := eq_true p268
   replace q268 := eq_true q268
   refine start_ (n := 12) (S := fun w' => w'.cell? ⟨gb265, 0, none⟩ = some (.int .i64 ((rd_T65 l0 x14_1).f0.f0)) ∧ w'.cell? ⟨gb265, 1, none⟩ = some (.int .i64 ((rd_T65 l0 x14_1).f0.f1)) ∧ w'.cell? ⟨gb265, 2, none⟩ = some (.int .i64 ((rd_T65 l0 x14_1).f1)) ∧ w'.cell? (ad264.add (((ji10)).toNat * 3)) = some (.int .i64 ((rd_T65 l0 (ji10)).f0.f0)) ∧ w'.cell? ⟨(ad264.add (((ji10)).toNat * 3)).block, (ad264.add (((ji10)).toNat * 3)).off + 1, none⟩ = some (.int .i64 ((rd_T65 l0 (ji10)).f0.f1)) ∧ w'.cell? ⟨(ad264.add (((ji10)).toNat * 3)).block, (ad264.add (((ji10)).toNat * 3)).off + 2, none⟩ = some (.int .i64 ((rd_T65 l0 (ji10)).f1))) (ds := []) (m_ 12 0) (by kernel_rfl) rfl rfl ⟨(blk_cell BK265.out 0).trans rfl, (blk_cell BK265.out 1).trans rfl, (blk_cell BK265.out 2).trans rfl, (by first | exact ((HB.out.cell (World.block_lt_of_cell? w _ hw268_0)).trans hw268_0) | exact hw268_0), (by first | exact ((HB.out.cell (World.block_lt_of_cell? w _ hw268_1)).trans hw268_1) | exact hw268_1), (by first | exact ((HB.out.cell (World.block_lt_of_cell? w _ hw268_2)).trans hw268_2) | exact hw268_2)⟩ (fun hHeld => ?_); refine with_tabW set_Set_Check.tab9 set_Set_Check.bits9 (fun HT_ HW_ => ?_)
   generalize w17.drew = w18 at BK265 HB hx268_0 hx268_1 hx268_2 hHeld ⊢
   refine pq_ 0 (some 27) (m_ 12 1) (h := ?_)
   refine pq_ 1 (some 28) (m_ 12 3) (h := ?_)
   refine pq_ 2 (some 29) (m_ 12 7) (h := ?_)
   refine pq_ 3 (some 30) (m_ 12 15) (h := ?_)
   refine pq_ 4 (some 31) (m_ 12 31) (h := ?_)
   refine pq_ 5 (some 32) (m_ 12 63) (h := ?_)
   refine pq_ 6 (some 33) (m_ 12 127) (h := ?_)
   refine tq6_ 7 (some 34) (m_ 12 255) (h := ?_)
   refine tq6_ 8 (some 35) (m_ 12 511) (h := ?_)
   refine one_ (i := 9) (N := some 36) (m_ 12 1023) rfl rfl (one_of HT_.out (by kernel_rfl)) (by decide) (fun K hK => ?_)
   refine goes_ Tryd.func75 (by kernel_rfl) rfl #[.agg #[.int .i64 ((rd_T65 l0 (ji10)).f0.f0), .int .i64 ((rd_T65 l0 (ji10)).f0.f1), .int .i64 ((rd_T65 l0 (ji10)).f1)], .agg #[.int .i64 ((rd_T65 l0 x14_1).f0.f0), .int .i64 ((rd_T65 l0 x14_1).f0.f1), .int .i64 ((rd_T65 l0 x14_1).f1)]] (by rfl) rfl rfl (by (try simp only [List.map_toArray, List.map_cons, List.map_nil]); first | done | (simp only [hji10]; rfl) | rfl | (simp only [List.length_drop, List.length_take]; rfl)) ?_
   with_reducible refine (XCompare.calls ((rd_T65 l0 (ji10)).f0.f0) ((rd_T65 l0 (ji10)).f0.f1) ((rd_T65 l0 (ji10)).f1) ((rd_T65 l0 x14_1).f0.f0) ((rd_T65 l0 x14_1).f0.f1) ((rd_T65 l0 x14_1).f1) t269 _ A13.out).mono ?_
   rintro e w19 ⟨rfl, hb⟩
   refine ⟨_, rfl, ?_⟩
   replace BK265 := bb_ BK265.out hb
   replace HB := Aside0.mk (below_step (hg_ GE265.out) hb)
   (try clear hb)
   (try clear hb2)
   (try clear hk)
   (try clear hi)
   refine hK.out _ _ ⟨(blk_cell BK265.out 0).trans rfl, (blk_cell BK265.out 1).trans rfl, (blk_cell BK265.out 2).trans rfl, ((HB.out.cell (World.block_lt_of_cell? w _ hw268_0)).trans hw268_0), ((HB.out.cell (World.block_lt_of_cell? w _ hw268_1)).trans hw268_1), ((HB.out.cell (World.block_lt_of_cell? w _ hw268_2)).trans hw268_2)⟩ (fun hHeld => ?_)
   clear hK K
   refine norm_ (a' := ?_) ?_ ?_
   rotate_left
   ·
    show Act.put _ (some 36) _ = _
    simp only [puts_]
    rfl
   refine pq_ 10 (some 37) (m_ 12 2047) (h := ?_)
   refine pq_ 11 (some 38) (m_ 12 4095) (h := ?_)
   refine done_ (done_of HT_.out (by kernel_rfl)) ?_
   try go_wp2
   go_roundg k1
   case measure => have := HK1.out; omega
   case rel => exact ⟨(wrap64 (x14_1 + 1)), rs_, H', ⟨by have := HK1.out; omega⟩, ⟨by repeat (first | (with_reducible first | exact HB.out | apply ba_ | apply bn_ | apply bd_ | refine below_set ?_ GE265.out) | exact HB.out)⟩⟩
end H
namespace H
attribute [local go_sem] max2_int min2_int max_two min_two max_three min_three max_four min_four
attribute [local go_sem high] eqA60
def honeycomblaw04_Told.l0 : Nat → List (S60) → List (S65) → Int → Int → Option ((List (S60)))
 | 0, _, _, _, _ => none
 | k + 1, x3, x7, x8, x9 => if x9 < x8 then (if 0 ≤ x9 then (if x9 < (x7.length : Int) then ((honeycomblaw03_Told.f ((rd_T65 x7 x9).f0.f0) ((rd_T65 x7 x9).f0.f1) ((rd_T65 x7 x9).f1)).bind fun bt344 => (if x3.length < 5864062014805 then (honeycomblaw04_Told.l0 k (x3 ++ [(⟨bt344.1, bt344.2.1, bt344.2.2⟩ : S60)]) x7 x8 (wrap64 (x9 + 1))) else (none))) else (none)) else (none)) else (some x3)
def honeycomblaw04_Told.f (k : Nat) (l0 : List (S65)) : Option ((List (S60))) := honeycomblaw04_Told.l0 k (([] : List (S60))) l0 (l0.length : Int) 0
theorem honeycomblaw04_Told.calls (k : Nat) (A0 : Option Addr) (c0 : Nat) (l0 : List (S65)) (r : List (S60)) (w : World) (hr0 : Kd.C k65 w A0 l0.length l0) (hc0 : l0.length ≤ c0) (h : honeycomblaw04_Told.f k l0 = some r) :
  Calls Tryd.prog 22 #[.slice A0 l0.length c0] w fun e w' => ∃ v0_ : Value, e = .returned (v0_) ∧ Kd.R k60 60 w' w.heap.size (fun _ => True) v0_ r ∧ Below w.heap.size w w' := by
 have hu65 := Tryd.underlying65
 have HR0 := Aside0.mk hr0
 have HC0 := Aside0.mk hc0
 clear hr0 hc0
 have HB := Aside0.mk (Below.refl w.heap.size w)
 have H : (honeycomblaw04_Told.l0 k (([] : List (S60))) l0 (l0.length : Int) 0) = some r := h
 clear h
 obtain ⟨y339, hy339⟩ : ∃ y_ : List (S60), y_ = (([] : List (S60))) := ⟨_, rfl⟩
 replace H : (honeycomblaw04_Told.l0 k y339 l0 (l0.length : Int) 0) = some r := by first | (rw [hy339]; with_reducible exact H) | (have H2_ := (Option.bind_some _ _).symm.trans H; rw [hy339]; with_reducible exact H2_) | (have H2_ := (Option.bind_some _ _).symm.trans H; with_reducible exact H2_) | with_reducible exact H | (rw [hy339]; exact H) | exact H
 have Ny339 := Aside0.mk hy339
 clear hy339
 have H' := Aside0.mk H
 clear H
 go_enter Tryd.func22, Tryd.ntmps22
 go_wp2_with (first | ((with_reducible refine gate_dst (N := 6) rfl ?_); refine rs1_ k60 60 6 ([] : List (S60)) [] (Reps.none _ _) ?_; intro v340 w2 ho3 hb; (first | rw [← Ny339.out] at ho3 | (simp only [Int.reduceToNat] at ho3; rw [← Ny339.out] at ho3)); have HO341 := Aside0.mk (Kd.R_lower ho3 (below_size hb_)); replace HB := Aside0.mk (below_step hb_ hb); clear hb ho3))
 go_loopg [3, 9] k (fun kq v3 v9 w' => ∃ (x3_1 : List (S60)) (x9_1 : Int), v9 = .int .i64 x9_1 ∧ Aside0 (honeycomblaw04_Told.l0 kq x3_1 l0 (l0.length : Int) x9_1 = some r) ∧ Aside0 (kq ≤ k) ∧ Aside0 (Kd.R k60 60 w' w.heap.size (fun _ => True) v3 x3_1) ∧ Aside0 (Below w.heap.size w w'))
 case atStart => exact ⟨(y339), (0), rs_, H', ⟨Nat.le_refl _⟩, ⟨kr_ HO341.out⟩, ⟨by repeat (first | (with_reducible first | exact HB.out | apply ba_ | apply bn_ | apply bd_) | exact HB.out)⟩⟩
 case round =>
  clear H'
  try clear c2
  try clear p2
  obtain ⟨x3_1, x9_1, rfl, HA, HK1, HO_3, HB⟩ := hrel
  cases gk with
  | zero => exact absurd HA.out (by simp [honeycomblaw04_Told.l0])
  | succ k1 =>
   have H := HA.out
   clear HA
   simp only [honeycomblaw04_Told.l0] at H
   by_cases c4 : x9_1 < (l0.length : Int)
   rotate_left
   ·
    rw [if_neg c4] at H
    have c4b0 : decide (x9_1 < (l0.length : Int)) = false := decide_eq_false c4
    clear c4
    obtain rfl := Option.some.inj H
    go_wp2
    go_ret
    exact ⟨_, by first | rfl | (simp [errW_none, errW_some] <;> rfl) | (simp [*, errW_none, errW_some] <;> rfl), kr_ HO_3.out, by repeat (first | (with_reducible first | exact HB.out | apply ba_ | apply bn_ | apply bd_) | exact HB.out)⟩
   rw [if_pos c4] at H
   have c4b0 : decide (x9_1 < (l0.length : Int)) = true := decide_eq_true c4
   clear c4
   by_cases c5 : 0 ≤ x9_1
   rotate_left
   ·
    rw [if_neg c5] at H
    exact absurd H (by simp)
   rw [if_pos c5] at H
   have c5b0 : decide (0 ≤ x9_1) = true := decide_eq_true c5
   clear c5
   by_cases c6 : x9_1 < (l0.length : Int)
   rotate_left
   ·
    rw [if_neg c6] at H
    exact absurd H (by simp)
   rw [if_pos c6] at H
   have c6b0 : decide (x9_1 < (l0.length : Int)) = true := decide_eq_true c6
   clear c6
   replace H := Option.bind_eq_some_iff.mp H
   obtain ⟨⟨t344, t345, t346⟩, A70, H⟩ := H
   replace H : (if x3_1.length < 5864062014805 then (honeycomblaw04_Told.l0 k1 (x3_1 ++ [(⟨t344, t345, t346⟩ : S60)]) l0 (l0.length : Int) (wrap64 (x9_1 + 1))) else (none)) = some r := H
   have A7 := Aside0.mk A70
   clear A70
   by_cases c8 : x3_1.length < 5864062014805
   rotate_left
   ·
    rw [if_neg c8] at H
    exact absurd H (by simp)
   rw [if_pos c8] at H
   have LMc8 := Aside0.mk c8
   clear c8
   obtain ⟨y347, hy347⟩ : ∃ y_ : List (S60), y_ = (x3_1 ++ [(⟨t344, t345, t346⟩ : S60)]) := ⟨_, rfl⟩
   replace H : (honeycomblaw04_Told.l0 k1 y347 l0 (l0.length : Int) (wrap64 (x9_1 + 1))) = some r := by first | (rw [hy347]; with_reducible exact H) | (have H2_ := (Option.bind_some _ _).symm.trans H; rw [hy347]; with_reducible exact H2_) | (have H2_ := (Option.bind_some _ _).symm.trans H; with_reducible exact H2_) | with_reducible exact H | (rw [hy347]; exact H) | exact H
   have Ny347 := Aside0.mk hy347
   clear hy347
   have H' := Aside0.mk H
   clear H
   have p342 : 0 ≤ (x9_1 : Int) := of_decide_eq_true as_
   have q342 : x9_1 < (l0.length : Int) := of_decide_eq_true as_
   obtain ⟨ad342, e342, hx342_0, hx342_1, hx342_2⟩ := at_T65 HR0.out x9_1 p342 q342
   cases e342
   try replace hx342_0 := (HB.out.cell (World.block_lt_of_cell? w _ hx342_0)).trans hx342_0
   try replace hx342_1 := (HB.out.cell (World.block_lt_of_cell? w _ hx342_1)).trans hx342_1
   try replace hx342_2 := (HB.out.cell (World.block_lt_of_cell? w _ hx342_2)).trans hx342_2
   replace p342 := eq_true p342
   replace q342 := eq_true q342
   go_wp2_with (first | ((with_reducible refine gate_dst (N := 5) rfl ?_); refine bx_ 5 #[.int .i64 0, .int .i64 0, .int .i64 0] 65 ?_; intro gb343 hg w9 hbox hb; have BK343 := Aside0.mk (hbox); have GW343 := Aside0.mk ((by rw [hg]; exact (below_size hb_) : w.heap.size ≤ gb343)); have GE343 := GW343; replace HO_3 := Aside0.mk (Kd.R_below (kr_ HO_3.out) hb); replace HB := Aside0.mk (below_step hb_ hb); clear hb hbox hg; obtain ⟨hcz10_0, hcz10_1, hcz10_2⟩ := cz3_ BK343.out; obtain ⟨hfz10_0, hfz10_1, hfz10_2⟩ := fz3_ BK343.out) | ((with_reducible refine gate_callee (f := 29) rfl ?_); refine goesL_ (some 15) rfl rfl Tryd.func29 (by kernel_rfl) rfl #[.agg #[.int .i64 ((rd_T65 l0 x9_1).f0.f0), .int .i64 ((rd_T65 l0 x9_1).f0.f1), .int .i64 ((rd_T65 l0 x9_1).f1)]] rfl ar_ ?_; (with_reducible refine (honeycomblaw03_Told.calls ((rd_T65 l0 x9_1).f0.f0) ((rd_T65 l0 x9_1).f0.f1) ((rd_T65 l0 x9_1).f1) t344 t345 t346 _ A7.out).mono ?_); rintro e w11 ⟨rfl, hb⟩; refine ⟨_, rfl, ?_⟩; replace HO_3 := Aside0.mk (Kd.R_below (by (with_reducible repeat (first | apply Kd.R_alloc | apply Kd.R_drewN | apply Kd.R_drew)); exact (Kd.R_mono (Kd.R_far (p := ⟨gb343, 2, none⟩) (Kd.R_far (p := ⟨gb343, 1, none⟩) (Kd.R_far (p := ⟨gb343, 0, none⟩) (Kd.R_types HO_3.out BK343.out (by decide)) (fun _ hk => hk.2) (.int .i64 ((rd_T65 l0 x9_1).f0.f0))) (fun _ hk => hk.2) (.int .i64 ((rd_T65 l0 x9_1).f0.f1))) (fun _ hk => hk.2) (.int .i64 ((rd_T65 l0 x9_1).f1))) (fun _ h_ => h_.1))) hb); replace BK343 := Aside0.mk (blk_below (g := gb343) (o := .cells #[.int .i64 ((rd_T65 l0 x9_1).f0.f0), .int .i64 ((rd_T65 l0 x9_1).f0.f1), .int .i64 ((rd_T65 l0 x9_1).f1)] 65 (0, 0)) (by (with_reducible repeat (first | apply bN_ | apply bD_ | apply bA_)); refine blk_put (cs := #[.int .i64 ((rd_T65 l0 x9_1).f0.f0), .int .i64 ((rd_T65 l0 x9_1).f0.f1), .int .i64 0]) ?_ 2 _ rfl; (with_reducible repeat (first | apply bN_ | apply bD_ | apply bA_)); refine blk_put (cs := #[.int .i64 ((rd_T65 l0 x9_1).f0.f0), .int .i64 0, .int .i64 0]) ?_ 1 _ rfl; (with_reducible repeat (first | apply bN_ | apply bD_ | apply bA_)); refine blk_put (cs := #[.int .i64 0, .int .i64 0, .int .i64 0]) ?_ 0 _ rfl; (with_reducible repeat (first | apply bN_ | apply bD_ | apply bA_)); exact BK343.out) hb); replace HB := Aside0.mk (below_step (hg_ GE343.out) hb); (try clear hb); (try clear hb2); (try clear hk); (try clear hi)) | ((with_reducible refine gate_builtin (b := .append) (xs := #[.tmp 13, .tmp 16]) rfl ?_); at_builtin; refine Kd.R_append k60 (w0 := w) w.heap.size rfl (.tmp 13) (.tmp 16) 45 60 (.agg #[(.int .i64 0), (.int .i64 0), (.int .i64 0)]) 24 rfl Tryd.underlying45 info60 rfl (by decide) (by omega) u3 x3_1 (⟨t344, t345, t346⟩ : S60) [.int .i64 t344, .int .i64 t345, .int .i64 t346] (fun _ => True) (fun _ => False) rfl rfl ?aP (fun _ hk => hk.elim) ?aF ?aO ?aB ?aS ?aL ?_; (case aP => exact k60_mkM _ _ _ (⟨t344, t345, t346⟩ : S60)); (case aB => exact (hg_ GE343.out)); (case aF => exact (fun _ _ => trivial)); (case aO => exact (kr_ HO_3.out)); (case aS => exact (below_size (hg_ GE343.out))); (case aL => have := LMc8.out; omega); intro v348 w12 ho hb hg hat; rw [← Ny347.out] at ho; have HO349 := Aside0.mk (ho); replace BK343 := Aside0.mk (blk_grown (g := gb343) (o := .cells #[.int .i64 ((rd_T65 l0 x9_1).f0.f0), .int .i64 ((rd_T65 l0 x9_1).f0.f1), .int .i64 ((rd_T65 l0 x9_1).f1)] 65 (0, 0)) (bk_ BK343.out) hg (Kd.R_ne HO_3.out BK343.out (by decide))); replace HB := Aside0.mk (hb); clear HO_3; clear ho hb hg hat))
   go_roundg k1
   case measure => have := HK1.out; omega
   case rel => exact ⟨(y347), (wrap64 (x9_1 + 1)), rs_, H', ⟨by have := HK1.out; omega⟩, ⟨kr_ HO349.out⟩, ⟨by repeat (first | (with_reducible first | exact HB.out | apply ba_ | apply bn_ | apply bd_ | refine below_set ?_ GE343.out) | exact HB.out)⟩⟩
end H
theorem u64N (n : Nat) (h : n < 18446744073709551616) : IntKind.u64.wrap (n : Int) = n := by
 have : IntKind.u64.wrap (n : Int) = (n : Int) % 18446744073709551616 := by simp [IntKind.wrap, IntKind.signed, IntKind.bits]
 rw [this]
 omega
theorem ofIntN (n : Nat) (h : n < 18446744073709551616) : (BitVec.ofInt 64 (n : Int)).toNat = n := by
 rw [BitVec.toNat_ofInt]
 omega
theorem andN (a c : Nat) (ha : a < 18446744073709551616) (hc : c < 18446744073709551616) : Go.bits .and .u64 (a : Int) (c : Int) = ((a &&& c : Nat) : Int) := by
 have key : (BitVec.ofInt 64 (a : Int) &&& BitVec.ofInt 64 (c : Int)).toNat = a &&& c := by rw [BitVec.toNat_and, ofIntN a ha, ofIntN c hc]
 show IntKind.u64.wrap ((BitVec.ofInt 64 (a : Int) &&& BitVec.ofInt 64 (c : Int)).toNat : Nat) = _
 rw [key]
 exact u64N _ (Nat.lt_of_le_of_lt Nat.and_le_left ha)
theorem orN (a c : Nat) (ha : a < 18446744073709551616) (hc : c < 18446744073709551616) : Go.bits .or .u64 (a : Int) (c : Int) = ((a ||| c : Nat) : Int) := by
 have key : (BitVec.ofInt 64 (a : Int) ||| BitVec.ofInt 64 (c : Int)).toNat = a ||| c := by rw [BitVec.toNat_or, ofIntN a ha, ofIntN c hc]
 show IntKind.u64.wrap ((BitVec.ofInt 64 (a : Int) ||| BitVec.ofInt 64 (c : Int)).toNat : Nat) = _
 rw [key]
 exact u64N _ (Nat.or_lt_two_pow (n := 64) ha hc)
theorem badN (B S m1 m2 o : Nat) (hB : B < 18446744073709551616) (hS : S < 18446744073709551616) (ho : o < 18446744073709551616) (h1 : m1 &&& (o ||| 1) = 0) (h2 : m2 &&& o = 0) : badH ((B &&& m1 : Nat) : Int) ((S &&& m2 : Nat) : Int) (o : Int) = false := by
 unfold badH
 have e := orN o 1 ho (by decide)
 rw [show ((1 : Nat) : Int) = 1 from rfl] at e
 rw [e, andN _ _ (Nat.lt_of_le_of_lt Nat.and_le_left hB) (Nat.or_lt_two_pow (n := 64) ho (by decide)), andN _ _ (Nat.lt_of_le_of_lt Nat.and_le_left hS) ho, Nat.and_assoc, Nat.and_assoc, h1, h2]
 simp
theorem badZ (o : Int) (ho : o = 18446744073709551615) : badH 0 0 o = false := by subst ho; decide +kernel
theorem even_and (B m : Nat) (h : m % 2 = 0) : (B &&& m) % 2 = 0 := by
 have := Nat.and_mod_two_pow (a := B) (b := m) (n := 1)
 simp only [Nat.pow_one] at this
 rw [this, h, Nat.and_zero]
def Tb (L : Int) (b0 b1 s0 s1 : Nat) : Prop := (1 ≤ L ∧ L ≤ 3) ∧ checkT L b0 b1 s0 s1 = none ∧ b0 % 2 = 0 ∧ b1 % 2 = 0 ∧ b0 < 18446744073709551616 ∧ b1 < 18446744073709551616 ∧ s0 < 18446744073709551616 ∧ s1 < 18446744073709551616 ∧ (L = 1 → b1 = 0 ∧ s1 = 0)
theorem some_rule (l : Int) (B B1 S S1 : Nat) (hB : B < 18446744073709551616) (hB1 : B1 < 18446744073709551616) (hS : S < 18446744073709551616) (hS1 : S1 < 18446744073709551616) :
    ∃ (L : Int) (b0 b1 s0 s1 : Nat), XSome5.f l B B1 S S1 = some (L, (b0 : Int), (b1 : Int), (s0 : Int), (s1 : Int)) ∧ Tb L b0 b1 s0 s1 := by
 have hL : latT l = 1 ∨ latT l = 2 ∨ latT l = 3 := by unfold latT; omega
 have lt := fun (a b : Nat) (h : a < 18446744073709551616) => Nat.lt_of_le_of_lt (Nat.and_le_left (n := a) (m := b)) h
 unfold XSome5.f
 rcases hL with hL | hL | hL <;> rw [hL]
 ·have e1 : andM B (bornT 1) = ((B &&& 18446744073709551614 : Nat) : Int) := andN B 18446744073709551614 hB (by decide)
  have e2 : andM S (maskT 1) = ((S &&& 18446744073709551615 : Nat) : Int) := andN S 18446744073709551615 hS (by decide)
  have h0' : badH ((B &&& 18446744073709551614 : Nat) : Int) ((S &&& 18446744073709551615 : Nat) : Int) (restT 1) = false := badN B S 18446744073709551614 18446744073709551615 0 hB hS (by decide) (by decide +kernel) (by decide +kernel)
  refine ⟨1, B &&& 18446744073709551614, 0, S &&& 18446744073709551615, 0, ?_, ⟨by decide, by decide⟩, ?_, even_and _ _ rfl, rfl, lt _ _ hB, by decide, lt _ _ hS, by decide, fun _ => ⟨rfl, rfl⟩⟩
  ·rw [e1, e2, if_pos rfl, if_pos rfl]; rfl
  ·unfold checkT
   rw [if_pos (by decide), if_neg (by rw [h0', show ((0 : Nat) : Int) = 0 from rfl, badZ (outT 1) rfl]; decide)]
 ·have e1 : andM B (bornT 2) = ((B &&& 14 : Nat) : Int) := andN B 14 hB (by decide)
  have e1' : andM B1 (bornT 2) = ((B1 &&& 14 : Nat) : Int) := andN B1 14 hB1 (by decide)
  have e2 : andM S (maskT 2) = ((S &&& 15 : Nat) : Int) := andN S 15 hS (by decide)
  have e2' : andM S1 (maskT 2) = ((S1 &&& 15 : Nat) : Int) := andN S1 15 hS1 (by decide)
  have h0 : badH ((B &&& 14 : Nat) : Int) ((S &&& 15 : Nat) : Int) (restT 2) = false := badN B S 14 15 18446744073709551600 hB hS (by decide) (by decide +kernel) (by decide +kernel)
  have h0' : badH ((B1 &&& 14 : Nat) : Int) ((S1 &&& 15 : Nat) : Int) (outT 2) = false := badN B1 S1 14 15 18446744073709551600 hB1 hS1 (by decide) (by decide +kernel) (by decide +kernel)
  refine ⟨2, B &&& 14, B1 &&& 14, S &&& 15, S1 &&& 15, ?_, ⟨by decide, by decide⟩, ?_, even_and _ _ rfl, even_and _ _ rfl, lt _ _ hB, lt _ _ hB1, lt _ _ hS, lt _ _ hS1, fun h => absurd h (by decide)⟩
  ·rw [if_neg (by decide), if_neg (by decide), e1, e1', e2, e2']
  ·unfold checkT
   rw [if_pos (by decide), if_neg (by rw [h0, h0']; decide)]
 ·have e1 : andM B (bornT 3) = ((B &&& 8190 : Nat) : Int) := andN B 8190 hB (by decide)
  have e1' : andM B1 (bornT 3) = ((B1 &&& 8190 : Nat) : Int) := andN B1 8190 hB1 (by decide)
  have e2 : andM S (maskT 3) = ((S &&& 8191 : Nat) : Int) := andN S 8191 hS (by decide)
  have e2' : andM S1 (maskT 3) = ((S1 &&& 8191 : Nat) : Int) := andN S1 8191 hS1 (by decide)
  have h0 : badH ((B &&& 8190 : Nat) : Int) ((S &&& 8191 : Nat) : Int) (restT 3) = false := badN B S 8190 8191 18446744073709543424 hB hS (by decide) (by decide +kernel) (by decide +kernel)
  have h0' : badH ((B1 &&& 8190 : Nat) : Int) ((S1 &&& 8191 : Nat) : Int) (outT 3) = false := badN B1 S1 8190 8191 18446744073709543424 hB1 hS1 (by decide) (by decide +kernel) (by decide +kernel)
  refine ⟨3, B &&& 8190, B1 &&& 8190, S &&& 8191, S1 &&& 8191, ?_, ⟨by decide, by decide⟩, ?_, even_and _ _ rfl, even_and _ _ rfl, lt _ _ hB, lt _ _ hB1, lt _ _ hS, lt _ _ hS1, fun h => absurd h (by decide)⟩
  ·rw [if_neg (by decide), if_neg (by decide), e1, e1', e2, e2']
  ·unfold checkT
   rw [if_pos (by decide), if_neg (by rw [h0, h0']; decide)]
theorem nxB_zero (b : Nat) (hb : b < 18446744073709551616) (h : b % 2 = 0) : nxB (b : Int) 0 = false := by
 unfold nxB
 have e : (b : Int) / 2 ^ (0 : Int).toNat = (b : Int) := by simp
 have := andN b 1 hb (by decide)
 rw [e]
 rw [show ((1 : Nat) : Int) = 1 from rfl] at this
 rw [this, Nat.and_one_is_mod, h]
 rfl
theorem rule_zero {L : Int} {b0 b1 s0 s1 : Nat} (h : Tb L b0 b1 s0 s1) : ∀ x, nxtV b0 b1 s0 s1 x false 0 = false := by
 intro x
 obtain ⟨_, _, h0, h1, l0, l1, _⟩ := h
 unfold nxtV
 split
 ·rfl
 ·rw [if_neg (by decide)]
  split
  ·exact nxB_zero b0 l0 h0
  ·exact nxB_zero b1 l1 h1
def Bx (l R : Int) (s : List CL) : Prop := ∀ c ∈ s, hOK l c.f1 ∧ (-R ≤ c.f0.f0 ∧ c.f0.f0 ≤ R) ∧ (-R ≤ c.f0.f1 ∧ c.f0.f1 ≤ R)
theorem Bx.half {l R : Int} {s : List CL} (h : Bx l R s) : ∀ c ∈ s, hOK l c.f1 := fun c hc => (h c hc).1
theorem Bx.mono {l R R' : Int} {s : List CL} (h : Bx l R s) (hR : R ≤ R') : Bx l R' s := fun c hc => by
 obtain ⟨h1, h2, h3⟩ := h c hc
 exact ⟨h1, by omega, by omega⟩
theorem Bx.chk {l R : Int} {s : List CL} (hl : 1 ≤ l ∧ l ≤ 3) (hR : R ≤ 1000000000) (h : Bx l R s) : ∀ c ∈ s, checkR l c.f0.f0 c.f0.f1 c.f1 = none := fun c hc => by
 obtain ⟨h1, h2, h3⟩ := h c hc
 unfold checkR
 rw [if_pos hl, if_neg, if_pos (by unfold goodP; omega)]
 unfold hOK at h1
 by_cases e : l = 1
 ·rw [if_pos e]; have := h1.2 e; omega
 ·rw [if_neg e]; omega
theorem Bx.ok {l R : Int} {s : List CL} (hl : 1 ≤ l ∧ l ≤ 3) (hR : R ≤ 1000000000) (h : Bx l R s) : (s.all fun c => okC l c) = true := by
 rw [List.all_eq_true]
 intro c hc
 unfold okC
 rw [Bool.and_eq_true]
 refine ⟨by rw [h.chk hl hR c hc]; rfl, ?_⟩
 rw [List.all_eq_true]
 intro d hd
 obtain ⟨h1, h2, h3⟩ := h c hc
 have := bes_near l c d hl h1 hd
 exact decide_eq_true (by unfold goodP; omega)
theorem Bx.next {l R : Int} {s : List CL} {nx : Rul} (hl : 1 ≤ l ∧ l ≤ 3) (h0 : ∀ x, nx x false 0 = false) (hs : Srt s) (h : Bx l R s) : Bx l (R + 1) (nextL nx l s) := fun c hc => by
 have hh := ((next_mem nx l hl h0 s (srt_nodup hs) h.half c).1 hc).1
 obtain ⟨d, hd, h1, h2, h3, h4⟩ := next_near nx l hl h0 s (srt_nodup hs) h.half c hc
 obtain ⟨_, h5, h6⟩ := h d hd
 exact ⟨hh, by omega, by omega⟩
namespace H
attribute [local go_sem] max2_int min2_int max_two min_two max_three min_three max_four min_four
def honeycombref05_bit.l0 : Nat → Int → Int → Int → Option (Int)
 | 0, _, _, _ => none
 | k + 1, x0, x1, x5 => if x5 < x1 then (honeycombref05_bit.l0 k (IntKind.u64.wrap (Int.tdiv x0 2)) x1 (wrap64 (x5 + 1))) else (some (wrap64 (Int.tmod x0 2)))
def honeycombref05_bit.f (k : Nat) (a0 : Int) (a1 : Int) : Option (Int) := honeycombref05_bit.l0 k a0 a1 0
theorem honeycombref05_bit.mono_l : ∀ k, (∀ y0 y1 y2, LeO (honeycombref05_bit.l0 k y0 y1 y2) (honeycombref05_bit.l0 (k + 1) y0 y1 y2))
 | 0 => fun _ _ _ r h => by simp [honeycombref05_bit.l0] at h
 | k + 1 => by
  have ih0 := honeycombref05_bit.mono_l k
  ·
   intro y0 y1 y2
   unfold honeycombref05_bit.l0
   repeat' first
   | (with_reducible exact ih0 _ _ _)
   | (with_reducible exact LeO.refl _)
   | (with_reducible exact LeO.none _)
   | (with_reducible refine LeO.ite ?_ ?_)
   | (with_reducible refine LeO.bind ?_ (fun _ => ?_))
   | exact ih0 _ _ _
   | exact LeO.none _
   | refine LeO.ite ?_ ?_
   | refine LeO.bind ?_ (fun _ => ?_)
theorem honeycombref05_bit.mono : ∀ a0 a1 k, LeO (honeycombref05_bit.f k a0 a1) (honeycombref05_bit.f (k + 1) a0 a1) := by
 intro a0 a1 k
 have ih0 := honeycombref05_bit.mono_l k
 unfold honeycombref05_bit.f
 repeat' first
   | (with_reducible exact ih0 _ _ _)
   | (with_reducible exact LeO.refl _)
   | (with_reducible exact LeO.none _)
   | (with_reducible refine LeO.ite ?_ ?_)
   | (with_reducible refine LeO.bind ?_ (fun _ => ?_))
   | exact ih0 _ _ _
   | exact LeO.none _
   | refine LeO.ite ?_ ?_
   | refine LeO.bind ?_ (fun _ => ?_)
theorem honeycombref05_bit.calls (k : Nat) (a0 : Int) (a1 : Int) (r : Int) (w : World) (h : honeycombref05_bit.f k a0 a1 = some r) :
  Calls Tryd.prog 69 #[.int .u64 a0, .int .i64 a1] w fun e w' => e = .returned (.int .i64 r) ∧ Drawn0 w w' := by
 have H : (honeycombref05_bit.l0 k a0 a1 0) = some r := h
 clear h
 have H' := Aside0.mk H
 clear H
 go_enter Tryd.func69, Tryd.ntmps69
 go_wp2
 go_loopg [0, 5] k (fun kq v0 v5 w' => ∃ (x0_1 : Int) (x5_1 : Int), v0 = .int .u64 x0_1 ∧ v5 = .int .i64 x5_1 ∧ Aside0 (honeycombref05_bit.l0 kq x0_1 a1 x5_1 = some r) ∧ Aside0 (kq ≤ k) ∧ Drawn0 w w')
 case atStart => exact ⟨(a0), (0), rs_, rs_, H', ⟨Nat.le_refl _⟩, by repeat (first | exact Drawn0.refl _ | apply Drawn0.step)⟩
 case round =>
  clear H'
  try clear p2
  obtain ⟨x0_1, x5_1, rfl, rfl, HA, HK1, ⟨m1, rfl⟩⟩ := hrel
  cases gk with
  | zero => exact absurd HA.out (by simp [honeycombref05_bit.l0])
  | succ k1 =>
   have H := HA.out
   clear HA
   simp only [honeycombref05_bit.l0] at H
   by_cases c3 : x5_1 < a1
   rotate_left
   ·
    rw [if_neg c3] at H
    have c3b0 : decide (x5_1 < a1) = false := decide_eq_false c3
    clear c3
    obtain rfl := Option.some.inj H
    go_wp2
    go_ret
    exact ⟨by first | rfl | (simp; done) | (simp [*]; done), by repeat (first | exact Drawn0.refl _ | apply Drawn0.step)⟩
   rw [if_pos c3] at H
   have c3b0 : decide (x5_1 < a1) = true := decide_eq_true c3
   clear c3
   have H' := Aside0.mk H
   clear H
   go_wp2
   go_roundg k1
   case measure => have := HK1.out; omega
   case rel => exact ⟨(IntKind.u64.wrap (Int.tdiv x0_1 2)), (wrap64 (x5_1 + 1)), rs_, rs_, H', ⟨by have := HK1.out; omega⟩, by repeat (first | exact Drawn0.refl _ | apply Drawn0.step)⟩
end H
namespace H
attribute [local go_sem] max2_int min2_int max_two min_two max_three min_three max_four min_four
def honeycombref05_Next.j0 : Nat → Int → Bool → Int → Bool → Int → List Int → List Int → Option (Bool)
 | 0, _, _, _, _, _, _, _ => none
 | k + 1, x1, x2, x3, x22, x373000, x373001, x373002 => if x22 = true then (some false) else (if x2 = true then (if 0 ≤ x1 then (if x1 < (x373002.length : Int) then ((honeycombref05_bit.f k (rd x373002 x1) x3).bind fun t374 => (some (t374 == 1))) else (none)) else (none)) else (if 0 ≤ x1 then (if x1 < (x373001.length : Int) then ((honeycombref05_bit.f k (rd x373001 x1) x3).bind fun t376 => (some (t376 == 1))) else (none)) else (none)))
def honeycombref05_Next.f (k : Nat) (a0_0 : Int) (l0_1 : List Int) (l0_2 : List Int) (a1 : Int) (a2 : Bool) (a3 : Int) : Option (Bool) := if a1 < 0 then (honeycombref05_Next.j0 k a1 a2 a3 true a0_0 l0_1 l0_2) else (if a1 > 1 then (honeycombref05_Next.j0 k a1 a2 a3 true a0_0 l0_1 l0_2) else (if a3 < 0 then (honeycombref05_Next.j0 k a1 a2 a3 true a0_0 l0_1 l0_2) else (honeycombref05_Next.j0 k a1 a2 a3 (decide (a3 > 63)) a0_0 l0_1 l0_2)))
theorem honeycombref05_Next.mono_l : ∀ k, (∀ y0 y1 y2 y3 y4 y5 y6, LeO (honeycombref05_Next.j0 k y0 y1 y2 y3 y4 y5 y6) (honeycombref05_Next.j0 (k + 1) y0 y1 y2 y3 y4 y5 y6))
 | 0 => fun _ _ _ _ _ _ _ r h => by simp [honeycombref05_Next.j0] at h
 | k + 1 => by
  have ih0 := honeycombref05_Next.mono_l k
  ·
   intro y0 y1 y2 y3 y4 y5 y6
   unfold honeycombref05_Next.j0
   repeat' first
   | (with_reducible exact ih0 _ _ _ _ _ _ _)
   | (with_reducible exact honeycombref05_bit.mono _ _ _)
   | (with_reducible exact LeO.refl _)
   | (with_reducible exact LeO.none _)
   | (with_reducible refine LeO.ite ?_ ?_)
   | (with_reducible refine LeO.bind ?_ (fun _ => ?_))
   | exact ih0 _ _ _ _ _ _ _
   | exact honeycombref05_bit.mono _ _ _
   | exact LeO.none _
   | refine LeO.ite ?_ ?_
   | refine LeO.bind ?_ (fun _ => ?_)
theorem honeycombref05_Next.mono : ∀ a0 a1 a2 a3 a4 a5 k, LeO (honeycombref05_Next.f k a0 a1 a2 a3 a4 a5) (honeycombref05_Next.f (k + 1) a0 a1 a2 a3 a4 a5) := by
 intro a0 a1 a2 a3 a4 a5 k
 have ih0 := honeycombref05_Next.mono_l k
 unfold honeycombref05_Next.f
 repeat' first
   | (with_reducible exact ih0 _ _ _ _ _ _ _)
   | (with_reducible exact honeycombref05_bit.mono _ _ _)
   | (with_reducible exact LeO.refl _)
   | (with_reducible exact LeO.none _)
   | (with_reducible refine LeO.ite ?_ ?_)
   | (with_reducible refine LeO.bind ?_ (fun _ => ?_))
   | exact ih0 _ _ _ _ _ _ _
   | exact honeycombref05_bit.mono _ _ _
   | exact LeO.none _
   | refine LeO.ite ?_ ?_
   | refine LeO.bind ?_ (fun _ => ?_)
theorem honeycombref05_Next.calls (k : Nat) (a0_0 : Int) (A0_1 : Option Addr) (c0_1 : Nat) (l0_1 : List Int) (A0_2 : Option Addr) (c0_2 : Nat) (l0_2 : List Int) (a1 : Int) (a2 : Bool) (a3 : Int) (r : Bool) (w : World) (hr0_1 : Kd.C (Kd.int .u64) w A0_1 l0_1.length l0_1) (hc0_1 : l0_1.length ≤ c0_1) (hr0_2 : Kd.C (Kd.int .u64) w A0_2 l0_2.length l0_2) (hc0_2 : l0_2.length ≤ c0_2) (h : honeycombref05_Next.f k a0_0 l0_1 l0_2 a1 a2 a3 = some r) :
  Calls Tryd.prog 35 #[.agg #[.int .i64 a0_0, .slice A0_1 l0_1.length c0_1, .slice A0_2 l0_2.length c0_2], .int .i64 a1, .bool a2, .int .i64 a3] w fun e w' => e = .returned (.bool r) ∧ Below w.heap.size w w' := by
 have hu55 := Tryd.underlying55
 have HR0_1 := Aside0.mk hr0_1
 have HC0_1 := Aside0.mk hc0_1
 clear hr0_1 hc0_1
 have HR0_2 := Aside0.mk hr0_2
 have HC0_2 := Aside0.mk hc0_2
 clear hr0_2 hc0_2
 have HB := Aside0.mk (Below.refl w.heap.size w)
 have H : (if a1 < 0 then (honeycombref05_Next.j0 k a1 a2 a3 true a0_0 l0_1 l0_2) else (if a1 > 1 then (honeycombref05_Next.j0 k a1 a2 a3 true a0_0 l0_1 l0_2) else (if a3 < 0 then (honeycombref05_Next.j0 k a1 a2 a3 true a0_0 l0_1 l0_2) else (honeycombref05_Next.j0 k a1 a2 a3 (decide (a3 > 63)) a0_0 l0_1 l0_2)))) = some r := h
 clear h
 have HC5 := Aside0.mk H
 clear H
 go_enter Tryd.func35, Tryd.ntmps35
 go_upto_region 1 with (first | ((with_reducible refine gate_dst (N := 4) rfl ?_); refine bx_ 4 #[.int .i64 a0_0, .slice A0_1 l0_1.length c0_1, .slice A0_2 l0_2.length c0_2] 55 ?_; intro gb372 hg w6 hbox hb; have BK372 := Aside0.mk (hbox); have GW372 := Aside0.mk ((by rw [hg]; exact (below_size hb_) : w.heap.size ≤ gb372)); have GE372 := GW372; replace HB := Aside0.mk (below_step hb_ hb); clear hb hbox hg))
 (try simp only [Act.put, List.setIfInBounds_toArray, List.set_cons_zero, List.set_cons_succ])
 go_cut [22] (fun v22 wc => ∃ (kq : Nat) (x22_4 : Bool), v22 = .bool x22_4 ∧ Aside0 (honeycombref05_Next.j0 kq a1 a2 a3 x22_4 a0_0 l0_1 l0_2 = some r) ∧ Aside0 (kq ≤ k) ∧ Aside0 (wc.heap[gb372]? = some (.cells #[.int .i64 a0_0, (.slice A0_1 l0_1.length c0_1), (.slice A0_2 l0_2.length c0_2)] 55 (0, 0))) ∧ Aside0 (Below w.heap.size w wc))
 case first =>
  have H := HC5.out
  clear HC5
  by_cases c7 : a1 < 0
  ·
   rw [if_pos c7] at H
   have c7b0 : decide (a1 < 0) = true := decide_eq_true c7
   clear c7
   (first | rw [c7b0] | (simp only [i64_w, i32_w]; rw [c7b0]) | skip)
   have H' := Aside0.mk H
   clear H
   go_wp2
   go_meet
   case rel => exact ⟨_, (true), rs_, H', ⟨by first | omega | exact Nat.le_refl _⟩, ⟨bk_ BK372.out⟩, ⟨by repeat (first | (with_reducible first | exact HB.out | apply ba_ | apply bn_ | apply bd_ | refine below_set ?_ GE372.out) | exact HB.out)⟩⟩
  rw [if_neg c7] at H
  have c7b0 : decide (a1 < 0) = false := decide_eq_false c7
  clear c7
  (first | rw [c7b0] | (simp only [i64_w, i32_w]; rw [c7b0]) | skip)
  by_cases c8 : a1 > 1
  ·
   rw [if_pos c8] at H
   have c8b0 : decide (1 < a1) = true := decide_eq_true c8
   clear c8
   have H' := Aside0.mk H
   clear H
   go_wp2
   go_meet
   case rel => exact ⟨_, (true), rs_, H', ⟨by first | omega | exact Nat.le_refl _⟩, ⟨bk_ BK372.out⟩, ⟨by repeat (first | (with_reducible first | exact HB.out | apply ba_ | apply bn_ | apply bd_ | refine below_set ?_ GE372.out) | exact HB.out)⟩⟩
  rw [if_neg c8] at H
  have c8b0 : decide (1 < a1) = false := decide_eq_false c8
  clear c8
  by_cases c9 : a3 < 0
  ·
   rw [if_pos c9] at H
   have c9b0 : decide (a3 < 0) = true := decide_eq_true c9
   clear c9
   have H' := Aside0.mk H
   clear H
   go_wp2
   go_meet
   case rel => exact ⟨_, (true), rs_, H', ⟨by first | omega | exact Nat.le_refl _⟩, ⟨bk_ BK372.out⟩, ⟨by repeat (first | (with_reducible first | exact HB.out | apply ba_ | apply bn_ | apply bd_ | refine below_set ?_ GE372.out) | exact HB.out)⟩⟩
  rw [if_neg c9] at H
  have c9b0 : decide (a3 < 0) = false := decide_eq_false c9
  clear c9
  have H' := Aside0.mk H
  clear H
  go_wp2
  go_meet
  case rel => exact ⟨_, (decide (a3 > 63)), rs_, H', ⟨by first | omega | exact Nat.le_refl _⟩, ⟨bk_ BK372.out⟩, ⟨by repeat (first | (with_reducible first | exact HB.out | apply ba_ | apply bn_ | apply bd_ | refine below_set ?_ GE372.out) | exact HB.out)⟩⟩
 case rest =>
  clear HC5
  try clear p2
  try clear c3
  try clear c7
  try clear c7b0
  try clear c8
  try clear c8b0
  try clear c9
  try clear c9b0
  obtain ⟨kq, x22_4, rfl, HA, HJ4, BK372, HB⟩ := hcut
  cases kq with
  | zero => exact absurd HA.out (by simp [honeycombref05_Next.j0])
  | succ kj4 =>
   have H := HA.out
   clear HA
   simp only [honeycombref05_Next.j0] at H
   by_cases c10 : x22_4 = true
   ·
    subst c10
    have H1 : (some false) = some r := by rw [if_pos rfl] at H; exact H
    clear H
    have H := H1
    clear H1
    obtain rfl := Option.some.inj H
    go_wp2
    go_ret
    exact ⟨er_, hg_ GE372.out⟩
   replace c10 := Bool.eq_false_iff.mpr c10
   subst c10
   have H1 : (if a2 = true then (if 0 ≤ a1 then (if a1 < (l0_2.length : Int) then ((honeycombref05_bit.f kj4 (rd l0_2 a1) a3).bind fun t374 => (some (t374 == 1))) else (none)) else (none)) else (if 0 ≤ a1 then (if a1 < (l0_1.length : Int) then ((honeycombref05_bit.f kj4 (rd l0_1 a1) a3).bind fun t376 => (some (t376 == 1))) else (none)) else (none))) = some r := by rw [if_neg (show ¬ (false = true) by decide)] at H; exact H
   clear H
   have H := H1
   clear H1
   by_cases c11 : a2 = true
   ·
    subst c11
    have H1 : (if 0 ≤ a1 then (if a1 < (l0_2.length : Int) then ((honeycombref05_bit.f kj4 (rd l0_2 a1) a3).bind fun t374 => (some (t374 == 1))) else (none)) else (none)) = some r := by rw [if_pos rfl] at H; exact H
    clear H
    have H := H1
    clear H1
    by_cases c12 : 0 ≤ a1
    rotate_left
    ·
     rw [if_neg c12] at H
     exact absurd H (by simp)
    rw [if_pos c12] at H
    have c12b0 : decide (0 ≤ a1) = true := decide_eq_true c12
    clear c12
    by_cases c13 : a1 < (l0_2.length : Int)
    rotate_left
    ·
     rw [if_neg c13] at H
     exact absurd H (by simp)
    rw [if_pos c13] at H
    have c13b0 : decide (a1 < (l0_2.length : Int)) = true := decide_eq_true c13
    clear c13
    replace H := Option.bind_eq_some_iff.mp H
    obtain ⟨t374, A140, H⟩ := H
    replace H : (some (t374 == 1)) = some r := H
    have A14 := Aside0.mk A140
    clear A140
    obtain rfl := Option.some.inj H
    obtain ⟨hcz15_0, hcz15_1, hcz15_2⟩ := cz3_ BK372.out
    obtain ⟨hfz15_0, hfz15_1, hfz15_2⟩ := fz3_ BK372.out
    have p373 : 0 ≤ (a1 : Int) := of_decide_eq_true as_
    have q373 : a1 < (l0_2.length : Int) := of_decide_eq_true as_
    obtain ⟨ad373, e373, hx373_0⟩ := Kd.at_int HR0_2.out a1 p373 q373
    cases e373
    try replace hx373_0 := (HB.out.cell (World.block_lt_of_cell? w _ hx373_0)).trans hx373_0
    replace p373 := eq_true p373
    replace q373 := eq_true q373
    go_wp2_with (first | ((with_reducible refine gate_callee (f := 69) rfl ?_); refine goesL_ (some 30) rfl rfl Tryd.func69 (by kernel_rfl) rfl #[.int .u64 (rd l0_2 a1), .int .i64 a3] rfl ar_ ?_; (with_reducible refine (honeycombref05_bit.calls kj4 (rd l0_2 a1) a3 t374 _ A14.out).mono ?_); rintro e w' ⟨rfl, ⟨nd, rfl⟩⟩; refine ⟨_, rfl, ?_⟩))
    go_ret
    exact ⟨er_, hg_ GE372.out⟩
   replace c11 := Bool.eq_false_iff.mpr c11
   subst c11
   have H1 : (if 0 ≤ a1 then (if a1 < (l0_1.length : Int) then ((honeycombref05_bit.f kj4 (rd l0_1 a1) a3).bind fun t376 => (some (t376 == 1))) else (none)) else (none)) = some r := by rw [if_neg (show ¬ (false = true) by decide)] at H; exact H
   clear H
   have H := H1
   clear H1
   by_cases c16 : 0 ≤ a1
   rotate_left
   ·
    rw [if_neg c16] at H
    exact absurd H (by simp)
   rw [if_pos c16] at H
   have c16b0 : decide (0 ≤ a1) = true := decide_eq_true c16
   clear c16
   by_cases c17 : a1 < (l0_1.length : Int)
   rotate_left
   ·
    rw [if_neg c17] at H
    exact absurd H (by simp)
   rw [if_pos c17] at H
   have c17b0 : decide (a1 < (l0_1.length : Int)) = true := decide_eq_true c17
   clear c17
   replace H := Option.bind_eq_some_iff.mp H
   obtain ⟨t376, A180, H⟩ := H
   replace H : (some (t376 == 1)) = some r := H
   have A18 := Aside0.mk A180
   clear A180
   obtain rfl := Option.some.inj H
   obtain ⟨hcz19_0, hcz19_1, hcz19_2⟩ := cz3_ BK372.out
   obtain ⟨hfz19_0, hfz19_1, hfz19_2⟩ := fz3_ BK372.out
   have p375 : 0 ≤ (a1 : Int) := of_decide_eq_true as_
   have q375 : a1 < (l0_1.length : Int) := of_decide_eq_true as_
   obtain ⟨ad375, e375, hx375_0⟩ := Kd.at_int HR0_1.out a1 p375 q375
   cases e375
   try replace hx375_0 := (HB.out.cell (World.block_lt_of_cell? w _ hx375_0)).trans hx375_0
   replace p375 := eq_true p375
   replace q375 := eq_true q375
   go_wp2_with (first | ((with_reducible refine gate_callee (f := 69) rfl ?_); refine goesL_ (some 38) rfl rfl Tryd.func69 (by kernel_rfl) rfl #[.int .u64 (rd l0_1 a1), .int .i64 a3] rfl ar_ ?_; (with_reducible refine (honeycombref05_bit.calls kj4 (rd l0_1 a1) a3 t376 _ A18.out).mono ?_); rintro e w' ⟨rfl, ⟨nd, rfl⟩⟩; refine ⟨_, rfl, ?_⟩))
   go_ret
   exact ⟨er_, hg_ GE372.out⟩
end H
theorem bit_l0 : ∀ (d k : Nat) (i : Nat) (n : Nat) (x : Nat), i + d = n → n < 1000 → x < 18446744073709551616 → d < k → honeycombref05_bit.l0 k (x : Int) (n : Int) (i : Int) = some (((x / 2 ^ d % 2 : Nat) : Int)) := by
 intro d
 induction d with
 | zero =>
  intro k i n x hi hn hx hk
  obtain ⟨k, rfl⟩ : ∃ m, k = m + 1 := ⟨k - 1, by omega⟩
  simp only [honeycombref05_bit.l0]
  rw [if_neg (by omega), Int.tmod_eq_emod_of_nonneg (by omega)]
  have e : ((x : Int) % 2) = ((x % 2 : Nat) : Int) := by omega
  rw [e, w64i _ (by omega) (by omega), Nat.pow_zero, Nat.div_one]
 | succ d ih =>
  intro k i n x hi hn hx hk
  obtain ⟨k, rfl⟩ : ∃ m, k = m + 1 := ⟨k - 1, by omega⟩
  simp only [honeycombref05_bit.l0]
  have e : Int.tdiv (x : Int) 2 = ((x / 2 : Nat) : Int) := by rw [Int.tdiv_eq_ediv_of_nonneg (by omega)]; omega
  rw [if_pos (by omega), e, u64N _ (by omega), w64i ((i : Int) + 1) (by omega) (by omega)]
  have := ih k (i + 1) n (x / 2) (by omega) hn (by omega) (by omega)
  simp only [Int.natCast_add, Int.cast_ofNat_Int] at this
  rw [this, Nat.div_div_eq_div_mul, ← Nat.pow_succ']
theorem bit_f (K x n : Nat) (hx : x < 18446744073709551616) (hn : n < 64) (hK : 64 ≤ K) : honeycombref05_bit.f K (x : Int) (n : Int) = some (((x / 2 ^ n % 2 : Nat) : Int)) := by
 unfold honeycombref05_bit.f
 have := bit_l0 n K 0 n x (by omega) (by omega) hx (by omega)
 exact this
theorem nxB_is (x n : Nat) (hx : x < 18446744073709551616) : nxB (x : Int) (n : Int) = (((x / 2 ^ n % 2 : Nat) : Int) == 1) := by
 unfold nxB
 have e : (x : Int) / 2 ^ ((n : Nat) : Int).toNat = ((x / 2 ^ n : Nat) : Int) := by simp
 have hlt : x / 2 ^ n < 18446744073709551616 := Nat.lt_of_le_of_lt (Nat.div_le_self _ _) hx
 have := andN (x / 2 ^ n) 1 hlt (by decide)
 rw [show ((1 : Nat) : Int) = 1 from rfl] at this
 rw [e, this, Nat.and_one_is_mod]
theorem rnext_f (K : Nat) (L : Int) (b0 b1 s0 s1 : Nat) (half : Int) (live : Bool) (n : Int) (hb0 : b0 < 18446744073709551616) (hb1 : b1 < 18446744073709551616) (hs0 : s0 < 18446744073709551616) (hs1 : s1 < 18446744073709551616) (hh : half = 0 ∨ half = 1) (h0 : 0 ≤ n) (h1 : n ≤ 63) (hK : 65 ≤ K) :
    honeycombref05_Next.f K L [(b0 : Int), (b1 : Int)] [(s0 : Int), (s1 : Int)] half live n = some (nxtV b0 b1 s0 s1 half live n) := by
 obtain ⟨m, rfl⟩ := Int.eq_ofNat_of_zero_le h0
 obtain ⟨k, rfl⟩ : ∃ k, K = k + 1 := ⟨K - 1, by omega⟩
 have hd : decide ((m : Int) > 63) = false := decide_eq_false (by omega)
 unfold honeycombref05_Next.f nxtV
 rw [if_neg (by omega), if_neg (by omega), if_neg (by omega), if_neg (by omega), hd]
 simp only [honeycombref05_Next.j0]
 rw [if_neg (by decide)]
 rcases hh with rfl | rfl
 ·cases live
  ·rw [if_neg (by decide), if_pos (by omega), if_pos (by simp), if_neg (by decide), if_pos rfl, show rd [(b0 : Int), (b1 : Int)] 0 = (b0 : Int) from rfl, bit_f k b0 m hb0 (by omega) (by omega), nxB_is b0 m hb0]
   rfl
  ·rw [if_pos rfl, if_pos (by omega), if_pos (by simp), if_pos rfl, if_pos rfl, show rd [(s0 : Int), (s1 : Int)] 0 = (s0 : Int) from rfl, bit_f k s0 m hs0 (by omega) (by omega), nxB_is s0 m hs0]
   rfl
 ·cases live
  ·rw [if_neg (by decide), if_pos (by omega), if_pos (by simp), if_neg (by decide), if_neg (by decide), show rd [(b0 : Int), (b1 : Int)] 1 = (b1 : Int) from rfl, bit_f k b1 m hb1 (by omega) (by omega), nxB_is b1 m hb1]
   rfl
  ·rw [if_pos rfl, if_pos (by omega), if_pos (by simp), if_pos rfl, if_neg (by decide), show rd [(s0 : Int), (s1 : Int)] 1 = (s1 : Int) from rfl, bit_f k s1 m hs1 (by omega) (by omega), nxB_is s1 m hs1]
   rfl
theorem rdC (l : List CL) (j : Nat) (hj : j < l.length) : rd_T65 l j = l[j] := by simp [rd_T65, hj]
theorem rdR (l : List RC) (j : Nat) (hj : j < l.length) : rd_T60 l j = l[j] := by simp [rd_T60, hj]
theorem neq_cell (x y : CL) : ((!(x.f0.f0 == y.f0.f0) || (!(x.f0.f1 == y.f0.f1))) || (!(x.f1 == y.f1))) = !decide (x = y) := by
 by_cases h : x = y
 ·subst h; simp
 ·rw [decide_eq_false h]
  by_cases h0 : x.f0.f0 = y.f0.f0
  ·by_cases h1 : x.f0.f1 = y.f0.f1
   ·have h2 : ¬ x.f1 = y.f1 := fun e => h (cl_ext h0 h1 e)
    simp [h2]
   ·simp [h1]
  ·simp [h0]
theorem chk_l0 (l : List CL) (t : Int) (hs : Srt l) (hc : ∀ x ∈ l, checkR t x.f0.f0 x.f0.f1 x.f1 = none) (hn : l.length < 1099511627776) : ∀ (d k : Nat) (j : Nat), j + d = l.length → d + 1 < k → set_Set_Check.l0 k l t l l.length j = some none := by
 intro d
 induction d with
 | zero =>
  intro k j hj hk
  obtain ⟨k, rfl⟩ : ∃ m, k = m + 1 := ⟨k - 1, by omega⟩
  simp only [set_Set_Check.l0]
  rw [if_neg (by omega)]
 | succ d ih =>
  intro k j hj hk
  obtain ⟨k, rfl⟩ : ∃ m, k = m + 2 := ⟨k - 2, by omega⟩
  have h1 : j < l.length := by omega
  have hij := ih (k + 1) (j + 1) (by omega) (by omega)
  simp only [Int.natCast_add, Int.cast_ofNat_Int] at hij
  rw [show k + 2 = (k + 1) + 1 from rfl, set_Set_Check.l0, if_pos (by omega), if_pos (by omega), if_pos (by omega), rdC l j h1, show XCheck.f t l[j].f0.f0 l[j].f0.f1 l[j].f1 = some (checkR t l[j].f0.f0 l[j].f0.f1 l[j].f1) from rfl, hc _ (List.getElem_mem h1)]
  simp only [Option.bind_some, Option.isNone_none, ↓reduceIte]
  rw [w64i ((j : Int) + 1) (by omega) (by omega)]
  by_cases hj0 : j = 0
  ·subst hj0
   rw [if_neg (by omega)]
   exact hij
  ·obtain ⟨i, rfl⟩ : ∃ i, j = i + 1 := ⟨j - 1, by omega⟩
   rw [if_pos (by omega), w64i (((i + 1 : Nat) : Int) - 1) (by omega) (by omega), show (((i + 1 : Nat) : Int) - 1) = (i : Int) by omega, if_pos (by omega), if_pos (by omega), rdC l i (by omega), show XCompare.f l[i].f0.f0 l[i].f0.f1 l[i].f1 l[i + 1].f0.f0 l[i + 1].f0.f1 l[i + 1].f1 = some (cmpCell l[i] l[i + 1]) from rfl]
   have hlt : cmpCell l[i] l[i + 1] < 0 := List.pairwise_iff_getElem.1 hs i (i + 1) (by omega) h1 (by omega)
   simp only [Option.bind_some]
   rw [if_neg (by omega)]
   exact hij
theorem chk_f (k : Nat) (l : List CL) (t : Int) (h1 : 1 ≤ t) (h3 : t ≤ 3) (hs : Srt l) (hc : ∀ x ∈ l, checkR t x.f0.f0 x.f0.f1 x.f1 = none) (hn : l.length < 1099511627776) (hk : l.length + 1 < k) : set_Set_Check.f k l t = some none := by
 unfold set_Set_Check.f
 rw [lGood_f, decide_eq_true ⟨h1, h3⟩]
 simp only [Option.bind_some, ↓reduceIte]
 have := chk_l0 l t hs hc hn l.length k 0 (by omega) hk
 simpa using this
end Go.Proofs.YtaeenefdbahfoaaDoor
