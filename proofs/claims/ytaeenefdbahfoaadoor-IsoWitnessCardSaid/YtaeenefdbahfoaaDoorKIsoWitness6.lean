/- Parts of the proof of IsoWitness, merged out of our texts by wip/tools/pack.py. -/
import Derived.Test.YtaeenefdbahfoaaDoorKIsoWitness1
import Derived.Test.YtaeenefdbahfoaaDoorKIsoWitness2
import Derived.Test.YtaeenefdbahfoaaDoorKIsoWitness5
namespace Go.Proofs.YtaeenefdbahfoaaDoor
set_option linter.unusedSimpArgs false
set_option linter.unusedVariables false
set_option maxRecDepth 100000
set_option maxHeartbeats 16000000
open Go.RowKit Go.Proofs.YtaeenefdbahfoaaDoorW.PrintWords Go.Proofs.YtaeenefdbahfoaaDoorW.PrintLast Go.Proofs.YtaeenefdbahfoaaDoorW.PrintMore
namespace H
attribute [local go_sem] max2_int min2_int max_two min_two max_three min_three max_four min_four
attribute [local go_sem high] eqA60
def honeycombref04_Has.l0 : Nat → List (S60) → Int → Int → Int → Int → Int → Option (Bool)
 | 0, _, _, _, _, _, _ => none
 | k + 1, x7, x8, x9, x378000, x378001, x378002 => if x9 < x8 then (if 0 ≤ x9 then (if x9 < (x7.length : Int) then (if (((rd_T60 x7 x9).f0) == x378000 && (((rd_T60 x7 x9).f1) == x378001 && (((rd_T60 x7 x9).f2) == x378002))) = true then (some true) else (honeycombref04_Has.l0 k x7 x8 (wrap64 (x9 + 1)) x378000 x378001 x378002)) else (none)) else (none)) else (some false)
def honeycombref04_Has.f (k : Nat) (l0 : List (S60)) (a1_0 : Int) (a1_1 : Int) (a1_2 : Int) : Option (Bool) := honeycombref04_Has.l0 k l0 (l0.length : Int) 0 a1_0 a1_1 a1_2
theorem honeycombref04_Has.calls (k : Nat) (A0 : Option Addr) (c0 : Nat) (l0 : List (S60)) (a1_0 : Int) (a1_1 : Int) (a1_2 : Int) (r : Bool) (w : World) (hr0 : Kd.C k60 w A0 l0.length l0) (hc0 : l0.length ≤ c0) (h : honeycombref04_Has.f k l0 a1_0 a1_1 a1_2 = some r) :
  Calls Tryd.prog 63 #[.slice A0 l0.length c0, .agg #[.int .i64 a1_0, .int .i64 a1_1, .int .i64 a1_2]] w fun e w' => e = .returned (.bool r) ∧ Below w.heap.size w w' := by
 have hu60 := Tryd.underlying60
 have HR0 := Aside0.mk hr0
 have HC0 := Aside0.mk hc0
 clear hr0 hc0
 have HB := Aside0.mk (Below.refl w.heap.size w)
 have H : (honeycombref04_Has.l0 k l0 (l0.length : Int) 0 a1_0 a1_1 a1_2) = some r := h
 clear h
 have H' := Aside0.mk H
 clear H
 go_enter Tryd.func63, Tryd.ntmps63
 go_wp2_with (first | ((with_reducible refine gate_dst (N := 3) rfl ?_); refine bx_ 3 #[.int .i64 a1_0, .int .i64 a1_1, .int .i64 a1_2] 60 ?_; intro gb377 hg w3 hbox hb; have BK377 := Aside0.mk (hbox); have GW377 := Aside0.mk ((by rw [hg]; exact (below_size hb_) : w.heap.size ≤ gb377)); have GE377 := GW377; replace HB := Aside0.mk (below_step hb_ hb); clear hb hbox hg))
 go_loopg [9] k (fun kq v9 w' => ∃ (x9_1 : Int), v9 = .int .i64 x9_1 ∧ Aside0 (honeycombref04_Has.l0 kq l0 (l0.length : Int) x9_1 a1_0 a1_1 a1_2 = some r) ∧ Aside0 (kq ≤ k) ∧ Aside0 (w'.heap[gb377]? = some (.cells #[.int .i64 a1_0, .int .i64 a1_1, .int .i64 a1_2] 60 (0, 0))) ∧ Aside0 (Below w.heap.size w w'))
 case atStart => exact ⟨(0), rs_, H', ⟨Nat.le_refl _⟩, ⟨bk_ BK377.out⟩, ⟨by repeat (first | (with_reducible first | exact HB.out | apply ba_ | apply bn_ | apply bd_ | refine below_set ?_ GE377.out) | exact HB.out)⟩⟩
 case round =>
  clear H'
  try clear p2
  obtain ⟨x9_1, rfl, HA, HK1, BK377, HB⟩ := hrel
  cases gk with
  | zero => exact absurd HA.out (by simp [honeycombref04_Has.l0])
  | succ k1 =>
   have H := HA.out
   clear HA
   simp only [honeycombref04_Has.l0] at H
   by_cases c4 : x9_1 < (l0.length : Int)
   rotate_left
   ·
    rw [if_neg c4] at H
    have c4b0 : decide (x9_1 < (l0.length : Int)) = false := decide_eq_false c4
    clear c4
    obtain rfl := Option.some.inj H
    go_wp2
    go_ret
    exact ⟨er_, hg_ GE377.out⟩
   rw [if_pos c4] at H
   have c4b0 : decide (x9_1 < (l0.length : Int)) = true := decide_eq_true c4
   clear c4
   by_cases c5 : 0 ≤ x9_1
   rotate_left
   ·
    rw [if_neg c5] at H
    exact absurd H (by simp)
   rw [if_pos c5] at H
   have c5b0 : decide (0 ≤ x9_1) = true := decide_eq_true c5
   clear c5
   by_cases c6 : x9_1 < (l0.length : Int)
   rotate_left
   ·
    rw [if_neg c6] at H
    exact absurd H (by simp)
   rw [if_pos c6] at H
   have c6b0 : decide (x9_1 < (l0.length : Int)) = true := decide_eq_true c6
   clear c6
   by_cases c7 : (((rd_T60 l0 x9_1).f0) == a1_0 && (((rd_T60 l0 x9_1).f1) == a1_1 && (((rd_T60 l0 x9_1).f2) == a1_2))) = true
   ·
    rw [if_pos c7] at H
    have c7b0 : (((rd_T60 l0 x9_1).f0) == a1_0 && (((rd_T60 l0 x9_1).f1) == a1_1 && (((rd_T60 l0 x9_1).f2) == a1_2))) = true := c7
    (try (have c7b1 : decide (((rd_T60 l0 x9_1).f0) = a1_0 && (((rd_T60 l0 x9_1).f1) == a1_1 && (((rd_T60 l0 x9_1).f2) == a1_2))) = true := by simpa using c7))
    (try (have c7b2 : (((rd_T60 l0 x9_1).f0) == a1_0 && (((rd_T60 l0 x9_1).f1) == a1_1 && (((rd_T60 l0 x9_1).f2) == a1_2))) = true := by simpa using c7))
    clear c7
    obtain rfl := Option.some.inj H
    have p378 : 0 ≤ (x9_1 : Int) := of_decide_eq_true as_
    have q378 : x9_1 < (l0.length : Int) := of_decide_eq_true as_
    obtain ⟨ad378, e378, hx378_0, hx378_1, hx378_2⟩ := at_T60 HR0.out x9_1 p378 q378
    cases e378
    try replace hx378_0 := (HB.out.cell (World.block_lt_of_cell? w _ hx378_0)).trans hx378_0
    try replace hx378_1 := (HB.out.cell (World.block_lt_of_cell? w _ hx378_1)).trans hx378_1
    try replace hx378_2 := (HB.out.cell (World.block_lt_of_cell? w _ hx378_2)).trans hx378_2
    replace p378 := eq_true p378
    replace q378 := eq_true q378
    go_wp2_with (first | ((with_reducible refine gate_dst (N := 6) rfl ?_); refine bx_ 6 #[.int .i64 0, .int .i64 0, .int .i64 0] 60 ?_; intro gb379 hg w8 hbox hb; have BK379 := Aside0.mk (hbox); have GW379 := Aside0.mk ((by rw [hg]; exact (below_size (hg_ GE377.out)) : w.heap.size ≤ gb379)); have GE379 := GW379; have NB377_379 := Aside0.mk ((by rw [hg]; exact ne1_ BK377.out : gb377 ≠ gb379)); have NB379_377 := Aside0.mk ((by rw [hg]; exact ne2_ BK377.out : gb379 ≠ gb377)); replace BK377 := bb_ BK377.out hb; replace HB := Aside0.mk (below_step (hg_ GE377.out) hb); clear hb hbox hg; have hnb9 := NB379_377.out; have hnc9 := NB377_379.out; obtain ⟨hcz10_0, hcz10_1, hcz10_2⟩ := cz3_ BK379.out; obtain ⟨hfz10_0, hfz10_1, hfz10_2⟩ := fz3_ BK379.out; obtain ⟨hcz11_0, hcz11_1, hcz11_2⟩ := cz3_ BK377.out; obtain ⟨hfz11_0, hfz11_1, hfz11_2⟩ := fz3_ BK377.out))
    go_ret
    exact ⟨er_, hg2_ GE377.out GE379.out⟩
   rw [if_neg c7] at H
   have c7b0 : (((rd_T60 l0 x9_1).f0) == a1_0 && (((rd_T60 l0 x9_1).f1) == a1_1 && (((rd_T60 l0 x9_1).f2) == a1_2))) = false := by simpa using c7
   (try (have c7b1 : decide (((rd_T60 l0 x9_1).f0) = a1_0 && (((rd_T60 l0 x9_1).f1) == a1_1 && (((rd_T60 l0 x9_1).f2) == a1_2))) = false := by simpa using c7))
   (try (have c7b2 : (((rd_T60 l0 x9_1).f0) == a1_0 && (((rd_T60 l0 x9_1).f1) == a1_1 && (((rd_T60 l0 x9_1).f2) == a1_2))) = false := by simpa using c7))
   (try (have c7b3 : ¬ (((rd_T60 l0 x9_1).f0) = a1_0 && (((rd_T60 l0 x9_1).f1) == a1_1 && (((rd_T60 l0 x9_1).f2) == a1_2))) := by simpa using c7))
   clear c7
   have H' := Aside0.mk H
   clear H
   have p378 : 0 ≤ (x9_1 : Int) := of_decide_eq_true as_
   have q378 : x9_1 < (l0.length : Int) := of_decide_eq_true as_
   obtain ⟨ad378, e378, hx378_0, hx378_1, hx378_2⟩ := at_T60 HR0.out x9_1 p378 q378
   cases e378
   try replace hx378_0 := (HB.out.cell (World.block_lt_of_cell? w _ hx378_0)).trans hx378_0
   try replace hx378_1 := (HB.out.cell (World.block_lt_of_cell? w _ hx378_1)).trans hx378_1
   try replace hx378_2 := (HB.out.cell (World.block_lt_of_cell? w _ hx378_2)).trans hx378_2
   replace p378 := eq_true p378
   replace q378 := eq_true q378
   go_wp2_with (first | ((with_reducible refine gate_dst (N := 6) rfl ?_); refine bx_ 6 #[.int .i64 0, .int .i64 0, .int .i64 0] 60 ?_; intro gb379 hg w12 hbox hb; have BK379 := Aside0.mk (hbox); have GW379 := Aside0.mk ((by rw [hg]; exact (below_size (hg_ GE377.out)) : w.heap.size ≤ gb379)); have GE379 := GW379; have NB377_379 := Aside0.mk ((by rw [hg]; exact ne1_ BK377.out : gb377 ≠ gb379)); have NB379_377 := Aside0.mk ((by rw [hg]; exact ne2_ BK377.out : gb379 ≠ gb377)); replace BK377 := bb_ BK377.out hb; replace HB := Aside0.mk (below_step (hg_ GE377.out) hb); clear hb hbox hg; have hnb13 := NB379_377.out; have hnc13 := NB377_379.out; obtain ⟨hcz14_0, hcz14_1, hcz14_2⟩ := cz3_ BK379.out; obtain ⟨hfz14_0, hfz14_1, hfz14_2⟩ := fz3_ BK379.out; obtain ⟨hcz15_0, hcz15_1, hcz15_2⟩ := cz3_ BK377.out; obtain ⟨hfz15_0, hfz15_1, hfz15_2⟩ := fz3_ BK377.out))
   go_roundg k1
   case measure => have := HK1.out; omega
   case rel => exact ⟨(wrap64 (x9_1 + 1)), rs_, H', ⟨by have := HK1.out; omega⟩, ⟨by (with_reducible repeat (first | apply bN_ | apply bD_ | apply bA_)); refine blk_far ?_ NB377_379.out _; (with_reducible repeat (first | apply bN_ | apply bD_ | apply bA_)); refine blk_far ?_ NB377_379.out _; (with_reducible repeat (first | apply bN_ | apply bD_ | apply bA_)); refine blk_far ?_ NB377_379.out _; (with_reducible repeat (first | apply bN_ | apply bD_ | apply bA_)); exact BK377.out⟩, ⟨by repeat (first | (with_reducible first | exact HB.out | apply ba_ | apply bn_ | apply bd_ | refine below_set ?_ GE377.out | refine below_set ?_ GE379.out) | exact HB.out)⟩⟩
mutual
def honeycombref04_Put.l0 : Nat → List (S60) → Bool → List (S60) → Int → Int → Int → Int → Int → Option ((List (S60)))
 | 0, _, _, _, _, _, _, _, _ => none
 | k + 1, x5, x6, x10, x11, x12, x451000, x451001, x451002 => if x12 < x11 then (if 0 ≤ x12 then (if x12 < (x10.length : Int) then (if x6 = true then (honeycombref04_Put.j1 k x5 x6 x10 x11 x12 false x451000 x451001 x451002 ((rd_T60 x10 x12).f0) ((rd_T60 x10 x12).f1) ((rd_T60 x10 x12).f2)) else ((honeycombref03_Ahead.f ((rd_T60 x10 x12).f0) ((rd_T60 x10 x12).f1) ((rd_T60 x10 x12).f2) x451000 x451001 x451002).bind fun t456 => (honeycombref04_Put.j1 k x5 x6 x10 x11 x12 (!t456) x451000 x451001 x451002 ((rd_T60 x10 x12).f0) ((rd_T60 x10 x12).f1) ((rd_T60 x10 x12).f2)))) else (none)) else (none)) else (if x6 = true then (some x5) else (if x5.length < 5864062014805 then (some (x5 ++ [(⟨x451000, x451001, x451002⟩ : S60)])) else (none)))
def honeycombref04_Put.j1 : Nat → List (S60) → Bool → List (S60) → Int → Int → Bool → Int → Int → Int → Int → Int → Int → Option ((List (S60)))
 | 0, _, _, _, _, _, _, _, _, _, _, _, _ => none
 | k + 1, x5, x6, x10, x11, x12, x23, x451000, x451001, x451002, x456000, x456001, x456002 => if x23 = true then (if x5.length < 5864062014805 then (honeycombref04_Put.j2 k (x5 ++ [(⟨x451000, x451001, x451002⟩ : S60)]) true x10 x11 x12 x451000 x451001 x451002 x456000 x456001 x456002) else (none)) else (honeycombref04_Put.j2 k x5 x6 x10 x11 x12 x451000 x451001 x451002 x456000 x456001 x456002)
def honeycombref04_Put.j2 : Nat → List (S60) → Bool → List (S60) → Int → Int → Int → Int → Int → Int → Int → Int → Option ((List (S60)))
 | 0, _, _, _, _, _, _, _, _, _, _, _ => none
 | k + 1, x5, x6, x10, x11, x12, x451000, x451001, x451002, x456000, x456001, x456002 => if (!(x456000 == x451000) || (!(x456001 == x451001) || (!(x456002 == x451002)))) = true then (if x5.length < 5864062014805 then (honeycombref04_Put.l0 k (x5 ++ [(⟨x456000, x456001, x456002⟩ : S60)]) x6 x10 x11 (wrap64 (x12 + 1)) x451000 x451001 x451002) else (none)) else (honeycombref04_Put.l0 k x5 x6 x10 x11 (wrap64 (x12 + 1)) x451000 x451001 x451002)
end
def honeycombref04_Put.f (k : Nat) (l0 : List (S60)) (a1_0 : Int) (a1_1 : Int) (a1_2 : Int) : Option ((List (S60))) := honeycombref04_Put.l0 k (([] : List (S60))) false l0 (l0.length : Int) 0 a1_0 a1_1 a1_2
theorem honeycombref04_Put.calls (k : Nat) (A0 : Option Addr) (c0 : Nat) (l0 : List (S60)) (a1_0 : Int) (a1_1 : Int) (a1_2 : Int) (r : List (S60)) (w : World) (hr0 : Kd.C k60 w A0 l0.length l0) (hc0 : l0.length ≤ c0) (h : honeycombref04_Put.f k l0 a1_0 a1_1 a1_2 = some r) :
  Calls Tryd.prog 95 #[.slice A0 l0.length c0, .agg #[.int .i64 a1_0, .int .i64 a1_1, .int .i64 a1_2]] w fun e w' => ∃ v0_ : Value, e = .returned (v0_) ∧ Kd.R k60 60 w' w.heap.size (fun _ => True) v0_ r ∧ Below w.heap.size w w' := by
 have hu60 := Tryd.underlying60
 have HR0 := Aside0.mk hr0
 have HC0 := Aside0.mk hc0
 clear hr0 hc0
 have HB := Aside0.mk (Below.refl w.heap.size w)
 have H : (honeycombref04_Put.l0 k (([] : List (S60))) false l0 (l0.length : Int) 0 a1_0 a1_1 a1_2) = some r := h
 clear h
 obtain ⟨y451, hy451⟩ : ∃ y_ : List (S60), y_ = (([] : List (S60))) := ⟨_, rfl⟩
 replace H : (honeycombref04_Put.l0 k y451 false l0 (l0.length : Int) 0 a1_0 a1_1 a1_2) = some r := by first | (rw [hy451]; with_reducible exact H) | (have H2_ := (Option.bind_some _ _).symm.trans H; rw [hy451]; with_reducible exact H2_) | (have H2_ := (Option.bind_some _ _).symm.trans H; with_reducible exact H2_) | with_reducible exact H | (rw [hy451]; exact H) | exact H
 have Ny451 := Aside0.mk hy451
 clear hy451
 have H' := Aside0.mk H
 clear H
 go_enter Tryd.func95, Tryd.ntmps95
 go_wp2_with (first | ((with_reducible refine gate_dst (N := 3) rfl ?_); refine bx_ 3 #[.int .i64 a1_0, .int .i64 a1_1, .int .i64 a1_2] 60 ?_; intro gb450 hg w3 hbox hb; have BK450 := Aside0.mk (hbox); have GW450 := Aside0.mk ((by rw [hg]; exact (below_size hb_) : w.heap.size ≤ gb450)); have GE450 := GW450; replace HB := Aside0.mk (below_step hb_ hb); clear hb hbox hg) | ((with_reducible refine gate_dst (N := 9) rfl ?_); refine rs1_ k60 60 9 ([] : List (S60)) [] (Reps.none _ _) ?_; intro v452 w4 ho5 hb; (first | rw [← Ny451.out] at ho5 | (simp only [Int.reduceToNat] at ho5; rw [← Ny451.out] at ho5)); have HO453 := Aside0.mk (Kd.R_lower (Kd.R_newB ho5 (g := gb450) (o := .cells #[.int .i64 a1_0, .int .i64 a1_1, .int .i64 a1_2] 60 (0, 0)) (bk_ BK450.out)) (below_size (hg_ GE450.out))); replace BK450 := bb_ BK450.out hb; replace HB := Aside0.mk (below_step (hg_ GE450.out) hb); clear hb ho5))
 go_loopg [5, 6, 12] k (fun kq v5 v6 v12 w' => ∃ (x5_1 : List (S60)) (x6_1 : Bool) (x12_1 : Int), v6 = .bool x6_1 ∧ v12 = .int .i64 x12_1 ∧ Aside0 (honeycombref04_Put.l0 kq x5_1 x6_1 l0 (l0.length : Int) x12_1 a1_0 a1_1 a1_2 = some r) ∧ Aside0 (kq ≤ k) ∧ Aside0 (Kd.R k60 60 w' w.heap.size (fun k_ => k_ ≠ gb450) v5 x5_1) ∧ Aside0 (w'.heap[gb450]? = some (.cells #[.int .i64 a1_0, .int .i64 a1_1, .int .i64 a1_2] 60 (0, 0))) ∧ Aside0 (Below w.heap.size w w'))
 case atStart => exact ⟨(y451), (false), (0), rs_, rs_, H', ⟨Nat.le_refl _⟩, ⟨by (with_reducible repeat (first | apply Kd.R_alloc | apply Kd.R_drewN | apply Kd.R_drew)); exact Kd.R_mono HO453.out (fun _ hk => hk.2)⟩, ⟨bk_ BK450.out⟩, ⟨by repeat (first | (with_reducible first | exact HB.out | apply ba_ | apply bn_ | apply bd_ | refine below_set ?_ GE450.out) | exact HB.out)⟩⟩
 case round =>
  clear H'
  try clear p2
  obtain ⟨x5_1, x6_1, x12_1, rfl, rfl, HA, HK1, HO_5, BK450, HB⟩ := hrel
  cases gk with
  | zero => exact absurd HA.out (by simp [honeycombref04_Put.l0])
  | succ k1 =>
   have H := HA.out
   clear HA
   simp only [honeycombref04_Put.l0] at H
   by_cases c6 : x12_1 < (l0.length : Int)
   rotate_left
   ·
    rw [if_neg c6] at H
    have c6b0 : decide (x12_1 < (l0.length : Int)) = false := decide_eq_false c6
    clear c6
    by_cases c34 : x6_1 = true
    ·
     subst c34
     have H1 : (some x5_1) = some r := by rw [if_pos rfl] at H; exact H
     clear H
     have H := H1
     clear H1
     obtain rfl := Option.some.inj H
     go_wp2
     go_ret
     exact ⟨_, by first | rfl | (simp [errW_none, errW_some] <;> rfl) | (simp [*, errW_none, errW_some] <;> rfl), by (with_reducible repeat (first | apply Kd.R_alloc | apply Kd.R_drewN | apply Kd.R_drew)); exact Kd.R_mono HO_5.out (fun _ hk => trivial), by repeat (first | (with_reducible first | exact HB.out | apply ba_ | apply bn_ | apply bd_ | refine below_set ?_ GE450.out) | exact HB.out)⟩
    replace c34 := Bool.eq_false_iff.mpr c34
    subst c34
    have H1 : (if x5_1.length < 5864062014805 then (some (x5_1 ++ [(⟨a1_0, a1_1, a1_2⟩ : S60)])) else (none)) = some r := by rw [if_neg (show ¬ (false = true) by decide)] at H; exact H
    clear H
    have H := H1
    clear H1
    by_cases c35 : x5_1.length < 5864062014805
    rotate_left
    ·
     rw [if_neg c35] at H
     exact absurd H (by simp)
    rw [if_pos c35] at H
    have LMc35 := Aside0.mk c35
    clear c35
    obtain ⟨y463, hy463⟩ : ∃ y_ : List (S60), y_ = (x5_1 ++ [(⟨a1_0, a1_1, a1_2⟩ : S60)]) := ⟨_, rfl⟩
    replace H : (some y463) = some r := by first | (rw [hy463]; with_reducible exact H) | (have H2_ := (Option.bind_some _ _).symm.trans H; rw [hy463]; with_reducible exact H2_) | (have H2_ := (Option.bind_some _ _).symm.trans H; with_reducible exact H2_) | with_reducible exact H | (rw [hy463]; exact H) | exact H
    have Ny463 := Aside0.mk hy463
    clear hy463
    obtain rfl := Option.some.inj H
    obtain ⟨hcz36_0, hcz36_1, hcz36_2⟩ := cz3_ BK450.out
    obtain ⟨hfz36_0, hfz36_1, hfz36_2⟩ := fz3_ BK450.out
    go_wp2_with (first | ((with_reducible refine gate_builtin (b := .append) (xs := #[.tmp 38, .tmp 40]) rfl ?_); at_builtin; refine Kd.R_append k60 (w0 := w) w.heap.size rfl (.tmp 38) (.tmp 40) 45 60 (.agg #[(.int .i64 0), (.int .i64 0), (.int .i64 0)]) 24 rfl Tryd.underlying45 info60 rfl (by decide) (by omega) u5 x5_1 (⟨a1_0, a1_1, a1_2⟩ : S60) [.int .i64 a1_0, .int .i64 a1_1, .int .i64 a1_2] (fun k_ => k_ ≠ gb450) (fun _ => False) rfl rfl ?aP (fun _ hk => hk.elim) ?aF ?aO ?aB ?aS ?aL ?_; (case aP => exact k60_mkM _ _ _ (⟨a1_0, a1_1, a1_2⟩ : S60)); (case aB => exact (hg_ GE450.out)); (case aF => exact (fun k_ hk => Kd.freshB (g := gb450) (o := .cells #[.int .i64 a1_0, .int .i64 a1_1, .int .i64 a1_2] 60 (0, 0)) (bk_ BK450.out) k_ hk)); (case aO => exact (kr_ HO_5.out)); (case aS => exact (below_size (hg_ GE450.out))); (case aL => have := LMc35.out; omega); intro v464 w37 ho hb hg hat; rw [← Ny463.out] at ho; have HO465 := Aside0.mk (ho); replace BK450 := Aside0.mk (blk_grown (g := gb450) (o := .cells #[.int .i64 a1_0, .int .i64 a1_1, .int .i64 a1_2] 60 (0, 0)) (bk_ BK450.out) hg (Kd.R_away HO_5.out (fun _ hk => hk))); replace HB := Aside0.mk (hb); clear HO_5; clear ho hb hg hat))
    go_ret
    exact ⟨_, by first | rfl | (simp [errW_none, errW_some] <;> rfl) | (simp [*, errW_none, errW_some] <;> rfl), by (with_reducible repeat (first | apply Kd.R_alloc | apply Kd.R_drewN | apply Kd.R_drew)); exact Kd.R_mono HO465.out (fun _ hk => trivial), by repeat (first | (with_reducible first | exact HB.out | apply ba_ | apply bn_ | apply bd_ | refine below_set ?_ GE450.out) | exact HB.out)⟩
   rw [if_pos c6] at H
   have c6b0 : decide (x12_1 < (l0.length : Int)) = true := decide_eq_true c6
   clear c6
   by_cases c7 : 0 ≤ x12_1
   rotate_left
   ·
    rw [if_neg c7] at H
    exact absurd H (by simp)
   rw [if_pos c7] at H
   have c7b0 : decide (0 ≤ x12_1) = true := decide_eq_true c7
   clear c7
   by_cases c8 : x12_1 < (l0.length : Int)
   rotate_left
   ·
    rw [if_neg c8] at H
    exact absurd H (by simp)
   rw [if_pos c8] at H
   have c8b0 : decide (x12_1 < (l0.length : Int)) = true := decide_eq_true c8
   clear c8
   have HC9 := Aside0.mk H
   clear H
   have p454 : 0 ≤ (x12_1 : Int) := of_decide_eq_true as_
   have q454 : x12_1 < (l0.length : Int) := of_decide_eq_true as_
   obtain ⟨ad454, e454, hx454_0, hx454_1, hx454_2⟩ := at_T60 HR0.out x12_1 p454 q454
   cases e454
   try replace hx454_0 := (HB.out.cell (World.block_lt_of_cell? w _ hx454_0)).trans hx454_0
   try replace hx454_1 := (HB.out.cell (World.block_lt_of_cell? w _ hx454_1)).trans hx454_1
   try replace hx454_2 := (HB.out.cell (World.block_lt_of_cell? w _ hx454_2)).trans hx454_2
   replace p454 := eq_true p454
   replace q454 := eq_true q454
   go_upto_region 6 with (first | ((with_reducible refine gate_dst (N := 8) rfl ?_); refine bx_ 8 #[.int .i64 0, .int .i64 0, .int .i64 0] 60 ?_; intro gb455 hg w10 hbox hb; have BK455 := Aside0.mk (hbox); have GW455 := Aside0.mk ((by rw [hg]; exact (below_size (hg_ GE450.out)) : w.heap.size ≤ gb455)); have GE455 := GW455; have NB450_455 := Aside0.mk ((by rw [hg]; exact ne1_ BK450.out : gb450 ≠ gb455)); have NB455_450 := Aside0.mk ((by rw [hg]; exact ne2_ BK450.out : gb455 ≠ gb450)); replace HO_5 := Aside0.mk (Kd.R_below (Kd.R_elderB (kr_ HO_5.out) gb455 (Nat.le_of_eq hg.symm)) hb); replace BK450 := bb_ BK450.out hb; replace HB := Aside0.mk (below_step (hg_ GE450.out) hb); clear hb hbox hg; have hnb11 := NB455_450.out; have hnc11 := NB450_455.out; obtain ⟨hcz12_0, hcz12_1, hcz12_2⟩ := cz3_ BK455.out; obtain ⟨hfz12_0, hfz12_1, hfz12_2⟩ := fz3_ BK455.out))
   (try simp only [Act.put, List.setIfInBounds_toArray, List.set_cons_zero, List.set_cons_succ])
   go_cut [23] (fun v23 wc => ∃ (kq : Nat) (x23_8 : Bool), v23 = .bool x23_8 ∧ Aside0 (honeycombref04_Put.j1 kq x5_1 x6_1 l0 (l0.length : Int) x12_1 x23_8 a1_0 a1_1 a1_2 ((rd_T60 l0 x12_1).f0) ((rd_T60 l0 x12_1).f1) ((rd_T60 l0 x12_1).f2) = some r) ∧ Aside0 (kq ≤ k1) ∧ Aside0 (Kd.R k60 60 wc w.heap.size (fun k_ => k_ ≠ gb450 ∧ k_ ≠ gb455) u5 x5_1) ∧ Aside0 (wc.heap[gb450]? = some (.cells #[.int .i64 a1_0, .int .i64 a1_1, .int .i64 a1_2] 60 (0, 0))) ∧ Aside0 (wc.heap[gb455]? = some (.cells #[.int .i64 ((rd_T60 l0 x12_1).f0), .int .i64 ((rd_T60 l0 x12_1).f1), .int .i64 ((rd_T60 l0 x12_1).f2)] 60 (0, 0))) ∧ Aside0 (Below w.heap.size w wc))
   case first =>
    have H := HC9.out
    clear HC9
    by_cases c13 : x6_1 = true
    ·
     subst c13
     have H1 : (honeycombref04_Put.j1 k1 x5_1 true l0 (l0.length : Int) x12_1 false a1_0 a1_1 a1_2 ((rd_T60 l0 x12_1).f0) ((rd_T60 l0 x12_1).f1) ((rd_T60 l0 x12_1).f2)) = some r := by rw [if_pos rfl] at H; exact H
     clear H
     have H := H1
     clear H1
     have H' := Aside0.mk H
     clear H
     go_wp2
     go_meet
     case rel => exact ⟨_, (false), rs_, H', ⟨by have := HK1.out; first | omega | exact Nat.le_refl _⟩, ⟨by (with_reducible repeat (first | apply Kd.R_alloc | apply Kd.R_drewN | apply Kd.R_drew)); exact Kd.R_mono (Kd.R_far (p := ⟨gb455, 2, none⟩) (Kd.R_far (p := ⟨gb455, 1, none⟩) (Kd.R_far (p := ⟨gb455, 0, none⟩) (Kd.R_mono HO_5.out (fun k_ hk => (⟨hk, hk.2⟩ : _ ∧ k_ ≠ gb455))) (fun _ hk => hk.2) (.int .i64 ((rd_T60 l0 x12_1).f0))) (fun _ hk => hk.2) (.int .i64 ((rd_T60 l0 x12_1).f1))) (fun _ hk => hk.2) (.int .i64 ((rd_T60 l0 x12_1).f2))) (fun _ hk => ⟨hk.1.1, hk.1.2⟩)⟩, ⟨by (with_reducible repeat (first | apply bN_ | apply bD_ | apply bA_)); refine blk_far ?_ NB450_455.out _; (with_reducible repeat (first | apply bN_ | apply bD_ | apply bA_)); refine blk_far ?_ NB450_455.out _; (with_reducible repeat (first | apply bN_ | apply bD_ | apply bA_)); refine blk_far ?_ NB450_455.out _; (with_reducible repeat (first | apply bN_ | apply bD_ | apply bA_)); exact BK450.out⟩, ⟨by (with_reducible repeat (first | apply bN_ | apply bD_ | apply bA_)); refine blk_put (cs := #[.int .i64 ((rd_T60 l0 x12_1).f0), .int .i64 ((rd_T60 l0 x12_1).f1), .int .i64 0]) ?_ 2 _ rfl; (with_reducible repeat (first | apply bN_ | apply bD_ | apply bA_)); refine blk_put (cs := #[.int .i64 ((rd_T60 l0 x12_1).f0), .int .i64 0, .int .i64 0]) ?_ 1 _ rfl; (with_reducible repeat (first | apply bN_ | apply bD_ | apply bA_)); refine blk_put (cs := #[.int .i64 0, .int .i64 0, .int .i64 0]) ?_ 0 _ rfl; (with_reducible repeat (first | apply bN_ | apply bD_ | apply bA_)); exact BK455.out⟩, ⟨by repeat (first | (with_reducible first | exact HB.out | apply ba_ | apply bn_ | apply bd_ | refine below_set ?_ GE450.out | refine below_set ?_ GE455.out) | exact HB.out)⟩⟩
    replace c13 := Bool.eq_false_iff.mpr c13
    subst c13
    have H1 : ((honeycombref03_Ahead.f ((rd_T60 l0 x12_1).f0) ((rd_T60 l0 x12_1).f1) ((rd_T60 l0 x12_1).f2) a1_0 a1_1 a1_2).bind fun t456 => (honeycombref04_Put.j1 k1 x5_1 false l0 (l0.length : Int) x12_1 (!t456) a1_0 a1_1 a1_2 ((rd_T60 l0 x12_1).f0) ((rd_T60 l0 x12_1).f1) ((rd_T60 l0 x12_1).f2))) = some r := by rw [if_neg (show ¬ (false = true) by decide)] at H; exact H
    clear H
    have H := H1
    clear H1
    replace H := Option.bind_eq_some_iff.mp H
    obtain ⟨t456, A140, H⟩ := H
    replace H : (honeycombref04_Put.j1 k1 x5_1 false l0 (l0.length : Int) x12_1 (!t456) a1_0 a1_1 a1_2 ((rd_T60 l0 x12_1).f0) ((rd_T60 l0 x12_1).f1) ((rd_T60 l0 x12_1).f2)) = some r := H
    have A14 := Aside0.mk A140
    clear A140
    have H' := Aside0.mk H
    clear H
    have hnb15 := NB455_450.out
    have hnc15 := NB450_455.out
    obtain ⟨hcz16_0, hcz16_1, hcz16_2⟩ := cz3_ BK455.out
    obtain ⟨hfz16_0, hfz16_1, hfz16_2⟩ := fz3_ BK455.out
    obtain ⟨hcz17_0, hcz17_1, hcz17_2⟩ := cz3_ BK450.out
    obtain ⟨hfz17_0, hfz17_1, hfz17_2⟩ := fz3_ BK450.out
    go_wp2_with (first | (go_at_call 84; (with_reducible refine (honeycombref03_Ahead.calls ((rd_T60 l0 x12_1).f0) ((rd_T60 l0 x12_1).f1) ((rd_T60 l0 x12_1).f2) a1_0 a1_1 a1_2 t456 _ A14.out).mono ?_); rintro e w18 ⟨rfl, hb⟩; replace HO_5 := Aside0.mk (Kd.R_below (by (with_reducible repeat (first | apply Kd.R_alloc | apply Kd.R_drewN | apply Kd.R_drew)); exact (Kd.R_mono (Kd.R_far (p := ⟨gb455, 2, none⟩) (Kd.R_far (p := ⟨gb455, 1, none⟩) (Kd.R_far (p := ⟨gb455, 0, none⟩) (Kd.R_mono HO_5.out (fun k_ hk => (⟨hk, hk.2⟩ : _ ∧ k_ ≠ gb455))) (fun _ hk => hk.2) (.int .i64 ((rd_T60 l0 x12_1).f0))) (fun _ hk => hk.2) (.int .i64 ((rd_T60 l0 x12_1).f1))) (fun _ hk => hk.2) (.int .i64 ((rd_T60 l0 x12_1).f2))) (fun _ h_ => h_.1))) hb); replace BK450 := Aside0.mk (blk_below (g := gb450) (o := .cells #[.int .i64 a1_0, .int .i64 a1_1, .int .i64 a1_2] 60 (0, 0)) (by (with_reducible repeat (first | apply bN_ | apply bD_ | apply bA_)); refine blk_far ?_ NB450_455.out _; (with_reducible repeat (first | apply bN_ | apply bD_ | apply bA_)); refine blk_far ?_ NB450_455.out _; (with_reducible repeat (first | apply bN_ | apply bD_ | apply bA_)); refine blk_far ?_ NB450_455.out _; (with_reducible repeat (first | apply bN_ | apply bD_ | apply bA_)); exact BK450.out) hb); replace BK455 := Aside0.mk (blk_below (g := gb455) (o := .cells #[.int .i64 ((rd_T60 l0 x12_1).f0), .int .i64 ((rd_T60 l0 x12_1).f1), .int .i64 ((rd_T60 l0 x12_1).f2)] 60 (0, 0)) (by (with_reducible repeat (first | apply bN_ | apply bD_ | apply bA_)); refine blk_put (cs := #[.int .i64 ((rd_T60 l0 x12_1).f0), .int .i64 ((rd_T60 l0 x12_1).f1), .int .i64 0]) ?_ 2 _ rfl; (with_reducible repeat (first | apply bN_ | apply bD_ | apply bA_)); refine blk_put (cs := #[.int .i64 ((rd_T60 l0 x12_1).f0), .int .i64 0, .int .i64 0]) ?_ 1 _ rfl; (with_reducible repeat (first | apply bN_ | apply bD_ | apply bA_)); refine blk_put (cs := #[.int .i64 0, .int .i64 0, .int .i64 0]) ?_ 0 _ rfl; (with_reducible repeat (first | apply bN_ | apply bD_ | apply bA_)); exact BK455.out) hb); replace HB := Aside0.mk (below_step (hg2_ GE450.out GE455.out) hb); (try clear hb); (try clear hb2); (try clear hk); (try clear hi)))
    go_meet
    case rel => exact ⟨_, (!t456), rs_, H', ⟨by have := HK1.out; first | omega | exact Nat.le_refl _⟩, ⟨kr_ HO_5.out⟩, ⟨bk_ BK450.out⟩, ⟨bk_ BK455.out⟩, ⟨by repeat (first | (with_reducible first | exact HB.out | apply ba_ | apply bn_ | apply bd_ | refine below_set ?_ GE450.out | refine below_set ?_ GE455.out) | exact HB.out)⟩⟩
   case rest =>
    clear HC9
    try clear c1
    try clear p2
    try clear p4
    try clear q4
    try clear hx4
    try clear c6
    try clear c6b0
    try clear c7
    try clear c7b0
    try clear c8
    try clear c8b0
    try clear c9
    try clear c11
    try clear c13
    try clear c15
    try clear hcz12_0
    try clear hcz12_1
    try clear hcz12_2
    try clear hcz16_0
    try clear hcz16_1
    try clear hcz16_2
    try clear hcz17_0
    try clear hcz17_1
    try clear hcz17_2
    try clear hfz12_0
    try clear hfz12_1
    try clear hfz12_2
    try clear hfz16_0
    try clear hfz16_1
    try clear hfz16_2
    try clear hfz17_0
    try clear hfz17_1
    try clear hfz17_2
    try clear hx454_0
    try clear hx454_1
    try clear hx454_2
    try clear p2
    try clear p454
    try clear q454
    obtain ⟨kq, x23_8, rfl, HA, HJ8, HO_5, BK450, BK455, HB⟩ := hcut
    cases kq with
    | zero => exact absurd HA.out (by simp [honeycombref04_Put.j1])
    | succ kj8 =>
     have H := HA.out
     clear HA
     simp only [honeycombref04_Put.j1] at H
     have HC19 := Aside0.mk H
     clear H
     go_upto_if 23 with (fail)
     go_cut [5, 6] (fun v5 v6 wc => ∃ (kq : Nat) (x5_18 : List (S60)) (x6_18 : Bool), v6 = .bool x6_18 ∧ Aside0 (honeycombref04_Put.j2 kq x5_18 x6_18 l0 (l0.length : Int) x12_1 a1_0 a1_1 a1_2 ((rd_T60 l0 x12_1).f0) ((rd_T60 l0 x12_1).f1) ((rd_T60 l0 x12_1).f2) = some r) ∧ Aside0 (kq ≤ kj8) ∧ Aside0 (Kd.R k60 60 wc w.heap.size (fun k_ => k_ ≠ gb450 ∧ k_ ≠ gb455) v5 x5_18) ∧ Aside0 (wc.heap[gb450]? = some (.cells #[.int .i64 a1_0, .int .i64 a1_1, .int .i64 a1_2] 60 (0, 0))) ∧ Aside0 (wc.heap[gb455]? = some (.cells #[.int .i64 ((rd_T60 l0 x12_1).f0), .int .i64 ((rd_T60 l0 x12_1).f1), .int .i64 ((rd_T60 l0 x12_1).f2)] 60 (0, 0))) ∧ Aside0 (Below w.heap.size w wc))
     case first =>
      have H := HC19.out
      clear HC19
      by_cases c20 : x23_8 = true
      rotate_left
      ·
       replace c20 := Bool.eq_false_iff.mpr c20
       subst c20
       have H1 : (honeycombref04_Put.j2 kj8 x5_1 x6_1 l0 (l0.length : Int) x12_1 a1_0 a1_1 a1_2 ((rd_T60 l0 x12_1).f0) ((rd_T60 l0 x12_1).f1) ((rd_T60 l0 x12_1).f2)) = some r := by rw [if_neg (show ¬ (false = true) by decide)] at H; exact H
       clear H
       have H := H1
       clear H1
       have H' := Aside0.mk H
       clear H
       go_wp2
       go_meet
       case rel => exact ⟨_, (x5_1), (x6_1), rs_, H', ⟨by have := HK1.out; have := HJ8.out; first | omega | exact Nat.le_refl _⟩, ⟨kr_ HO_5.out⟩, ⟨bk_ BK450.out⟩, ⟨bk_ BK455.out⟩, ⟨by repeat (first | (with_reducible first | exact HB.out | apply ba_ | apply bn_ | apply bd_ | refine below_set ?_ GE450.out | refine below_set ?_ GE455.out) | exact HB.out)⟩⟩
      subst c20
      have H1 : (if x5_1.length < 5864062014805 then (honeycombref04_Put.j2 kj8 (x5_1 ++ [(⟨a1_0, a1_1, a1_2⟩ : S60)]) true l0 (l0.length : Int) x12_1 a1_0 a1_1 a1_2 ((rd_T60 l0 x12_1).f0) ((rd_T60 l0 x12_1).f1) ((rd_T60 l0 x12_1).f2)) else (none)) = some r := by rw [if_pos rfl] at H; exact H
      clear H
      have H := H1
      clear H1
      by_cases c21 : x5_1.length < 5864062014805
      rotate_left
      ·
       rw [if_neg c21] at H
       exact absurd H (by simp)
      rw [if_pos c21] at H
      have LMc21 := Aside0.mk c21
      clear c21
      obtain ⟨y457, hy457⟩ : ∃ y_ : List (S60), y_ = (x5_1 ++ [(⟨a1_0, a1_1, a1_2⟩ : S60)]) := ⟨_, rfl⟩
      replace H : (honeycombref04_Put.j2 kj8 y457 true l0 (l0.length : Int) x12_1 a1_0 a1_1 a1_2 ((rd_T60 l0 x12_1).f0) ((rd_T60 l0 x12_1).f1) ((rd_T60 l0 x12_1).f2)) = some r := by first | (rw [hy457]; with_reducible exact H) | (have H2_ := (Option.bind_some _ _).symm.trans H; rw [hy457]; with_reducible exact H2_) | (have H2_ := (Option.bind_some _ _).symm.trans H; with_reducible exact H2_) | with_reducible exact H | (rw [hy457]; exact H) | exact H
      have Ny457 := Aside0.mk hy457
      clear hy457
      have H' := Aside0.mk H
      clear H
      have hnb22 := NB450_455.out
      have hnc22 := NB455_450.out
      obtain ⟨hcz23_0, hcz23_1, hcz23_2⟩ := cz3_ BK450.out
      obtain ⟨hfz23_0, hfz23_1, hfz23_2⟩ := fz3_ BK450.out
      go_wp2_with (first | ((with_reducible refine gate_builtin (b := .append) (xs := #[.tmp 24, .tmp 26]) rfl ?_); at_builtin; refine Kd.R_append k60 (w0 := w) w.heap.size rfl (.tmp 24) (.tmp 26) 45 60 (.agg #[(.int .i64 0), (.int .i64 0), (.int .i64 0)]) 24 rfl Tryd.underlying45 info60 rfl (by decide) (by omega) u5 x5_1 (⟨a1_0, a1_1, a1_2⟩ : S60) [.int .i64 a1_0, .int .i64 a1_1, .int .i64 a1_2] (fun k_ => k_ ≠ gb450 ∧ k_ ≠ gb455) (fun _ => False) rfl rfl ?aP (fun _ hk => hk.elim) ?aF ?aO ?aB ?aS ?aL ?_; (case aP => exact k60_mkM _ _ _ (⟨a1_0, a1_1, a1_2⟩ : S60)); (case aB => exact (hg2_ GE450.out GE455.out)); (case aF => exact (fun k_ hk => ⟨Kd.freshB (g := gb450) (o := .cells #[.int .i64 a1_0, .int .i64 a1_1, .int .i64 a1_2] 60 (0, 0)) (bk_ BK450.out) k_ hk, Kd.freshB (g := gb455) (o := .cells #[.int .i64 ((rd_T60 l0 x12_1).f0), .int .i64 ((rd_T60 l0 x12_1).f1), .int .i64 ((rd_T60 l0 x12_1).f2)] 60 (0, 0)) (bk_ BK455.out) k_ hk⟩)); (case aO => exact (kr_ HO_5.out)); (case aS => exact (below_size (hg2_ GE450.out GE455.out))); (case aL => have := LMc21.out; omega); intro v458 w24 ho hb hg hat; rw [← Ny457.out] at ho; have HO459 := Aside0.mk (ho); replace BK450 := Aside0.mk (blk_grown (g := gb450) (o := .cells #[.int .i64 a1_0, .int .i64 a1_1, .int .i64 a1_2] 60 (0, 0)) (bk_ BK450.out) hg (Kd.R_away HO_5.out (fun _ hk => hk.1))); replace BK455 := Aside0.mk (blk_grown (g := gb455) (o := .cells #[.int .i64 ((rd_T60 l0 x12_1).f0), .int .i64 ((rd_T60 l0 x12_1).f1), .int .i64 ((rd_T60 l0 x12_1).f2)] 60 (0, 0)) (bk_ BK455.out) hg (Kd.R_away HO_5.out (fun _ hk => hk.2))); replace HB := Aside0.mk (hb); clear HO_5; clear ho hb hg hat))
      go_meet
      case rel => exact ⟨_, (y457), (true), rs_, H', ⟨by have := HK1.out; have := HJ8.out; first | omega | exact Nat.le_refl _⟩, ⟨kr_ HO459.out⟩, ⟨bk_ BK450.out⟩, ⟨bk_ BK455.out⟩, ⟨by repeat (first | (with_reducible first | exact HB.out | apply ba_ | apply bn_ | apply bd_ | refine below_set ?_ GE450.out | refine below_set ?_ GE455.out) | exact HB.out)⟩⟩
     case rest =>
      clear HC19
      try clear c1
      try clear c2
      try clear p2
      try clear p4
      try clear q4
      try clear hx4
      try clear c6
      try clear c6b0
      try clear c7
      try clear c7b0
      try clear c8
      try clear c8b0
      try clear c9
      try clear c11
      try clear c13
      try clear c15
      try clear c20
      try clear c21
      try clear c22
      try clear hcz12_0
      try clear hcz12_1
      try clear hcz12_2
      try clear hcz16_0
      try clear hcz16_1
      try clear hcz16_2
      try clear hcz17_0
      try clear hcz17_1
      try clear hcz17_2
      try clear hcz23_0
      try clear hcz23_1
      try clear hcz23_2
      try clear hfz12_0
      try clear hfz12_1
      try clear hfz12_2
      try clear hfz16_0
      try clear hfz16_1
      try clear hfz16_2
      try clear hfz17_0
      try clear hfz17_1
      try clear hfz17_2
      try clear hfz23_0
      try clear hfz23_1
      try clear hfz23_2
      try clear hx454_0
      try clear hx454_1
      try clear hx454_2
      try clear p2
      try clear p4
      try clear p454
      try clear q4
      try clear q454
      obtain ⟨kq, x5_18, x6_18, rfl, HA, HJ18, HO_5, BK450, BK455, HB⟩ := hcut
      cases kq with
      | zero => exact absurd HA.out (by simp [honeycombref04_Put.j2])
      | succ kj18 =>
       have H := HA.out
       clear HA
       simp only [honeycombref04_Put.j2] at H
       by_cases c25 : (!(((rd_T60 l0 x12_1).f0) == a1_0) || (!(((rd_T60 l0 x12_1).f1) == a1_1) || (!(((rd_T60 l0 x12_1).f2) == a1_2)))) = true
       rotate_left
       ·
        rw [if_neg c25] at H
        have c25b0 : (!(((rd_T60 l0 x12_1).f0) == a1_0) || (!(((rd_T60 l0 x12_1).f1) == a1_1) || (!(((rd_T60 l0 x12_1).f2) == a1_2)))) = false := by simpa using c25
        clear c25
        have H' := Aside0.mk H
        clear H
        have hnb31 := NB455_450.out
        have hnc31 := NB450_455.out
        obtain ⟨hcz32_0, hcz32_1, hcz32_2⟩ := cz3_ BK455.out
        obtain ⟨hfz32_0, hfz32_1, hfz32_2⟩ := fz3_ BK455.out
        obtain ⟨hcz33_0, hcz33_1, hcz33_2⟩ := cz3_ BK450.out
        obtain ⟨hfz33_0, hfz33_1, hfz33_2⟩ := fz3_ BK450.out
        go_wp2
        go_roundg kj18
        case measure => have := HK1.out; have := HJ8.out; have := HJ18.out; omega
        case rel => exact ⟨(x5_18), (x6_18), (wrap64 (x12_1 + 1)), rs_, rs_, H', ⟨by have := HK1.out; have := HJ8.out; have := HJ18.out; omega⟩, ⟨by (with_reducible repeat (first | apply Kd.R_alloc | apply Kd.R_drewN | apply Kd.R_drew)); exact Kd.R_mono HO_5.out (fun _ hk => hk.1)⟩, ⟨bk_ BK450.out⟩, ⟨by repeat (first | (with_reducible first | exact HB.out | apply ba_ | apply bn_ | apply bd_ | refine below_set ?_ GE450.out | refine below_set ?_ GE455.out) | exact HB.out)⟩⟩
       rw [if_pos c25] at H
       have c25b0 : (!(((rd_T60 l0 x12_1).f0) == a1_0) || (!(((rd_T60 l0 x12_1).f1) == a1_1) || (!(((rd_T60 l0 x12_1).f2) == a1_2)))) = true := c25
       clear c25
       by_cases c26 : x5_18.length < 5864062014805
       rotate_left
       ·
        rw [if_neg c26] at H
        exact absurd H (by simp)
       rw [if_pos c26] at H
       have LMc26 := Aside0.mk c26
       clear c26
       obtain ⟨y460, hy460⟩ : ∃ y_ : List (S60), y_ = (x5_18 ++ [(⟨((rd_T60 l0 x12_1).f0), ((rd_T60 l0 x12_1).f1), ((rd_T60 l0 x12_1).f2)⟩ : S60)]) := ⟨_, rfl⟩
       replace H : (honeycombref04_Put.l0 kj18 y460 x6_18 l0 (l0.length : Int) (wrap64 (x12_1 + 1)) a1_0 a1_1 a1_2) = some r := by first | (rw [hy460]; with_reducible exact H) | (have H2_ := (Option.bind_some _ _).symm.trans H; rw [hy460]; with_reducible exact H2_) | (have H2_ := (Option.bind_some _ _).symm.trans H; with_reducible exact H2_) | with_reducible exact H | (rw [hy460]; exact H) | exact H
       have Ny460 := Aside0.mk hy460
       clear hy460
       have H' := Aside0.mk H
       clear H
       have hnb27 := NB455_450.out
       have hnc27 := NB450_455.out
       obtain ⟨hcz28_0, hcz28_1, hcz28_2⟩ := cz3_ BK455.out
       obtain ⟨hfz28_0, hfz28_1, hfz28_2⟩ := fz3_ BK455.out
       obtain ⟨hcz29_0, hcz29_1, hcz29_2⟩ := cz3_ BK450.out
       obtain ⟨hfz29_0, hfz29_1, hfz29_2⟩ := fz3_ BK450.out
       go_wp2_with (first | ((with_reducible refine gate_builtin (b := .append) (xs := #[.tmp 31, .tmp 33]) rfl ?_); at_builtin; refine Kd.R_append k60 (w0 := w) w.heap.size rfl (.tmp 31) (.tmp 33) 45 60 (.agg #[(.int .i64 0), (.int .i64 0), (.int .i64 0)]) 24 rfl Tryd.underlying45 info60 rfl (by decide) (by omega) u5 x5_18 (⟨((rd_T60 l0 x12_1).f0), ((rd_T60 l0 x12_1).f1), ((rd_T60 l0 x12_1).f2)⟩ : S60) [.int .i64 ((rd_T60 l0 x12_1).f0), .int .i64 ((rd_T60 l0 x12_1).f1), .int .i64 ((rd_T60 l0 x12_1).f2)] (fun k_ => k_ ≠ gb450 ∧ k_ ≠ gb455) (fun _ => False) rfl rfl ?aP (fun _ hk => hk.elim) ?aF ?aO ?aB ?aS ?aL ?_; (case aP => exact k60_mkM _ _ _ (⟨((rd_T60 l0 x12_1).f0), ((rd_T60 l0 x12_1).f1), ((rd_T60 l0 x12_1).f2)⟩ : S60)); (case aB => exact (hg2_ GE450.out GE455.out)); (case aF => exact (fun k_ hk => ⟨Kd.freshB (g := gb450) (o := .cells #[.int .i64 a1_0, .int .i64 a1_1, .int .i64 a1_2] 60 (0, 0)) (bk_ BK450.out) k_ hk, Kd.freshB (g := gb455) (o := .cells #[.int .i64 ((rd_T60 l0 x12_1).f0), .int .i64 ((rd_T60 l0 x12_1).f1), .int .i64 ((rd_T60 l0 x12_1).f2)] 60 (0, 0)) (bk_ BK455.out) k_ hk⟩)); (case aO => exact (kr_ HO_5.out)); (case aS => exact (below_size (hg2_ GE450.out GE455.out))); (case aL => have := LMc26.out; omega); intro v461 w30 ho hb hg hat; rw [← Ny460.out] at ho; have HO462 := Aside0.mk (ho); replace BK450 := Aside0.mk (blk_grown (g := gb450) (o := .cells #[.int .i64 a1_0, .int .i64 a1_1, .int .i64 a1_2] 60 (0, 0)) (bk_ BK450.out) hg (Kd.R_away HO_5.out (fun _ hk => hk.1))); replace BK455 := Aside0.mk (blk_grown (g := gb455) (o := .cells #[.int .i64 ((rd_T60 l0 x12_1).f0), .int .i64 ((rd_T60 l0 x12_1).f1), .int .i64 ((rd_T60 l0 x12_1).f2)] 60 (0, 0)) (bk_ BK455.out) hg (Kd.R_away HO_5.out (fun _ hk => hk.2))); replace HB := Aside0.mk (hb); clear HO_5; clear ho hb hg hat))
       go_roundg kj18
       case measure => have := HK1.out; have := HJ8.out; have := HJ18.out; omega
       case rel => exact ⟨(y460), (x6_18), (wrap64 (x12_1 + 1)), rs_, rs_, H', ⟨by have := HK1.out; have := HJ8.out; have := HJ18.out; omega⟩, ⟨by (with_reducible repeat (first | apply Kd.R_alloc | apply Kd.R_drewN | apply Kd.R_drew)); exact Kd.R_mono HO462.out (fun _ hk => hk.1)⟩, ⟨bk_ BK450.out⟩, ⟨by repeat (first | (with_reducible first | exact HB.out | apply ba_ | apply bn_ | apply bd_ | refine below_set ?_ GE450.out | refine below_set ?_ GE455.out) | exact HB.out)⟩⟩
def honeycombref04_Of.l0 : Nat → List (S60) → List (S60) → Int → Int → Option ((List (S60)))
 | 0, _, _, _, _ => none
 | k + 1, x3, x7, x8, x9 => if x9 < x8 then (if 0 ≤ x9 then (if x9 < (x7.length : Int) then ((honeycombref04_Put.f k x3 ((rd_T60 x7 x9).f0) ((rd_T60 x7 x9).f1) ((rd_T60 x7 x9).f2)).bind fun t471 => (honeycombref04_Of.l0 k t471 x7 x8 (wrap64 (x9 + 1)))) else (none)) else (none)) else (some x3)
def honeycombref04_Of.f (k : Nat) (l0 : List (S60)) : Option ((List (S60))) := honeycombref04_Of.l0 k (([] : List (S60))) l0 (l0.length : Int) 0
theorem honeycombref04_Of.calls (k : Nat) (A0 : Option Addr) (c0 : Nat) (l0 : List (S60)) (r : List (S60)) (w : World) (hr0 : Kd.C k60 w A0 l0.length l0) (hc0 : l0.length ≤ c0) (h : honeycombref04_Of.f k l0 = some r) :
  Calls Tryd.prog 65 #[.slice A0 l0.length c0] w fun e w' => ∃ v0_ : Value, e = .returned (v0_) ∧ Kd.R k60 60 w' w.heap.size (fun _ => True) v0_ r ∧ Below w.heap.size w w' := by
 have hu60 := Tryd.underlying60
 have HR0 := Aside0.mk hr0
 have HC0 := Aside0.mk hc0
 clear hr0 hc0
 have HB := Aside0.mk (Below.refl w.heap.size w)
 have H : (honeycombref04_Of.l0 k (([] : List (S60))) l0 (l0.length : Int) 0) = some r := h
 clear h
 obtain ⟨y466, hy466⟩ : ∃ y_ : List (S60), y_ = (([] : List (S60))) := ⟨_, rfl⟩
 replace H : (honeycombref04_Of.l0 k y466 l0 (l0.length : Int) 0) = some r := by first | (rw [hy466]; with_reducible exact H) | (have H2_ := (Option.bind_some _ _).symm.trans H; rw [hy466]; with_reducible exact H2_) | (have H2_ := (Option.bind_some _ _).symm.trans H; with_reducible exact H2_) | with_reducible exact H | (rw [hy466]; exact H) | exact H
 have Ny466 := Aside0.mk hy466
 clear hy466
 have H' := Aside0.mk H
 clear H
 go_enter Tryd.func65, Tryd.ntmps65
 go_wp2_with (first | ((with_reducible refine gate_dst (N := 6) rfl ?_); refine rs1_ k60 60 6 ([] : List (S60)) [] (Reps.none _ _) ?_; intro v467 w2 ho3 hb; (first | rw [← Ny466.out] at ho3 | (simp only [Int.reduceToNat] at ho3; rw [← Ny466.out] at ho3)); have HO468 := Aside0.mk (Kd.R_lower ho3 (below_size hb_)); replace HB := Aside0.mk (below_step hb_ hb); clear hb ho3))
 go_loopg [3, 9] k (fun kq v3 v9 w' => ∃ (x3_1 : List (S60)) (x9_1 : Int), v9 = .int .i64 x9_1 ∧ Aside0 (honeycombref04_Of.l0 kq x3_1 l0 (l0.length : Int) x9_1 = some r) ∧ Aside0 (kq ≤ k) ∧ Aside0 (Kd.R k60 60 w' w.heap.size (fun _ => True) v3 x3_1) ∧ Aside0 (Below w.heap.size w w'))
 case atStart => exact ⟨(y466), (0), rs_, H', ⟨Nat.le_refl _⟩, ⟨kr_ HO468.out⟩, ⟨by repeat (first | (with_reducible first | exact HB.out | apply ba_ | apply bn_ | apply bd_) | exact HB.out)⟩⟩
 case round =>
  clear H'
  try clear p2
  obtain ⟨x3_1, x9_1, rfl, HA, HK1, HO_3, HB⟩ := hrel
  cases gk with
  | zero => exact absurd HA.out (by simp [honeycombref04_Of.l0])
  | succ k1 =>
   have H := HA.out
   clear HA
   simp only [honeycombref04_Of.l0] at H
   by_cases c4 : x9_1 < (l0.length : Int)
   rotate_left
   ·
    rw [if_neg c4] at H
    have c4b0 : decide (x9_1 < (l0.length : Int)) = false := decide_eq_false c4
    clear c4
    obtain rfl := Option.some.inj H
    go_wp2
    go_ret
    exact ⟨_, by first | rfl | (simp [errW_none, errW_some] <;> rfl) | (simp [*, errW_none, errW_some] <;> rfl), kr_ HO_3.out, by repeat (first | (with_reducible first | exact HB.out | apply ba_ | apply bn_ | apply bd_) | exact HB.out)⟩
   rw [if_pos c4] at H
   have c4b0 : decide (x9_1 < (l0.length : Int)) = true := decide_eq_true c4
   clear c4
   by_cases c5 : 0 ≤ x9_1
   rotate_left
   ·
    rw [if_neg c5] at H
    exact absurd H (by simp)
   rw [if_pos c5] at H
   have c5b0 : decide (0 ≤ x9_1) = true := decide_eq_true c5
   clear c5
   by_cases c6 : x9_1 < (l0.length : Int)
   rotate_left
   ·
    rw [if_neg c6] at H
    exact absurd H (by simp)
   rw [if_pos c6] at H
   have c6b0 : decide (x9_1 < (l0.length : Int)) = true := decide_eq_true c6
   clear c6
   replace H := Option.bind_eq_some_iff.mp H
   obtain ⟨t471, A70, H⟩ := H
   replace H : (honeycombref04_Of.l0 k1 t471 l0 (l0.length : Int) (wrap64 (x9_1 + 1))) = some r := H
   have A7 := Aside0.mk A70
   clear A70
   have H' := Aside0.mk H
   clear H
   have p469 : 0 ≤ (x9_1 : Int) := of_decide_eq_true as_
   have q469 : x9_1 < (l0.length : Int) := of_decide_eq_true as_
   obtain ⟨ad469, e469, hx469_0, hx469_1, hx469_2⟩ := at_T60 HR0.out x9_1 p469 q469
   cases e469
   try replace hx469_0 := (HB.out.cell (World.block_lt_of_cell? w _ hx469_0)).trans hx469_0
   try replace hx469_1 := (HB.out.cell (World.block_lt_of_cell? w _ hx469_1)).trans hx469_1
   try replace hx469_2 := (HB.out.cell (World.block_lt_of_cell? w _ hx469_2)).trans hx469_2
   replace p469 := eq_true p469
   replace q469 := eq_true q469
   go_wp2_with (first | ((with_reducible refine gate_dst (N := 5) rfl ?_); refine bx_ 5 #[.int .i64 0, .int .i64 0, .int .i64 0] 60 ?_; intro gb470 hg w8 hbox hb; have BK470 := Aside0.mk (hbox); have GW470 := Aside0.mk ((by rw [hg]; exact (below_size hb_) : w.heap.size ≤ gb470)); have GE470 := GW470; replace HO_3 := Aside0.mk (Kd.R_below (Kd.R_elderB (kr_ HO_3.out) gb470 (Nat.le_of_eq hg.symm)) hb); replace HB := Aside0.mk (below_step hb_ hb); clear hb hbox hg; obtain ⟨hcz9_0, hcz9_1, hcz9_2⟩ := cz3_ BK470.out; obtain ⟨hfz9_0, hfz9_1, hfz9_2⟩ := fz3_ BK470.out; obtain ⟨Ao10, co10, eo10⟩ := Kd.R_slice HO_3.out; subst eo10) | ((with_reducible refine gate_callee (f := 95) rfl ?_); refine goesL_ (some 15) rfl rfl Tryd.func95 (by kernel_rfl) rfl #[.slice Ao10 x3_1.length co10, .agg #[.int .i64 ((rd_T60 l0 x9_1).f0), .int .i64 ((rd_T60 l0 x9_1).f1), .int .i64 ((rd_T60 l0 x9_1).f2)]] rfl ar_ ?_; (with_reducible refine (honeycombref04_Put.calls k1 _ _ x3_1 ((rd_T60 l0 x9_1).f0) ((rd_T60 l0 x9_1).f1) ((rd_T60 l0 x9_1).f2) t471 _ ?side1 ?side2 A7.out).mono ?_); (case side1 => refine (Kd.R_reads' (e := 60) (base := w.heap.size) (ok := fun k_ => (True ∧ k_ ≠ gb470)) (n := x3_1.length) (c := co10) ?_).2.2; exact (by (with_reducible repeat (first | apply Kd.R_alloc | apply Kd.R_drewN | apply Kd.R_drew)); exact (Kd.R_mono (Kd.R_far (p := ⟨gb470, 2, none⟩) (Kd.R_far (p := ⟨gb470, 1, none⟩) (Kd.R_far (p := ⟨gb470, 0, none⟩) (Kd.R_mono HO_3.out (fun k_ hk => (⟨hk, hk.2⟩ : _ ∧ k_ ≠ gb470))) (fun _ hk => hk.2) (.int .i64 ((rd_T60 l0 x9_1).f0))) (fun _ hk => hk.2) (.int .i64 ((rd_T60 l0 x9_1).f1))) (fun _ hk => hk.2) (.int .i64 ((rd_T60 l0 x9_1).f2))) (fun _ h_ => h_.1)))); (case side2 => exact (Kd.R_reads' HO_3.out).2.1); rintro e w11 ⟨v472, rfl, ho0, hb⟩; refine ⟨_, rfl, ?_⟩; have HO473 := Aside0.mk (Kd.R_lower (Kd.R_newB (Kd.R_new' ho0 (Kd.R_lt (by (with_reducible repeat (first | apply Kd.R_alloc | apply Kd.R_drewN | apply Kd.R_drew)); exact (Kd.R_mono (Kd.R_far (p := ⟨gb470, 2, none⟩) (Kd.R_far (p := ⟨gb470, 1, none⟩) (Kd.R_far (p := ⟨gb470, 0, none⟩) (Kd.R_mono HO_3.out (fun k_ hk => (⟨hk, hk.2⟩ : _ ∧ k_ ≠ gb470))) (fun _ hk => hk.2) (.int .i64 ((rd_T60 l0 x9_1).f0))) (fun _ hk => hk.2) (.int .i64 ((rd_T60 l0 x9_1).f1))) (fun _ hk => hk.2) (.int .i64 ((rd_T60 l0 x9_1).f2))) (fun _ h_ => h_.1))))) (g := gb470) (o := .cells #[.int .i64 ((rd_T60 l0 x9_1).f0), .int .i64 ((rd_T60 l0 x9_1).f1), .int .i64 ((rd_T60 l0 x9_1).f2)] 60 (0, 0)) (by (with_reducible repeat (first | apply bN_ | apply bD_ | apply bA_)); refine blk_put (cs := #[.int .i64 ((rd_T60 l0 x9_1).f0), .int .i64 ((rd_T60 l0 x9_1).f1), .int .i64 0]) ?_ 2 _ rfl; (with_reducible repeat (first | apply bN_ | apply bD_ | apply bA_)); refine blk_put (cs := #[.int .i64 ((rd_T60 l0 x9_1).f0), .int .i64 0, .int .i64 0]) ?_ 1 _ rfl; (with_reducible repeat (first | apply bN_ | apply bD_ | apply bA_)); refine blk_put (cs := #[.int .i64 0, .int .i64 0, .int .i64 0]) ?_ 0 _ rfl; (with_reducible repeat (first | apply bN_ | apply bD_ | apply bA_)); exact BK470.out)) (below_size (hg_ GE470.out))); replace HO_3 := Aside0.mk (Kd.R_elder' (by (with_reducible repeat (first | apply Kd.R_alloc | apply Kd.R_drewN | apply Kd.R_drew)); exact (Kd.R_mono (Kd.R_far (p := ⟨gb470, 2, none⟩) (Kd.R_far (p := ⟨gb470, 1, none⟩) (Kd.R_far (p := ⟨gb470, 0, none⟩) (Kd.R_mono HO_3.out (fun k_ hk => (⟨hk, hk.2⟩ : _ ∧ k_ ≠ gb470))) (fun _ hk => hk.2) (.int .i64 ((rd_T60 l0 x9_1).f0))) (fun _ hk => hk.2) (.int .i64 ((rd_T60 l0 x9_1).f1))) (fun _ hk => hk.2) (.int .i64 ((rd_T60 l0 x9_1).f2))) (fun _ h_ => h_.1))) (Kd.R_base ho0) hb); replace BK470 := Aside0.mk (blk_below (g := gb470) (o := .cells #[.int .i64 ((rd_T60 l0 x9_1).f0), .int .i64 ((rd_T60 l0 x9_1).f1), .int .i64 ((rd_T60 l0 x9_1).f2)] 60 (0, 0)) (by (with_reducible repeat (first | apply bN_ | apply bD_ | apply bA_)); refine blk_put (cs := #[.int .i64 ((rd_T60 l0 x9_1).f0), .int .i64 ((rd_T60 l0 x9_1).f1), .int .i64 0]) ?_ 2 _ rfl; (with_reducible repeat (first | apply bN_ | apply bD_ | apply bA_)); refine blk_put (cs := #[.int .i64 ((rd_T60 l0 x9_1).f0), .int .i64 0, .int .i64 0]) ?_ 1 _ rfl; (with_reducible repeat (first | apply bN_ | apply bD_ | apply bA_)); refine blk_put (cs := #[.int .i64 0, .int .i64 0, .int .i64 0]) ?_ 0 _ rfl; (with_reducible repeat (first | apply bN_ | apply bD_ | apply bA_)); exact BK470.out) hb); replace HB := Aside0.mk (below_step (hg_ GE470.out) hb); (try clear hb); (try clear hb2); (try clear hk); (try clear hi); (try clear ho0)))
   go_roundg k1
   case measure => have := HK1.out; omega
   case rel => exact ⟨(t471), (wrap64 (x9_1 + 1)), rs_, H', ⟨by have := HK1.out; omega⟩, ⟨by (with_reducible repeat (first | apply Kd.R_alloc | apply Kd.R_drewN | apply Kd.R_drew)); exact Kd.R_mono HO473.out (fun _ hk => trivial)⟩, ⟨by repeat (first | (with_reducible first | exact HB.out | apply ba_ | apply bn_ | apply bd_ | refine below_set ?_ GE470.out) | exact HB.out)⟩⟩
end H
open H
def told (x : CL) : RC := ⟨x.f0.f0, x.f0.f1, x.f1⟩
theorem rdT (l : List CL) (j : Nat) (hj : j < l.length) : rd_T60 (l.map told) j = told l[j] := by
 rw [rdR (l.map told) j (by simpa using hj), List.getElem_map]
theorem neq3 (x c : CL) : (!(x.f0.f0 == c.f0.f0) || (!(x.f0.f1 == c.f0.f1) || (!(x.f1 == c.f1)))) = !decide (x = c) := by
 rw [← Bool.or_assoc]
 exact neq_cell x c
theorem eq3 (x c : CL) : (x.f0.f0 == c.f0.f0 && (x.f0.f1 == c.f0.f1 && (x.f1 == c.f1))) = decide (x = c) := by
 have := congrArg not (neq3 x c)
 simpa using this
theorem ahead_lt (x c : CL) : aheadP x.f0.f0 x.f0.f1 x.f1 c.f0.f0 c.f0.f1 c.f1 ↔ ltC x c := by
 unfold aheadP ltC
 rw [cmp_lt]
def insC (c : CL) : List CL → List CL
 | [] => [c]
 | x :: r => if ltC x c then x :: insC c r else c :: (x :: r).filter (fun y => decide (y ≠ c))
theorem insC_mem (c : CL) : ∀ (l : List CL) (x : CL), x ∈ insC c l ↔ x = c ∨ x ∈ l
 | [], x => by simp [insC]
 | y :: r, x => by
  unfold insC
  split
  ·rw [List.mem_cons, insC_mem c r, List.mem_cons]
   constructor
   ·rintro (h | h | h)
    ·exact .inr (.inl h)
    ·exact .inl h
    ·exact .inr (.inr h)
   ·rintro (h | h | h)
    ·exact .inr (.inl h)
    ·exact .inl h
    ·exact .inr (.inr h)
  ·rw [List.mem_cons, List.mem_filter]
   constructor
   ·rintro (h | h)
    ·exact .inl h
    ·exact .inr h.1
   ·rintro (h | h)
    ·exact .inl h
    ·by_cases e : x = c
     ·exact .inl e
     ·exact .inr ⟨h, by simpa using e⟩
theorem insC_srt (c : CL) : ∀ {l : List CL}, Srt l → Srt (insC c l)
 | [], _ => by simp [insC, Srt]
 | y :: r, h => by
  have h' := h
  unfold Srt at h
  rw [List.pairwise_cons] at h
  unfold insC
  by_cases hy : ltC y c
  ·rw [if_pos hy]
   unfold Srt
   rw [List.pairwise_cons]
   refine ⟨fun x hx => ?_, insC_srt c h.2⟩
   rcases (insC_mem c r x).1 hx with rfl | hx
   ·exact hy
   ·exact h.1 x hx
  ·rw [if_neg hy]
   unfold Srt
   rw [List.pairwise_cons]
   refine ⟨fun x hx => ?_, List.Pairwise.sublist List.filter_sublist h'⟩
   rw [List.mem_filter] at hx
   obtain ⟨hx, hne⟩ := hx
   have hne : x ≠ c := by simpa using hne
   rcases ltC_tri y c with e | e | e
   ·exact absurd e hy
   ·subst e
    rcases List.mem_cons.1 hx with e | hx
    ·exact absurd e hne
    ·exact h.1 x hx
   ·rcases List.mem_cons.1 hx with rfl | hx
    ·exact e
    ·exact ltC_trans e (h.1 x hx)
theorem putR_l0 (l : List CL) (c : CL) (hn : l.length ≤ 1000) : ∀ (d k : Nat) (j : Nat) (out : List RC) (done : Bool), j + d = l.length → 3 * d + 1 ≤ k → out.length ≤ 2 * j → honeycombref04_Put.l0 k out done (l.map told) ((l.map told).length : Int) j c.f0.f0 c.f0.f1 c.f1 = some (out ++ (if done = true then ((l.drop j).filter (fun y => decide (y ≠ c))).map told else (insC c (l.drop j)).map told)) := by
 intro d
 induction d with
 | zero =>
  intro k j out done hj hk ho
  obtain ⟨k, rfl⟩ : ∃ m, k = m + 1 := ⟨k - 1, by omega⟩
  simp only [honeycombref04_Put.l0]
  rw [if_neg (by rw [List.length_map]; omega), List.drop_eq_nil_of_le (by omega)]
  cases done
  ·rw [if_neg (by decide), if_pos (by omega), if_neg (by decide)]
   rfl
  ·rw [if_pos rfl, if_pos rfl]
   simp
 | succ d ih =>
  intro k j out done hj hk ho
  obtain ⟨k, rfl⟩ : ∃ m, k = m + 1 := ⟨k - 1, by omega⟩
  obtain ⟨k1, rfl⟩ : ∃ m, k = m + 1 := ⟨k - 1, by omega⟩
  obtain ⟨k2, rfl⟩ : ∃ m, k1 = m + 1 := ⟨k1 - 1, by omega⟩
  have h1 : j < l.length := by omega
  have hw : wrap64 ((j : Int) + 1) = ((j + 1 : Nat) : Int) := by rw [w64i ((j : Int) + 1) (by omega) (by omega)]; rfl
  rw [List.drop_eq_getElem_cons h1]
  have tail : ∀ (o : List RC) (dn : Bool), o.length ≤ 2 * j + 1 → honeycombref04_Put.j2 (k2 + 1) o dn (l.map told) ((l.map told).length : Int) j c.f0.f0 c.f0.f1 c.f1 (told l[j]).f0 (told l[j]).f1 (told l[j]).f2 = some (o ++ (if l[j] = c then [] else [told l[j]]) ++ (if dn = true then ((l.drop (j + 1)).filter (fun y => decide (y ≠ c))).map told else (insC c (l.drop (j + 1))).map told)) := by
   intro o dn hlo
   simp only [honeycombref04_Put.j2]
   change (if (!(l[j].f0.f0 == c.f0.f0) || (!(l[j].f0.f1 == c.f0.f1) || (!(l[j].f1 == c.f1)))) = true then _ else _) = _
   rw [neq3]
   by_cases he : l[j] = c
   ·rw [decide_eq_true he, if_neg (by decide), hw, ih k2 (j + 1) o dn (by omega) (by omega) (by omega), if_pos he, List.append_nil]
   ·rw [decide_eq_false he, if_pos (by decide), if_pos (by omega), hw, ih k2 (j + 1) _ dn (by omega) (by omega) (by rw [List.length_append]; simp; omega), if_neg he]
  have j1f : ∀ dn, honeycombref04_Put.j1 (k2 + 1 + 1) out dn (l.map told) ((l.map told).length : Int) j false c.f0.f0 c.f0.f1 c.f1 (told l[j]).f0 (told l[j]).f1 (told l[j]).f2 = honeycombref04_Put.j2 (k2 + 1) out dn (l.map told) ((l.map told).length : Int) j c.f0.f0 c.f0.f1 c.f1 (told l[j]).f0 (told l[j]).f1 (told l[j]).f2 := by
   intro dn
   generalize k2 + 1 = kk
   simp only [honeycombref04_Put.j1]
   rw [if_neg (by decide)]
  have j1t : ∀ dn, honeycombref04_Put.j1 (k2 + 1 + 1) out dn (l.map told) ((l.map told).length : Int) j true c.f0.f0 c.f0.f1 c.f1 (told l[j]).f0 (told l[j]).f1 (told l[j]).f2 = honeycombref04_Put.j2 (k2 + 1) (out ++ [told c]) true (l.map told) ((l.map told).length : Int) j c.f0.f0 c.f0.f1 c.f1 (told l[j]).f0 (told l[j]).f1 (told l[j]).f2 := by
   intro dn
   generalize k2 + 1 = kk
   simp only [honeycombref04_Put.j1]
   rw [if_pos trivial, if_pos (by omega)]
   rfl
  obtain ⟨kk, hkk⟩ : ∃ kk, kk = k2 + 1 + 1 := ⟨_, rfl⟩
  rw [← hkk] at j1f j1t ⊢
  simp only [honeycombref04_Put.l0]
  rw [if_pos (by rw [List.length_map]; omega), if_pos (by omega), if_pos (by rw [List.length_map]; omega), rdT l j h1]
  cases done
  ·rw [if_neg (by decide), if_neg (by decide)]
   change ((honeycombref03_Ahead.f l[j].f0.f0 l[j].f0.f1 l[j].f1 c.f0.f0 c.f0.f1 c.f1).bind _) = _
   rw [ahead_f, Option.bind_some]
   by_cases hl : ltC l[j] c
   ·rw [decide_eq_true ((ahead_lt _ _).2 hl)]
    change honeycombref04_Put.j1 kk out false (l.map told) _ j false _ _ _ _ _ _ = _
    have hne : ¬ l[j] = c := fun e => ltC_irrefl c (by have := hl; rwa [e] at this)
    rw [j1f, tail out false (by omega), if_neg hne, if_neg (by decide)]
    simp only [insC]
    rw [if_pos hl, List.map_cons]
    simp
   ·rw [decide_eq_false (fun h => hl ((ahead_lt _ _).1 h))]
    change honeycombref04_Put.j1 kk out false (l.map told) _ j true _ _ _ _ _ _ = _
    rw [j1t, tail _ true (by rw [List.length_append]; simp; omega), if_pos rfl]
    simp only [insC]
    rw [if_neg hl, List.map_cons, List.filter_cons]
    by_cases he : l[j] = c
    ·simp [he]
    ·simp [he]
  ·rw [if_pos rfl, j1f, tail out true (by omega), if_pos rfl, if_pos rfl, List.filter_cons]
   by_cases he : l[j] = c
   ·simp [he]
   ·simp [he]
theorem putR_f (k : Nat) {l : List CL} (c : CL) (hn : l.length ≤ 1000) (hk : 3 * l.length + 1 ≤ k) : honeycombref04_Put.f k (l.map told) c.f0.f0 c.f0.f1 c.f1 = some ((insC c l).map told) := by
 unfold honeycombref04_Put.f
 have := putR_l0 l c hn l.length k 0 [] false (by omega) hk (by simp)
 rw [if_neg (by decide), List.drop_zero, List.nil_append] at this
 exact this
theorem hasR_l0 (l : List CL) (c : CL) (hn : l.length ≤ 1000) : ∀ (d k : Nat) (j : Nat), j + d = l.length → d < k → honeycombref04_Has.l0 k (l.map told) ((l.map told).length : Int) j c.f0.f0 c.f0.f1 c.f1 = some (decide (c ∈ l.drop j)) := by
 intro d
 induction d with
 | zero =>
  intro k j hj hk
  obtain ⟨k, rfl⟩ : ∃ m, k = m + 1 := ⟨k - 1, by omega⟩
  simp only [honeycombref04_Has.l0]
  rw [if_neg (by rw [List.length_map]; omega), List.drop_eq_nil_of_le (by omega)]
  simp
 | succ d ih =>
  intro k j hj hk
  obtain ⟨k, rfl⟩ : ∃ m, k = m + 1 := ⟨k - 1, by omega⟩
  have h1 : j < l.length := by omega
  have hw : wrap64 ((j : Int) + 1) = ((j + 1 : Nat) : Int) := by rw [w64i ((j : Int) + 1) (by omega) (by omega)]; rfl
  simp only [honeycombref04_Has.l0]
  rw [if_pos (by rw [List.length_map]; omega), if_pos (by omega), if_pos (by rw [List.length_map]; omega), rdT l j h1, List.drop_eq_getElem_cons h1, hw]
  change (if (l[j].f0.f0 == c.f0.f0 && (l[j].f0.f1 == c.f0.f1 && (l[j].f1 == c.f1))) = true then _ else _) = _
  rw [eq3]
  by_cases he : l[j] = c
  ·rw [decide_eq_true he, if_pos rfl]
   simp [he]
  ·rw [decide_eq_false he, if_neg (by decide), ih k (j + 1) (by omega) (by omega)]
   congr 1
   exact decide_eq_decide.2 ⟨fun h => List.mem_cons_of_mem _ h, fun h => (List.mem_cons.1 h).resolve_left (Ne.symm he)⟩
theorem hasR_f (k : Nat) (l : List CL) (c : CL) (hn : l.length ≤ 1000) (hk : l.length < k) : honeycombref04_Has.f k (l.map told) c.f0.f0 c.f0.f1 c.f1 = some (decide (c ∈ l)) := by
 unfold honeycombref04_Has.f
 have := hasR_l0 l c hn l.length k 0 (by omega) hk
 rw [List.drop_zero] at this
 exact this
theorem ofR_l0 (l : List CL) (hn : l.length ≤ 1000) : ∀ (d k : Nat) (j : Nat) (s : List CL), j + d = l.length → d + 4000 < k → s = ofL (l.take j) → honeycombref04_Of.l0 k (s.map told) (l.map told) ((l.map told).length : Int) j = some ((ofL l).map told) := by
 intro d
 induction d with
 | zero =>
  intro k j s hj hk hs
  obtain ⟨k, rfl⟩ : ∃ m, k = m + 1 := ⟨k - 1, by omega⟩
  simp only [honeycombref04_Of.l0]
  rw [if_neg (by rw [List.length_map]; omega), hs, List.take_of_length_le (by omega)]
 | succ d ih =>
  intro k j s hj hk hs
  obtain ⟨k, rfl⟩ : ∃ m, k = m + 1 := ⟨k - 1, by omega⟩
  have h1 : j < l.length := by omega
  have hw : wrap64 ((j : Int) + 1) = ((j + 1 : Nat) : Int) := by rw [w64i ((j : Int) + 1) (by omega) (by omega)]; rfl
  have hsl : s.length ≤ 1000 := by
   rw [hs]
   refine Nat.le_trans (ofL_le _) ?_
   rw [List.length_take]; omega
  have hss : Srt s := by rw [hs]; exact ofL_srt _
  have he : insC l[j] s = ofL (l.take (j + 1)) := by
   refine srt_ext (insC_srt l[j] hss) (ofL_srt _) (fun x => ?_)
   rw [insC_mem, ofL_mem, List.take_add_one, List.getElem?_eq_getElem h1, List.mem_append, hs, ofL_mem]
   simp only [Option.toList_some, List.mem_singleton]
   exact Or.comm
  simp only [honeycombref04_Of.l0]
  rw [if_pos (by rw [List.length_map]; omega), if_pos (by omega), if_pos (by rw [List.length_map]; omega), rdT l j h1, hw]
  change ((honeycombref04_Put.f k (s.map told) l[j].f0.f0 l[j].f0.f1 l[j].f1).bind _) = _
  rw [putR_f k l[j] (by omega) (by omega), Option.bind_some]
  exact ih k (j + 1) _ (by omega) (by omega) he
theorem ofR_f (k : Nat) (l : List CL) (hn : l.length ≤ 1000) (hk : l.length + 4000 < k) : honeycombref04_Of.f k (l.map told) = some ((ofL l).map told) := by
 unfold honeycombref04_Of.f
 have := ofR_l0 l hn l.length k 0 [] (by omega) hk (by rw [List.take_zero, show ofL [] = [] from ofL_of_srt List.Pairwise.nil])
 simpa using this
theorem told4_l0 (l : List CL) (hn : l.length ≤ 1000) : ∀ (d k : Nat) (j : Nat) (out : List RC), j + d = l.length → d < k → out.length ≤ j → honeycomblaw04_Told.l0 k out l (l.length : Int) j = some (out ++ (l.drop j).map told) := by
 intro d
 induction d with
 | zero =>
  intro k j out hj hk ho
  obtain ⟨k, rfl⟩ : ∃ m, k = m + 1 := ⟨k - 1, by omega⟩
  simp only [honeycomblaw04_Told.l0]
  rw [if_neg (by omega), List.drop_eq_nil_of_le (by omega)]
  simp
 | succ d ih =>
  intro k j out hj hk ho
  obtain ⟨k, rfl⟩ : ∃ m, k = m + 1 := ⟨k - 1, by omega⟩
  have h1 : j < l.length := by omega
  have hw : wrap64 ((j : Int) + 1) = ((j + 1 : Nat) : Int) := by rw [w64i ((j : Int) + 1) (by omega) (by omega)]; rfl
  simp only [honeycomblaw04_Told.l0]
  rw [if_pos (by omega), if_pos (by omega), if_pos (by omega), rdC l j h1, hw, List.drop_eq_getElem_cons h1]
  simp only [honeycomblaw03_Told.f, Option.bind_some]
  rw [if_pos (by omega), ih k (j + 1) _ (by omega) (by omega) (by rw [List.length_append]; simp; omega), List.map_cons, List.append_assoc]
  rfl
theorem told4_f (k : Nat) (l : List CL) (hn : l.length ≤ 1000) (hk : l.length < k) : honeycomblaw04_Told.f k l = some (l.map told) := by
 unfold honeycomblaw04_Told.f
 have := told4_l0 l hn l.length k 0 [] (by omega) hk (by simp)
 simpa using this
namespace H
attribute [local go_sem] max2_int min2_int max_two min_two max_three min_three max_four min_four
def honeycombref03_Corners.f (a0_0 : Int) (a0_1 : Int) (a0_2 : Int) : Option ((List (List Int))) := if a0_2 = 0 then (some (([(([a0_0, a0_1] : List Int)), (([wrap64 (a0_0 + 1), a0_1] : List Int)), (([a0_0, wrap64 (a0_1 + 1)] : List Int))] : List (List Int)))) else (some (([(([wrap64 (a0_0 + 1), a0_1] : List Int)), (([a0_0, wrap64 (a0_1 + 1)] : List Int)), (([wrap64 (a0_0 + 1), wrap64 (a0_1 + 1)] : List Int))] : List (List Int))))
theorem honeycombref03_Corners.calls (a0_0 : Int) (a0_1 : Int) (a0_2 : Int) (r : List (List Int)) (w : World) (h : honeycombref03_Corners.f a0_0 a0_1 a0_2 = some r) :
  Calls Tryd.prog 110 #[.agg #[.int .i64 a0_0, .int .i64 a0_1, .int .i64 a0_2]] w fun e w' => ∃ v0_ : Value, e = .returned (v0_) ∧ Kd.N (Kd.slice 2 (Kd.int .i64)) 111 w' w.heap.size (fun k_ => (w.heap.size ≤ k_)) v0_ r ∧ Below w.heap.size w w' := by
 have hu60 := Tryd.underlying60
 have HB := Aside0.mk (Below.refl w.heap.size w)
 have H : (if a0_2 = 0 then (some (([(([a0_0, a0_1] : List Int)), (([wrap64 (a0_0 + 1), a0_1] : List Int)), (([a0_0, wrap64 (a0_1 + 1)] : List Int))] : List (List Int)))) else (some (([(([wrap64 (a0_0 + 1), a0_1] : List Int)), (([a0_0, wrap64 (a0_1 + 1)] : List Int)), (([wrap64 (a0_0 + 1), wrap64 (a0_1 + 1)] : List Int))] : List (List Int))))) = some r := h
 clear h
 by_cases c2 : a0_2 = 0
 ·
  rw [if_pos c2] at H
  have c2b0 : (a0_2 == 0) = true := beq_iff_eq.mpr c2
  have c2b1 : (a0_2 != 0) = false := bne_eq_false_iff_eq.mpr c2
  clear c2
  obtain ⟨y381, hy381⟩ : ∃ y_ : List Int, y_ = (([a0_0, a0_1] : List Int)) := ⟨_, rfl⟩
  replace H : (some (([y381, (([wrap64 (a0_0 + 1), a0_1] : List Int)), (([a0_0, wrap64 (a0_1 + 1)] : List Int))] : List (List Int)))) = some r := by first | (rw [hy381]; with_reducible exact H) | (have H2_ := (Option.bind_some _ _).symm.trans H; rw [hy381]; with_reducible exact H2_) | (have H2_ := (Option.bind_some _ _).symm.trans H; with_reducible exact H2_) | with_reducible exact H | (rw [hy381]; exact H) | exact H
  have Ny381 := Aside0.mk hy381
  clear hy381
  obtain ⟨y384, hy384⟩ : ∃ y_ : List Int, y_ = (([wrap64 (a0_0 + 1), a0_1] : List Int)) := ⟨_, rfl⟩
  replace H : (some (([y381, y384, (([a0_0, wrap64 (a0_1 + 1)] : List Int))] : List (List Int)))) = some r := by first | (rw [hy384]; with_reducible exact H) | (have H2_ := (Option.bind_some _ _).symm.trans H; rw [hy384]; with_reducible exact H2_) | (have H2_ := (Option.bind_some _ _).symm.trans H; with_reducible exact H2_) | with_reducible exact H | (rw [hy384]; exact H) | exact H
  have Ny384 := Aside0.mk hy384
  clear hy384
  obtain ⟨y387, hy387⟩ : ∃ y_ : List Int, y_ = (([a0_0, wrap64 (a0_1 + 1)] : List Int)) := ⟨_, rfl⟩
  replace H : (some (([y381, y384, y387] : List (List Int)))) = some r := by first | (rw [hy387]; with_reducible exact H) | (have H2_ := (Option.bind_some _ _).symm.trans H; rw [hy387]; with_reducible exact H2_) | (have H2_ := (Option.bind_some _ _).symm.trans H; with_reducible exact H2_) | with_reducible exact H | (rw [hy387]; exact H) | exact H
  have Ny387 := Aside0.mk hy387
  clear hy387
  obtain ⟨y390, hy390⟩ : ∃ y_ : List (List Int), y_ = (([y381, y384, y387] : List (List Int))) := ⟨_, rfl⟩
  replace H : (some y390) = some r := by first | (rw [hy390]; with_reducible exact H) | (have H2_ := (Option.bind_some _ _).symm.trans H; rw [hy390]; with_reducible exact H2_) | (have H2_ := (Option.bind_some _ _).symm.trans H; with_reducible exact H2_) | with_reducible exact H | (rw [hy390]; exact H) | exact H
  have Ny390 := Aside0.mk hy390
  clear hy390
  obtain rfl := Option.some.inj H
  go_enter Tryd.func110, Tryd.ntmps110
  go_wp2_with (first | ((with_reducible refine gate_dst (N := 1) rfl ?_); refine bx_ 1 #[.int .i64 a0_0, .int .i64 a0_1, .int .i64 a0_2] 60 ?_; intro gb380 hg w3 hbox hb; have BK380 := Aside0.mk (hbox); have GW380 := Aside0.mk ((by rw [hg]; exact (below_size hb_) : w.heap.size ≤ gb380)); have GE380 := GW380; replace HB := Aside0.mk (below_step hb_ hb); clear hb hbox hg; obtain ⟨hcz4_0, hcz4_1, hcz4_2⟩ := cz3_ BK380.out; obtain ⟨hfz4_0, hfz4_1, hfz4_2⟩ := fz3_ BK380.out) | ((with_reducible refine gate_dst (N := 10) rfl ?_); refine rl_ (Kd.int .i64) 2 10 ([a0_0, a0_1] : List Int) [.int .i64 a0_0, .int .i64 a0_1] ?_; intro v382 w5 ho6 hb; (first | rw [← Ny381.out] at ho6 | (simp only [Int.reduceToNat] at ho6; rw [← Ny381.out] at ho6)); have HO383 := Aside0.mk (Kd.R_lower (Kd.R_newM (M := fun k_ => (w.heap.size ≤ k_)) ho6 (below_size (hg_ GE380.out)) (fun k_ h_ => h_)) (below_size (hg_ GE380.out))); replace BK380 := bb_ BK380.out hb; replace HB := Aside0.mk (below_step (hg_ GE380.out) hb); clear hb ho6; obtain ⟨hcz7_0, hcz7_1, hcz7_2⟩ := cz3_ BK380.out; obtain ⟨hfz7_0, hfz7_1, hfz7_2⟩ := fz3_ BK380.out) | ((with_reducible refine gate_dst (N := 16) rfl ?_); refine rs1_ (Kd.int .i64) 2 16 ([wrap64 (a0_0 + 1), a0_1] : List Int) [.int .i64 (wrap64 (a0_0 + 1)), .int .i64 a0_1] (Reps.one (show Kd.M (Kd.int .i64) _ _ _ (wrap64 (a0_0 + 1)) [.int .i64 (wrap64 (a0_0 + 1))] from rfl) (Reps.one (show Kd.M (Kd.int .i64) _ _ _ a0_1 [.int .i64 a0_1] from rfl) (Reps.none _ _))) ?_; intro v385 w8 ho9 hb; (first | rw [← Ny384.out] at ho9 | (simp only [Int.reduceToNat] at ho9; rw [← Ny384.out] at ho9)); have HO386 := Aside0.mk (Kd.R_lower (Kd.R_new' (Kd.R_newM (M := fun k_ => (w.heap.size ≤ k_)) ho9 (below_size (hg_ GE380.out)) (fun k_ h_ => h_)) (Kd.R_lt (kr_ HO383.out))) (below_size (hg_ GE380.out))); replace HO383 := Aside0.mk (Kd.R_elder' (kr_ HO383.out) (Kd.R_base ho9) hb); replace BK380 := bb_ BK380.out hb; replace HB := Aside0.mk (below_step (hg_ GE380.out) hb); clear hb ho9; obtain ⟨hcz10_0, hcz10_1, hcz10_2⟩ := cz3_ BK380.out; obtain ⟨hfz10_0, hfz10_1, hfz10_2⟩ := fz3_ BK380.out) | ((with_reducible refine gate_dst (N := 22) rfl ?_); refine rs1_ (Kd.int .i64) 2 22 ([a0_0, wrap64 (a0_1 + 1)] : List Int) [.int .i64 a0_0, .int .i64 (wrap64 (a0_1 + 1))] (Reps.one (show Kd.M (Kd.int .i64) _ _ _ a0_0 [.int .i64 a0_0] from rfl) (Reps.one (show Kd.M (Kd.int .i64) _ _ _ (wrap64 (a0_1 + 1)) [.int .i64 (wrap64 (a0_1 + 1))] from rfl) (Reps.none _ _))) ?_; intro v388 w11 ho12 hb; (first | rw [← Ny387.out] at ho12 | (simp only [Int.reduceToNat] at ho12; rw [← Ny387.out] at ho12)); have HO389 := Aside0.mk (Kd.R_lower (Kd.R_new' (Kd.R_new' (Kd.R_newM (M := fun k_ => (w.heap.size ≤ k_)) ho12 (below_size (hg_ GE380.out)) (fun k_ h_ => h_)) (Kd.R_lt (kr_ HO383.out))) (Kd.R_lt (kr_ HO386.out))) (below_size (hg_ GE380.out))); replace HO383 := Aside0.mk (Kd.R_elder' (kr_ HO383.out) (Kd.R_base ho12) hb); replace HO386 := Aside0.mk (Kd.R_elder' (kr_ HO386.out) (Kd.R_base ho12) hb); replace BK380 := bb_ BK380.out hb; replace HB := Aside0.mk (below_step (hg_ GE380.out) hb); clear hb ho12; obtain ⟨Ao13, co13, eo13⟩ := Kd.R_slice HO383.out; subst eo13; obtain ⟨Ao14, co14, eo14⟩ := Kd.R_slice HO386.out; subst eo14; obtain ⟨Ao15, co15, eo15⟩ := Kd.R_slice HO389.out; subst eo15) | ((with_reducible refine gate_dst (N := 23) rfl ?_); refine Kd.N_lit (Kd.slice 2 (Kd.int .i64)) _ 111 ?hg (N' := 23) ?hd (xs := ([y381, y384, y387] : List (List Int))) (inner := [.slice Ao13 y381.length co13, .slice Ao14 y384.length co14, .slice Ao15 y387.length co15]) (ok := (fun k_ => (w.heap.size ≤ k_) ∧ k_ ≠ gb380)) (okp := (fun k_ => (w.heap.size ≤ k_) ∧ k_ ≠ gb380)) ?hr ?hp (fun _ hk => hk) ((show ∀ k_, w11.heap.size ≤ k_ → (fun k_ => (w.heap.size ≤ k_) ∧ k_ ≠ gb380) k_ from fun k_ hk => ⟨(Nat.le_trans (below_size (hg_ GE380.out)) hk), Kd.freshB (g := gb380) (o := .cells #[.int .i64 a0_0, .int .i64 a0_1, .int .i64 a0_2] 60 (0, 0)) (bk_ BK380.out) k_ hk⟩) _ (Nat.le_refl _)) (Below.refl _ _) (Nat.le_refl _) (by simp) ?_; (case hd => rfl); (case hg => rfl); (case hr => first | (go_simp; done) | (go_simp; rfl)); (case hp => exact (Reps.one (show Kd.FK (Kd.slice 2 (Kd.int .i64)) _ _ y381 [.slice Ao13 y381.length co13] from (Kd.FK_slice_mk (Kd.R_reads' (Kd.R_mono (ok' := (fun k_ => (w.heap.size ≤ k_) ∧ k_ ≠ gb380)) (Kd.R_types (HO383.out) BK380.out (by decide)) (fun k_ hk => ⟨hk.1.1.1.1, hk.2⟩))).2.1 (Kd.R_F (Kd.R_mono (ok' := (fun k_ => (w.heap.size ≤ k_) ∧ k_ ≠ gb380)) (Kd.R_types (HO383.out) BK380.out (by decide)) (fun k_ hk => ⟨hk.1.1.1.1, hk.2⟩))))) (Reps.one (show Kd.FK (Kd.slice 2 (Kd.int .i64)) _ _ y384 [.slice Ao14 y384.length co14] from (Kd.FK_slice_mk (Kd.R_reads' (Kd.R_mono (ok' := (fun k_ => (w.heap.size ≤ k_) ∧ k_ ≠ gb380)) (Kd.R_types (HO386.out) BK380.out (by decide)) (fun k_ hk => ⟨hk.1.1.1.1, hk.2⟩))).2.1 (Kd.R_F (Kd.R_mono (ok' := (fun k_ => (w.heap.size ≤ k_) ∧ k_ ≠ gb380)) (Kd.R_types (HO386.out) BK380.out (by decide)) (fun k_ hk => ⟨hk.1.1.1.1, hk.2⟩))))) (Reps.one (show Kd.FK (Kd.slice 2 (Kd.int .i64)) _ _ y387 [.slice Ao15 y387.length co15] from (Kd.FK_slice_mk (Kd.R_reads' (Kd.R_mono (ok' := (fun k_ => (w.heap.size ≤ k_) ∧ k_ ≠ gb380)) (Kd.R_types (HO389.out) BK380.out (by decide)) (fun k_ hk => ⟨hk.1.1.1.1, hk.2⟩))).2.1 (Kd.R_F (Kd.R_mono (ok' := (fun k_ => (w.heap.size ≤ k_) ∧ k_ ≠ gb380)) (Kd.R_types (HO389.out) BK380.out (by decide)) (fun k_ hk => ⟨hk.1.1.1.1, hk.2⟩))))) (Reps.none _ _))))); intro v391 w16 ho17 hb hg_ hnew_; clear hg_ hnew_; (first | rw [← Ny390.out] at ho17 | (simp only [Int.reduceToNat] at ho17; rw [← Ny390.out] at ho17)); have HO392 := Aside0.mk (Kd.N_lower ho17 (below_size (hg_ GE380.out))); replace BK380 := bb_ BK380.out hb; replace HB := Aside0.mk (below_step (hg_ GE380.out) hb); clear HO383; clear HO386; clear HO389; clear hb ho17))
  go_ret
  exact ⟨_, by first | rfl | (simp [errW_none, errW_some] <;> rfl) | (simp [*, errW_none, errW_some] <;> rfl), by (with_reducible repeat (first | apply Kd.N_alloc | apply Kd.N_drewN | apply Kd.N_drew)); exact Kd.N_mono HO392.out (fun _ hk => hk.1), by repeat (first | (with_reducible first | exact HB.out | apply ba_ | apply bn_ | apply bd_ | refine below_set ?_ GE380.out) | exact HB.out)⟩
 rw [if_neg c2] at H
 have c2b0 : (a0_2 == 0) = false := beq_eq_false_iff_ne.mpr c2
 have c2b1 : (a0_2 != 0) = true := bne_iff_ne.mpr c2
 obtain ⟨y393, hy393⟩ : ∃ y_ : List Int, y_ = (([wrap64 (a0_0 + 1), a0_1] : List Int)) := ⟨_, rfl⟩
 replace H : (some (([y393, (([a0_0, wrap64 (a0_1 + 1)] : List Int)), (([wrap64 (a0_0 + 1), wrap64 (a0_1 + 1)] : List Int))] : List (List Int)))) = some r := by first | (rw [hy393]; with_reducible exact H) | (have H2_ := (Option.bind_some _ _).symm.trans H; rw [hy393]; with_reducible exact H2_) | (have H2_ := (Option.bind_some _ _).symm.trans H; with_reducible exact H2_) | with_reducible exact H | (rw [hy393]; exact H) | exact H
 have Ny393 := Aside0.mk hy393
 clear hy393
 obtain ⟨y396, hy396⟩ : ∃ y_ : List Int, y_ = (([a0_0, wrap64 (a0_1 + 1)] : List Int)) := ⟨_, rfl⟩
 replace H : (some (([y393, y396, (([wrap64 (a0_0 + 1), wrap64 (a0_1 + 1)] : List Int))] : List (List Int)))) = some r := by first | (rw [hy396]; with_reducible exact H) | (have H2_ := (Option.bind_some _ _).symm.trans H; rw [hy396]; with_reducible exact H2_) | (have H2_ := (Option.bind_some _ _).symm.trans H; with_reducible exact H2_) | with_reducible exact H | (rw [hy396]; exact H) | exact H
 have Ny396 := Aside0.mk hy396
 clear hy396
 obtain ⟨y399, hy399⟩ : ∃ y_ : List Int, y_ = (([wrap64 (a0_0 + 1), wrap64 (a0_1 + 1)] : List Int)) := ⟨_, rfl⟩
 replace H : (some (([y393, y396, y399] : List (List Int)))) = some r := by first | (rw [hy399]; with_reducible exact H) | (have H2_ := (Option.bind_some _ _).symm.trans H; rw [hy399]; with_reducible exact H2_) | (have H2_ := (Option.bind_some _ _).symm.trans H; with_reducible exact H2_) | with_reducible exact H | (rw [hy399]; exact H) | exact H
 have Ny399 := Aside0.mk hy399
 clear hy399
 obtain ⟨y402, hy402⟩ : ∃ y_ : List (List Int), y_ = (([y393, y396, y399] : List (List Int))) := ⟨_, rfl⟩
 replace H : (some y402) = some r := by first | (rw [hy402]; with_reducible exact H) | (have H2_ := (Option.bind_some _ _).symm.trans H; rw [hy402]; with_reducible exact H2_) | (have H2_ := (Option.bind_some _ _).symm.trans H; with_reducible exact H2_) | with_reducible exact H | (rw [hy402]; exact H) | exact H
 have Ny402 := Aside0.mk hy402
 clear hy402
 obtain rfl := Option.some.inj H
 go_enter Tryd.func110, Tryd.ntmps110
 go_wp2_with (first | ((with_reducible refine gate_dst (N := 1) rfl ?_); refine bx_ 1 #[.int .i64 a0_0, .int .i64 a0_1, .int .i64 a0_2] 60 ?_; intro gb380 hg w18 hbox hb; have BK380 := Aside0.mk (hbox); have GW380 := Aside0.mk ((by rw [hg]; exact (below_size hb_) : w.heap.size ≤ gb380)); have GE380 := GW380; replace HB := Aside0.mk (below_step hb_ hb); clear hb hbox hg; obtain ⟨hcz19_0, hcz19_1, hcz19_2⟩ := cz3_ BK380.out; obtain ⟨hfz19_0, hfz19_1, hfz19_2⟩ := fz3_ BK380.out) | ((with_reducible refine gate_dst (N := 29) rfl ?_); refine rs1_ (Kd.int .i64) 2 29 ([wrap64 (a0_0 + 1), a0_1] : List Int) [.int .i64 (wrap64 (a0_0 + 1)), .int .i64 a0_1] (Reps.one (show Kd.M (Kd.int .i64) _ _ _ (wrap64 (a0_0 + 1)) [.int .i64 (wrap64 (a0_0 + 1))] from rfl) (Reps.one (show Kd.M (Kd.int .i64) _ _ _ a0_1 [.int .i64 a0_1] from rfl) (Reps.none _ _))) ?_; intro v394 w20 ho21 hb; (first | rw [← Ny393.out] at ho21 | (simp only [Int.reduceToNat] at ho21; rw [← Ny393.out] at ho21)); have HO395 := Aside0.mk (Kd.R_lower (Kd.R_newM (M := fun k_ => (w.heap.size ≤ k_)) ho21 (below_size (hg_ GE380.out)) (fun k_ h_ => h_)) (below_size (hg_ GE380.out))); replace BK380 := bb_ BK380.out hb; replace HB := Aside0.mk (below_step (hg_ GE380.out) hb); clear hb ho21; obtain ⟨hcz22_0, hcz22_1, hcz22_2⟩ := cz3_ BK380.out; obtain ⟨hfz22_0, hfz22_1, hfz22_2⟩ := fz3_ BK380.out) | ((with_reducible refine gate_dst (N := 35) rfl ?_); refine rs1_ (Kd.int .i64) 2 35 ([a0_0, wrap64 (a0_1 + 1)] : List Int) [.int .i64 a0_0, .int .i64 (wrap64 (a0_1 + 1))] (Reps.one (show Kd.M (Kd.int .i64) _ _ _ a0_0 [.int .i64 a0_0] from rfl) (Reps.one (show Kd.M (Kd.int .i64) _ _ _ (wrap64 (a0_1 + 1)) [.int .i64 (wrap64 (a0_1 + 1))] from rfl) (Reps.none _ _))) ?_; intro v397 w23 ho24 hb; (first | rw [← Ny396.out] at ho24 | (simp only [Int.reduceToNat] at ho24; rw [← Ny396.out] at ho24)); have HO398 := Aside0.mk (Kd.R_lower (Kd.R_new' (Kd.R_newM (M := fun k_ => (w.heap.size ≤ k_)) ho24 (below_size (hg_ GE380.out)) (fun k_ h_ => h_)) (Kd.R_lt (kr_ HO395.out))) (below_size (hg_ GE380.out))); replace HO395 := Aside0.mk (Kd.R_elder' (kr_ HO395.out) (Kd.R_base ho24) hb); replace BK380 := bb_ BK380.out hb; replace HB := Aside0.mk (below_step (hg_ GE380.out) hb); clear hb ho24; obtain ⟨hcz25_0, hcz25_1, hcz25_2⟩ := cz3_ BK380.out; obtain ⟨hfz25_0, hfz25_1, hfz25_2⟩ := fz3_ BK380.out) | ((with_reducible refine gate_dst (N := 42) rfl ?_); refine rs1_ (Kd.int .i64) 2 42 ([wrap64 (a0_0 + 1), wrap64 (a0_1 + 1)] : List Int) [.int .i64 (wrap64 (a0_0 + 1)), .int .i64 (wrap64 (a0_1 + 1))] (Reps.one (show Kd.M (Kd.int .i64) _ _ _ (wrap64 (a0_0 + 1)) [.int .i64 (wrap64 (a0_0 + 1))] from rfl) (Reps.one (show Kd.M (Kd.int .i64) _ _ _ (wrap64 (a0_1 + 1)) [.int .i64 (wrap64 (a0_1 + 1))] from rfl) (Reps.none _ _))) ?_; intro v400 w26 ho27 hb; (first | rw [← Ny399.out] at ho27 | (simp only [Int.reduceToNat] at ho27; rw [← Ny399.out] at ho27)); have HO401 := Aside0.mk (Kd.R_lower (Kd.R_new' (Kd.R_new' (Kd.R_newM (M := fun k_ => (w.heap.size ≤ k_)) ho27 (below_size (hg_ GE380.out)) (fun k_ h_ => h_)) (Kd.R_lt (kr_ HO395.out))) (Kd.R_lt (kr_ HO398.out))) (below_size (hg_ GE380.out))); replace HO395 := Aside0.mk (Kd.R_elder' (kr_ HO395.out) (Kd.R_base ho27) hb); replace HO398 := Aside0.mk (Kd.R_elder' (kr_ HO398.out) (Kd.R_base ho27) hb); replace BK380 := bb_ BK380.out hb; replace HB := Aside0.mk (below_step (hg_ GE380.out) hb); clear hb ho27; obtain ⟨Ao28, co28, eo28⟩ := Kd.R_slice HO395.out; subst eo28; obtain ⟨Ao29, co29, eo29⟩ := Kd.R_slice HO398.out; subst eo29; obtain ⟨Ao30, co30, eo30⟩ := Kd.R_slice HO401.out; subst eo30) | ((with_reducible refine gate_dst (N := 43) rfl ?_); refine Kd.N_lit (Kd.slice 2 (Kd.int .i64)) _ 111 ?hg (N' := 43) ?hd (xs := ([y393, y396, y399] : List (List Int))) (inner := [.slice Ao28 y393.length co28, .slice Ao29 y396.length co29, .slice Ao30 y399.length co30]) (ok := (fun k_ => (w.heap.size ≤ k_) ∧ k_ ≠ gb380)) (okp := (fun k_ => (w.heap.size ≤ k_) ∧ k_ ≠ gb380)) ?hr ?hp (fun _ hk => hk) ((show ∀ k_, w26.heap.size ≤ k_ → (fun k_ => (w.heap.size ≤ k_) ∧ k_ ≠ gb380) k_ from fun k_ hk => ⟨(Nat.le_trans (below_size (hg_ GE380.out)) hk), Kd.freshB (g := gb380) (o := .cells #[.int .i64 a0_0, .int .i64 a0_1, .int .i64 a0_2] 60 (0, 0)) (bk_ BK380.out) k_ hk⟩) _ (Nat.le_refl _)) (Below.refl _ _) (Nat.le_refl _) (by simp) ?_; (case hd => rfl); (case hg => rfl); (case hr => first | (go_simp; done) | (go_simp; rfl)); (case hp => exact (Reps.one (show Kd.FK (Kd.slice 2 (Kd.int .i64)) _ _ y393 [.slice Ao28 y393.length co28] from (Kd.FK_slice_mk (Kd.R_reads' (Kd.R_mono (ok' := (fun k_ => (w.heap.size ≤ k_) ∧ k_ ≠ gb380)) (Kd.R_types (HO395.out) BK380.out (by decide)) (fun k_ hk => ⟨hk.1.1.1.1, hk.2⟩))).2.1 (Kd.R_F (Kd.R_mono (ok' := (fun k_ => (w.heap.size ≤ k_) ∧ k_ ≠ gb380)) (Kd.R_types (HO395.out) BK380.out (by decide)) (fun k_ hk => ⟨hk.1.1.1.1, hk.2⟩))))) (Reps.one (show Kd.FK (Kd.slice 2 (Kd.int .i64)) _ _ y396 [.slice Ao29 y396.length co29] from (Kd.FK_slice_mk (Kd.R_reads' (Kd.R_mono (ok' := (fun k_ => (w.heap.size ≤ k_) ∧ k_ ≠ gb380)) (Kd.R_types (HO398.out) BK380.out (by decide)) (fun k_ hk => ⟨hk.1.1.1.1, hk.2⟩))).2.1 (Kd.R_F (Kd.R_mono (ok' := (fun k_ => (w.heap.size ≤ k_) ∧ k_ ≠ gb380)) (Kd.R_types (HO398.out) BK380.out (by decide)) (fun k_ hk => ⟨hk.1.1.1.1, hk.2⟩))))) (Reps.one (show Kd.FK (Kd.slice 2 (Kd.int .i64)) _ _ y399 [.slice Ao30 y399.length co30] from (Kd.FK_slice_mk (Kd.R_reads' (Kd.R_mono (ok' := (fun k_ => (w.heap.size ≤ k_) ∧ k_ ≠ gb380)) (Kd.R_types (HO401.out) BK380.out (by decide)) (fun k_ hk => ⟨hk.1.1.1.1, hk.2⟩))).2.1 (Kd.R_F (Kd.R_mono (ok' := (fun k_ => (w.heap.size ≤ k_) ∧ k_ ≠ gb380)) (Kd.R_types (HO401.out) BK380.out (by decide)) (fun k_ hk => ⟨hk.1.1.1.1, hk.2⟩))))) (Reps.none _ _))))); intro v403 w31 ho32 hb hg_ hnew_; clear hg_ hnew_; (first | rw [← Ny402.out] at ho32 | (simp only [Int.reduceToNat] at ho32; rw [← Ny402.out] at ho32)); have HO404 := Aside0.mk (Kd.N_lower ho32 (below_size (hg_ GE380.out))); replace BK380 := bb_ BK380.out hb; replace HB := Aside0.mk (below_step (hg_ GE380.out) hb); clear HO395; clear HO398; clear HO401; clear hb ho32))
 go_ret
 exact ⟨_, by first | rfl | (simp [errW_none, errW_some] <;> rfl) | (simp [*, errW_none, errW_some] <;> rfl), by (with_reducible repeat (first | apply Kd.N_alloc | apply Kd.N_drewN | apply Kd.N_drew)); exact Kd.N_mono HO404.out (fun _ hk => hk.1), by repeat (first | (with_reducible first | exact HB.out | apply ba_ | apply bn_ | apply bd_ | refine below_set ?_ GE380.out) | exact HB.out)⟩
mutual
def honeycombref03_common.l0 : Nat → Int → List (List Int) → Int → Int → Int → Int → Int → Option (Int)
 | 0, _, _, _, _, _, _, _ => none
 | k + 1, x5, x11, x12, x13, x407000, x407001, x407002 => if x13 < x12 then (if 0 ≤ x13 then (if x13 < (x11.length : Int) then ((honeycombref03_Corners.f x407000 x407001 x407002).bind fun t411 => (honeycombref03_common.l1 k x5 (rd_L10 x11 x13) x11 x12 x13 t411 (t411.length : Int) 0 x407000 x407001 x407002)) else (none)) else (none)) else (some x5)
def honeycombref03_common.l1 : Nat → Int → List Int → List (List Int) → Int → Int → List (List Int) → Int → Int → Int → Int → Int → Option (Int)
 | 0, _, _, _, _, _, _, _, _, _, _, _ => none
 | k + 1, x5, x7, x11, x12, x13, x18, x19, x20, x407000, x407001, x407002 => if x20 < x19 then (if 0 ≤ x20 then (if x20 < (x18.length : Int) then (if 0 < (x7.length : Int) then (if 0 < ((rd_L10 x18 x20).length : Int) then (if (rd x7 0) = (rd (rd_L10 x18 x20) 0) then (if 1 < (x7.length : Int) then (if 1 < ((rd_L10 x18 x20).length : Int) then (if (rd x7 1) = (rd (rd_L10 x18 x20) 1) then (honeycombref03_common.l1 k (wrap64 (x5 + 1)) x7 x11 x12 x13 x18 x19 (wrap64 (x20 + 1)) x407000 x407001 x407002) else (honeycombref03_common.l1 k x5 x7 x11 x12 x13 x18 x19 (wrap64 (x20 + 1)) x407000 x407001 x407002)) else (none)) else (none)) else (honeycombref03_common.l1 k x5 x7 x11 x12 x13 x18 x19 (wrap64 (x20 + 1)) x407000 x407001 x407002)) else (none)) else (none)) else (none)) else (none)) else (honeycombref03_common.l0 k x5 x11 x12 (wrap64 (x13 + 1)) x407000 x407001 x407002)
end
def honeycombref03_common.f (k : Nat) (a0_0 : Int) (a0_1 : Int) (a0_2 : Int) (a1_0 : Int) (a1_1 : Int) (a1_2 : Int) : Option (Int) := (honeycombref03_Corners.f a0_0 a0_1 a0_2).bind fun t407 => (honeycombref03_common.l0 k 0 t407 (t407.length : Int) 0 a1_0 a1_1 a1_2)
theorem honeycombref03_common.calls (k : Nat) (a0_0 : Int) (a0_1 : Int) (a0_2 : Int) (a1_0 : Int) (a1_1 : Int) (a1_2 : Int) (r : Int) (w : World) (h : honeycombref03_common.f k a0_0 a0_1 a0_2 a1_0 a1_1 a1_2 = some r) :
  Calls Tryd.prog 96 #[.agg #[.int .i64 a0_0, .int .i64 a0_1, .int .i64 a0_2], .agg #[.int .i64 a1_0, .int .i64 a1_1, .int .i64 a1_2]] w fun e w' => e = .returned (.int .i64 r) ∧ Below w.heap.size w w' := by
 have hu60 := Tryd.underlying60
 have HB := Aside0.mk (Below.refl w.heap.size w)
 have H : ((honeycombref03_Corners.f a0_0 a0_1 a0_2).bind fun t407 => (honeycombref03_common.l0 k 0 t407 (t407.length : Int) 0 a1_0 a1_1 a1_2)) = some r := h
 clear h
 replace H := Option.bind_eq_some_iff.mp H
 obtain ⟨t407, A30, H⟩ := H
 replace H : (honeycombref03_common.l0 k 0 t407 (t407.length : Int) 0 a1_0 a1_1 a1_2) = some r := H
 have A3 := Aside0.mk A30
 clear A30
 have H' := Aside0.mk H
 clear H
 go_enter Tryd.func96, Tryd.ntmps96
 go_wp2_with (first | ((with_reducible refine gate_dst (N := 2) rfl ?_); refine bx_ 2 #[.int .i64 a0_0, .int .i64 a0_1, .int .i64 a0_2] 60 ?_; intro gb405 hg w4 hbox hb; have BK405 := Aside0.mk (hbox); have GW405 := Aside0.mk ((by rw [hg]; exact (below_size hb_) : w.heap.size ≤ gb405)); have GE405 := GW405; replace HB := Aside0.mk (below_step hb_ hb); clear hb hbox hg) | ((with_reducible refine gate_dst (N := 3) rfl ?_); refine bx_ 3 #[.int .i64 a1_0, .int .i64 a1_1, .int .i64 a1_2] 60 ?_; intro gb406 hg w5 hbox hb; have BK406 := Aside0.mk (hbox); have GW406 := Aside0.mk ((by rw [hg]; exact (below_size (hg_ GE405.out)) : w.heap.size ≤ gb406)); have GE406 := GW406; have NB405_406 := Aside0.mk ((by rw [hg]; exact ne1_ BK405.out : gb405 ≠ gb406)); have NB406_405 := Aside0.mk ((by rw [hg]; exact ne2_ BK405.out : gb406 ≠ gb405)); replace BK405 := bb_ BK405.out hb; replace HB := Aside0.mk (below_step (hg_ GE405.out) hb); clear hb hbox hg; have hnb6 := NB405_406.out; have hnc6 := NB406_405.out; obtain ⟨hcz7_0, hcz7_1, hcz7_2⟩ := cz3_ BK405.out; obtain ⟨hfz7_0, hfz7_1, hfz7_2⟩ := fz3_ BK405.out) | (go_at_call 110; (with_reducible refine (honeycombref03_Corners.calls a0_0 a0_1 a0_2 t407 _ A3.out).mono ?_); rintro e w8 ⟨v408, rfl, ho0, hb⟩; have HO409 := Aside0.mk (Kd.N_lower (Kd.N_mono (ok' := fun k_ => k_ ≠ gb405 ∧ k_ ≠ gb406) ho0 (fun k_ hk_ => ⟨(Kd.freshB (g := gb405) (o := .cells #[.int .i64 a0_0, .int .i64 a0_1, .int .i64 a0_2] 60 (0, 0)) (bk_ BK405.out) k_ hk_), (Kd.freshB (g := gb406) (o := .cells #[.int .i64 a1_0, .int .i64 a1_1, .int .i64 a1_2] 60 (0, 0)) (bk_ BK406.out) k_ hk_)⟩)) (below_size (hg2_ GE405.out GE406.out))); replace BK405 := bb_ BK405.out hb; replace BK406 := bb_ BK406.out hb; replace HB := Aside0.mk (below_step (hg2_ GE405.out GE406.out) hb); (try clear hb); (try clear hb2); (try clear hk); (try clear hi); (try clear ho0); obtain ⟨Ao9, co9, eo9⟩ := Kd.N_slice HO409.out; subst eo9))
 repeat (go_quiet (first | ((with_reducible refine gate_dst (N := 2) rfl ?_); refine bx_ 2 #[.int .i64 a0_0, .int .i64 a0_1, .int .i64 a0_2] 60 ?_; intro gb405 hg w4 hbox hb; have BK405 := Aside0.mk (hbox); have GW405 := Aside0.mk ((by rw [hg]; exact (below_size hb_) : w.heap.size ≤ gb405)); have GE405 := GW405; replace HB := Aside0.mk (below_step hb_ hb); clear hb hbox hg) | ((with_reducible refine gate_dst (N := 3) rfl ?_); refine bx_ 3 #[.int .i64 a1_0, .int .i64 a1_1, .int .i64 a1_2] 60 ?_; intro gb406 hg w5 hbox hb; have BK406 := Aside0.mk (hbox); have GW406 := Aside0.mk ((by rw [hg]; exact (below_size (hg_ GE405.out)) : w.heap.size ≤ gb406)); have GE406 := GW406; have NB405_406 := Aside0.mk ((by rw [hg]; exact ne1_ BK405.out : gb405 ≠ gb406)); have NB406_405 := Aside0.mk ((by rw [hg]; exact ne2_ BK405.out : gb406 ≠ gb405)); replace BK405 := bb_ BK405.out hb; replace HB := Aside0.mk (below_step (hg_ GE405.out) hb); clear hb hbox hg; have hnb6 := NB405_406.out; have hnc6 := NB406_405.out; obtain ⟨hcz7_0, hcz7_1, hcz7_2⟩ := cz3_ BK405.out; obtain ⟨hfz7_0, hfz7_1, hfz7_2⟩ := fz3_ BK405.out) | (go_at_call 110; (with_reducible refine (honeycombref03_Corners.calls a0_0 a0_1 a0_2 t407 _ A3.out).mono ?_); rintro e w8 ⟨v408, rfl, ho0, hb⟩; have HO409 := Aside0.mk (Kd.N_lower (Kd.N_mono (ok' := fun k_ => k_ ≠ gb405 ∧ k_ ≠ gb406) ho0 (fun k_ hk_ => ⟨(Kd.freshB (g := gb405) (o := .cells #[.int .i64 a0_0, .int .i64 a0_1, .int .i64 a0_2] 60 (0, 0)) (bk_ BK405.out) k_ hk_), (Kd.freshB (g := gb406) (o := .cells #[.int .i64 a1_0, .int .i64 a1_1, .int .i64 a1_2] 60 (0, 0)) (bk_ BK406.out) k_ hk_)⟩)) (below_size (hg2_ GE405.out GE406.out))); replace BK405 := bb_ BK405.out hb; replace BK406 := bb_ BK406.out hb; replace HB := Aside0.mk (below_step (hg2_ GE405.out GE406.out) hb); (try clear hb); (try clear hb2); (try clear hk); (try clear hi); (try clear ho0); obtain ⟨Ao9, co9, eo9⟩ := Kd.N_slice HO409.out; subst eo9)); try go_wp2_with (first | ((with_reducible refine gate_dst (N := 2) rfl ?_); refine bx_ 2 #[.int .i64 a0_0, .int .i64 a0_1, .int .i64 a0_2] 60 ?_; intro gb405 hg w4 hbox hb; have BK405 := Aside0.mk (hbox); have GW405 := Aside0.mk ((by rw [hg]; exact (below_size hb_) : w.heap.size ≤ gb405)); have GE405 := GW405; replace HB := Aside0.mk (below_step hb_ hb); clear hb hbox hg) | ((with_reducible refine gate_dst (N := 3) rfl ?_); refine bx_ 3 #[.int .i64 a1_0, .int .i64 a1_1, .int .i64 a1_2] 60 ?_; intro gb406 hg w5 hbox hb; have BK406 := Aside0.mk (hbox); have GW406 := Aside0.mk ((by rw [hg]; exact (below_size (hg_ GE405.out)) : w.heap.size ≤ gb406)); have GE406 := GW406; have NB405_406 := Aside0.mk ((by rw [hg]; exact ne1_ BK405.out : gb405 ≠ gb406)); have NB406_405 := Aside0.mk ((by rw [hg]; exact ne2_ BK405.out : gb406 ≠ gb405)); replace BK405 := bb_ BK405.out hb; replace HB := Aside0.mk (below_step (hg_ GE405.out) hb); clear hb hbox hg; have hnb6 := NB405_406.out; have hnc6 := NB406_405.out; obtain ⟨hcz7_0, hcz7_1, hcz7_2⟩ := cz3_ BK405.out; obtain ⟨hfz7_0, hfz7_1, hfz7_2⟩ := fz3_ BK405.out) | (go_at_call 110; (with_reducible refine (honeycombref03_Corners.calls a0_0 a0_1 a0_2 t407 _ A3.out).mono ?_); rintro e w8 ⟨v408, rfl, ho0, hb⟩; have HO409 := Aside0.mk (Kd.N_lower (Kd.N_mono (ok' := fun k_ => k_ ≠ gb405 ∧ k_ ≠ gb406) ho0 (fun k_ hk_ => ⟨(Kd.freshB (g := gb405) (o := .cells #[.int .i64 a0_0, .int .i64 a0_1, .int .i64 a0_2] 60 (0, 0)) (bk_ BK405.out) k_ hk_), (Kd.freshB (g := gb406) (o := .cells #[.int .i64 a1_0, .int .i64 a1_1, .int .i64 a1_2] 60 (0, 0)) (bk_ BK406.out) k_ hk_)⟩)) (below_size (hg2_ GE405.out GE406.out))); replace BK405 := bb_ BK405.out hb; replace BK406 := bb_ BK406.out hb; replace HB := Aside0.mk (below_step (hg2_ GE405.out GE406.out) hb); (try clear hb); (try clear hb2); (try clear hk); (try clear hi); (try clear ho0); obtain ⟨Ao9, co9, eo9⟩ := Kd.N_slice HO409.out; subst eo9)))
 go_loopg [5, 13] k (fun kq v5 v13 w' => ∃ (x5_1 : Int) (x13_1 : Int), v5 = .int .i64 x5_1 ∧ v13 = .int .i64 x13_1 ∧ Aside0 (honeycombref03_common.l0 kq x5_1 t407 (t407.length : Int) x13_1 a1_0 a1_1 a1_2 = some r) ∧ Aside0 (kq ≤ k) ∧ Aside0 (Kd.N (Kd.slice 2 (Kd.int .i64)) 111 w' w.heap.size (fun k_ => k_ ≠ gb405 ∧ k_ ≠ gb406) (.slice Ao9 t407.length co9) t407) ∧ Aside0 (w'.heap[gb405]? = some (.cells #[.int .i64 a0_0, .int .i64 a0_1, .int .i64 a0_2] 60 (0, 0))) ∧ Aside0 (w'.heap[gb406]? = some (.cells #[.int .i64 a1_0, .int .i64 a1_1, .int .i64 a1_2] 60 (0, 0))) ∧ Aside0 (Below w.heap.size w w'))
 case atStart => exact ⟨(0), (0), rs_, rs_, H', ⟨Nat.le_refl _⟩, ⟨kn_ HO409.out⟩, ⟨bk_ BK405.out⟩, ⟨bk_ BK406.out⟩, ⟨by repeat (first | (with_reducible first | exact HB.out | apply ba_ | apply bn_ | apply bd_ | refine below_set ?_ GE405.out | refine below_set ?_ GE406.out) | exact HB.out)⟩⟩
 case round =>
  clear H'
  try clear p2
  try clear c6
  try clear c9
  try clear hcz7_0
  try clear hcz7_1
  try clear hcz7_2
  try clear hfz7_0
  try clear hfz7_1
  try clear hfz7_2
  obtain ⟨x5_1, x13_1, rfl, rfl, HA, HK1, HO_11, BK405, BK406, HB⟩ := hrel
  cases gk with
  | zero => exact absurd HA.out (by simp [honeycombref03_common.l0])
  | succ k1 =>
   have H := HA.out
   clear HA
   simp only [honeycombref03_common.l0] at H
   by_cases c10 : x13_1 < (t407.length : Int)
   rotate_left
   ·
    rw [if_neg c10] at H
    have c10b0 : decide (x13_1 < (t407.length : Int)) = false := decide_eq_false c10
    clear c10
    obtain rfl := Option.some.inj H
    go_wp2
    repeat (go_quiet (fail); try go_wp2)
    go_ret
    exact ⟨er_, hg2_ GE405.out GE406.out⟩
   rw [if_pos c10] at H
   have c10b0 : decide (x13_1 < (t407.length : Int)) = true := decide_eq_true c10
   clear c10
   by_cases c11 : 0 ≤ x13_1
   rotate_left
   ·
    rw [if_neg c11] at H
    exact absurd H (by simp)
   rw [if_pos c11] at H
   have c11b0 : decide (0 ≤ x13_1) = true := decide_eq_true c11
   clear c11
   by_cases c12 : x13_1 < (t407.length : Int)
   rotate_left
   ·
    rw [if_neg c12] at H
    exact absurd H (by simp)
   rw [if_pos c12] at H
   have c12b0 : decide (x13_1 < (t407.length : Int)) = true := decide_eq_true c12
   clear c12
   replace H := Option.bind_eq_some_iff.mp H
   obtain ⟨t411, A130, H⟩ := H
   replace H : (honeycombref03_common.l1 k1 x5_1 (rd_L10 t407 x13_1) t407 (t407.length : Int) x13_1 t411 (t411.length : Int) 0 a1_0 a1_1 a1_2) = some r := H
   have A13 := Aside0.mk A130
   clear A130
   have H' := Aside0.mk H
   clear H
   have p410 : 0 ≤ (x13_1 : Int) := of_decide_eq_true as_
   have q410 : x13_1 < (t407.length : Int) := of_decide_eq_true as_
   obtain ⟨ad410, A410_0, c410_0, e410, hx410_0, hl410_0, hi410_0⟩ := at_L10 (Kd.N_reads' HO_11.out).2.2 x13_1 p410 q410
   cases e410
   obtain ⟨ce410, hce410, hMe410, hcc410⟩ := Kd.N_get HO_11.out [] x13_1 p410 (by first | exact q410 | exact of_decide_eq_true as_ | (have e_ := (Kd.N_reads' HO_11.out).1; omega))
   obtain ⟨ua410_0, uc410_0, rfl, ul410_0, ge410_0⟩ := Kd.FK_slice_open hMe410
   have hv410_0 := hcc410 0 _ rfl
   rw [Nat.add_zero, show ((Kd.slice 2 (Kd.int .i64))).sz = 1 from rfl, Nat.mul_one] at hv410_0
   replace hv410_0 := Option.some.inj (hv410_0.symm.trans hx410_0)
   injection hv410_0 with hva_ hvn_ hvc_
   rw [hva_] at ge410_0
   rw [hvc_] at ul410_0
   have HL410_0 := Aside0.mk (show Kd.V (Kd.int .i64) 2 _ w.heap.size _ _ (rd_L10 t407 x13_1) from Kd.V_mk ul410_0 ge410_0)
   clear hva_ hvn_ hvc_ ge410_0 ul410_0
   clear hcc410 hce410
   have HR410_0 := Aside0.mk hi410_0
   have HC410_0 := Aside0.mk hl410_0
   clear hi410_0 hl410_0
   replace p410 := eq_true p410
   replace q410 := eq_true q410
   have hnb14 := NB406_405.out
   have hnc14 := NB405_406.out
   obtain ⟨hcz15_0, hcz15_1, hcz15_2⟩ := cz3_ BK406.out
   obtain ⟨hfz15_0, hfz15_1, hfz15_2⟩ := fz3_ BK406.out
   go_wp2_with (first | (go_at_call 110; (with_reducible refine (honeycombref03_Corners.calls a1_0 a1_1 a1_2 t411 _ A13.out).mono ?_); rintro e w16 ⟨v412, rfl, ho0, hb⟩; have HO413 := Aside0.mk (Kd.N_lower (Kd.N_mono (ok' := fun k_ => some k_ ≠ (.slice (some ad410) t407.length co9 : Value).ownBlock ∧ k_ ≠ gb405 ∧ k_ ≠ gb406) ho0 (fun k_ hk_ => ⟨(Kd.fresh' (Kd.N_lt (kn_ HO_11.out)) k_ hk_), (Kd.freshB (g := gb405) (o := .cells #[.int .i64 a0_0, .int .i64 a0_1, .int .i64 a0_2] 60 (0, 0)) (bk_ BK405.out) k_ hk_), (Kd.freshB (g := gb406) (o := .cells #[.int .i64 a1_0, .int .i64 a1_1, .int .i64 a1_2] 60 (0, 0)) (bk_ BK406.out) k_ hk_)⟩)) (below_size (hg2_ GE405.out GE406.out))); replace HO_11 := Aside0.mk (Kd.N_elder' (kn_ HO_11.out) (Kd.N_base ho0) hb); replace HL410_0 := Aside0.mk (Kd.V_elder' (by (with_reducible repeat (first | apply Kd.V_alloc | apply Kd.V_drewN | apply Kd.V_drew)); exact HL410_0.out) (Kd.N_base ho0) hb); replace BK405 := bb_ BK405.out hb; replace BK406 := bb_ BK406.out hb; replace HR410_0 := Aside0.mk (Kd.C_below (by repeat (first | (with_reducible exact HR410_0.out) | (with_reducible refine Kd.C_alloc ?_ _) | (with_reducible refine Kd.C_drewN ?_ _) | (with_reducible refine Kd.C_drew ?_) | exact HR410_0.out)) hb); replace HB := Aside0.mk (below_step (hg2_ GE405.out GE406.out) hb); (try clear hb); (try clear hb2); (try clear hk); (try clear hi); (try clear ho0); obtain ⟨Ao17, co17, eo17⟩ := Kd.N_slice HO413.out; subst eo17))
   repeat (go_quiet (first | (go_at_call 110; (with_reducible refine (honeycombref03_Corners.calls a1_0 a1_1 a1_2 t411 _ A13.out).mono ?_); rintro e w16 ⟨v412, rfl, ho0, hb⟩; have HO413 := Aside0.mk (Kd.N_lower (Kd.N_mono (ok' := fun k_ => some k_ ≠ (.slice (some ad410) t407.length co9 : Value).ownBlock ∧ k_ ≠ gb405 ∧ k_ ≠ gb406) ho0 (fun k_ hk_ => ⟨(Kd.fresh' (Kd.N_lt (kn_ HO_11.out)) k_ hk_), (Kd.freshB (g := gb405) (o := .cells #[.int .i64 a0_0, .int .i64 a0_1, .int .i64 a0_2] 60 (0, 0)) (bk_ BK405.out) k_ hk_), (Kd.freshB (g := gb406) (o := .cells #[.int .i64 a1_0, .int .i64 a1_1, .int .i64 a1_2] 60 (0, 0)) (bk_ BK406.out) k_ hk_)⟩)) (below_size (hg2_ GE405.out GE406.out))); replace HO_11 := Aside0.mk (Kd.N_elder' (kn_ HO_11.out) (Kd.N_base ho0) hb); replace HL410_0 := Aside0.mk (Kd.V_elder' (by (with_reducible repeat (first | apply Kd.V_alloc | apply Kd.V_drewN | apply Kd.V_drew)); exact HL410_0.out) (Kd.N_base ho0) hb); replace BK405 := bb_ BK405.out hb; replace BK406 := bb_ BK406.out hb; replace HR410_0 := Aside0.mk (Kd.C_below (by repeat (first | (with_reducible exact HR410_0.out) | (with_reducible refine Kd.C_alloc ?_ _) | (with_reducible refine Kd.C_drewN ?_ _) | (with_reducible refine Kd.C_drew ?_) | exact HR410_0.out)) hb); replace HB := Aside0.mk (below_step (hg2_ GE405.out GE406.out) hb); (try clear hb); (try clear hb2); (try clear hk); (try clear hi); (try clear ho0); obtain ⟨Ao17, co17, eo17⟩ := Kd.N_slice HO413.out; subst eo17)); try go_wp2_with (first | (go_at_call 110; (with_reducible refine (honeycombref03_Corners.calls a1_0 a1_1 a1_2 t411 _ A13.out).mono ?_); rintro e w16 ⟨v412, rfl, ho0, hb⟩; have HO413 := Aside0.mk (Kd.N_lower (Kd.N_mono (ok' := fun k_ => some k_ ≠ (.slice (some ad410) t407.length co9 : Value).ownBlock ∧ k_ ≠ gb405 ∧ k_ ≠ gb406) ho0 (fun k_ hk_ => ⟨(Kd.fresh' (Kd.N_lt (kn_ HO_11.out)) k_ hk_), (Kd.freshB (g := gb405) (o := .cells #[.int .i64 a0_0, .int .i64 a0_1, .int .i64 a0_2] 60 (0, 0)) (bk_ BK405.out) k_ hk_), (Kd.freshB (g := gb406) (o := .cells #[.int .i64 a1_0, .int .i64 a1_1, .int .i64 a1_2] 60 (0, 0)) (bk_ BK406.out) k_ hk_)⟩)) (below_size (hg2_ GE405.out GE406.out))); replace HO_11 := Aside0.mk (Kd.N_elder' (kn_ HO_11.out) (Kd.N_base ho0) hb); replace HL410_0 := Aside0.mk (Kd.V_elder' (by (with_reducible repeat (first | apply Kd.V_alloc | apply Kd.V_drewN | apply Kd.V_drew)); exact HL410_0.out) (Kd.N_base ho0) hb); replace BK405 := bb_ BK405.out hb; replace BK406 := bb_ BK406.out hb; replace HR410_0 := Aside0.mk (Kd.C_below (by repeat (first | (with_reducible exact HR410_0.out) | (with_reducible refine Kd.C_alloc ?_ _) | (with_reducible refine Kd.C_drewN ?_ _) | (with_reducible refine Kd.C_drew ?_) | exact HR410_0.out)) hb); replace HB := Aside0.mk (below_step (hg2_ GE405.out GE406.out) hb); (try clear hb); (try clear hb2); (try clear hk); (try clear hi); (try clear ho0); obtain ⟨Ao17, co17, eo17⟩ := Kd.N_slice HO413.out; subst eo17)))
   go_loopg [5, 20] k1 (fun kq v5 v20 w' => ∃ (x5_2 : Int) (x20_2 : Int), v5 = .int .i64 x5_2 ∧ v20 = .int .i64 x20_2 ∧ Aside0 (honeycombref03_common.l1 kq x5_2 (rd_L10 t407 x13_1) t407 (t407.length : Int) x13_1 t411 (t411.length : Int) x20_2 a1_0 a1_1 a1_2 = some r) ∧ Aside0 (kq ≤ k1) ∧ Aside0 (Kd.N (Kd.slice 2 (Kd.int .i64)) 111 w' w.heap.size (fun k_ => some k_ ≠ ((.slice Ao17 t411.length co17) : Value).ownBlock ∧ k_ ≠ gb405 ∧ k_ ≠ gb406) (.slice (some ad410) t407.length co9) t407) ∧ Aside0 (Kd.N (Kd.slice 2 (Kd.int .i64)) 111 w' w.heap.size (fun k_ => some k_ ≠ ((.slice (some ad410) t407.length co9) : Value).ownBlock ∧ k_ ≠ gb405 ∧ k_ ≠ gb406) (.slice Ao17 t411.length co17) t411) ∧ Aside0 (w'.heap[gb405]? = some (.cells #[.int .i64 a0_0, .int .i64 a0_1, .int .i64 a0_2] 60 (0, 0))) ∧ Aside0 (w'.heap[gb406]? = some (.cells #[.int .i64 a1_0, .int .i64 a1_1, .int .i64 a1_2] 60 (0, 0))) ∧ Aside0 (Kd.C (Kd.int .i64) w' A410_0 (rd_L10 t407 x13_1).length (rd_L10 t407 x13_1)) ∧ Aside0 (Below w.heap.size w w'))
   case atStart => exact ⟨(x5_1), (0), rs_, rs_, H', ⟨Nat.le_refl _⟩, ⟨by (with_reducible repeat (first | apply Kd.N_alloc | apply Kd.N_drewN | apply Kd.N_drew)); exact Kd.N_mono HO_11.out (fun _ hk => ⟨hk.2, ⟨hk.1.1, hk.1.2⟩⟩)⟩, ⟨kn_ HO413.out⟩, ⟨bk_ BK405.out⟩, ⟨bk_ BK406.out⟩, ⟨by repeat (first | (with_reducible exact HR410_0.out) | (with_reducible refine Kd.C_alloc ?_ _) | (with_reducible refine Kd.C_drewN ?_ _) | (with_reducible refine Kd.C_drew ?_) | exact HR410_0.out)⟩, ⟨by repeat (first | (with_reducible first | exact HB.out | apply ba_ | apply bn_ | apply bd_ | refine below_set ?_ GE405.out | refine below_set ?_ GE406.out) | exact HB.out)⟩⟩
   case round =>
    clear H'
    try clear c1
    try clear p2
    try clear c4
    try clear p4
    try clear q4
    try clear hx4
    try clear c6
    try clear c9
    try clear c10
    try clear c10b0
    try clear c11
    try clear c11b0
    try clear c12
    try clear c12b0
    try clear c14
    try clear hcz15_0
    try clear hcz15_1
    try clear hcz15_2
    try clear hcz7_0
    try clear hcz7_1
    try clear hcz7_2
    try clear hfz15_0
    try clear hfz15_1
    try clear hfz15_2
    try clear hfz7_0
    try clear hfz7_1
    try clear hfz7_2
    try clear hx410_0
    try clear p2
    try clear p410
    try clear q410
    obtain ⟨x5_2, x20_2, rfl, rfl, HA, HK2, HO_11, HO_18, BK405, BK406, HR410_0, HB⟩ := hrel
    cases gk with
    | zero => exact absurd HA.out (by simp [honeycombref03_common.l1])
    | succ k2 =>
     have H := HA.out
     clear HA
     simp only [honeycombref03_common.l1] at H
     by_cases c18 : x20_2 < (t411.length : Int)
     rotate_left
     ·
      rw [if_neg c18] at H
      have c18b0 : decide (x20_2 < (t411.length : Int)) = false := decide_eq_false c18
      clear c18
      have H' := Aside0.mk H
      clear H
      go_wp2
      repeat (go_quiet (fail); try go_wp2)
      go_roundg k2
      case measure => have := HK1.out; have := HK2.out; omega
      case rel => exact ⟨(x5_2), (wrap64 (x13_1 + 1)), rs_, rs_, H', ⟨by have := HK1.out; have := HK2.out; omega⟩, ⟨by (with_reducible repeat (first | apply Kd.N_alloc | apply Kd.N_drewN | apply Kd.N_drew)); exact Kd.N_mono HO_11.out (fun _ hk => ⟨hk.2.1, hk.2.2⟩)⟩, ⟨bk_ BK405.out⟩, ⟨bk_ BK406.out⟩, ⟨by repeat (first | (with_reducible first | exact HB.out | apply ba_ | apply bn_ | apply bd_ | refine below_set ?_ GE405.out | refine below_set ?_ GE406.out) | exact HB.out)⟩⟩
     rw [if_pos c18] at H
     have c18b0 : decide (x20_2 < (t411.length : Int)) = true := decide_eq_true c18
     clear c18
     by_cases c19 : 0 ≤ x20_2
     rotate_left
     ·
      rw [if_neg c19] at H
      exact absurd H (by simp)
     rw [if_pos c19] at H
     have c19b0 : decide (0 ≤ x20_2) = true := decide_eq_true c19
     clear c19
     by_cases c20 : x20_2 < (t411.length : Int)
     rotate_left
     ·
      rw [if_neg c20] at H
      exact absurd H (by simp)
     rw [if_pos c20] at H
     have c20b0 : decide (x20_2 < (t411.length : Int)) = true := decide_eq_true c20
     clear c20
     by_cases c21 : 0 < ((rd_L10 t407 x13_1).length : Int)
     rotate_left
     ·
      rw [if_neg c21] at H
      exact absurd H (by simp)
     rw [if_pos c21] at H
     have c21b0 : decide (0 < ((rd_L10 t407 x13_1).length : Int)) = true := decide_eq_true c21
     have c21b1 : decide (0 < (rd_L10 t407 x13_1).length) = true := decide_eq_true (by omega)
     clear c21
     by_cases c22 : 0 < ((rd_L10 t411 x20_2).length : Int)
     rotate_left
     ·
      rw [if_neg c22] at H
      exact absurd H (by simp)
     rw [if_pos c22] at H
     have c22b0 : decide (0 < ((rd_L10 t411 x20_2).length : Int)) = true := decide_eq_true c22
     have c22b1 : decide (0 < (rd_L10 t411 x20_2).length) = true := decide_eq_true (by omega)
     clear c22
     by_cases c23 : (rd (rd_L10 t407 x13_1) 0) = (rd (rd_L10 t411 x20_2) 0)
     rotate_left
     ·
      rw [if_neg c23] at H
      have c23b0 : ((rd (rd_L10 t407 x13_1) 0) == (rd (rd_L10 t411 x20_2) 0)) = false := beq_eq_false_iff_ne.mpr c23
      have c23b1 : ((rd (rd_L10 t407 x13_1) 0) != (rd (rd_L10 t411 x20_2) 0)) = true := bne_iff_ne.mpr c23
      have H' := Aside0.mk H
      clear H
      have p414 : 0 ≤ (x20_2 : Int) := of_decide_eq_true as_
      have q414 : x20_2 < (t411.length : Int) := of_decide_eq_true as_
      obtain ⟨ad414, A414_0, c414_0, e414, hx414_0, hl414_0, hi414_0⟩ := at_L10 (Kd.N_reads' HO_18.out).2.2 x20_2 p414 q414
      cases e414
      obtain ⟨ce414, hce414, hMe414, hcc414⟩ := Kd.N_get HO_18.out [] x20_2 p414 (by first | exact q414 | exact of_decide_eq_true as_ | (have e_ := (Kd.N_reads' HO_18.out).1; omega))
      obtain ⟨ua414_0, uc414_0, rfl, ul414_0, ge414_0⟩ := Kd.FK_slice_open hMe414
      have hv414_0 := hcc414 0 _ rfl
      rw [Nat.add_zero, show ((Kd.slice 2 (Kd.int .i64))).sz = 1 from rfl, Nat.mul_one] at hv414_0
      replace hv414_0 := Option.some.inj (hv414_0.symm.trans hx414_0)
      injection hv414_0 with hva_ hvn_ hvc_
      rw [hva_] at ge414_0
      rw [hvc_] at ul414_0
      have HL414_0 := Aside0.mk (show Kd.V (Kd.int .i64) 2 _ w.heap.size _ _ (rd_L10 t411 x20_2) from Kd.V_mk ul414_0 ge414_0)
      clear hva_ hvn_ hvc_ ge414_0 ul414_0
      clear hcc414 hce414
      have HR414_0 := Aside0.mk hi414_0
      have HC414_0 := Aside0.mk hl414_0
      clear hi414_0 hl414_0
      replace p414 := eq_true p414
      replace q414 := eq_true q414
      have p415 : 0 ≤ (0 : Int) := (by omega)
      have q415 : 0 < ((rd_L10 t407 x13_1).length : Int) := of_decide_eq_true as_
      obtain ⟨ad415, e415, hx415_0⟩ := Kd.at_int HR410_0.out 0 p415 q415
      cases e415
      have qi415 : (0 < (rd_L10 t407 x13_1).length) = True := eq_true (by omega)
      (try rw [show ((0 : Int)).toNat = 0 from rfl] at hx415_0)
      (try rw [Addr.add_zero'] at hx415_0)
      try replace hx415_0 := (HB.out.cell (World.block_lt_of_cell? w _ hx415_0)).trans hx415_0
      replace p415 := eq_true p415
      replace q415 := eq_true q415
      have p416 : 0 ≤ (0 : Int) := (by omega)
      have q416 : 0 < ((rd_L10 t411 x20_2).length : Int) := of_decide_eq_true as_
      obtain ⟨ad416, e416, hx416_0⟩ := Kd.at_int (by repeat (first | (with_reducible exact HR414_0.out) | (with_reducible refine Kd.C_alloc ?_ _) | (with_reducible refine Kd.C_drewN ?_ _) | (with_reducible refine Kd.C_drew ?_) | exact HR414_0.out)) 0 p416 q416
      cases e416
      have qi416 : (0 < (rd_L10 t411 x20_2).length) = True := eq_true (by omega)
      (try rw [show ((0 : Int)).toNat = 0 from rfl] at hx416_0)
      (try rw [Addr.add_zero'] at hx416_0)
      replace p416 := eq_true p416
      replace q416 := eq_true q416
      go_wp2
      repeat (go_quiet (fail); try go_wp2)
      go_roundg k2
      case measure => have := HK1.out; have := HK2.out; omega
      case rel => exact ⟨(x5_2), (wrap64 (x20_2 + 1)), rs_, rs_, H', ⟨by have := HK1.out; have := HK2.out; omega⟩, ⟨kn_ HO_11.out⟩, ⟨kn_ HO_18.out⟩, ⟨bk_ BK405.out⟩, ⟨bk_ BK406.out⟩, ⟨by repeat (first | (with_reducible exact HR410_0.out) | (with_reducible refine Kd.C_alloc ?_ _) | (with_reducible refine Kd.C_drewN ?_ _) | (with_reducible refine Kd.C_drew ?_) | exact HR410_0.out)⟩, ⟨by repeat (first | (with_reducible first | exact HB.out | apply ba_ | apply bn_ | apply bd_ | refine below_set ?_ GE405.out | refine below_set ?_ GE406.out) | exact HB.out)⟩⟩
     rw [if_pos c23] at H
     have c23b0 : ((rd (rd_L10 t407 x13_1) 0) == (rd (rd_L10 t411 x20_2) 0)) = true := beq_iff_eq.mpr c23
     have c23b1 : ((rd (rd_L10 t407 x13_1) 0) != (rd (rd_L10 t411 x20_2) 0)) = false := bne_eq_false_iff_eq.mpr c23
     clear c23
     by_cases c24 : 1 < ((rd_L10 t407 x13_1).length : Int)
     rotate_left
     ·
      rw [if_neg c24] at H
      exact absurd H (by simp)
     rw [if_pos c24] at H
     have c24b0 : decide (1 < ((rd_L10 t407 x13_1).length : Int)) = true := decide_eq_true c24
     have c24b1 : decide (1 < (rd_L10 t407 x13_1).length) = true := decide_eq_true (by omega)
     clear c24
     by_cases c25 : 1 < ((rd_L10 t411 x20_2).length : Int)
     rotate_left
     ·
      rw [if_neg c25] at H
      exact absurd H (by simp)
     rw [if_pos c25] at H
     have c25b0 : decide (1 < ((rd_L10 t411 x20_2).length : Int)) = true := decide_eq_true c25
     have c25b1 : decide (1 < (rd_L10 t411 x20_2).length) = true := decide_eq_true (by omega)
     clear c25
     by_cases c26 : (rd (rd_L10 t407 x13_1) 1) = (rd (rd_L10 t411 x20_2) 1)
     rotate_left
     ·
      rw [if_neg c26] at H
      have c26b0 : ((rd (rd_L10 t407 x13_1) 1) == (rd (rd_L10 t411 x20_2) 1)) = false := beq_eq_false_iff_ne.mpr c26
      have c26b1 : ((rd (rd_L10 t407 x13_1) 1) != (rd (rd_L10 t411 x20_2) 1)) = true := bne_iff_ne.mpr c26
      have H' := Aside0.mk H
      clear H
      have p414 : 0 ≤ (x20_2 : Int) := of_decide_eq_true as_
      have q414 : x20_2 < (t411.length : Int) := of_decide_eq_true as_
      obtain ⟨ad414, A414_0, c414_0, e414, hx414_0, hl414_0, hi414_0⟩ := at_L10 (Kd.N_reads' HO_18.out).2.2 x20_2 p414 q414
      cases e414
      obtain ⟨ce414, hce414, hMe414, hcc414⟩ := Kd.N_get HO_18.out [] x20_2 p414 (by first | exact q414 | exact of_decide_eq_true as_ | (have e_ := (Kd.N_reads' HO_18.out).1; omega))
      obtain ⟨ua414_0, uc414_0, rfl, ul414_0, ge414_0⟩ := Kd.FK_slice_open hMe414
      have hv414_0 := hcc414 0 _ rfl
      rw [Nat.add_zero, show ((Kd.slice 2 (Kd.int .i64))).sz = 1 from rfl, Nat.mul_one] at hv414_0
      replace hv414_0 := Option.some.inj (hv414_0.symm.trans hx414_0)
      injection hv414_0 with hva_ hvn_ hvc_
      rw [hva_] at ge414_0
      rw [hvc_] at ul414_0
      have HL414_0 := Aside0.mk (show Kd.V (Kd.int .i64) 2 _ w.heap.size _ _ (rd_L10 t411 x20_2) from Kd.V_mk ul414_0 ge414_0)
      clear hva_ hvn_ hvc_ ge414_0 ul414_0
      clear hcc414 hce414
      have HR414_0 := Aside0.mk hi414_0
      have HC414_0 := Aside0.mk hl414_0
      clear hi414_0 hl414_0
      replace p414 := eq_true p414
      replace q414 := eq_true q414
      have p415 : 0 ≤ (0 : Int) := (by omega)
      have q415 : 0 < ((rd_L10 t407 x13_1).length : Int) := of_decide_eq_true as_
      obtain ⟨ad415, e415, hx415_0⟩ := Kd.at_int HR410_0.out 0 p415 q415
      cases e415
      have qi415 : (0 < (rd_L10 t407 x13_1).length) = True := eq_true (by omega)
      (try rw [show ((0 : Int)).toNat = 0 from rfl] at hx415_0)
      (try rw [Addr.add_zero'] at hx415_0)
      try replace hx415_0 := (HB.out.cell (World.block_lt_of_cell? w _ hx415_0)).trans hx415_0
      replace p415 := eq_true p415
      replace q415 := eq_true q415
      have p416 : 0 ≤ (0 : Int) := (by omega)
      have q416 : 0 < ((rd_L10 t411 x20_2).length : Int) := of_decide_eq_true as_
      obtain ⟨ad416, e416, hx416_0⟩ := Kd.at_int (by repeat (first | (with_reducible exact HR414_0.out) | (with_reducible refine Kd.C_alloc ?_ _) | (with_reducible refine Kd.C_drewN ?_ _) | (with_reducible refine Kd.C_drew ?_) | exact HR414_0.out)) 0 p416 q416
      cases e416
      have qi416 : (0 < (rd_L10 t411 x20_2).length) = True := eq_true (by omega)
      (try rw [show ((0 : Int)).toNat = 0 from rfl] at hx416_0)
      (try rw [Addr.add_zero'] at hx416_0)
      replace p416 := eq_true p416
      replace q416 := eq_true q416
      have p417 : 0 ≤ (1 : Int) := (by omega)
      have q417 : 1 < ((rd_L10 t407 x13_1).length : Int) := of_decide_eq_true as_
      obtain ⟨ad417, e417, hx417_0⟩ := Kd.at_int HR410_0.out 1 p417 q417
      obtain rfl : ad415 = ad417 := (by injection e417)
      (try simp only [show (1 : Int).toNat = 1 from rfl, Nat.reduceMul, Nat.reduceEqDiff, Go.Addr.add, ↓reduceIte] at hx417_0)
      have qi417 : (1 < (rd_L10 t407 x13_1).length) = True := eq_true (by omega)
      (try rw [show ((1 : Int)).toNat = 1 from rfl] at hx417_0)
      try replace hx417_0 := (HB.out.cell (World.block_lt_of_cell? w _ hx417_0)).trans hx417_0
      replace p417 := eq_true p417
      replace q417 := eq_true q417
      have p418 : 0 ≤ (1 : Int) := (by omega)
      have q418 : 1 < ((rd_L10 t411 x20_2).length : Int) := of_decide_eq_true as_
      obtain ⟨ad418, e418, hx418_0⟩ := Kd.at_int (by repeat (first | (with_reducible exact HR414_0.out) | (with_reducible refine Kd.C_alloc ?_ _) | (with_reducible refine Kd.C_drewN ?_ _) | (with_reducible refine Kd.C_drew ?_) | exact HR414_0.out)) 1 p418 q418
      obtain rfl : ad416 = ad418 := (by injection e418)
      (try simp only [show (1 : Int).toNat = 1 from rfl, Nat.reduceMul, Nat.reduceEqDiff, Go.Addr.add, ↓reduceIte] at hx418_0)
      have qi418 : (1 < (rd_L10 t411 x20_2).length) = True := eq_true (by omega)
      (try rw [show ((1 : Int)).toNat = 1 from rfl] at hx418_0)
      replace p418 := eq_true p418
      replace q418 := eq_true q418
      go_wp2
      repeat (go_quiet (fail); try go_wp2)
      go_roundg k2
      case measure => have := HK1.out; have := HK2.out; omega
      case rel => exact ⟨(x5_2), (wrap64 (x20_2 + 1)), rs_, rs_, H', ⟨by have := HK1.out; have := HK2.out; omega⟩, ⟨kn_ HO_11.out⟩, ⟨kn_ HO_18.out⟩, ⟨bk_ BK405.out⟩, ⟨bk_ BK406.out⟩, ⟨by repeat (first | (with_reducible exact HR410_0.out) | (with_reducible refine Kd.C_alloc ?_ _) | (with_reducible refine Kd.C_drewN ?_ _) | (with_reducible refine Kd.C_drew ?_) | exact HR410_0.out)⟩, ⟨by repeat (first | (with_reducible first | exact HB.out | apply ba_ | apply bn_ | apply bd_ | refine below_set ?_ GE405.out | refine below_set ?_ GE406.out) | exact HB.out)⟩⟩
     rw [if_pos c26] at H
     have c26b0 : ((rd (rd_L10 t407 x13_1) 1) == (rd (rd_L10 t411 x20_2) 1)) = true := beq_iff_eq.mpr c26
     have c26b1 : ((rd (rd_L10 t407 x13_1) 1) != (rd (rd_L10 t411 x20_2) 1)) = false := bne_eq_false_iff_eq.mpr c26
     clear c26
     have H' := Aside0.mk H
     clear H
     have p414 : 0 ≤ (x20_2 : Int) := of_decide_eq_true as_
     have q414 : x20_2 < (t411.length : Int) := of_decide_eq_true as_
     obtain ⟨ad414, A414_0, c414_0, e414, hx414_0, hl414_0, hi414_0⟩ := at_L10 (Kd.N_reads' HO_18.out).2.2 x20_2 p414 q414
     cases e414
     obtain ⟨ce414, hce414, hMe414, hcc414⟩ := Kd.N_get HO_18.out [] x20_2 p414 (by first | exact q414 | exact of_decide_eq_true as_ | (have e_ := (Kd.N_reads' HO_18.out).1; omega))
     obtain ⟨ua414_0, uc414_0, rfl, ul414_0, ge414_0⟩ := Kd.FK_slice_open hMe414
     have hv414_0 := hcc414 0 _ rfl
     rw [Nat.add_zero, show ((Kd.slice 2 (Kd.int .i64))).sz = 1 from rfl, Nat.mul_one] at hv414_0
     replace hv414_0 := Option.some.inj (hv414_0.symm.trans hx414_0)
     injection hv414_0 with hva_ hvn_ hvc_
     rw [hva_] at ge414_0
     rw [hvc_] at ul414_0
     have HL414_0 := Aside0.mk (show Kd.V (Kd.int .i64) 2 _ w.heap.size _ _ (rd_L10 t411 x20_2) from Kd.V_mk ul414_0 ge414_0)
     clear hva_ hvn_ hvc_ ge414_0 ul414_0
     clear hcc414 hce414
     have HR414_0 := Aside0.mk hi414_0
     have HC414_0 := Aside0.mk hl414_0
     clear hi414_0 hl414_0
     replace p414 := eq_true p414
     replace q414 := eq_true q414
     have p415 : 0 ≤ (0 : Int) := (by omega)
     have q415 : 0 < ((rd_L10 t407 x13_1).length : Int) := of_decide_eq_true as_
     obtain ⟨ad415, e415, hx415_0⟩ := Kd.at_int HR410_0.out 0 p415 q415
     cases e415
     have qi415 : (0 < (rd_L10 t407 x13_1).length) = True := eq_true (by omega)
     (try rw [show ((0 : Int)).toNat = 0 from rfl] at hx415_0)
     (try rw [Addr.add_zero'] at hx415_0)
     try replace hx415_0 := (HB.out.cell (World.block_lt_of_cell? w _ hx415_0)).trans hx415_0
     replace p415 := eq_true p415
     replace q415 := eq_true q415
     have p416 : 0 ≤ (0 : Int) := (by omega)
     have q416 : 0 < ((rd_L10 t411 x20_2).length : Int) := of_decide_eq_true as_
     obtain ⟨ad416, e416, hx416_0⟩ := Kd.at_int (by repeat (first | (with_reducible exact HR414_0.out) | (with_reducible refine Kd.C_alloc ?_ _) | (with_reducible refine Kd.C_drewN ?_ _) | (with_reducible refine Kd.C_drew ?_) | exact HR414_0.out)) 0 p416 q416
     cases e416
     have qi416 : (0 < (rd_L10 t411 x20_2).length) = True := eq_true (by omega)
     (try rw [show ((0 : Int)).toNat = 0 from rfl] at hx416_0)
     (try rw [Addr.add_zero'] at hx416_0)
     replace p416 := eq_true p416
     replace q416 := eq_true q416
     have p417 : 0 ≤ (1 : Int) := (by omega)
     have q417 : 1 < ((rd_L10 t407 x13_1).length : Int) := of_decide_eq_true as_
     obtain ⟨ad417, e417, hx417_0⟩ := Kd.at_int HR410_0.out 1 p417 q417
     obtain rfl : ad415 = ad417 := (by injection e417)
     (try simp only [show (1 : Int).toNat = 1 from rfl, Nat.reduceMul, Nat.reduceEqDiff, Go.Addr.add, ↓reduceIte] at hx417_0)
     have qi417 : (1 < (rd_L10 t407 x13_1).length) = True := eq_true (by omega)
     (try rw [show ((1 : Int)).toNat = 1 from rfl] at hx417_0)
     try replace hx417_0 := (HB.out.cell (World.block_lt_of_cell? w _ hx417_0)).trans hx417_0
     replace p417 := eq_true p417
     replace q417 := eq_true q417
     have p418 : 0 ≤ (1 : Int) := (by omega)
     have q418 : 1 < ((rd_L10 t411 x20_2).length : Int) := of_decide_eq_true as_
     obtain ⟨ad418, e418, hx418_0⟩ := Kd.at_int (by repeat (first | (with_reducible exact HR414_0.out) | (with_reducible refine Kd.C_alloc ?_ _) | (with_reducible refine Kd.C_drewN ?_ _) | (with_reducible refine Kd.C_drew ?_) | exact HR414_0.out)) 1 p418 q418
     obtain rfl : ad416 = ad418 := (by injection e418)
     (try simp only [show (1 : Int).toNat = 1 from rfl, Nat.reduceMul, Nat.reduceEqDiff, Go.Addr.add, ↓reduceIte] at hx418_0)
     have qi418 : (1 < (rd_L10 t411 x20_2).length) = True := eq_true (by omega)
     (try rw [show ((1 : Int)).toNat = 1 from rfl] at hx418_0)
     replace p418 := eq_true p418
     replace q418 := eq_true q418
     go_wp2
     repeat (go_quiet (fail); try go_wp2)
     go_roundg k2
     case measure => have := HK1.out; have := HK2.out; omega
     case rel => exact ⟨(wrap64 (x5_2 + 1)), (wrap64 (x20_2 + 1)), rs_, rs_, H', ⟨by have := HK1.out; have := HK2.out; omega⟩, ⟨kn_ HO_11.out⟩, ⟨kn_ HO_18.out⟩, ⟨bk_ BK405.out⟩, ⟨bk_ BK406.out⟩, ⟨by repeat (first | (with_reducible exact HR410_0.out) | (with_reducible refine Kd.C_alloc ?_ _) | (with_reducible refine Kd.C_drewN ?_ _) | (with_reducible refine Kd.C_drew ?_) | exact HR410_0.out)⟩, ⟨by repeat (first | (with_reducible first | exact HB.out | apply ba_ | apply bn_ | apply bd_ | refine below_set ?_ GE405.out | refine below_set ?_ GE406.out) | exact HB.out)⟩⟩
end H
def eqc (p0 p1 q0 q1 : Int) : Int := if p0 = q0 ∧ p1 = q1 then 1 else 0
theorem eqc_bd (p0 p1 q0 q1 : Int) : 0 ≤ eqc p0 p1 q0 q1 ∧ eqc p0 p1 q0 q1 ≤ 1 := by unfold eqc; split <;> omega
theorem eqc_sh (a b x y u v u' v' : Int) : eqc (a + x) (b + y) (a + u + u') (b + v + v') = eqc x y (u + u') (v + v') := by
 unfold eqc
 by_cases h : x = u + u' ∧ y = v + v'
 ·rw [if_pos h, if_pos (by omega)]
 ·rw [if_neg h, if_neg (by omega)]
theorem com_at (k : Nat) (n p0 p1 q0 q1 : Int) (C : List (List Int)) (x12 i : Int) (X : List (List Int)) (j : Int) (u v t : Int) (hX : X.length = 3) (h0 : 0 ≤ j) (h1 : j < 3) (hq : rd_L10 X j = [q0, q1]) (hn : 0 ≤ n) (hn' : n ≤ 100) :
    honeycombref03_common.l1 (k + 1) n [p0, p1] C x12 i X 3 j u v t = honeycombref03_common.l1 k (n + eqc p0 p1 q0 q1) [p0, p1] C x12 i X 3 (j + 1) u v t := by
 simp only [honeycombref03_common.l1]
 rw [if_pos h1, if_pos h0, if_pos (by rw [hX]; exact h1), hq, w64i (j + 1) (by omega) (by omega), w64i (n + 1) (by omega) (by omega)]
 unfold eqc
 by_cases e0 : p0 = q0
 ·by_cases e1 : p1 = q1
  ·simp [rd, e0, e1]
  ·simp [rd, e0, e1]
 ·simp [rd, e0]
theorem com_row (k : Nat) (n p0 p1 : Int) (C : List (List Int)) (x12 i : Int) (q0 q1 r0 r1 s0 s1 : Int) (u v t : Int) (hn : 0 ≤ n) (hn' : n ≤ 50) (hi : 0 ≤ i) (hi' : i ≤ 50) :
    honeycombref03_common.l1 (k + 4) n [p0, p1] C x12 i [[q0, q1], [r0, r1], [s0, s1]] 3 0 u v t = honeycombref03_common.l0 k (n + eqc p0 p1 q0 q1 + eqc p0 p1 r0 r1 + eqc p0 p1 s0 s1) C x12 (i + 1) u v t := by
 have b0 := eqc_bd p0 p1 q0 q1
 have b1 := eqc_bd p0 p1 r0 r1
 rw [com_at (k + 3) n p0 p1 q0 q1 C x12 i _ 0 u v t rfl (by omega) (by omega) rfl hn (by omega), com_at (k + 2) _ p0 p1 r0 r1 C x12 i _ (0 + 1) u v t rfl (by omega) (by omega) rfl (by omega) (by omega),
  com_at (k + 1) _ p0 p1 s0 s1 C x12 i _ (0 + 1 + 1) u v t rfl (by omega) (by omega) rfl (by omega) (by omega)]
 simp only [honeycombref03_common.l1]
 rw [if_neg (by omega), w64i (i + 1) (by omega) (by omega)]
def cx (h : Int) (k : Nat) : Int := if h = 0 then (if k = 0 then 0 else if k = 1 then 1 else 0) else (if k = 0 then 1 else if k = 1 then 0 else 1)
def cy (h : Int) (k : Nat) : Int := if h = 0 then (if k = 0 then 0 else if k = 1 then 0 else 1) else (if k = 0 then 0 else if k = 1 then 1 else 1)
theorem corners_f (a b h : Int) (ha : -5000000000000 ≤ a) (ha' : a ≤ 5000000000000) (hb : -5000000000000 ≤ b) (hb' : b ≤ 5000000000000) :
    honeycombref03_Corners.f a b h = some [[a + cx h 0, b + cy h 0], [a + cx h 1, b + cy h 1], [a + cx h 2, b + cy h 2]] := by
 unfold honeycombref03_Corners.f
 rw [w64i (a + 1) (by omega) (by omega), w64i (b + 1) (by omega) (by omega)]
 by_cases h0 : h = 0
 ·rw [if_pos h0]
  simp [cx, cy, h0]
 ·rw [if_neg h0]
  simp [cx, cy, h0]
def comD (h dx dy h' : Int) : Int :=
 eqc (cx h 0) (cy h 0) (dx + cx h' 0) (dy + cy h' 0) + eqc (cx h 0) (cy h 0) (dx + cx h' 1) (dy + cy h' 1) + eqc (cx h 0) (cy h 0) (dx + cx h' 2) (dy + cy h' 2) +
 eqc (cx h 1) (cy h 1) (dx + cx h' 0) (dy + cy h' 0) + eqc (cx h 1) (cy h 1) (dx + cx h' 1) (dy + cy h' 1) + eqc (cx h 1) (cy h 1) (dx + cx h' 2) (dy + cy h' 2) +
 eqc (cx h 2) (cy h 2) (dx + cx h' 0) (dy + cy h' 0) + eqc (cx h 2) (cy h 2) (dx + cx h' 1) (dy + cy h' 1) + eqc (cx h 2) (cy h 2) (dx + cx h' 2) (dy + cy h' 2)
theorem com_l0 (k : Nat) (n : Int) (P0 P1 Q0 Q1 R0 R1 : Int) (i p0 p1 : Int) (a b h : Int) (hi : i = 0 ∨ i = 1 ∨ i = 2) (hp : rd_L10 [[P0, P1], [Q0, Q1], [R0, R1]] i = [p0, p1]) (hn : 0 ≤ n) (hn' : n ≤ 50)
    (ha : -5000000000000 ≤ a) (ha' : a ≤ 5000000000000) (hb : -5000000000000 ≤ b) (hb' : b ≤ 5000000000000) :
    honeycombref03_common.l0 (k + 5) n [[P0, P1], [Q0, Q1], [R0, R1]] 3 i a b h = honeycombref03_common.l0 k (n + eqc p0 p1 (a + cx h 0) (b + cy h 0) + eqc p0 p1 (a + cx h 1) (b + cy h 1) + eqc p0 p1 (a + cx h 2) (b + cy h 2)) [[P0, P1], [Q0, Q1], [R0, R1]] 3 (i + 1) a b h := by
 rw [show k + 5 = (k + 4) + 1 from rfl]
 simp only [honeycombref03_common.l0]
 rw [if_pos (by omega), if_pos (by omega), if_pos (by simp; omega), corners_f a b h ha ha' hb hb', hp]
 simp only [Option.bind_some]
 exact com_row k n p0 p1 _ 3 i _ _ _ _ _ _ a b h hn hn' (by omega) (by omega)
theorem common_f (k : Nat) (a b h dx dy h' : Int) (ha : -4000000000000 ≤ a) (ha' : a ≤ 4000000000000) (hb : -4000000000000 ≤ b) (hb' : b ≤ 4000000000000) (hdx : -100 ≤ dx) (hdx' : dx ≤ 100) (hdy : -100 ≤ dy) (hdy' : dy ≤ 100) :
    honeycombref03_common.f (k + 16) a b h (a + dx) (b + dy) h' = some (comD h dx dy h') := by
 unfold honeycombref03_common.f
 rw [corners_f a b h (by omega) (by omega) (by omega) (by omega)]
 simp only [Option.bind_some, List.length_cons, List.length_nil]
 have e00 := eqc_bd (a + cx h 0) (b + cy h 0) (a + dx + cx h' 0) (b + dy + cy h' 0)
 have e01 := eqc_bd (a + cx h 0) (b + cy h 0) (a + dx + cx h' 1) (b + dy + cy h' 1)
 have e02 := eqc_bd (a + cx h 0) (b + cy h 0) (a + dx + cx h' 2) (b + dy + cy h' 2)
 have e10 := eqc_bd (a + cx h 1) (b + cy h 1) (a + dx + cx h' 0) (b + dy + cy h' 0)
 have e11 := eqc_bd (a + cx h 1) (b + cy h 1) (a + dx + cx h' 1) (b + dy + cy h' 1)
 have e12 := eqc_bd (a + cx h 1) (b + cy h 1) (a + dx + cx h' 2) (b + dy + cy h' 2)
 rw [show (((0 + 1 + 1 + 1 : Nat) : Int)) = 3 from rfl]
 rw [com_l0 (k + 11) 0 _ _ _ _ _ _ 0 _ _ (a + dx) (b + dy) h' (.inl rfl) rfl (by omega) (by omega) (by omega) (by omega) (by omega) (by omega),
  com_l0 (k + 6) _ _ _ _ _ _ _ (0 + 1) _ _ (a + dx) (b + dy) h' (.inr (.inl rfl)) rfl (by omega) (by omega) (by omega) (by omega) (by omega) (by omega),
  com_l0 (k + 1) _ _ _ _ _ _ _ (0 + 1 + 1) _ _ (a + dx) (b + dy) h' (.inr (.inr rfl)) rfl (by omega) (by omega) (by omega) (by omega) (by omega) (by omega)]
 simp only [honeycombref03_common.l0]
 rw [if_neg (by omega)]
 simp only [eqc_sh, comD, Int.zero_add]
def nearD (l h dx dy h' : Int) : Bool := if dx = 0 ∧ dy = 0 ∧ h = h' then false else if l = 1 then decide (-1 ≤ dx ∧ dx ≤ 1 ∧ -1 ≤ dy ∧ dy ≤ 1 ∧ dx ≠ dy) else if l = 2 then comD h dx dy h' == 2 else decide (comD h dx dy h' > 0)
end Go.Proofs.YtaeenefdbahfoaaDoor
