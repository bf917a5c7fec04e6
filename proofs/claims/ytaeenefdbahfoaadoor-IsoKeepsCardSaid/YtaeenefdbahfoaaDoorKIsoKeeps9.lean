/- Parts of the proof (IsoKeeps), merged out of our texts by wip/tools/pack.py: Hhoneycombref05Check, PRChk, XCodeOf, XTold5. -/
import Derived.Test.YtaeenefdbahfoaaDoorKIsoKeeps1
import Derived.Test.YtaeenefdbahfoaaDoorKIsoKeeps5
import Derived.Test.YtaeenefdbahfoaaDoorKIsoKeeps3
import Derived.Test.YtaeenefdbahfoaaDoorKIsoKeeps2
import Derived.BigRegion
import Derived.Deep.RegionHeld3
namespace Go.Proofs.YtaeenefdbahfoaaDoor.H
open Go.RowKit Go.Proofs.YtaeenefdbahfoaaDoorW.PrintWords Go.Proofs.YtaeenefdbahfoaaDoorW.PrintLast Go.Proofs.YtaeenefdbahfoaaDoorW.PrintMore
attribute [local go_sem] max2_int min2_int max_two min_two max_three min_three max_four min_four
set_option linter.unusedVariables false
set_option linter.unusedSimpArgs false
mutual
def honeycombref05_Check.j0 : Nat → Bool → Int → List Int → List Int → Option (Int)
 | 0, _, _, _, _ => none
 | k + 1, x14, x874000, x874001, x874002 => if x14 = true then (some 11) else ((some (([0, 63, 3, 12] : List Int) : List Int)).bind fun y874 => (if 0 ≤ x874000 then (if x874000 < (y874.length : Int) then (honeycombref05_Check.l0 k (rd y874 x874000) 0 x874000 x874001 x874002) else (none)) else (none)))
def honeycombref05_Check.l0 : Nat → Int → Int → Int → List Int → List Int → Option (Int)
 | 0, _, _, _, _, _ => none
 | k + 1, x3, x4, x874000, x874001, x874002 => if x4 < 2 then (honeycombref05_Check.l1 k x3 x4 0 x874000 x874001 x874002) else (some 0)
def honeycombref05_Check.l1 : Nat → Int → Int → Int → Int → List Int → List Int → Option (Int)
 | 0, _, _, _, _, _, _ => none
 | k + 1, x3, x4, x5, x874000, x874001, x874002 => if x5 < 64 then (if x5 ≤ x3 then (if x4 = 0 then (honeycombref05_Check.j3 k x3 x4 x5 true x874000 x874001 x874002) else (honeycombref05_Check.j3 k x3 x4 x5 (decide (x874000 > 1)) x874000 x874001 x874002)) else (honeycombref05_Check.j3 k x3 x4 x5 false x874000 x874001 x874002)) else (honeycombref05_Check.l0 k x3 (wrap64 (x4 + 1)) x874000 x874001 x874002)
def honeycombref05_Check.j3 : Nat → Int → Int → Int → Bool → Int → List Int → List Int → Option (Int)
 | 0, _, _, _, _, _, _, _ => none
 | k + 1, x3, x4, x5, x6, x874000, x874001, x874002 => if 0 ≤ x4 then (if x4 < (x874001.length : Int) then ((honeycombref05_bit.f k (rd x874001 x4) x5).bind fun t879 => (if t879 = 1 then (if x6 = true then (if x5 = 0 then (honeycombref05_Check.j4 k x3 x4 x5 true x874000 x874001 x874002) else (if x4 < (x874002.length : Int) then ((honeycombref05_bit.f k (rd x874002 x4) x5).bind fun t881 => (if t881 = 1 then (honeycombref05_Check.j4 k x3 x4 x5 (!x6) x874000 x874001 x874002) else (honeycombref05_Check.j4 k x3 x4 x5 false x874000 x874001 x874002))) else (none))) else (honeycombref05_Check.j4 k x3 x4 x5 true x874000 x874001 x874002)) else (if x4 < (x874002.length : Int) then ((honeycombref05_bit.f k (rd x874002 x4) x5).bind fun t883 => (if t883 = 1 then (honeycombref05_Check.j4 k x3 x4 x5 (!x6) x874000 x874001 x874002) else (honeycombref05_Check.j4 k x3 x4 x5 false x874000 x874001 x874002))) else (none)))) else (none)) else (none)
def honeycombref05_Check.j4 : Nat → Int → Int → Int → Bool → Int → List Int → List Int → Option (Int)
 | 0, _, _, _, _, _, _, _ => none
 | k + 1, x3, x4, x5, x69, x874000, x874001, x874002 => if x69 = true then (some 5) else (honeycombref05_Check.l1 k x3 x4 (wrap64 (x5 + 1)) x874000 x874001 x874002)
end
def honeycombref05_Check.f (k : Nat) (a0_0 : Int) (l0_1 : List Int) (l0_2 : List Int) : Option (Int) := if a0_0 < 1 then (honeycombref05_Check.j0 k true a0_0 l0_1 l0_2) else (honeycombref05_Check.j0 k (decide (a0_0 > 3)) a0_0 l0_1 l0_2)
set_option maxHeartbeats 8000000 in
set_option maxRecDepth 100000 in
theorem honeycombref05_Check.calls (k : Nat) (a0_0 : Int) (A0_1 : Option Addr) (c0_1 : Nat) (l0_1 : List Int) (A0_2 : Option Addr) (c0_2 : Nat) (l0_2 : List Int) (r : Int) (w : World) (hr0_1 : Kd.C (Kd.int .u64) w A0_1 l0_1.length l0_1) (hc0_1 : l0_1.length ≤ c0_1) (hr0_2 : Kd.C (Kd.int .u64) w A0_2 l0_2.length l0_2) (hc0_2 : l0_2.length ≤ c0_2) (h : honeycombref05_Check.f k a0_0 l0_1 l0_2 = some r) :
  Calls Tryd.prog 47 #[.agg #[.int .i64 a0_0, .slice A0_1 l0_1.length c0_1, .slice A0_2 l0_2.length c0_2]] w fun e w' => e = .returned (.int .i64 r) ∧ Below w.heap.size w w' := by
 have hu55 := Tryd.underlying55
 have HR0_1 := Aside0.mk hr0_1
 have HC0_1 := Aside0.mk hc0_1
 clear hr0_1 hc0_1
 have HR0_2 := Aside0.mk hr0_2
 have HC0_2 := Aside0.mk hc0_2
 clear hr0_2 hc0_2
 have HB := Aside0.mk (Below.refl w.heap.size w)
 have H : (if a0_0 < 1 then (honeycombref05_Check.j0 k true a0_0 l0_1 l0_2) else (honeycombref05_Check.j0 k (decide (a0_0 > 3)) a0_0 l0_1 l0_2)) = some r := h
 clear h
 have HC2 := Aside0.mk H
 clear H
 go_enter Tryd.func47, Tryd.ntmps47
 go_upto_region 1 with (first | ((with_reducible refine gate_dst (N := 1) rfl ?_); refine bx_ 1 #[.int .i64 a0_0, .slice A0_1 l0_1.length c0_1, .slice A0_2 l0_2.length c0_2] 55 ?_; intro gb873 hg w3 hbox hb; have BK873 := Aside0.mk (hbox); have GW873 := Aside0.mk ((by rw [hg]; exact (below_size hb_) : w.heap.size ≤ gb873)); have GE873 := GW873; replace HB := Aside0.mk (below_step hb_ hb); clear hb hbox hg))
 (try simp only [Act.put, List.setIfInBounds_toArray, List.set_cons_zero, List.set_cons_succ])
 go_cut [14] (fun v14 wc => ∃ (kq : Nat) (x14_1 : Bool), v14 = .bool x14_1 ∧ Aside0 (honeycombref05_Check.j0 kq x14_1 a0_0 l0_1 l0_2 = some r) ∧ Aside0 (kq ≤ k) ∧ Aside0 (wc.heap[gb873]? = some (.cells #[.int .i64 a0_0, (.slice A0_1 l0_1.length c0_1), (.slice A0_2 l0_2.length c0_2)] 55 (0, 0))) ∧ Aside0 (Below w.heap.size w wc))
 case first =>
  have H := HC2.out
  clear HC2
  by_cases c4 : a0_0 < 1
  ·
   rw [if_pos c4] at H
   have c4b0 : decide (a0_0 < 1) = true := decide_eq_true c4
   clear c4
   (first | rw [c4b0] | (simp only [i64_w, i32_w]; rw [c4b0]) | skip)
   have H' := Aside0.mk H
   clear H
   obtain ⟨hcz5_0, hcz5_1, hcz5_2⟩ := cz3_ BK873.out
   obtain ⟨hfz5_0, hfz5_1, hfz5_2⟩ := fz3_ BK873.out
   go_wp2
   go_meet
   case rel => exact ⟨_, (true), rs_, H', ⟨by first | omega | exact Nat.le_refl _⟩, ⟨bk_ BK873.out⟩, ⟨by repeat (first | (with_reducible first | exact HB.out | apply ba_ | apply bn_ | apply bd_ | refine below_set ?_ GE873.out) | exact HB.out)⟩⟩
  rw [if_neg c4] at H
  have c4b0 : decide (a0_0 < 1) = false := decide_eq_false c4
  clear c4
  (first | rw [c4b0] | (simp only [i64_w, i32_w]; rw [c4b0]) | skip)
  have H' := Aside0.mk H
  clear H
  obtain ⟨hcz6_0, hcz6_1, hcz6_2⟩ := cz3_ BK873.out
  obtain ⟨hfz6_0, hfz6_1, hfz6_2⟩ := fz3_ BK873.out
  go_wp2
  go_meet
  case rel => exact ⟨_, (decide (a0_0 > 3)), rs_, H', ⟨by first | omega | exact Nat.le_refl _⟩, ⟨bk_ BK873.out⟩, ⟨by repeat (first | (with_reducible first | exact HB.out | apply ba_ | apply bn_ | apply bd_ | refine below_set ?_ GE873.out) | exact HB.out)⟩⟩
 case rest =>
  clear HC2
  try clear p2
  try clear c4
  try clear c4b0
  try clear hcz5_0
  try clear hcz5_1
  try clear hcz5_2
  try clear hcz6_0
  try clear hcz6_1
  try clear hcz6_2
  try clear hfz5_0
  try clear hfz5_1
  try clear hfz5_2
  try clear hfz6_0
  try clear hfz6_1
  try clear hfz6_2
  obtain ⟨kq, x14_1, rfl, HA, HJ1, BK873, HB⟩ := hcut
  cases kq with
  | zero => exact absurd HA.out (by simp [honeycombref05_Check.j0])
  | succ kj1 =>
   have H := HA.out
   clear HA
   simp only [honeycombref05_Check.j0] at H
   by_cases c7 : x14_1 = true
   ·
    subst c7
    have H1 : (some 11) = some r := by rw [if_pos rfl] at H; exact H
    clear H
    have H := H1
    clear H1
    obtain rfl := Option.some.inj H
    go_wp2
    go_ret
    exact ⟨er_, hg_ GE873.out⟩
   replace c7 := Bool.eq_false_iff.mpr c7
   subst c7
   have H1 : ((some (([0, 63, 3, 12] : List Int) : List Int)).bind fun y874 => (if 0 ≤ a0_0 then (if a0_0 < (y874.length : Int) then (honeycombref05_Check.l0 kj1 (rd y874 a0_0) 0 a0_0 l0_1 l0_2) else (none)) else (none))) = some r := by rw [if_neg (show ¬ (false = true) by decide)] at H; exact H
   clear H
   have H := H1
   clear H1
   obtain ⟨y874, hy874⟩ : ∃ y_ : List Int, y_ = (([0, 63, 3, 12] : List Int)) := ⟨_, rfl⟩
   replace H : (if 0 ≤ a0_0 then (if a0_0 < (y874.length : Int) then (honeycombref05_Check.l0 kj1 (rd y874 a0_0) 0 a0_0 l0_1 l0_2) else (none)) else (none)) = some r := by first | (rw [hy874]; with_reducible exact H) | (have H2_ := (Option.bind_some _ _).symm.trans H; rw [hy874]; with_reducible exact H2_) | (have H2_ := (Option.bind_some _ _).symm.trans H; with_reducible exact H2_) | with_reducible exact H | (rw [hy874]; exact H) | exact H
   have Ny874 := Aside0.mk hy874
   clear hy874
   by_cases c8 : 0 ≤ a0_0
   rotate_left
   ·
    rw [if_neg c8] at H
    exact absurd H (by simp)
   rw [if_pos c8] at H
   have c8b0 : decide (0 ≤ a0_0) = true := decide_eq_true c8
   clear c8
   by_cases c9 : a0_0 < (y874.length : Int)
   rotate_left
   ·
    rw [if_neg c9] at H
    exact absurd H (by simp)
   rw [if_pos c9] at H
   have c9b0 : decide (a0_0 < (y874.length : Int)) = true := decide_eq_true c9
   clear c9
   have H' := Aside0.mk H
   clear H
   go_wp2_with (first | ((with_reducible refine gate_dst (N := 15) rfl ?_); refine Kd.R_lit (Kd.int .i64) _ 3 ?hg (N := 15) ?hd (xs := ([0, 63, 3, 12] : List Int)) (inner := [.int .i64 0, .int .i64 63, .int .i64 3, .int .i64 12]) (ok := fun _ => True) (okp := fun _ => True) ?hr ?hp (fun _ hk => hk) trivial (Below.refl _ _) (Nat.le_refl _) (by simp) ?_; (case hd => rfl); (case hg => rfl); (case hr => first | (go_simp; done) | (go_simp; rfl)); (case hp => exact (Reps.one (show Kd.M (Kd.int .i64) _ _ _ 0 [.int .i64 0] from rfl) (Reps.one (show Kd.M (Kd.int .i64) _ _ _ 63 [.int .i64 63] from rfl) (Reps.one (show Kd.M (Kd.int .i64) _ _ _ 3 [.int .i64 3] from rfl) (Reps.one (show Kd.M (Kd.int .i64) _ _ _ 12 [.int .i64 12] from rfl) (Reps.none _ _)))))); intro v875 w10 ho11 hb hg_ hnew_; clear hg_ hnew_; (first | rw [← Ny874.out] at ho11 | (simp only [Int.reduceToNat] at ho11; rw [← Ny874.out] at ho11)); have HO876 := Aside0.mk (Kd.R_lower ho11 (below_size (hg_ GE873.out))); replace BK873 := bb_ BK873.out hb; replace HB := Aside0.mk (below_step (hg_ GE873.out) hb); clear hb ho11; obtain ⟨hcz12_0, hcz12_1, hcz12_2⟩ := cz3_ BK873.out; obtain ⟨hfz12_0, hfz12_1, hfz12_2⟩ := fz3_ BK873.out; obtain ⟨Ao13, co13, eo13⟩ := Kd.R_slice HO876.out; subst eo13; have p877 : 0 ≤ (a0_0 : Int) := of_decide_eq_true as_; have q877 : a0_0 < (y874.length : Int) := of_decide_eq_true as_; obtain ⟨ad877, e877, hx877_0⟩ := Kd.at_int (Kd.R_reads' HO876.out).2.2 a0_0 p877 q877; cases e877; replace p877 := eq_true p877; replace q877 := eq_true q877))
   go_loopg [4] kj1 (fun kq v4 w' => ∃ (x4_2 : Int), v4 = .int .i64 x4_2 ∧ Aside0 (honeycombref05_Check.l0 kq (rd y874 a0_0) x4_2 a0_0 l0_1 l0_2 = some r) ∧ Aside0 (kq ≤ kj1) ∧ Aside0 (w'.heap[gb873]? = some (.cells #[.int .i64 a0_0, (.slice A0_1 l0_1.length c0_1), (.slice A0_2 l0_2.length c0_2)] 55 (0, 0))) ∧ Aside0 (Below w.heap.size w w'))
   case atStart => exact ⟨(0), rs_, H', ⟨Nat.le_refl _⟩, ⟨bk_ BK873.out⟩, ⟨by repeat (first | (with_reducible first | exact HB.out | apply ba_ | apply bn_ | apply bd_ | refine below_set ?_ GE873.out) | exact HB.out)⟩⟩
   case round =>
    clear H'
    try clear p2
    try clear c4
    try clear c4b0
    try clear c7
    try clear c8
    try clear c8b0
    try clear p8
    try clear q8
    try clear hx8
    try clear c9
    try clear c9b0
    try clear hcz12_0
    try clear hcz12_1
    try clear hcz12_2
    try clear hcz5_0
    try clear hcz5_1
    try clear hcz5_2
    try clear hcz6_0
    try clear hcz6_1
    try clear hcz6_2
    try clear hfz12_0
    try clear hfz12_1
    try clear hfz12_2
    try clear hfz5_0
    try clear hfz5_1
    try clear hfz5_2
    try clear hfz6_0
    try clear hfz6_1
    try clear hfz6_2
    try clear hx877_0
    try clear p2
    try clear p877
    try clear q877
    obtain ⟨x4_2, rfl, HA, HK2, BK873, HB⟩ := hrel
    cases gk with
    | zero => exact absurd HA.out (by simp [honeycombref05_Check.l0])
    | succ k2 =>
     have H := HA.out
     clear HA
     simp only [honeycombref05_Check.l0] at H
     by_cases c14 : x4_2 < 2
     rotate_left
     ·
      rw [if_neg c14] at H
      have c14b0 : decide (x4_2 < 2) = false := decide_eq_false c14
      clear c14
      obtain rfl := Option.some.inj H
      go_wp2
      go_ret
      exact ⟨er_, hg_ GE873.out⟩
     rw [if_pos c14] at H
     have c14b0 : decide (x4_2 < 2) = true := decide_eq_true c14
     clear c14
     have H' := Aside0.mk H
     clear H
     go_wp2
     go_loopg [5] k2 (fun kq v5 w' => ∃ (x5_3 : Int), v5 = .int .i64 x5_3 ∧ Aside0 (honeycombref05_Check.l1 kq (rd y874 a0_0) x4_2 x5_3 a0_0 l0_1 l0_2 = some r) ∧ Aside0 (kq ≤ k2) ∧ Aside0 (w'.heap[gb873]? = some (.cells #[.int .i64 a0_0, (.slice A0_1 l0_1.length c0_1), (.slice A0_2 l0_2.length c0_2)] 55 (0, 0))) ∧ Aside0 (Below w.heap.size w w'))
     case atStart => exact ⟨(0), rs_, H', ⟨Nat.le_refl _⟩, ⟨bk_ BK873.out⟩, ⟨by repeat (first | (with_reducible first | exact HB.out | apply ba_ | apply bn_ | apply bd_ | refine below_set ?_ GE873.out) | exact HB.out)⟩⟩
     case round =>
      clear H'
      try clear c1
      try clear p2
      try clear c4
      try clear c4b0
      try clear c7
      try clear c8
      try clear c8b0
      try clear p8
      try clear q8
      try clear hx8
      try clear c9
      try clear c9b0
      try clear c14
      try clear c14b0
      try clear hcz12_0
      try clear hcz12_1
      try clear hcz12_2
      try clear hcz5_0
      try clear hcz5_1
      try clear hcz5_2
      try clear hcz6_0
      try clear hcz6_1
      try clear hcz6_2
      try clear hfz12_0
      try clear hfz12_1
      try clear hfz12_2
      try clear hfz5_0
      try clear hfz5_1
      try clear hfz5_2
      try clear hfz6_0
      try clear hfz6_1
      try clear hfz6_2
      try clear hx877_0
      try clear p2
      try clear p8
      try clear p877
      try clear q8
      try clear q877
      obtain ⟨x5_3, rfl, HA, HK3, BK873, HB⟩ := hrel
      cases gk with
      | zero => exact absurd HA.out (by simp [honeycombref05_Check.l1])
      | succ k3 =>
       have H := HA.out
       clear HA
       simp only [honeycombref05_Check.l1] at H
       by_cases c15 : x5_3 < 64
       rotate_left
       ·
        rw [if_neg c15] at H
        have c15b0 : decide (x5_3 < 64) = false := decide_eq_false c15
        clear c15
        have H' := Aside0.mk H
        clear H
        go_wp2
        go_roundg k3
        case measure => have := HJ1.out; have := HK2.out; have := HK3.out; omega
        case rel => exact ⟨(wrap64 (x4_2 + 1)), rs_, H', ⟨by have := HJ1.out; have := HK2.out; have := HK3.out; omega⟩, ⟨bk_ BK873.out⟩, ⟨by repeat (first | (with_reducible first | exact HB.out | apply ba_ | apply bn_ | apply bd_ | refine below_set ?_ GE873.out) | exact HB.out)⟩⟩
       rw [if_pos c15] at H
       have c15b0 : decide (x5_3 < 64) = true := decide_eq_true c15
       clear c15
       have HC16 := Aside0.mk H
       clear H
       go_upto_region 10 with (fail)
       go_cut [6] (fun v6 wc => ∃ (kq : Nat) (x6_15 : Bool), v6 = .bool x6_15 ∧ Aside0 (honeycombref05_Check.j3 kq (rd y874 a0_0) x4_2 x5_3 x6_15 a0_0 l0_1 l0_2 = some r) ∧ Aside0 (kq ≤ k3) ∧ Aside0 (wc.heap[gb873]? = some (.cells #[.int .i64 a0_0, (.slice A0_1 l0_1.length c0_1), (.slice A0_2 l0_2.length c0_2)] 55 (0, 0))) ∧ Aside0 (Below w.heap.size w wc))
       case first =>
        have H := HC16.out
        clear HC16
        by_cases c17 : x5_3 ≤ (rd y874 a0_0)
        rotate_left
        ·
         rw [if_neg c17] at H
         have c17b0 : decide (x5_3 ≤ (rd y874 a0_0)) = false := decide_eq_false c17
         clear c17
         (first | rw [c17b0] | (simp only [i64_w, i32_w]; rw [c17b0]) | skip)
         have H' := Aside0.mk H
         clear H
         go_wp2
         go_meet
         case rel => exact ⟨_, (false), rs_, H', ⟨by have := HJ1.out; have := HK2.out; have := HK3.out; first | omega | exact Nat.le_refl _⟩, ⟨bk_ BK873.out⟩, ⟨by repeat (first | (with_reducible first | exact HB.out | apply ba_ | apply bn_ | apply bd_ | refine below_set ?_ GE873.out) | exact HB.out)⟩⟩
        rw [if_pos c17] at H
        have c17b0 : decide (x5_3 ≤ (rd y874 a0_0)) = true := decide_eq_true c17
        clear c17
        (first | rw [c17b0] | (simp only [i64_w, i32_w]; rw [c17b0]) | skip)
        by_cases c18 : x4_2 = 0
        ·
         rw [if_pos c18] at H
         have c18b0 : (x4_2 == 0) = true := beq_iff_eq.mpr c18
         have c18b1 : (x4_2 != 0) = false := bne_eq_false_iff_eq.mpr c18
         clear c18
         have H' := Aside0.mk H
         clear H
         go_wp2
         go_meet
         case rel => exact ⟨_, (true), rs_, H', ⟨by have := HJ1.out; have := HK2.out; have := HK3.out; first | omega | exact Nat.le_refl _⟩, ⟨bk_ BK873.out⟩, ⟨by repeat (first | (with_reducible first | exact HB.out | apply ba_ | apply bn_ | apply bd_ | refine below_set ?_ GE873.out) | exact HB.out)⟩⟩
        rw [if_neg c18] at H
        have c18b0 : (x4_2 == 0) = false := beq_eq_false_iff_ne.mpr c18
        have c18b1 : (x4_2 != 0) = true := bne_iff_ne.mpr c18
        have H' := Aside0.mk H
        clear H
        obtain ⟨hcz19_0, hcz19_1, hcz19_2⟩ := cz3_ BK873.out
        obtain ⟨hfz19_0, hfz19_1, hfz19_2⟩ := fz3_ BK873.out
        go_wp2
        go_meet
        case rel => exact ⟨_, (decide (a0_0 > 1)), rs_, H', ⟨by have := HJ1.out; have := HK2.out; have := HK3.out; first | omega | exact Nat.le_refl _⟩, ⟨bk_ BK873.out⟩, ⟨by repeat (first | (with_reducible first | exact HB.out | apply ba_ | apply bn_ | apply bd_ | refine below_set ?_ GE873.out) | exact HB.out)⟩⟩
       case rest =>
        clear HC16
        try clear c1
        try clear p2
        try clear c4
        try clear c4b0
        try clear c7
        try clear c8
        try clear c8b0
        try clear p8
        try clear q8
        try clear hx8
        try clear c9
        try clear c9b0
        try clear c14
        try clear c14b0
        try clear c15
        try clear c15b0
        try clear c17
        try clear c17b0
        try clear c18
        try clear c18b0
        try clear c18b1
        try clear hcz12_0
        try clear hcz12_1
        try clear hcz12_2
        try clear hcz19_0
        try clear hcz19_1
        try clear hcz19_2
        try clear hcz5_0
        try clear hcz5_1
        try clear hcz5_2
        try clear hcz6_0
        try clear hcz6_1
        try clear hcz6_2
        try clear hfz12_0
        try clear hfz12_1
        try clear hfz12_2
        try clear hfz19_0
        try clear hfz19_1
        try clear hfz19_2
        try clear hfz5_0
        try clear hfz5_1
        try clear hfz5_2
        try clear hfz6_0
        try clear hfz6_1
        try clear hfz6_2
        try clear hx877_0
        try clear p2
        try clear p8
        try clear p877
        try clear q8
        try clear q877
        obtain ⟨kq, x6_15, rfl, HA, HJ15, BK873, HB⟩ := hcut
        cases kq with
        | zero => exact absurd HA.out (by simp [honeycombref05_Check.j3])
        | succ kj15 =>
         have H := HA.out
         clear HA
         simp only [honeycombref05_Check.j3] at H
         have HC20 := Aside0.mk H
         clear H
         go_upto_region 11 with (fail)
         go_cut [69] (fun v69 wc => ∃ (kq : Nat) (x69_19 : Bool), v69 = .bool x69_19 ∧ Aside0 (honeycombref05_Check.j4 kq (rd y874 a0_0) x4_2 x5_3 x69_19 a0_0 l0_1 l0_2 = some r) ∧ Aside0 (kq ≤ kj15) ∧ Aside0 (wc.heap[gb873]? = some (.cells #[.int .i64 a0_0, (.slice A0_1 l0_1.length c0_1), (.slice A0_2 l0_2.length c0_2)] 55 (0, 0))) ∧ Aside0 (Below w.heap.size w wc))
         case first =>
          have H := HC20.out
          clear HC20
          by_cases c21 : 0 ≤ x4_2
          rotate_left
          ·
           rw [if_neg c21] at H
           exact absurd H (by simp)
          rw [if_pos c21] at H
          have c21b0 : decide (0 ≤ x4_2) = true := decide_eq_true c21
          clear c21
          (first | rw [c21b0] | (simp only [i64_w, i32_w]; rw [c21b0]) | skip)
          by_cases c22 : x4_2 < (l0_1.length : Int)
          rotate_left
          ·
           rw [if_neg c22] at H
           exact absurd H (by simp)
          rw [if_pos c22] at H
          have c22b0 : decide (x4_2 < (l0_1.length : Int)) = true := decide_eq_true c22
          clear c22
          replace H := Option.bind_eq_some_iff.mp H
          obtain ⟨t879, A230, H⟩ := H
          replace H : (if t879 = 1 then (if x6_15 = true then (if x5_3 = 0 then (honeycombref05_Check.j4 kj15 (rd y874 a0_0) x4_2 x5_3 true a0_0 l0_1 l0_2) else (if x4_2 < (l0_2.length : Int) then ((honeycombref05_bit.f kj15 (rd l0_2 x4_2) x5_3).bind fun t881 => (if t881 = 1 then (honeycombref05_Check.j4 kj15 (rd y874 a0_0) x4_2 x5_3 (!x6_15) a0_0 l0_1 l0_2) else (honeycombref05_Check.j4 kj15 (rd y874 a0_0) x4_2 x5_3 false a0_0 l0_1 l0_2))) else (none))) else (honeycombref05_Check.j4 kj15 (rd y874 a0_0) x4_2 x5_3 true a0_0 l0_1 l0_2)) else (if x4_2 < (l0_2.length : Int) then ((honeycombref05_bit.f kj15 (rd l0_2 x4_2) x5_3).bind fun t883 => (if t883 = 1 then (honeycombref05_Check.j4 kj15 (rd y874 a0_0) x4_2 x5_3 (!x6_15) a0_0 l0_1 l0_2) else (honeycombref05_Check.j4 kj15 (rd y874 a0_0) x4_2 x5_3 false a0_0 l0_1 l0_2))) else (none))) = some r := H
          have A23 := Aside0.mk A230
          clear A230
          by_cases c24 : t879 = 1
          rotate_left
          ·
           rw [if_neg c24] at H
           have c24b0 : (t879 == 1) = false := beq_eq_false_iff_ne.mpr c24
           have c24b1 : (t879 != 1) = true := bne_iff_ne.mpr c24
           by_cases c34 : x4_2 < (l0_2.length : Int)
           rotate_left
           ·
            rw [if_neg c34] at H
            exact absurd H (by simp)
           rw [if_pos c34] at H
           have c34b0 : decide (x4_2 < (l0_2.length : Int)) = true := decide_eq_true c34
           clear c34
           replace H := Option.bind_eq_some_iff.mp H
           obtain ⟨t883, A350, H⟩ := H
           replace H : (if t883 = 1 then (honeycombref05_Check.j4 kj15 (rd y874 a0_0) x4_2 x5_3 (!x6_15) a0_0 l0_1 l0_2) else (honeycombref05_Check.j4 kj15 (rd y874 a0_0) x4_2 x5_3 false a0_0 l0_1 l0_2)) = some r := H
           have A35 := Aside0.mk A350
           clear A350
           by_cases c36 : t883 = 1
           rotate_left
           ·
            rw [if_neg c36] at H
            have c36b0 : (t883 == 1) = false := beq_eq_false_iff_ne.mpr c36
            have c36b1 : (t883 != 1) = true := bne_iff_ne.mpr c36
            have H' := Aside0.mk H
            clear H
            obtain ⟨hcz38_0, hcz38_1, hcz38_2⟩ := cz3_ BK873.out
            obtain ⟨hfz38_0, hfz38_1, hfz38_2⟩ := fz3_ BK873.out
            have p878 : 0 ≤ (x4_2 : Int) := of_decide_eq_true as_
            have q878 : x4_2 < (l0_1.length : Int) := of_decide_eq_true as_
            obtain ⟨ad878, e878, hx878_0⟩ := Kd.at_int HR0_1.out x4_2 p878 q878
            cases e878
            try replace hx878_0 := (HB.out.cell (World.block_lt_of_cell? w _ hx878_0)).trans hx878_0
            replace p878 := eq_true p878
            replace q878 := eq_true q878
            go_wp2_with (first | ((with_reducible refine gate_callee (f := 69) rfl ?_); refine goesL_ (some 46) rfl rfl Tryd.func69 (by kernel_rfl) rfl #[.int .u64 (rd l0_1 x4_2), .int .i64 x5_3] rfl ar_ ?_; (with_reducible refine (honeycombref05_bit.calls kj15 (rd l0_1 x4_2) x5_3 t879 _ A23.out).mono ?_); rintro e w' ⟨rfl, ⟨nd, rfl⟩⟩; refine ⟨_, rfl, ?_⟩; have p882 : 0 ≤ (x4_2 : Int) := of_decide_eq_true as_; have q882 : x4_2 < (l0_2.length : Int) := of_decide_eq_true as_; obtain ⟨ad882, e882, hx882_0⟩ := Kd.at_int HR0_2.out x4_2 p882 q882; cases e882; try replace hx882_0 := (HB.out.cell (World.block_lt_of_cell? w _ hx882_0)).trans hx882_0; replace p882 := eq_true p882; replace q882 := eq_true q882) | (go_at_call 69; (with_reducible refine (honeycombref05_bit.calls kj15 (rd l0_2 x4_2) x5_3 t883 _ A35.out).mono ?_); rintro e w' ⟨rfl, ⟨nd, rfl⟩⟩))
            go_meet
            case rel => exact ⟨_, (false), rs_, H', ⟨by have := HJ1.out; have := HK2.out; have := HK3.out; have := HJ15.out; first | omega | exact Nat.le_refl _⟩, ⟨bk_ BK873.out⟩, ⟨by repeat (first | (with_reducible first | exact HB.out | apply ba_ | apply bn_ | apply bd_ | refine below_set ?_ GE873.out) | exact HB.out)⟩⟩
           rw [if_pos c36] at H
           have c36b0 : (t883 == 1) = true := beq_iff_eq.mpr c36
           have c36b1 : (t883 != 1) = false := bne_eq_false_iff_eq.mpr c36
           clear c36
           have H' := Aside0.mk H
           clear H
           obtain ⟨hcz37_0, hcz37_1, hcz37_2⟩ := cz3_ BK873.out
           obtain ⟨hfz37_0, hfz37_1, hfz37_2⟩ := fz3_ BK873.out
           have p878 : 0 ≤ (x4_2 : Int) := of_decide_eq_true as_
           have q878 : x4_2 < (l0_1.length : Int) := of_decide_eq_true as_
           obtain ⟨ad878, e878, hx878_0⟩ := Kd.at_int HR0_1.out x4_2 p878 q878
           cases e878
           try replace hx878_0 := (HB.out.cell (World.block_lt_of_cell? w _ hx878_0)).trans hx878_0
           replace p878 := eq_true p878
           replace q878 := eq_true q878
           go_wp2_with (first | ((with_reducible refine gate_callee (f := 69) rfl ?_); refine goesL_ (some 46) rfl rfl Tryd.func69 (by kernel_rfl) rfl #[.int .u64 (rd l0_1 x4_2), .int .i64 x5_3] rfl ar_ ?_; (with_reducible refine (honeycombref05_bit.calls kj15 (rd l0_1 x4_2) x5_3 t879 _ A23.out).mono ?_); rintro e w' ⟨rfl, ⟨nd, rfl⟩⟩; refine ⟨_, rfl, ?_⟩; have p882 : 0 ≤ (x4_2 : Int) := of_decide_eq_true as_; have q882 : x4_2 < (l0_2.length : Int) := of_decide_eq_true as_; obtain ⟨ad882, e882, hx882_0⟩ := Kd.at_int HR0_2.out x4_2 p882 q882; cases e882; try replace hx882_0 := (HB.out.cell (World.block_lt_of_cell? w _ hx882_0)).trans hx882_0; replace p882 := eq_true p882; replace q882 := eq_true q882) | (go_at_call 69; (with_reducible refine (honeycombref05_bit.calls kj15 (rd l0_2 x4_2) x5_3 t883 _ A35.out).mono ?_); rintro e w' ⟨rfl, ⟨nd, rfl⟩⟩))
           go_meet
           case rel => exact ⟨_, (!x6_15), rs_, H', ⟨by have := HJ1.out; have := HK2.out; have := HK3.out; have := HJ15.out; first | omega | exact Nat.le_refl _⟩, ⟨bk_ BK873.out⟩, ⟨by repeat (first | (with_reducible first | exact HB.out | apply ba_ | apply bn_ | apply bd_ | refine below_set ?_ GE873.out) | exact HB.out)⟩⟩
          rw [if_pos c24] at H
          have c24b0 : (t879 == 1) = true := beq_iff_eq.mpr c24
          have c24b1 : (t879 != 1) = false := bne_eq_false_iff_eq.mpr c24
          clear c24
          by_cases c25 : x6_15 = true
          rotate_left
          ·
           replace c25 := Bool.eq_false_iff.mpr c25
           subst c25
           have H1 : (honeycombref05_Check.j4 kj15 (rd y874 a0_0) x4_2 x5_3 true a0_0 l0_1 l0_2) = some r := by rw [if_neg (show ¬ (false = true) by decide)] at H; exact H
           clear H
           have H := H1
           clear H1
           have H' := Aside0.mk H
           clear H
           obtain ⟨hcz33_0, hcz33_1, hcz33_2⟩ := cz3_ BK873.out
           obtain ⟨hfz33_0, hfz33_1, hfz33_2⟩ := fz3_ BK873.out
           have p878 : 0 ≤ (x4_2 : Int) := of_decide_eq_true as_
           have q878 : x4_2 < (l0_1.length : Int) := of_decide_eq_true as_
           obtain ⟨ad878, e878, hx878_0⟩ := Kd.at_int HR0_1.out x4_2 p878 q878
           cases e878
           try replace hx878_0 := (HB.out.cell (World.block_lt_of_cell? w _ hx878_0)).trans hx878_0
           replace p878 := eq_true p878
           replace q878 := eq_true q878
           go_wp2_with (first | ((with_reducible refine gate_callee (f := 69) rfl ?_); refine goesL_ (some 46) rfl rfl Tryd.func69 (by kernel_rfl) rfl #[.int .u64 (rd l0_1 x4_2), .int .i64 x5_3] rfl ar_ ?_; (with_reducible refine (honeycombref05_bit.calls kj15 (rd l0_1 x4_2) x5_3 t879 _ A23.out).mono ?_); rintro e w' ⟨rfl, ⟨nd, rfl⟩⟩; refine ⟨_, rfl, ?_⟩))
           go_meet
           case rel => exact ⟨_, (true), rs_, H', ⟨by have := HJ1.out; have := HK2.out; have := HK3.out; have := HJ15.out; first | omega | exact Nat.le_refl _⟩, ⟨bk_ BK873.out⟩, ⟨by repeat (first | (with_reducible first | exact HB.out | apply ba_ | apply bn_ | apply bd_ | refine below_set ?_ GE873.out) | exact HB.out)⟩⟩
          subst c25
          have H1 : (if x5_3 = 0 then (honeycombref05_Check.j4 kj15 (rd y874 a0_0) x4_2 x5_3 true a0_0 l0_1 l0_2) else (if x4_2 < (l0_2.length : Int) then ((honeycombref05_bit.f kj15 (rd l0_2 x4_2) x5_3).bind fun t881 => (if t881 = 1 then (honeycombref05_Check.j4 kj15 (rd y874 a0_0) x4_2 x5_3 (!true) a0_0 l0_1 l0_2) else (honeycombref05_Check.j4 kj15 (rd y874 a0_0) x4_2 x5_3 false a0_0 l0_1 l0_2))) else (none))) = some r := by rw [if_pos rfl] at H; exact H
          clear H
          have H := H1
          clear H1
          by_cases c26 : x5_3 = 0
          ·
           rw [if_pos c26] at H
           have c26b0 : (x5_3 == 0) = true := beq_iff_eq.mpr c26
           have c26b1 : (x5_3 != 0) = false := bne_eq_false_iff_eq.mpr c26
           clear c26
           have H' := Aside0.mk H
           clear H
           obtain ⟨hcz27_0, hcz27_1, hcz27_2⟩ := cz3_ BK873.out
           obtain ⟨hfz27_0, hfz27_1, hfz27_2⟩ := fz3_ BK873.out
           have p878 : 0 ≤ (x4_2 : Int) := of_decide_eq_true as_
           have q878 : x4_2 < (l0_1.length : Int) := of_decide_eq_true as_
           obtain ⟨ad878, e878, hx878_0⟩ := Kd.at_int HR0_1.out x4_2 p878 q878
           cases e878
           try replace hx878_0 := (HB.out.cell (World.block_lt_of_cell? w _ hx878_0)).trans hx878_0
           replace p878 := eq_true p878
           replace q878 := eq_true q878
           go_wp2_with (first | ((with_reducible refine gate_callee (f := 69) rfl ?_); refine goesL_ (some 46) rfl rfl Tryd.func69 (by kernel_rfl) rfl #[.int .u64 (rd l0_1 x4_2), .int .i64 x5_3] rfl ar_ ?_; (with_reducible refine (honeycombref05_bit.calls kj15 (rd l0_1 x4_2) x5_3 t879 _ A23.out).mono ?_); rintro e w' ⟨rfl, ⟨nd, rfl⟩⟩; refine ⟨_, rfl, ?_⟩))
           go_meet
           case rel => exact ⟨_, (true), rs_, H', ⟨by have := HJ1.out; have := HK2.out; have := HK3.out; have := HJ15.out; first | omega | exact Nat.le_refl _⟩, ⟨bk_ BK873.out⟩, ⟨by repeat (first | (with_reducible first | exact HB.out | apply ba_ | apply bn_ | apply bd_ | refine below_set ?_ GE873.out) | exact HB.out)⟩⟩
          rw [if_neg c26] at H
          have c26b0 : (x5_3 == 0) = false := beq_eq_false_iff_ne.mpr c26
          have c26b1 : (x5_3 != 0) = true := bne_iff_ne.mpr c26
          by_cases c28 : x4_2 < (l0_2.length : Int)
          rotate_left
          ·
           rw [if_neg c28] at H
           exact absurd H (by simp)
          rw [if_pos c28] at H
          have c28b0 : decide (x4_2 < (l0_2.length : Int)) = true := decide_eq_true c28
          clear c28
          replace H := Option.bind_eq_some_iff.mp H
          obtain ⟨t881, A290, H⟩ := H
          replace H : (if t881 = 1 then (honeycombref05_Check.j4 kj15 (rd y874 a0_0) x4_2 x5_3 (!true) a0_0 l0_1 l0_2) else (honeycombref05_Check.j4 kj15 (rd y874 a0_0) x4_2 x5_3 false a0_0 l0_1 l0_2)) = some r := H
          have A29 := Aside0.mk A290
          clear A290
          by_cases c30 : t881 = 1
          rotate_left
          ·
           rw [if_neg c30] at H
           have c30b0 : (t881 == 1) = false := beq_eq_false_iff_ne.mpr c30
           have c30b1 : (t881 != 1) = true := bne_iff_ne.mpr c30
           have H' := Aside0.mk H
           clear H
           obtain ⟨hcz32_0, hcz32_1, hcz32_2⟩ := cz3_ BK873.out
           obtain ⟨hfz32_0, hfz32_1, hfz32_2⟩ := fz3_ BK873.out
           have p878 : 0 ≤ (x4_2 : Int) := of_decide_eq_true as_
           have q878 : x4_2 < (l0_1.length : Int) := of_decide_eq_true as_
           obtain ⟨ad878, e878, hx878_0⟩ := Kd.at_int HR0_1.out x4_2 p878 q878
           cases e878
           try replace hx878_0 := (HB.out.cell (World.block_lt_of_cell? w _ hx878_0)).trans hx878_0
           replace p878 := eq_true p878
           replace q878 := eq_true q878
           go_wp2_with (first | ((with_reducible refine gate_callee (f := 69) rfl ?_); refine goesL_ (some 46) rfl rfl Tryd.func69 (by kernel_rfl) rfl #[.int .u64 (rd l0_1 x4_2), .int .i64 x5_3] rfl ar_ ?_; (with_reducible refine (honeycombref05_bit.calls kj15 (rd l0_1 x4_2) x5_3 t879 _ A23.out).mono ?_); rintro e w' ⟨rfl, ⟨nd, rfl⟩⟩; refine ⟨_, rfl, ?_⟩; have p880 : 0 ≤ (x4_2 : Int) := of_decide_eq_true as_; have q880 : x4_2 < (l0_2.length : Int) := of_decide_eq_true as_; obtain ⟨ad880, e880, hx880_0⟩ := Kd.at_int HR0_2.out x4_2 p880 q880; cases e880; try replace hx880_0 := (HB.out.cell (World.block_lt_of_cell? w _ hx880_0)).trans hx880_0; replace p880 := eq_true p880; replace q880 := eq_true q880) | (go_at_call 69; (with_reducible refine (honeycombref05_bit.calls kj15 (rd l0_2 x4_2) x5_3 t881 _ A29.out).mono ?_); rintro e w' ⟨rfl, ⟨nd, rfl⟩⟩))
           go_meet
           case rel => exact ⟨_, (false), rs_, H', ⟨by have := HJ1.out; have := HK2.out; have := HK3.out; have := HJ15.out; first | omega | exact Nat.le_refl _⟩, ⟨bk_ BK873.out⟩, ⟨by repeat (first | (with_reducible first | exact HB.out | apply ba_ | apply bn_ | apply bd_ | refine below_set ?_ GE873.out) | exact HB.out)⟩⟩
          rw [if_pos c30] at H
          have c30b0 : (t881 == 1) = true := beq_iff_eq.mpr c30
          have c30b1 : (t881 != 1) = false := bne_eq_false_iff_eq.mpr c30
          clear c30
          have H' := Aside0.mk H
          clear H
          obtain ⟨hcz31_0, hcz31_1, hcz31_2⟩ := cz3_ BK873.out
          obtain ⟨hfz31_0, hfz31_1, hfz31_2⟩ := fz3_ BK873.out
          have p878 : 0 ≤ (x4_2 : Int) := of_decide_eq_true as_
          have q878 : x4_2 < (l0_1.length : Int) := of_decide_eq_true as_
          obtain ⟨ad878, e878, hx878_0⟩ := Kd.at_int HR0_1.out x4_2 p878 q878
          cases e878
          try replace hx878_0 := (HB.out.cell (World.block_lt_of_cell? w _ hx878_0)).trans hx878_0
          replace p878 := eq_true p878
          replace q878 := eq_true q878
          go_wp2_with (first | ((with_reducible refine gate_callee (f := 69) rfl ?_); refine goesL_ (some 46) rfl rfl Tryd.func69 (by kernel_rfl) rfl #[.int .u64 (rd l0_1 x4_2), .int .i64 x5_3] rfl ar_ ?_; (with_reducible refine (honeycombref05_bit.calls kj15 (rd l0_1 x4_2) x5_3 t879 _ A23.out).mono ?_); rintro e w' ⟨rfl, ⟨nd, rfl⟩⟩; refine ⟨_, rfl, ?_⟩; have p880 : 0 ≤ (x4_2 : Int) := of_decide_eq_true as_; have q880 : x4_2 < (l0_2.length : Int) := of_decide_eq_true as_; obtain ⟨ad880, e880, hx880_0⟩ := Kd.at_int HR0_2.out x4_2 p880 q880; cases e880; try replace hx880_0 := (HB.out.cell (World.block_lt_of_cell? w _ hx880_0)).trans hx880_0; replace p880 := eq_true p880; replace q880 := eq_true q880) | (go_at_call 69; (with_reducible refine (honeycombref05_bit.calls kj15 (rd l0_2 x4_2) x5_3 t881 _ A29.out).mono ?_); rintro e w' ⟨rfl, ⟨nd, rfl⟩⟩))
          go_meet
          case rel => exact ⟨_, (!true), rs_, H', ⟨by have := HJ1.out; have := HK2.out; have := HK3.out; have := HJ15.out; first | omega | exact Nat.le_refl _⟩, ⟨bk_ BK873.out⟩, ⟨by repeat (first | (with_reducible first | exact HB.out | apply ba_ | apply bn_ | apply bd_ | refine below_set ?_ GE873.out) | exact HB.out)⟩⟩
         case rest =>
          clear HC20
          try clear c1
          try clear c2
          try clear p2
          try clear c3
          try clear c4
          try clear c4b0
          try clear c6
          try clear c7
          try clear c8
          try clear c8b0
          try clear p8
          try clear q8
          try clear hx8
          try clear c9
          try clear c9b0
          try clear c14
          try clear c14b0
          try clear c15
          try clear c15b0
          try clear c17
          try clear c17b0
          try clear c18
          try clear c18b0
          try clear c18b1
          try clear c21
          try clear c21b0
          try clear c22
          try clear c22b0
          try clear c24
          try clear c24b0
          try clear c24b1
          try clear c25
          try clear c26
          try clear c26b0
          try clear c26b1
          try clear c28
          try clear c28b0
          try clear c30
          try clear c30b0
          try clear c30b1
          try clear c34
          try clear c34b0
          try clear c36
          try clear c36b0
          try clear c36b1
          try clear hcz12_0
          try clear hcz12_1
          try clear hcz12_2
          try clear hcz19_0
          try clear hcz19_1
          try clear hcz19_2
          try clear hcz27_0
          try clear hcz27_1
          try clear hcz27_2
          try clear hcz31_0
          try clear hcz31_1
          try clear hcz31_2
          try clear hcz32_0
          try clear hcz32_1
          try clear hcz32_2
          try clear hcz33_0
          try clear hcz33_1
          try clear hcz33_2
          try clear hcz37_0
          try clear hcz37_1
          try clear hcz37_2
          try clear hcz38_0
          try clear hcz38_1
          try clear hcz38_2
          try clear hcz5_0
          try clear hcz5_1
          try clear hcz5_2
          try clear hcz6_0
          try clear hcz6_1
          try clear hcz6_2
          try clear hfz12_0
          try clear hfz12_1
          try clear hfz12_2
          try clear hfz19_0
          try clear hfz19_1
          try clear hfz19_2
          try clear hfz27_0
          try clear hfz27_1
          try clear hfz27_2
          try clear hfz31_0
          try clear hfz31_1
          try clear hfz31_2
          try clear hfz32_0
          try clear hfz32_1
          try clear hfz32_2
          try clear hfz33_0
          try clear hfz33_1
          try clear hfz33_2
          try clear hfz37_0
          try clear hfz37_1
          try clear hfz37_2
          try clear hfz38_0
          try clear hfz38_1
          try clear hfz38_2
          try clear hfz5_0
          try clear hfz5_1
          try clear hfz5_2
          try clear hfz6_0
          try clear hfz6_1
          try clear hfz6_2
          try clear hx877_0
          try clear hx878_0
          try clear hx880_0
          try clear hx882_0
          try clear p2
          try clear p8
          try clear p877
          try clear p878
          try clear p880
          try clear p882
          try clear q8
          try clear q877
          try clear q878
          try clear q880
          try clear q882
          obtain ⟨kq, x69_19, rfl, HA, HJ19, BK873, HB⟩ := hcut
          cases kq with
          | zero => exact absurd HA.out (by simp [honeycombref05_Check.j4])
          | succ kj19 =>
           have H := HA.out
           clear HA
           simp only [honeycombref05_Check.j4] at H
           by_cases c39 : x69_19 = true
           ·
            subst c39
            have H1 : (some 5) = some r := by rw [if_pos rfl] at H; exact H
            clear H
            have H := H1
            clear H1
            obtain rfl := Option.some.inj H
            go_wp2
            go_ret
            exact ⟨er_, hg_ GE873.out⟩
           replace c39 := Bool.eq_false_iff.mpr c39
           subst c39
           have H1 : (honeycombref05_Check.l1 kj19 (rd y874 a0_0) x4_2 (wrap64 (x5_3 + 1)) a0_0 l0_1 l0_2) = some r := by rw [if_neg (show ¬ (false = true) by decide)] at H; exact H
           clear H
           have H := H1
           clear H1
           have H' := Aside0.mk H
           clear H
           go_wp2
           go_roundg kj19
           case measure => have := HJ1.out; have := HK2.out; have := HK3.out; have := HJ15.out; have := HJ19.out; omega
           case rel => exact ⟨(wrap64 (x5_3 + 1)), rs_, H', ⟨by have := HJ1.out; have := HK2.out; have := HK3.out; have := HJ15.out; have := HJ19.out; omega⟩, ⟨bk_ BK873.out⟩, ⟨by repeat (first | (with_reducible first | exact HB.out | apply ba_ | apply bn_ | apply bd_ | refine below_set ?_ GE873.out) | exact HB.out)⟩⟩
end Go.Proofs.YtaeenefdbahfoaaDoor.H
namespace Go.Proofs.YtaeenefdbahfoaaDoor
set_option linter.unusedSimpArgs false
set_option linter.unusedVariables false
open Go.RowKit Go.Proofs.YtaeenefdbahfoaaDoorW.PrintWords Go.Proofs.YtaeenefdbahfoaaDoorW.PrintLast Go.Proofs.YtaeenefdbahfoaaDoorW.PrintMore
open H
open Go.RowKit
theorem nz_bit (x : Nat) (hx : x < 18446744073709551616) : (∃ q, q < 64 ∧ x.testBit q = true) ↔ x ≠ 0 := by
  constructor
  · rintro ⟨q, _, h⟩ rfl
    rw [Nat.zero_testBit] at h
    cases h
  · intro h
    apply Classical.byContradiction
    intro hn
    refine h (Nat.eq_of_testBit_eq fun i => ?_)
    rw [Nat.zero_testBit]
    by_cases hi : i < 64
    · cases hb : x.testBit i with
      | false => rfl
      | true => exact absurd ⟨i, hi, hb⟩ hn
    · exact Nat.testBit_lt_two_pow (Nat.lt_of_lt_of_le hx (Nat.pow_le_pow_right (n := 2) (by decide) (show 64 ≤ i by omega)))
theorem bit_one (x n : Nat) : (((x / 2 ^ n % 2 : Nat) : Int) = 1) ↔ x.testBit n = true := by
  rw [Nat.testBit_eq_decide_div_mod_eq, decide_eq_true_eq]
  omega
/-- is a number of cells beside there -/
def thereB (L m : Int) (h : Nat) (n : Nat) : Bool := decide ((n : Int) ≤ m) && (decide (h = 0) || decide (L > 1))
def badB (L m : Int) (h : Nat) (b s n : Nat) : Bool := (b.testBit n && (!thereB L m h n || decide (n = 0))) || (s.testBit n && !thereB L m h n)
section
variable (L m : Int) (b0 b1 s0 s1 : Nat) (q0 : b0 < 18446744073709551616) (q1 : b1 < 18446744073709551616) (q2 : s0 < 18446744073709551616) (q3 : s1 < 18446744073709551616)
include q0 q1 q2 q3
set_option maxHeartbeats 4000000 in
theorem rchk_step (k h n : Nat) (hk : 100 ≤ k) (hh : h < 2) (hn : n < 64) (b s : Nat) (hb : b = if h = 0 then b0 else b1) (hs : s = if h = 0 then s0 else s1) :
    honeycombref05_Check.l1 (k + 3) m h n L [(b0 : Int), (b1 : Int)] [(s0 : Int), (s1 : Int)] = if badB L m h b s n = true then some 5 else honeycombref05_Check.l1 k m h ((n + 1 : Nat) : Int) L [(b0 : Int), (b1 : Int)] [(s0 : Int), (s1 : Int)] := by
  have hw : wrap64 ((n : Int) + 1) = ((n + 1 : Nat) : Int) := by rw [w64i _ (by omega) (by omega)]; rfl
  have j4 : ∀ X : Bool, honeycombref05_Check.j4 (k + 1) m h n X L [(b0 : Int), (b1 : Int)] [(s0 : Int), (s1 : Int)] = if X = true then some 5 else honeycombref05_Check.l1 k m h ((n + 1 : Nat) : Int) L [(b0 : Int), (b1 : Int)] [(s0 : Int), (s1 : Int)] := by
    intro X
    rw [honeycombref05_Check.j4, hw]
  have hrb : rd [(b0 : Int), (b1 : Int)] (h : Int) = (b : Int) := by
    have : h = 0 ∨ h = 1 := by omega
    rcases this with rfl | rfl <;> (rw [hb]; rfl)
  have hrs : rd [(s0 : Int), (s1 : Int)] (h : Int) = (s : Int) := by
    have : h = 0 ∨ h = 1 := by omega
    rcases this with rfl | rfl <;> (rw [hs]; rfl)
  have hbl : b < 18446744073709551616 := by rw [hb]; split <;> assumption
  have hsl : s < 18446744073709551616 := by rw [hs]; split <;> assumption
  have eb := bit_f (k + 1) b n hbl hn (by omega)
  have es := bit_f (k + 1) s n hsl hn (by omega)
  clear hb hs q0 q1 q2 q3 hbl hsl
  have hzi : ((n : Int) = 0) ↔ n = 0 := Int.natCast_eq_zero
  have hn64 : (n : Int) < 64 := by omega
  have hh0 : (h : Int) = 0 ↔ h = 0 := Int.natCast_eq_zero
  have j3 : ∀ T : Bool, T = thereB L m h n → honeycombref05_Check.j3 (k + 2) m h n T L [(b0 : Int), (b1 : Int)] [(s0 : Int), (s1 : Int)] = if badB L m h b s n = true then some 5 else honeycombref05_Check.l1 k m h ((n + 1 : Nat) : Int) L [(b0 : Int), (b1 : Int)] [(s0 : Int), (s1 : Int)] := by
    intro T hT
    unfold badB
    rw [← hT, show k + 2 = (k + 1) + 1 from rfl, honeycombref05_Check.j3]
    rw [if_pos (by omega), if_pos (by simp; omega), hrb, eb]
    simp only [Option.bind_some, bit_one, hrs, es, if_pos (show (h : Int) < (([(s0 : Int), (s1 : Int)] : List Int).length : Int) by simp; omega), j4]
    simp only [hzi]
    generalize honeycombref05_Check.l1 k m h ((n + 1 : Nat) : Int) L [(b0 : Int), (b1 : Int)] [(s0 : Int), (s1 : Int)] = X
    generalize b.testBit n = bb
    generalize s.testBit n = ss
    by_cases hn0 : n = 0
    · rw [decide_eq_true hn0]
      simp only [if_pos hn0]
      cases bb <;> cases ss <;> cases T <;> rfl
    · rw [decide_eq_false hn0]
      simp only [if_neg hn0]
      cases bb <;> cases ss <;> cases T <;> rfl
  rw [show k + 3 = (k + 2) + 1 from rfl, honeycombref05_Check.l1, if_pos hn64]
  by_cases h1 : (n : Int) ≤ m
  · by_cases h2 : h = 0
    · rw [if_pos h1, if_pos (hh0.2 h2)]
      exact j3 true (by unfold thereB; simp [h1, h2])
    · rw [if_pos h1, if_neg (fun e => h2 (hh0.1 e))]
      exact j3 _ (by unfold thereB; simp [h1, h2])
  · rw [if_neg h1]
    exact j3 false (by unfold thereB; simp [h1])
theorem rchk_l1 (k h : Nat) (hh : h < 2) (b s : Nat) (hb : b = if h = 0 then b0 else b1) (hs : s = if h = 0 then s0 else s1) : ∀ d n : Nat, n + d = 64 →
    ((∃ q, n ≤ q ∧ q < 64 ∧ badB L m h b s q = true) → honeycombref05_Check.l1 (k + 3 * d + 101) m h n L [(b0 : Int), (b1 : Int)] [(s0 : Int), (s1 : Int)] = some 5) ∧
    ((∀ q, n ≤ q → q < 64 → badB L m h b s q = false) → honeycombref05_Check.l1 (k + 3 * d + 101) m h n L [(b0 : Int), (b1 : Int)] [(s0 : Int), (s1 : Int)] = honeycombref05_Check.l0 (k + 100) m ((h + 1 : Nat) : Int) L [(b0 : Int), (b1 : Int)] [(s0 : Int), (s1 : Int)]) := by
  intro d
  induction d with
  | zero =>
    intro n hn
    refine ⟨fun ⟨q, h1, h2, _⟩ => by omega, fun _ => ?_⟩
    rw [show k + 3 * 0 + 101 = (k + 100) + 1 by omega, honeycombref05_Check.l1, if_neg (by omega), w64i _ (by omega) (by omega)]
    rfl
  | succ d ih =>
    intro n hn
    obtain ⟨i1, i2⟩ := ih (n + 1) (by omega)
    have e := rchk_step L m b0 b1 s0 s1 q0 q1 q2 q3 (k + 3 * d + 101) h n (by omega) hh (by omega) b s hb hs
    rw [show k + 3 * (d + 1) + 101 = k + 3 * d + 101 + 3 by omega, e]
    cases hbd : badB L m h b s n with
    | true => exact ⟨fun _ => by rw [if_pos rfl], fun h => by rw [h n (Nat.le_refl _) (by omega)] at hbd; cases hbd⟩
    | false =>
      rw [if_neg (by decide)]
      refine ⟨fun ⟨q, h1, h2, h3⟩ => i1 ⟨q, ?_, h2, h3⟩, fun h => i2 fun q h1 h2 => h q (by omega) h2⟩
      rcases Nat.eq_or_lt_of_le h1 with rfl | h
      · rw [hbd] at h3; cases h3
      · omega
/-- the code, by what is bad of either half -/
theorem rchk_l0 (k : Nat) : ∃ r, honeycombref05_Check.l0 (k + 700) m 0 L [(b0 : Int), (b1 : Int)] [(s0 : Int), (s1 : Int)] = some r ∧ ((r = 5 ∧ ((∃ q, q < 64 ∧ badB L m 0 b0 s0 q = true) ∨ (∃ q, q < 64 ∧ badB L m 1 b1 s1 q = true))) ∨ (r = 0 ∧ (∀ q, q < 64 → badB L m 0 b0 s0 q = false) ∧ (∀ q, q < 64 → badB L m 1 b1 s1 q = false))) := by
  have ex : ∀ h b s, (∃ q, q < 64 ∧ badB L m h b s q = true) ∨ (∀ q, q < 64 → badB L m h b s q = false) := by
    intro h b s
    by_cases e : ∃ q, q < 64 ∧ badB L m h b s q = true
    · exact .inl e
    · refine .inr fun q hq => ?_
      cases hb : badB L m h b s q with
      | false => rfl
      | true => exact absurd ⟨q, hq, hb⟩ e
  obtain ⟨a1, a2⟩ := rchk_l1 L m b0 b1 s0 s1 q0 q1 q2 q3 (k + 406) 0 (by omega) b0 s0 rfl rfl 64 0 (by omega)
  obtain ⟨c1, c2⟩ := rchk_l1 L m b0 b1 s0 s1 q0 q1 q2 q3 (k + 212) 1 (by omega) b1 s1 rfl rfl 64 0 (by omega)
  rw [show k + 700 = (k + 406 + 3 * 64 + 101) + 1 by omega, honeycombref05_Check.l0, if_pos (by decide)]
  rw [show ((0 : Nat) : Int) = 0 from rfl] at a1 a2 c1 c2
  rcases ex 0 b0 s0 with h | h
  · obtain ⟨q, h1, h2⟩ := h
    exact ⟨5, a1 ⟨q, Nat.zero_le _, h1, h2⟩, .inl ⟨rfl, .inl ⟨q, h1, h2⟩⟩⟩
  · rw [a2 (fun q _ hq => h q hq), show k + 406 + 100 = (k + 212 + 3 * 64 + 101) + 1 by omega, honeycombref05_Check.l0, if_pos (by decide)]
    rcases ex 1 b1 s1 with g | g
    · obtain ⟨q, h1, h2⟩ := g
      exact ⟨5, c1 ⟨q, Nat.zero_le _, h1, h2⟩, .inl ⟨rfl, .inr ⟨q, h1, h2⟩⟩⟩
    · rw [show ((0 + 1 : Nat) : Int) = ((1 : Nat) : Int) from rfl, c2 (fun q _ hq => g q hq), show k + 212 + 100 = (k + 311) + 1 by omega, honeycombref05_Check.l0, if_neg (by decide)]
      exact ⟨0, rfl, .inr ⟨rfl, h, g⟩⟩
end
theorem badH_iff (b s o : Nat) (hb : b < 18446744073709551616) (hs : s < 18446744073709551616) (ho : o < 18446744073709551616) (L m : Int) (h : Nat) (ht : ∀ q : Fin 64, (o ||| 1).testBit q.1 = (!thereB L m h q.1 || decide (q.1 = 0)) ∧ o.testBit q.1 = !thereB L m h q.1) :
    badH (b : Int) (s : Int) (o : Int) = true ↔ ∃ q, q < 64 ∧ badB L m h b s q = true := by
  have e := or_nat o 1 ho (by decide)
  rw [show ((1 : Nat) : Int) = 1 from rfl] at e
  have l1 : b &&& (o ||| 1) < 18446744073709551616 := Nat.lt_of_le_of_lt Nat.and_le_left hb
  have l2 : s &&& o < 18446744073709551616 := Nat.lt_of_le_of_lt Nat.and_le_left hs
  have n1 := nz_bit _ l1
  have n2 := nz_bit _ l2
  unfold badH
  rw [e, and_nat _ _ hb (Nat.or_lt_two_pow (n := 64) ho (by decide)), and_nat _ _ hs ho, Bool.or_eq_true, bne_iff_ne, bne_iff_ne]
  have c1 : ((b &&& (o ||| 1) : Nat) : Int) ≠ 0 ↔ b &&& (o ||| 1) ≠ 0 := by omega
  have c2 : ((s &&& o : Nat) : Int) ≠ 0 ↔ s &&& o ≠ 0 := by omega
  rw [c1, c2, ← n1, ← n2]
  unfold badB
  constructor
  · rintro (⟨q, hq, hx⟩ | ⟨q, hq, hx⟩)
    · refine ⟨q, hq, ?_⟩
      rw [Nat.testBit_and, (ht ⟨q, hq⟩).1] at hx
      rw [hx]; rfl
    · refine ⟨q, hq, ?_⟩
      rw [Nat.testBit_and, (ht ⟨q, hq⟩).2] at hx
      rw [hx, Bool.or_true]
  · rintro ⟨q, hq, hx⟩
    rw [Bool.or_eq_true] at hx
    rcases hx with hx | hx
    · exact .inl ⟨q, hq, by rw [Nat.testBit_and, (ht ⟨q, hq⟩).1]; exact hx⟩
    · exact .inr ⟨q, hq, by rw [Nat.testBit_and, (ht ⟨q, hq⟩).2]; exact hx⟩
theorem there1 : (∀ q : Fin 64, (0 ||| 1 : Nat).testBit q.1 = (!thereB 1 63 0 q.1 || decide (q.1 = 0)) ∧ (0 : Nat).testBit q.1 = !thereB 1 63 0 q.1) ∧ (∀ q : Fin 64, (18446744073709551615 ||| 1 : Nat).testBit q.1 = (!thereB 1 63 1 q.1 || decide (q.1 = 0)) ∧ (18446744073709551615 : Nat).testBit q.1 = !thereB 1 63 1 q.1) := by decide +kernel
theorem there2 : ∀ h : Fin 2, ∀ q : Fin 64, (18446744073709551600 ||| 1 : Nat).testBit q.1 = (!thereB 2 3 h.1 q.1 || decide (q.1 = 0)) ∧ (18446744073709551600 : Nat).testBit q.1 = !thereB 2 3 h.1 q.1 := by decide +kernel
theorem there3 : ∀ h : Fin 2, ∀ q : Fin 64, (18446744073709543424 ||| 1 : Nat).testBit q.1 = (!thereB 3 12 h.1 q.1 || decide (q.1 = 0)) ∧ (18446744073709543424 : Nat).testBit q.1 = !thereB 3 12 h.1 q.1 := by decide +kernel
/-- the document's Check -/
theorem rcheck_f (K : Nat) (hK : 800 ≤ K) (L : Int) (b0 b1 s0 s1 : Nat) (q0 : b0 < 18446744073709551616) (q1 : b1 < 18446744073709551616) (q2 : s0 < 18446744073709551616) (q3 : s1 < 18446744073709551616) :
    honeycombref05_Check.f K L [(b0 : Int), (b1 : Int)] [(s0 : Int), (s1 : Int)] = some ((checkT L b0 b1 s0 s1).getD 0) := by
  obtain ⟨k, rfl⟩ : ∃ k, K = (k + 700) + 1 := ⟨K - 701, by omega⟩
  unfold honeycombref05_Check.f checkT
  by_cases hL : 1 ≤ L ∧ L ≤ 3
  · rw [if_neg (by omega), if_pos hL, decide_eq_false (by omega), honeycombref05_Check.j0, if_neg (by decide)]
    simp only [Option.bind_some]
    have fin : ∀ (m : Int) (o0 o1 : Nat), rd [0, 63, 3, 12] L = m → restT L = (o0 : Int) → outT L = (o1 : Int) → o0 < 18446744073709551616 → o1 < 18446744073709551616 →
        (∀ q : Fin 64, (o0 ||| 1).testBit q.1 = (!thereB L m 0 q.1 || decide (q.1 = 0)) ∧ o0.testBit q.1 = !thereB L m 0 q.1) → (∀ q : Fin 64, (o1 ||| 1).testBit q.1 = (!thereB L m 1 q.1 || decide (q.1 = 0)) ∧ o1.testBit q.1 = !thereB L m 1 q.1) →
        (if 0 ≤ L then (if L < (([0, 63, 3, 12] : List Int).length : Int) then honeycombref05_Check.l0 (k + 700) (rd [0, 63, 3, 12] L) 0 L [(b0 : Int), (b1 : Int)] [(s0 : Int), (s1 : Int)] else none) else none) = some ((if (badH (b0 : Int) (s0 : Int) (restT L) || badH (b1 : Int) (s1 : Int) (outT L)) = true then some 5 else none).getD 0) := by
      intro m o0 o1 hm e0 e1 z0 z1 t0 t1
      have i0 := badH_iff b0 s0 o0 q0 q2 z0 L m 0 t0
      have i1 := badH_iff b1 s1 o1 q1 q3 z1 L m 1 t1
      rw [if_pos (by omega), if_pos (by simp; omega), hm, e0, e1]
      obtain ⟨r, hr, h⟩ := rchk_l0 L m b0 b1 s0 s1 q0 q1 q2 q3 k
      rw [hr]
      rcases h with ⟨rfl, h⟩ | ⟨rfl, h, g⟩
      · rw [if_pos]
        · rfl
        · rw [Bool.or_eq_true, i0, i1]
          exact h
      · rw [if_neg]
        · rfl
        · rw [Bool.or_eq_true, i0, i1]
          rintro (⟨q, hq, hx⟩ | ⟨q, hq, hx⟩)
          · rw [h q hq] at hx; cases hx
          · rw [g q hq] at hx; cases hx
    have hL3 : L = 1 ∨ L = 2 ∨ L = 3 := by omega
    rcases hL3 with rfl | rfl | rfl
    · exact fin 63 0 18446744073709551615 rfl rfl rfl (by decide) (by decide) there1.1 there1.2
    · exact fin 3 18446744073709551600 18446744073709551600 rfl rfl rfl (by decide) (by decide) (there2 0) (there2 1)
    · exact fin 12 18446744073709543424 18446744073709543424 rfl rfl rfl (by decide) (by decide) (there3 0) (there3 1)
  · rw [if_neg hL]
    by_cases h1 : L < 1
    · rw [if_pos h1, honeycombref05_Check.j0, if_pos rfl]
      rfl
    · rw [if_neg h1, decide_eq_true (by omega), honeycombref05_Check.j0, if_pos rfl]
      rfl
end Go.Proofs.YtaeenefdbahfoaaDoor
namespace Go.Proofs.YtaeenefdbahfoaaDoor
set_option linter.unusedSimpArgs false
set_option linter.unusedVariables false
open Go.RowKit Go.Proofs.YtaeenefdbahfoaaDoorW.PrintWords Go.Proofs.YtaeenefdbahfoaaDoorW.PrintLast Go.Proofs.YtaeenefdbahfoaaDoorW.PrintMore
open H
def XCodeOf.f (e : Option Int) : Option Int := some (e.getD 0)
theorem XCodeOf.calls (a0 : Option Int) (r : Int) (w : World) (hGEt : Et w) (h : XCodeOf.f a0 = some r) :
    Calls Tryd.prog 48 #[errW a0] w fun e w' => e = .returned (.int .i64 r) ∧ Below w.heap.size w w' := by
  obtain rfl := Option.some.inj h
  exact codeOf_any a0 w hGEt
end Go.Proofs.YtaeenefdbahfoaaDoor
namespace Go.Proofs.YtaeenefdbahfoaaDoor
set_option linter.unusedSimpArgs false
set_option linter.unusedVariables false
open Go.RowKit Go.Proofs.YtaeenefdbahfoaaDoorW.PrintWords Go.Proofs.YtaeenefdbahfoaaDoorW.PrintLast Go.Proofs.YtaeenefdbahfoaaDoorW.PrintMore
open H
open Go.RowKit
def XTold5.f (l b0 b1 s0 s1 : Int) : Option (Int × List Int × List Int) := some (l, [b0, b1], [s0, s1])
set_option maxRecDepth 100000 in
set_option maxHeartbeats 2000000 in
theorem told5_any (l b0 b1 s0 s1 : Int) (w : World) :
    Calls Tryd.prog 27 #[.agg #[.int .i64 l, .int .u64 b0, .int .u64 b1, .int .u64 s0, .int .u64 s1]] w fun e w' => ∃ g : Nat, e = .returned (.agg #[.int .i64 l, .slice (some ⟨g, 1, none⟩) 2 2, .slice (some ⟨g, 3, none⟩) 2 2]) ∧ w'.heap[g]? = some (.cells #[.int .i64 l, .int .u64 b0, .int .u64 b1, .int .u64 s0, .int .u64 s1] 29 (0, 0)) ∧ w.heap.size ≤ g ∧ Below w.heap.size w w' := by
  go_enter Tryd.func27, Tryd.ntmps27
  go_upto_region 1 with (fail)
  obtain ⟨w2, hw2⟩ : ∃ W, W = (w.alloc (.cells #[.int .i64 l, .int .u64 b0, .int .u64 b1, .int .u64 s0, .int .u64 s1] 29 (0, 0))).alloc (.cells #[.int .i64 0, .slice none 0 0, .slice none 0 0] 55 (0, 0)) := ⟨_, rfl⟩
  have t1 : w2.heap[w.heap.size]? = some (.cells #[.int .i64 l, .int .u64 b0, .int .u64 b1, .int .u64 s0, .int .u64 s1] 29 (0, 0)) := by rw [hw2]; exact blk_alloc (blk_new _ _) _
  have t2 : w2.heap[w.heap.size + 1]? = some (.cells #[.int .i64 0, .slice none 0 0, .slice none 0 0] 55 (0, 0)) := by
    have := blk_new (w.alloc (.cells #[.int .i64 l, .int .u64 b0, .int .u64 b1, .int .u64 s0, .int .u64 s1] 29 (0, 0))) (.cells #[.int .i64 0, .slice none 0 0, .slice none 0 0] 55 (0, 0))
    rw [World.size_alloc] at this
    rw [hw2]
    exact this
  have hB : Below w.heap.size w w2 := by rw [hw2]; exact below_alloc2 (below_alloc (Below.refl _ _) _) (by simp) _
  rw [← hw2]
  clear hw2
  have hz := hB.size
  have hB2 := Aside0.mk hB
  have T1 := Aside0.mk t1
  have T2 := Aside0.mk t2
  obtain ⟨g1, hg1⟩ : ∃ g, g = w.heap.size := ⟨_, rfl⟩
  obtain ⟨g2, hg2⟩ : ∃ g, g = w.heap.size + 1 := ⟨_, rfl⟩
  rw [← hg1] at t1 T1
  rw [← hg2] at t2 T2 ⊢
  rw [← hg1]
  have hne : g2 ≠ g1 := by omega
  have hne' : g1 ≠ g2 := by omega
  have hgz1 : w.heap.size ≤ g1 := by omega
  have hgz2 : w.heap.size ≤ g2 := by omega
  have q0 := blk_cell t1 0
  have c0 := blk_cell t2 0
  have c1 := blk_cell t2 1
  have c2 := blk_cell t2 2
  have f0 := blk_frozen t2 0
  have f1 := blk_frozen t2 1
  have f2 := blk_frozen t2 2
  simp only [List.getElem?_toArray, List.getElem?_cons_zero, List.getElem?_cons_succ] at q0 c0 c1 c2
  clear hg1 hg2 t1 t2 hB
  go_region
  all_goals
    clear q0 f0 f1 f2 c0 c1 c2
    go_wp2
    have hr := blk_set (blk_set (blk_set (blk_drew T2.out) 0 (.int .i64 l)) 1 (.slice (some ⟨g1, 1, none⟩) 2 2)) 2 (.slice (some ⟨g1, 3, none⟩) 2 2)
    refine bodyPost_ret (results_cell_row rfl _ _ g2 55 #[.int .i64 l, .slice (some ⟨g1, 1, none⟩) 2 2, .slice (some ⟨g1, 3, none⟩) 2 2] (0, 0) _ rfl hr Tryd.underlying55 rfl (by kernel_rfl)) rfl ⟨g1, rfl, ?_, hgz1, ?_⟩
    · exact (Below.heap_setCell _ ⟨g2, 2, none⟩ _ g1 hne').trans ((Below.heap_setCell _ ⟨g2, 1, none⟩ _ g1 hne').trans ((Below.heap_setCell _ ⟨g2, 0, none⟩ _ g1 hne').trans T1.out))
    · exact Below.setCell (p := ⟨g2, 2, none⟩) (Below.setCell (p := ⟨g2, 1, none⟩) (Below.setCell (p := ⟨g2, 0, none⟩) (below_drew hB2.out) hgz2 _) hgz2 _) hgz2 _
theorem V_two {w : World} {g o t : Nat} {cells : Array Value} {ok : Nat → Prop} (e base : Nat) (a b : Int) (hb : w.heap[g]? = some (.cells cells t (0, 0))) (h0 : cells[o]? = some (.int .u64 a)) (h1 : cells[o + 1]? = some (.int .u64 b)) (hok : ok g) :
    Kd.V (Kd.int .u64) e w base ok (.slice (some ⟨g, o, none⟩) 2 2) [a, b] := by
  refine ⟨some ⟨g, o, none⟩, 2, rfl, Nat.le_refl _, fun W hW => ?_⟩
  have hlt := blk_lt hb
  have hb2 : W.heap[g]? = some (.cells cells t (0, 0)) := (hW g hok hlt).trans hb
  have e0 : W.cell? ⟨g, o, none⟩ = some (.int .u64 a) := (blk_cell hb2 o).trans h0
  have e1 : W.cell? ⟨g, o + 1, none⟩ = some (.int .u64 b) := (blk_cell hb2 (o + 1)).trans h1
  refine ⟨rfl, by simp, fun _ => ⟨_, rfl, fun j p hp => ?_⟩⟩
  have : j = 0 ∨ j = 1 := by
    have := (List.getElem?_eq_some_iff.1 hp).1
    simp at this
    omega
  rcases this with rfl | rfl
  · obtain rfl : a = p := by simpa using hp
    refine ⟨[.int .u64 a], rfl, rfl, fun u v huv => ?_⟩
    have : u = 0 := by
      have := (List.getElem?_eq_some_iff.1 huv).1
      simp at this
      omega
    subst this
    obtain rfl : Value.int .u64 a = v := by simpa using huv
    exact e0
  · obtain rfl : b = p := by simpa using hp
    refine ⟨[.int .u64 b], rfl, rfl, fun u v huv => ?_⟩
    have : u = 0 := by
      have := (List.getElem?_eq_some_iff.1 huv).1
      simp at this
      omega
    subst this
    obtain rfl : Value.int .u64 b = v := by simpa using huv
    exact e1
theorem XTold5.calls (a0_0 a0_1 a0_2 a0_3 a0_4 : Int) (r1 : Int) (r2 r3 : List Int) (w : World) (h : XTold5.f a0_0 a0_1 a0_2 a0_3 a0_4 = some (r1, r2, r3)) :
    Calls Tryd.prog 27 #[.agg #[.int .i64 a0_0, .int .u64 a0_1, .int .u64 a0_2, .int .u64 a0_3, .int .u64 a0_4]] w fun e w' => ∃ v0_ v1_ : Value, e = .returned (.agg #[.int .i64 r1, v0_, v1_]) ∧ Kd.V (Kd.int .u64) 22 w' w.heap.size (fun k_ => w.heap.size ≤ k_) v0_ r2 ∧ Kd.V (Kd.int .u64) 22 w' w.heap.size (fun k_ => w.heap.size ≤ k_) v1_ r3 ∧ Below w.heap.size w w' := by
  simp only [XTold5.f, Option.some.injEq, Prod.mk.injEq] at h
  obtain ⟨rfl, rfl, rfl⟩ := h
  refine (told5_any a0_0 a0_1 a0_2 a0_3 a0_4 w).mono ?_
  rintro e w' ⟨g, rfl, hg, hgz, hb⟩
  exact ⟨_, _, rfl, V_two _ _ _ _ hg rfl rfl hgz, V_two _ _ _ _ hg rfl rfl hgz, hb⟩
end Go.Proofs.YtaeenefdbahfoaaDoor
