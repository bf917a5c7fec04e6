/- Parts of the proof (IsoCommutes), merged out of our texts by wip/tools/pack.py: Hhoneycombref05Next, PNext5, HRef4, PRefS. -/
import Derived.Test.YtaeenefdbahfoaaDoorKIsoCommutes1
import Derived.Test.YtaeenefdbahfoaaDoorKIsoCommutes6
import Derived.Test.YtaeenefdbahfoaaDoorKIsoCommutes2
namespace Go.Proofs.YtaeenefdbahfoaaDoor.H
open Go.RowKit Go.Proofs.YtaeenefdbahfoaaDoorW.PrintWords Go.Proofs.YtaeenefdbahfoaaDoorW.PrintLast Go.Proofs.YtaeenefdbahfoaaDoorW.PrintMore
attribute [local go_sem] max2_int min2_int max_two min_two max_three min_three max_four min_four
set_option linter.unusedVariables false
set_option linter.unusedSimpArgs false
def honeycombref05_Next.j0 : Nat → Int → Bool → Int → Bool → Int → List Int → List Int → Option (Bool)
 | 0, _, _, _, _, _, _, _ => none
 | k + 1, x1, x2, x3, x22, x373000, x373001, x373002 => if x22 = true then (some false) else (if x2 = true then (if 0 ≤ x1 then (if x1 < (x373002.length : Int) then ((honeycombref05_bit.f k (rd x373002 x1) x3).bind fun t374 => (some (t374 == 1))) else (none)) else (none)) else (if 0 ≤ x1 then (if x1 < (x373001.length : Int) then ((honeycombref05_bit.f k (rd x373001 x1) x3).bind fun t376 => (some (t376 == 1))) else (none)) else (none)))
def honeycombref05_Next.f (k : Nat) (a0_0 : Int) (l0_1 : List Int) (l0_2 : List Int) (a1 : Int) (a2 : Bool) (a3 : Int) : Option (Bool) := if a1 < 0 then (honeycombref05_Next.j0 k a1 a2 a3 true a0_0 l0_1 l0_2) else (if a1 > 1 then (honeycombref05_Next.j0 k a1 a2 a3 true a0_0 l0_1 l0_2) else (if a3 < 0 then (honeycombref05_Next.j0 k a1 a2 a3 true a0_0 l0_1 l0_2) else (honeycombref05_Next.j0 k a1 a2 a3 (decide (a3 > 63)) a0_0 l0_1 l0_2)))
set_option maxHeartbeats 8000000 in
set_option maxRecDepth 100000 in
theorem honeycombref05_Next.calls (k : Nat) (a0_0 : Int) (A0_1 : Option Addr) (c0_1 : Nat) (l0_1 : List Int) (A0_2 : Option Addr) (c0_2 : Nat) (l0_2 : List Int) (a1 : Int) (a2 : Bool) (a3 : Int) (r : Bool) (w : World) (hr0_1 : Kd.C (Kd.int .u64) w A0_1 l0_1.length l0_1) (hc0_1 : l0_1.length ≤ c0_1) (hr0_2 : Kd.C (Kd.int .u64) w A0_2 l0_2.length l0_2) (hc0_2 : l0_2.length ≤ c0_2) (h : honeycombref05_Next.f k a0_0 l0_1 l0_2 a1 a2 a3 = some r) :
  Calls Tryd.prog 35 #[.agg #[.int .i64 a0_0, .slice A0_1 l0_1.length c0_1, .slice A0_2 l0_2.length c0_2], .int .i64 a1, .bool a2, .int .i64 a3] w fun e w' => e = .returned (.bool r) ∧ Below w.heap.size w w' := by
 have hu55 := Tryd.underlying55
 have HR0_1 := Aside0.mk hr0_1
 have HC0_1 := Aside0.mk hc0_1
 clear hr0_1 hc0_1
 have HR0_2 := Aside0.mk hr0_2
 have HC0_2 := Aside0.mk hc0_2
 clear hr0_2 hc0_2
 have HB := Aside0.mk (Below.refl w.heap.size w)
 have H : (if a1 < 0 then (honeycombref05_Next.j0 k a1 a2 a3 true a0_0 l0_1 l0_2) else (if a1 > 1 then (honeycombref05_Next.j0 k a1 a2 a3 true a0_0 l0_1 l0_2) else (if a3 < 0 then (honeycombref05_Next.j0 k a1 a2 a3 true a0_0 l0_1 l0_2) else (honeycombref05_Next.j0 k a1 a2 a3 (decide (a3 > 63)) a0_0 l0_1 l0_2)))) = some r := h
 clear h
 have HC5 := Aside0.mk H
 clear H
 go_enter Tryd.func35, Tryd.ntmps35
 go_upto_region 1 with (first | ((with_reducible refine gate_dst (N := 4) rfl ?_); refine box_event ?hg (N := 4) ?hd (cs := #[.int .i64 a0_0, .slice A0_1 l0_1.length c0_1, .slice A0_2 l0_2.length c0_2]) (t := 55) ?hr ?_; (case hd => rfl); (case hg => rfl); (case hr => first | (go_simp; done) | (go_simp; rfl)); intro gb372 hg w6 hbox hb; have n0_ := Aside0.mk (below_step hb_ hb); have n1_ := Aside0.mk (hbox); have n2_ := Aside0.mk ((by rw [hg]; exact (below_size hb_) : w.heap.size ≤ gb372)); have n3_ := Aside0.mk ((by rw [hg]; exact (below_size hb_) : w.heap.size ≤ gb372)); clear HB; have HB := n0_; have BK372 := n1_; have GW372 := n2_; have GE372 := n3_; clear n0_ n1_ n2_ n3_; clear hb hbox hg))
 (try simp only [Act.put, List.setIfInBounds_toArray, List.set_cons_zero, List.set_cons_succ])
 go_cut [22] (fun v22 wc => ∃ (kq : Nat) (x22_4 : Bool), v22 = .bool x22_4 ∧ Aside0 (honeycombref05_Next.j0 kq a1 a2 a3 x22_4 a0_0 l0_1 l0_2 = some r) ∧ Aside0 (kq ≤ k) ∧ Aside0 (wc.heap[gb372]? = some (.cells #[.int .i64 a0_0, (.slice A0_1 l0_1.length c0_1), (.slice A0_2 l0_2.length c0_2)] 55 (0, 0))) ∧ Aside0 (Below w.heap.size w wc))
 case first =>
  have H := HC5.out
  clear HC5
  by_cases c7 : a1 < 0
  ·
   rw [if_pos c7] at H
   have c7b0 : decide (a1 < 0) = true := decide_eq_true c7
   clear c7
   (first | rw [c7b0] | (simp only [i64_w, i32_w]; rw [c7b0]) | skip)
   have H' := Aside0.mk H
   clear H
   go_wp2
   go_meet
   case rel => exact ⟨_, (true), rs_, H', ⟨by first | omega | exact Nat.le_refl _⟩, ⟨bk_ BK372.out⟩, ⟨by repeat (first | (with_reducible first | exact HB.out | apply ba_ | apply bn_ | apply bd_ | refine below_set ?_ GE372.out) | exact HB.out)⟩⟩
  rw [if_neg c7] at H
  have c7b0 : decide (a1 < 0) = false := decide_eq_false c7
  clear c7
  (first | rw [c7b0] | (simp only [i64_w, i32_w]; rw [c7b0]) | skip)
  by_cases c8 : a1 > 1
  ·
   rw [if_pos c8] at H
   have c8b0 : decide (1 < a1) = true := decide_eq_true c8
   clear c8
   have H' := Aside0.mk H
   clear H
   go_wp2
   go_meet
   case rel => exact ⟨_, (true), rs_, H', ⟨by first | omega | exact Nat.le_refl _⟩, ⟨bk_ BK372.out⟩, ⟨by repeat (first | (with_reducible first | exact HB.out | apply ba_ | apply bn_ | apply bd_ | refine below_set ?_ GE372.out) | exact HB.out)⟩⟩
  rw [if_neg c8] at H
  have c8b0 : decide (1 < a1) = false := decide_eq_false c8
  clear c8
  by_cases c9 : a3 < 0
  ·
   rw [if_pos c9] at H
   have c9b0 : decide (a3 < 0) = true := decide_eq_true c9
   clear c9
   have H' := Aside0.mk H
   clear H
   go_wp2
   go_meet
   case rel => exact ⟨_, (true), rs_, H', ⟨by first | omega | exact Nat.le_refl _⟩, ⟨bk_ BK372.out⟩, ⟨by repeat (first | (with_reducible first | exact HB.out | apply ba_ | apply bn_ | apply bd_ | refine below_set ?_ GE372.out) | exact HB.out)⟩⟩
  rw [if_neg c9] at H
  have c9b0 : decide (a3 < 0) = false := decide_eq_false c9
  clear c9
  have H' := Aside0.mk H
  clear H
  go_wp2
  go_meet
  case rel => exact ⟨_, (decide (a3 > 63)), rs_, H', ⟨by first | omega | exact Nat.le_refl _⟩, ⟨bk_ BK372.out⟩, ⟨by repeat (first | (with_reducible first | exact HB.out | apply ba_ | apply bn_ | apply bd_ | refine below_set ?_ GE372.out) | exact HB.out)⟩⟩
 case rest =>
  clear HC5
  try clear p2
  try clear c3
  try clear c7
  try clear c7b0
  try clear c8
  try clear c8b0
  try clear c9
  try clear c9b0
  obtain ⟨kq, x22_4, rfl, HA, HJ4, BK372, HB⟩ := hcut
  cases kq with
  | zero => exact absurd HA.out (by simp [honeycombref05_Next.j0])
  | succ kj4 =>
   have H := HA.out
   clear HA
   simp only [honeycombref05_Next.j0] at H
   by_cases c10 : x22_4 = true
   ·
    subst c10
    have H1 : (some false) = some r := by rw [if_pos rfl] at H; exact H
    clear H
    have H := H1
    clear H1
    obtain rfl := Option.some.inj H
    go_wp2
    go_ret
    exact ⟨er_, hg_ GE372.out⟩
   replace c10 := Bool.eq_false_iff.mpr c10
   subst c10
   have H1 : (if a2 = true then (if 0 ≤ a1 then (if a1 < (l0_2.length : Int) then ((honeycombref05_bit.f kj4 (rd l0_2 a1) a3).bind fun t374 => (some (t374 == 1))) else (none)) else (none)) else (if 0 ≤ a1 then (if a1 < (l0_1.length : Int) then ((honeycombref05_bit.f kj4 (rd l0_1 a1) a3).bind fun t376 => (some (t376 == 1))) else (none)) else (none))) = some r := by rw [if_neg (show ¬ (false = true) by decide)] at H; exact H
   clear H
   have H := H1
   clear H1
   by_cases c11 : a2 = true
   ·
    subst c11
    have H1 : (if 0 ≤ a1 then (if a1 < (l0_2.length : Int) then ((honeycombref05_bit.f kj4 (rd l0_2 a1) a3).bind fun t374 => (some (t374 == 1))) else (none)) else (none)) = some r := by rw [if_pos rfl] at H; exact H
    clear H
    have H := H1
    clear H1
    by_cases c12 : 0 ≤ a1
    rotate_left
    ·
     rw [if_neg c12] at H
     exact absurd H (by simp)
    rw [if_pos c12] at H
    have c12b0 : decide (0 ≤ a1) = true := decide_eq_true c12
    clear c12
    by_cases c13 : a1 < (l0_2.length : Int)
    rotate_left
    ·
     rw [if_neg c13] at H
     exact absurd H (by simp)
    rw [if_pos c13] at H
    have c13b0 : decide (a1 < (l0_2.length : Int)) = true := decide_eq_true c13
    clear c13
    replace H := Option.bind_eq_some_iff.mp H
    obtain ⟨t374, A140, H⟩ := H
    replace H : (some (t374 == 1)) = some r := H
    have A14 := Aside0.mk A140
    clear A140
    obtain rfl := Option.some.inj H
    have hcz15_0 : wc.cell? ⟨gb372, 0, none⟩ = some (.int .i64 a0_0) := (blk_cell BK372.out 0).trans rfl
    have hcz15_1 : wc.cell? ⟨gb372, 1, none⟩ = some (.slice A0_1 l0_1.length c0_1) := (blk_cell BK372.out 1).trans rfl
    have hcz15_2 : wc.cell? ⟨gb372, 2, none⟩ = some (.slice A0_2 l0_2.length c0_2) := (blk_cell BK372.out 2).trans rfl
    have hfz15_0 := blk_frozen BK372.out 0
    have hfz15_1 := blk_frozen BK372.out 1
    have hfz15_2 := blk_frozen BK372.out 2
    have p373 : 0 ≤ (a1 : Int) := of_decide_eq_true as_
    have q373 : a1 < (l0_2.length : Int) := of_decide_eq_true as_
    obtain ⟨ad373, e373, hx373_0⟩ := Kd.at_int HR0_2.out a1 p373 q373
    cases e373
    try replace hx373_0 := (HB.out.cell (World.block_lt_of_cell? w _ hx373_0)).trans hx373_0
    replace p373 := eq_true p373
    replace q373 := eq_true q373
    go_wp2_with (first | ((with_reducible refine gate_callee (f := 69) rfl ?_); refine goesL_ (some 30) rfl rfl Tryd.func69 (by kernel_rfl) rfl #[.int .u64 (rd l0_2 a1), .int .i64 a3] rfl ar_ ?_; (with_reducible refine (honeycombref05_bit.calls kj4 (rd l0_2 a1) a3 t374 _ A14.out).mono ?_); rintro e w' ⟨rfl, ⟨nd, rfl⟩⟩; refine ⟨_, rfl, ?_⟩))
    go_ret
    exact ⟨er_, hg_ GE372.out⟩
   replace c11 := Bool.eq_false_iff.mpr c11
   subst c11
   have H1 : (if 0 ≤ a1 then (if a1 < (l0_1.length : Int) then ((honeycombref05_bit.f kj4 (rd l0_1 a1) a3).bind fun t376 => (some (t376 == 1))) else (none)) else (none)) = some r := by rw [if_neg (show ¬ (false = true) by decide)] at H; exact H
   clear H
   have H := H1
   clear H1
   by_cases c16 : 0 ≤ a1
   rotate_left
   ·
    rw [if_neg c16] at H
    exact absurd H (by simp)
   rw [if_pos c16] at H
   have c16b0 : decide (0 ≤ a1) = true := decide_eq_true c16
   clear c16
   by_cases c17 : a1 < (l0_1.length : Int)
   rotate_left
   ·
    rw [if_neg c17] at H
    exact absurd H (by simp)
   rw [if_pos c17] at H
   have c17b0 : decide (a1 < (l0_1.length : Int)) = true := decide_eq_true c17
   clear c17
   replace H := Option.bind_eq_some_iff.mp H
   obtain ⟨t376, A180, H⟩ := H
   replace H : (some (t376 == 1)) = some r := H
   have A18 := Aside0.mk A180
   clear A180
   obtain rfl := Option.some.inj H
   have hcz19_0 : wc.cell? ⟨gb372, 0, none⟩ = some (.int .i64 a0_0) := (blk_cell BK372.out 0).trans rfl
   have hcz19_1 : wc.cell? ⟨gb372, 1, none⟩ = some (.slice A0_1 l0_1.length c0_1) := (blk_cell BK372.out 1).trans rfl
   have hcz19_2 : wc.cell? ⟨gb372, 2, none⟩ = some (.slice A0_2 l0_2.length c0_2) := (blk_cell BK372.out 2).trans rfl
   have hfz19_0 := blk_frozen BK372.out 0
   have hfz19_1 := blk_frozen BK372.out 1
   have hfz19_2 := blk_frozen BK372.out 2
   have p375 : 0 ≤ (a1 : Int) := of_decide_eq_true as_
   have q375 : a1 < (l0_1.length : Int) := of_decide_eq_true as_
   obtain ⟨ad375, e375, hx375_0⟩ := Kd.at_int HR0_1.out a1 p375 q375
   cases e375
   try replace hx375_0 := (HB.out.cell (World.block_lt_of_cell? w _ hx375_0)).trans hx375_0
   replace p375 := eq_true p375
   replace q375 := eq_true q375
   go_wp2_with (first | ((with_reducible refine gate_callee (f := 69) rfl ?_); refine goesL_ (some 38) rfl rfl Tryd.func69 (by kernel_rfl) rfl #[.int .u64 (rd l0_1 a1), .int .i64 a3] rfl ar_ ?_; (with_reducible refine (honeycombref05_bit.calls kj4 (rd l0_1 a1) a3 t376 _ A18.out).mono ?_); rintro e w' ⟨rfl, ⟨nd, rfl⟩⟩; refine ⟨_, rfl, ?_⟩))
   go_ret
   exact ⟨er_, hg_ GE372.out⟩
end Go.Proofs.YtaeenefdbahfoaaDoor.H
namespace Go.Proofs.YtaeenefdbahfoaaDoor
set_option linter.unusedSimpArgs false
set_option linter.unusedVariables false
open Go.RowKit Go.Proofs.YtaeenefdbahfoaaDoorW.PrintWords Go.Proofs.YtaeenefdbahfoaaDoorW.PrintLast Go.Proofs.YtaeenefdbahfoaaDoorW.PrintMore
open H
open Go.RowKit
theorem bit_l0 : ∀ (d k : Nat) (i : Nat) (n : Nat) (x : Nat), i + d = n → n < 1000 → x < 18446744073709551616 → d < k → honeycombref05_bit.l0 k (x : Int) (n : Int) (i : Int) = some (((x / 2 ^ d % 2 : Nat) : Int)) := by
  intro d
  induction d with
  | zero =>
    intro k i n x hi hn hx hk
    obtain ⟨k, rfl⟩ : ∃ m, k = m + 1 := ⟨k - 1, by omega⟩
    simp only [honeycombref05_bit.l0]
    rw [if_neg (by omega), Int.tmod_eq_emod_of_nonneg (by omega)]
    have e : ((x : Int) % 2) = ((x % 2 : Nat) : Int) := by omega
    rw [e, w64i _ (by omega) (by omega), Nat.pow_zero, Nat.div_one]
  | succ d ih =>
    intro k i n x hi hn hx hk
    obtain ⟨k, rfl⟩ : ∃ m, k = m + 1 := ⟨k - 1, by omega⟩
    simp only [honeycombref05_bit.l0]
    have e : Int.tdiv (x : Int) 2 = ((x / 2 : Nat) : Int) := by rw [Int.tdiv_eq_ediv_of_nonneg (by omega)]; omega
    rw [if_pos (by omega), e, u64N _ (by omega), w64i ((i : Int) + 1) (by omega) (by omega)]
    have := ih k (i + 1) n (x / 2) (by omega) hn (by omega) (by omega)
    simp only [Int.natCast_add, Int.cast_ofNat_Int] at this
    rw [this, Nat.div_div_eq_div_mul, ← Nat.pow_succ']
theorem bit_f (K x n : Nat) (hx : x < 18446744073709551616) (hn : n < 64) (hK : 64 ≤ K) : honeycombref05_bit.f K (x : Int) (n : Int) = some (((x / 2 ^ n % 2 : Nat) : Int)) := by
  unfold honeycombref05_bit.f
  have := bit_l0 n K 0 n x (by omega) (by omega) hx (by omega)
  exact this
theorem nxB_is (x n : Nat) (hx : x < 18446744073709551616) : nxB (x : Int) (n : Int) = (((x / 2 ^ n % 2 : Nat) : Int) == 1) := by
  unfold nxB
  have e : (x : Int) / 2 ^ ((n : Nat) : Int).toNat = ((x / 2 ^ n : Nat) : Int) := by simp
  have hlt : x / 2 ^ n < 18446744073709551616 := Nat.lt_of_le_of_lt (Nat.div_le_self _ _) hx
  have := andN (x / 2 ^ n) 1 hlt (by decide)
  rw [show ((1 : Nat) : Int) = 1 from rfl] at this
  rw [e, this, Nat.and_one_is_mod]
theorem rnext_f (K : Nat) (L : Int) (b0 b1 s0 s1 : Nat) (half : Int) (live : Bool) (n : Int) (hb0 : b0 < 18446744073709551616) (hb1 : b1 < 18446744073709551616) (hs0 : s0 < 18446744073709551616) (hs1 : s1 < 18446744073709551616) (hh : half = 0 ∨ half = 1) (h0 : 0 ≤ n) (h1 : n ≤ 63) (hK : 65 ≤ K) :
    honeycombref05_Next.f K L [(b0 : Int), (b1 : Int)] [(s0 : Int), (s1 : Int)] half live n = some (nxtV b0 b1 s0 s1 half live n) := by
  obtain ⟨m, rfl⟩ := Int.eq_ofNat_of_zero_le h0
  obtain ⟨k, rfl⟩ : ∃ k, K = k + 1 := ⟨K - 1, by omega⟩
  have hd : decide ((m : Int) > 63) = false := decide_eq_false (by omega)
  unfold honeycombref05_Next.f nxtV
  rw [if_neg (by omega), if_neg (by omega), if_neg (by omega), if_neg (by omega), hd]
  simp only [honeycombref05_Next.j0]
  rw [if_neg (by decide)]
  rcases hh with rfl | rfl
  · cases live
    · rw [if_neg (by decide), if_pos (by omega), if_pos (by simp), if_neg (by decide), if_pos rfl, show rd [(b0 : Int), (b1 : Int)] 0 = (b0 : Int) from rfl, bit_f k b0 m hb0 (by omega) (by omega), nxB_is b0 m hb0]
      rfl
    · rw [if_pos rfl, if_pos (by omega), if_pos (by simp), if_pos rfl, if_pos rfl, show rd [(s0 : Int), (s1 : Int)] 0 = (s0 : Int) from rfl, bit_f k s0 m hs0 (by omega) (by omega), nxB_is s0 m hs0]
      rfl
  · cases live
    · rw [if_neg (by decide), if_pos (by omega), if_pos (by simp), if_neg (by decide), if_neg (by decide), show rd [(b0 : Int), (b1 : Int)] 1 = (b1 : Int) from rfl, bit_f k b1 m hb1 (by omega) (by omega), nxB_is b1 m hb1]
      rfl
    · rw [if_pos rfl, if_pos (by omega), if_pos (by simp), if_pos rfl, if_neg (by decide), show rd [(s0 : Int), (s1 : Int)] 1 = (s1 : Int) from rfl, bit_f k s1 m hs1 (by omega) (by omega), nxB_is s1 m hs1]
      rfl
end Go.Proofs.YtaeenefdbahfoaaDoor
namespace Go.Proofs.YtaeenefdbahfoaaDoor.H
open Go.RowKit Go.Proofs.YtaeenefdbahfoaaDoorW.PrintWords Go.Proofs.YtaeenefdbahfoaaDoorW.PrintLast Go.Proofs.YtaeenefdbahfoaaDoorW.PrintMore
attribute [local go_sem] max2_int min2_int max_two min_two max_three min_three max_four min_four
set_option linter.unusedVariables false
set_option linter.unusedSimpArgs false
attribute [local go_sem high] eqA60
def honeycombref04_Has.l0 : Nat → List (S60) → Int → Int → Int → Int → Int → Option (Bool)
 | 0, _, _, _, _, _, _ => none
 | k + 1, x7, x8, x9, x378000, x378001, x378002 => if x9 < x8 then (if 0 ≤ x9 then (if x9 < (x7.length : Int) then (if (((rd_T60 x7 x9).f0) == x378000 && (((rd_T60 x7 x9).f1) == x378001 && (((rd_T60 x7 x9).f2) == x378002))) = true then (some true) else (honeycombref04_Has.l0 k x7 x8 (wrap64 (x9 + 1)) x378000 x378001 x378002)) else (none)) else (none)) else (some false)
def honeycombref04_Has.f (k : Nat) (l0 : List (S60)) (a1_0 : Int) (a1_1 : Int) (a1_2 : Int) : Option (Bool) := honeycombref04_Has.l0 k l0 (l0.length : Int) 0 a1_0 a1_1 a1_2
set_option maxHeartbeats 8000000 in
set_option maxRecDepth 100000 in
theorem honeycombref04_Has.calls (k : Nat) (A0 : Option Addr) (c0 : Nat) (l0 : List (S60)) (a1_0 : Int) (a1_1 : Int) (a1_2 : Int) (r : Bool) (w : World) (hr0 : Kd.C k60 w A0 l0.length l0) (hc0 : l0.length ≤ c0) (h : honeycombref04_Has.f k l0 a1_0 a1_1 a1_2 = some r) :
  Calls Tryd.prog 63 #[.slice A0 l0.length c0, .agg #[.int .i64 a1_0, .int .i64 a1_1, .int .i64 a1_2]] w fun e w' => e = .returned (.bool r) ∧ Below w.heap.size w w' := by
 have hu60 := Tryd.underlying60
 have HR0 := Aside0.mk hr0
 have HC0 := Aside0.mk hc0
 clear hr0 hc0
 have HB := Aside0.mk (Below.refl w.heap.size w)
 have H : (honeycombref04_Has.l0 k l0 (l0.length : Int) 0 a1_0 a1_1 a1_2) = some r := h
 clear h
 have H' := Aside0.mk H
 clear H
 go_enter Tryd.func63, Tryd.ntmps63
 go_wp2_with (first | ((with_reducible refine gate_dst (N := 3) rfl ?_); refine box_event ?hg (N := 3) ?hd (cs := #[.int .i64 a1_0, .int .i64 a1_1, .int .i64 a1_2]) (t := 60) ?hr ?_; (case hd => rfl); (case hg => rfl); (case hr => first | (go_simp; done) | (go_simp; rfl)); intro gb377 hg w3 hbox hb; have n0_ := Aside0.mk (below_step hb_ hb); have n1_ := Aside0.mk (hbox); have n2_ := Aside0.mk ((by rw [hg]; exact (below_size hb_) : w.heap.size ≤ gb377)); have n3_ := Aside0.mk ((by rw [hg]; exact (below_size hb_) : w.heap.size ≤ gb377)); clear HB; have HB := n0_; have BK377 := n1_; have GW377 := n2_; have GE377 := n3_; clear n0_ n1_ n2_ n3_; clear hb hbox hg))
 go_loopg [9] k (fun kq v9 w' => ∃ (x9_1 : Int), v9 = .int .i64 x9_1 ∧ Aside0 (honeycombref04_Has.l0 kq l0 (l0.length : Int) x9_1 a1_0 a1_1 a1_2 = some r) ∧ Aside0 (kq ≤ k) ∧ Aside0 (w'.heap[gb377]? = some (.cells #[.int .i64 a1_0, .int .i64 a1_1, .int .i64 a1_2] 60 (0, 0))) ∧ Aside0 (Below w.heap.size w w'))
 case atStart => exact ⟨(0), rs_, H', ⟨Nat.le_refl _⟩, ⟨bk_ BK377.out⟩, ⟨by repeat (first | (with_reducible first | exact HB.out | apply ba_ | apply bn_ | apply bd_ | refine below_set ?_ GE377.out) | exact HB.out)⟩⟩
 case round =>
  clear H'
  try clear p2
  obtain ⟨x9_1, rfl, HA, HK1, BK377, HB⟩ := hrel
  cases gk with
  | zero => exact absurd HA.out (by simp [honeycombref04_Has.l0])
  | succ k1 =>
   have H := HA.out
   clear HA
   simp only [honeycombref04_Has.l0] at H
   by_cases c4 : x9_1 < (l0.length : Int)
   rotate_left
   ·
    rw [if_neg c4] at H
    have c4b0 : decide (x9_1 < (l0.length : Int)) = false := decide_eq_false c4
    clear c4
    obtain rfl := Option.some.inj H
    go_wp2
    go_ret
    exact ⟨er_, hg_ GE377.out⟩
   rw [if_pos c4] at H
   have c4b0 : decide (x9_1 < (l0.length : Int)) = true := decide_eq_true c4
   clear c4
   by_cases c5 : 0 ≤ x9_1
   rotate_left
   ·
    rw [if_neg c5] at H
    exact absurd H (by simp)
   rw [if_pos c5] at H
   have c5b0 : decide (0 ≤ x9_1) = true := decide_eq_true c5
   clear c5
   by_cases c6 : x9_1 < (l0.length : Int)
   rotate_left
   ·
    rw [if_neg c6] at H
    exact absurd H (by simp)
   rw [if_pos c6] at H
   have c6b0 : decide (x9_1 < (l0.length : Int)) = true := decide_eq_true c6
   clear c6
   by_cases c7 : (((rd_T60 l0 x9_1).f0) == a1_0 && (((rd_T60 l0 x9_1).f1) == a1_1 && (((rd_T60 l0 x9_1).f2) == a1_2))) = true
   ·
    rw [if_pos c7] at H
    have c7b0 : (((rd_T60 l0 x9_1).f0) == a1_0 && (((rd_T60 l0 x9_1).f1) == a1_1 && (((rd_T60 l0 x9_1).f2) == a1_2))) = true := c7
    (try (have c7b1 : decide (((rd_T60 l0 x9_1).f0) = a1_0 && (((rd_T60 l0 x9_1).f1) == a1_1 && (((rd_T60 l0 x9_1).f2) == a1_2))) = true := by simpa using c7))
    (try (have c7b2 : (((rd_T60 l0 x9_1).f0) == a1_0 && (((rd_T60 l0 x9_1).f1) == a1_1 && (((rd_T60 l0 x9_1).f2) == a1_2))) = true := by simpa using c7))
    clear c7
    obtain rfl := Option.some.inj H
    have p378 : 0 ≤ (x9_1 : Int) := of_decide_eq_true as_
    have q378 : x9_1 < (l0.length : Int) := of_decide_eq_true as_
    obtain ⟨ad378, e378, hx378_0, hx378_1, hx378_2⟩ := at_T60 HR0.out x9_1 p378 q378
    cases e378
    try replace hx378_0 := (HB.out.cell (World.block_lt_of_cell? w _ hx378_0)).trans hx378_0
    try replace hx378_1 := (HB.out.cell (World.block_lt_of_cell? w _ hx378_1)).trans hx378_1
    try replace hx378_2 := (HB.out.cell (World.block_lt_of_cell? w _ hx378_2)).trans hx378_2
    replace p378 := eq_true p378
    replace q378 := eq_true q378
    go_wp2_with (first | ((with_reducible refine gate_dst (N := 6) rfl ?_); refine box_event ?hg (N := 6) ?hd (cs := #[.int .i64 0, .int .i64 0, .int .i64 0]) (t := 60) ?hr ?_; (case hd => rfl); (case hg => rfl); (case hr => first | (go_simp; done) | (go_simp; rfl)); intro gb379 hg w8 hbox hb; have n0_ := Aside0.mk (blk_below (g := gb377) (o := .cells #[.int .i64 a1_0, .int .i64 a1_1, .int .i64 a1_2] 60 (0, 0)) (bk_ BK377.out) hb); have n1_ := Aside0.mk (below_step (hg_ GE377.out) hb); have n2_ := Aside0.mk (hbox); have n3_ := Aside0.mk ((by rw [hg]; exact (below_size (hg_ GE377.out)) : w.heap.size ≤ gb379)); have n4_ := Aside0.mk ((by rw [hg]; exact (below_size (hg_ GE377.out)) : w.heap.size ≤ gb379)); have n5_ := Aside0.mk ((by rw [hg]; exact Nat.ne_of_lt (blk_lt (g := gb377) (o := .cells #[.int .i64 a1_0, .int .i64 a1_1, .int .i64 a1_2] 60 (0, 0)) (bk_ BK377.out)) : gb377 ≠ gb379)); have n6_ := Aside0.mk ((by rw [hg]; exact Nat.ne_of_gt (blk_lt (g := gb377) (o := .cells #[.int .i64 a1_0, .int .i64 a1_1, .int .i64 a1_2] 60 (0, 0)) (bk_ BK377.out)) : gb379 ≠ gb377)); clear BK377; clear HB; have BK377 := n0_; have HB := n1_; have BK379 := n2_; have GW379 := n3_; have GE379 := n4_; have NB377_379 := n5_; have NB379_377 := n6_; clear n0_ n1_ n2_ n3_ n4_ n5_ n6_; clear hb hbox hg; have hnb9 := NB379_377.out; have hnc9 := NB377_379.out; have hcz10_0 : w8.cell? ⟨gb379, 0, none⟩ = some (.int .i64 0) := (blk_cell BK379.out 0).trans rfl; have hcz10_1 : w8.cell? ⟨gb379, 1, none⟩ = some (.int .i64 0) := (blk_cell BK379.out 1).trans rfl; have hcz10_2 : w8.cell? ⟨gb379, 2, none⟩ = some (.int .i64 0) := (blk_cell BK379.out 2).trans rfl; have hfz10_0 := blk_frozen BK379.out 0; have hfz10_1 := blk_frozen BK379.out 1; have hfz10_2 := blk_frozen BK379.out 2; have hcz11_0 : w8.cell? ⟨gb377, 0, none⟩ = some (.int .i64 a1_0) := (blk_cell BK377.out 0).trans rfl; have hcz11_1 : w8.cell? ⟨gb377, 1, none⟩ = some (.int .i64 a1_1) := (blk_cell BK377.out 1).trans rfl; have hcz11_2 : w8.cell? ⟨gb377, 2, none⟩ = some (.int .i64 a1_2) := (blk_cell BK377.out 2).trans rfl; have hfz11_0 := blk_frozen BK377.out 0; have hfz11_1 := blk_frozen BK377.out 1; have hfz11_2 := blk_frozen BK377.out 2))
    go_ret
    exact ⟨er_, hg2_ GE377.out GE379.out⟩
   rw [if_neg c7] at H
   have c7b0 : (((rd_T60 l0 x9_1).f0) == a1_0 && (((rd_T60 l0 x9_1).f1) == a1_1 && (((rd_T60 l0 x9_1).f2) == a1_2))) = false := by simpa using c7
   (try (have c7b1 : decide (((rd_T60 l0 x9_1).f0) = a1_0 && (((rd_T60 l0 x9_1).f1) == a1_1 && (((rd_T60 l0 x9_1).f2) == a1_2))) = false := by simpa using c7))
   (try (have c7b2 : (((rd_T60 l0 x9_1).f0) == a1_0 && (((rd_T60 l0 x9_1).f1) == a1_1 && (((rd_T60 l0 x9_1).f2) == a1_2))) = false := by simpa using c7))
   (try (have c7b3 : ¬ (((rd_T60 l0 x9_1).f0) = a1_0 && (((rd_T60 l0 x9_1).f1) == a1_1 && (((rd_T60 l0 x9_1).f2) == a1_2))) := by simpa using c7))
   clear c7
   have H' := Aside0.mk H
   clear H
   have p378 : 0 ≤ (x9_1 : Int) := of_decide_eq_true as_
   have q378 : x9_1 < (l0.length : Int) := of_decide_eq_true as_
   obtain ⟨ad378, e378, hx378_0, hx378_1, hx378_2⟩ := at_T60 HR0.out x9_1 p378 q378
   cases e378
   try replace hx378_0 := (HB.out.cell (World.block_lt_of_cell? w _ hx378_0)).trans hx378_0
   try replace hx378_1 := (HB.out.cell (World.block_lt_of_cell? w _ hx378_1)).trans hx378_1
   try replace hx378_2 := (HB.out.cell (World.block_lt_of_cell? w _ hx378_2)).trans hx378_2
   replace p378 := eq_true p378
   replace q378 := eq_true q378
   go_wp2_with (first | ((with_reducible refine gate_dst (N := 6) rfl ?_); refine box_event ?hg (N := 6) ?hd (cs := #[.int .i64 0, .int .i64 0, .int .i64 0]) (t := 60) ?hr ?_; (case hd => rfl); (case hg => rfl); (case hr => first | (go_simp; done) | (go_simp; rfl)); intro gb379 hg w12 hbox hb; have n0_ := Aside0.mk (blk_below (g := gb377) (o := .cells #[.int .i64 a1_0, .int .i64 a1_1, .int .i64 a1_2] 60 (0, 0)) (bk_ BK377.out) hb); have n1_ := Aside0.mk (below_step (hg_ GE377.out) hb); have n2_ := Aside0.mk (hbox); have n3_ := Aside0.mk ((by rw [hg]; exact (below_size (hg_ GE377.out)) : w.heap.size ≤ gb379)); have n4_ := Aside0.mk ((by rw [hg]; exact (below_size (hg_ GE377.out)) : w.heap.size ≤ gb379)); have n5_ := Aside0.mk ((by rw [hg]; exact Nat.ne_of_lt (blk_lt (g := gb377) (o := .cells #[.int .i64 a1_0, .int .i64 a1_1, .int .i64 a1_2] 60 (0, 0)) (bk_ BK377.out)) : gb377 ≠ gb379)); have n6_ := Aside0.mk ((by rw [hg]; exact Nat.ne_of_gt (blk_lt (g := gb377) (o := .cells #[.int .i64 a1_0, .int .i64 a1_1, .int .i64 a1_2] 60 (0, 0)) (bk_ BK377.out)) : gb379 ≠ gb377)); clear BK377; clear HB; have BK377 := n0_; have HB := n1_; have BK379 := n2_; have GW379 := n3_; have GE379 := n4_; have NB377_379 := n5_; have NB379_377 := n6_; clear n0_ n1_ n2_ n3_ n4_ n5_ n6_; clear hb hbox hg; have hnb13 := NB379_377.out; have hnc13 := NB377_379.out; have hcz14_0 : w12.cell? ⟨gb379, 0, none⟩ = some (.int .i64 0) := (blk_cell BK379.out 0).trans rfl; have hcz14_1 : w12.cell? ⟨gb379, 1, none⟩ = some (.int .i64 0) := (blk_cell BK379.out 1).trans rfl; have hcz14_2 : w12.cell? ⟨gb379, 2, none⟩ = some (.int .i64 0) := (blk_cell BK379.out 2).trans rfl; have hfz14_0 := blk_frozen BK379.out 0; have hfz14_1 := blk_frozen BK379.out 1; have hfz14_2 := blk_frozen BK379.out 2; have hcz15_0 : w12.cell? ⟨gb377, 0, none⟩ = some (.int .i64 a1_0) := (blk_cell BK377.out 0).trans rfl; have hcz15_1 : w12.cell? ⟨gb377, 1, none⟩ = some (.int .i64 a1_1) := (blk_cell BK377.out 1).trans rfl; have hcz15_2 : w12.cell? ⟨gb377, 2, none⟩ = some (.int .i64 a1_2) := (blk_cell BK377.out 2).trans rfl; have hfz15_0 := blk_frozen BK377.out 0; have hfz15_1 := blk_frozen BK377.out 1; have hfz15_2 := blk_frozen BK377.out 2))
   go_roundg k1
   case measure => have := HK1.out; omega
   case rel => exact ⟨(wrap64 (x9_1 + 1)), rs_, H', ⟨by have := HK1.out; omega⟩, ⟨by (with_reducible repeat (first | apply bN_ | apply bD_ | apply bA_)); refine blk_far ?_ NB377_379.out _; (with_reducible repeat (first | apply bN_ | apply bD_ | apply bA_)); refine blk_far ?_ NB377_379.out _; (with_reducible repeat (first | apply bN_ | apply bD_ | apply bA_)); refine blk_far ?_ NB377_379.out _; (with_reducible repeat (first | apply bN_ | apply bD_ | apply bA_)); exact BK377.out⟩, ⟨by repeat (first | (with_reducible first | exact HB.out | apply ba_ | apply bn_ | apply bd_ | refine below_set ?_ GE377.out | refine below_set ?_ GE379.out) | exact HB.out)⟩⟩
mutual
def honeycombref04_Put.l0 : Nat → List (S60) → Bool → List (S60) → Int → Int → Int → Int → Int → Option ((List (S60)))
 | 0, _, _, _, _, _, _, _, _ => none
 | k + 1, x5, x6, x10, x11, x12, x451000, x451001, x451002 => if x12 < x11 then (if 0 ≤ x12 then (if x12 < (x10.length : Int) then (if x6 = true then (honeycombref04_Put.j1 k x5 x6 x10 x11 x12 false x451000 x451001 x451002 ((rd_T60 x10 x12).f0) ((rd_T60 x10 x12).f1) ((rd_T60 x10 x12).f2)) else ((honeycombref03_Ahead.f ((rd_T60 x10 x12).f0) ((rd_T60 x10 x12).f1) ((rd_T60 x10 x12).f2) x451000 x451001 x451002).bind fun t456 => (honeycombref04_Put.j1 k x5 x6 x10 x11 x12 (!t456) x451000 x451001 x451002 ((rd_T60 x10 x12).f0) ((rd_T60 x10 x12).f1) ((rd_T60 x10 x12).f2)))) else (none)) else (none)) else (if x6 = true then (some x5) else (if x5.length < 5864062014805 then (some (x5 ++ [(⟨x451000, x451001, x451002⟩ : S60)])) else (none)))
def honeycombref04_Put.j1 : Nat → List (S60) → Bool → List (S60) → Int → Int → Bool → Int → Int → Int → Int → Int → Int → Option ((List (S60)))
 | 0, _, _, _, _, _, _, _, _, _, _, _, _ => none
 | k + 1, x5, x6, x10, x11, x12, x23, x451000, x451001, x451002, x456000, x456001, x456002 => if x23 = true then (if x5.length < 5864062014805 then (honeycombref04_Put.j2 k (x5 ++ [(⟨x451000, x451001, x451002⟩ : S60)]) true x10 x11 x12 x451000 x451001 x451002 x456000 x456001 x456002) else (none)) else (honeycombref04_Put.j2 k x5 x6 x10 x11 x12 x451000 x451001 x451002 x456000 x456001 x456002)
def honeycombref04_Put.j2 : Nat → List (S60) → Bool → List (S60) → Int → Int → Int → Int → Int → Int → Int → Int → Option ((List (S60)))
 | 0, _, _, _, _, _, _, _, _, _, _, _ => none
 | k + 1, x5, x6, x10, x11, x12, x451000, x451001, x451002, x456000, x456001, x456002 => if (!(x456000 == x451000) || (!(x456001 == x451001) || (!(x456002 == x451002)))) = true then (if x5.length < 5864062014805 then (honeycombref04_Put.l0 k (x5 ++ [(⟨x456000, x456001, x456002⟩ : S60)]) x6 x10 x11 (wrap64 (x12 + 1)) x451000 x451001 x451002) else (none)) else (honeycombref04_Put.l0 k x5 x6 x10 x11 (wrap64 (x12 + 1)) x451000 x451001 x451002)
end
def honeycombref04_Put.f (k : Nat) (l0 : List (S60)) (a1_0 : Int) (a1_1 : Int) (a1_2 : Int) : Option ((List (S60))) := honeycombref04_Put.l0 k (([] : List (S60))) false l0 (l0.length : Int) 0 a1_0 a1_1 a1_2
set_option maxHeartbeats 8000000 in
set_option maxRecDepth 100000 in
theorem honeycombref04_Put.calls (k : Nat) (A0 : Option Addr) (c0 : Nat) (l0 : List (S60)) (a1_0 : Int) (a1_1 : Int) (a1_2 : Int) (r : List (S60)) (w : World) (hr0 : Kd.C k60 w A0 l0.length l0) (hc0 : l0.length ≤ c0) (h : honeycombref04_Put.f k l0 a1_0 a1_1 a1_2 = some r) :
  Calls Tryd.prog 95 #[.slice A0 l0.length c0, .agg #[.int .i64 a1_0, .int .i64 a1_1, .int .i64 a1_2]] w fun e w' => ∃ v0_ : Value, e = .returned (v0_) ∧ Kd.R k60 60 w' w.heap.size (fun _ => True) v0_ r ∧ Below w.heap.size w w' := by
 have hu60 := Tryd.underlying60
 have HR0 := Aside0.mk hr0
 have HC0 := Aside0.mk hc0
 clear hr0 hc0
 have HB := Aside0.mk (Below.refl w.heap.size w)
 have H : (honeycombref04_Put.l0 k (([] : List (S60))) false l0 (l0.length : Int) 0 a1_0 a1_1 a1_2) = some r := h
 clear h
 obtain ⟨y451, hy451⟩ : ∃ y_ : List (S60), y_ = (([] : List (S60))) := ⟨_, rfl⟩
 replace H : (honeycombref04_Put.l0 k y451 false l0 (l0.length : Int) 0 a1_0 a1_1 a1_2) = some r := by first | (rw [hy451]; with_reducible exact H) | (have H2_ := (Option.bind_some _ _).symm.trans H; rw [hy451]; with_reducible exact H2_) | (have H2_ := (Option.bind_some _ _).symm.trans H; with_reducible exact H2_) | with_reducible exact H | (rw [hy451]; exact H) | exact H
 have Ny451 := Aside0.mk hy451
 clear hy451
 have H' := Aside0.mk H
 clear H
 go_enter Tryd.func95, Tryd.ntmps95
 go_wp2_with (first | ((with_reducible refine gate_dst (N := 3) rfl ?_); refine box_event ?hg (N := 3) ?hd (cs := #[.int .i64 a1_0, .int .i64 a1_1, .int .i64 a1_2]) (t := 60) ?hr ?_; (case hd => rfl); (case hg => rfl); (case hr => first | (go_simp; done) | (go_simp; rfl)); intro gb450 hg w3 hbox hb; have n0_ := Aside0.mk (below_step hb_ hb); have n1_ := Aside0.mk (hbox); have n2_ := Aside0.mk ((by rw [hg]; exact (below_size hb_) : w.heap.size ≤ gb450)); have n3_ := Aside0.mk ((by rw [hg]; exact (below_size hb_) : w.heap.size ≤ gb450)); clear HB; have HB := n0_; have BK450 := n1_; have GW450 := n2_; have GE450 := n3_; clear n0_ n1_ n2_ n3_; clear hb hbox hg) | ((with_reducible refine gate_dst (N := 9) rfl ?_); refine Kd.R_lit k60 _ 60 ?hg (N := 9) ?hd (xs := ([] : List (S60))) (inner := []) (ok := fun _ => True) (okp := fun _ => True) ?hr ?hp (fun _ hk => hk) trivial (Below.refl _ _) (Nat.le_refl _) (by simp) ?_; (case hd => rfl); (case hg => rfl); (case hr => first | (go_simp; done) | (go_simp; rfl)); (case hp => exact (Reps.none _ _)); intro v452 w4 ho5 hb hg_ hnew_; clear hg_ hnew_; (first | rw [← Ny451.out] at ho5 | (simp only [Int.reduceToNat] at ho5; rw [← Ny451.out] at ho5)); have n0_ := Aside0.mk (Kd.R_lower (Kd.R_newB ho5 (g := gb450) (o := .cells #[.int .i64 a1_0, .int .i64 a1_1, .int .i64 a1_2] 60 (0, 0)) (bk_ BK450.out)) (below_size (hg_ GE450.out))); have n1_ := Aside0.mk (blk_below (g := gb450) (o := .cells #[.int .i64 a1_0, .int .i64 a1_1, .int .i64 a1_2] 60 (0, 0)) (bk_ BK450.out) hb); have n2_ := Aside0.mk (below_step (hg_ GE450.out) hb); clear BK450; clear HB; have HO453 := n0_; have BK450 := n1_; have HB := n2_; clear n0_ n1_ n2_; clear hb ho5))
 go_loopg [5, 6, 12] k (fun kq v5 v6 v12 w' => ∃ (x5_1 : List (S60)) (x6_1 : Bool) (x12_1 : Int), v6 = .bool x6_1 ∧ v12 = .int .i64 x12_1 ∧ Aside0 (honeycombref04_Put.l0 kq x5_1 x6_1 l0 (l0.length : Int) x12_1 a1_0 a1_1 a1_2 = some r) ∧ Aside0 (kq ≤ k) ∧ Aside0 (Kd.R k60 60 w' w.heap.size (fun k_ => k_ ≠ gb450) v5 x5_1) ∧ Aside0 (w'.heap[gb450]? = some (.cells #[.int .i64 a1_0, .int .i64 a1_1, .int .i64 a1_2] 60 (0, 0))) ∧ Aside0 (Below w.heap.size w w'))
 case atStart => exact ⟨(y451), (false), (0), rs_, rs_, H', ⟨Nat.le_refl _⟩, ⟨by (with_reducible repeat (first | apply Kd.R_alloc | apply Kd.R_drewN | apply Kd.R_drew)); exact Kd.R_mono HO453.out (fun _ hk => hk.2)⟩, ⟨bk_ BK450.out⟩, ⟨by repeat (first | (with_reducible first | exact HB.out | apply ba_ | apply bn_ | apply bd_ | refine below_set ?_ GE450.out) | exact HB.out)⟩⟩
 case round =>
  clear H'
  try clear p2
  obtain ⟨x5_1, x6_1, x12_1, rfl, rfl, HA, HK1, HO_5, BK450, HB⟩ := hrel
  cases gk with
  | zero => exact absurd HA.out (by simp [honeycombref04_Put.l0])
  | succ k1 =>
   have H := HA.out
   clear HA
   simp only [honeycombref04_Put.l0] at H
   by_cases c6 : x12_1 < (l0.length : Int)
   rotate_left
   ·
    rw [if_neg c6] at H
    have c6b0 : decide (x12_1 < (l0.length : Int)) = false := decide_eq_false c6
    clear c6
    by_cases c34 : x6_1 = true
    ·
     subst c34
     have H1 : (some x5_1) = some r := by rw [if_pos rfl] at H; exact H
     clear H
     have H := H1
     clear H1
     obtain rfl := Option.some.inj H
     go_wp2
     go_ret
     exact ⟨_, by first | rfl | (simp [errW_none, errW_some] <;> rfl) | (simp [*, errW_none, errW_some] <;> rfl), by (with_reducible repeat (first | apply Kd.R_alloc | apply Kd.R_drewN | apply Kd.R_drew)); exact Kd.R_mono HO_5.out (fun _ hk => trivial), by repeat (first | (with_reducible first | exact HB.out | apply ba_ | apply bn_ | apply bd_ | refine below_set ?_ GE450.out) | exact HB.out)⟩
    replace c34 := Bool.eq_false_iff.mpr c34
    subst c34
    have H1 : (if x5_1.length < 5864062014805 then (some (x5_1 ++ [(⟨a1_0, a1_1, a1_2⟩ : S60)])) else (none)) = some r := by rw [if_neg (show ¬ (false = true) by decide)] at H; exact H
    clear H
    have H := H1
    clear H1
    by_cases c35 : x5_1.length < 5864062014805
    rotate_left
    ·
     rw [if_neg c35] at H
     exact absurd H (by simp)
    rw [if_pos c35] at H
    have LMc35 := Aside0.mk c35
    clear c35
    obtain ⟨y463, hy463⟩ : ∃ y_ : List (S60), y_ = (x5_1 ++ [(⟨a1_0, a1_1, a1_2⟩ : S60)]) := ⟨_, rfl⟩
    replace H : (some y463) = some r := by first | (rw [hy463]; with_reducible exact H) | (have H2_ := (Option.bind_some _ _).symm.trans H; rw [hy463]; with_reducible exact H2_) | (have H2_ := (Option.bind_some _ _).symm.trans H; with_reducible exact H2_) | with_reducible exact H | (rw [hy463]; exact H) | exact H
    have Ny463 := Aside0.mk hy463
    clear hy463
    obtain rfl := Option.some.inj H
    have hcz36_0 : wr.cell? ⟨gb450, 0, none⟩ = some (.int .i64 a1_0) := (blk_cell BK450.out 0).trans rfl
    have hcz36_1 : wr.cell? ⟨gb450, 1, none⟩ = some (.int .i64 a1_1) := (blk_cell BK450.out 1).trans rfl
    have hcz36_2 : wr.cell? ⟨gb450, 2, none⟩ = some (.int .i64 a1_2) := (blk_cell BK450.out 2).trans rfl
    have hfz36_0 := blk_frozen BK450.out 0
    have hfz36_1 := blk_frozen BK450.out 1
    have hfz36_2 := blk_frozen BK450.out 2
    go_wp2_with (first | ((with_reducible refine gate_builtin (b := .append) (xs := #[.tmp 38, .tmp 40]) rfl ?_); at_builtin; refine Kd.R_append k60 (w0 := w) w.heap.size rfl (.tmp 38) (.tmp 40) 45 60 (.agg #[(.int .i64 0), (.int .i64 0), (.int .i64 0)]) 24 rfl Tryd.underlying45 info60 rfl (by decide) (by omega) u5 x5_1 (⟨a1_0, a1_1, a1_2⟩ : S60) [.int .i64 a1_0, .int .i64 a1_1, .int .i64 a1_2] (fun k_ => k_ ≠ gb450) (fun _ => False) rfl rfl ?aP (fun _ hk => hk.elim) ?aF ?aO ?aB ?aS ?aL ?_; (case aP => exact k60_mkM _ _ _ (⟨a1_0, a1_1, a1_2⟩ : S60)); (case aB => exact (hg_ GE450.out)); (case aF => exact (fun k_ hk => Kd.freshB (g := gb450) (o := .cells #[.int .i64 a1_0, .int .i64 a1_1, .int .i64 a1_2] 60 (0, 0)) (bk_ BK450.out) k_ hk)); (case aO => exact (kr_ HO_5.out)); (case aS => exact (below_size (hg_ GE450.out))); (case aL => have := LMc35.out; omega); intro v464 w37 ho hb hg hat; rw [← Ny463.out] at ho; have n0_ := Aside0.mk (blk_grown (g := gb450) (o := .cells #[.int .i64 a1_0, .int .i64 a1_1, .int .i64 a1_2] 60 (0, 0)) (bk_ BK450.out) hg (Kd.R_away HO_5.out (fun _ hk => hk))); have n1_ := Aside0.mk (hb); have n2_ := Aside0.mk (ho); clear BK450; clear HB; clear HO_5; have BK450 := n0_; have HB := n1_; have HO465 := n2_; clear n0_ n1_ n2_; clear ho hb hg hat))
    go_ret
    exact ⟨_, by first | rfl | (simp [errW_none, errW_some] <;> rfl) | (simp [*, errW_none, errW_some] <;> rfl), by (with_reducible repeat (first | apply Kd.R_alloc | apply Kd.R_drewN | apply Kd.R_drew)); exact Kd.R_mono HO465.out (fun _ hk => trivial), by repeat (first | (with_reducible first | exact HB.out | apply ba_ | apply bn_ | apply bd_ | refine below_set ?_ GE450.out) | exact HB.out)⟩
   rw [if_pos c6] at H
   have c6b0 : decide (x12_1 < (l0.length : Int)) = true := decide_eq_true c6
   clear c6
   by_cases c7 : 0 ≤ x12_1
   rotate_left
   ·
    rw [if_neg c7] at H
    exact absurd H (by simp)
   rw [if_pos c7] at H
   have c7b0 : decide (0 ≤ x12_1) = true := decide_eq_true c7
   clear c7
   by_cases c8 : x12_1 < (l0.length : Int)
   rotate_left
   ·
    rw [if_neg c8] at H
    exact absurd H (by simp)
   rw [if_pos c8] at H
   have c8b0 : decide (x12_1 < (l0.length : Int)) = true := decide_eq_true c8
   clear c8
   have HC9 := Aside0.mk H
   clear H
   have p454 : 0 ≤ (x12_1 : Int) := of_decide_eq_true as_
   have q454 : x12_1 < (l0.length : Int) := of_decide_eq_true as_
   obtain ⟨ad454, e454, hx454_0, hx454_1, hx454_2⟩ := at_T60 HR0.out x12_1 p454 q454
   cases e454
   try replace hx454_0 := (HB.out.cell (World.block_lt_of_cell? w _ hx454_0)).trans hx454_0
   try replace hx454_1 := (HB.out.cell (World.block_lt_of_cell? w _ hx454_1)).trans hx454_1
   try replace hx454_2 := (HB.out.cell (World.block_lt_of_cell? w _ hx454_2)).trans hx454_2
   replace p454 := eq_true p454
   replace q454 := eq_true q454
   go_upto_region 6 with (first | ((with_reducible refine gate_dst (N := 8) rfl ?_); refine box_event ?hg (N := 8) ?hd (cs := #[.int .i64 0, .int .i64 0, .int .i64 0]) (t := 60) ?hr ?_; (case hd => rfl); (case hg => rfl); (case hr => first | (go_simp; done) | (go_simp; rfl)); intro gb455 hg w10 hbox hb; have n0_ := Aside0.mk (Kd.R_below (Kd.R_elderB (kr_ HO_5.out) gb455 (Nat.le_of_eq hg.symm)) hb); have n1_ := Aside0.mk (blk_below (g := gb450) (o := .cells #[.int .i64 a1_0, .int .i64 a1_1, .int .i64 a1_2] 60 (0, 0)) (bk_ BK450.out) hb); have n2_ := Aside0.mk (below_step (hg_ GE450.out) hb); have n3_ := Aside0.mk (hbox); have n4_ := Aside0.mk ((by rw [hg]; exact (below_size (hg_ GE450.out)) : w.heap.size ≤ gb455)); have n5_ := Aside0.mk ((by rw [hg]; exact (below_size (hg_ GE450.out)) : w.heap.size ≤ gb455)); have n6_ := Aside0.mk ((by rw [hg]; exact Nat.ne_of_lt (blk_lt (g := gb450) (o := .cells #[.int .i64 a1_0, .int .i64 a1_1, .int .i64 a1_2] 60 (0, 0)) (bk_ BK450.out)) : gb450 ≠ gb455)); have n7_ := Aside0.mk ((by rw [hg]; exact Nat.ne_of_gt (blk_lt (g := gb450) (o := .cells #[.int .i64 a1_0, .int .i64 a1_1, .int .i64 a1_2] 60 (0, 0)) (bk_ BK450.out)) : gb455 ≠ gb450)); clear HO_5; clear BK450; clear HB; have HO_5 := n0_; have BK450 := n1_; have HB := n2_; have BK455 := n3_; have GW455 := n4_; have GE455 := n5_; have NB450_455 := n6_; have NB455_450 := n7_; clear n0_ n1_ n2_ n3_ n4_ n5_ n6_ n7_; clear hb hbox hg; have hnb11 := NB455_450.out; have hnc11 := NB450_455.out; have hcz12_0 : w10.cell? ⟨gb455, 0, none⟩ = some (.int .i64 0) := (blk_cell BK455.out 0).trans rfl; have hcz12_1 : w10.cell? ⟨gb455, 1, none⟩ = some (.int .i64 0) := (blk_cell BK455.out 1).trans rfl; have hcz12_2 : w10.cell? ⟨gb455, 2, none⟩ = some (.int .i64 0) := (blk_cell BK455.out 2).trans rfl; have hfz12_0 := blk_frozen BK455.out 0; have hfz12_1 := blk_frozen BK455.out 1; have hfz12_2 := blk_frozen BK455.out 2))
   (try simp only [Act.put, List.setIfInBounds_toArray, List.set_cons_zero, List.set_cons_succ])
   go_cut [23] (fun v23 wc => ∃ (kq : Nat) (x23_8 : Bool), v23 = .bool x23_8 ∧ Aside0 (honeycombref04_Put.j1 kq x5_1 x6_1 l0 (l0.length : Int) x12_1 x23_8 a1_0 a1_1 a1_2 ((rd_T60 l0 x12_1).f0) ((rd_T60 l0 x12_1).f1) ((rd_T60 l0 x12_1).f2) = some r) ∧ Aside0 (kq ≤ k1) ∧ Aside0 (Kd.R k60 60 wc w.heap.size (fun k_ => k_ ≠ gb450 ∧ k_ ≠ gb455) u5 x5_1) ∧ Aside0 (wc.heap[gb450]? = some (.cells #[.int .i64 a1_0, .int .i64 a1_1, .int .i64 a1_2] 60 (0, 0))) ∧ Aside0 (wc.heap[gb455]? = some (.cells #[.int .i64 ((rd_T60 l0 x12_1).f0), .int .i64 ((rd_T60 l0 x12_1).f1), .int .i64 ((rd_T60 l0 x12_1).f2)] 60 (0, 0))) ∧ Aside0 (Below w.heap.size w wc))
   case first =>
    have H := HC9.out
    clear HC9
    by_cases c13 : x6_1 = true
    ·
     subst c13
     have H1 : (honeycombref04_Put.j1 k1 x5_1 true l0 (l0.length : Int) x12_1 false a1_0 a1_1 a1_2 ((rd_T60 l0 x12_1).f0) ((rd_T60 l0 x12_1).f1) ((rd_T60 l0 x12_1).f2)) = some r := by rw [if_pos rfl] at H; exact H
     clear H
     have H := H1
     clear H1
     have H' := Aside0.mk H
     clear H
     go_wp2
     go_meet
     case rel => exact ⟨_, (false), rs_, H', ⟨by have := HK1.out; first | omega | exact Nat.le_refl _⟩, ⟨by (with_reducible repeat (first | apply Kd.R_alloc | apply Kd.R_drewN | apply Kd.R_drew)); exact Kd.R_mono (Kd.R_far (p := ⟨gb455, 2, none⟩) (Kd.R_far (p := ⟨gb455, 1, none⟩) (Kd.R_far (p := ⟨gb455, 0, none⟩) (Kd.R_mono HO_5.out (fun k_ hk => (⟨hk, hk.2⟩ : _ ∧ k_ ≠ gb455))) (fun _ hk => hk.2) (.int .i64 ((rd_T60 l0 x12_1).f0))) (fun _ hk => hk.2) (.int .i64 ((rd_T60 l0 x12_1).f1))) (fun _ hk => hk.2) (.int .i64 ((rd_T60 l0 x12_1).f2))) (fun _ hk => ⟨hk.1.1, hk.1.2⟩)⟩, ⟨by (with_reducible repeat (first | apply bN_ | apply bD_ | apply bA_)); refine blk_far ?_ NB450_455.out _; (with_reducible repeat (first | apply bN_ | apply bD_ | apply bA_)); refine blk_far ?_ NB450_455.out _; (with_reducible repeat (first | apply bN_ | apply bD_ | apply bA_)); refine blk_far ?_ NB450_455.out _; (with_reducible repeat (first | apply bN_ | apply bD_ | apply bA_)); exact BK450.out⟩, ⟨by (with_reducible repeat (first | apply bN_ | apply bD_ | apply bA_)); refine blk_put (cs := #[.int .i64 ((rd_T60 l0 x12_1).f0), .int .i64 ((rd_T60 l0 x12_1).f1), .int .i64 0]) ?_ 2 _ rfl; (with_reducible repeat (first | apply bN_ | apply bD_ | apply bA_)); refine blk_put (cs := #[.int .i64 ((rd_T60 l0 x12_1).f0), .int .i64 0, .int .i64 0]) ?_ 1 _ rfl; (with_reducible repeat (first | apply bN_ | apply bD_ | apply bA_)); refine blk_put (cs := #[.int .i64 0, .int .i64 0, .int .i64 0]) ?_ 0 _ rfl; (with_reducible repeat (first | apply bN_ | apply bD_ | apply bA_)); exact BK455.out⟩, ⟨by repeat (first | (with_reducible first | exact HB.out | apply ba_ | apply bn_ | apply bd_ | refine below_set ?_ GE450.out | refine below_set ?_ GE455.out) | exact HB.out)⟩⟩
    replace c13 := Bool.eq_false_iff.mpr c13
    subst c13
    have H1 : ((honeycombref03_Ahead.f ((rd_T60 l0 x12_1).f0) ((rd_T60 l0 x12_1).f1) ((rd_T60 l0 x12_1).f2) a1_0 a1_1 a1_2).bind fun t456 => (honeycombref04_Put.j1 k1 x5_1 false l0 (l0.length : Int) x12_1 (!t456) a1_0 a1_1 a1_2 ((rd_T60 l0 x12_1).f0) ((rd_T60 l0 x12_1).f1) ((rd_T60 l0 x12_1).f2))) = some r := by rw [if_neg (show ¬ (false = true) by decide)] at H; exact H
    clear H
    have H := H1
    clear H1
    replace H := Option.bind_eq_some_iff.mp H
    obtain ⟨t456, A140, H⟩ := H
    replace H : (honeycombref04_Put.j1 k1 x5_1 false l0 (l0.length : Int) x12_1 (!t456) a1_0 a1_1 a1_2 ((rd_T60 l0 x12_1).f0) ((rd_T60 l0 x12_1).f1) ((rd_T60 l0 x12_1).f2)) = some r := H
    have A14 := Aside0.mk A140
    clear A140
    have H' := Aside0.mk H
    clear H
    have hnb15 := NB455_450.out
    have hnc15 := NB450_455.out
    have hcz16_0 : w10.cell? ⟨gb455, 0, none⟩ = some (.int .i64 0) := (blk_cell BK455.out 0).trans rfl
    have hcz16_1 : w10.cell? ⟨gb455, 1, none⟩ = some (.int .i64 0) := (blk_cell BK455.out 1).trans rfl
    have hcz16_2 : w10.cell? ⟨gb455, 2, none⟩ = some (.int .i64 0) := (blk_cell BK455.out 2).trans rfl
    have hfz16_0 := blk_frozen BK455.out 0
    have hfz16_1 := blk_frozen BK455.out 1
    have hfz16_2 := blk_frozen BK455.out 2
    have hcz17_0 : w10.cell? ⟨gb450, 0, none⟩ = some (.int .i64 a1_0) := (blk_cell BK450.out 0).trans rfl
    have hcz17_1 : w10.cell? ⟨gb450, 1, none⟩ = some (.int .i64 a1_1) := (blk_cell BK450.out 1).trans rfl
    have hcz17_2 : w10.cell? ⟨gb450, 2, none⟩ = some (.int .i64 a1_2) := (blk_cell BK450.out 2).trans rfl
    have hfz17_0 := blk_frozen BK450.out 0
    have hfz17_1 := blk_frozen BK450.out 1
    have hfz17_2 := blk_frozen BK450.out 2
    go_wp2_with (first | (go_at_call 84; (with_reducible refine (honeycombref03_Ahead.calls ((rd_T60 l0 x12_1).f0) ((rd_T60 l0 x12_1).f1) ((rd_T60 l0 x12_1).f2) a1_0 a1_1 a1_2 t456 _ A14.out).mono ?_); rintro e w18 ⟨rfl, hb⟩; have n0_ := Aside0.mk (Kd.R_below (by (with_reducible repeat (first | apply Kd.R_alloc | apply Kd.R_drewN | apply Kd.R_drew)); exact (Kd.R_mono (Kd.R_far (p := ⟨gb455, 2, none⟩) (Kd.R_far (p := ⟨gb455, 1, none⟩) (Kd.R_far (p := ⟨gb455, 0, none⟩) (Kd.R_mono HO_5.out (fun k_ hk => (⟨hk, hk.2⟩ : _ ∧ k_ ≠ gb455))) (fun _ hk => hk.2) (.int .i64 ((rd_T60 l0 x12_1).f0))) (fun _ hk => hk.2) (.int .i64 ((rd_T60 l0 x12_1).f1))) (fun _ hk => hk.2) (.int .i64 ((rd_T60 l0 x12_1).f2))) (fun _ h_ => h_.1))) hb); have n1_ := Aside0.mk (blk_below (g := gb450) (o := .cells #[.int .i64 a1_0, .int .i64 a1_1, .int .i64 a1_2] 60 (0, 0)) (by (with_reducible repeat (first | apply bN_ | apply bD_ | apply bA_)); refine blk_far ?_ NB450_455.out _; (with_reducible repeat (first | apply bN_ | apply bD_ | apply bA_)); refine blk_far ?_ NB450_455.out _; (with_reducible repeat (first | apply bN_ | apply bD_ | apply bA_)); refine blk_far ?_ NB450_455.out _; (with_reducible repeat (first | apply bN_ | apply bD_ | apply bA_)); exact BK450.out) hb); have n2_ := Aside0.mk (blk_below (g := gb455) (o := .cells #[.int .i64 ((rd_T60 l0 x12_1).f0), .int .i64 ((rd_T60 l0 x12_1).f1), .int .i64 ((rd_T60 l0 x12_1).f2)] 60 (0, 0)) (by (with_reducible repeat (first | apply bN_ | apply bD_ | apply bA_)); refine blk_put (cs := #[.int .i64 ((rd_T60 l0 x12_1).f0), .int .i64 ((rd_T60 l0 x12_1).f1), .int .i64 0]) ?_ 2 _ rfl; (with_reducible repeat (first | apply bN_ | apply bD_ | apply bA_)); refine blk_put (cs := #[.int .i64 ((rd_T60 l0 x12_1).f0), .int .i64 0, .int .i64 0]) ?_ 1 _ rfl; (with_reducible repeat (first | apply bN_ | apply bD_ | apply bA_)); refine blk_put (cs := #[.int .i64 0, .int .i64 0, .int .i64 0]) ?_ 0 _ rfl; (with_reducible repeat (first | apply bN_ | apply bD_ | apply bA_)); exact BK455.out) hb); have n3_ := Aside0.mk (below_step (hg2_ GE450.out GE455.out) hb); clear HO_5; clear BK450; clear BK455; clear HB; have HO_5 := n0_; have BK450 := n1_; have BK455 := n2_; have HB := n3_; clear n0_ n1_ n2_ n3_; (try clear hb); (try clear hb2); (try clear hk); (try clear hi)))
    go_meet
    case rel => exact ⟨_, (!t456), rs_, H', ⟨by have := HK1.out; first | omega | exact Nat.le_refl _⟩, ⟨kr_ HO_5.out⟩, ⟨bk_ BK450.out⟩, ⟨bk_ BK455.out⟩, ⟨by repeat (first | (with_reducible first | exact HB.out | apply ba_ | apply bn_ | apply bd_ | refine below_set ?_ GE450.out | refine below_set ?_ GE455.out) | exact HB.out)⟩⟩
   case rest =>
    clear HC9
    try clear c1
    try clear p2
    try clear p4
    try clear q4
    try clear hx4
    try clear c6
    try clear c6b0
    try clear c7
    try clear c7b0
    try clear c8
    try clear c8b0
    try clear c9
    try clear c11
    try clear c13
    try clear c15
    try clear hcz12_0
    try clear hcz12_1
    try clear hcz12_2
    try clear hcz16_0
    try clear hcz16_1
    try clear hcz16_2
    try clear hcz17_0
    try clear hcz17_1
    try clear hcz17_2
    try clear hfz12_0
    try clear hfz12_1
    try clear hfz12_2
    try clear hfz16_0
    try clear hfz16_1
    try clear hfz16_2
    try clear hfz17_0
    try clear hfz17_1
    try clear hfz17_2
    try clear hx454_0
    try clear hx454_1
    try clear hx454_2
    try clear p2
    try clear p454
    try clear q454
    obtain ⟨kq, x23_8, rfl, HA, HJ8, HO_5, BK450, BK455, HB⟩ := hcut
    cases kq with
    | zero => exact absurd HA.out (by simp [honeycombref04_Put.j1])
    | succ kj8 =>
     have H := HA.out
     clear HA
     simp only [honeycombref04_Put.j1] at H
     have HC19 := Aside0.mk H
     clear H
     go_upto_if 23 with (fail)
     go_cut [5, 6] (fun v5 v6 wc => ∃ (kq : Nat) (x5_18 : List (S60)) (x6_18 : Bool), v6 = .bool x6_18 ∧ Aside0 (honeycombref04_Put.j2 kq x5_18 x6_18 l0 (l0.length : Int) x12_1 a1_0 a1_1 a1_2 ((rd_T60 l0 x12_1).f0) ((rd_T60 l0 x12_1).f1) ((rd_T60 l0 x12_1).f2) = some r) ∧ Aside0 (kq ≤ kj8) ∧ Aside0 (Kd.R k60 60 wc w.heap.size (fun k_ => k_ ≠ gb450 ∧ k_ ≠ gb455) v5 x5_18) ∧ Aside0 (wc.heap[gb450]? = some (.cells #[.int .i64 a1_0, .int .i64 a1_1, .int .i64 a1_2] 60 (0, 0))) ∧ Aside0 (wc.heap[gb455]? = some (.cells #[.int .i64 ((rd_T60 l0 x12_1).f0), .int .i64 ((rd_T60 l0 x12_1).f1), .int .i64 ((rd_T60 l0 x12_1).f2)] 60 (0, 0))) ∧ Aside0 (Below w.heap.size w wc))
     case first =>
      have H := HC19.out
      clear HC19
      by_cases c20 : x23_8 = true
      rotate_left
      ·
       replace c20 := Bool.eq_false_iff.mpr c20
       subst c20
       have H1 : (honeycombref04_Put.j2 kj8 x5_1 x6_1 l0 (l0.length : Int) x12_1 a1_0 a1_1 a1_2 ((rd_T60 l0 x12_1).f0) ((rd_T60 l0 x12_1).f1) ((rd_T60 l0 x12_1).f2)) = some r := by rw [if_neg (show ¬ (false = true) by decide)] at H; exact H
       clear H
       have H := H1
       clear H1
       have H' := Aside0.mk H
       clear H
       go_wp2
       go_meet
       case rel => exact ⟨_, (x5_1), (x6_1), rs_, H', ⟨by have := HK1.out; have := HJ8.out; first | omega | exact Nat.le_refl _⟩, ⟨kr_ HO_5.out⟩, ⟨bk_ BK450.out⟩, ⟨bk_ BK455.out⟩, ⟨by repeat (first | (with_reducible first | exact HB.out | apply ba_ | apply bn_ | apply bd_ | refine below_set ?_ GE450.out | refine below_set ?_ GE455.out) | exact HB.out)⟩⟩
      subst c20
      have H1 : (if x5_1.length < 5864062014805 then (honeycombref04_Put.j2 kj8 (x5_1 ++ [(⟨a1_0, a1_1, a1_2⟩ : S60)]) true l0 (l0.length : Int) x12_1 a1_0 a1_1 a1_2 ((rd_T60 l0 x12_1).f0) ((rd_T60 l0 x12_1).f1) ((rd_T60 l0 x12_1).f2)) else (none)) = some r := by rw [if_pos rfl] at H; exact H
      clear H
      have H := H1
      clear H1
      by_cases c21 : x5_1.length < 5864062014805
      rotate_left
      ·
       rw [if_neg c21] at H
       exact absurd H (by simp)
      rw [if_pos c21] at H
      have LMc21 := Aside0.mk c21
      clear c21
      obtain ⟨y457, hy457⟩ : ∃ y_ : List (S60), y_ = (x5_1 ++ [(⟨a1_0, a1_1, a1_2⟩ : S60)]) := ⟨_, rfl⟩
      replace H : (honeycombref04_Put.j2 kj8 y457 true l0 (l0.length : Int) x12_1 a1_0 a1_1 a1_2 ((rd_T60 l0 x12_1).f0) ((rd_T60 l0 x12_1).f1) ((rd_T60 l0 x12_1).f2)) = some r := by first | (rw [hy457]; with_reducible exact H) | (have H2_ := (Option.bind_some _ _).symm.trans H; rw [hy457]; with_reducible exact H2_) | (have H2_ := (Option.bind_some _ _).symm.trans H; with_reducible exact H2_) | with_reducible exact H | (rw [hy457]; exact H) | exact H
      have Ny457 := Aside0.mk hy457
      clear hy457
      have H' := Aside0.mk H
      clear H
      have hnb22 := NB450_455.out
      have hnc22 := NB455_450.out
      have hcz23_0 : wc.cell? ⟨gb450, 0, none⟩ = some (.int .i64 a1_0) := (blk_cell BK450.out 0).trans rfl
      have hcz23_1 : wc.cell? ⟨gb450, 1, none⟩ = some (.int .i64 a1_1) := (blk_cell BK450.out 1).trans rfl
      have hcz23_2 : wc.cell? ⟨gb450, 2, none⟩ = some (.int .i64 a1_2) := (blk_cell BK450.out 2).trans rfl
      have hfz23_0 := blk_frozen BK450.out 0
      have hfz23_1 := blk_frozen BK450.out 1
      have hfz23_2 := blk_frozen BK450.out 2
      go_wp2_with (first | ((with_reducible refine gate_builtin (b := .append) (xs := #[.tmp 24, .tmp 26]) rfl ?_); at_builtin; refine Kd.R_append k60 (w0 := w) w.heap.size rfl (.tmp 24) (.tmp 26) 45 60 (.agg #[(.int .i64 0), (.int .i64 0), (.int .i64 0)]) 24 rfl Tryd.underlying45 info60 rfl (by decide) (by omega) u5 x5_1 (⟨a1_0, a1_1, a1_2⟩ : S60) [.int .i64 a1_0, .int .i64 a1_1, .int .i64 a1_2] (fun k_ => k_ ≠ gb450 ∧ k_ ≠ gb455) (fun _ => False) rfl rfl ?aP (fun _ hk => hk.elim) ?aF ?aO ?aB ?aS ?aL ?_; (case aP => exact k60_mkM _ _ _ (⟨a1_0, a1_1, a1_2⟩ : S60)); (case aB => exact (hg2_ GE450.out GE455.out)); (case aF => exact (fun k_ hk => ⟨Kd.freshB (g := gb450) (o := .cells #[.int .i64 a1_0, .int .i64 a1_1, .int .i64 a1_2] 60 (0, 0)) (bk_ BK450.out) k_ hk, Kd.freshB (g := gb455) (o := .cells #[.int .i64 ((rd_T60 l0 x12_1).f0), .int .i64 ((rd_T60 l0 x12_1).f1), .int .i64 ((rd_T60 l0 x12_1).f2)] 60 (0, 0)) (bk_ BK455.out) k_ hk⟩)); (case aO => exact (kr_ HO_5.out)); (case aS => exact (below_size (hg2_ GE450.out GE455.out))); (case aL => have := LMc21.out; omega); intro v458 w24 ho hb hg hat; rw [← Ny457.out] at ho; have n0_ := Aside0.mk (blk_grown (g := gb450) (o := .cells #[.int .i64 a1_0, .int .i64 a1_1, .int .i64 a1_2] 60 (0, 0)) (bk_ BK450.out) hg (Kd.R_away HO_5.out (fun _ hk => hk.1))); have n1_ := Aside0.mk (blk_grown (g := gb455) (o := .cells #[.int .i64 ((rd_T60 l0 x12_1).f0), .int .i64 ((rd_T60 l0 x12_1).f1), .int .i64 ((rd_T60 l0 x12_1).f2)] 60 (0, 0)) (bk_ BK455.out) hg (Kd.R_away HO_5.out (fun _ hk => hk.2))); have n2_ := Aside0.mk (hb); have n3_ := Aside0.mk (ho); clear BK450; clear BK455; clear HB; clear HO_5; have BK450 := n0_; have BK455 := n1_; have HB := n2_; have HO459 := n3_; clear n0_ n1_ n2_ n3_; clear ho hb hg hat))
      go_meet
      case rel => exact ⟨_, (y457), (true), rs_, H', ⟨by have := HK1.out; have := HJ8.out; first | omega | exact Nat.le_refl _⟩, ⟨kr_ HO459.out⟩, ⟨bk_ BK450.out⟩, ⟨bk_ BK455.out⟩, ⟨by repeat (first | (with_reducible first | exact HB.out | apply ba_ | apply bn_ | apply bd_ | refine below_set ?_ GE450.out | refine below_set ?_ GE455.out) | exact HB.out)⟩⟩
     case rest =>
      clear HC19
      try clear c1
      try clear c2
      try clear p2
      try clear p4
      try clear q4
      try clear hx4
      try clear c6
      try clear c6b0
      try clear c7
      try clear c7b0
      try clear c8
      try clear c8b0
      try clear c9
      try clear c11
      try clear c13
      try clear c15
      try clear c20
      try clear c21
      try clear c22
      try clear hcz12_0
      try clear hcz12_1
      try clear hcz12_2
      try clear hcz16_0
      try clear hcz16_1
      try clear hcz16_2
      try clear hcz17_0
      try clear hcz17_1
      try clear hcz17_2
      try clear hcz23_0
      try clear hcz23_1
      try clear hcz23_2
      try clear hfz12_0
      try clear hfz12_1
      try clear hfz12_2
      try clear hfz16_0
      try clear hfz16_1
      try clear hfz16_2
      try clear hfz17_0
      try clear hfz17_1
      try clear hfz17_2
      try clear hfz23_0
      try clear hfz23_1
      try clear hfz23_2
      try clear hx454_0
      try clear hx454_1
      try clear hx454_2
      try clear p2
      try clear p4
      try clear p454
      try clear q4
      try clear q454
      obtain ⟨kq, x5_18, x6_18, rfl, HA, HJ18, HO_5, BK450, BK455, HB⟩ := hcut
      cases kq with
      | zero => exact absurd HA.out (by simp [honeycombref04_Put.j2])
      | succ kj18 =>
       have H := HA.out
       clear HA
       simp only [honeycombref04_Put.j2] at H
       by_cases c25 : (!(((rd_T60 l0 x12_1).f0) == a1_0) || (!(((rd_T60 l0 x12_1).f1) == a1_1) || (!(((rd_T60 l0 x12_1).f2) == a1_2)))) = true
       rotate_left
       ·
        rw [if_neg c25] at H
        have c25b0 : (!(((rd_T60 l0 x12_1).f0) == a1_0) || (!(((rd_T60 l0 x12_1).f1) == a1_1) || (!(((rd_T60 l0 x12_1).f2) == a1_2)))) = false := by simpa using c25
        clear c25
        have H' := Aside0.mk H
        clear H
        have hnb31 := NB455_450.out
        have hnc31 := NB450_455.out
        have hcz32_0 : wc.cell? ⟨gb455, 0, none⟩ = some (.int .i64 ((rd_T60 l0 x12_1).f0)) := (blk_cell BK455.out 0).trans rfl
        have hcz32_1 : wc.cell? ⟨gb455, 1, none⟩ = some (.int .i64 ((rd_T60 l0 x12_1).f1)) := (blk_cell BK455.out 1).trans rfl
        have hcz32_2 : wc.cell? ⟨gb455, 2, none⟩ = some (.int .i64 ((rd_T60 l0 x12_1).f2)) := (blk_cell BK455.out 2).trans rfl
        have hfz32_0 := blk_frozen BK455.out 0
        have hfz32_1 := blk_frozen BK455.out 1
        have hfz32_2 := blk_frozen BK455.out 2
        have hcz33_0 : wc.cell? ⟨gb450, 0, none⟩ = some (.int .i64 a1_0) := (blk_cell BK450.out 0).trans rfl
        have hcz33_1 : wc.cell? ⟨gb450, 1, none⟩ = some (.int .i64 a1_1) := (blk_cell BK450.out 1).trans rfl
        have hcz33_2 : wc.cell? ⟨gb450, 2, none⟩ = some (.int .i64 a1_2) := (blk_cell BK450.out 2).trans rfl
        have hfz33_0 := blk_frozen BK450.out 0
        have hfz33_1 := blk_frozen BK450.out 1
        have hfz33_2 := blk_frozen BK450.out 2
        go_wp2
        go_roundg kj18
        case measure => have := HK1.out; have := HJ8.out; have := HJ18.out; omega
        case rel => exact ⟨(x5_18), (x6_18), (wrap64 (x12_1 + 1)), rs_, rs_, H', ⟨by have := HK1.out; have := HJ8.out; have := HJ18.out; omega⟩, ⟨by (with_reducible repeat (first | apply Kd.R_alloc | apply Kd.R_drewN | apply Kd.R_drew)); exact Kd.R_mono HO_5.out (fun _ hk => hk.1)⟩, ⟨bk_ BK450.out⟩, ⟨by repeat (first | (with_reducible first | exact HB.out | apply ba_ | apply bn_ | apply bd_ | refine below_set ?_ GE450.out | refine below_set ?_ GE455.out) | exact HB.out)⟩⟩
       rw [if_pos c25] at H
       have c25b0 : (!(((rd_T60 l0 x12_1).f0) == a1_0) || (!(((rd_T60 l0 x12_1).f1) == a1_1) || (!(((rd_T60 l0 x12_1).f2) == a1_2)))) = true := c25
       clear c25
       by_cases c26 : x5_18.length < 5864062014805
       rotate_left
       ·
        rw [if_neg c26] at H
        exact absurd H (by simp)
       rw [if_pos c26] at H
       have LMc26 := Aside0.mk c26
       clear c26
       obtain ⟨y460, hy460⟩ : ∃ y_ : List (S60), y_ = (x5_18 ++ [(⟨((rd_T60 l0 x12_1).f0), ((rd_T60 l0 x12_1).f1), ((rd_T60 l0 x12_1).f2)⟩ : S60)]) := ⟨_, rfl⟩
       replace H : (honeycombref04_Put.l0 kj18 y460 x6_18 l0 (l0.length : Int) (wrap64 (x12_1 + 1)) a1_0 a1_1 a1_2) = some r := by first | (rw [hy460]; with_reducible exact H) | (have H2_ := (Option.bind_some _ _).symm.trans H; rw [hy460]; with_reducible exact H2_) | (have H2_ := (Option.bind_some _ _).symm.trans H; with_reducible exact H2_) | with_reducible exact H | (rw [hy460]; exact H) | exact H
       have Ny460 := Aside0.mk hy460
       clear hy460
       have H' := Aside0.mk H
       clear H
       have hnb27 := NB455_450.out
       have hnc27 := NB450_455.out
       have hcz28_0 : wc.cell? ⟨gb455, 0, none⟩ = some (.int .i64 ((rd_T60 l0 x12_1).f0)) := (blk_cell BK455.out 0).trans rfl
       have hcz28_1 : wc.cell? ⟨gb455, 1, none⟩ = some (.int .i64 ((rd_T60 l0 x12_1).f1)) := (blk_cell BK455.out 1).trans rfl
       have hcz28_2 : wc.cell? ⟨gb455, 2, none⟩ = some (.int .i64 ((rd_T60 l0 x12_1).f2)) := (blk_cell BK455.out 2).trans rfl
       have hfz28_0 := blk_frozen BK455.out 0
       have hfz28_1 := blk_frozen BK455.out 1
       have hfz28_2 := blk_frozen BK455.out 2
       have hcz29_0 : wc.cell? ⟨gb450, 0, none⟩ = some (.int .i64 a1_0) := (blk_cell BK450.out 0).trans rfl
       have hcz29_1 : wc.cell? ⟨gb450, 1, none⟩ = some (.int .i64 a1_1) := (blk_cell BK450.out 1).trans rfl
       have hcz29_2 : wc.cell? ⟨gb450, 2, none⟩ = some (.int .i64 a1_2) := (blk_cell BK450.out 2).trans rfl
       have hfz29_0 := blk_frozen BK450.out 0
       have hfz29_1 := blk_frozen BK450.out 1
       have hfz29_2 := blk_frozen BK450.out 2
       go_wp2_with (first | ((with_reducible refine gate_builtin (b := .append) (xs := #[.tmp 31, .tmp 33]) rfl ?_); at_builtin; refine Kd.R_append k60 (w0 := w) w.heap.size rfl (.tmp 31) (.tmp 33) 45 60 (.agg #[(.int .i64 0), (.int .i64 0), (.int .i64 0)]) 24 rfl Tryd.underlying45 info60 rfl (by decide) (by omega) u5 x5_18 (⟨((rd_T60 l0 x12_1).f0), ((rd_T60 l0 x12_1).f1), ((rd_T60 l0 x12_1).f2)⟩ : S60) [.int .i64 ((rd_T60 l0 x12_1).f0), .int .i64 ((rd_T60 l0 x12_1).f1), .int .i64 ((rd_T60 l0 x12_1).f2)] (fun k_ => k_ ≠ gb450 ∧ k_ ≠ gb455) (fun _ => False) rfl rfl ?aP (fun _ hk => hk.elim) ?aF ?aO ?aB ?aS ?aL ?_; (case aP => exact k60_mkM _ _ _ (⟨((rd_T60 l0 x12_1).f0), ((rd_T60 l0 x12_1).f1), ((rd_T60 l0 x12_1).f2)⟩ : S60)); (case aB => exact (hg2_ GE450.out GE455.out)); (case aF => exact (fun k_ hk => ⟨Kd.freshB (g := gb450) (o := .cells #[.int .i64 a1_0, .int .i64 a1_1, .int .i64 a1_2] 60 (0, 0)) (bk_ BK450.out) k_ hk, Kd.freshB (g := gb455) (o := .cells #[.int .i64 ((rd_T60 l0 x12_1).f0), .int .i64 ((rd_T60 l0 x12_1).f1), .int .i64 ((rd_T60 l0 x12_1).f2)] 60 (0, 0)) (bk_ BK455.out) k_ hk⟩)); (case aO => exact (kr_ HO_5.out)); (case aS => exact (below_size (hg2_ GE450.out GE455.out))); (case aL => have := LMc26.out; omega); intro v461 w30 ho hb hg hat; rw [← Ny460.out] at ho; have n0_ := Aside0.mk (blk_grown (g := gb450) (o := .cells #[.int .i64 a1_0, .int .i64 a1_1, .int .i64 a1_2] 60 (0, 0)) (bk_ BK450.out) hg (Kd.R_away HO_5.out (fun _ hk => hk.1))); have n1_ := Aside0.mk (blk_grown (g := gb455) (o := .cells #[.int .i64 ((rd_T60 l0 x12_1).f0), .int .i64 ((rd_T60 l0 x12_1).f1), .int .i64 ((rd_T60 l0 x12_1).f2)] 60 (0, 0)) (bk_ BK455.out) hg (Kd.R_away HO_5.out (fun _ hk => hk.2))); have n2_ := Aside0.mk (hb); have n3_ := Aside0.mk (ho); clear BK450; clear BK455; clear HB; clear HO_5; have BK450 := n0_; have BK455 := n1_; have HB := n2_; have HO462 := n3_; clear n0_ n1_ n2_ n3_; clear ho hb hg hat))
       go_roundg kj18
       case measure => have := HK1.out; have := HJ8.out; have := HJ18.out; omega
       case rel => exact ⟨(y460), (x6_18), (wrap64 (x12_1 + 1)), rs_, rs_, H', ⟨by have := HK1.out; have := HJ8.out; have := HJ18.out; omega⟩, ⟨by (with_reducible repeat (first | apply Kd.R_alloc | apply Kd.R_drewN | apply Kd.R_drew)); exact Kd.R_mono HO462.out (fun _ hk => hk.1)⟩, ⟨bk_ BK450.out⟩, ⟨by repeat (first | (with_reducible first | exact HB.out | apply ba_ | apply bn_ | apply bd_ | refine below_set ?_ GE450.out | refine below_set ?_ GE455.out) | exact HB.out)⟩⟩
def honeycombref04_Of.l0 : Nat → List (S60) → List (S60) → Int → Int → Option ((List (S60)))
 | 0, _, _, _, _ => none
 | k + 1, x3, x7, x8, x9 => if x9 < x8 then (if 0 ≤ x9 then (if x9 < (x7.length : Int) then ((honeycombref04_Put.f k x3 ((rd_T60 x7 x9).f0) ((rd_T60 x7 x9).f1) ((rd_T60 x7 x9).f2)).bind fun t471 => (honeycombref04_Of.l0 k t471 x7 x8 (wrap64 (x9 + 1)))) else (none)) else (none)) else (some x3)
def honeycombref04_Of.f (k : Nat) (l0 : List (S60)) : Option ((List (S60))) := honeycombref04_Of.l0 k (([] : List (S60))) l0 (l0.length : Int) 0
set_option maxHeartbeats 8000000 in
set_option maxRecDepth 100000 in
theorem honeycombref04_Of.calls (k : Nat) (A0 : Option Addr) (c0 : Nat) (l0 : List (S60)) (r : List (S60)) (w : World) (hr0 : Kd.C k60 w A0 l0.length l0) (hc0 : l0.length ≤ c0) (h : honeycombref04_Of.f k l0 = some r) :
  Calls Tryd.prog 65 #[.slice A0 l0.length c0] w fun e w' => ∃ v0_ : Value, e = .returned (v0_) ∧ Kd.R k60 60 w' w.heap.size (fun _ => True) v0_ r ∧ Below w.heap.size w w' := by
 have hu60 := Tryd.underlying60
 have HR0 := Aside0.mk hr0
 have HC0 := Aside0.mk hc0
 clear hr0 hc0
 have HB := Aside0.mk (Below.refl w.heap.size w)
 have H : (honeycombref04_Of.l0 k (([] : List (S60))) l0 (l0.length : Int) 0) = some r := h
 clear h
 obtain ⟨y466, hy466⟩ : ∃ y_ : List (S60), y_ = (([] : List (S60))) := ⟨_, rfl⟩
 replace H : (honeycombref04_Of.l0 k y466 l0 (l0.length : Int) 0) = some r := by first | (rw [hy466]; with_reducible exact H) | (have H2_ := (Option.bind_some _ _).symm.trans H; rw [hy466]; with_reducible exact H2_) | (have H2_ := (Option.bind_some _ _).symm.trans H; with_reducible exact H2_) | with_reducible exact H | (rw [hy466]; exact H) | exact H
 have Ny466 := Aside0.mk hy466
 clear hy466
 have H' := Aside0.mk H
 clear H
 go_enter Tryd.func65, Tryd.ntmps65
 go_wp2_with (first | ((with_reducible refine gate_dst (N := 6) rfl ?_); refine Kd.R_lit k60 _ 60 ?hg (N := 6) ?hd (xs := ([] : List (S60))) (inner := []) (ok := fun _ => True) (okp := fun _ => True) ?hr ?hp (fun _ hk => hk) trivial (Below.refl _ _) (Nat.le_refl _) (by simp) ?_; (case hd => rfl); (case hg => rfl); (case hr => first | (go_simp; done) | (go_simp; rfl)); (case hp => exact (Reps.none _ _)); intro v467 w2 ho3 hb hg_ hnew_; clear hg_ hnew_; (first | rw [← Ny466.out] at ho3 | (simp only [Int.reduceToNat] at ho3; rw [← Ny466.out] at ho3)); have n0_ := Aside0.mk (Kd.R_lower ho3 (below_size hb_)); have n1_ := Aside0.mk (below_step hb_ hb); clear HB; have HO468 := n0_; have HB := n1_; clear n0_ n1_; clear hb ho3))
 go_loopg [3, 9] k (fun kq v3 v9 w' => ∃ (x3_1 : List (S60)) (x9_1 : Int), v9 = .int .i64 x9_1 ∧ Aside0 (honeycombref04_Of.l0 kq x3_1 l0 (l0.length : Int) x9_1 = some r) ∧ Aside0 (kq ≤ k) ∧ Aside0 (Kd.R k60 60 w' w.heap.size (fun _ => True) v3 x3_1) ∧ Aside0 (Below w.heap.size w w'))
 case atStart => exact ⟨(y466), (0), rs_, H', ⟨Nat.le_refl _⟩, ⟨kr_ HO468.out⟩, ⟨by repeat (first | (with_reducible first | exact HB.out | apply ba_ | apply bn_ | apply bd_) | exact HB.out)⟩⟩
 case round =>
  clear H'
  try clear p2
  obtain ⟨x3_1, x9_1, rfl, HA, HK1, HO_3, HB⟩ := hrel
  cases gk with
  | zero => exact absurd HA.out (by simp [honeycombref04_Of.l0])
  | succ k1 =>
   have H := HA.out
   clear HA
   simp only [honeycombref04_Of.l0] at H
   by_cases c4 : x9_1 < (l0.length : Int)
   rotate_left
   ·
    rw [if_neg c4] at H
    have c4b0 : decide (x9_1 < (l0.length : Int)) = false := decide_eq_false c4
    clear c4
    obtain rfl := Option.some.inj H
    go_wp2
    go_ret
    exact ⟨_, by first | rfl | (simp [errW_none, errW_some] <;> rfl) | (simp [*, errW_none, errW_some] <;> rfl), kr_ HO_3.out, by repeat (first | (with_reducible first | exact HB.out | apply ba_ | apply bn_ | apply bd_) | exact HB.out)⟩
   rw [if_pos c4] at H
   have c4b0 : decide (x9_1 < (l0.length : Int)) = true := decide_eq_true c4
   clear c4
   by_cases c5 : 0 ≤ x9_1
   rotate_left
   ·
    rw [if_neg c5] at H
    exact absurd H (by simp)
   rw [if_pos c5] at H
   have c5b0 : decide (0 ≤ x9_1) = true := decide_eq_true c5
   clear c5
   by_cases c6 : x9_1 < (l0.length : Int)
   rotate_left
   ·
    rw [if_neg c6] at H
    exact absurd H (by simp)
   rw [if_pos c6] at H
   have c6b0 : decide (x9_1 < (l0.length : Int)) = true := decide_eq_true c6
   clear c6
   replace H := Option.bind_eq_some_iff.mp H
   obtain ⟨t471, A70, H⟩ := H
   replace H : (honeycombref04_Of.l0 k1 t471 l0 (l0.length : Int) (wrap64 (x9_1 + 1))) = some r := H
   have A7 := Aside0.mk A70
   clear A70
   have H' := Aside0.mk H
   clear H
   have p469 : 0 ≤ (x9_1 : Int) := of_decide_eq_true as_
   have q469 : x9_1 < (l0.length : Int) := of_decide_eq_true as_
   obtain ⟨ad469, e469, hx469_0, hx469_1, hx469_2⟩ := at_T60 HR0.out x9_1 p469 q469
   cases e469
   try replace hx469_0 := (HB.out.cell (World.block_lt_of_cell? w _ hx469_0)).trans hx469_0
   try replace hx469_1 := (HB.out.cell (World.block_lt_of_cell? w _ hx469_1)).trans hx469_1
   try replace hx469_2 := (HB.out.cell (World.block_lt_of_cell? w _ hx469_2)).trans hx469_2
   replace p469 := eq_true p469
   replace q469 := eq_true q469
   go_wp2_with (first | ((with_reducible refine gate_dst (N := 5) rfl ?_); refine box_event ?hg (N := 5) ?hd (cs := #[.int .i64 0, .int .i64 0, .int .i64 0]) (t := 60) ?hr ?_; (case hd => rfl); (case hg => rfl); (case hr => first | (go_simp; done) | (go_simp; rfl)); intro gb470 hg w8 hbox hb; have n0_ := Aside0.mk (Kd.R_below (Kd.R_elderB (kr_ HO_3.out) gb470 (Nat.le_of_eq hg.symm)) hb); have n1_ := Aside0.mk (below_step hb_ hb); have n2_ := Aside0.mk (hbox); have n3_ := Aside0.mk ((by rw [hg]; exact (below_size hb_) : w.heap.size ≤ gb470)); have n4_ := Aside0.mk ((by rw [hg]; exact (below_size hb_) : w.heap.size ≤ gb470)); clear HO_3; clear HB; have HO_3 := n0_; have HB := n1_; have BK470 := n2_; have GW470 := n3_; have GE470 := n4_; clear n0_ n1_ n2_ n3_ n4_; clear hb hbox hg; have hcz9_0 : w8.cell? ⟨gb470, 0, none⟩ = some (.int .i64 0) := (blk_cell BK470.out 0).trans rfl; have hcz9_1 : w8.cell? ⟨gb470, 1, none⟩ = some (.int .i64 0) := (blk_cell BK470.out 1).trans rfl; have hcz9_2 : w8.cell? ⟨gb470, 2, none⟩ = some (.int .i64 0) := (blk_cell BK470.out 2).trans rfl; have hfz9_0 := blk_frozen BK470.out 0; have hfz9_1 := blk_frozen BK470.out 1; have hfz9_2 := blk_frozen BK470.out 2; obtain ⟨Ao10, co10, eo10⟩ := Kd.R_slice HO_3.out; subst eo10) | ((with_reducible refine gate_callee (f := 95) rfl ?_); refine goesL_ (some 15) rfl rfl Tryd.func95 (by kernel_rfl) rfl #[.slice Ao10 x3_1.length co10, .agg #[.int .i64 ((rd_T60 l0 x9_1).f0), .int .i64 ((rd_T60 l0 x9_1).f1), .int .i64 ((rd_T60 l0 x9_1).f2)]] rfl ar_ ?_; (with_reducible refine (honeycombref04_Put.calls k1 _ _ x3_1 ((rd_T60 l0 x9_1).f0) ((rd_T60 l0 x9_1).f1) ((rd_T60 l0 x9_1).f2) t471 _ ?side1 ?side2 A7.out).mono ?_); (case side1 => refine (Kd.R_reads' (e := 60) (base := w.heap.size) (ok := fun k_ => (True ∧ k_ ≠ gb470)) (n := x3_1.length) (c := co10) ?_).2.2; exact (by (with_reducible repeat (first | apply Kd.R_alloc | apply Kd.R_drewN | apply Kd.R_drew)); exact (Kd.R_mono (Kd.R_far (p := ⟨gb470, 2, none⟩) (Kd.R_far (p := ⟨gb470, 1, none⟩) (Kd.R_far (p := ⟨gb470, 0, none⟩) (Kd.R_mono HO_3.out (fun k_ hk => (⟨hk, hk.2⟩ : _ ∧ k_ ≠ gb470))) (fun _ hk => hk.2) (.int .i64 ((rd_T60 l0 x9_1).f0))) (fun _ hk => hk.2) (.int .i64 ((rd_T60 l0 x9_1).f1))) (fun _ hk => hk.2) (.int .i64 ((rd_T60 l0 x9_1).f2))) (fun _ h_ => h_.1)))); (case side2 => exact (Kd.R_reads' HO_3.out).2.1); rintro e w11 ⟨v472, rfl, ho0, hb⟩; refine ⟨_, rfl, ?_⟩; have n0_ := Aside0.mk (Kd.R_elder' (by (with_reducible repeat (first | apply Kd.R_alloc | apply Kd.R_drewN | apply Kd.R_drew)); exact (Kd.R_mono (Kd.R_far (p := ⟨gb470, 2, none⟩) (Kd.R_far (p := ⟨gb470, 1, none⟩) (Kd.R_far (p := ⟨gb470, 0, none⟩) (Kd.R_mono HO_3.out (fun k_ hk => (⟨hk, hk.2⟩ : _ ∧ k_ ≠ gb470))) (fun _ hk => hk.2) (.int .i64 ((rd_T60 l0 x9_1).f0))) (fun _ hk => hk.2) (.int .i64 ((rd_T60 l0 x9_1).f1))) (fun _ hk => hk.2) (.int .i64 ((rd_T60 l0 x9_1).f2))) (fun _ h_ => h_.1))) (Kd.R_base ho0) hb); have n1_ := Aside0.mk (Kd.R_lower (Kd.R_newB (Kd.R_new' ho0 (Kd.R_lt (by (with_reducible repeat (first | apply Kd.R_alloc | apply Kd.R_drewN | apply Kd.R_drew)); exact (Kd.R_mono (Kd.R_far (p := ⟨gb470, 2, none⟩) (Kd.R_far (p := ⟨gb470, 1, none⟩) (Kd.R_far (p := ⟨gb470, 0, none⟩) (Kd.R_mono HO_3.out (fun k_ hk => (⟨hk, hk.2⟩ : _ ∧ k_ ≠ gb470))) (fun _ hk => hk.2) (.int .i64 ((rd_T60 l0 x9_1).f0))) (fun _ hk => hk.2) (.int .i64 ((rd_T60 l0 x9_1).f1))) (fun _ hk => hk.2) (.int .i64 ((rd_T60 l0 x9_1).f2))) (fun _ h_ => h_.1))))) (g := gb470) (o := .cells #[.int .i64 ((rd_T60 l0 x9_1).f0), .int .i64 ((rd_T60 l0 x9_1).f1), .int .i64 ((rd_T60 l0 x9_1).f2)] 60 (0, 0)) (by (with_reducible repeat (first | apply bN_ | apply bD_ | apply bA_)); refine blk_put (cs := #[.int .i64 ((rd_T60 l0 x9_1).f0), .int .i64 ((rd_T60 l0 x9_1).f1), .int .i64 0]) ?_ 2 _ rfl; (with_reducible repeat (first | apply bN_ | apply bD_ | apply bA_)); refine blk_put (cs := #[.int .i64 ((rd_T60 l0 x9_1).f0), .int .i64 0, .int .i64 0]) ?_ 1 _ rfl; (with_reducible repeat (first | apply bN_ | apply bD_ | apply bA_)); refine blk_put (cs := #[.int .i64 0, .int .i64 0, .int .i64 0]) ?_ 0 _ rfl; (with_reducible repeat (first | apply bN_ | apply bD_ | apply bA_)); exact BK470.out)) (below_size (hg_ GE470.out))); have n2_ := Aside0.mk (blk_below (g := gb470) (o := .cells #[.int .i64 ((rd_T60 l0 x9_1).f0), .int .i64 ((rd_T60 l0 x9_1).f1), .int .i64 ((rd_T60 l0 x9_1).f2)] 60 (0, 0)) (by (with_reducible repeat (first | apply bN_ | apply bD_ | apply bA_)); refine blk_put (cs := #[.int .i64 ((rd_T60 l0 x9_1).f0), .int .i64 ((rd_T60 l0 x9_1).f1), .int .i64 0]) ?_ 2 _ rfl; (with_reducible repeat (first | apply bN_ | apply bD_ | apply bA_)); refine blk_put (cs := #[.int .i64 ((rd_T60 l0 x9_1).f0), .int .i64 0, .int .i64 0]) ?_ 1 _ rfl; (with_reducible repeat (first | apply bN_ | apply bD_ | apply bA_)); refine blk_put (cs := #[.int .i64 0, .int .i64 0, .int .i64 0]) ?_ 0 _ rfl; (with_reducible repeat (first | apply bN_ | apply bD_ | apply bA_)); exact BK470.out) hb); have n3_ := Aside0.mk (below_step (hg_ GE470.out) hb); clear HO_3; clear BK470; clear HB; have HO_3 := n0_; have HO473 := n1_; have BK470 := n2_; have HB := n3_; clear n0_ n1_ n2_ n3_; (try clear hb); (try clear hb2); (try clear hk); (try clear hi); (try clear ho0)))
   go_roundg k1
   case measure => have := HK1.out; omega
   case rel => exact ⟨(t471), (wrap64 (x9_1 + 1)), rs_, H', ⟨by have := HK1.out; omega⟩, ⟨by (with_reducible repeat (first | apply Kd.R_alloc | apply Kd.R_drewN | apply Kd.R_drew)); exact Kd.R_mono HO473.out (fun _ hk => trivial)⟩, ⟨by repeat (first | (with_reducible first | exact HB.out | apply ba_ | apply bn_ | apply bd_ | refine below_set ?_ GE470.out) | exact HB.out)⟩⟩
end Go.Proofs.YtaeenefdbahfoaaDoor.H
namespace Go.Proofs.YtaeenefdbahfoaaDoor
open Go.RowKit Go.Proofs.YtaeenefdbahfoaaDoorW.PrintWords Go.Proofs.YtaeenefdbahfoaaDoorW.PrintLast Go.Proofs.YtaeenefdbahfoaaDoorW.PrintMore
open H
open Go.RowKit
set_option linter.unusedSimpArgs false
def told (x : CL) : RC := ⟨x.f0.f0, x.f0.f1, x.f1⟩
theorem rdT (l : List CL) (j : Nat) (hj : j < l.length) : rd_T60 (l.map told) j = told l[j] := by
  rw [rdR (l.map told) j (by simpa using hj), List.getElem_map]
theorem neq3 (x c : CL) : (!(x.f0.f0 == c.f0.f0) || (!(x.f0.f1 == c.f0.f1) || (!(x.f1 == c.f1)))) = !decide (x = c) := by
  rw [← Bool.or_assoc]
  exact neq_cell x c
theorem eq3 (x c : CL) : (x.f0.f0 == c.f0.f0 && (x.f0.f1 == c.f0.f1 && (x.f1 == c.f1))) = decide (x = c) := by
  have := congrArg not (neq3 x c)
  simpa using this
theorem ahead_lt (x c : CL) : aheadP x.f0.f0 x.f0.f1 x.f1 c.f0.f0 c.f0.f1 c.f1 ↔ ltC x c := by
  unfold aheadP ltC
  rw [cmp_lt]
def insC (c : CL) : List CL → List CL
  | [] => [c]
  | x :: r => if ltC x c then x :: insC c r else c :: (x :: r).filter (fun y => decide (y ≠ c))
theorem insC_mem (c : CL) : ∀ (l : List CL) (x : CL), x ∈ insC c l ↔ x = c ∨ x ∈ l
  | [], x => by simp [insC]
  | y :: r, x => by
    unfold insC
    split
    · rw [List.mem_cons, insC_mem c r, List.mem_cons]
      constructor
      · rintro (h | h | h)
        · exact .inr (.inl h)
        · exact .inl h
        · exact .inr (.inr h)
      · rintro (h | h | h)
        · exact .inr (.inl h)
        · exact .inl h
        · exact .inr (.inr h)
    · rw [List.mem_cons, List.mem_filter]
      constructor
      · rintro (h | h)
        · exact .inl h
        · exact .inr h.1
      · rintro (h | h)
        · exact .inl h
        · by_cases e : x = c
          · exact .inl e
          · exact .inr ⟨h, by simpa using e⟩
theorem insC_srt (c : CL) : ∀ {l : List CL}, Srt l → Srt (insC c l)
  | [], _ => by simp [insC, Srt]
  | y :: r, h => by
    have h' := h
    unfold Srt at h
    rw [List.pairwise_cons] at h
    unfold insC
    by_cases hy : ltC y c
    · rw [if_pos hy]
      unfold Srt
      rw [List.pairwise_cons]
      refine ⟨fun x hx => ?_, insC_srt c h.2⟩
      rcases (insC_mem c r x).1 hx with rfl | hx
      · exact hy
      · exact h.1 x hx
    · rw [if_neg hy]
      unfold Srt
      rw [List.pairwise_cons]
      refine ⟨fun x hx => ?_, List.Pairwise.sublist List.filter_sublist h'⟩
      rw [List.mem_filter] at hx
      obtain ⟨hx, hne⟩ := hx
      have hne : x ≠ c := by simpa using hne
      rcases ltC_tri y c with e | e | e
      · exact absurd e hy
      · subst e
        rcases List.mem_cons.1 hx with e | hx
        · exact absurd e hne
        · exact h.1 x hx
      · rcases List.mem_cons.1 hx with rfl | hx
        · exact e
        · exact ltC_trans e (h.1 x hx)
theorem putR_l0 (l : List CL) (c : CL) (hn : l.length ≤ 1000) : ∀ (d k : Nat) (j : Nat) (out : List RC) (done : Bool), j + d = l.length → 3 * d + 1 ≤ k → out.length ≤ 2 * j → honeycombref04_Put.l0 k out done (l.map told) ((l.map told).length : Int) j c.f0.f0 c.f0.f1 c.f1 = some (out ++ (if done = true then ((l.drop j).filter (fun y => decide (y ≠ c))).map told else (insC c (l.drop j)).map told)) := by
  intro d
  induction d with
  | zero =>
    intro k j out done hj hk ho
    obtain ⟨k, rfl⟩ : ∃ m, k = m + 1 := ⟨k - 1, by omega⟩
    simp only [honeycombref04_Put.l0]
    rw [if_neg (by rw [List.length_map]; omega), List.drop_eq_nil_of_le (by omega)]
    cases done
    · rw [if_neg (by decide), if_pos (by omega), if_neg (by decide)]
      rfl
    · rw [if_pos rfl, if_pos rfl]
      simp
  | succ d ih =>
    intro k j out done hj hk ho
    obtain ⟨k, rfl⟩ : ∃ m, k = m + 1 := ⟨k - 1, by omega⟩
    obtain ⟨k1, rfl⟩ : ∃ m, k = m + 1 := ⟨k - 1, by omega⟩
    obtain ⟨k2, rfl⟩ : ∃ m, k1 = m + 1 := ⟨k1 - 1, by omega⟩
    have h1 : j < l.length := by omega
    have hw : wrap64 ((j : Int) + 1) = ((j + 1 : Nat) : Int) := by rw [w64i ((j : Int) + 1) (by omega) (by omega)]; rfl
    rw [List.drop_eq_getElem_cons h1]
    have tail : ∀ (o : List RC) (dn : Bool), o.length ≤ 2 * j + 1 → honeycombref04_Put.j2 (k2 + 1) o dn (l.map told) ((l.map told).length : Int) j c.f0.f0 c.f0.f1 c.f1 (told l[j]).f0 (told l[j]).f1 (told l[j]).f2 = some (o ++ (if l[j] = c then [] else [told l[j]]) ++ (if dn = true then ((l.drop (j + 1)).filter (fun y => decide (y ≠ c))).map told else (insC c (l.drop (j + 1))).map told)) := by
      intro o dn hlo
      simp only [honeycombref04_Put.j2]
      change (if (!(l[j].f0.f0 == c.f0.f0) || (!(l[j].f0.f1 == c.f0.f1) || (!(l[j].f1 == c.f1)))) = true then _ else _) = _
      rw [neq3]
      by_cases he : l[j] = c
      · rw [decide_eq_true he, if_neg (by decide), hw, ih k2 (j + 1) o dn (by omega) (by omega) (by omega), if_pos he, List.append_nil]
      · rw [decide_eq_false he, if_pos (by decide), if_pos (by omega), hw, ih k2 (j + 1) _ dn (by omega) (by omega) (by rw [List.length_append]; simp; omega), if_neg he]
    have j1f : ∀ dn, honeycombref04_Put.j1 (k2 + 1 + 1) out dn (l.map told) ((l.map told).length : Int) j false c.f0.f0 c.f0.f1 c.f1 (told l[j]).f0 (told l[j]).f1 (told l[j]).f2 = honeycombref04_Put.j2 (k2 + 1) out dn (l.map told) ((l.map told).length : Int) j c.f0.f0 c.f0.f1 c.f1 (told l[j]).f0 (told l[j]).f1 (told l[j]).f2 := by
      intro dn
      generalize k2 + 1 = kk
      simp only [honeycombref04_Put.j1]
      rw [if_neg (by decide)]
    have j1t : ∀ dn, honeycombref04_Put.j1 (k2 + 1 + 1) out dn (l.map told) ((l.map told).length : Int) j true c.f0.f0 c.f0.f1 c.f1 (told l[j]).f0 (told l[j]).f1 (told l[j]).f2 = honeycombref04_Put.j2 (k2 + 1) (out ++ [told c]) true (l.map told) ((l.map told).length : Int) j c.f0.f0 c.f0.f1 c.f1 (told l[j]).f0 (told l[j]).f1 (told l[j]).f2 := by
      intro dn
      generalize k2 + 1 = kk
      simp only [honeycombref04_Put.j1]
      rw [if_pos trivial, if_pos (by omega)]
      rfl
    obtain ⟨kk, hkk⟩ : ∃ kk, kk = k2 + 1 + 1 := ⟨_, rfl⟩
    rw [← hkk] at j1f j1t ⊢
    simp only [honeycombref04_Put.l0]
    rw [if_pos (by rw [List.length_map]; omega), if_pos (by omega), if_pos (by rw [List.length_map]; omega), rdT l j h1]
    cases done
    · rw [if_neg (by decide), if_neg (by decide)]
      change ((honeycombref03_Ahead.f l[j].f0.f0 l[j].f0.f1 l[j].f1 c.f0.f0 c.f0.f1 c.f1).bind _) = _
      rw [ahead_f, Option.bind_some]
      by_cases hl : ltC l[j] c
      · rw [decide_eq_true ((ahead_lt _ _).2 hl)]
        change honeycombref04_Put.j1 kk out false (l.map told) _ j false _ _ _ _ _ _ = _
        have hne : ¬ l[j] = c := fun e => ltC_irrefl c (by have := hl; rwa [e] at this)
        rw [j1f, tail out false (by omega), if_neg hne, if_neg (by decide)]
        simp only [insC]
        rw [if_pos hl, List.map_cons]
        simp
      · rw [decide_eq_false (fun h => hl ((ahead_lt _ _).1 h))]
        change honeycombref04_Put.j1 kk out false (l.map told) _ j true _ _ _ _ _ _ = _
        rw [j1t, tail _ true (by rw [List.length_append]; simp; omega), if_pos rfl]
        simp only [insC]
        rw [if_neg hl, List.map_cons, List.filter_cons]
        by_cases he : l[j] = c
        · simp [he]
        · simp [he]
    · rw [if_pos rfl, j1f, tail out true (by omega), if_pos rfl, if_pos rfl, List.filter_cons]
      by_cases he : l[j] = c
      · simp [he]
      · simp [he]
theorem putR_f (k : Nat) {l : List CL} (c : CL) (hn : l.length ≤ 1000) (hk : 3 * l.length + 1 ≤ k) : honeycombref04_Put.f k (l.map told) c.f0.f0 c.f0.f1 c.f1 = some ((insC c l).map told) := by
  unfold honeycombref04_Put.f
  have := putR_l0 l c hn l.length k 0 [] false (by omega) hk (by simp)
  rw [if_neg (by decide), List.drop_zero, List.nil_append] at this
  exact this
theorem hasR_l0 (l : List CL) (c : CL) (hn : l.length ≤ 1000) : ∀ (d k : Nat) (j : Nat), j + d = l.length → d < k → honeycombref04_Has.l0 k (l.map told) ((l.map told).length : Int) j c.f0.f0 c.f0.f1 c.f1 = some (decide (c ∈ l.drop j)) := by
  intro d
  induction d with
  | zero =>
    intro k j hj hk
    obtain ⟨k, rfl⟩ : ∃ m, k = m + 1 := ⟨k - 1, by omega⟩
    simp only [honeycombref04_Has.l0]
    rw [if_neg (by rw [List.length_map]; omega), List.drop_eq_nil_of_le (by omega)]
    simp
  | succ d ih =>
    intro k j hj hk
    obtain ⟨k, rfl⟩ : ∃ m, k = m + 1 := ⟨k - 1, by omega⟩
    have h1 : j < l.length := by omega
    have hw : wrap64 ((j : Int) + 1) = ((j + 1 : Nat) : Int) := by rw [w64i ((j : Int) + 1) (by omega) (by omega)]; rfl
    simp only [honeycombref04_Has.l0]
    rw [if_pos (by rw [List.length_map]; omega), if_pos (by omega), if_pos (by rw [List.length_map]; omega), rdT l j h1, List.drop_eq_getElem_cons h1, hw]
    change (if (l[j].f0.f0 == c.f0.f0 && (l[j].f0.f1 == c.f0.f1 && (l[j].f1 == c.f1))) = true then _ else _) = _
    rw [eq3]
    by_cases he : l[j] = c
    · rw [decide_eq_true he, if_pos rfl]
      simp [he]
    · rw [decide_eq_false he, if_neg (by decide), ih k (j + 1) (by omega) (by omega)]
      congr 1
      exact decide_eq_decide.2 ⟨fun h => List.mem_cons_of_mem _ h, fun h => (List.mem_cons.1 h).resolve_left (Ne.symm he)⟩
theorem hasR_f (k : Nat) (l : List CL) (c : CL) (hn : l.length ≤ 1000) (hk : l.length < k) : honeycombref04_Has.f k (l.map told) c.f0.f0 c.f0.f1 c.f1 = some (decide (c ∈ l)) := by
  unfold honeycombref04_Has.f
  have := hasR_l0 l c hn l.length k 0 (by omega) hk
  rw [List.drop_zero] at this
  exact this
theorem ofR_l0 (l : List CL) (hn : l.length ≤ 1000) : ∀ (d k : Nat) (j : Nat) (s : List CL), j + d = l.length → d + 4000 < k → s = ofL (l.take j) → honeycombref04_Of.l0 k (s.map told) (l.map told) ((l.map told).length : Int) j = some ((ofL l).map told) := by
  intro d
  induction d with
  | zero =>
    intro k j s hj hk hs
    obtain ⟨k, rfl⟩ : ∃ m, k = m + 1 := ⟨k - 1, by omega⟩
    simp only [honeycombref04_Of.l0]
    rw [if_neg (by rw [List.length_map]; omega), hs, List.take_of_length_le (by omega)]
  | succ d ih =>
    intro k j s hj hk hs
    obtain ⟨k, rfl⟩ : ∃ m, k = m + 1 := ⟨k - 1, by omega⟩
    have h1 : j < l.length := by omega
    have hw : wrap64 ((j : Int) + 1) = ((j + 1 : Nat) : Int) := by rw [w64i ((j : Int) + 1) (by omega) (by omega)]; rfl
    have hsl : s.length ≤ 1000 := by
      rw [hs]
      refine Nat.le_trans (ofL_le _) ?_
      rw [List.length_take]; omega
    have hss : Srt s := by rw [hs]; exact ofL_srt _
    have he : insC l[j] s = ofL (l.take (j + 1)) := by
      refine srt_ext (insC_srt l[j] hss) (ofL_srt _) (fun x => ?_)
      rw [insC_mem, ofL_mem, List.take_add_one, List.getElem?_eq_getElem h1, List.mem_append, hs, ofL_mem]
      simp only [Option.toList_some, List.mem_singleton]
      exact Or.comm
    simp only [honeycombref04_Of.l0]
    rw [if_pos (by rw [List.length_map]; omega), if_pos (by omega), if_pos (by rw [List.length_map]; omega), rdT l j h1, hw]
    change ((honeycombref04_Put.f k (s.map told) l[j].f0.f0 l[j].f0.f1 l[j].f1).bind _) = _
    rw [putR_f k l[j] (by omega) (by omega), Option.bind_some]
    exact ih k (j + 1) _ (by omega) (by omega) he
theorem ofR_f (k : Nat) (l : List CL) (hn : l.length ≤ 1000) (hk : l.length + 4000 < k) : honeycombref04_Of.f k (l.map told) = some ((ofL l).map told) := by
  unfold honeycombref04_Of.f
  have := ofR_l0 l hn l.length k 0 [] (by omega) hk (by rw [List.take_zero, show ofL [] = [] from ofL_of_srt List.Pairwise.nil])
  simpa using this
theorem told4_l0 (l : List CL) (hn : l.length ≤ 1000) : ∀ (d k : Nat) (j : Nat) (out : List RC), j + d = l.length → d < k → out.length ≤ j → honeycomblaw04_Told.l0 k out l (l.length : Int) j = some (out ++ (l.drop j).map told) := by
  intro d
  induction d with
  | zero =>
    intro k j out hj hk ho
    obtain ⟨k, rfl⟩ : ∃ m, k = m + 1 := ⟨k - 1, by omega⟩
    simp only [honeycomblaw04_Told.l0]
    rw [if_neg (by omega), List.drop_eq_nil_of_le (by omega)]
    simp
  | succ d ih =>
    intro k j out hj hk ho
    obtain ⟨k, rfl⟩ : ∃ m, k = m + 1 := ⟨k - 1, by omega⟩
    have h1 : j < l.length := by omega
    have hw : wrap64 ((j : Int) + 1) = ((j + 1 : Nat) : Int) := by rw [w64i ((j : Int) + 1) (by omega) (by omega)]; rfl
    simp only [honeycomblaw04_Told.l0]
    rw [if_pos (by omega), if_pos (by omega), if_pos (by omega), rdC l j h1, hw, List.drop_eq_getElem_cons h1]
    simp only [honeycomblaw03_Told.f, Option.bind_some]
    rw [if_pos (by omega), ih k (j + 1) _ (by omega) (by omega) (by rw [List.length_append]; simp; omega), List.map_cons, List.append_assoc]
    rfl
theorem told4_f (k : Nat) (l : List CL) (hn : l.length ≤ 1000) (hk : l.length < k) : honeycomblaw04_Told.f k l = some (l.map told) := by
  unfold honeycomblaw04_Told.f
  have := told4_l0 l hn l.length k 0 [] (by omega) hk (by simp)
  simpa using this
end Go.Proofs.YtaeenefdbahfoaaDoor
