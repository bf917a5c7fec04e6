/- Parts of the proof (IsoKeeps), merged out of our texts by wip/tools/pack.py: Hhoneycombref07Keeps, PRingW. -/
import Derived.Test.YtaeenefdbahfoaaDoorKIsoKeeps1
import Derived.Test.YtaeenefdbahfoaaDoorKIsoKeeps7
import Derived.Test.YtaeenefdbahfoaaDoorKIsoKeeps5
import Derived.Test.YtaeenefdbahfoaaDoorKIsoKeeps6
namespace Go.Proofs.YtaeenefdbahfoaaDoor.H
open Go.RowKit Go.Proofs.YtaeenefdbahfoaaDoorW.PrintWords Go.Proofs.YtaeenefdbahfoaaDoorW.PrintLast Go.Proofs.YtaeenefdbahfoaaDoorW.PrintMore
attribute [local go_sem] max2_int min2_int max_two min_two max_three min_three max_four min_four
set_option linter.unusedVariables false
set_option linter.unusedSimpArgs false
def honeycombref07_Keeps.l0 : Nat → Int → Int → Int → List Int → List Int → Option (Bool)
 | 0, _, _, _, _, _ => none
 | k + 1, x1, x6, x778000, x778001, x778002 => if x6 < 64 then ((honeycombref05_Next.f k x778000 x778001 x778002 0 false x6).bind fun t790 => ((honeycombref07_turned.f k x1 x6).bind fun t791 => ((honeycombref05_Next.f k x778000 x778001 x778002 0 false t791).bind fun t792 => (if (t790 != t792) = true then (some false) else ((honeycombref05_Next.f k x778000 x778001 x778002 0 true x6).bind fun t793 => ((honeycombref07_turned.f k x1 x6).bind fun t794 => ((honeycombref05_Next.f k x778000 x778001 x778002 0 true t794).bind fun t795 => (if (t793 != t795) = true then (some false) else (honeycombref07_Keeps.l0 k x1 (wrap64 (x6 + 1)) x778000 x778001 x778002))))))))) else (some true)
def honeycombref07_Keeps.f (k : Nat) (a0_0 : Int) (l0_1 : List Int) (l0_2 : List Int) (a1 : Int) : Option (Bool) := if a0_0 > 1 then (if (Int.tmod a1 2) = 1 then (if a1 < 6 then (if 0 < (l0_1.length : Int) then (if 1 < (l0_1.length : Int) then (if (rd l0_1 0) = (rd l0_1 1) then (if 0 < (l0_2.length : Int) then (if 1 < (l0_2.length : Int) then (some ((rd l0_2 0) == (rd l0_2 1))) else (none)) else (none)) else (some false)) else (none)) else (none)) else (if a1 > 5 then (if ((Int.tmod (wrap64 (a1 - 6)) 2) = 1) then (if 0 < (l0_1.length : Int) then (if 1 < (l0_1.length : Int) then (if (rd l0_1 0) = (rd l0_1 1) then (if 0 < (l0_2.length : Int) then (if 1 < (l0_2.length : Int) then (some ((rd l0_2 0) == (rd l0_2 1))) else (none)) else (none)) else (some false)) else (none)) else (none)) else (some true)) else (some true))) else (if a1 > 5 then (if ((Int.tmod (wrap64 (a1 - 6)) 2) = 1) then (if 0 < (l0_1.length : Int) then (if 1 < (l0_1.length : Int) then (if (rd l0_1 0) = (rd l0_1 1) then (if 0 < (l0_2.length : Int) then (if 1 < (l0_2.length : Int) then (some ((rd l0_2 0) == (rd l0_2 1))) else (none)) else (none)) else (some false)) else (none)) else (none)) else (some true)) else (some true))) else (honeycombref07_Keeps.l0 k a1 0 a0_0 l0_1 l0_2)
def honeycombref07_Keeps.T3 : Bool × List (List Nat × List Nat) := (true, [([], []), ([0], [0]), ([1], [1]), ([2], [2]), ([3, 2], [2, 3]), ([4, 2], [2, 4]), ([5, 2], [2, 5]), ([2], [2]), ([7, 2], [2, 7]), ([8, 2], [2, 8]), ([9, 2], [2, 9]), ([6, 10, 2], [2, 6, 10]), ([11, 2, 2], [2, 11]), ([12], [12]), ([13, 12], [12, 13]), ([14, 12], [12, 14]), ([15, 12], [12, 15]), ([12], [12]), ([17, 12], [12, 17]), ([18, 12], [12, 18]), ([19, 12], [12, 19]), ([16, 20, 12], [12, 16, 20]), ([12, 21, 2], [2, 12, 21]), ([2, 22], [2, 22]), ([23, 12, 0, 1, 2, 3, 4, 5, 6, 7, 8, 9, 10, 11, 12, 13, 14, 15, 16, 17, 18, 19, 20, 21, 22, 23], [23])])
def honeycombref07_Keeps.B3 : List Nat := [0, 1, 3, 7, 15, 31, 63, 7, 135, 391, 903, 2047, 4095, 8191, 16383, 32767, 65535, 8191, 139263, 401407, 925695, 2097151, 4194303, 8388607, 16777215]
theorem honeycombref07_Keeps.tab3 : rtab .any (opsOf Tryd.f42 3) = honeycombref07_Keeps.T3 := by kernel_rfl
theorem honeycombref07_Keeps.bits3 : waitsOk honeycombref07_Keeps.T3.2 honeycombref07_Keeps.B3 = true := by kernel_rfl
def honeycombref07_Keeps.T7 : Bool × List (List Nat × List Nat) := (true, [([], []), ([], []), ([0, 1], [0, 1]), ([], []), ([], []), ([], []), ([4, 5, 2], [4, 5]), ([3, 6, 6], [3, 6]), ([2, 7], [2, 7]), ([8, 7], [8]), ([9], [9]), ([9], [9]), ([10, 11, 9, 9], [9, 10, 11]), ([9], [9]), ([9], [9]), ([9], [9]), ([14, 15, 12, 9], [9, 14, 15]), ([13, 16, 16, 9], [9, 13, 16]), ([12, 17, 9], [9, 12, 17]), ([9, 18], [9, 18])])
def honeycombref07_Keeps.B7 : List Nat := [0, 0, 3, 0, 0, 0, 55, 127, 255, 511, 1023, 1023, 4095, 1023, 1023, 1023, 57343, 131071, 262143, 524287]
theorem honeycombref07_Keeps.tab7 : rtab .any (opsOf Tryd.f42 7) = honeycombref07_Keeps.T7 := by kernel_rfl
theorem honeycombref07_Keeps.bits7 : waitsOk honeycombref07_Keeps.T7.2 honeycombref07_Keeps.B7 = true := by kernel_rfl
set_option maxHeartbeats 8000000 in
set_option maxRecDepth 100000 in
theorem honeycombref07_Keeps.calls (k : Nat) (a0_0 : Int) (A0_1 : Option Addr) (c0_1 : Nat) (l0_1 : List Int) (A0_2 : Option Addr) (c0_2 : Nat) (l0_2 : List Int) (a1 : Int) (r : Bool) (w : World) (hr0_1 : Kd.C (Kd.int .u64) w A0_1 l0_1.length l0_1) (hc0_1 : l0_1.length ≤ c0_1) (hr0_2 : Kd.C (Kd.int .u64) w A0_2 l0_2.length l0_2) (hc0_2 : l0_2.length ≤ c0_2) (h : honeycombref07_Keeps.f k a0_0 l0_1 l0_2 a1 = some r) :
  Calls Tryd.prog 42 #[.agg #[.int .i64 a0_0, .slice A0_1 l0_1.length c0_1, .slice A0_2 l0_2.length c0_2], .int .i64 a1] w fun e w' => e = .returned (.bool r) ∧ Below w.heap.size w w' := by
 have hu55 := Tryd.underlying55
 have HR0_1 := Aside0.mk hr0_1
 have HC0_1 := Aside0.mk hc0_1
 clear hr0_1 hc0_1
 have HR0_2 := Aside0.mk hr0_2
 have HC0_2 := Aside0.mk hc0_2
 clear hr0_2 hc0_2
 have HB := Aside0.mk (Below.refl w.heap.size w)
 have H : (if a0_0 > 1 then (if (Int.tmod a1 2) = 1 then (if a1 < 6 then (if 0 < (l0_1.length : Int) then (if 1 < (l0_1.length : Int) then (if (rd l0_1 0) = (rd l0_1 1) then (if 0 < (l0_2.length : Int) then (if 1 < (l0_2.length : Int) then (some ((rd l0_2 0) == (rd l0_2 1))) else (none)) else (none)) else (some false)) else (none)) else (none)) else (if a1 > 5 then (if ((Int.tmod (wrap64 (a1 - 6)) 2) = 1) then (if 0 < (l0_1.length : Int) then (if 1 < (l0_1.length : Int) then (if (rd l0_1 0) = (rd l0_1 1) then (if 0 < (l0_2.length : Int) then (if 1 < (l0_2.length : Int) then (some ((rd l0_2 0) == (rd l0_2 1))) else (none)) else (none)) else (some false)) else (none)) else (none)) else (some true)) else (some true))) else (if a1 > 5 then (if ((Int.tmod (wrap64 (a1 - 6)) 2) = 1) then (if 0 < (l0_1.length : Int) then (if 1 < (l0_1.length : Int) then (if (rd l0_1 0) = (rd l0_1 1) then (if 0 < (l0_2.length : Int) then (if 1 < (l0_2.length : Int) then (some ((rd l0_2 0) == (rd l0_2 1))) else (none)) else (none)) else (some false)) else (none)) else (none)) else (some true)) else (some true))) else (honeycombref07_Keeps.l0 k a1 0 a0_0 l0_1 l0_2)) = some r := h
 clear h
 by_cases c3 : a0_0 > 1
 rotate_left
 ·
  rw [if_neg c3] at H
  have c3b0 : decide (1 < a0_0) = false := decide_eq_false c3
  clear c3
  have H' := Aside0.mk H
  clear H
  go_enter Tryd.func42, Tryd.ntmps42
  go_wp2_with (first | ((with_reducible refine gate_dst (N := 2) rfl ?_); refine bx_ 2 #[.int .i64 a0_0, .slice A0_1 l0_1.length c0_1, .slice A0_2 l0_2.length c0_2] 55 ?_; intro gb777 hg w55 hbox hb; have BK777 := Aside0.mk (hbox); have GW777 := Aside0.mk ((by rw [hg]; exact (below_size hb_) : w.heap.size ≤ gb777)); have GE777 := GW777; replace HB := Aside0.mk (below_step hb_ hb); clear hb hbox hg; obtain ⟨hcz56_0, hcz56_1, hcz56_2⟩ := cz3_ BK777.out; obtain ⟨hfz56_0, hfz56_1, hfz56_2⟩ := fz3_ BK777.out))
  go_loopg [6] k (fun kq v6 w' => ∃ (x6_1 : Int), v6 = .int .i64 x6_1 ∧ Aside0 (honeycombref07_Keeps.l0 kq a1 x6_1 a0_0 l0_1 l0_2 = some r) ∧ Aside0 (kq ≤ k) ∧ Aside0 (w'.heap[gb777]? = some (.cells #[.int .i64 a0_0, (.slice A0_1 l0_1.length c0_1), (.slice A0_2 l0_2.length c0_2)] 55 (0, 0))) ∧ Aside0 (Below w.heap.size w w'))
  case atStart => exact ⟨(0), rs_, H', ⟨Nat.le_refl _⟩, ⟨bk_ BK777.out⟩, ⟨by repeat (first | (with_reducible first | exact HB.out | apply ba_ | apply bn_ | apply bd_ | refine below_set ?_ GE777.out) | exact HB.out)⟩⟩
  case round =>
   clear H'
   try clear p2
   try clear c3
   try clear c3b0
   try clear c4
   try clear p6
   try clear p7
   try clear q7
   try clear hx7
   try clear qi7
   try clear c36
   try clear c36b0
   try clear c37
   try clear c37b0
   try clear c37b1
   try clear c38
   try clear c39
   try clear c40
   try clear c40b0
   try clear c40b1
   try clear c41
   try clear c42
   try clear hcz47_0
   try clear hcz47_1
   try clear hcz47_2
   try clear hcz50_0
   try clear hcz50_1
   try clear hcz50_2
   try clear hcz53_0
   try clear hcz53_1
   try clear hcz53_2
   try clear hcz56_0
   try clear hcz56_1
   try clear hcz56_2
   try clear hfz47_0
   try clear hfz47_1
   try clear hfz47_2
   try clear hfz50_0
   try clear hfz50_1
   try clear hfz50_2
   try clear hfz53_0
   try clear hfz53_1
   try clear hfz53_2
   try clear hfz56_0
   try clear hfz56_1
   try clear hfz56_2
   try clear hx786_0
   try clear hx787_0
   try clear p786
   try clear p787
   try clear q786
   try clear q787
   obtain ⟨x6_1, rfl, HA, HK1, BK777, HB⟩ := hrel
   cases gk with
   | zero => exact absurd HA.out (by simp [honeycombref07_Keeps.l0])
   | succ k1 =>
    have H := HA.out
    clear HA
    simp only [honeycombref07_Keeps.l0] at H
    by_cases c57 : x6_1 < 64
    rotate_left
    ·
     rw [if_neg c57] at H
     have c57b0 : decide (x6_1 < 64) = false := decide_eq_false c57
     clear c57
     obtain rfl := Option.some.inj H
     go_wp2
     go_ret
     exact ⟨er_, hg_ GE777.out⟩
    rw [if_pos c57] at H
    have c57b0 : decide (x6_1 < 64) = true := decide_eq_true c57
    clear c57
    replace H := Option.bind_eq_some_iff.mp H
    obtain ⟨t790, A580, H⟩ := H
    replace H : ((honeycombref07_turned.f k1 a1 x6_1).bind fun t791 => ((honeycombref05_Next.f k1 a0_0 l0_1 l0_2 0 false t791).bind fun t792 => (if (t790 != t792) = true then (some false) else ((honeycombref05_Next.f k1 a0_0 l0_1 l0_2 0 true x6_1).bind fun t793 => ((honeycombref07_turned.f k1 a1 x6_1).bind fun t794 => ((honeycombref05_Next.f k1 a0_0 l0_1 l0_2 0 true t794).bind fun t795 => (if (t793 != t795) = true then (some false) else (honeycombref07_Keeps.l0 k1 a1 (wrap64 (x6_1 + 1)) a0_0 l0_1 l0_2)))))))) = some r := H
    have A58 := Aside0.mk A580
    clear A580
    replace H := Option.bind_eq_some_iff.mp H
    obtain ⟨t791, A590, H⟩ := H
    replace H : ((honeycombref05_Next.f k1 a0_0 l0_1 l0_2 0 false t791).bind fun t792 => (if (t790 != t792) = true then (some false) else ((honeycombref05_Next.f k1 a0_0 l0_1 l0_2 0 true x6_1).bind fun t793 => ((honeycombref07_turned.f k1 a1 x6_1).bind fun t794 => ((honeycombref05_Next.f k1 a0_0 l0_1 l0_2 0 true t794).bind fun t795 => (if (t793 != t795) = true then (some false) else (honeycombref07_Keeps.l0 k1 a1 (wrap64 (x6_1 + 1)) a0_0 l0_1 l0_2))))))) = some r := H
    have A59 := Aside0.mk A590
    clear A590
    replace H := Option.bind_eq_some_iff.mp H
    obtain ⟨t792, A600, H⟩ := H
    replace H : (if (t790 != t792) = true then (some false) else ((honeycombref05_Next.f k1 a0_0 l0_1 l0_2 0 true x6_1).bind fun t793 => ((honeycombref07_turned.f k1 a1 x6_1).bind fun t794 => ((honeycombref05_Next.f k1 a0_0 l0_1 l0_2 0 true t794).bind fun t795 => (if (t793 != t795) = true then (some false) else (honeycombref07_Keeps.l0 k1 a1 (wrap64 (x6_1 + 1)) a0_0 l0_1 l0_2)))))) = some r := H
    have A60 := Aside0.mk A600
    clear A600
    by_cases c61 : (t790 != t792) = true
    ·
     rw [if_pos c61] at H
     have c61b0 : (t790 != t792) = true := c61
     (try (have c61b1 : decide (t790 = t792) = false := by simpa using c61))
     (try (have c61b2 : (t790 == t792) = false := by simpa using c61))
     (try (have c61b3 : ¬ (t790 = t792) := by simpa using c61))
     clear c61
     obtain rfl := Option.some.inj H
     try go_wp2
     replace BK777 := Aside0.mk (blk_drew BK777.out)
     replace HB := Aside0.mk (below_drew1 HB.out)
     refine start_ (n := 20) (S := fun w' => w'.cell? ⟨gb777, 0, none⟩ = some (.int .i64 a0_0) ∧ w'.cell? ⟨gb777, 1, none⟩ = some (.slice A0_1 l0_1.length c0_1) ∧ w'.cell? ⟨gb777, 2, none⟩ = some (.slice A0_2 l0_2.length c0_2)) (ds := []) (m_ 20 0) (by kernel_rfl) rfl rfl ⟨(blk_cell BK777.out 0).trans rfl, (blk_cell BK777.out 1).trans rfl, (blk_cell BK777.out 2).trans rfl⟩ (fun hHeld => ?_); refine with_tabW honeycombref07_Keeps.tab7 honeycombref07_Keeps.bits7 (fun HT_ HW_ => ?_)
     generalize wr.drew = w62 at BK777 HB hHeld ⊢
     refine pq_ 1 (some 56) (m_ 20 2) (h := ?_)
     refine pq_ 4 (some 59) (m_ 20 18) (h := ?_)
     refine pq_ 5 (some 60) (m_ 20 50) (h := ?_)
     refine tq3_ 0 (some 55) (m_ 20 51) (h := ?_)
     refine tq3_ 3 (some 58) (m_ 20 59) (h := ?_)
     refine one_ (i := 2) (N := some 57) (m_ 20 63) rfl rfl (one_of HT_.out (by kernel_rfl)) (by decide) (fun K hK => ?_)
     refine goes_ Tryd.func35 (by kernel_rfl) rfl #[.agg #[.int .i64 a0_0, .slice A0_1 l0_1.length c0_1, .slice A0_2 l0_2.length c0_2], .int .i64 0, .bool false, .int .i64 x6_1] (by rfl) rfl rfl ar_ ?_
     with_reducible refine (honeycombref05_Next.calls k1 a0_0 _ _ l0_1 _ _ l0_2 0 false x6_1 t790 _ ?side1 ?side2 ?side3 ?side4 A58.out).mono ?_
     (case side1 => repeat (first | exact (Kd.C_below HR0_1.out HB.out) | (with_reducible refine Kd.C_alloc ?_ _) | (with_reducible refine Kd.C_drewN ?_ _) | (with_reducible refine Kd.C_drew ?_)))
     (case side2 => exact HC0_1.out)
     (case side3 => repeat (first | exact (Kd.C_below HR0_2.out HB.out) | (with_reducible refine Kd.C_alloc ?_ _) | (with_reducible refine Kd.C_drewN ?_ _) | (with_reducible refine Kd.C_drew ?_)))
     (case side4 => exact HC0_2.out)
     rintro e w63 ⟨rfl, hb⟩
     refine ⟨_, rfl, ?_⟩
     replace BK777 := bb_ BK777.out hb
     replace HB := Aside0.mk (below_step (hg_ GE777.out) hb)
     (try clear hb)
     (try clear hb2)
     (try clear hk)
     (try clear hi)
     refine hK.out _ _ ⟨(blk_cell BK777.out 0).trans rfl, (blk_cell BK777.out 1).trans rfl, (blk_cell BK777.out 2).trans rfl⟩ (fun hHeld => ?_)
     clear hK K
     refine norm_ (a' := ?_) ?_ ?_
     rotate_left
     ·
      show Act.put _ (some 57) _ = _
      simp only [puts_]
      rfl
     refine one_ (i := 6) (N := some 61) (m_ 20 127) rfl rfl (one_of HT_.out (by kernel_rfl)) (by decide) (fun K hK => ?_)
     refine goes_ Tryd.func52 (by kernel_rfl) rfl #[.int .i64 a1, .int .i64 x6_1] (by rfl) rfl rfl ar_ ?_
     with_reducible refine (honeycombref07_turned.calls k1 a1 x6_1 t791 _ A59.out).mono ?_
     rintro e w64 ⟨rfl, hb⟩
     refine ⟨_, rfl, ?_⟩
     replace BK777 := bb_ BK777.out hb
     replace HB := Aside0.mk (below_step (hg_ GE777.out) hb)
     (try clear hb)
     (try clear hb2)
     (try clear hk)
     (try clear hi)
     refine hK.out _ _ ⟨(blk_cell BK777.out 0).trans rfl, (blk_cell BK777.out 1).trans rfl, (blk_cell BK777.out 2).trans rfl⟩ (fun hHeld => ?_)
     clear hK K
     refine norm_ (a' := ?_) ?_ ?_
     rotate_left
     ·
      show Act.put _ (some 61) _ = _
      simp only [puts_]
      rfl
     refine one_ (i := 7) (N := some 62) (m_ 20 255) rfl rfl (one_of HT_.out (by kernel_rfl)) (by decide) (fun K hK => ?_)
     refine goes_ Tryd.func35 (by kernel_rfl) rfl #[.agg #[.int .i64 a0_0, .slice A0_1 l0_1.length c0_1, .slice A0_2 l0_2.length c0_2], .int .i64 0, .bool false, .int .i64 t791] (by rfl) rfl rfl ar_ ?_
     with_reducible refine (honeycombref05_Next.calls k1 a0_0 _ _ l0_1 _ _ l0_2 0 false t791 t792 _ ?side1 ?side2 ?side3 ?side4 A60.out).mono ?_
     (case side1 => repeat (first | exact (Kd.C_below HR0_1.out HB.out) | (with_reducible refine Kd.C_alloc ?_ _) | (with_reducible refine Kd.C_drewN ?_ _) | (with_reducible refine Kd.C_drew ?_)))
     (case side2 => exact HC0_1.out)
     (case side3 => repeat (first | exact (Kd.C_below HR0_2.out HB.out) | (with_reducible refine Kd.C_alloc ?_ _) | (with_reducible refine Kd.C_drewN ?_ _) | (with_reducible refine Kd.C_drew ?_)))
     (case side4 => exact HC0_2.out)
     rintro e w65 ⟨rfl, hb⟩
     refine ⟨_, rfl, ?_⟩
     replace BK777 := bb_ BK777.out hb
     replace HB := Aside0.mk (below_step (hg_ GE777.out) hb)
     (try clear hb)
     (try clear hb2)
     (try clear hk)
     (try clear hi)
     refine hK.out _ _ ⟨(blk_cell BK777.out 0).trans rfl, (blk_cell BK777.out 1).trans rfl, (blk_cell BK777.out 2).trans rfl⟩ (fun hHeld => ?_)
     clear hK K
     refine norm_ (a' := ?_) ?_ ?_
     rotate_left
     ·
      show Act.put _ (some 62) _ = _
      simp only [puts_]
      rfl
     refine pq_ 8 (some 63) (m_ 20 511) (h := ?_)
     refine pq_ 9 (some 64) (m_ 20 1023) (h := ?_)
     refine pu_ 10 (some 65) (m_ 20 2047) (h := ?_)
     refine pu_ 11 (some 66) (m_ 20 4095) (h := ?_)
     refine pu_ 12 (some 67) (m_ 20 8191) (h := ?_)
     refine pu_ 13 (some 68) (m_ 20 16383) (h := ?_)
     refine pu_ 14 (some 69) (m_ 20 32767) (h := ?_)
     refine pu_ 15 (some 70) (m_ 20 65535) (h := ?_)
     refine pu_ 16 (some 71) (m_ 20 131071) (h := ?_)
     refine pu_ 17 (some 72) (m_ 20 262143) (h := ?_)
     refine pu_ 18 (some 73) (m_ 20 524287) (h := ?_)
     refine pq_ 19 (some 74) (m_ 20 1048575) (h := ?_)
     refine done_ (done_of HT_.out (by kernel_rfl)) ?_
     try go_wp2
     go_ret
     exact ⟨er_, hg_ GE777.out⟩
    rw [if_neg c61] at H
    have c61b0 : (t790 != t792) = false := by simpa using c61
    (try (have c61b1 : decide (t790 = t792) = true := by simpa using c61))
    (try (have c61b2 : (t790 == t792) = true := by simpa using c61))
    clear c61
    replace H := Option.bind_eq_some_iff.mp H
    obtain ⟨t793, A660, H⟩ := H
    replace H : ((honeycombref07_turned.f k1 a1 x6_1).bind fun t794 => ((honeycombref05_Next.f k1 a0_0 l0_1 l0_2 0 true t794).bind fun t795 => (if (t793 != t795) = true then (some false) else (honeycombref07_Keeps.l0 k1 a1 (wrap64 (x6_1 + 1)) a0_0 l0_1 l0_2)))) = some r := H
    have A66 := Aside0.mk A660
    clear A660
    replace H := Option.bind_eq_some_iff.mp H
    obtain ⟨t794, A670, H⟩ := H
    replace H : ((honeycombref05_Next.f k1 a0_0 l0_1 l0_2 0 true t794).bind fun t795 => (if (t793 != t795) = true then (some false) else (honeycombref07_Keeps.l0 k1 a1 (wrap64 (x6_1 + 1)) a0_0 l0_1 l0_2))) = some r := H
    have A67 := Aside0.mk A670
    clear A670
    replace H := Option.bind_eq_some_iff.mp H
    obtain ⟨t795, A680, H⟩ := H
    replace H : (if (t793 != t795) = true then (some false) else (honeycombref07_Keeps.l0 k1 a1 (wrap64 (x6_1 + 1)) a0_0 l0_1 l0_2)) = some r := H
    have A68 := Aside0.mk A680
    clear A680
    by_cases c69 : (t793 != t795) = true
    ·
     rw [if_pos c69] at H
     have c69b0 : (t793 != t795) = true := c69
     (try (have c69b1 : decide (t793 = t795) = false := by simpa using c69))
     (try (have c69b2 : (t793 == t795) = false := by simpa using c69))
     (try (have c69b3 : ¬ (t793 = t795) := by simpa using c69))
     clear c69
     obtain rfl := Option.some.inj H
     try go_wp2
     replace BK777 := Aside0.mk (blk_drew BK777.out)
     replace HB := Aside0.mk (below_drew1 HB.out)
     refine start_ (n := 20) (S := fun w' => w'.cell? ⟨gb777, 0, none⟩ = some (.int .i64 a0_0) ∧ w'.cell? ⟨gb777, 1, none⟩ = some (.slice A0_1 l0_1.length c0_1) ∧ w'.cell? ⟨gb777, 2, none⟩ = some (.slice A0_2 l0_2.length c0_2)) (ds := []) (m_ 20 0) (by kernel_rfl) rfl rfl ⟨(blk_cell BK777.out 0).trans rfl, (blk_cell BK777.out 1).trans rfl, (blk_cell BK777.out 2).trans rfl⟩ (fun hHeld => ?_); refine with_tabW honeycombref07_Keeps.tab7 honeycombref07_Keeps.bits7 (fun HT_ HW_ => ?_)
     generalize wr.drew = w70 at BK777 HB hHeld ⊢
     refine pq_ 1 (some 56) (m_ 20 2) (h := ?_)
     refine pq_ 4 (some 59) (m_ 20 18) (h := ?_)
     refine pq_ 5 (some 60) (m_ 20 50) (h := ?_)
     refine tq3_ 0 (some 55) (m_ 20 51) (h := ?_)
     refine tq3_ 3 (some 58) (m_ 20 59) (h := ?_)
     refine one_ (i := 2) (N := some 57) (m_ 20 63) rfl rfl (one_of HT_.out (by kernel_rfl)) (by decide) (fun K hK => ?_)
     refine goes_ Tryd.func35 (by kernel_rfl) rfl #[.agg #[.int .i64 a0_0, .slice A0_1 l0_1.length c0_1, .slice A0_2 l0_2.length c0_2], .int .i64 0, .bool false, .int .i64 x6_1] (by rfl) rfl rfl ar_ ?_
     with_reducible refine (honeycombref05_Next.calls k1 a0_0 _ _ l0_1 _ _ l0_2 0 false x6_1 t790 _ ?side1 ?side2 ?side3 ?side4 A58.out).mono ?_
     (case side1 => repeat (first | exact (Kd.C_below HR0_1.out HB.out) | (with_reducible refine Kd.C_alloc ?_ _) | (with_reducible refine Kd.C_drewN ?_ _) | (with_reducible refine Kd.C_drew ?_)))
     (case side2 => exact HC0_1.out)
     (case side3 => repeat (first | exact (Kd.C_below HR0_2.out HB.out) | (with_reducible refine Kd.C_alloc ?_ _) | (with_reducible refine Kd.C_drewN ?_ _) | (with_reducible refine Kd.C_drew ?_)))
     (case side4 => exact HC0_2.out)
     rintro e w71 ⟨rfl, hb⟩
     refine ⟨_, rfl, ?_⟩
     replace BK777 := bb_ BK777.out hb
     replace HB := Aside0.mk (below_step (hg_ GE777.out) hb)
     (try clear hb)
     (try clear hb2)
     (try clear hk)
     (try clear hi)
     refine hK.out _ _ ⟨(blk_cell BK777.out 0).trans rfl, (blk_cell BK777.out 1).trans rfl, (blk_cell BK777.out 2).trans rfl⟩ (fun hHeld => ?_)
     clear hK K
     refine norm_ (a' := ?_) ?_ ?_
     rotate_left
     ·
      show Act.put _ (some 57) _ = _
      simp only [puts_]
      rfl
     refine one_ (i := 6) (N := some 61) (m_ 20 127) rfl rfl (one_of HT_.out (by kernel_rfl)) (by decide) (fun K hK => ?_)
     refine goes_ Tryd.func52 (by kernel_rfl) rfl #[.int .i64 a1, .int .i64 x6_1] (by rfl) rfl rfl ar_ ?_
     with_reducible refine (honeycombref07_turned.calls k1 a1 x6_1 t791 _ A59.out).mono ?_
     rintro e w72 ⟨rfl, hb⟩
     refine ⟨_, rfl, ?_⟩
     replace BK777 := bb_ BK777.out hb
     replace HB := Aside0.mk (below_step (hg_ GE777.out) hb)
     (try clear hb)
     (try clear hb2)
     (try clear hk)
     (try clear hi)
     refine hK.out _ _ ⟨(blk_cell BK777.out 0).trans rfl, (blk_cell BK777.out 1).trans rfl, (blk_cell BK777.out 2).trans rfl⟩ (fun hHeld => ?_)
     clear hK K
     refine norm_ (a' := ?_) ?_ ?_
     rotate_left
     ·
      show Act.put _ (some 61) _ = _
      simp only [puts_]
      rfl
     refine one_ (i := 7) (N := some 62) (m_ 20 255) rfl rfl (one_of HT_.out (by kernel_rfl)) (by decide) (fun K hK => ?_)
     refine goes_ Tryd.func35 (by kernel_rfl) rfl #[.agg #[.int .i64 a0_0, .slice A0_1 l0_1.length c0_1, .slice A0_2 l0_2.length c0_2], .int .i64 0, .bool false, .int .i64 t791] (by rfl) rfl rfl ar_ ?_
     with_reducible refine (honeycombref05_Next.calls k1 a0_0 _ _ l0_1 _ _ l0_2 0 false t791 t792 _ ?side1 ?side2 ?side3 ?side4 A60.out).mono ?_
     (case side1 => repeat (first | exact (Kd.C_below HR0_1.out HB.out) | (with_reducible refine Kd.C_alloc ?_ _) | (with_reducible refine Kd.C_drewN ?_ _) | (with_reducible refine Kd.C_drew ?_)))
     (case side2 => exact HC0_1.out)
     (case side3 => repeat (first | exact (Kd.C_below HR0_2.out HB.out) | (with_reducible refine Kd.C_alloc ?_ _) | (with_reducible refine Kd.C_drewN ?_ _) | (with_reducible refine Kd.C_drew ?_)))
     (case side4 => exact HC0_2.out)
     rintro e w73 ⟨rfl, hb⟩
     refine ⟨_, rfl, ?_⟩
     replace BK777 := bb_ BK777.out hb
     replace HB := Aside0.mk (below_step (hg_ GE777.out) hb)
     (try clear hb)
     (try clear hb2)
     (try clear hk)
     (try clear hi)
     refine hK.out _ _ ⟨(blk_cell BK777.out 0).trans rfl, (blk_cell BK777.out 1).trans rfl, (blk_cell BK777.out 2).trans rfl⟩ (fun hHeld => ?_)
     clear hK K
     refine norm_ (a' := ?_) ?_ ?_
     rotate_left
     ·
      show Act.put _ (some 62) _ = _
      simp only [puts_]
      rfl
     refine pq_ 8 (some 63) (m_ 20 511) (h := ?_)
     refine pq_ 9 (some 64) (m_ 20 1023) (h := ?_)
     refine pq_ 11 (some 66) (m_ 20 3071) (h := ?_)
     refine pq_ 14 (some 69) (m_ 20 19455) (h := ?_)
     refine pq_ 15 (some 70) (m_ 20 52223) (h := ?_)
     refine tq3_ 10 (some 65) (m_ 20 53247) (h := ?_)
     refine tq3_ 13 (some 68) (m_ 20 61439) (h := ?_)
     refine one_ (i := 12) (N := some 67) (m_ 20 65535) rfl rfl (one_of HT_.out (by kernel_rfl)) (by decide) (fun K hK => ?_)
     refine goes_ Tryd.func35 (by kernel_rfl) rfl #[.agg #[.int .i64 a0_0, .slice A0_1 l0_1.length c0_1, .slice A0_2 l0_2.length c0_2], .int .i64 0, .bool true, .int .i64 x6_1] (by rfl) rfl rfl ar_ ?_
     with_reducible refine (honeycombref05_Next.calls k1 a0_0 _ _ l0_1 _ _ l0_2 0 true x6_1 t793 _ ?side1 ?side2 ?side3 ?side4 A66.out).mono ?_
     (case side1 => repeat (first | exact (Kd.C_below HR0_1.out HB.out) | (with_reducible refine Kd.C_alloc ?_ _) | (with_reducible refine Kd.C_drewN ?_ _) | (with_reducible refine Kd.C_drew ?_)))
     (case side2 => exact HC0_1.out)
     (case side3 => repeat (first | exact (Kd.C_below HR0_2.out HB.out) | (with_reducible refine Kd.C_alloc ?_ _) | (with_reducible refine Kd.C_drewN ?_ _) | (with_reducible refine Kd.C_drew ?_)))
     (case side4 => exact HC0_2.out)
     rintro e w74 ⟨rfl, hb⟩
     refine ⟨_, rfl, ?_⟩
     replace BK777 := bb_ BK777.out hb
     replace HB := Aside0.mk (below_step (hg_ GE777.out) hb)
     (try clear hb)
     (try clear hb2)
     (try clear hk)
     (try clear hi)
     refine hK.out _ _ ⟨(blk_cell BK777.out 0).trans rfl, (blk_cell BK777.out 1).trans rfl, (blk_cell BK777.out 2).trans rfl⟩ (fun hHeld => ?_)
     clear hK K
     refine norm_ (a' := ?_) ?_ ?_
     rotate_left
     ·
      show Act.put _ (some 67) _ = _
      simp only [puts_]
      rfl
     refine one_ (i := 16) (N := some 71) (m_ 20 131071) rfl rfl (one_of HT_.out (by kernel_rfl)) (by decide) (fun K hK => ?_)
     refine goes_ Tryd.func52 (by kernel_rfl) rfl #[.int .i64 a1, .int .i64 x6_1] (by rfl) rfl rfl ar_ ?_
     with_reducible refine (honeycombref07_turned.calls k1 a1 x6_1 t794 _ A67.out).mono ?_
     rintro e w75 ⟨rfl, hb⟩
     refine ⟨_, rfl, ?_⟩
     replace BK777 := bb_ BK777.out hb
     replace HB := Aside0.mk (below_step (hg_ GE777.out) hb)
     (try clear hb)
     (try clear hb2)
     (try clear hk)
     (try clear hi)
     refine hK.out _ _ ⟨(blk_cell BK777.out 0).trans rfl, (blk_cell BK777.out 1).trans rfl, (blk_cell BK777.out 2).trans rfl⟩ (fun hHeld => ?_)
     clear hK K
     refine norm_ (a' := ?_) ?_ ?_
     rotate_left
     ·
      show Act.put _ (some 71) _ = _
      simp only [puts_]
      rfl
     refine one_ (i := 17) (N := some 72) (m_ 20 262143) rfl rfl (one_of HT_.out (by kernel_rfl)) (by decide) (fun K hK => ?_)
     refine goes_ Tryd.func35 (by kernel_rfl) rfl #[.agg #[.int .i64 a0_0, .slice A0_1 l0_1.length c0_1, .slice A0_2 l0_2.length c0_2], .int .i64 0, .bool true, .int .i64 t794] (by rfl) rfl rfl ar_ ?_
     with_reducible refine (honeycombref05_Next.calls k1 a0_0 _ _ l0_1 _ _ l0_2 0 true t794 t795 _ ?side1 ?side2 ?side3 ?side4 A68.out).mono ?_
     (case side1 => repeat (first | exact (Kd.C_below HR0_1.out HB.out) | (with_reducible refine Kd.C_alloc ?_ _) | (with_reducible refine Kd.C_drewN ?_ _) | (with_reducible refine Kd.C_drew ?_)))
     (case side2 => exact HC0_1.out)
     (case side3 => repeat (first | exact (Kd.C_below HR0_2.out HB.out) | (with_reducible refine Kd.C_alloc ?_ _) | (with_reducible refine Kd.C_drewN ?_ _) | (with_reducible refine Kd.C_drew ?_)))
     (case side4 => exact HC0_2.out)
     rintro e w76 ⟨rfl, hb⟩
     refine ⟨_, rfl, ?_⟩
     replace BK777 := bb_ BK777.out hb
     replace HB := Aside0.mk (below_step (hg_ GE777.out) hb)
     (try clear hb)
     (try clear hb2)
     (try clear hk)
     (try clear hi)
     refine hK.out _ _ ⟨(blk_cell BK777.out 0).trans rfl, (blk_cell BK777.out 1).trans rfl, (blk_cell BK777.out 2).trans rfl⟩ (fun hHeld => ?_)
     clear hK K
     refine norm_ (a' := ?_) ?_ ?_
     rotate_left
     ·
      show Act.put _ (some 72) _ = _
      simp only [puts_]
      rfl
     refine pq_ 18 (some 73) (m_ 20 524287) (h := ?_)
     refine pq_ 19 (some 74) (m_ 20 1048575) (h := ?_)
     refine done_ (done_of HT_.out (by kernel_rfl)) ?_
     try go_wp2
     go_ret
     exact ⟨er_, hg_ GE777.out⟩
    rw [if_neg c69] at H
    have c69b0 : (t793 != t795) = false := by simpa using c69
    (try (have c69b1 : decide (t793 = t795) = true := by simpa using c69))
    (try (have c69b2 : (t793 == t795) = true := by simpa using c69))
    clear c69
    have H' := Aside0.mk H
    clear H
    try go_wp2
    replace BK777 := Aside0.mk (blk_drew BK777.out)
    replace HB := Aside0.mk (below_drew1 HB.out)
    refine start_ (n := 20) (S := fun w' => w'.cell? ⟨gb777, 0, none⟩ = some (.int .i64 a0_0) ∧ w'.cell? ⟨gb777, 1, none⟩ = some (.slice A0_1 l0_1.length c0_1) ∧ w'.cell? ⟨gb777, 2, none⟩ = some (.slice A0_2 l0_2.length c0_2)) (ds := []) (m_ 20 0) (by kernel_rfl) rfl rfl ⟨(blk_cell BK777.out 0).trans rfl, (blk_cell BK777.out 1).trans rfl, (blk_cell BK777.out 2).trans rfl⟩ (fun hHeld => ?_); refine with_tabW honeycombref07_Keeps.tab7 honeycombref07_Keeps.bits7 (fun HT_ HW_ => ?_)
    generalize wr.drew = w77 at BK777 HB hHeld ⊢
    refine pq_ 1 (some 56) (m_ 20 2) (h := ?_)
    refine pq_ 4 (some 59) (m_ 20 18) (h := ?_)
    refine pq_ 5 (some 60) (m_ 20 50) (h := ?_)
    refine tq3_ 0 (some 55) (m_ 20 51) (h := ?_)
    refine tq3_ 3 (some 58) (m_ 20 59) (h := ?_)
    refine one_ (i := 2) (N := some 57) (m_ 20 63) rfl rfl (one_of HT_.out (by kernel_rfl)) (by decide) (fun K hK => ?_)
    refine goes_ Tryd.func35 (by kernel_rfl) rfl #[.agg #[.int .i64 a0_0, .slice A0_1 l0_1.length c0_1, .slice A0_2 l0_2.length c0_2], .int .i64 0, .bool false, .int .i64 x6_1] (by rfl) rfl rfl ar_ ?_
    with_reducible refine (honeycombref05_Next.calls k1 a0_0 _ _ l0_1 _ _ l0_2 0 false x6_1 t790 _ ?side1 ?side2 ?side3 ?side4 A58.out).mono ?_
    (case side1 => repeat (first | exact (Kd.C_below HR0_1.out HB.out) | (with_reducible refine Kd.C_alloc ?_ _) | (with_reducible refine Kd.C_drewN ?_ _) | (with_reducible refine Kd.C_drew ?_)))
    (case side2 => exact HC0_1.out)
    (case side3 => repeat (first | exact (Kd.C_below HR0_2.out HB.out) | (with_reducible refine Kd.C_alloc ?_ _) | (with_reducible refine Kd.C_drewN ?_ _) | (with_reducible refine Kd.C_drew ?_)))
    (case side4 => exact HC0_2.out)
    rintro e w78 ⟨rfl, hb⟩
    refine ⟨_, rfl, ?_⟩
    replace BK777 := bb_ BK777.out hb
    replace HB := Aside0.mk (below_step (hg_ GE777.out) hb)
    (try clear hb)
    (try clear hb2)
    (try clear hk)
    (try clear hi)
    refine hK.out _ _ ⟨(blk_cell BK777.out 0).trans rfl, (blk_cell BK777.out 1).trans rfl, (blk_cell BK777.out 2).trans rfl⟩ (fun hHeld => ?_)
    clear hK K
    refine norm_ (a' := ?_) ?_ ?_
    rotate_left
    ·
     show Act.put _ (some 57) _ = _
     simp only [puts_]
     rfl
    refine one_ (i := 6) (N := some 61) (m_ 20 127) rfl rfl (one_of HT_.out (by kernel_rfl)) (by decide) (fun K hK => ?_)
    refine goes_ Tryd.func52 (by kernel_rfl) rfl #[.int .i64 a1, .int .i64 x6_1] (by rfl) rfl rfl ar_ ?_
    with_reducible refine (honeycombref07_turned.calls k1 a1 x6_1 t791 _ A59.out).mono ?_
    rintro e w79 ⟨rfl, hb⟩
    refine ⟨_, rfl, ?_⟩
    replace BK777 := bb_ BK777.out hb
    replace HB := Aside0.mk (below_step (hg_ GE777.out) hb)
    (try clear hb)
    (try clear hb2)
    (try clear hk)
    (try clear hi)
    refine hK.out _ _ ⟨(blk_cell BK777.out 0).trans rfl, (blk_cell BK777.out 1).trans rfl, (blk_cell BK777.out 2).trans rfl⟩ (fun hHeld => ?_)
    clear hK K
    refine norm_ (a' := ?_) ?_ ?_
    rotate_left
    ·
     show Act.put _ (some 61) _ = _
     simp only [puts_]
     rfl
    refine one_ (i := 7) (N := some 62) (m_ 20 255) rfl rfl (one_of HT_.out (by kernel_rfl)) (by decide) (fun K hK => ?_)
    refine goes_ Tryd.func35 (by kernel_rfl) rfl #[.agg #[.int .i64 a0_0, .slice A0_1 l0_1.length c0_1, .slice A0_2 l0_2.length c0_2], .int .i64 0, .bool false, .int .i64 t791] (by rfl) rfl rfl ar_ ?_
    with_reducible refine (honeycombref05_Next.calls k1 a0_0 _ _ l0_1 _ _ l0_2 0 false t791 t792 _ ?side1 ?side2 ?side3 ?side4 A60.out).mono ?_
    (case side1 => repeat (first | exact (Kd.C_below HR0_1.out HB.out) | (with_reducible refine Kd.C_alloc ?_ _) | (with_reducible refine Kd.C_drewN ?_ _) | (with_reducible refine Kd.C_drew ?_)))
    (case side2 => exact HC0_1.out)
    (case side3 => repeat (first | exact (Kd.C_below HR0_2.out HB.out) | (with_reducible refine Kd.C_alloc ?_ _) | (with_reducible refine Kd.C_drewN ?_ _) | (with_reducible refine Kd.C_drew ?_)))
    (case side4 => exact HC0_2.out)
    rintro e w80 ⟨rfl, hb⟩
    refine ⟨_, rfl, ?_⟩
    replace BK777 := bb_ BK777.out hb
    replace HB := Aside0.mk (below_step (hg_ GE777.out) hb)
    (try clear hb)
    (try clear hb2)
    (try clear hk)
    (try clear hi)
    refine hK.out _ _ ⟨(blk_cell BK777.out 0).trans rfl, (blk_cell BK777.out 1).trans rfl, (blk_cell BK777.out 2).trans rfl⟩ (fun hHeld => ?_)
    clear hK K
    refine norm_ (a' := ?_) ?_ ?_
    rotate_left
    ·
     show Act.put _ (some 62) _ = _
     simp only [puts_]
     rfl
    refine pq_ 8 (some 63) (m_ 20 511) (h := ?_)
    refine pq_ 9 (some 64) (m_ 20 1023) (h := ?_)
    refine pq_ 11 (some 66) (m_ 20 3071) (h := ?_)
    refine pq_ 14 (some 69) (m_ 20 19455) (h := ?_)
    refine pq_ 15 (some 70) (m_ 20 52223) (h := ?_)
    refine tq3_ 10 (some 65) (m_ 20 53247) (h := ?_)
    refine tq3_ 13 (some 68) (m_ 20 61439) (h := ?_)
    refine one_ (i := 12) (N := some 67) (m_ 20 65535) rfl rfl (one_of HT_.out (by kernel_rfl)) (by decide) (fun K hK => ?_)
    refine goes_ Tryd.func35 (by kernel_rfl) rfl #[.agg #[.int .i64 a0_0, .slice A0_1 l0_1.length c0_1, .slice A0_2 l0_2.length c0_2], .int .i64 0, .bool true, .int .i64 x6_1] (by rfl) rfl rfl ar_ ?_
    with_reducible refine (honeycombref05_Next.calls k1 a0_0 _ _ l0_1 _ _ l0_2 0 true x6_1 t793 _ ?side1 ?side2 ?side3 ?side4 A66.out).mono ?_
    (case side1 => repeat (first | exact (Kd.C_below HR0_1.out HB.out) | (with_reducible refine Kd.C_alloc ?_ _) | (with_reducible refine Kd.C_drewN ?_ _) | (with_reducible refine Kd.C_drew ?_)))
    (case side2 => exact HC0_1.out)
    (case side3 => repeat (first | exact (Kd.C_below HR0_2.out HB.out) | (with_reducible refine Kd.C_alloc ?_ _) | (with_reducible refine Kd.C_drewN ?_ _) | (with_reducible refine Kd.C_drew ?_)))
    (case side4 => exact HC0_2.out)
    rintro e w81 ⟨rfl, hb⟩
    refine ⟨_, rfl, ?_⟩
    replace BK777 := bb_ BK777.out hb
    replace HB := Aside0.mk (below_step (hg_ GE777.out) hb)
    (try clear hb)
    (try clear hb2)
    (try clear hk)
    (try clear hi)
    refine hK.out _ _ ⟨(blk_cell BK777.out 0).trans rfl, (blk_cell BK777.out 1).trans rfl, (blk_cell BK777.out 2).trans rfl⟩ (fun hHeld => ?_)
    clear hK K
    refine norm_ (a' := ?_) ?_ ?_
    rotate_left
    ·
     show Act.put _ (some 67) _ = _
     simp only [puts_]
     rfl
    refine one_ (i := 16) (N := some 71) (m_ 20 131071) rfl rfl (one_of HT_.out (by kernel_rfl)) (by decide) (fun K hK => ?_)
    refine goes_ Tryd.func52 (by kernel_rfl) rfl #[.int .i64 a1, .int .i64 x6_1] (by rfl) rfl rfl ar_ ?_
    with_reducible refine (honeycombref07_turned.calls k1 a1 x6_1 t794 _ A67.out).mono ?_
    rintro e w82 ⟨rfl, hb⟩
    refine ⟨_, rfl, ?_⟩
    replace BK777 := bb_ BK777.out hb
    replace HB := Aside0.mk (below_step (hg_ GE777.out) hb)
    (try clear hb)
    (try clear hb2)
    (try clear hk)
    (try clear hi)
    refine hK.out _ _ ⟨(blk_cell BK777.out 0).trans rfl, (blk_cell BK777.out 1).trans rfl, (blk_cell BK777.out 2).trans rfl⟩ (fun hHeld => ?_)
    clear hK K
    refine norm_ (a' := ?_) ?_ ?_
    rotate_left
    ·
     show Act.put _ (some 71) _ = _
     simp only [puts_]
     rfl
    refine one_ (i := 17) (N := some 72) (m_ 20 262143) rfl rfl (one_of HT_.out (by kernel_rfl)) (by decide) (fun K hK => ?_)
    refine goes_ Tryd.func35 (by kernel_rfl) rfl #[.agg #[.int .i64 a0_0, .slice A0_1 l0_1.length c0_1, .slice A0_2 l0_2.length c0_2], .int .i64 0, .bool true, .int .i64 t794] (by rfl) rfl rfl ar_ ?_
    with_reducible refine (honeycombref05_Next.calls k1 a0_0 _ _ l0_1 _ _ l0_2 0 true t794 t795 _ ?side1 ?side2 ?side3 ?side4 A68.out).mono ?_
    (case side1 => repeat (first | exact (Kd.C_below HR0_1.out HB.out) | (with_reducible refine Kd.C_alloc ?_ _) | (with_reducible refine Kd.C_drewN ?_ _) | (with_reducible refine Kd.C_drew ?_)))
    (case side2 => exact HC0_1.out)
    (case side3 => repeat (first | exact (Kd.C_below HR0_2.out HB.out) | (with_reducible refine Kd.C_alloc ?_ _) | (with_reducible refine Kd.C_drewN ?_ _) | (with_reducible refine Kd.C_drew ?_)))
    (case side4 => exact HC0_2.out)
    rintro e w83 ⟨rfl, hb⟩
    refine ⟨_, rfl, ?_⟩
    replace BK777 := bb_ BK777.out hb
    replace HB := Aside0.mk (below_step (hg_ GE777.out) hb)
    (try clear hb)
    (try clear hb2)
    (try clear hk)
    (try clear hi)
    refine hK.out _ _ ⟨(blk_cell BK777.out 0).trans rfl, (blk_cell BK777.out 1).trans rfl, (blk_cell BK777.out 2).trans rfl⟩ (fun hHeld => ?_)
    clear hK K
    refine norm_ (a' := ?_) ?_ ?_
    rotate_left
    ·
     show Act.put _ (some 72) _ = _
     simp only [puts_]
     rfl
    refine pq_ 18 (some 73) (m_ 20 524287) (h := ?_)
    refine pq_ 19 (some 74) (m_ 20 1048575) (h := ?_)
    refine done_ (done_of HT_.out (by kernel_rfl)) ?_
    try go_wp2
    go_roundg k1
    case measure => have := HK1.out; omega
    case rel => exact ⟨(wrap64 (x6_1 + 1)), rs_, H', ⟨by have := HK1.out; omega⟩, ⟨bk_ BK777.out⟩, ⟨by repeat (first | (with_reducible first | exact HB.out | apply ba_ | apply bn_ | apply bd_ | refine below_set ?_ GE777.out) | exact HB.out)⟩⟩
 rw [if_pos c3] at H
 have c3b0 : decide (1 < a0_0) = true := decide_eq_true c3
 clear c3
 by_cases c4 : (Int.tmod a1 2) = 1
 rotate_left
 ·
  rw [if_neg c4] at H
  have c4b0 : ((Int.tmod a1 2) == 1) = false := beq_eq_false_iff_ne.mpr c4
  have c4b1 : ((Int.tmod a1 2) != 1) = true := bne_iff_ne.mpr c4
  by_cases c36 : a1 > 5
  rotate_left
  ·
   rw [if_neg c36] at H
   have c36b0 : decide (5 < a1) = false := decide_eq_false c36
   clear c36
   obtain rfl := Option.some.inj H
   go_enter Tryd.func42, Tryd.ntmps42
   try go_wp2_with (first | ((with_reducible refine gate_dst (N := 2) rfl ?_); refine bx_ 2 #[.int .i64 a0_0, .slice A0_1 l0_1.length c0_1, .slice A0_2 l0_2.length c0_2] 55 ?_; intro gb777 hg w52 hbox hb; have BK777 := Aside0.mk (hbox); have GW777 := Aside0.mk ((by rw [hg]; exact (below_size hb_) : w.heap.size ≤ gb777)); have GE777 := GW777; replace HB := Aside0.mk (below_step hb_ hb); clear hb hbox hg; obtain ⟨hcz53_0, hcz53_1, hcz53_2⟩ := cz3_ BK777.out; obtain ⟨hfz53_0, hfz53_1, hfz53_2⟩ := fz3_ BK777.out))
   replace BK777 := Aside0.mk (blk_drew BK777.out)
   replace HB := Aside0.mk (below_drew1 HB.out)
   refine start_ (n := 25) (S := fun w' => True) (ds := []) (m_ 25 0) (by kernel_rfl) rfl rfl trivial (fun hHeld => ?_); refine with_tabW honeycombref07_Keeps.tab3 honeycombref07_Keeps.bits3 (fun HT_ HW_ => ?_)
   generalize w52.drew = w54 at BK777 HB hHeld ⊢
   refine pq_ 0 (some 27) (m_ 25 1) (h := ?_)
   refine pq_ 1 (some 28) (m_ 25 3) (h := ?_)
   refine pq_ 2 (some 29) (m_ 25 7) (h := ?_)
   refine pu_ 3 (some 30) (m_ 25 15) (h := ?_)
   refine pu_ 4 (some 31) (m_ 25 31) (h := ?_)
   refine pu_ 5 (some 32) (m_ 25 63) (h := ?_)
   refine pu_ 6 (some 33) (m_ 25 127) (h := ?_)
   refine pu_ 7 (some 34) (m_ 25 255) (h := ?_)
   refine pu_ 8 (some 35) (m_ 25 511) (h := ?_)
   refine pu_ 9 (some 36) (m_ 25 1023) (h := ?_)
   refine pu_ 10 (some 37) (m_ 25 2047) (h := ?_)
   refine pu_ 11 (some 38) (m_ 25 4095) (h := ?_)
   refine pu_ 12 (some 39) (m_ 25 8191) (h := ?_)
   refine pu_ 13 (some 40) (m_ 25 16383) (h := ?_)
   refine pu_ 14 (some 41) (m_ 25 32767) (h := ?_)
   refine pu_ 15 (some 42) (m_ 25 65535) (h := ?_)
   refine pu_ 16 (some 43) (m_ 25 131071) (h := ?_)
   refine pu_ 17 (some 44) (m_ 25 262143) (h := ?_)
   refine pu_ 18 (some 45) (m_ 25 524287) (h := ?_)
   refine pu_ 19 (some 46) (m_ 25 1048575) (h := ?_)
   refine pu_ 20 (some 47) (m_ 25 2097151) (h := ?_)
   refine pu_ 21 (some 48) (m_ 25 4194303) (h := ?_)
   refine pu_ 22 (some 49) (m_ 25 8388607) (h := ?_)
   refine pq_ 23 (some 50) (m_ 25 16777215) (h := ?_)
   refine pq_ 24 (some 4) (m_ 25 33554431) (h := ?_)
   refine done_ (done_of HT_.out (by kernel_rfl)) ?_
   try go_wp2
   go_ret
   exact ⟨er_, hg_ GE777.out⟩
  rw [if_pos c36] at H
  have c36b0 : decide (5 < a1) = true := decide_eq_true c36
  clear c36
  by_cases c37 : ((Int.tmod (wrap64 (a1 - 6)) 2) = 1)
  rotate_left
  ·
   rw [if_neg c37] at H
   have c37b0 : ((Int.tmod (wrap64 (a1 - 6)) 2) == 1) = false := beq_eq_false_iff_ne.mpr c37
   have c37b1 : ((Int.tmod (wrap64 (a1 - 6)) 2) != 1) = true := bne_iff_ne.mpr c37
   obtain rfl := Option.some.inj H
   go_enter Tryd.func42, Tryd.ntmps42
   try go_wp2_with (first | ((with_reducible refine gate_dst (N := 2) rfl ?_); refine bx_ 2 #[.int .i64 a0_0, .slice A0_1 l0_1.length c0_1, .slice A0_2 l0_2.length c0_2] 55 ?_; intro gb777 hg w49 hbox hb; have BK777 := Aside0.mk (hbox); have GW777 := Aside0.mk ((by rw [hg]; exact (below_size hb_) : w.heap.size ≤ gb777)); have GE777 := GW777; replace HB := Aside0.mk (below_step hb_ hb); clear hb hbox hg; obtain ⟨hcz50_0, hcz50_1, hcz50_2⟩ := cz3_ BK777.out; obtain ⟨hfz50_0, hfz50_1, hfz50_2⟩ := fz3_ BK777.out))
   replace BK777 := Aside0.mk (blk_drew BK777.out)
   replace HB := Aside0.mk (below_drew1 HB.out)
   refine start_ (n := 25) (S := fun w' => True) (ds := []) (m_ 25 0) (by kernel_rfl) rfl rfl trivial (fun hHeld => ?_); refine with_tabW honeycombref07_Keeps.tab3 honeycombref07_Keeps.bits3 (fun HT_ HW_ => ?_)
   generalize w49.drew = w51 at BK777 HB hHeld ⊢
   refine pq_ 0 (some 27) (m_ 25 1) (h := ?_)
   refine pq_ 1 (some 28) (m_ 25 3) (h := ?_)
   refine pq_ 2 (some 29) (m_ 25 7) (h := ?_)
   refine pu_ 3 (some 30) (m_ 25 15) (h := ?_)
   refine pu_ 4 (some 31) (m_ 25 31) (h := ?_)
   refine pu_ 5 (some 32) (m_ 25 63) (h := ?_)
   refine pu_ 6 (some 33) (m_ 25 127) (h := ?_)
   refine pu_ 7 (some 34) (m_ 25 255) (h := ?_)
   refine pu_ 8 (some 35) (m_ 25 511) (h := ?_)
   refine pu_ 9 (some 36) (m_ 25 1023) (h := ?_)
   refine pu_ 10 (some 37) (m_ 25 2047) (h := ?_)
   refine pu_ 11 (some 38) (m_ 25 4095) (h := ?_)
   refine pu_ 12 (some 39) (m_ 25 8191) (h := ?_)
   refine pu_ 13 (some 40) (m_ 25 16383) (h := ?_)
   refine pu_ 14 (some 41) (m_ 25 32767) (h := ?_)
   refine pu_ 15 (some 42) (m_ 25 65535) (h := ?_)
   refine pu_ 16 (some 43) (m_ 25 131071) (h := ?_)
   refine pu_ 17 (some 44) (m_ 25 262143) (h := ?_)
   refine pu_ 18 (some 45) (m_ 25 524287) (h := ?_)
   refine pu_ 19 (some 46) (m_ 25 1048575) (h := ?_)
   refine pu_ 20 (some 47) (m_ 25 2097151) (h := ?_)
   refine pu_ 21 (some 48) (m_ 25 4194303) (h := ?_)
   refine pu_ 22 (some 49) (m_ 25 8388607) (h := ?_)
   refine pq_ 23 (some 50) (m_ 25 16777215) (h := ?_)
   refine pq_ 24 (some 4) (m_ 25 33554431) (h := ?_)
   refine done_ (done_of HT_.out (by kernel_rfl)) ?_
   try go_wp2
   go_ret
   exact ⟨er_, hg_ GE777.out⟩
  rw [if_pos c37] at H
  have c37b0 : ((Int.tmod (wrap64 (a1 - 6)) 2) == 1) = true := beq_iff_eq.mpr c37
  have c37b1 : ((Int.tmod (wrap64 (a1 - 6)) 2) != 1) = false := bne_eq_false_iff_eq.mpr c37
  clear c37
  by_cases c38 : 0 < (l0_1.length : Int)
  rotate_left
  ·
   rw [if_neg c38] at H
   exact absurd H (by simp)
  rw [if_pos c38] at H
  have c38b0 : decide (0 < (l0_1.length : Int)) = true := decide_eq_true c38
  have c38b1 : decide (0 < l0_1.length) = true := decide_eq_true (by omega)
  clear c38
  by_cases c39 : 1 < (l0_1.length : Int)
  rotate_left
  ·
   rw [if_neg c39] at H
   exact absurd H (by simp)
  rw [if_pos c39] at H
  have c39b0 : decide (1 < (l0_1.length : Int)) = true := decide_eq_true c39
  have c39b1 : decide (1 < l0_1.length) = true := decide_eq_true (by omega)
  clear c39
  by_cases c40 : (rd l0_1 0) = (rd l0_1 1)
  rotate_left
  ·
   rw [if_neg c40] at H
   have c40b0 : ((rd l0_1 0) == (rd l0_1 1)) = false := beq_eq_false_iff_ne.mpr c40
   have c40b1 : ((rd l0_1 0) != (rd l0_1 1)) = true := bne_iff_ne.mpr c40
   obtain rfl := Option.some.inj H
   go_enter Tryd.func42, Tryd.ntmps42
   try go_wp2_with (first | ((with_reducible refine gate_dst (N := 2) rfl ?_); refine bx_ 2 #[.int .i64 a0_0, .slice A0_1 l0_1.length c0_1, .slice A0_2 l0_2.length c0_2] 55 ?_; intro gb777 hg w46 hbox hb; have BK777 := Aside0.mk (hbox); have GW777 := Aside0.mk ((by rw [hg]; exact (below_size hb_) : w.heap.size ≤ gb777)); have GE777 := GW777; replace HB := Aside0.mk (below_step hb_ hb); clear hb hbox hg; obtain ⟨hcz47_0, hcz47_1, hcz47_2⟩ := cz3_ BK777.out; obtain ⟨hfz47_0, hfz47_1, hfz47_2⟩ := fz3_ BK777.out))
   replace BK777 := Aside0.mk (blk_drew BK777.out)
   replace HB := Aside0.mk (below_drew1 HB.out)
   have p786 : 0 ≤ (0 : Int) := (by omega)
   have q786 : 0 < (l0_1.length : Int) := of_decide_eq_true as_
   obtain ⟨ad786, e786, hx786_0⟩ := Kd.at_int HR0_1.out 0 p786 q786
   have hw786_0 := hx786_0
   (try rw [show ((0 : Int)).toNat = 0 from rfl] at hw786_0)
   (try rw [show 0 * 1 = 0 from rfl] at hw786_0)
   (try rw [Addr.add_zero'] at hw786_0)
   cases e786
   have qi786 : (0 < l0_1.length) = True := eq_true (by omega)
   (try rw [show ((0 : Int)).toNat = 0 from rfl] at hx786_0)
   (try rw [Addr.add_zero'] at hx786_0)
   try replace hx786_0 := (HB.out.cell (World.block_lt_of_cell? w _ hx786_0)).trans hx786_0
   replace p786 := eq_true p786
   replace q786 := eq_true q786
   have p787 : 0 ≤ (1 : Int) := (by omega)
   have q787 : 1 < (l0_1.length : Int) := of_decide_eq_true as_
   obtain ⟨ad787, e787, hx787_0⟩ := Kd.at_int HR0_1.out 1 p787 q787
   have hw787_0 := hx787_0
   (try rw [show ((1 : Int)).toNat = 1 from rfl] at hw787_0)
   (try rw [show 1 * 1 = 1 from rfl] at hw787_0)
   (try simp only [Nat.reduceMul, Nat.reduceEqDiff, Go.Addr.add, ↓reduceIte] at hw787_0)
   obtain rfl : ad786 = ad787 := (by injection e787)
   (try simp only [show (1 : Int).toNat = 1 from rfl, Nat.reduceMul, Nat.reduceEqDiff, Go.Addr.add, ↓reduceIte] at hx787_0)
   have qi787 : (1 < l0_1.length) = True := eq_true (by omega)
   (try rw [show ((1 : Int)).toNat = 1 from rfl] at hx787_0)
   try replace hx787_0 := (HB.out.cell (World.block_lt_of_cell? w _ hx787_0)).trans hx787_0
   replace p787 := eq_true p787
   replace q787 := eq_true q787
   refine start_ (n := 25) (S := fun w' => w'.cell? ⟨gb777, 0, none⟩ = some (.int .i64 a0_0) ∧ w'.cell? ⟨gb777, 1, none⟩ = some (.slice (some ad786) l0_1.length c0_1) ∧ w'.cell? ⟨gb777, 2, none⟩ = some (.slice A0_2 l0_2.length c0_2) ∧ w'.cell? ad786 = some (.int .u64 (rd l0_1 0)) ∧ w'.cell? ⟨ad786.block, ad786.off + 1, none⟩ = some (.int .u64 (rd l0_1 1))) (ds := []) (m_ 25 0) (by kernel_rfl) rfl rfl ⟨(blk_cell BK777.out 0).trans rfl, (blk_cell BK777.out 1).trans rfl, (blk_cell BK777.out 2).trans rfl, (by first | exact ((HB.out.cell (World.block_lt_of_cell? w _ hw786_0)).trans hw786_0) | exact hw786_0), (by first | exact ((HB.out.cell (World.block_lt_of_cell? w _ hw787_0)).trans hw787_0) | exact hw787_0)⟩ (fun hHeld => ?_); refine with_tabW honeycombref07_Keeps.tab3 honeycombref07_Keeps.bits3 (fun HT_ HW_ => ?_)
   generalize w46.drew = w48 at BK777 HB hx786_0 hx787_0 hHeld ⊢
   refine pq_ 0 (some 27) (m_ 25 1) (h := ?_)
   refine pq_ 1 (some 28) (m_ 25 3) (h := ?_)
   refine pq_ 2 (some 29) (m_ 25 7) (h := ?_)
   refine pq_ 3 (some 30) (m_ 25 15) (h := ?_)
   refine pq_ 7 (some 34) (m_ 25 143) (h := ?_)
   refine tq5_ 4 (some 31) (m_ 25 159) (h := ?_)
   refine pq_ 5 (some 32) (m_ 25 191) (h := ?_)
   refine tq5_ 6 (some 33) (m_ 25 255) (h := ?_)
   refine tq5_ 8 (some 35) (m_ 25 511) (h := ?_)
   refine pq_ 9 (some 36) (m_ 25 1023) (h := ?_)
   refine tq5_ 10 (some 37) (m_ 25 2047) (h := ?_)
   refine pq_ 11 (some 38) (m_ 25 4095) (h := ?_)
   refine pq_ 12 (some 39) (m_ 25 8191) (h := ?_)
   refine pu_ 13 (some 40) (m_ 25 16383) (h := ?_)
   refine pu_ 14 (some 41) (m_ 25 32767) (h := ?_)
   refine pu_ 15 (some 42) (m_ 25 65535) (h := ?_)
   refine pu_ 16 (some 43) (m_ 25 131071) (h := ?_)
   refine pu_ 17 (some 44) (m_ 25 262143) (h := ?_)
   refine pu_ 18 (some 45) (m_ 25 524287) (h := ?_)
   refine pu_ 19 (some 46) (m_ 25 1048575) (h := ?_)
   refine pu_ 20 (some 47) (m_ 25 2097151) (h := ?_)
   refine pu_ 21 (some 48) (m_ 25 4194303) (h := ?_)
   refine pq_ 22 (some 49) (m_ 25 8388607) (h := ?_)
   refine pq_ 23 (some 50) (m_ 25 16777215) (h := ?_)
   refine pq_ 24 (some 4) (m_ 25 33554431) (h := ?_)
   refine done_ (done_of HT_.out (by kernel_rfl)) ?_
   try go_wp2
   go_ret
   exact ⟨er_, hg_ GE777.out⟩
  rw [if_pos c40] at H
  have c40b0 : ((rd l0_1 0) == (rd l0_1 1)) = true := beq_iff_eq.mpr c40
  have c40b1 : ((rd l0_1 0) != (rd l0_1 1)) = false := bne_eq_false_iff_eq.mpr c40
  clear c40
  by_cases c41 : 0 < (l0_2.length : Int)
  rotate_left
  ·
   rw [if_neg c41] at H
   exact absurd H (by simp)
  rw [if_pos c41] at H
  have c41b0 : decide (0 < (l0_2.length : Int)) = true := decide_eq_true c41
  have c41b1 : decide (0 < l0_2.length) = true := decide_eq_true (by omega)
  clear c41
  by_cases c42 : 1 < (l0_2.length : Int)
  rotate_left
  ·
   rw [if_neg c42] at H
   exact absurd H (by simp)
  rw [if_pos c42] at H
  have c42b0 : decide (1 < (l0_2.length : Int)) = true := decide_eq_true c42
  have c42b1 : decide (1 < l0_2.length) = true := decide_eq_true (by omega)
  clear c42
  obtain rfl := Option.some.inj H
  go_enter Tryd.func42, Tryd.ntmps42
  try go_wp2_with (first | ((with_reducible refine gate_dst (N := 2) rfl ?_); refine bx_ 2 #[.int .i64 a0_0, .slice A0_1 l0_1.length c0_1, .slice A0_2 l0_2.length c0_2] 55 ?_; intro gb777 hg w43 hbox hb; have BK777 := Aside0.mk (hbox); have GW777 := Aside0.mk ((by rw [hg]; exact (below_size hb_) : w.heap.size ≤ gb777)); have GE777 := GW777; replace HB := Aside0.mk (below_step hb_ hb); clear hb hbox hg; obtain ⟨hcz44_0, hcz44_1, hcz44_2⟩ := cz3_ BK777.out; obtain ⟨hfz44_0, hfz44_1, hfz44_2⟩ := fz3_ BK777.out))
  replace BK777 := Aside0.mk (blk_drew BK777.out)
  replace HB := Aside0.mk (below_drew1 HB.out)
  have p786 : 0 ≤ (0 : Int) := (by omega)
  have q786 : 0 < (l0_1.length : Int) := of_decide_eq_true as_
  obtain ⟨ad786, e786, hx786_0⟩ := Kd.at_int HR0_1.out 0 p786 q786
  have hw786_0 := hx786_0
  (try rw [show ((0 : Int)).toNat = 0 from rfl] at hw786_0)
  (try rw [show 0 * 1 = 0 from rfl] at hw786_0)
  (try rw [Addr.add_zero'] at hw786_0)
  cases e786
  have qi786 : (0 < l0_1.length) = True := eq_true (by omega)
  (try rw [show ((0 : Int)).toNat = 0 from rfl] at hx786_0)
  (try rw [Addr.add_zero'] at hx786_0)
  try replace hx786_0 := (HB.out.cell (World.block_lt_of_cell? w _ hx786_0)).trans hx786_0
  replace p786 := eq_true p786
  replace q786 := eq_true q786
  have p787 : 0 ≤ (1 : Int) := (by omega)
  have q787 : 1 < (l0_1.length : Int) := of_decide_eq_true as_
  obtain ⟨ad787, e787, hx787_0⟩ := Kd.at_int HR0_1.out 1 p787 q787
  have hw787_0 := hx787_0
  (try rw [show ((1 : Int)).toNat = 1 from rfl] at hw787_0)
  (try rw [show 1 * 1 = 1 from rfl] at hw787_0)
  (try simp only [Nat.reduceMul, Nat.reduceEqDiff, Go.Addr.add, ↓reduceIte] at hw787_0)
  obtain rfl : ad786 = ad787 := (by injection e787)
  (try simp only [show (1 : Int).toNat = 1 from rfl, Nat.reduceMul, Nat.reduceEqDiff, Go.Addr.add, ↓reduceIte] at hx787_0)
  have qi787 : (1 < l0_1.length) = True := eq_true (by omega)
  (try rw [show ((1 : Int)).toNat = 1 from rfl] at hx787_0)
  try replace hx787_0 := (HB.out.cell (World.block_lt_of_cell? w _ hx787_0)).trans hx787_0
  replace p787 := eq_true p787
  replace q787 := eq_true q787
  have p788 : 0 ≤ (0 : Int) := (by omega)
  have q788 : 0 < (l0_2.length : Int) := of_decide_eq_true as_
  obtain ⟨ad788, e788, hx788_0⟩ := Kd.at_int HR0_2.out 0 p788 q788
  have hw788_0 := hx788_0
  (try rw [show ((0 : Int)).toNat = 0 from rfl] at hw788_0)
  (try rw [show 0 * 1 = 0 from rfl] at hw788_0)
  (try rw [Addr.add_zero'] at hw788_0)
  cases e788
  have qi788 : (0 < l0_2.length) = True := eq_true (by omega)
  (try rw [show ((0 : Int)).toNat = 0 from rfl] at hx788_0)
  (try rw [Addr.add_zero'] at hx788_0)
  try replace hx788_0 := (HB.out.cell (World.block_lt_of_cell? w _ hx788_0)).trans hx788_0
  replace p788 := eq_true p788
  replace q788 := eq_true q788
  have p789 : 0 ≤ (1 : Int) := (by omega)
  have q789 : 1 < (l0_2.length : Int) := of_decide_eq_true as_
  obtain ⟨ad789, e789, hx789_0⟩ := Kd.at_int HR0_2.out 1 p789 q789
  have hw789_0 := hx789_0
  (try rw [show ((1 : Int)).toNat = 1 from rfl] at hw789_0)
  (try rw [show 1 * 1 = 1 from rfl] at hw789_0)
  (try simp only [Nat.reduceMul, Nat.reduceEqDiff, Go.Addr.add, ↓reduceIte] at hw789_0)
  obtain rfl : ad788 = ad789 := (by injection e789)
  (try simp only [show (1 : Int).toNat = 1 from rfl, Nat.reduceMul, Nat.reduceEqDiff, Go.Addr.add, ↓reduceIte] at hx789_0)
  have qi789 : (1 < l0_2.length) = True := eq_true (by omega)
  (try rw [show ((1 : Int)).toNat = 1 from rfl] at hx789_0)
  try replace hx789_0 := (HB.out.cell (World.block_lt_of_cell? w _ hx789_0)).trans hx789_0
  replace p789 := eq_true p789
  replace q789 := eq_true q789
  refine start_ (n := 25) (S := fun w' => w'.cell? ⟨gb777, 0, none⟩ = some (.int .i64 a0_0) ∧ w'.cell? ⟨gb777, 1, none⟩ = some (.slice (some ad786) l0_1.length c0_1) ∧ w'.cell? ⟨gb777, 2, none⟩ = some (.slice (some ad788) l0_2.length c0_2) ∧ w'.cell? ad786 = some (.int .u64 (rd l0_1 0)) ∧ w'.cell? ⟨ad786.block, ad786.off + 1, none⟩ = some (.int .u64 (rd l0_1 1)) ∧ w'.cell? ad788 = some (.int .u64 (rd l0_2 0)) ∧ w'.cell? ⟨ad788.block, ad788.off + 1, none⟩ = some (.int .u64 (rd l0_2 1))) (ds := []) (m_ 25 0) (by kernel_rfl) rfl rfl ⟨(blk_cell BK777.out 0).trans rfl, (blk_cell BK777.out 1).trans rfl, (blk_cell BK777.out 2).trans rfl, (by first | exact ((HB.out.cell (World.block_lt_of_cell? w _ hw786_0)).trans hw786_0) | exact hw786_0), (by first | exact ((HB.out.cell (World.block_lt_of_cell? w _ hw787_0)).trans hw787_0) | exact hw787_0), (by first | exact ((HB.out.cell (World.block_lt_of_cell? w _ hw788_0)).trans hw788_0) | exact hw788_0), (by first | exact ((HB.out.cell (World.block_lt_of_cell? w _ hw789_0)).trans hw789_0) | exact hw789_0)⟩ (fun hHeld => ?_); refine with_tabW honeycombref07_Keeps.tab3 honeycombref07_Keeps.bits3 (fun HT_ HW_ => ?_)
  generalize w43.drew = w45 at BK777 HB hx786_0 hx787_0 hx788_0 hx789_0 hHeld ⊢
  refine pq_ 0 (some 27) (m_ 25 1) (h := ?_)
  refine pq_ 1 (some 28) (m_ 25 3) (h := ?_)
  refine pq_ 2 (some 29) (m_ 25 7) (h := ?_)
  refine pq_ 3 (some 30) (m_ 25 15) (h := ?_)
  refine pq_ 7 (some 34) (m_ 25 143) (h := ?_)
  refine tq7_ 4 (some 31) (m_ 25 159) (h := ?_)
  refine pq_ 5 (some 32) (m_ 25 191) (h := ?_)
  refine tq7_ 6 (some 33) (m_ 25 255) (h := ?_)
  refine tq7_ 8 (some 35) (m_ 25 511) (h := ?_)
  refine pq_ 9 (some 36) (m_ 25 1023) (h := ?_)
  refine tq7_ 10 (some 37) (m_ 25 2047) (h := ?_)
  refine pq_ 11 (some 38) (m_ 25 4095) (h := ?_)
  refine pq_ 12 (some 39) (m_ 25 8191) (h := ?_)
  refine pq_ 13 (some 40) (m_ 25 16383) (h := ?_)
  refine pq_ 17 (some 44) (m_ 25 147455) (h := ?_)
  refine tq7_ 14 (some 41) (m_ 25 163839) (h := ?_)
  refine pq_ 15 (some 42) (m_ 25 196607) (h := ?_)
  refine tq7_ 16 (some 43) (m_ 25 262143) (h := ?_)
  refine tq7_ 18 (some 45) (m_ 25 524287) (h := ?_)
  refine pq_ 19 (some 46) (m_ 25 1048575) (h := ?_)
  refine tq7_ 20 (some 47) (m_ 25 2097151) (h := ?_)
  refine pq_ 21 (some 48) (m_ 25 4194303) (h := ?_)
  refine pq_ 22 (some 49) (m_ 25 8388607) (h := ?_)
  refine pq_ 23 (some 50) (m_ 25 16777215) (h := ?_)
  refine pq_ 24 (some 4) (m_ 25 33554431) (h := ?_)
  refine done_ (done_of HT_.out (by kernel_rfl)) ?_
  try go_wp2
  go_ret
  exact ⟨er_, hg_ GE777.out⟩
 rw [if_pos c4] at H
 have c4b0 : ((Int.tmod a1 2) == 1) = true := beq_iff_eq.mpr c4
 have c4b1 : ((Int.tmod a1 2) != 1) = false := bne_eq_false_iff_eq.mpr c4
 clear c4
 by_cases c5 : a1 < 6
 ·
  rw [if_pos c5] at H
  have c5b0 : decide (a1 < 6) = true := decide_eq_true c5
  clear c5
  by_cases c6 : 0 < (l0_1.length : Int)
  rotate_left
  ·
   rw [if_neg c6] at H
   exact absurd H (by simp)
  rw [if_pos c6] at H
  have c6b0 : decide (0 < (l0_1.length : Int)) = true := decide_eq_true c6
  have c6b1 : decide (0 < l0_1.length) = true := decide_eq_true (by omega)
  clear c6
  by_cases c7 : 1 < (l0_1.length : Int)
  rotate_left
  ·
   rw [if_neg c7] at H
   exact absurd H (by simp)
  rw [if_pos c7] at H
  have c7b0 : decide (1 < (l0_1.length : Int)) = true := decide_eq_true c7
  have c7b1 : decide (1 < l0_1.length) = true := decide_eq_true (by omega)
  clear c7
  by_cases c8 : (rd l0_1 0) = (rd l0_1 1)
  rotate_left
  ·
   rw [if_neg c8] at H
   have c8b0 : ((rd l0_1 0) == (rd l0_1 1)) = false := beq_eq_false_iff_ne.mpr c8
   have c8b1 : ((rd l0_1 0) != (rd l0_1 1)) = true := bne_iff_ne.mpr c8
   obtain rfl := Option.some.inj H
   go_enter Tryd.func42, Tryd.ntmps42
   try go_wp2_with (first | ((with_reducible refine gate_dst (N := 2) rfl ?_); refine bx_ 2 #[.int .i64 a0_0, .slice A0_1 l0_1.length c0_1, .slice A0_2 l0_2.length c0_2] 55 ?_; intro gb777 hg w14 hbox hb; have BK777 := Aside0.mk (hbox); have GW777 := Aside0.mk ((by rw [hg]; exact (below_size hb_) : w.heap.size ≤ gb777)); have GE777 := GW777; replace HB := Aside0.mk (below_step hb_ hb); clear hb hbox hg; obtain ⟨hcz15_0, hcz15_1, hcz15_2⟩ := cz3_ BK777.out; obtain ⟨hfz15_0, hfz15_1, hfz15_2⟩ := fz3_ BK777.out))
   replace BK777 := Aside0.mk (blk_drew BK777.out)
   replace HB := Aside0.mk (below_drew1 HB.out)
   have p778 : 0 ≤ (0 : Int) := (by omega)
   have q778 : 0 < (l0_1.length : Int) := of_decide_eq_true as_
   obtain ⟨ad778, e778, hx778_0⟩ := Kd.at_int HR0_1.out 0 p778 q778
   have hw778_0 := hx778_0
   (try rw [show ((0 : Int)).toNat = 0 from rfl] at hw778_0)
   (try rw [show 0 * 1 = 0 from rfl] at hw778_0)
   (try rw [Addr.add_zero'] at hw778_0)
   cases e778
   have qi778 : (0 < l0_1.length) = True := eq_true (by omega)
   (try rw [show ((0 : Int)).toNat = 0 from rfl] at hx778_0)
   (try rw [Addr.add_zero'] at hx778_0)
   try replace hx778_0 := (HB.out.cell (World.block_lt_of_cell? w _ hx778_0)).trans hx778_0
   replace p778 := eq_true p778
   replace q778 := eq_true q778
   have p779 : 0 ≤ (1 : Int) := (by omega)
   have q779 : 1 < (l0_1.length : Int) := of_decide_eq_true as_
   obtain ⟨ad779, e779, hx779_0⟩ := Kd.at_int HR0_1.out 1 p779 q779
   have hw779_0 := hx779_0
   (try rw [show ((1 : Int)).toNat = 1 from rfl] at hw779_0)
   (try rw [show 1 * 1 = 1 from rfl] at hw779_0)
   (try simp only [Nat.reduceMul, Nat.reduceEqDiff, Go.Addr.add, ↓reduceIte] at hw779_0)
   obtain rfl : ad778 = ad779 := (by injection e779)
   (try simp only [show (1 : Int).toNat = 1 from rfl, Nat.reduceMul, Nat.reduceEqDiff, Go.Addr.add, ↓reduceIte] at hx779_0)
   have qi779 : (1 < l0_1.length) = True := eq_true (by omega)
   (try rw [show ((1 : Int)).toNat = 1 from rfl] at hx779_0)
   try replace hx779_0 := (HB.out.cell (World.block_lt_of_cell? w _ hx779_0)).trans hx779_0
   replace p779 := eq_true p779
   replace q779 := eq_true q779
   refine start_ (n := 25) (S := fun w' => w'.cell? ⟨gb777, 0, none⟩ = some (.int .i64 a0_0) ∧ w'.cell? ⟨gb777, 1, none⟩ = some (.slice (some ad778) l0_1.length c0_1) ∧ w'.cell? ⟨gb777, 2, none⟩ = some (.slice A0_2 l0_2.length c0_2) ∧ w'.cell? ad778 = some (.int .u64 (rd l0_1 0)) ∧ w'.cell? ⟨ad778.block, ad778.off + 1, none⟩ = some (.int .u64 (rd l0_1 1))) (ds := []) (m_ 25 0) (by kernel_rfl) rfl rfl ⟨(blk_cell BK777.out 0).trans rfl, (blk_cell BK777.out 1).trans rfl, (blk_cell BK777.out 2).trans rfl, (by first | exact ((HB.out.cell (World.block_lt_of_cell? w _ hw778_0)).trans hw778_0) | exact hw778_0), (by first | exact ((HB.out.cell (World.block_lt_of_cell? w _ hw779_0)).trans hw779_0) | exact hw779_0)⟩ (fun hHeld => ?_); refine with_tabW honeycombref07_Keeps.tab3 honeycombref07_Keeps.bits3 (fun HT_ HW_ => ?_)
   generalize w14.drew = w16 at BK777 HB hx778_0 hx779_0 hHeld ⊢
   refine pq_ 0 (some 27) (m_ 25 1) (h := ?_)
   refine pq_ 1 (some 28) (m_ 25 3) (h := ?_)
   refine pq_ 2 (some 29) (m_ 25 7) (h := ?_)
   refine pq_ 3 (some 30) (m_ 25 15) (h := ?_)
   refine pq_ 7 (some 34) (m_ 25 143) (h := ?_)
   refine tq5_ 4 (some 31) (m_ 25 159) (h := ?_)
   refine pq_ 5 (some 32) (m_ 25 191) (h := ?_)
   refine tq5_ 6 (some 33) (m_ 25 255) (h := ?_)
   refine tq5_ 8 (some 35) (m_ 25 511) (h := ?_)
   refine pq_ 9 (some 36) (m_ 25 1023) (h := ?_)
   refine tq5_ 10 (some 37) (m_ 25 2047) (h := ?_)
   refine pq_ 11 (some 38) (m_ 25 4095) (h := ?_)
   refine pq_ 12 (some 39) (m_ 25 8191) (h := ?_)
   refine pu_ 13 (some 40) (m_ 25 16383) (h := ?_)
   refine pu_ 14 (some 41) (m_ 25 32767) (h := ?_)
   refine pu_ 15 (some 42) (m_ 25 65535) (h := ?_)
   refine pu_ 16 (some 43) (m_ 25 131071) (h := ?_)
   refine pu_ 17 (some 44) (m_ 25 262143) (h := ?_)
   refine pu_ 18 (some 45) (m_ 25 524287) (h := ?_)
   refine pu_ 19 (some 46) (m_ 25 1048575) (h := ?_)
   refine pu_ 20 (some 47) (m_ 25 2097151) (h := ?_)
   refine pu_ 21 (some 48) (m_ 25 4194303) (h := ?_)
   refine pq_ 22 (some 49) (m_ 25 8388607) (h := ?_)
   refine pq_ 23 (some 50) (m_ 25 16777215) (h := ?_)
   refine pq_ 24 (some 4) (m_ 25 33554431) (h := ?_)
   refine done_ (done_of HT_.out (by kernel_rfl)) ?_
   try go_wp2
   go_ret
   exact ⟨er_, hg_ GE777.out⟩
  rw [if_pos c8] at H
  have c8b0 : ((rd l0_1 0) == (rd l0_1 1)) = true := beq_iff_eq.mpr c8
  have c8b1 : ((rd l0_1 0) != (rd l0_1 1)) = false := bne_eq_false_iff_eq.mpr c8
  clear c8
  by_cases c9 : 0 < (l0_2.length : Int)
  rotate_left
  ·
   rw [if_neg c9] at H
   exact absurd H (by simp)
  rw [if_pos c9] at H
  have c9b0 : decide (0 < (l0_2.length : Int)) = true := decide_eq_true c9
  have c9b1 : decide (0 < l0_2.length) = true := decide_eq_true (by omega)
  clear c9
  by_cases c10 : 1 < (l0_2.length : Int)
  rotate_left
  ·
   rw [if_neg c10] at H
   exact absurd H (by simp)
  rw [if_pos c10] at H
  have c10b0 : decide (1 < (l0_2.length : Int)) = true := decide_eq_true c10
  have c10b1 : decide (1 < l0_2.length) = true := decide_eq_true (by omega)
  clear c10
  obtain rfl := Option.some.inj H
  go_enter Tryd.func42, Tryd.ntmps42
  try go_wp2_with (first | ((with_reducible refine gate_dst (N := 2) rfl ?_); refine bx_ 2 #[.int .i64 a0_0, .slice A0_1 l0_1.length c0_1, .slice A0_2 l0_2.length c0_2] 55 ?_; intro gb777 hg w11 hbox hb; have BK777 := Aside0.mk (hbox); have GW777 := Aside0.mk ((by rw [hg]; exact (below_size hb_) : w.heap.size ≤ gb777)); have GE777 := GW777; replace HB := Aside0.mk (below_step hb_ hb); clear hb hbox hg; obtain ⟨hcz12_0, hcz12_1, hcz12_2⟩ := cz3_ BK777.out; obtain ⟨hfz12_0, hfz12_1, hfz12_2⟩ := fz3_ BK777.out))
  replace BK777 := Aside0.mk (blk_drew BK777.out)
  replace HB := Aside0.mk (below_drew1 HB.out)
  have p778 : 0 ≤ (0 : Int) := (by omega)
  have q778 : 0 < (l0_1.length : Int) := of_decide_eq_true as_
  obtain ⟨ad778, e778, hx778_0⟩ := Kd.at_int HR0_1.out 0 p778 q778
  have hw778_0 := hx778_0
  (try rw [show ((0 : Int)).toNat = 0 from rfl] at hw778_0)
  (try rw [show 0 * 1 = 0 from rfl] at hw778_0)
  (try rw [Addr.add_zero'] at hw778_0)
  cases e778
  have qi778 : (0 < l0_1.length) = True := eq_true (by omega)
  (try rw [show ((0 : Int)).toNat = 0 from rfl] at hx778_0)
  (try rw [Addr.add_zero'] at hx778_0)
  try replace hx778_0 := (HB.out.cell (World.block_lt_of_cell? w _ hx778_0)).trans hx778_0
  replace p778 := eq_true p778
  replace q778 := eq_true q778
  have p779 : 0 ≤ (1 : Int) := (by omega)
  have q779 : 1 < (l0_1.length : Int) := of_decide_eq_true as_
  obtain ⟨ad779, e779, hx779_0⟩ := Kd.at_int HR0_1.out 1 p779 q779
  have hw779_0 := hx779_0
  (try rw [show ((1 : Int)).toNat = 1 from rfl] at hw779_0)
  (try rw [show 1 * 1 = 1 from rfl] at hw779_0)
  (try simp only [Nat.reduceMul, Nat.reduceEqDiff, Go.Addr.add, ↓reduceIte] at hw779_0)
  obtain rfl : ad778 = ad779 := (by injection e779)
  (try simp only [show (1 : Int).toNat = 1 from rfl, Nat.reduceMul, Nat.reduceEqDiff, Go.Addr.add, ↓reduceIte] at hx779_0)
  have qi779 : (1 < l0_1.length) = True := eq_true (by omega)
  (try rw [show ((1 : Int)).toNat = 1 from rfl] at hx779_0)
  try replace hx779_0 := (HB.out.cell (World.block_lt_of_cell? w _ hx779_0)).trans hx779_0
  replace p779 := eq_true p779
  replace q779 := eq_true q779
  have p780 : 0 ≤ (0 : Int) := (by omega)
  have q780 : 0 < (l0_2.length : Int) := of_decide_eq_true as_
  obtain ⟨ad780, e780, hx780_0⟩ := Kd.at_int HR0_2.out 0 p780 q780
  have hw780_0 := hx780_0
  (try rw [show ((0 : Int)).toNat = 0 from rfl] at hw780_0)
  (try rw [show 0 * 1 = 0 from rfl] at hw780_0)
  (try rw [Addr.add_zero'] at hw780_0)
  cases e780
  have qi780 : (0 < l0_2.length) = True := eq_true (by omega)
  (try rw [show ((0 : Int)).toNat = 0 from rfl] at hx780_0)
  (try rw [Addr.add_zero'] at hx780_0)
  try replace hx780_0 := (HB.out.cell (World.block_lt_of_cell? w _ hx780_0)).trans hx780_0
  replace p780 := eq_true p780
  replace q780 := eq_true q780
  have p781 : 0 ≤ (1 : Int) := (by omega)
  have q781 : 1 < (l0_2.length : Int) := of_decide_eq_true as_
  obtain ⟨ad781, e781, hx781_0⟩ := Kd.at_int HR0_2.out 1 p781 q781
  have hw781_0 := hx781_0
  (try rw [show ((1 : Int)).toNat = 1 from rfl] at hw781_0)
  (try rw [show 1 * 1 = 1 from rfl] at hw781_0)
  (try simp only [Nat.reduceMul, Nat.reduceEqDiff, Go.Addr.add, ↓reduceIte] at hw781_0)
  obtain rfl : ad780 = ad781 := (by injection e781)
  (try simp only [show (1 : Int).toNat = 1 from rfl, Nat.reduceMul, Nat.reduceEqDiff, Go.Addr.add, ↓reduceIte] at hx781_0)
  have qi781 : (1 < l0_2.length) = True := eq_true (by omega)
  (try rw [show ((1 : Int)).toNat = 1 from rfl] at hx781_0)
  try replace hx781_0 := (HB.out.cell (World.block_lt_of_cell? w _ hx781_0)).trans hx781_0
  replace p781 := eq_true p781
  replace q781 := eq_true q781
  refine start_ (n := 25) (S := fun w' => w'.cell? ⟨gb777, 0, none⟩ = some (.int .i64 a0_0) ∧ w'.cell? ⟨gb777, 1, none⟩ = some (.slice (some ad778) l0_1.length c0_1) ∧ w'.cell? ⟨gb777, 2, none⟩ = some (.slice (some ad780) l0_2.length c0_2) ∧ w'.cell? ad778 = some (.int .u64 (rd l0_1 0)) ∧ w'.cell? ⟨ad778.block, ad778.off + 1, none⟩ = some (.int .u64 (rd l0_1 1)) ∧ w'.cell? ad780 = some (.int .u64 (rd l0_2 0)) ∧ w'.cell? ⟨ad780.block, ad780.off + 1, none⟩ = some (.int .u64 (rd l0_2 1))) (ds := []) (m_ 25 0) (by kernel_rfl) rfl rfl ⟨(blk_cell BK777.out 0).trans rfl, (blk_cell BK777.out 1).trans rfl, (blk_cell BK777.out 2).trans rfl, (by first | exact ((HB.out.cell (World.block_lt_of_cell? w _ hw778_0)).trans hw778_0) | exact hw778_0), (by first | exact ((HB.out.cell (World.block_lt_of_cell? w _ hw779_0)).trans hw779_0) | exact hw779_0), (by first | exact ((HB.out.cell (World.block_lt_of_cell? w _ hw780_0)).trans hw780_0) | exact hw780_0), (by first | exact ((HB.out.cell (World.block_lt_of_cell? w _ hw781_0)).trans hw781_0) | exact hw781_0)⟩ (fun hHeld => ?_); refine with_tabW honeycombref07_Keeps.tab3 honeycombref07_Keeps.bits3 (fun HT_ HW_ => ?_)
  generalize w11.drew = w13 at BK777 HB hx778_0 hx779_0 hx780_0 hx781_0 hHeld ⊢
  refine pq_ 0 (some 27) (m_ 25 1) (h := ?_)
  refine pq_ 1 (some 28) (m_ 25 3) (h := ?_)
  refine pq_ 2 (some 29) (m_ 25 7) (h := ?_)
  refine pq_ 3 (some 30) (m_ 25 15) (h := ?_)
  refine pq_ 7 (some 34) (m_ 25 143) (h := ?_)
  refine tq7_ 4 (some 31) (m_ 25 159) (h := ?_)
  refine pq_ 5 (some 32) (m_ 25 191) (h := ?_)
  refine tq7_ 6 (some 33) (m_ 25 255) (h := ?_)
  refine tq7_ 8 (some 35) (m_ 25 511) (h := ?_)
  refine pq_ 9 (some 36) (m_ 25 1023) (h := ?_)
  refine tq7_ 10 (some 37) (m_ 25 2047) (h := ?_)
  refine pq_ 11 (some 38) (m_ 25 4095) (h := ?_)
  refine pq_ 12 (some 39) (m_ 25 8191) (h := ?_)
  refine pq_ 13 (some 40) (m_ 25 16383) (h := ?_)
  refine pq_ 17 (some 44) (m_ 25 147455) (h := ?_)
  refine tq7_ 14 (some 41) (m_ 25 163839) (h := ?_)
  refine pq_ 15 (some 42) (m_ 25 196607) (h := ?_)
  refine tq7_ 16 (some 43) (m_ 25 262143) (h := ?_)
  refine tq7_ 18 (some 45) (m_ 25 524287) (h := ?_)
  refine pq_ 19 (some 46) (m_ 25 1048575) (h := ?_)
  refine tq7_ 20 (some 47) (m_ 25 2097151) (h := ?_)
  refine pq_ 21 (some 48) (m_ 25 4194303) (h := ?_)
  refine pq_ 22 (some 49) (m_ 25 8388607) (h := ?_)
  refine pq_ 23 (some 50) (m_ 25 16777215) (h := ?_)
  refine pq_ 24 (some 4) (m_ 25 33554431) (h := ?_)
  refine done_ (done_of HT_.out (by kernel_rfl)) ?_
  try go_wp2
  go_ret
  exact ⟨er_, hg_ GE777.out⟩
 rw [if_neg c5] at H
 have c5b0 : decide (a1 < 6) = false := decide_eq_false c5
 clear c5
 by_cases c17 : a1 > 5
 rotate_left
 ·
  rw [if_neg c17] at H
  have c17b0 : decide (5 < a1) = false := decide_eq_false c17
  clear c17
  obtain rfl := Option.some.inj H
  go_enter Tryd.func42, Tryd.ntmps42
  try go_wp2_with (first | ((with_reducible refine gate_dst (N := 2) rfl ?_); refine bx_ 2 #[.int .i64 a0_0, .slice A0_1 l0_1.length c0_1, .slice A0_2 l0_2.length c0_2] 55 ?_; intro gb777 hg w33 hbox hb; have BK777 := Aside0.mk (hbox); have GW777 := Aside0.mk ((by rw [hg]; exact (below_size hb_) : w.heap.size ≤ gb777)); have GE777 := GW777; replace HB := Aside0.mk (below_step hb_ hb); clear hb hbox hg; obtain ⟨hcz34_0, hcz34_1, hcz34_2⟩ := cz3_ BK777.out; obtain ⟨hfz34_0, hfz34_1, hfz34_2⟩ := fz3_ BK777.out))
  replace BK777 := Aside0.mk (blk_drew BK777.out)
  replace HB := Aside0.mk (below_drew1 HB.out)
  refine start_ (n := 25) (S := fun w' => True) (ds := []) (m_ 25 0) (by kernel_rfl) rfl rfl trivial (fun hHeld => ?_); refine with_tabW honeycombref07_Keeps.tab3 honeycombref07_Keeps.bits3 (fun HT_ HW_ => ?_)
  generalize w33.drew = w35 at BK777 HB hHeld ⊢
  refine pq_ 0 (some 27) (m_ 25 1) (h := ?_)
  refine pq_ 1 (some 28) (m_ 25 3) (h := ?_)
  refine pq_ 2 (some 29) (m_ 25 7) (h := ?_)
  refine pu_ 3 (some 30) (m_ 25 15) (h := ?_)
  refine pu_ 4 (some 31) (m_ 25 31) (h := ?_)
  refine pu_ 5 (some 32) (m_ 25 63) (h := ?_)
  refine pu_ 6 (some 33) (m_ 25 127) (h := ?_)
  refine pu_ 7 (some 34) (m_ 25 255) (h := ?_)
  refine pu_ 8 (some 35) (m_ 25 511) (h := ?_)
  refine pu_ 9 (some 36) (m_ 25 1023) (h := ?_)
  refine pu_ 10 (some 37) (m_ 25 2047) (h := ?_)
  refine pu_ 11 (some 38) (m_ 25 4095) (h := ?_)
  refine pu_ 12 (some 39) (m_ 25 8191) (h := ?_)
  refine pu_ 13 (some 40) (m_ 25 16383) (h := ?_)
  refine pu_ 14 (some 41) (m_ 25 32767) (h := ?_)
  refine pu_ 15 (some 42) (m_ 25 65535) (h := ?_)
  refine pu_ 16 (some 43) (m_ 25 131071) (h := ?_)
  refine pu_ 17 (some 44) (m_ 25 262143) (h := ?_)
  refine pu_ 18 (some 45) (m_ 25 524287) (h := ?_)
  refine pu_ 19 (some 46) (m_ 25 1048575) (h := ?_)
  refine pu_ 20 (some 47) (m_ 25 2097151) (h := ?_)
  refine pu_ 21 (some 48) (m_ 25 4194303) (h := ?_)
  refine pu_ 22 (some 49) (m_ 25 8388607) (h := ?_)
  refine pq_ 23 (some 50) (m_ 25 16777215) (h := ?_)
  refine pq_ 24 (some 4) (m_ 25 33554431) (h := ?_)
  refine done_ (done_of HT_.out (by kernel_rfl)) ?_
  try go_wp2
  go_ret
  exact ⟨er_, hg_ GE777.out⟩
 rw [if_pos c17] at H
 have c17b0 : decide (5 < a1) = true := decide_eq_true c17
 clear c17
 by_cases c18 : ((Int.tmod (wrap64 (a1 - 6)) 2) = 1)
 rotate_left
 ·
  rw [if_neg c18] at H
  have c18b0 : ((Int.tmod (wrap64 (a1 - 6)) 2) == 1) = false := beq_eq_false_iff_ne.mpr c18
  have c18b1 : ((Int.tmod (wrap64 (a1 - 6)) 2) != 1) = true := bne_iff_ne.mpr c18
  obtain rfl := Option.some.inj H
  go_enter Tryd.func42, Tryd.ntmps42
  try go_wp2_with (first | ((with_reducible refine gate_dst (N := 2) rfl ?_); refine bx_ 2 #[.int .i64 a0_0, .slice A0_1 l0_1.length c0_1, .slice A0_2 l0_2.length c0_2] 55 ?_; intro gb777 hg w30 hbox hb; have BK777 := Aside0.mk (hbox); have GW777 := Aside0.mk ((by rw [hg]; exact (below_size hb_) : w.heap.size ≤ gb777)); have GE777 := GW777; replace HB := Aside0.mk (below_step hb_ hb); clear hb hbox hg; obtain ⟨hcz31_0, hcz31_1, hcz31_2⟩ := cz3_ BK777.out; obtain ⟨hfz31_0, hfz31_1, hfz31_2⟩ := fz3_ BK777.out))
  replace BK777 := Aside0.mk (blk_drew BK777.out)
  replace HB := Aside0.mk (below_drew1 HB.out)
  refine start_ (n := 25) (S := fun w' => True) (ds := []) (m_ 25 0) (by kernel_rfl) rfl rfl trivial (fun hHeld => ?_); refine with_tabW honeycombref07_Keeps.tab3 honeycombref07_Keeps.bits3 (fun HT_ HW_ => ?_)
  generalize w30.drew = w32 at BK777 HB hHeld ⊢
  refine pq_ 0 (some 27) (m_ 25 1) (h := ?_)
  refine pq_ 1 (some 28) (m_ 25 3) (h := ?_)
  refine pq_ 2 (some 29) (m_ 25 7) (h := ?_)
  refine pu_ 3 (some 30) (m_ 25 15) (h := ?_)
  refine pu_ 4 (some 31) (m_ 25 31) (h := ?_)
  refine pu_ 5 (some 32) (m_ 25 63) (h := ?_)
  refine pu_ 6 (some 33) (m_ 25 127) (h := ?_)
  refine pu_ 7 (some 34) (m_ 25 255) (h := ?_)
  refine pu_ 8 (some 35) (m_ 25 511) (h := ?_)
  refine pu_ 9 (some 36) (m_ 25 1023) (h := ?_)
  refine pu_ 10 (some 37) (m_ 25 2047) (h := ?_)
  refine pu_ 11 (some 38) (m_ 25 4095) (h := ?_)
  refine pu_ 12 (some 39) (m_ 25 8191) (h := ?_)
  refine pu_ 13 (some 40) (m_ 25 16383) (h := ?_)
  refine pu_ 14 (some 41) (m_ 25 32767) (h := ?_)
  refine pu_ 15 (some 42) (m_ 25 65535) (h := ?_)
  refine pu_ 16 (some 43) (m_ 25 131071) (h := ?_)
  refine pu_ 17 (some 44) (m_ 25 262143) (h := ?_)
  refine pu_ 18 (some 45) (m_ 25 524287) (h := ?_)
  refine pu_ 19 (some 46) (m_ 25 1048575) (h := ?_)
  refine pu_ 20 (some 47) (m_ 25 2097151) (h := ?_)
  refine pu_ 21 (some 48) (m_ 25 4194303) (h := ?_)
  refine pu_ 22 (some 49) (m_ 25 8388607) (h := ?_)
  refine pq_ 23 (some 50) (m_ 25 16777215) (h := ?_)
  refine pq_ 24 (some 4) (m_ 25 33554431) (h := ?_)
  refine done_ (done_of HT_.out (by kernel_rfl)) ?_
  try go_wp2
  go_ret
  exact ⟨er_, hg_ GE777.out⟩
 rw [if_pos c18] at H
 have c18b0 : ((Int.tmod (wrap64 (a1 - 6)) 2) == 1) = true := beq_iff_eq.mpr c18
 have c18b1 : ((Int.tmod (wrap64 (a1 - 6)) 2) != 1) = false := bne_eq_false_iff_eq.mpr c18
 clear c18
 by_cases c19 : 0 < (l0_1.length : Int)
 rotate_left
 ·
  rw [if_neg c19] at H
  exact absurd H (by simp)
 rw [if_pos c19] at H
 have c19b0 : decide (0 < (l0_1.length : Int)) = true := decide_eq_true c19
 have c19b1 : decide (0 < l0_1.length) = true := decide_eq_true (by omega)
 clear c19
 by_cases c20 : 1 < (l0_1.length : Int)
 rotate_left
 ·
  rw [if_neg c20] at H
  exact absurd H (by simp)
 rw [if_pos c20] at H
 have c20b0 : decide (1 < (l0_1.length : Int)) = true := decide_eq_true c20
 have c20b1 : decide (1 < l0_1.length) = true := decide_eq_true (by omega)
 clear c20
 by_cases c21 : (rd l0_1 0) = (rd l0_1 1)
 rotate_left
 ·
  rw [if_neg c21] at H
  have c21b0 : ((rd l0_1 0) == (rd l0_1 1)) = false := beq_eq_false_iff_ne.mpr c21
  have c21b1 : ((rd l0_1 0) != (rd l0_1 1)) = true := bne_iff_ne.mpr c21
  obtain rfl := Option.some.inj H
  go_enter Tryd.func42, Tryd.ntmps42
  try go_wp2_with (first | ((with_reducible refine gate_dst (N := 2) rfl ?_); refine bx_ 2 #[.int .i64 a0_0, .slice A0_1 l0_1.length c0_1, .slice A0_2 l0_2.length c0_2] 55 ?_; intro gb777 hg w27 hbox hb; have BK777 := Aside0.mk (hbox); have GW777 := Aside0.mk ((by rw [hg]; exact (below_size hb_) : w.heap.size ≤ gb777)); have GE777 := GW777; replace HB := Aside0.mk (below_step hb_ hb); clear hb hbox hg; obtain ⟨hcz28_0, hcz28_1, hcz28_2⟩ := cz3_ BK777.out; obtain ⟨hfz28_0, hfz28_1, hfz28_2⟩ := fz3_ BK777.out))
  replace BK777 := Aside0.mk (blk_drew BK777.out)
  replace HB := Aside0.mk (below_drew1 HB.out)
  have p782 : 0 ≤ (0 : Int) := (by omega)
  have q782 : 0 < (l0_1.length : Int) := of_decide_eq_true as_
  obtain ⟨ad782, e782, hx782_0⟩ := Kd.at_int HR0_1.out 0 p782 q782
  have hw782_0 := hx782_0
  (try rw [show ((0 : Int)).toNat = 0 from rfl] at hw782_0)
  (try rw [show 0 * 1 = 0 from rfl] at hw782_0)
  (try rw [Addr.add_zero'] at hw782_0)
  cases e782
  have qi782 : (0 < l0_1.length) = True := eq_true (by omega)
  (try rw [show ((0 : Int)).toNat = 0 from rfl] at hx782_0)
  (try rw [Addr.add_zero'] at hx782_0)
  try replace hx782_0 := (HB.out.cell (World.block_lt_of_cell? w _ hx782_0)).trans hx782_0
  replace p782 := eq_true p782
  replace q782 := eq_true q782
  have p783 : 0 ≤ (1 : Int) := (by omega)
  have q783 : 1 < (l0_1.length : Int) := of_decide_eq_true as_
  obtain ⟨ad783, e783, hx783_0⟩ := Kd.at_int HR0_1.out 1 p783 q783
  have hw783_0 := hx783_0
  (try rw [show ((1 : Int)).toNat = 1 from rfl] at hw783_0)
  (try rw [show 1 * 1 = 1 from rfl] at hw783_0)
  (try simp only [Nat.reduceMul, Nat.reduceEqDiff, Go.Addr.add, ↓reduceIte] at hw783_0)
  obtain rfl : ad782 = ad783 := (by injection e783)
  (try simp only [show (1 : Int).toNat = 1 from rfl, Nat.reduceMul, Nat.reduceEqDiff, Go.Addr.add, ↓reduceIte] at hx783_0)
  have qi783 : (1 < l0_1.length) = True := eq_true (by omega)
  (try rw [show ((1 : Int)).toNat = 1 from rfl] at hx783_0)
  try replace hx783_0 := (HB.out.cell (World.block_lt_of_cell? w _ hx783_0)).trans hx783_0
  replace p783 := eq_true p783
  replace q783 := eq_true q783
  refine start_ (n := 25) (S := fun w' => w'.cell? ⟨gb777, 0, none⟩ = some (.int .i64 a0_0) ∧ w'.cell? ⟨gb777, 1, none⟩ = some (.slice (some ad782) l0_1.length c0_1) ∧ w'.cell? ⟨gb777, 2, none⟩ = some (.slice A0_2 l0_2.length c0_2) ∧ w'.cell? ad782 = some (.int .u64 (rd l0_1 0)) ∧ w'.cell? ⟨ad782.block, ad782.off + 1, none⟩ = some (.int .u64 (rd l0_1 1))) (ds := []) (m_ 25 0) (by kernel_rfl) rfl rfl ⟨(blk_cell BK777.out 0).trans rfl, (blk_cell BK777.out 1).trans rfl, (blk_cell BK777.out 2).trans rfl, (by first | exact ((HB.out.cell (World.block_lt_of_cell? w _ hw782_0)).trans hw782_0) | exact hw782_0), (by first | exact ((HB.out.cell (World.block_lt_of_cell? w _ hw783_0)).trans hw783_0) | exact hw783_0)⟩ (fun hHeld => ?_); refine with_tabW honeycombref07_Keeps.tab3 honeycombref07_Keeps.bits3 (fun HT_ HW_ => ?_)
  generalize w27.drew = w29 at BK777 HB hx782_0 hx783_0 hHeld ⊢
  refine pq_ 0 (some 27) (m_ 25 1) (h := ?_)
  refine pq_ 1 (some 28) (m_ 25 3) (h := ?_)
  refine pq_ 2 (some 29) (m_ 25 7) (h := ?_)
  refine pq_ 3 (some 30) (m_ 25 15) (h := ?_)
  refine pq_ 7 (some 34) (m_ 25 143) (h := ?_)
  refine tq5_ 4 (some 31) (m_ 25 159) (h := ?_)
  refine pq_ 5 (some 32) (m_ 25 191) (h := ?_)
  refine tq5_ 6 (some 33) (m_ 25 255) (h := ?_)
  refine tq5_ 8 (some 35) (m_ 25 511) (h := ?_)
  refine pq_ 9 (some 36) (m_ 25 1023) (h := ?_)
  refine tq5_ 10 (some 37) (m_ 25 2047) (h := ?_)
  refine pq_ 11 (some 38) (m_ 25 4095) (h := ?_)
  refine pq_ 12 (some 39) (m_ 25 8191) (h := ?_)
  refine pu_ 13 (some 40) (m_ 25 16383) (h := ?_)
  refine pu_ 14 (some 41) (m_ 25 32767) (h := ?_)
  refine pu_ 15 (some 42) (m_ 25 65535) (h := ?_)
  refine pu_ 16 (some 43) (m_ 25 131071) (h := ?_)
  refine pu_ 17 (some 44) (m_ 25 262143) (h := ?_)
  refine pu_ 18 (some 45) (m_ 25 524287) (h := ?_)
  refine pu_ 19 (some 46) (m_ 25 1048575) (h := ?_)
  refine pu_ 20 (some 47) (m_ 25 2097151) (h := ?_)
  refine pu_ 21 (some 48) (m_ 25 4194303) (h := ?_)
  refine pq_ 22 (some 49) (m_ 25 8388607) (h := ?_)
  refine pq_ 23 (some 50) (m_ 25 16777215) (h := ?_)
  refine pq_ 24 (some 4) (m_ 25 33554431) (h := ?_)
  refine done_ (done_of HT_.out (by kernel_rfl)) ?_
  try go_wp2
  go_ret
  exact ⟨er_, hg_ GE777.out⟩
 rw [if_pos c21] at H
 have c21b0 : ((rd l0_1 0) == (rd l0_1 1)) = true := beq_iff_eq.mpr c21
 have c21b1 : ((rd l0_1 0) != (rd l0_1 1)) = false := bne_eq_false_iff_eq.mpr c21
 clear c21
 by_cases c22 : 0 < (l0_2.length : Int)
 rotate_left
 ·
  rw [if_neg c22] at H
  exact absurd H (by simp)
 rw [if_pos c22] at H
 have c22b0 : decide (0 < (l0_2.length : Int)) = true := decide_eq_true c22
 have c22b1 : decide (0 < l0_2.length) = true := decide_eq_true (by omega)
 clear c22
 by_cases c23 : 1 < (l0_2.length : Int)
 rotate_left
 ·
  rw [if_neg c23] at H
  exact absurd H (by simp)
 rw [if_pos c23] at H
 have c23b0 : decide (1 < (l0_2.length : Int)) = true := decide_eq_true c23
 have c23b1 : decide (1 < l0_2.length) = true := decide_eq_true (by omega)
 clear c23
 obtain rfl := Option.some.inj H
 go_enter Tryd.func42, Tryd.ntmps42
 try go_wp2_with (first | ((with_reducible refine gate_dst (N := 2) rfl ?_); refine bx_ 2 #[.int .i64 a0_0, .slice A0_1 l0_1.length c0_1, .slice A0_2 l0_2.length c0_2] 55 ?_; intro gb777 hg w24 hbox hb; have BK777 := Aside0.mk (hbox); have GW777 := Aside0.mk ((by rw [hg]; exact (below_size hb_) : w.heap.size ≤ gb777)); have GE777 := GW777; replace HB := Aside0.mk (below_step hb_ hb); clear hb hbox hg; obtain ⟨hcz25_0, hcz25_1, hcz25_2⟩ := cz3_ BK777.out; obtain ⟨hfz25_0, hfz25_1, hfz25_2⟩ := fz3_ BK777.out))
 replace BK777 := Aside0.mk (blk_drew BK777.out)
 replace HB := Aside0.mk (below_drew1 HB.out)
 have p782 : 0 ≤ (0 : Int) := (by omega)
 have q782 : 0 < (l0_1.length : Int) := of_decide_eq_true as_
 obtain ⟨ad782, e782, hx782_0⟩ := Kd.at_int HR0_1.out 0 p782 q782
 have hw782_0 := hx782_0
 (try rw [show ((0 : Int)).toNat = 0 from rfl] at hw782_0)
 (try rw [show 0 * 1 = 0 from rfl] at hw782_0)
 (try rw [Addr.add_zero'] at hw782_0)
 cases e782
 have qi782 : (0 < l0_1.length) = True := eq_true (by omega)
 (try rw [show ((0 : Int)).toNat = 0 from rfl] at hx782_0)
 (try rw [Addr.add_zero'] at hx782_0)
 try replace hx782_0 := (HB.out.cell (World.block_lt_of_cell? w _ hx782_0)).trans hx782_0
 replace p782 := eq_true p782
 replace q782 := eq_true q782
 have p783 : 0 ≤ (1 : Int) := (by omega)
 have q783 : 1 < (l0_1.length : Int) := of_decide_eq_true as_
 obtain ⟨ad783, e783, hx783_0⟩ := Kd.at_int HR0_1.out 1 p783 q783
 have hw783_0 := hx783_0
 (try rw [show ((1 : Int)).toNat = 1 from rfl] at hw783_0)
 (try rw [show 1 * 1 = 1 from rfl] at hw783_0)
 (try simp only [Nat.reduceMul, Nat.reduceEqDiff, Go.Addr.add, ↓reduceIte] at hw783_0)
 obtain rfl : ad782 = ad783 := (by injection e783)
 (try simp only [show (1 : Int).toNat = 1 from rfl, Nat.reduceMul, Nat.reduceEqDiff, Go.Addr.add, ↓reduceIte] at hx783_0)
 have qi783 : (1 < l0_1.length) = True := eq_true (by omega)
 (try rw [show ((1 : Int)).toNat = 1 from rfl] at hx783_0)
 try replace hx783_0 := (HB.out.cell (World.block_lt_of_cell? w _ hx783_0)).trans hx783_0
 replace p783 := eq_true p783
 replace q783 := eq_true q783
 have p784 : 0 ≤ (0 : Int) := (by omega)
 have q784 : 0 < (l0_2.length : Int) := of_decide_eq_true as_
 obtain ⟨ad784, e784, hx784_0⟩ := Kd.at_int HR0_2.out 0 p784 q784
 have hw784_0 := hx784_0
 (try rw [show ((0 : Int)).toNat = 0 from rfl] at hw784_0)
 (try rw [show 0 * 1 = 0 from rfl] at hw784_0)
 (try rw [Addr.add_zero'] at hw784_0)
 cases e784
 have qi784 : (0 < l0_2.length) = True := eq_true (by omega)
 (try rw [show ((0 : Int)).toNat = 0 from rfl] at hx784_0)
 (try rw [Addr.add_zero'] at hx784_0)
 try replace hx784_0 := (HB.out.cell (World.block_lt_of_cell? w _ hx784_0)).trans hx784_0
 replace p784 := eq_true p784
 replace q784 := eq_true q784
 have p785 : 0 ≤ (1 : Int) := (by omega)
 have q785 : 1 < (l0_2.length : Int) := of_decide_eq_true as_
 obtain ⟨ad785, e785, hx785_0⟩ := Kd.at_int HR0_2.out 1 p785 q785
 have hw785_0 := hx785_0
 (try rw [show ((1 : Int)).toNat = 1 from rfl] at hw785_0)
 (try rw [show 1 * 1 = 1 from rfl] at hw785_0)
 (try simp only [Nat.reduceMul, Nat.reduceEqDiff, Go.Addr.add, ↓reduceIte] at hw785_0)
 obtain rfl : ad784 = ad785 := (by injection e785)
 (try simp only [show (1 : Int).toNat = 1 from rfl, Nat.reduceMul, Nat.reduceEqDiff, Go.Addr.add, ↓reduceIte] at hx785_0)
 have qi785 : (1 < l0_2.length) = True := eq_true (by omega)
 (try rw [show ((1 : Int)).toNat = 1 from rfl] at hx785_0)
 try replace hx785_0 := (HB.out.cell (World.block_lt_of_cell? w _ hx785_0)).trans hx785_0
 replace p785 := eq_true p785
 replace q785 := eq_true q785
 refine start_ (n := 25) (S := fun w' => w'.cell? ⟨gb777, 0, none⟩ = some (.int .i64 a0_0) ∧ w'.cell? ⟨gb777, 1, none⟩ = some (.slice (some ad782) l0_1.length c0_1) ∧ w'.cell? ⟨gb777, 2, none⟩ = some (.slice (some ad784) l0_2.length c0_2) ∧ w'.cell? ad782 = some (.int .u64 (rd l0_1 0)) ∧ w'.cell? ⟨ad782.block, ad782.off + 1, none⟩ = some (.int .u64 (rd l0_1 1)) ∧ w'.cell? ad784 = some (.int .u64 (rd l0_2 0)) ∧ w'.cell? ⟨ad784.block, ad784.off + 1, none⟩ = some (.int .u64 (rd l0_2 1))) (ds := []) (m_ 25 0) (by kernel_rfl) rfl rfl ⟨(blk_cell BK777.out 0).trans rfl, (blk_cell BK777.out 1).trans rfl, (blk_cell BK777.out 2).trans rfl, (by first | exact ((HB.out.cell (World.block_lt_of_cell? w _ hw782_0)).trans hw782_0) | exact hw782_0), (by first | exact ((HB.out.cell (World.block_lt_of_cell? w _ hw783_0)).trans hw783_0) | exact hw783_0), (by first | exact ((HB.out.cell (World.block_lt_of_cell? w _ hw784_0)).trans hw784_0) | exact hw784_0), (by first | exact ((HB.out.cell (World.block_lt_of_cell? w _ hw785_0)).trans hw785_0) | exact hw785_0)⟩ (fun hHeld => ?_); refine with_tabW honeycombref07_Keeps.tab3 honeycombref07_Keeps.bits3 (fun HT_ HW_ => ?_)
 generalize w24.drew = w26 at BK777 HB hx782_0 hx783_0 hx784_0 hx785_0 hHeld ⊢
 refine pq_ 0 (some 27) (m_ 25 1) (h := ?_)
 refine pq_ 1 (some 28) (m_ 25 3) (h := ?_)
 refine pq_ 2 (some 29) (m_ 25 7) (h := ?_)
 refine pq_ 3 (some 30) (m_ 25 15) (h := ?_)
 refine pq_ 7 (some 34) (m_ 25 143) (h := ?_)
 refine tq7_ 4 (some 31) (m_ 25 159) (h := ?_)
 refine pq_ 5 (some 32) (m_ 25 191) (h := ?_)
 refine tq7_ 6 (some 33) (m_ 25 255) (h := ?_)
 refine tq7_ 8 (some 35) (m_ 25 511) (h := ?_)
 refine pq_ 9 (some 36) (m_ 25 1023) (h := ?_)
 refine tq7_ 10 (some 37) (m_ 25 2047) (h := ?_)
 refine pq_ 11 (some 38) (m_ 25 4095) (h := ?_)
 refine pq_ 12 (some 39) (m_ 25 8191) (h := ?_)
 refine pq_ 13 (some 40) (m_ 25 16383) (h := ?_)
 refine pq_ 17 (some 44) (m_ 25 147455) (h := ?_)
 refine tq7_ 14 (some 41) (m_ 25 163839) (h := ?_)
 refine pq_ 15 (some 42) (m_ 25 196607) (h := ?_)
 refine tq7_ 16 (some 43) (m_ 25 262143) (h := ?_)
 refine tq7_ 18 (some 45) (m_ 25 524287) (h := ?_)
 refine pq_ 19 (some 46) (m_ 25 1048575) (h := ?_)
 refine tq7_ 20 (some 47) (m_ 25 2097151) (h := ?_)
 refine pq_ 21 (some 48) (m_ 25 4194303) (h := ?_)
 refine pq_ 22 (some 49) (m_ 25 8388607) (h := ?_)
 refine pq_ 23 (some 50) (m_ 25 16777215) (h := ?_)
 refine pq_ 24 (some 4) (m_ 25 33554431) (h := ?_)
 refine done_ (done_of HT_.out (by kernel_rfl)) ?_
 try go_wp2
 go_ret
 exact ⟨er_, hg_ GE777.out⟩
end Go.Proofs.YtaeenefdbahfoaaDoor.H
namespace Go.Proofs.YtaeenefdbahfoaaDoor
set_option linter.unusedSimpArgs false
set_option linter.unusedVariables false
open Go.RowKit Go.Proofs.YtaeenefdbahfoaaDoorW.PrintWords Go.Proofs.YtaeenefdbahfoaaDoorW.PrintLast Go.Proofs.YtaeenefdbahfoaaDoorW.PrintMore
open H
open Go.RowKit
/-- does an operator make another one of a ring, with a live centre or not -/
def badW (b s : Int) (o r : Nat) (live : Bool) : Prop := (nxB (if live = true then s else b) r != nxB (if live = true then s else b) (brT o r)) = true
section
variable (b0 b1 s0 s1 : Int)
theorem hexw_l2 (k o r : Nat) (ho : o < 12) (hr : r < 64) :
    (badAt b0 s0 o r = true → ∃ live, badW b0 s0 o r live ∧ iso_hexes.l2 (k + 3) o r o r [false, true] 2 0 1 b0 b1 s0 s1 = some (ofL (patL (r : Int) live 6), (o : Int), true)) ∧
    (badAt b0 s0 o r = false → iso_hexes.l2 (k + 3) o r o r [false, true] 2 0 1 b0 b1 s0 s1 = iso_hexes.l1 k o o ((r + 1 : Nat) : Int) 1 b0 b1 s0 s1) := by
  have hb := brT_lt o r ho hr
  have hbr := br_f o r ho hr
  have n0 := next_f b0 b1 s0 s1 false r hr
  have n1 := next_f b0 b1 s0 s1 true r hr
  have m0 := next_f b0 b1 s0 s1 false (brT o r) hb
  have m1 := next_f b0 b1 s0 s1 true (brT o r) hb
  have r0 : rdOf false [false, true] 0 = false := rfl
  have r1 : rdOf false [false, true] 1 = true := rfl
  have w0 : wrap64 (0 + 1) = 1 := by decide +kernel
  have w1 : wrap64 (1 + 1) = 2 := by decide +kernel
  have wr := wN r (by omega)
  have hbad : badAt b0 s0 o r = ((nxB b0 r != nxB b0 (brT o r)) || (nxB s0 r != nxB s0 (brT o r))) := rfl
  have hw0 : badW b0 s0 o r false = ((nxB b0 r != nxB b0 (brT o r)) = true) := rfl
  have hw1 : badW b0 s0 o r true = ((nxB s0 r != nxB s0 (brT o r)) = true) := rfl
  rw [hbad]
  simp only [↓reduceIte, Bool.false_eq_true] at n0 n1 m0 m1
  generalize nxB b0 r = x0 at n0 hw0 ⊢
  generalize nxB b0 (brT o r) = x1 at m0 hw0 ⊢
  generalize nxB s0 r = y0 at n1 hw1 ⊢
  generalize nxB s0 (brT o r) = y1 at m1 hw1 ⊢
  have e : ∀ k, iso_hexes.l2 (k + 3) o r o r [false, true] 2 0 1 b0 b1 s0 s1 = if (x0 != x1) = true then some (ofL (patL (r : Int) false 6), (o : Int), true) else if (y0 != y1) = true then some (ofL (patL (r : Int) true 6), (o : Int), true) else iso_hexes.l1 k o o ((r + 1 : Nat) : Int) 1 b0 b1 s0 s1 := by
    intro k
    rw [show k + 3 = (k + 2) + 1 from rfl, iso_hexes.l2]
    rw [if_pos (by decide), if_pos (by decide), if_pos (by decide), r0, n0, hbr]
    simp only [Option.bind_some, m0]
    split
    · rfl
    · rw [w0, iso_hexes.l2]
      rw [if_pos (by decide), if_pos (by decide), if_pos (by decide), r1, n1, hbr]
      simp only [Option.bind_some, m1]
      split
      · rfl
      · rw [w1, iso_hexes.l2, if_neg (by decide), wr]
  rw [e k]
  constructor
  · intro hb
    rw [Bool.or_eq_true] at hb
    by_cases h0 : (x0 != x1) = true
    · rw [if_pos h0]
      exact ⟨false, hw0 ▸ h0, rfl⟩
    · rw [if_neg h0, if_pos (hb.resolve_left h0)]
      exact ⟨true, hw1 ▸ hb.resolve_left h0, rfl⟩
  · intro hb
    rw [Bool.or_eq_false_iff] at hb
    rw [hb.1, hb.2]
    simp
theorem hexw_l1 (k o : Nat) (ho : o < 12) : ∀ n r : Nat, r + n = 64 →
    ((∃ q, r ≤ q ∧ q < 64 ∧ badAt b0 s0 o q = true) → ∃ q live, q < 64 ∧ badW b0 s0 o q live ∧ iso_hexes.l1 (k + 4 * n + 1) o o (r : Int) 1 b0 b1 s0 s1 = some (ofL (patL (q : Int) live 6), (o : Int), true)) ∧
    ((∀ q, r ≤ q → q < 64 → badAt b0 s0 o q = false) → iso_hexes.l1 (k + 4 * n + 1) o o (r : Int) 1 b0 b1 s0 s1 = iso_hexes.l0 k ((o + 1 : Nat) : Int) 1 b0 b1 s0 s1) := by
  intro n
  induction n with
  | zero =>
    intro r hr
    refine ⟨fun ⟨q, h1, h2, _⟩ => by omega, fun _ => ?_⟩
    rw [iso_hexes.l1, if_neg (by omega), wN o (by omega)]
  | succ n ih =>
    intro r hr
    have hr64 : r < 64 := by omega
    obtain ⟨i1, i2⟩ := ih (r + 1) (by omega)
    obtain ⟨j1, j2⟩ := hexw_l2 b0 b1 s0 s1 (k + 4 * n + 1) o r ho hr64
    have e : iso_hexes.l1 (k + 4 * (n + 1) + 1) o o (r : Int) 1 b0 b1 s0 s1 = iso_hexes.l2 (k + 4 * n + 1 + 3) o r o r [false, true] 2 0 1 b0 b1 s0 s1 := by
      rw [show k + 4 * (n + 1) + 1 = (k + 4 * n + 1 + 3) + 1 by omega, iso_hexes.l1, if_pos (by omega)]
      rfl
    rw [e]
    cases hb : badAt b0 s0 o r with
    | true =>
      refine ⟨fun _ => ?_, fun h => by rw [h r (Nat.le_refl _) hr64] at hb; cases hb⟩
      obtain ⟨live, h1, h2⟩ := j1 hb
      exact ⟨r, live, hr64, h1, h2⟩
    | false =>
      rw [j2 hb]
      refine ⟨fun ⟨q, h1, h2, h3⟩ => i1 ⟨q, ?_, h2, h3⟩, fun h => i2 fun q h1 h2 => h q (by omega) h2⟩
      rcases Nat.eq_or_lt_of_le h1 with rfl | h
      · rw [hb] at h3; cases h3
      · omega
theorem hexw_l0 (k : Nat) : ∀ n o : Nat, o + n = 12 →
    (∃ p q live, p < 12 ∧ q < 64 ∧ badW b0 s0 p q live ∧ iso_hexes.l0 (k + 258 * n + 1) (o : Int) 1 b0 b1 s0 s1 = some (ofL (patL (q : Int) live 6), (p : Int), true)) ∨
    (iso_hexes.l0 (k + 258 * n + 1) (o : Int) 1 b0 b1 s0 s1 = some ([], 0, false) ∧ ∀ p : Nat, o ≤ p → p < 12 → ∀ q : Nat, q < 64 → badAt b0 s0 p q = false) := by
  intro n
  induction n with
  | zero =>
    intro o ho
    refine .inr ⟨?_, fun p h1 h2 => by omega⟩
    rw [iso_hexes.l0, if_neg (by omega)]
  | succ n ih =>
    intro o ho
    have h12 : o < 12 := by omega
    obtain ⟨j1, j2⟩ := hexw_l1 b0 b1 s0 s1 (k + 258 * n + 1) o h12 64 0 (by omega)
    have e : iso_hexes.l0 (k + 258 * (n + 1) + 1) (o : Int) 1 b0 b1 s0 s1 = iso_hexes.l1 (k + 258 * n + 1 + 4 * 64 + 1) o o ((0 : Nat) : Int) 1 b0 b1 s0 s1 := by
      rw [show k + 258 * (n + 1) + 1 = (k + 258 * n + 1 + 4 * 64 + 1) + 1 by omega, iso_hexes.l0, if_pos (by omega)]
      rfl
    rw [e]
    by_cases hb : ∃ q, 0 ≤ q ∧ q < 64 ∧ badAt b0 s0 o q = true
    · obtain ⟨q, live, h1, h2, h3⟩ := j1 hb
      exact .inl ⟨o, q, live, h12, h1, h2, h3⟩
    · have hnb : ∀ q, 0 ≤ q → q < 64 → badAt b0 s0 o q = false := fun q h1 h2 => by
        cases h : badAt b0 s0 o q with
        | false => rfl
        | true => exact absurd ⟨q, h1, h2, h⟩ hb
      rw [j2 hnb]
      rcases ih (o + 1) (by omega) with h | ⟨h1, h2⟩
      · exact .inl h
      · refine .inr ⟨h1, fun p h3 h4 q h5 => ?_⟩
        rcases Nat.eq_or_lt_of_le h3 with rfl | h
        · exact hnb q (Nat.zero_le _) h5
        · exact h2 p h h4 q h5
/-- what Check finds of a table of hexagons that may be -/
theorem checkw_hex (K : Nat) (hK : 3097 ≤ K) (hc : checkT 1 b0 b1 s0 s1 = none) :
    (∃ p q live, p < 12 ∧ q < 64 ∧ badW b0 s0 p q live ∧ iso_Check.f K 1 b0 b1 s0 s1 = some (ofL (patL (q : Int) live 6), (p : Int), true, none)) ∨
    (iso_Check.f K 1 b0 b1 s0 s1 = some ([], 0, false, none) ∧ ∀ p : Nat, p < 12 → ∀ q : Nat, q < 64 → badAt b0 s0 p q = false) := by
  obtain ⟨k, rfl⟩ : ∃ k, K = k + 3097 := ⟨K - 3097, by omega⟩
  have h := hexw_l0 b0 b1 s0 s1 k 12 0 (by omega)
  have e : ∀ r, iso_hexes.l0 (k + 258 * 12 + 1) ((0 : Nat) : Int) 1 b0 b1 s0 s1 = some r → iso_Check.f (k + 3097) 1 b0 b1 s0 s1 = some (r.1, r.2.1, r.2.2, none) := by
    intro r hr
    unfold iso_Check.f
    rw [show XTCheck.f 1 b0 b1 s0 s1 = some none by unfold XTCheck.f; rw [hc]]
    have hh : iso_hexes.f (k + 3097) 1 b0 b1 s0 s1 = some r := hr
    simp only [Option.bind_some, Option.isNone_none, ↓reduceIte, hh]
  rcases h with ⟨p, q, live, h1, h2, h3, h4⟩ | ⟨h1, h2⟩
  · exact .inl ⟨p, q, live, h1, h2, h3, e _ h4⟩
  · exact .inr ⟨e _ h1, fun p hp q hq => h2 p (Nat.zero_le _) hp q hq⟩
end
theorem xnext_is (L : Int) (b0 b1 s0 s1 : Nat) (h : Int) (live : Bool) (n : Int) : XNext.f L b0 b1 s0 s1 h live n = some (nxtV b0 b1 s0 s1 h live n) := rfl
theorem bes_f (L : Int) (hl : L = 2 ∨ L = 3) : XBeside.f L 0 0 0 = some (besL L Z0, none) := by
  rcases hl with rfl | rfl <;> decide +kernel
section
variable (L : Int) (b0 b1 s0 s1 : Nat) (hl : L = 2 ∨ L = 3)
include hl
theorem triw_l1 (k n : Nat) (hn : n ≤ cntT L) (z : Int) :
    (∃ live, nxtV b0 b1 s0 s1 0 live (n : Int) ≠ nxtV b0 b1 s0 s1 1 live (n : Int) ∧ iso_triangles.l1 (k + 3) (besL L Z0) n z n [false, true] 2 0 L b0 b1 s0 s1 = some (ofL (triL L n live), 1, true)) ∨
    ((∀ live, nxtV b0 b1 s0 s1 0 live (n : Int) = nxtV b0 b1 s0 s1 1 live (n : Int)) ∧ iso_triangles.l1 (k + 3) (besL L Z0) n z n [false, true] 2 0 L b0 b1 s0 s1 = iso_triangles.l0 k (besL L Z0) z ((n + 1 : Nat) : Int) L b0 b1 s0 s1) := by
  have r0 : rdOf false [false, true] 0 = false := rfl
  have r1 : rdOf false [false, true] 1 = true := rfl
  have w0 : wrap64 (0 + 1) = 1 := by decide +kernel
  have w1 : wrap64 (1 + 1) = 2 := by decide +kernel
  have hlen := tri_len2 L hl
  have hn12 : cntT L ≤ 12 := by unfold cntT; split <;> omega
  have wr := wN n (by omega)
  have htl : ((besL L Z0).take n).length ≤ 12 := by rw [List.length_take]; omega
  have e : iso_triangles.l1 (k + 3) (besL L Z0) n z n [false, true] 2 0 L b0 b1 s0 s1 = if (nxtV b0 b1 s0 s1 0 false (n : Int) == nxtV b0 b1 s0 s1 1 false (n : Int)) = true then (if (nxtV b0 b1 s0 s1 0 true (n : Int) == nxtV b0 b1 s0 s1 1 true (n : Int)) = true then iso_triangles.l0 k (besL L Z0) z ((n + 1 : Nat) : Int) L b0 b1 s0 s1 else some (ofL (triL L n true), 1, true)) else some (ofL (triL L n false), 1, true) := by
    rw [show k + 3 = (k + 2) + 1 from rfl, iso_triangles.l1]
    rw [if_pos (by decide), if_pos (by decide), if_pos (by decide), r0, xnext_is, xnext_is]
    simp only [Option.bind_some]
    split
    · rw [w0, show k + 2 = (k + 1) + 1 from rfl, iso_triangles.l1]
      rw [if_pos (by decide), if_pos (by decide), if_pos (by decide), r1, xnext_is, xnext_is]
      simp only [Option.bind_some]
      split
      · rw [w1, iso_triangles.l1, if_neg (by decide), wr]
      · rw [if_pos (by omega), if_pos (by omega), Int.toNat_natCast]
        unfold XClone.f XOf.f
        rw [if_pos (by omega)]
        simp only [Option.bind_some, ↓reduceIte]
        rw [if_pos (by omega), if_pos (by rw [List.length_append]; simp; omega)]
        rfl
    · rw [if_pos (by omega), if_pos (by omega), Int.toNat_natCast]
      unfold XClone.f XOf.f
      rw [if_pos (by omega)]
      simp only [Option.bind_some, Bool.false_eq_true, ↓reduceIte]
      rw [if_pos (by omega)]
      unfold triL
      simp
  rw [e]
  by_cases h0 : (nxtV b0 b1 s0 s1 0 false (n : Int) == nxtV b0 b1 s0 s1 1 false (n : Int)) = true
  · by_cases h1 : (nxtV b0 b1 s0 s1 0 true (n : Int) == nxtV b0 b1 s0 s1 1 true (n : Int)) = true
    · rw [if_pos h0, if_pos h1]
      refine .inr ⟨fun live => ?_, rfl⟩
      cases live
      · exact eq_of_beq h0
      · exact eq_of_beq h1
    · rw [if_pos h0, if_neg h1]
      exact .inl ⟨true, fun e => h1 (beq_iff_eq.2 e), rfl⟩
  · rw [if_neg h0]
    exact .inl ⟨false, fun e => h0 (beq_iff_eq.2 e), rfl⟩
theorem triw_l0 (k : Nat) : ∀ d n : Nat, n + d = cntT L + 1 →
    (∃ q live, q ≤ cntT L ∧ nxtV b0 b1 s0 s1 0 live (q : Int) ≠ nxtV b0 b1 s0 s1 1 live (q : Int) ∧ iso_triangles.l0 (k + 4 * d + 1) (besL L Z0) ((cntT L + 1 : Nat) : Int) n L b0 b1 s0 s1 = some (ofL (triL L q live), 1, true)) ∨
    (iso_triangles.l0 (k + 4 * d + 1) (besL L Z0) ((cntT L + 1 : Nat) : Int) n L b0 b1 s0 s1 = some ([], 0, false) ∧ ∀ q, n ≤ q → q ≤ cntT L → ∀ live, nxtV b0 b1 s0 s1 0 live (q : Int) = nxtV b0 b1 s0 s1 1 live (q : Int)) := by
  intro d
  induction d with
  | zero =>
    intro n hn
    refine .inr ⟨?_, fun q h1 h2 => by omega⟩
    rw [iso_triangles.l0, if_neg (by omega)]
  | succ d ih =>
    intro n hn
    have e : iso_triangles.l0 (k + 4 * (d + 1) + 1) (besL L Z0) ((cntT L + 1 : Nat) : Int) n L b0 b1 s0 s1 = iso_triangles.l1 (k + 4 * d + 1 + 3) (besL L Z0) n ((cntT L + 1 : Nat) : Int) n [false, true] 2 0 L b0 b1 s0 s1 := by
      rw [show k + 4 * (d + 1) + 1 = (k + 4 * d + 1 + 3) + 1 by omega, iso_triangles.l0, if_pos (by omega)]
      rfl
    rw [e]
    rcases triw_l1 L b0 b1 s0 s1 hl (k + 4 * d + 1) n (by omega) ((cntT L + 1 : Nat) : Int) with ⟨live, h1, h2⟩ | ⟨h1, h2⟩
    · exact .inl ⟨n, live, by omega, h1, h2⟩
    · rw [h2]
      rcases ih (n + 1) (by omega) with h | ⟨h3, h4⟩
      · exact .inl h
      · refine .inr ⟨h3, fun q h5 h6 => ?_⟩
        rcases Nat.eq_or_lt_of_le h5 with rfl | h
        · exact h1
        · exact h4 q h h6
theorem checkw_tri (K : Nat) (hK : 100 ≤ K) (hc : checkT L b0 b1 s0 s1 = none) :
    (∃ q live, q ≤ cntT L ∧ nxtV b0 b1 s0 s1 0 live (q : Int) ≠ nxtV b0 b1 s0 s1 1 live (q : Int) ∧ iso_Check.f K L b0 b1 s0 s1 = some (ofL (triL L q live), 1, true, none)) ∨
    (iso_Check.f K L b0 b1 s0 s1 = some ([], 0, false, none) ∧ ∀ q, q ≤ cntT L → ∀ live, nxtV b0 b1 s0 s1 0 live (q : Int) = nxtV b0 b1 s0 s1 1 live (q : Int)) := by
  have hn12 : cntT L ≤ 12 := by unfold cntT; split <;> omega
  obtain ⟨k, rfl⟩ : ∃ k, K = k + 4 * (cntT L + 1) + 1 := ⟨K - (4 * (cntT L + 1) + 1), by omega⟩
  have h := triw_l0 L b0 b1 s0 s1 hl k (cntT L + 1) 0 (by omega)
  have e : ∀ r, iso_triangles.l0 (k + 4 * (cntT L + 1) + 1) (besL L Z0) ((cntT L + 1 : Nat) : Int) ((0 : Nat) : Int) L b0 b1 s0 s1 = some r → iso_Check.f (k + 4 * (cntT L + 1) + 1) L b0 b1 s0 s1 = some (r.1, r.2.1, r.2.2, none) := by
    intro r hr
    unfold iso_Check.f
    rw [show XTCheck.f L b0 b1 s0 s1 = some none by unfold XTCheck.f; rw [hc]]
    have hh : iso_triangles.f (k + 4 * (cntT L + 1) + 1) L b0 b1 s0 s1 = some r := by
      unfold iso_triangles.f
      rw [bes_f L hl, Option.bind_some, tri_len2 L hl, w64i ((cntT L : Int) + 1) (by omega) (by omega)]
      exact hr
    simp only [Option.bind_some, Option.isNone_none, ↓reduceIte, if_neg (show ¬ L = 1 by omega), hh]
  rcases h with ⟨q, live, h1, h2, h3⟩ | ⟨h1, h2⟩
  · exact .inl ⟨q, live, h1, h2, e _ h3⟩
  · exact .inr ⟨e _ h1, fun q hq => h2 q (Nat.zero_le _) hq⟩
end
theorem rturn_tab : ∀ o : Fin 12, ∀ r : Fin 64, honeycombref07_turned.f 200 (o.1 : Int) (r.1 : Int) = some (brT o.1 r.1 : Int) := by decide +kernel
theorem rturn_f (K o r : Nat) (hK : 200 ≤ K) (ho : o < 12) (hr : r < 64) : honeycombref07_turned.f K (o : Int) (r : Int) = some (brT o r : Int) :=
  leO_ge (g := fun k => honeycombref07_turned.f k (o : Int) (r : Int)) (fun k => honeycombref07_turned.mono _ _ k) (rturn_tab ⟨o, ho⟩ ⟨r, hr⟩) K hK
theorem nxt_hex (b0 b1 s0 s1 : Nat) (live : Bool) (r : Nat) (hr : r < 64) : nxtV b0 b1 s0 s1 0 live (r : Int) = nxB (if live = true then (s0 : Int) else (b0 : Int)) (r : Int) := by
  unfold nxtV
  rw [if_neg (by omega)]
  simp only [↓reduceIte]
section
variable {b0 b1 s0 s1 : Nat} (hT : Tb 1 b0 b1 s0 s1)
include hT
theorem rkeeps_l0 (k p : Nat) (hp : p < 12) : ∀ n r : Nat, r + n = 64 → ∃ v, honeycombref07_Keeps.l0 (k + n + 300) (p : Int) (r : Int) 1 [(b0 : Int), (b1 : Int)] [(s0 : Int), (s1 : Int)] = some v ∧ (v = true ↔ ∀ q, r ≤ q → q < 64 → badAt b0 s0 p q = false) := by
  intro n
  induction n with
  | zero =>
    intro r hr
    refine ⟨true, ?_, by simp; intro q h1 h2; omega⟩
    rw [show k + 0 + 300 = (k + 299) + 1 from rfl, honeycombref07_Keeps.l0, if_neg (by omega)]
  | succ n ih =>
    intro r hr
    have hr64 : r < 64 := by omega
    obtain ⟨v, hv, hiff⟩ := ih (r + 1) (by omega)
    have hb := brT_lt p r hp hr64
    obtain ⟨_, _, _, _, q0, q1, q2, q3, _⟩ := hT
    have n0 := rnext_f (k + n + 300) 1 b0 b1 s0 s1 0 false (r : Int) q0 q1 q2 q3 (.inl rfl) (by omega) (by omega) (by omega)
    have n1 := rnext_f (k + n + 300) 1 b0 b1 s0 s1 0 true (r : Int) q0 q1 q2 q3 (.inl rfl) (by omega) (by omega) (by omega)
    have m0 := rnext_f (k + n + 300) 1 b0 b1 s0 s1 0 false (brT p r : Int) q0 q1 q2 q3 (.inl rfl) (by omega) (by omega) (by omega)
    have m1 := rnext_f (k + n + 300) 1 b0 b1 s0 s1 0 true (brT p r : Int) q0 q1 q2 q3 (.inl rfl) (by omega) (by omega) (by omega)
    rw [nxt_hex _ _ _ _ _ r hr64] at n0 n1
    rw [nxt_hex _ _ _ _ _ (brT p r) hb] at m0 m1
    simp only [↓reduceIte, Bool.false_eq_true] at n0 n1 m0 m1
    have ht := rturn_f (k + n + 300) p r (by omega) hp hr64
    have hbad : badAt b0 s0 p r = ((nxB b0 r != nxB b0 (brT p r)) || (nxB s0 r != nxB s0 (brT p r))) := rfl
    rw [show k + (n + 1) + 300 = (k + n + 300) + 1 by omega, honeycombref07_Keeps.l0, if_pos (by omega), n0]
    simp only [Option.bind_some, ht, m0, n1, m1, wN r (by omega)]
    cases h0 : (nxB (b0 : Int) (r : Int) != nxB (b0 : Int) (brT p r : Int)) with
    | true => exact ⟨false, by simp, by simp; exact ⟨r, Nat.le_refl _, hr64, by rw [hbad, h0]; rfl⟩⟩
    | false =>
      cases h1 : (nxB (s0 : Int) (r : Int) != nxB (s0 : Int) (brT p r : Int)) with
      | true => exact ⟨false, by simp, by simp; exact ⟨r, Nat.le_refl _, hr64, by rw [hbad, h0, h1]; rfl⟩⟩
      | false =>
        refine ⟨v, by simpa using hv, hiff.trans ⟨fun h q h2 h3 => ?_, fun h q h2 h3 => h q (by omega) h3⟩⟩
        rcases Nat.eq_or_lt_of_le h2 with rfl | h4
        · rw [hbad, h0, h1]; rfl
        · exact h q h4 h3
end
theorem tmod2 (p : Nat) : Int.tmod (p : Int) 2 = ((p % 2 : Nat) : Int) := by rw [Int.tmod_eq_emod_of_nonneg (by omega)]; omega
theorem rkeeps_f {L : Int} {b0 b1 s0 s1 : Nat} (hT : Tb L b0 b1 s0 s1) (K p : Nat) (hK : 400 ≤ K) (hp : p < 12) :
    ∃ v, honeycombref07_Keeps.f K L [(b0 : Int), (b1 : Int)] [(s0 : Int), (s1 : Int)] (p : Int) = some v ∧ (v = true ↔ KP L b0 b1 s0 s1 p) := by
  by_cases h1 : L = 1
  · subst h1
    obtain ⟨k, rfl⟩ : ∃ k, K = k + 64 + 300 := ⟨K - 364, by omega⟩
    obtain ⟨v, hv, hi⟩ := rkeeps_l0 hT k p hp 64 0 (by omega)
    refine ⟨v, ?_, ?_⟩
    · unfold honeycombref07_Keeps.f
      rw [if_neg (by omega)]
      exact hv
    · unfold KP
      rw [if_pos rfl, hi]
      exact ⟨fun h q hq => h q (Nat.zero_le _) hq, fun h q _ hq => h q hq⟩
  · have hL := hT.1
    have hd0 : (rd [(b0 : Int), (b1 : Int)] 0) = b0 := rfl
    have hd1 : (rd [(b0 : Int), (b1 : Int)] 1) = b1 := rfl
    have he0 : (rd [(s0 : Int), (s1 : Int)] 0) = s0 := rfl
    have he1 : (rd [(s0 : Int), (s1 : Int)] 1) = s1 := rfl
    unfold honeycombref07_Keeps.f KP
    rw [if_pos (by omega), if_neg h1, tmod2]
    simp only [List.length_cons, List.length_nil, hd0, hd1, he0, he1]
    have hA : ∃ v, (if (b0 : Int) = (b1 : Int) then some ((s0 : Int) == (s1 : Int)) else some false) = some v ∧ (v = true ↔ ((b0 : Int) = (b1 : Int) ∧ (s0 : Int) = (s1 : Int))) := by
      by_cases e : (b0 : Int) = (b1 : Int)
      · rw [if_pos e]
        exact ⟨_, rfl, by rw [beq_iff_eq]; exact ⟨fun h => ⟨e, h⟩, fun h => h.2⟩⟩
      · rw [if_neg e]
        exact ⟨false, rfl, by simp; exact fun h => absurd h (by omega)⟩
    obtain ⟨v, hv, hi⟩ := hA
    have f0 : (0 : Int) < ((0 + 1 + 1 : Nat) : Int) := by decide
    have f1 : (1 : Int) < ((0 + 1 + 1 : Nat) : Int) := by decide
    simp only [if_pos f0, if_pos f1, hv]
    by_cases h2 : p % 2 = 1
    · by_cases h6 : p < 6
      · rw [if_pos (by omega), if_pos (by omega)]
        exact ⟨v, rfl, hi.trans ⟨.inr, fun h => h.resolve_left (by omega)⟩⟩
      · have hw : wrap64 ((p : Int) - 6) = ((p - 6 : Nat) : Int) := by rw [w64i _ (by omega) (by omega)]; omega
        rw [if_pos (by omega), if_neg (by omega), if_pos (by omega), hw, tmod2, if_pos (by omega)]
        exact ⟨v, rfl, hi.trans ⟨.inr, fun h => h.resolve_left (by omega)⟩⟩
    · rw [if_neg (by omega)]
      by_cases h6 : (p : Int) > 5
      · have hw : wrap64 ((p : Int) - 6) = ((p - 6 : Nat) : Int) := by rw [w64i _ (by omega) (by omega)]; omega
        rw [if_pos h6, hw, tmod2, if_neg (by omega)]
        exact ⟨true, rfl, by simp; exact .inl (by omega)⟩
      · rw [if_neg h6]
        exact ⟨true, rfl, by simp; exact .inl (by omega)⟩
end Go.Proofs.YtaeenefdbahfoaaDoor
