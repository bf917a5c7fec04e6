/- (Table).Check. -/
import Derived.Test.YtaeenefdbahfoaaDoorXNext
import Derived.Test.YtaeenefdbahfoaaDoorGood
import Derived.Test.YtaeenefdbahfoaaDoorHSmall
namespace Go.Proofs.YtaeenefdbahfoaaDoor
open Go.RowKit Go.Proofs.YtaeenefdbahfoaaDoorW.PrintWords Go.Proofs.YtaeenefdbahfoaaDoorW.PrintLast Go.Proofs.YtaeenefdbahfoaaDoorW.PrintMore
open H
open Go.RowKit

theorem tgood (l : Int) (w : World) : Calls Tryd.prog 80 #[.int .i64 l] w fun e w' => e = .returned (.bool (decide (1 ≤ l ∧ l ≤ 3))) ∧ Below w.heap.size w w' :=
  (lgood_any l w).mono fun _ _ h => ⟨h.1, h.2 ▸ Below.refl _ _⟩
theorem thalves (l : Int) (w : World) : Calls Tryd.prog 87 #[.int .i64 l] w fun e w' => e = .returned (.int .i64 (halvesR l)) ∧ Below w.heap.size w w' :=
  (halves_any l w).mono fun _ _ h => ⟨h.1, h.2 ▸ Below.refl _ _⟩
theorem tmost (l m : Int) (h : table_most.f l = some m) (w : World) : Calls Tryd.prog 86 #[.int .i64 l] w fun e w' => e = .returned (.int .i64 m) ∧ Below w.heap.size w w' :=
  (table_most.calls l m w h).mono fun _ _ h => ⟨h.1, h.2.below⟩
set_option maxRecDepth 100000 in
theorem tcheck_bad (l b0 b1 s0 s1 : Int) (w : World) (hl : ¬ (1 ≤ l ∧ l ≤ 3)) :
    Calls Tryd.prog 53 #[.agg #[.int .i64 l, .int .u64 b0, .int .u64 b1, .int .u64 s0, .int .u64 s1]] w fun e w' => e = .returned (errW (some 11)) ∧ Below w.heap.size w w' := by
  have hg := fun W => tgood l W
  rw [decide_eq_false hl] at hg
  go_enter Tryd.func53, Tryd.ntmps53
  go_wp2_with fail
  obtain ⟨w1, hw1, hcc, hsz, hB1⟩ := one_new w #[.int .i64 l, .int .u64 b0, .int .u64 b1, .int .u64 s0, .int .u64 s1] 29
  rw [← hw1]
  have HB1 := Aside0.mk hB1
  clear hw1 hcc
  refine (hg _).mono ?_
  rintro e w2 ⟨rfl, hb⟩
  have HB := Aside0.mk (HB1.out.trans (hb.mono (by omega)))
  clear hb hB1
  go_wp2
  go_ret
  exact ⟨rfl, HB.out⟩
def badH (b s out : Int) : Bool := (Go.bits .and .u64 b (Go.bits .or .u64 out 1) != 0) || (Go.bits .and .u64 s out != 0)
set_option maxRecDepth 100000 in
set_option maxHeartbeats 2000000 in
theorem tcheck_1 (b0 b1 s0 s1 : Int) (w : World) (X : Option Int) (hX : X = if (badH b0 s0 0 || badH b1 s1 18446744073709551615) = true then some 5 else none) :
    Calls Tryd.prog 53 #[.agg #[.int .i64 1, .int .u64 b0, .int .u64 b1, .int .u64 s0, .int .u64 s1]] w fun e w' => e = .returned (errW X) ∧ Below w.heap.size w w' := by
  have HX := Aside0.mk hX
  clear hX
  have hg := fun W => tgood 1 W
  have hm := fun W => tmost 1 63 rfl W
  have hh := fun W => thalves 1 W
  rw [decide_eq_true (by decide)] at hg
  rw [show halvesR 1 = 1 from rfl] at hh
  go_enter Tryd.func53, Tryd.ntmps53
  go_wp2_with fail
  obtain ⟨w1, hw1, hcc, hsz, hB1⟩ := one_new w #[.int .i64 1, .int .u64 b0, .int .u64 b1, .int .u64 s0, .int .u64 s1] 29
  rw [← hw1]
  have y0 : w1.cell? ⟨w.heap.size, 0, none⟩ = some (.int .i64 1) := hcc 0 _ rfl
  have y1 : w1.cell? ⟨w.heap.size, 1, none⟩ = some (.int .u64 b0) := hcc 1 _ rfl
  have y2 : w1.cell? ⟨w.heap.size, 2, none⟩ = some (.int .u64 b1) := hcc 2 _ rfl
  have y3 : w1.cell? ⟨w.heap.size, 3, none⟩ = some (.int .u64 s0) := hcc 3 _ rfl
  have y4 : w1.cell? ⟨w.heap.size, 4, none⟩ = some (.int .u64 s1) := hcc 4 _ rfl
  have HB1 := Aside0.mk hB1
  clear hw1 hcc hB1
  refine (hg _).mono ?_
  rintro e w2 ⟨rfl, hb⟩
  have y0 := pw_cell_below hb y0
  have y1 := pw_cell_below hb y1
  have y2 := pw_cell_below hb y2
  have y3 := pw_cell_below hb y3
  have y4 := pw_cell_below hb y4
  have HB := Aside0.mk (HB1.out.trans (hb.mono (by omega)))
  clear hb
  go_wp2_with fail
  refine (hm _).mono ?_
  rintro e w3 ⟨rfl, hb⟩
  have y0 := pw_cell_below hb y0
  have y1 := pw_cell_below hb y1
  have y2 := pw_cell_below hb y2
  have y3 := pw_cell_below hb y3
  have y4 := pw_cell_below hb y4
  have hz3 := hb.size
  have HB := Aside0.mk (HB.out.trans (hb.mono (by have := HB.out.size; omega)))
  clear hb
  go_wp2_with fail
  have Y0 := Aside0.mk y0
  have Y1 := Aside0.mk y1
  have Y2 := Aside0.mk y2
  have Y3 := Aside0.mk y3
  have Y4 := Aside0.mk y4
  clear y0 y1 y2 y3 y4
  have hzw := HB.out.size
  go_loopw [20] (fun i wr => ∃ j : Nat, j ≤ 2 ∧ i = .int .i64 j ∧ (0 < j → badH b0 s0 0 = false) ∧ (1 < j → badH b1 s1 18446744073709551615 = false) ∧ Below w3.heap.size w3 wr) (fun i _ => 2 - (intOf i).toNat)
  case atStart => exact ⟨0, by omega, rfl, fun h => absurd h (by omega), fun h => absurd h (by omega), Below.refl _ _⟩
  case round =>
    obtain ⟨j, hj, rfl, g0, g1, hb⟩ := hrel
    have G0 := Aside0.mk g0
    have G1 := Aside0.mk g1
    clear g0 g1
    have y0 := pw_cell_below hb Y0.out
    have y1 := pw_cell_below hb Y1.out
    have y2 := pw_cell_below hb Y2.out
    have y3 := pw_cell_below hb Y3.out
    have y4 := pw_cell_below hb Y4.out
    have HBR := Aside0.mk hb
    clear hb
    have hjj : j = 0 ∨ j = 1 ∨ j = 2 := by omega
    rcases hjj with rfl | rfl | rfl
    · go_wp2_with fail
      refine (hh _).mono ?_
      rintro e w4 ⟨rfl, hb⟩
      have z0 := pw_cell_below hb y0
      have z1 := pw_cell_below hb y1
      have z2 := pw_cell_below hb y2
      have z3 := pw_cell_below hb y3
      have z4 := pw_cell_below hb y4
      have hzr := HBR.out.size
      have HB4 := Aside0.mk (HBR.out.trans (hb.mono (by omega)))
      clear y0 y1 y2 y3 y4 hb
      go_wp2_with fail
      all_goals first
        | (go_roundw; (case rel => exact ⟨1, by omega, by first | rfl | go_num, fun _ => by simp [badH, *], fun h => absurd h (by omega), HB4.out⟩); (case measure => simp [intOf]))
        | (go_ret; refine ⟨?_, HB.out.trans (HB4.out.mono (by omega))⟩; rw [HX.out]; simp [badH, errW, *])
    · go_wp2_with fail
      refine (hh _).mono ?_
      rintro e w4 ⟨rfl, hb⟩
      have z0 := pw_cell_below hb y0
      have z1 := pw_cell_below hb y1
      have z2 := pw_cell_below hb y2
      have z3 := pw_cell_below hb y3
      have z4 := pw_cell_below hb y4
      have hzr := HBR.out.size
      have HB4 := Aside0.mk (HBR.out.trans (hb.mono (by omega)))
      clear y0 y1 y2 y3 y4 hb
      go_wp2_with fail
      all_goals first
        | (go_roundw; (case rel => exact ⟨2, by omega, by first | rfl | go_num, fun _ => G0.out (by omega), fun _ => by simp [badH, *], HB4.out⟩); (case measure => simp [intOf]))
        | (go_ret; refine ⟨?_, HB.out.trans (HB4.out.mono (by omega))⟩; rw [HX.out]; simp [badH, errW, *])
    · have r0 := G0.out (by omega)
      have r1 := G1.out (by omega)
      have hX : X = none := by rw [HX.out, r0, r1]; rfl
      subst hX
      clear y0 y1 y2 y3 y4
      go_wp2
      go_ret
      exact ⟨rfl, HB.out.trans (HBR.out.mono (by have := HB.out.size; omega))⟩
set_option maxRecDepth 100000 in
set_option maxHeartbeats 2000000 in
theorem tcheck_2 (b0 b1 s0 s1 : Int) (w : World) (X : Option Int) (hX : X = if (badH b0 s0 18446744073709551600 || badH b1 s1 18446744073709551600) = true then some 5 else none) :
    Calls Tryd.prog 53 #[.agg #[.int .i64 2, .int .u64 b0, .int .u64 b1, .int .u64 s0, .int .u64 s1]] w fun e w' => e = .returned (errW X) ∧ Below w.heap.size w w' := by
  have hwr : IntKind.u64.wrap 295147905179352825840 = 18446744073709551600 := by decide
  have HX := Aside0.mk hX
  clear hX
  have hg := fun W => tgood 2 W
  have hm := fun W => tmost 2 3 rfl W
  have hh := fun W => thalves 2 W
  rw [decide_eq_true (by decide)] at hg
  rw [show halvesR 2 = 2 from rfl] at hh
  go_enter Tryd.func53, Tryd.ntmps53
  go_wp2_with fail
  obtain ⟨w1, hw1, hcc, hsz, hB1⟩ := one_new w #[.int .i64 2, .int .u64 b0, .int .u64 b1, .int .u64 s0, .int .u64 s1] 29
  rw [← hw1]
  have y0 : w1.cell? ⟨w.heap.size, 0, none⟩ = some (.int .i64 2) := hcc 0 _ rfl
  have y1 : w1.cell? ⟨w.heap.size, 1, none⟩ = some (.int .u64 b0) := hcc 1 _ rfl
  have y2 : w1.cell? ⟨w.heap.size, 2, none⟩ = some (.int .u64 b1) := hcc 2 _ rfl
  have y3 : w1.cell? ⟨w.heap.size, 3, none⟩ = some (.int .u64 s0) := hcc 3 _ rfl
  have y4 : w1.cell? ⟨w.heap.size, 4, none⟩ = some (.int .u64 s1) := hcc 4 _ rfl
  have HB1 := Aside0.mk hB1
  clear hw1 hcc hB1
  refine (hg _).mono ?_
  rintro e w2 ⟨rfl, hb⟩
  have y0 := pw_cell_below hb y0
  have y1 := pw_cell_below hb y1
  have y2 := pw_cell_below hb y2
  have y3 := pw_cell_below hb y3
  have y4 := pw_cell_below hb y4
  have HB := Aside0.mk (HB1.out.trans (hb.mono (by omega)))
  clear hb
  go_wp2_with fail
  refine (hm _).mono ?_
  rintro e w3 ⟨rfl, hb⟩
  have y0 := pw_cell_below hb y0
  have y1 := pw_cell_below hb y1
  have y2 := pw_cell_below hb y2
  have y3 := pw_cell_below hb y3
  have y4 := pw_cell_below hb y4
  have hz3 := hb.size
  have HB := Aside0.mk (HB.out.trans (hb.mono (by have := HB.out.size; omega)))
  clear hb
  go_wp2_with fail
  have Y0 := Aside0.mk y0
  have Y1 := Aside0.mk y1
  have Y2 := Aside0.mk y2
  have Y3 := Aside0.mk y3
  have Y4 := Aside0.mk y4
  clear y0 y1 y2 y3 y4
  have hzw := HB.out.size
  go_loopw [20] (fun i wr => ∃ j : Nat, j ≤ 2 ∧ i = .int .i64 j ∧ (0 < j → badH b0 s0 18446744073709551600 = false) ∧ (1 < j → badH b1 s1 18446744073709551600 = false) ∧ Below w3.heap.size w3 wr) (fun i _ => 2 - (intOf i).toNat)
  case atStart => exact ⟨0, by omega, rfl, fun h => absurd h (by omega), fun h => absurd h (by omega), Below.refl _ _⟩
  case round =>
    obtain ⟨j, hj, rfl, g0, g1, hb⟩ := hrel
    have G0 := Aside0.mk g0
    have G1 := Aside0.mk g1
    clear g0 g1
    have y0 := pw_cell_below hb Y0.out
    have y1 := pw_cell_below hb Y1.out
    have y2 := pw_cell_below hb Y2.out
    have y3 := pw_cell_below hb Y3.out
    have y4 := pw_cell_below hb Y4.out
    have HBR := Aside0.mk hb
    clear hb
    have hjj : j = 0 ∨ j = 1 ∨ j = 2 := by omega
    rcases hjj with rfl | rfl | rfl
    · go_wp2_with fail
      refine (hh _).mono ?_
      rintro e w4 ⟨rfl, hb⟩
      have z0 := pw_cell_below hb y0
      have z1 := pw_cell_below hb y1
      have z2 := pw_cell_below hb y2
      have z3 := pw_cell_below hb y3
      have z4 := pw_cell_below hb y4
      have hzr := HBR.out.size
      have HB4 := Aside0.mk (HBR.out.trans (hb.mono (by omega)))
      clear y0 y1 y2 y3 y4 hb
      go_wp2_with fail
      all_goals first
        | (go_roundw; (case rel => exact ⟨1, by omega, by first | rfl | go_num, fun _ => by simp [badH, *], fun h => absurd h (by omega), HB4.out⟩); (case measure => simp [intOf]))
        | (go_ret; refine ⟨?_, HB.out.trans (HB4.out.mono (by omega))⟩; rw [HX.out]; simp [badH, errW, *])
    · go_wp2_with fail
      refine (hh _).mono ?_
      rintro e w4 ⟨rfl, hb⟩
      have z0 := pw_cell_below hb y0
      have z1 := pw_cell_below hb y1
      have z2 := pw_cell_below hb y2
      have z3 := pw_cell_below hb y3
      have z4 := pw_cell_below hb y4
      have hzr := HBR.out.size
      have HB4 := Aside0.mk (HBR.out.trans (hb.mono (by omega)))
      clear y0 y1 y2 y3 y4 hb
      go_wp2_with fail
      all_goals first
        | (go_roundw; (case rel => exact ⟨2, by omega, by first | rfl | go_num, fun _ => G0.out (by omega), fun _ => by simp [badH, *], HB4.out⟩); (case measure => simp [intOf]))
        | (go_ret; refine ⟨?_, HB.out.trans (HB4.out.mono (by omega))⟩; rw [HX.out]; simp [badH, errW, *])
    · have r0 := G0.out (by omega)
      have r1 := G1.out (by omega)
      have hX : X = none := by rw [HX.out, r0, r1]; rfl
      subst hX
      clear y0 y1 y2 y3 y4
      go_wp2
      go_ret
      exact ⟨rfl, HB.out.trans (HBR.out.mono (by have := HB.out.size; omega))⟩
set_option maxRecDepth 100000 in
set_option maxHeartbeats 2000000 in
theorem tcheck_3 (b0 b1 s0 s1 : Int) (w : World) (X : Option Int) (hX : X = if (badH b0 s0 18446744073709543424 || badH b1 s1 18446744073709543424) = true then some 5 else none) :
    Calls Tryd.prog 53 #[.agg #[.int .i64 3, .int .u64 b0, .int .u64 b1, .int .u64 s0, .int .u64 s1]] w fun e w' => e = .returned (errW X) ∧ Below w.heap.size w w' := by
  have hwr : IntKind.u64.wrap 151115727451828646830080 = 18446744073709543424 := by decide
  have HX := Aside0.mk hX
  clear hX
  have hg := fun W => tgood 3 W
  have hm := fun W => tmost 3 12 rfl W
  have hh := fun W => thalves 3 W
  rw [decide_eq_true (by decide)] at hg
  rw [show halvesR 3 = 2 from rfl] at hh
  go_enter Tryd.func53, Tryd.ntmps53
  go_wp2_with fail
  obtain ⟨w1, hw1, hcc, hsz, hB1⟩ := one_new w #[.int .i64 3, .int .u64 b0, .int .u64 b1, .int .u64 s0, .int .u64 s1] 29
  rw [← hw1]
  have y0 : w1.cell? ⟨w.heap.size, 0, none⟩ = some (.int .i64 3) := hcc 0 _ rfl
  have y1 : w1.cell? ⟨w.heap.size, 1, none⟩ = some (.int .u64 b0) := hcc 1 _ rfl
  have y2 : w1.cell? ⟨w.heap.size, 2, none⟩ = some (.int .u64 b1) := hcc 2 _ rfl
  have y3 : w1.cell? ⟨w.heap.size, 3, none⟩ = some (.int .u64 s0) := hcc 3 _ rfl
  have y4 : w1.cell? ⟨w.heap.size, 4, none⟩ = some (.int .u64 s1) := hcc 4 _ rfl
  have HB1 := Aside0.mk hB1
  clear hw1 hcc hB1
  refine (hg _).mono ?_
  rintro e w2 ⟨rfl, hb⟩
  have y0 := pw_cell_below hb y0
  have y1 := pw_cell_below hb y1
  have y2 := pw_cell_below hb y2
  have y3 := pw_cell_below hb y3
  have y4 := pw_cell_below hb y4
  have HB := Aside0.mk (HB1.out.trans (hb.mono (by omega)))
  clear hb
  go_wp2_with fail
  refine (hm _).mono ?_
  rintro e w3 ⟨rfl, hb⟩
  have y0 := pw_cell_below hb y0
  have y1 := pw_cell_below hb y1
  have y2 := pw_cell_below hb y2
  have y3 := pw_cell_below hb y3
  have y4 := pw_cell_below hb y4
  have hz3 := hb.size
  have HB := Aside0.mk (HB.out.trans (hb.mono (by have := HB.out.size; omega)))
  clear hb
  go_wp2_with fail
  have Y0 := Aside0.mk y0
  have Y1 := Aside0.mk y1
  have Y2 := Aside0.mk y2
  have Y3 := Aside0.mk y3
  have Y4 := Aside0.mk y4
  clear y0 y1 y2 y3 y4
  have hzw := HB.out.size
  go_loopw [20] (fun i wr => ∃ j : Nat, j ≤ 2 ∧ i = .int .i64 j ∧ (0 < j → badH b0 s0 18446744073709543424 = false) ∧ (1 < j → badH b1 s1 18446744073709543424 = false) ∧ Below w3.heap.size w3 wr) (fun i _ => 2 - (intOf i).toNat)
  case atStart => exact ⟨0, by omega, rfl, fun h => absurd h (by omega), fun h => absurd h (by omega), Below.refl _ _⟩
  case round =>
    obtain ⟨j, hj, rfl, g0, g1, hb⟩ := hrel
    have G0 := Aside0.mk g0
    have G1 := Aside0.mk g1
    clear g0 g1
    have y0 := pw_cell_below hb Y0.out
    have y1 := pw_cell_below hb Y1.out
    have y2 := pw_cell_below hb Y2.out
    have y3 := pw_cell_below hb Y3.out
    have y4 := pw_cell_below hb Y4.out
    have HBR := Aside0.mk hb
    clear hb
    have hjj : j = 0 ∨ j = 1 ∨ j = 2 := by omega
    rcases hjj with rfl | rfl | rfl
    · go_wp2_with fail
      refine (hh _).mono ?_
      rintro e w4 ⟨rfl, hb⟩
      have z0 := pw_cell_below hb y0
      have z1 := pw_cell_below hb y1
      have z2 := pw_cell_below hb y2
      have z3 := pw_cell_below hb y3
      have z4 := pw_cell_below hb y4
      have hzr := HBR.out.size
      have HB4 := Aside0.mk (HBR.out.trans (hb.mono (by omega)))
      clear y0 y1 y2 y3 y4 hb
      go_wp2_with fail
      all_goals first
        | (go_roundw; (case rel => exact ⟨1, by omega, by first | rfl | go_num, fun _ => by simp [badH, *], fun h => absurd h (by omega), HB4.out⟩); (case measure => simp [intOf]))
        | (go_ret; refine ⟨?_, HB.out.trans (HB4.out.mono (by omega))⟩; rw [HX.out]; simp [badH, errW, *])
    · go_wp2_with fail
      refine (hh _).mono ?_
      rintro e w4 ⟨rfl, hb⟩
      have z0 := pw_cell_below hb y0
      have z1 := pw_cell_below hb y1
      have z2 := pw_cell_below hb y2
      have z3 := pw_cell_below hb y3
      have z4 := pw_cell_below hb y4
      have hzr := HBR.out.size
      have HB4 := Aside0.mk (HBR.out.trans (hb.mono (by omega)))
      clear y0 y1 y2 y3 y4 hb
      go_wp2_with fail
      all_goals first
        | (go_roundw; (case rel => exact ⟨2, by omega, by first | rfl | go_num, fun _ => G0.out (by omega), fun _ => by simp [badH, *], HB4.out⟩); (case measure => simp [intOf]))
        | (go_ret; refine ⟨?_, HB.out.trans (HB4.out.mono (by omega))⟩; rw [HX.out]; simp [badH, errW, *])
    · have r0 := G0.out (by omega)
      have r1 := G1.out (by omega)
      have hX : X = none := by rw [HX.out, r0, r1]; rfl
      subst hX
      clear y0 y1 y2 y3 y4
      go_wp2
      go_ret
      exact ⟨rfl, HB.out.trans (HBR.out.mono (by have := HB.out.size; omega))⟩
/-- what may be of a table, beyond its lattice -/
def restT (l : Int) : Int := if l = 1 then 0 else if l = 2 then 18446744073709551600 else 18446744073709543424
def outT (l : Int) : Int := if l = 1 then 18446744073709551615 else restT l
def checkT (l b0 b1 s0 s1 : Int) : Option Int := if 1 ≤ l ∧ l ≤ 3 then (if (badH b0 s0 (restT l) || badH b1 s1 (outT l)) = true then some 5 else none) else some 11
def XTCheck.f (l b0 b1 s0 s1 : Int) : Option (Option Int) := some (checkT l b0 b1 s0 s1)
theorem XTCheck.calls (a0_0 : Int) (a0_1 : Int) (a0_2 : Int) (a0_3 : Int) (a0_4 : Int) (r : Option Int) (w : World) (h : XTCheck.f a0_0 a0_1 a0_2 a0_3 a0_4 = some r) :
    Calls Tryd.prog 53 #[.agg #[.int .i64 a0_0, .int .u64 a0_1, .int .u64 a0_2, .int .u64 a0_3, .int .u64 a0_4]] w fun e w' => e = .returned (errW r) ∧ Below w.heap.size w w' := by
  unfold XTCheck.f at h
  obtain rfl := Option.some.inj h
  unfold checkT
  by_cases hl : 1 ≤ a0_0 ∧ a0_0 ≤ 3
  · rw [if_pos hl]
    have hc : a0_0 = 1 ∨ a0_0 = 2 ∨ a0_0 = 3 := by omega
    rcases hc with rfl | rfl | rfl
    · exact tcheck_1 _ _ _ _ w _ rfl
    · exact tcheck_2 _ _ _ _ w _ rfl
    · exact tcheck_3 _ _ _ _ w _ rfl
  · rw [if_neg hl]
    exact tcheck_bad _ _ _ _ _ w hl
end Go.Proofs.YtaeenefdbahfoaaDoor
