/- Parts of the proof (IsoCommutes), merged out of our texts by wip/tools/pack.py: XTCheck, HIso1, PRing2, XClasses, XLetter. -/
import Derived.Test.YtaeenefdbahfoaaDoorKIsoCommutes2
import Derived.Test.YtaeenefdbahfoaaDoorKIsoCommutes1
import Derived.Laws.RangeString
namespace Go.Proofs.YtaeenefdbahfoaaDoor
set_option linter.unusedSimpArgs false
set_option linter.unusedVariables false
open Go.RowKit Go.Proofs.YtaeenefdbahfoaaDoorW.PrintWords Go.Proofs.YtaeenefdbahfoaaDoorW.PrintLast Go.Proofs.YtaeenefdbahfoaaDoorW.PrintMore
open H
open Go.RowKit
theorem tgood (l : Int) (w : World) : Calls Tryd.prog 80 #[.int .i64 l] w fun e w' => e = .returned (.bool (decide (1 ≤ l ∧ l ≤ 3))) ∧ Below w.heap.size w w' :=
  (lgood_any l w).mono fun _ _ h => ⟨h.1, h.2 ▸ Below.refl _ _⟩
theorem thalves (l : Int) (w : World) : Calls Tryd.prog 87 #[.int .i64 l] w fun e w' => e = .returned (.int .i64 (halvesR l)) ∧ Below w.heap.size w w' :=
  (halves_any l w).mono fun _ _ h => ⟨h.1, h.2 ▸ Below.refl _ _⟩
theorem tmost (l m : Int) (h : table_most.f l = some m) (w : World) : Calls Tryd.prog 86 #[.int .i64 l] w fun e w' => e = .returned (.int .i64 m) ∧ Below w.heap.size w w' :=
  (table_most.calls l m w h).mono fun _ _ h => ⟨h.1, h.2.below⟩
set_option maxRecDepth 100000 in
theorem tcheck_bad (l b0 b1 s0 s1 : Int) (w : World) (hl : ¬ (1 ≤ l ∧ l ≤ 3)) :
    Calls Tryd.prog 53 #[.agg #[.int .i64 l, .int .u64 b0, .int .u64 b1, .int .u64 s0, .int .u64 s1]] w fun e w' => e = .returned (errW (some 11)) ∧ Below w.heap.size w w' := by
  have hg := fun W => tgood l W
  rw [decide_eq_false hl] at hg
  go_enter Tryd.func53, Tryd.ntmps53
  go_wp2_with fail
  obtain ⟨w1, hw1, hcc, hsz, hB1⟩ := one_new w #[.int .i64 l, .int .u64 b0, .int .u64 b1, .int .u64 s0, .int .u64 s1] 29
  rw [← hw1]
  have HB1 := Aside0.mk hB1
  clear hw1 hcc
  refine (hg _).mono ?_
  rintro e w2 ⟨rfl, hb⟩
  have HB := Aside0.mk (HB1.out.trans (hb.mono (by omega)))
  clear hb hB1
  go_wp2
  go_ret
  exact ⟨rfl, HB.out⟩
def badH (b s out : Int) : Bool := (Go.bits .and .u64 b (Go.bits .or .u64 out 1) != 0) || (Go.bits .and .u64 s out != 0)
set_option maxRecDepth 100000 in
set_option maxHeartbeats 2000000 in
theorem tcheck_1 (b0 b1 s0 s1 : Int) (w : World) (X : Option Int) (hX : X = if (badH b0 s0 0 || badH b1 s1 18446744073709551615) = true then some 5 else none) :
    Calls Tryd.prog 53 #[.agg #[.int .i64 1, .int .u64 b0, .int .u64 b1, .int .u64 s0, .int .u64 s1]] w fun e w' => e = .returned (errW X) ∧ Below w.heap.size w w' := by
  have HX := Aside0.mk hX
  clear hX
  have hg := fun W => tgood 1 W
  have hm := fun W => tmost 1 63 rfl W
  have hh := fun W => thalves 1 W
  rw [decide_eq_true (by decide)] at hg
  rw [show halvesR 1 = 1 from rfl] at hh
  go_enter Tryd.func53, Tryd.ntmps53
  go_wp2_with fail
  obtain ⟨w1, hw1, hcc, hsz, hB1⟩ := one_new w #[.int .i64 1, .int .u64 b0, .int .u64 b1, .int .u64 s0, .int .u64 s1] 29
  rw [← hw1]
  have y0 : w1.cell? ⟨w.heap.size, 0, none⟩ = some (.int .i64 1) := hcc 0 _ rfl
  have y1 : w1.cell? ⟨w.heap.size, 1, none⟩ = some (.int .u64 b0) := hcc 1 _ rfl
  have y2 : w1.cell? ⟨w.heap.size, 2, none⟩ = some (.int .u64 b1) := hcc 2 _ rfl
  have y3 : w1.cell? ⟨w.heap.size, 3, none⟩ = some (.int .u64 s0) := hcc 3 _ rfl
  have y4 : w1.cell? ⟨w.heap.size, 4, none⟩ = some (.int .u64 s1) := hcc 4 _ rfl
  have HB1 := Aside0.mk hB1
  clear hw1 hcc hB1
  refine (hg _).mono ?_
  rintro e w2 ⟨rfl, hb⟩
  have y0 := pw_cell_below hb y0
  have y1 := pw_cell_below hb y1
  have y2 := pw_cell_below hb y2
  have y3 := pw_cell_below hb y3
  have y4 := pw_cell_below hb y4
  have HB := Aside0.mk (HB1.out.trans (hb.mono (by omega)))
  clear hb
  go_wp2_with fail
  refine (hm _).mono ?_
  rintro e w3 ⟨rfl, hb⟩
  have y0 := pw_cell_below hb y0
  have y1 := pw_cell_below hb y1
  have y2 := pw_cell_below hb y2
  have y3 := pw_cell_below hb y3
  have y4 := pw_cell_below hb y4
  have hz3 := hb.size
  have HB := Aside0.mk (HB.out.trans (hb.mono (by have := HB.out.size; omega)))
  clear hb
  go_wp2_with fail
  have Y0 := Aside0.mk y0
  have Y1 := Aside0.mk y1
  have Y2 := Aside0.mk y2
  have Y3 := Aside0.mk y3
  have Y4 := Aside0.mk y4
  clear y0 y1 y2 y3 y4
  have hzw := HB.out.size
  go_loopw [20] (fun i wr => ∃ j : Nat, j ≤ 2 ∧ i = .int .i64 j ∧ (0 < j → badH b0 s0 0 = false) ∧ (1 < j → badH b1 s1 18446744073709551615 = false) ∧ Below w3.heap.size w3 wr) (fun i _ => 2 - (intOf i).toNat)
  case atStart => exact ⟨0, by omega, rfl, fun h => absurd h (by omega), fun h => absurd h (by omega), Below.refl _ _⟩
  case round =>
    obtain ⟨j, hj, rfl, g0, g1, hb⟩ := hrel
    have G0 := Aside0.mk g0
    have G1 := Aside0.mk g1
    clear g0 g1
    have y0 := pw_cell_below hb Y0.out
    have y1 := pw_cell_below hb Y1.out
    have y2 := pw_cell_below hb Y2.out
    have y3 := pw_cell_below hb Y3.out
    have y4 := pw_cell_below hb Y4.out
    have HBR := Aside0.mk hb
    clear hb
    have hjj : j = 0 ∨ j = 1 ∨ j = 2 := by omega
    rcases hjj with rfl | rfl | rfl
    · go_wp2_with fail
      refine (hh _).mono ?_
      rintro e w4 ⟨rfl, hb⟩
      have z0 := pw_cell_below hb y0
      have z1 := pw_cell_below hb y1
      have z2 := pw_cell_below hb y2
      have z3 := pw_cell_below hb y3
      have z4 := pw_cell_below hb y4
      have hzr := HBR.out.size
      have HB4 := Aside0.mk (HBR.out.trans (hb.mono (by omega)))
      clear y0 y1 y2 y3 y4 hb
      go_wp2_with fail
      all_goals first
        | (go_roundw; (case rel => exact ⟨1, by omega, by first | rfl | go_num, fun _ => by simp [badH, *], fun h => absurd h (by omega), HB4.out⟩); (case measure => simp [intOf]))
        | (go_ret; refine ⟨?_, HB.out.trans (HB4.out.mono (by omega))⟩; rw [HX.out]; simp [badH, errW, *])
    · go_wp2_with fail
      refine (hh _).mono ?_
      rintro e w4 ⟨rfl, hb⟩
      have z0 := pw_cell_below hb y0
      have z1 := pw_cell_below hb y1
      have z2 := pw_cell_below hb y2
      have z3 := pw_cell_below hb y3
      have z4 := pw_cell_below hb y4
      have hzr := HBR.out.size
      have HB4 := Aside0.mk (HBR.out.trans (hb.mono (by omega)))
      clear y0 y1 y2 y3 y4 hb
      go_wp2_with fail
      all_goals first
        | (go_roundw; (case rel => exact ⟨2, by omega, by first | rfl | go_num, fun _ => G0.out (by omega), fun _ => by simp [badH, *], HB4.out⟩); (case measure => simp [intOf]))
        | (go_ret; refine ⟨?_, HB.out.trans (HB4.out.mono (by omega))⟩; rw [HX.out]; simp [badH, errW, *])
    · have r0 := G0.out (by omega)
      have r1 := G1.out (by omega)
      have hX : X = none := by rw [HX.out, r0, r1]; rfl
      subst hX
      clear y0 y1 y2 y3 y4
      go_wp2
      go_ret
      exact ⟨rfl, HB.out.trans (HBR.out.mono (by have := HB.out.size; omega))⟩
set_option maxRecDepth 100000 in
set_option maxHeartbeats 2000000 in
theorem tcheck_2 (b0 b1 s0 s1 : Int) (w : World) (X : Option Int) (hX : X = if (badH b0 s0 18446744073709551600 || badH b1 s1 18446744073709551600) = true then some 5 else none) :
    Calls Tryd.prog 53 #[.agg #[.int .i64 2, .int .u64 b0, .int .u64 b1, .int .u64 s0, .int .u64 s1]] w fun e w' => e = .returned (errW X) ∧ Below w.heap.size w w' := by
  have hwr : IntKind.u64.wrap 295147905179352825840 = 18446744073709551600 := by decide
  have HX := Aside0.mk hX
  clear hX
  have hg := fun W => tgood 2 W
  have hm := fun W => tmost 2 3 rfl W
  have hh := fun W => thalves 2 W
  rw [decide_eq_true (by decide)] at hg
  rw [show halvesR 2 = 2 from rfl] at hh
  go_enter Tryd.func53, Tryd.ntmps53
  go_wp2_with fail
  obtain ⟨w1, hw1, hcc, hsz, hB1⟩ := one_new w #[.int .i64 2, .int .u64 b0, .int .u64 b1, .int .u64 s0, .int .u64 s1] 29
  rw [← hw1]
  have y0 : w1.cell? ⟨w.heap.size, 0, none⟩ = some (.int .i64 2) := hcc 0 _ rfl
  have y1 : w1.cell? ⟨w.heap.size, 1, none⟩ = some (.int .u64 b0) := hcc 1 _ rfl
  have y2 : w1.cell? ⟨w.heap.size, 2, none⟩ = some (.int .u64 b1) := hcc 2 _ rfl
  have y3 : w1.cell? ⟨w.heap.size, 3, none⟩ = some (.int .u64 s0) := hcc 3 _ rfl
  have y4 : w1.cell? ⟨w.heap.size, 4, none⟩ = some (.int .u64 s1) := hcc 4 _ rfl
  have HB1 := Aside0.mk hB1
  clear hw1 hcc hB1
  refine (hg _).mono ?_
  rintro e w2 ⟨rfl, hb⟩
  have y0 := pw_cell_below hb y0
  have y1 := pw_cell_below hb y1
  have y2 := pw_cell_below hb y2
  have y3 := pw_cell_below hb y3
  have y4 := pw_cell_below hb y4
  have HB := Aside0.mk (HB1.out.trans (hb.mono (by omega)))
  clear hb
  go_wp2_with fail
  refine (hm _).mono ?_
  rintro e w3 ⟨rfl, hb⟩
  have y0 := pw_cell_below hb y0
  have y1 := pw_cell_below hb y1
  have y2 := pw_cell_below hb y2
  have y3 := pw_cell_below hb y3
  have y4 := pw_cell_below hb y4
  have hz3 := hb.size
  have HB := Aside0.mk (HB.out.trans (hb.mono (by have := HB.out.size; omega)))
  clear hb
  go_wp2_with fail
  have Y0 := Aside0.mk y0
  have Y1 := Aside0.mk y1
  have Y2 := Aside0.mk y2
  have Y3 := Aside0.mk y3
  have Y4 := Aside0.mk y4
  clear y0 y1 y2 y3 y4
  have hzw := HB.out.size
  go_loopw [20] (fun i wr => ∃ j : Nat, j ≤ 2 ∧ i = .int .i64 j ∧ (0 < j → badH b0 s0 18446744073709551600 = false) ∧ (1 < j → badH b1 s1 18446744073709551600 = false) ∧ Below w3.heap.size w3 wr) (fun i _ => 2 - (intOf i).toNat)
  case atStart => exact ⟨0, by omega, rfl, fun h => absurd h (by omega), fun h => absurd h (by omega), Below.refl _ _⟩
  case round =>
    obtain ⟨j, hj, rfl, g0, g1, hb⟩ := hrel
    have G0 := Aside0.mk g0
    have G1 := Aside0.mk g1
    clear g0 g1
    have y0 := pw_cell_below hb Y0.out
    have y1 := pw_cell_below hb Y1.out
    have y2 := pw_cell_below hb Y2.out
    have y3 := pw_cell_below hb Y3.out
    have y4 := pw_cell_below hb Y4.out
    have HBR := Aside0.mk hb
    clear hb
    have hjj : j = 0 ∨ j = 1 ∨ j = 2 := by omega
    rcases hjj with rfl | rfl | rfl
    · go_wp2_with fail
      refine (hh _).mono ?_
      rintro e w4 ⟨rfl, hb⟩
      have z0 := pw_cell_below hb y0
      have z1 := pw_cell_below hb y1
      have z2 := pw_cell_below hb y2
      have z3 := pw_cell_below hb y3
      have z4 := pw_cell_below hb y4
      have hzr := HBR.out.size
      have HB4 := Aside0.mk (HBR.out.trans (hb.mono (by omega)))
      clear y0 y1 y2 y3 y4 hb
      go_wp2_with fail
      all_goals first
        | (go_roundw; (case rel => exact ⟨1, by omega, by first | rfl | go_num, fun _ => by simp [badH, *], fun h => absurd h (by omega), HB4.out⟩); (case measure => simp [intOf]))
        | (go_ret; refine ⟨?_, HB.out.trans (HB4.out.mono (by omega))⟩; rw [HX.out]; simp [badH, errW, *])
    · go_wp2_with fail
      refine (hh _).mono ?_
      rintro e w4 ⟨rfl, hb⟩
      have z0 := pw_cell_below hb y0
      have z1 := pw_cell_below hb y1
      have z2 := pw_cell_below hb y2
      have z3 := pw_cell_below hb y3
      have z4 := pw_cell_below hb y4
      have hzr := HBR.out.size
      have HB4 := Aside0.mk (HBR.out.trans (hb.mono (by omega)))
      clear y0 y1 y2 y3 y4 hb
      go_wp2_with fail
      all_goals first
        | (go_roundw; (case rel => exact ⟨2, by omega, by first | rfl | go_num, fun _ => G0.out (by omega), fun _ => by simp [badH, *], HB4.out⟩); (case measure => simp [intOf]))
        | (go_ret; refine ⟨?_, HB.out.trans (HB4.out.mono (by omega))⟩; rw [HX.out]; simp [badH, errW, *])
    · have r0 := G0.out (by omega)
      have r1 := G1.out (by omega)
      have hX : X = none := by rw [HX.out, r0, r1]; rfl
      subst hX
      clear y0 y1 y2 y3 y4
      go_wp2
      go_ret
      exact ⟨rfl, HB.out.trans (HBR.out.mono (by have := HB.out.size; omega))⟩
set_option maxRecDepth 100000 in
set_option maxHeartbeats 2000000 in
theorem tcheck_3 (b0 b1 s0 s1 : Int) (w : World) (X : Option Int) (hX : X = if (badH b0 s0 18446744073709543424 || badH b1 s1 18446744073709543424) = true then some 5 else none) :
    Calls Tryd.prog 53 #[.agg #[.int .i64 3, .int .u64 b0, .int .u64 b1, .int .u64 s0, .int .u64 s1]] w fun e w' => e = .returned (errW X) ∧ Below w.heap.size w w' := by
  have hwr : IntKind.u64.wrap 151115727451828646830080 = 18446744073709543424 := by decide
  have HX := Aside0.mk hX
  clear hX
  have hg := fun W => tgood 3 W
  have hm := fun W => tmost 3 12 rfl W
  have hh := fun W => thalves 3 W
  rw [decide_eq_true (by decide)] at hg
  rw [show halvesR 3 = 2 from rfl] at hh
  go_enter Tryd.func53, Tryd.ntmps53
  go_wp2_with fail
  obtain ⟨w1, hw1, hcc, hsz, hB1⟩ := one_new w #[.int .i64 3, .int .u64 b0, .int .u64 b1, .int .u64 s0, .int .u64 s1] 29
  rw [← hw1]
  have y0 : w1.cell? ⟨w.heap.size, 0, none⟩ = some (.int .i64 3) := hcc 0 _ rfl
  have y1 : w1.cell? ⟨w.heap.size, 1, none⟩ = some (.int .u64 b0) := hcc 1 _ rfl
  have y2 : w1.cell? ⟨w.heap.size, 2, none⟩ = some (.int .u64 b1) := hcc 2 _ rfl
  have y3 : w1.cell? ⟨w.heap.size, 3, none⟩ = some (.int .u64 s0) := hcc 3 _ rfl
  have y4 : w1.cell? ⟨w.heap.size, 4, none⟩ = some (.int .u64 s1) := hcc 4 _ rfl
  have HB1 := Aside0.mk hB1
  clear hw1 hcc hB1
  refine (hg _).mono ?_
  rintro e w2 ⟨rfl, hb⟩
  have y0 := pw_cell_below hb y0
  have y1 := pw_cell_below hb y1
  have y2 := pw_cell_below hb y2
  have y3 := pw_cell_below hb y3
  have y4 := pw_cell_below hb y4
  have HB := Aside0.mk (HB1.out.trans (hb.mono (by omega)))
  clear hb
  go_wp2_with fail
  refine (hm _).mono ?_
  rintro e w3 ⟨rfl, hb⟩
  have y0 := pw_cell_below hb y0
  have y1 := pw_cell_below hb y1
  have y2 := pw_cell_below hb y2
  have y3 := pw_cell_below hb y3
  have y4 := pw_cell_below hb y4
  have hz3 := hb.size
  have HB := Aside0.mk (HB.out.trans (hb.mono (by have := HB.out.size; omega)))
  clear hb
  go_wp2_with fail
  have Y0 := Aside0.mk y0
  have Y1 := Aside0.mk y1
  have Y2 := Aside0.mk y2
  have Y3 := Aside0.mk y3
  have Y4 := Aside0.mk y4
  clear y0 y1 y2 y3 y4
  have hzw := HB.out.size
  go_loopw [20] (fun i wr => ∃ j : Nat, j ≤ 2 ∧ i = .int .i64 j ∧ (0 < j → badH b0 s0 18446744073709543424 = false) ∧ (1 < j → badH b1 s1 18446744073709543424 = false) ∧ Below w3.heap.size w3 wr) (fun i _ => 2 - (intOf i).toNat)
  case atStart => exact ⟨0, by omega, rfl, fun h => absurd h (by omega), fun h => absurd h (by omega), Below.refl _ _⟩
  case round =>
    obtain ⟨j, hj, rfl, g0, g1, hb⟩ := hrel
    have G0 := Aside0.mk g0
    have G1 := Aside0.mk g1
    clear g0 g1
    have y0 := pw_cell_below hb Y0.out
    have y1 := pw_cell_below hb Y1.out
    have y2 := pw_cell_below hb Y2.out
    have y3 := pw_cell_below hb Y3.out
    have y4 := pw_cell_below hb Y4.out
    have HBR := Aside0.mk hb
    clear hb
    have hjj : j = 0 ∨ j = 1 ∨ j = 2 := by omega
    rcases hjj with rfl | rfl | rfl
    · go_wp2_with fail
      refine (hh _).mono ?_
      rintro e w4 ⟨rfl, hb⟩
      have z0 := pw_cell_below hb y0
      have z1 := pw_cell_below hb y1
      have z2 := pw_cell_below hb y2
      have z3 := pw_cell_below hb y3
      have z4 := pw_cell_below hb y4
      have hzr := HBR.out.size
      have HB4 := Aside0.mk (HBR.out.trans (hb.mono (by omega)))
      clear y0 y1 y2 y3 y4 hb
      go_wp2_with fail
      all_goals first
        | (go_roundw; (case rel => exact ⟨1, by omega, by first | rfl | go_num, fun _ => by simp [badH, *], fun h => absurd h (by omega), HB4.out⟩); (case measure => simp [intOf]))
        | (go_ret; refine ⟨?_, HB.out.trans (HB4.out.mono (by omega))⟩; rw [HX.out]; simp [badH, errW, *])
    · go_wp2_with fail
      refine (hh _).mono ?_
      rintro e w4 ⟨rfl, hb⟩
      have z0 := pw_cell_below hb y0
      have z1 := pw_cell_below hb y1
      have z2 := pw_cell_below hb y2
      have z3 := pw_cell_below hb y3
      have z4 := pw_cell_below hb y4
      have hzr := HBR.out.size
      have HB4 := Aside0.mk (HBR.out.trans (hb.mono (by omega)))
      clear y0 y1 y2 y3 y4 hb
      go_wp2_with fail
      all_goals first
        | (go_roundw; (case rel => exact ⟨2, by omega, by first | rfl | go_num, fun _ => G0.out (by omega), fun _ => by simp [badH, *], HB4.out⟩); (case measure => simp [intOf]))
        | (go_ret; refine ⟨?_, HB.out.trans (HB4.out.mono (by omega))⟩; rw [HX.out]; simp [badH, errW, *])
    · have r0 := G0.out (by omega)
      have r1 := G1.out (by omega)
      have hX : X = none := by rw [HX.out, r0, r1]; rfl
      subst hX
      clear y0 y1 y2 y3 y4
      go_wp2
      go_ret
      exact ⟨rfl, HB.out.trans (HBR.out.mono (by have := HB.out.size; omega))⟩
/-- what may be of a table, beyond its lattice -/
def restT (l : Int) : Int := if l = 1 then 0 else if l = 2 then 18446744073709551600 else 18446744073709543424
def outT (l : Int) : Int := if l = 1 then 18446744073709551615 else restT l
def checkT (l b0 b1 s0 s1 : Int) : Option Int := if 1 ≤ l ∧ l ≤ 3 then (if (badH b0 s0 (restT l) || badH b1 s1 (outT l)) = true then some 5 else none) else some 11
def XTCheck.f (l b0 b1 s0 s1 : Int) : Option (Option Int) := some (checkT l b0 b1 s0 s1)
theorem XTCheck.calls (a0_0 : Int) (a0_1 : Int) (a0_2 : Int) (a0_3 : Int) (a0_4 : Int) (r : Option Int) (w : World) (h : XTCheck.f a0_0 a0_1 a0_2 a0_3 a0_4 = some r) :
    Calls Tryd.prog 53 #[.agg #[.int .i64 a0_0, .int .u64 a0_1, .int .u64 a0_2, .int .u64 a0_3, .int .u64 a0_4]] w fun e w' => e = .returned (errW r) ∧ Below w.heap.size w w' := by
  unfold XTCheck.f at h
  obtain rfl := Option.some.inj h
  unfold checkT
  by_cases hl : 1 ≤ a0_0 ∧ a0_0 ≤ 3
  · rw [if_pos hl]
    have hc : a0_0 = 1 ∨ a0_0 = 2 ∨ a0_0 = 3 := by omega
    rcases hc with rfl | rfl | rfl
    · exact tcheck_1 _ _ _ _ w _ rfl
    · exact tcheck_2 _ _ _ _ w _ rfl
    · exact tcheck_3 _ _ _ _ w _ rfl
  · rw [if_neg hl]
    exact tcheck_bad _ _ _ _ _ w hl
end Go.Proofs.YtaeenefdbahfoaaDoor
namespace Go.Proofs.YtaeenefdbahfoaaDoor.H
open Go.RowKit Go.Proofs.YtaeenefdbahfoaaDoorW.PrintWords Go.Proofs.YtaeenefdbahfoaaDoorW.PrintLast Go.Proofs.YtaeenefdbahfoaaDoorW.PrintMore
attribute [local go_sem] max2_int min2_int max_two min_two max_three min_three max_four min_four
set_option linter.unusedVariables false
set_option linter.unusedSimpArgs false
mutual
def iso_Keeps.j0 : Nat → Int → Bool → Int → Int → Int → Int → Int → Option (Bool)
 | 0, _, _, _, _, _, _, _ => none
 | k + 1, x1, x16, x194000, x194001, x194002, x194003, x194004 => if x16 = true then (some false) else (if x194000 = 1 then (iso_Keeps.l0 k x1 0 x194000 x194001 x194002 x194003 x194004) else ((XOn.f x194000 x1 0 0 0).bind fun bt197 => (if bt197.2.2.1 = 0 then (some true) else (if x194001 = x194002 then (some (x194003 == x194004)) else (some false)))))
def iso_Keeps.l0 : Nat → Int → Int → Int → Int → Int → Int → Int → Option (Bool)
 | 0, _, _, _, _, _, _, _ => none
 | k + 1, x1, x49, x194000, x194001, x194002, x194003, x194004 => if x49 < 64 then ((XBrought.f x1 x49).bind fun t202 => ((XNext.f x194000 x194001 x194002 x194003 x194004 0 false x49).bind fun t203 => ((XNext.f x194000 x194001 x194002 x194003 x194004 0 false t202).bind fun t204 => (if (t203 != t204) = true then (some false) else ((XNext.f x194000 x194001 x194002 x194003 x194004 0 true x49).bind fun t205 => ((XNext.f x194000 x194001 x194002 x194003 x194004 0 true t202).bind fun t206 => (if (t205 != t206) = true then (some false) else (iso_Keeps.l0 k x1 (wrap64 (x49 + 1)) x194000 x194001 x194002 x194003 x194004)))))))) else (some true)
end
def iso_Keeps.f (k : Nat) (a0_0 : Int) (a0_1 : Int) (a0_2 : Int) (a0_3 : Int) (a0_4 : Int) (a1 : Int) : Option (Bool) := (XTCheck.f a0_0 a0_1 a0_2 a0_3 a0_4).bind fun t194 => (if t194.isNone = true then ((axis_Operator_Good.f a1).bind fun t196 => (iso_Keeps.j0 k a1 (!t196) a0_0 a0_1 a0_2 a0_3 a0_4)) else (iso_Keeps.j0 k a1 true a0_0 a0_1 a0_2 a0_3 a0_4))
def iso_Keeps.T10 : Bool × List (List Nat × List Nat) := (true, [([], []), ([], []), ([0, 1], [0, 1]), ([], []), ([], []), ([3, 4, 2], [3, 4]), ([2, 5], [2, 5]), ([6, 5], [6]), ([7], [7]), ([7], [7]), ([8, 9, 7, 7], [7, 8, 9]), ([7], [7]), ([7], [7]), ([11, 12, 10, 7], [7, 11, 12]), ([10, 13, 7], [7, 10, 13]), ([7, 14], [7, 14])])
def iso_Keeps.B10 : List Nat := [0, 0, 3, 0, 0, 31, 63, 127, 255, 255, 1023, 255, 255, 8191, 16383, 32767]
theorem iso_Keeps.tab10 : rtab .any (opsOf Tryd.f18 10) = iso_Keeps.T10 := by kernel_rfl
theorem iso_Keeps.bits10 : waitsOk iso_Keeps.T10.2 iso_Keeps.B10 = true := by kernel_rfl
set_option maxHeartbeats 8000000 in
set_option maxRecDepth 100000 in
theorem iso_Keeps.calls (k : Nat) (a0_0 : Int) (a0_1 : Int) (a0_2 : Int) (a0_3 : Int) (a0_4 : Int) (a1 : Int) (r : Bool) (w : World) (hGSix : Six w) (h : iso_Keeps.f k a0_0 a0_1 a0_2 a0_3 a0_4 a1 = some r) :
  Calls Tryd.prog 18 #[.agg #[.int .i64 a0_0, .int .u64 a0_1, .int .u64 a0_2, .int .u64 a0_3, .int .u64 a0_4], .int .i64 a1] w fun e w' => e = .returned (.bool r) ∧ Below w.heap.size w w' := by
 have hu29 := Tryd.underlying29
 have hu65 := Tryd.underlying65
 have hu39 := Tryd.underlying39
 have hu87 := Tryd.underlying87
 have HB := Aside0.mk (Below.refl w.heap.size w)
 have HGSix := Aside0.mk hGSix
 clear hGSix
 have H : ((XTCheck.f a0_0 a0_1 a0_2 a0_3 a0_4).bind fun t194 => (if t194.isNone = true then ((axis_Operator_Good.f a1).bind fun t196 => (iso_Keeps.j0 k a1 (!t196) a0_0 a0_1 a0_2 a0_3 a0_4)) else (iso_Keeps.j0 k a1 true a0_0 a0_1 a0_2 a0_3 a0_4))) = some r := h
 clear h
 have HC3 := Aside0.mk H
 clear H
 go_enter Tryd.func18, Tryd.ntmps18
 go_upto_region 1 with (first | ((with_reducible refine gate_dst (N := 2) rfl ?_); refine box_event ?hg (N := 2) ?hd (cs := #[.int .i64 a0_0, .int .u64 a0_1, .int .u64 a0_2, .int .u64 a0_3, .int .u64 a0_4]) (t := 29) ?hr ?_; (case hd => rfl); (case hg => rfl); (case hr => first | (go_simp; done) | (go_simp; rfl)); intro gb193 hg w4 hbox hb; have n0_ := Aside0.mk (below_step hb_ hb); have n1_ := Aside0.mk (hbox); have n2_ := Aside0.mk ((by rw [hg]; exact (below_size hb_) : w.heap.size ≤ gb193)); have n3_ := Aside0.mk ((by rw [hg]; exact (below_size hb_) : w.heap.size ≤ gb193)); clear HB; have HB := n0_; have BK193 := n1_; have GW193 := n2_; have GE193 := n3_; clear n0_ n1_ n2_ n3_; clear hb hbox hg))
 (try simp only [Act.put, List.setIfInBounds_toArray, List.set_cons_zero, List.set_cons_succ])
 go_cut [16] (fun v16 wc => ∃ (kq : Nat) (x16_2 : Bool), v16 = .bool x16_2 ∧ Aside0 (iso_Keeps.j0 kq a1 x16_2 a0_0 a0_1 a0_2 a0_3 a0_4 = some r) ∧ Aside0 (kq ≤ k) ∧ Aside0 (wc.heap[gb193]? = some (.cells #[.int .i64 a0_0, .int .u64 a0_1, .int .u64 a0_2, .int .u64 a0_3, .int .u64 a0_4] 29 (0, 0))) ∧ Aside0 (Below w.heap.size w wc))
 case first =>
  have H := HC3.out
  clear HC3
  replace H := Option.bind_eq_some_iff.mp H
  obtain ⟨t194, A50, H⟩ := H
  replace H : (if t194.isNone = true then ((axis_Operator_Good.f a1).bind fun t196 => (iso_Keeps.j0 k a1 (!t196) a0_0 a0_1 a0_2 a0_3 a0_4)) else (iso_Keeps.j0 k a1 true a0_0 a0_1 a0_2 a0_3 a0_4)) = some r := H
  have A5 := Aside0.mk A50
  clear A50
  rcases t194 with _ | q195
  rotate_left
  ·
   have H1 : (iso_Keeps.j0 k a1 true a0_0 a0_1 a0_2 a0_3 a0_4) = some r := by rw [if_neg (show ¬ (some q195).isNone = true by simp)] at H; exact H
   clear H
   have H := H1
   clear H1
   try simp only [errW_none, errW_some]
   have H' := Aside0.mk H
   clear H
   have hcz9_0 : w4.cell? ⟨gb193, 0, none⟩ = some (.int .i64 a0_0) := (blk_cell BK193.out 0).trans rfl
   have hcz9_1 : w4.cell? ⟨gb193, 1, none⟩ = some (.int .u64 a0_1) := (blk_cell BK193.out 1).trans rfl
   have hcz9_2 : w4.cell? ⟨gb193, 2, none⟩ = some (.int .u64 a0_2) := (blk_cell BK193.out 2).trans rfl
   have hcz9_3 : w4.cell? ⟨gb193, 3, none⟩ = some (.int .u64 a0_3) := (blk_cell BK193.out 3).trans rfl
   have hcz9_4 : w4.cell? ⟨gb193, 4, none⟩ = some (.int .u64 a0_4) := (blk_cell BK193.out 4).trans rfl
   have hfz9_0 := blk_frozen BK193.out 0
   have hfz9_1 := blk_frozen BK193.out 1
   have hfz9_2 := blk_frozen BK193.out 2
   have hfz9_3 := blk_frozen BK193.out 3
   have hfz9_4 := blk_frozen BK193.out 4
   go_wp2_with (first | ((with_reducible refine gate_callee (f := 53) rfl ?_); refine goesL_ (some 10) rfl rfl Tryd.func53 (by kernel_rfl) rfl #[.agg #[.int .i64 a0_0, .int .u64 a0_1, .int .u64 a0_2, .int .u64 a0_3, .int .u64 a0_4]] rfl ar_ ?_; (with_reducible refine (XTCheck.calls a0_0 a0_1 a0_2 a0_3 a0_4 (some q195) _ A5.out).mono ?_); rintro e w10 ⟨rfl, hb⟩; refine ⟨_, rfl, ?_⟩; have n0_ := Aside0.mk (blk_below (g := gb193) (o := .cells #[.int .i64 a0_0, .int .u64 a0_1, .int .u64 a0_2, .int .u64 a0_3, .int .u64 a0_4] 29 (0, 0)) (bk_ BK193.out) hb); have n1_ := Aside0.mk (below_step (hg_ GE193.out) hb); clear BK193; clear HB; have BK193 := n0_; have HB := n1_; clear n0_ n1_; (try clear hb); (try clear hb2); (try clear hk); (try clear hi); (try simp only [errW_none, errW_some])))
   go_meet
   case rel => exact ⟨_, (true), rs_, H', ⟨by first | omega | exact Nat.le_refl _⟩, ⟨bk_ BK193.out⟩, ⟨by repeat (first | (with_reducible first | exact HB.out | apply ba_ | apply bn_ | apply bd_ | refine below_set ?_ GE193.out) | exact HB.out)⟩⟩
  have H1 : ((axis_Operator_Good.f a1).bind fun t196 => (iso_Keeps.j0 k a1 (!t196) a0_0 a0_1 a0_2 a0_3 a0_4)) = some r := by rw [if_pos (show (none : Option Int).isNone = true by rfl)] at H; exact H
  clear H
  have H := H1
  clear H1
  try simp only [errW_none, errW_some]
  replace H := Option.bind_eq_some_iff.mp H
  obtain ⟨t196, A60, H⟩ := H
  replace H : (iso_Keeps.j0 k a1 (!t196) a0_0 a0_1 a0_2 a0_3 a0_4) = some r := H
  have A6 := Aside0.mk A60
  clear A60
  have H' := Aside0.mk H
  clear H
  have hcz7_0 : w4.cell? ⟨gb193, 0, none⟩ = some (.int .i64 a0_0) := (blk_cell BK193.out 0).trans rfl
  have hcz7_1 : w4.cell? ⟨gb193, 1, none⟩ = some (.int .u64 a0_1) := (blk_cell BK193.out 1).trans rfl
  have hcz7_2 : w4.cell? ⟨gb193, 2, none⟩ = some (.int .u64 a0_2) := (blk_cell BK193.out 2).trans rfl
  have hcz7_3 : w4.cell? ⟨gb193, 3, none⟩ = some (.int .u64 a0_3) := (blk_cell BK193.out 3).trans rfl
  have hcz7_4 : w4.cell? ⟨gb193, 4, none⟩ = some (.int .u64 a0_4) := (blk_cell BK193.out 4).trans rfl
  have hfz7_0 := blk_frozen BK193.out 0
  have hfz7_1 := blk_frozen BK193.out 1
  have hfz7_2 := blk_frozen BK193.out 2
  have hfz7_3 := blk_frozen BK193.out 3
  have hfz7_4 := blk_frozen BK193.out 4
  go_wp2_with (first | ((with_reducible refine gate_callee (f := 53) rfl ?_); refine goesL_ (some 10) rfl rfl Tryd.func53 (by kernel_rfl) rfl #[.agg #[.int .i64 a0_0, .int .u64 a0_1, .int .u64 a0_2, .int .u64 a0_3, .int .u64 a0_4]] rfl ar_ ?_; (with_reducible refine (XTCheck.calls a0_0 a0_1 a0_2 a0_3 a0_4 none _ A5.out).mono ?_); rintro e w8 ⟨rfl, hb⟩; refine ⟨_, rfl, ?_⟩; have n0_ := Aside0.mk (blk_below (g := gb193) (o := .cells #[.int .i64 a0_0, .int .u64 a0_1, .int .u64 a0_2, .int .u64 a0_3, .int .u64 a0_4] 29 (0, 0)) (bk_ BK193.out) hb); have n1_ := Aside0.mk (below_step (hg_ GE193.out) hb); clear BK193; clear HB; have BK193 := n0_; have HB := n1_; clear n0_ n1_; (try clear hb); (try clear hb2); (try clear hk); (try clear hi); (try simp only [errW_none, errW_some])) | (go_at_call 44; (with_reducible refine (axis_Operator_Good.calls a1 t196 _ A6.out).mono ?_); rintro e w' ⟨rfl, ⟨nd, rfl⟩⟩))
  go_meet
  case rel => exact ⟨_, (!t196), rs_, H', ⟨by first | omega | exact Nat.le_refl _⟩, ⟨bk_ BK193.out⟩, ⟨by repeat (first | (with_reducible first | exact HB.out | apply ba_ | apply bn_ | apply bd_ | refine below_set ?_ GE193.out) | exact HB.out)⟩⟩
 case rest =>
  clear HC3
  try clear c1
  try clear q1
  try clear p2
  try clear c5
  try clear hcz7_0
  try clear hcz7_1
  try clear hcz7_2
  try clear hcz7_3
  try clear hcz7_4
  try clear hcz9_0
  try clear hcz9_1
  try clear hcz9_2
  try clear hcz9_3
  try clear hcz9_4
  try clear hfz7_0
  try clear hfz7_1
  try clear hfz7_2
  try clear hfz7_3
  try clear hfz7_4
  try clear hfz9_0
  try clear hfz9_1
  try clear hfz9_2
  try clear hfz9_3
  try clear hfz9_4
  try clear q195
  obtain ⟨kq, x16_2, rfl, HA, HJ2, BK193, HB⟩ := hcut
  cases kq with
  | zero => exact absurd HA.out (by simp [iso_Keeps.j0])
  | succ kj2 =>
   have H := HA.out
   clear HA
   simp only [iso_Keeps.j0] at H
   by_cases c11 : x16_2 = true
   ·
    subst c11
    have H1 : (some false) = some r := by rw [if_pos rfl] at H; exact H
    clear H
    have H := H1
    clear H1
    obtain rfl := Option.some.inj H
    go_wp2
    go_ret
    exact ⟨er_, hg_ GE193.out⟩
   replace c11 := Bool.eq_false_iff.mpr c11
   subst c11
   have H1 : (if a0_0 = 1 then (iso_Keeps.l0 kj2 a1 0 a0_0 a0_1 a0_2 a0_3 a0_4) else ((XOn.f a0_0 a1 0 0 0).bind fun bt197 => (if bt197.2.2.1 = 0 then (some true) else (if a0_1 = a0_2 then (some (a0_3 == a0_4)) else (some false))))) = some r := by rw [if_neg (show ¬ (false = true) by decide)] at H; exact H
   clear H
   have H := H1
   clear H1
   by_cases c12 : a0_0 = 1
   rotate_left
   ·
    rw [if_neg c12] at H
    have c12b0 : (a0_0 == 1) = false := beq_eq_false_iff_ne.mpr c12
    have c12b1 : (a0_0 != 1) = true := bne_iff_ne.mpr c12
    replace H := Option.bind_eq_some_iff.mp H
    obtain ⟨⟨t197, t198, t199, t200⟩, A380, H⟩ := H
    replace H : (if t199 = 0 then (some true) else (if a0_1 = a0_2 then (some (a0_3 == a0_4)) else (some false))) = some r := H
    have A38 := Aside0.mk A380
    clear A380
    by_cases c39 : t199 = 0
    ·
     rw [if_pos c39] at H
     have c39b0 : (t199 == 0) = true := beq_iff_eq.mpr c39
     have c39b1 : (t199 != 0) = false := bne_eq_false_iff_eq.mpr c39
     clear c39
     obtain rfl := Option.some.inj H
     have hcz40_0 : wc.cell? ⟨gb193, 0, none⟩ = some (.int .i64 a0_0) := (blk_cell BK193.out 0).trans rfl
     have hcz40_1 : wc.cell? ⟨gb193, 1, none⟩ = some (.int .u64 a0_1) := (blk_cell BK193.out 1).trans rfl
     have hcz40_2 : wc.cell? ⟨gb193, 2, none⟩ = some (.int .u64 a0_2) := (blk_cell BK193.out 2).trans rfl
     have hcz40_3 : wc.cell? ⟨gb193, 3, none⟩ = some (.int .u64 a0_3) := (blk_cell BK193.out 3).trans rfl
     have hcz40_4 : wc.cell? ⟨gb193, 4, none⟩ = some (.int .u64 a0_4) := (blk_cell BK193.out 4).trans rfl
     have hfz40_0 := blk_frozen BK193.out 0
     have hfz40_1 := blk_frozen BK193.out 1
     have hfz40_2 := blk_frozen BK193.out 2
     have hfz40_3 := blk_frozen BK193.out 3
     have hfz40_4 := blk_frozen BK193.out 4
     go_wp2_with (first | ((with_reducible refine gate_callee (f := 56) rfl ?_); refine goesL_ (some 25) rfl rfl Tryd.func56 (by kernel_rfl) rfl #[.int .i64 a0_0, .int .i64 a1, .agg #[.int .i64 0, .int .i64 0, .int .i64 0]] rfl ar_ ?_; (with_reducible refine (XOn.calls a0_0 a1 0 0 0 t197 t198 t199 t200 _ A38.out).mono ?_); rintro e w41 ⟨rfl, hb⟩; refine ⟨_, rfl, ?_⟩; have n0_ := Aside0.mk (blk_below (g := gb193) (o := .cells #[.int .i64 a0_0, .int .u64 a0_1, .int .u64 a0_2, .int .u64 a0_3, .int .u64 a0_4] 29 (0, 0)) (bk_ BK193.out) hb); have n1_ := Aside0.mk (below_step (hg_ GE193.out) hb); clear BK193; clear HB; have BK193 := n0_; have HB := n1_; clear n0_ n1_; (try clear hb); (try clear hb2); (try clear hk); (try clear hi); (try simp only [errW_none, errW_some])) | ((with_reducible refine gate_dst (N := 5) rfl ?_); refine box_event ?hg (N := 5) ?hd (cs := #[.int .i64 0, .int .i64 0, .int .i64 0]) (t := 65) ?hr ?_; (case hd => rfl); (case hg => rfl); (case hr => first | (go_simp; done) | (go_simp; rfl)); intro gb201 hg w42 hbox hb; have n0_ := Aside0.mk (blk_below (g := gb193) (o := .cells #[.int .i64 a0_0, .int .u64 a0_1, .int .u64 a0_2, .int .u64 a0_3, .int .u64 a0_4] 29 (0, 0)) (bk_ BK193.out) hb); have n1_ := Aside0.mk (below_step (hg_ GE193.out) hb); have n2_ := Aside0.mk (hbox); have n3_ := Aside0.mk ((by rw [hg]; exact (below_size (hg_ GE193.out)) : w.heap.size ≤ gb201)); have n4_ := Aside0.mk ((by rw [hg]; exact (below_size (hg_ GE193.out)) : w.heap.size ≤ gb201)); have n5_ := Aside0.mk ((by rw [hg]; exact Nat.ne_of_lt (blk_lt (g := gb193) (o := .cells #[.int .i64 a0_0, .int .u64 a0_1, .int .u64 a0_2, .int .u64 a0_3, .int .u64 a0_4] 29 (0, 0)) (bk_ BK193.out)) : gb193 ≠ gb201)); have n6_ := Aside0.mk ((by rw [hg]; exact Nat.ne_of_gt (blk_lt (g := gb193) (o := .cells #[.int .i64 a0_0, .int .u64 a0_1, .int .u64 a0_2, .int .u64 a0_3, .int .u64 a0_4] 29 (0, 0)) (bk_ BK193.out)) : gb201 ≠ gb193)); clear BK193; clear HB; have BK193 := n0_; have HB := n1_; have BK201 := n2_; have GW201 := n3_; have GE201 := n4_; have NB193_201 := n5_; have NB201_193 := n6_; clear n0_ n1_ n2_ n3_ n4_ n5_ n6_; clear hb hbox hg; have hnb43 := NB201_193.out; have hnc43 := NB193_201.out; have hcz44_0 : w42.cell? ⟨gb201, 0, none⟩ = some (.int .i64 0) := (blk_cell BK201.out 0).trans rfl; have hcz44_1 : w42.cell? ⟨gb201, 1, none⟩ = some (.int .i64 0) := (blk_cell BK201.out 1).trans rfl; have hcz44_2 : w42.cell? ⟨gb201, 2, none⟩ = some (.int .i64 0) := (blk_cell BK201.out 2).trans rfl; have hfz44_0 := blk_frozen BK201.out 0; have hfz44_1 := blk_frozen BK201.out 1; have hfz44_2 := blk_frozen BK201.out 2))
     go_ret
     exact ⟨er_, hg2_ GE193.out GE201.out⟩
    rw [if_neg c39] at H
    have c39b0 : (t199 == 0) = false := beq_eq_false_iff_ne.mpr c39
    have c39b1 : (t199 != 0) = true := bne_iff_ne.mpr c39
    by_cases c45 : a0_1 = a0_2
    rotate_left
    ·
     rw [if_neg c45] at H
     have c45b0 : (a0_1 == a0_2) = false := beq_eq_false_iff_ne.mpr c45
     have c45b1 : (a0_1 != a0_2) = true := bne_iff_ne.mpr c45
     obtain rfl := Option.some.inj H
     have hcz52_0 : wc.cell? ⟨gb193, 0, none⟩ = some (.int .i64 a0_0) := (blk_cell BK193.out 0).trans rfl
     have hcz52_1 : wc.cell? ⟨gb193, 1, none⟩ = some (.int .u64 a0_1) := (blk_cell BK193.out 1).trans rfl
     have hcz52_2 : wc.cell? ⟨gb193, 2, none⟩ = some (.int .u64 a0_2) := (blk_cell BK193.out 2).trans rfl
     have hcz52_3 : wc.cell? ⟨gb193, 3, none⟩ = some (.int .u64 a0_3) := (blk_cell BK193.out 3).trans rfl
     have hcz52_4 : wc.cell? ⟨gb193, 4, none⟩ = some (.int .u64 a0_4) := (blk_cell BK193.out 4).trans rfl
     have hfz52_0 := blk_frozen BK193.out 0
     have hfz52_1 := blk_frozen BK193.out 1
     have hfz52_2 := blk_frozen BK193.out 2
     have hfz52_3 := blk_frozen BK193.out 3
     have hfz52_4 := blk_frozen BK193.out 4
     go_wp2_with (first | ((with_reducible refine gate_callee (f := 56) rfl ?_); refine goesL_ (some 25) rfl rfl Tryd.func56 (by kernel_rfl) rfl #[.int .i64 a0_0, .int .i64 a1, .agg #[.int .i64 0, .int .i64 0, .int .i64 0]] rfl ar_ ?_; (with_reducible refine (XOn.calls a0_0 a1 0 0 0 t197 t198 t199 t200 _ A38.out).mono ?_); rintro e w53 ⟨rfl, hb⟩; refine ⟨_, rfl, ?_⟩; have n0_ := Aside0.mk (blk_below (g := gb193) (o := .cells #[.int .i64 a0_0, .int .u64 a0_1, .int .u64 a0_2, .int .u64 a0_3, .int .u64 a0_4] 29 (0, 0)) (bk_ BK193.out) hb); have n1_ := Aside0.mk (below_step (hg_ GE193.out) hb); clear BK193; clear HB; have BK193 := n0_; have HB := n1_; clear n0_ n1_; (try clear hb); (try clear hb2); (try clear hk); (try clear hi); (try simp only [errW_none, errW_some])) | ((with_reducible refine gate_dst (N := 5) rfl ?_); refine box_event ?hg (N := 5) ?hd (cs := #[.int .i64 0, .int .i64 0, .int .i64 0]) (t := 65) ?hr ?_; (case hd => rfl); (case hg => rfl); (case hr => first | (go_simp; done) | (go_simp; rfl)); intro gb201 hg w54 hbox hb; have n0_ := Aside0.mk (blk_below (g := gb193) (o := .cells #[.int .i64 a0_0, .int .u64 a0_1, .int .u64 a0_2, .int .u64 a0_3, .int .u64 a0_4] 29 (0, 0)) (bk_ BK193.out) hb); have n1_ := Aside0.mk (below_step (hg_ GE193.out) hb); have n2_ := Aside0.mk (hbox); have n3_ := Aside0.mk ((by rw [hg]; exact (below_size (hg_ GE193.out)) : w.heap.size ≤ gb201)); have n4_ := Aside0.mk ((by rw [hg]; exact (below_size (hg_ GE193.out)) : w.heap.size ≤ gb201)); have n5_ := Aside0.mk ((by rw [hg]; exact Nat.ne_of_lt (blk_lt (g := gb193) (o := .cells #[.int .i64 a0_0, .int .u64 a0_1, .int .u64 a0_2, .int .u64 a0_3, .int .u64 a0_4] 29 (0, 0)) (bk_ BK193.out)) : gb193 ≠ gb201)); have n6_ := Aside0.mk ((by rw [hg]; exact Nat.ne_of_gt (blk_lt (g := gb193) (o := .cells #[.int .i64 a0_0, .int .u64 a0_1, .int .u64 a0_2, .int .u64 a0_3, .int .u64 a0_4] 29 (0, 0)) (bk_ BK193.out)) : gb201 ≠ gb193)); clear BK193; clear HB; have BK193 := n0_; have HB := n1_; have BK201 := n2_; have GW201 := n3_; have GE201 := n4_; have NB193_201 := n5_; have NB201_193 := n6_; clear n0_ n1_ n2_ n3_ n4_ n5_ n6_; clear hb hbox hg; have hnb55 := NB201_193.out; have hnc55 := NB193_201.out; have hcz56_0 : w54.cell? ⟨gb201, 0, none⟩ = some (.int .i64 0) := (blk_cell BK201.out 0).trans rfl; have hcz56_1 : w54.cell? ⟨gb201, 1, none⟩ = some (.int .i64 0) := (blk_cell BK201.out 1).trans rfl; have hcz56_2 : w54.cell? ⟨gb201, 2, none⟩ = some (.int .i64 0) := (blk_cell BK201.out 2).trans rfl; have hfz56_0 := blk_frozen BK201.out 0; have hfz56_1 := blk_frozen BK201.out 1; have hfz56_2 := blk_frozen BK201.out 2; have hcz57_0 : w54.cell? ⟨gb193, 0, none⟩ = some (.int .i64 a0_0) := (blk_cell BK193.out 0).trans rfl; have hcz57_1 : w54.cell? ⟨gb193, 1, none⟩ = some (.int .u64 a0_1) := (blk_cell BK193.out 1).trans rfl; have hcz57_2 : w54.cell? ⟨gb193, 2, none⟩ = some (.int .u64 a0_2) := (blk_cell BK193.out 2).trans rfl; have hcz57_3 : w54.cell? ⟨gb193, 3, none⟩ = some (.int .u64 a0_3) := (blk_cell BK193.out 3).trans rfl; have hcz57_4 : w54.cell? ⟨gb193, 4, none⟩ = some (.int .u64 a0_4) := (blk_cell BK193.out 4).trans rfl; have hfz57_0 := blk_frozen BK193.out 0; have hfz57_1 := blk_frozen BK193.out 1; have hfz57_2 := blk_frozen BK193.out 2; have hfz57_3 := blk_frozen BK193.out 3; have hfz57_4 := blk_frozen BK193.out 4))
     go_ret
     exact ⟨er_, hg2_ GE193.out GE201.out⟩
    rw [if_pos c45] at H
    have c45b0 : (a0_1 == a0_2) = true := beq_iff_eq.mpr c45
    have c45b1 : (a0_1 != a0_2) = false := bne_eq_false_iff_eq.mpr c45
    clear c45
    obtain rfl := Option.some.inj H
    have hcz46_0 : wc.cell? ⟨gb193, 0, none⟩ = some (.int .i64 a0_0) := (blk_cell BK193.out 0).trans rfl
    have hcz46_1 : wc.cell? ⟨gb193, 1, none⟩ = some (.int .u64 a0_1) := (blk_cell BK193.out 1).trans rfl
    have hcz46_2 : wc.cell? ⟨gb193, 2, none⟩ = some (.int .u64 a0_2) := (blk_cell BK193.out 2).trans rfl
    have hcz46_3 : wc.cell? ⟨gb193, 3, none⟩ = some (.int .u64 a0_3) := (blk_cell BK193.out 3).trans rfl
    have hcz46_4 : wc.cell? ⟨gb193, 4, none⟩ = some (.int .u64 a0_4) := (blk_cell BK193.out 4).trans rfl
    have hfz46_0 := blk_frozen BK193.out 0
    have hfz46_1 := blk_frozen BK193.out 1
    have hfz46_2 := blk_frozen BK193.out 2
    have hfz46_3 := blk_frozen BK193.out 3
    have hfz46_4 := blk_frozen BK193.out 4
    go_wp2_with (first | ((with_reducible refine gate_callee (f := 56) rfl ?_); refine goesL_ (some 25) rfl rfl Tryd.func56 (by kernel_rfl) rfl #[.int .i64 a0_0, .int .i64 a1, .agg #[.int .i64 0, .int .i64 0, .int .i64 0]] rfl ar_ ?_; (with_reducible refine (XOn.calls a0_0 a1 0 0 0 t197 t198 t199 t200 _ A38.out).mono ?_); rintro e w47 ⟨rfl, hb⟩; refine ⟨_, rfl, ?_⟩; have n0_ := Aside0.mk (blk_below (g := gb193) (o := .cells #[.int .i64 a0_0, .int .u64 a0_1, .int .u64 a0_2, .int .u64 a0_3, .int .u64 a0_4] 29 (0, 0)) (bk_ BK193.out) hb); have n1_ := Aside0.mk (below_step (hg_ GE193.out) hb); clear BK193; clear HB; have BK193 := n0_; have HB := n1_; clear n0_ n1_; (try clear hb); (try clear hb2); (try clear hk); (try clear hi); (try simp only [errW_none, errW_some])) | ((with_reducible refine gate_dst (N := 5) rfl ?_); refine box_event ?hg (N := 5) ?hd (cs := #[.int .i64 0, .int .i64 0, .int .i64 0]) (t := 65) ?hr ?_; (case hd => rfl); (case hg => rfl); (case hr => first | (go_simp; done) | (go_simp; rfl)); intro gb201 hg w48 hbox hb; have n0_ := Aside0.mk (blk_below (g := gb193) (o := .cells #[.int .i64 a0_0, .int .u64 a0_1, .int .u64 a0_2, .int .u64 a0_3, .int .u64 a0_4] 29 (0, 0)) (bk_ BK193.out) hb); have n1_ := Aside0.mk (below_step (hg_ GE193.out) hb); have n2_ := Aside0.mk (hbox); have n3_ := Aside0.mk ((by rw [hg]; exact (below_size (hg_ GE193.out)) : w.heap.size ≤ gb201)); have n4_ := Aside0.mk ((by rw [hg]; exact (below_size (hg_ GE193.out)) : w.heap.size ≤ gb201)); have n5_ := Aside0.mk ((by rw [hg]; exact Nat.ne_of_lt (blk_lt (g := gb193) (o := .cells #[.int .i64 a0_0, .int .u64 a0_1, .int .u64 a0_2, .int .u64 a0_3, .int .u64 a0_4] 29 (0, 0)) (bk_ BK193.out)) : gb193 ≠ gb201)); have n6_ := Aside0.mk ((by rw [hg]; exact Nat.ne_of_gt (blk_lt (g := gb193) (o := .cells #[.int .i64 a0_0, .int .u64 a0_1, .int .u64 a0_2, .int .u64 a0_3, .int .u64 a0_4] 29 (0, 0)) (bk_ BK193.out)) : gb201 ≠ gb193)); clear BK193; clear HB; have BK193 := n0_; have HB := n1_; have BK201 := n2_; have GW201 := n3_; have GE201 := n4_; have NB193_201 := n5_; have NB201_193 := n6_; clear n0_ n1_ n2_ n3_ n4_ n5_ n6_; clear hb hbox hg; have hnb49 := NB201_193.out; have hnc49 := NB193_201.out; have hcz50_0 : w48.cell? ⟨gb201, 0, none⟩ = some (.int .i64 0) := (blk_cell BK201.out 0).trans rfl; have hcz50_1 : w48.cell? ⟨gb201, 1, none⟩ = some (.int .i64 0) := (blk_cell BK201.out 1).trans rfl; have hcz50_2 : w48.cell? ⟨gb201, 2, none⟩ = some (.int .i64 0) := (blk_cell BK201.out 2).trans rfl; have hfz50_0 := blk_frozen BK201.out 0; have hfz50_1 := blk_frozen BK201.out 1; have hfz50_2 := blk_frozen BK201.out 2; have hcz51_0 : w48.cell? ⟨gb193, 0, none⟩ = some (.int .i64 a0_0) := (blk_cell BK193.out 0).trans rfl; have hcz51_1 : w48.cell? ⟨gb193, 1, none⟩ = some (.int .u64 a0_1) := (blk_cell BK193.out 1).trans rfl; have hcz51_2 : w48.cell? ⟨gb193, 2, none⟩ = some (.int .u64 a0_2) := (blk_cell BK193.out 2).trans rfl; have hcz51_3 : w48.cell? ⟨gb193, 3, none⟩ = some (.int .u64 a0_3) := (blk_cell BK193.out 3).trans rfl; have hcz51_4 : w48.cell? ⟨gb193, 4, none⟩ = some (.int .u64 a0_4) := (blk_cell BK193.out 4).trans rfl; have hfz51_0 := blk_frozen BK193.out 0; have hfz51_1 := blk_frozen BK193.out 1; have hfz51_2 := blk_frozen BK193.out 2; have hfz51_3 := blk_frozen BK193.out 3; have hfz51_4 := blk_frozen BK193.out 4))
    go_ret
    exact ⟨er_, hg2_ GE193.out GE201.out⟩
   rw [if_pos c12] at H
   have c12b0 : (a0_0 == 1) = true := beq_iff_eq.mpr c12
   have c12b1 : (a0_0 != 1) = false := bne_eq_false_iff_eq.mpr c12
   clear c12
   have H' := Aside0.mk H
   clear H
   have hcz13_0 : wc.cell? ⟨gb193, 0, none⟩ = some (.int .i64 a0_0) := (blk_cell BK193.out 0).trans rfl
   have hcz13_1 : wc.cell? ⟨gb193, 1, none⟩ = some (.int .u64 a0_1) := (blk_cell BK193.out 1).trans rfl
   have hcz13_2 : wc.cell? ⟨gb193, 2, none⟩ = some (.int .u64 a0_2) := (blk_cell BK193.out 2).trans rfl
   have hcz13_3 : wc.cell? ⟨gb193, 3, none⟩ = some (.int .u64 a0_3) := (blk_cell BK193.out 3).trans rfl
   have hcz13_4 : wc.cell? ⟨gb193, 4, none⟩ = some (.int .u64 a0_4) := (blk_cell BK193.out 4).trans rfl
   have hfz13_0 := blk_frozen BK193.out 0
   have hfz13_1 := blk_frozen BK193.out 1
   have hfz13_2 := blk_frozen BK193.out 2
   have hfz13_3 := blk_frozen BK193.out 3
   have hfz13_4 := blk_frozen BK193.out 4
   go_wp2
   go_loopg [49] kj2 (fun kq v49 w' => ∃ (x49_2 : Int), v49 = .int .i64 x49_2 ∧ Aside0 (iso_Keeps.l0 kq a1 x49_2 a0_0 a0_1 a0_2 a0_3 a0_4 = some r) ∧ Aside0 (kq ≤ kj2) ∧ Aside0 (w'.heap[gb193]? = some (.cells #[.int .i64 a0_0, .int .u64 a0_1, .int .u64 a0_2, .int .u64 a0_3, .int .u64 a0_4] 29 (0, 0))) ∧ Aside0 (Below w.heap.size w w'))
   case atStart => exact ⟨(0), rs_, H', ⟨Nat.le_refl _⟩, ⟨bk_ BK193.out⟩, ⟨by repeat (first | (with_reducible first | exact HB.out | apply ba_ | apply bn_ | apply bd_ | refine below_set ?_ GE193.out) | exact HB.out)⟩⟩
   case round =>
    clear H'
    try clear c1
    try clear q1
    try clear p2
    try clear c5
    try clear c11
    try clear c12
    try clear c12b0
    try clear c12b1
    try clear hcz13_0
    try clear hcz13_1
    try clear hcz13_2
    try clear hcz13_3
    try clear hcz13_4
    try clear hcz7_0
    try clear hcz7_1
    try clear hcz7_2
    try clear hcz7_3
    try clear hcz7_4
    try clear hcz9_0
    try clear hcz9_1
    try clear hcz9_2
    try clear hcz9_3
    try clear hcz9_4
    try clear hfz13_0
    try clear hfz13_1
    try clear hfz13_2
    try clear hfz13_3
    try clear hfz13_4
    try clear hfz7_0
    try clear hfz7_1
    try clear hfz7_2
    try clear hfz7_3
    try clear hfz7_4
    try clear hfz9_0
    try clear hfz9_1
    try clear hfz9_2
    try clear hfz9_3
    try clear hfz9_4
    try clear p2
    try clear q1
    try clear q195
    obtain ⟨x49_2, rfl, HA, HK2, BK193, HB⟩ := hrel
    cases gk with
    | zero => exact absurd HA.out (by simp [iso_Keeps.l0])
    | succ k2 =>
     have H := HA.out
     clear HA
     simp only [iso_Keeps.l0] at H
     by_cases c14 : x49_2 < 64
     rotate_left
     ·
      rw [if_neg c14] at H
      have c14b0 : decide (x49_2 < 64) = false := decide_eq_false c14
      clear c14
      obtain rfl := Option.some.inj H
      go_wp2
      go_ret
      exact ⟨er_, hg_ GE193.out⟩
     rw [if_pos c14] at H
     have c14b0 : decide (x49_2 < 64) = true := decide_eq_true c14
     clear c14
     replace H := Option.bind_eq_some_iff.mp H
     obtain ⟨t202, A150, H⟩ := H
     replace H : ((XNext.f a0_0 a0_1 a0_2 a0_3 a0_4 0 false x49_2).bind fun t203 => ((XNext.f a0_0 a0_1 a0_2 a0_3 a0_4 0 false t202).bind fun t204 => (if (t203 != t204) = true then (some false) else ((XNext.f a0_0 a0_1 a0_2 a0_3 a0_4 0 true x49_2).bind fun t205 => ((XNext.f a0_0 a0_1 a0_2 a0_3 a0_4 0 true t202).bind fun t206 => (if (t205 != t206) = true then (some false) else (iso_Keeps.l0 k2 a1 (wrap64 (x49_2 + 1)) a0_0 a0_1 a0_2 a0_3 a0_4))))))) = some r := H
     have A15 := Aside0.mk A150
     clear A150
     replace H := Option.bind_eq_some_iff.mp H
     obtain ⟨t203, A160, H⟩ := H
     replace H : ((XNext.f a0_0 a0_1 a0_2 a0_3 a0_4 0 false t202).bind fun t204 => (if (t203 != t204) = true then (some false) else ((XNext.f a0_0 a0_1 a0_2 a0_3 a0_4 0 true x49_2).bind fun t205 => ((XNext.f a0_0 a0_1 a0_2 a0_3 a0_4 0 true t202).bind fun t206 => (if (t205 != t206) = true then (some false) else (iso_Keeps.l0 k2 a1 (wrap64 (x49_2 + 1)) a0_0 a0_1 a0_2 a0_3 a0_4)))))) = some r := H
     have A16 := Aside0.mk A160
     clear A160
     replace H := Option.bind_eq_some_iff.mp H
     obtain ⟨t204, A170, H⟩ := H
     replace H : (if (t203 != t204) = true then (some false) else ((XNext.f a0_0 a0_1 a0_2 a0_3 a0_4 0 true x49_2).bind fun t205 => ((XNext.f a0_0 a0_1 a0_2 a0_3 a0_4 0 true t202).bind fun t206 => (if (t205 != t206) = true then (some false) else (iso_Keeps.l0 k2 a1 (wrap64 (x49_2 + 1)) a0_0 a0_1 a0_2 a0_3 a0_4))))) = some r := H
     have A17 := Aside0.mk A170
     clear A170
     by_cases c18 : (t203 != t204) = true
     ·
      rw [if_pos c18] at H
      have c18b0 : (t203 != t204) = true := c18
      (try (have c18b1 : decide (t203 = t204) = false := by simpa using c18))
      (try (have c18b2 : (t203 == t204) = false := by simpa using c18))
      (try (have c18b3 : ¬ (t203 = t204) := by simpa using c18))
      clear c18
      obtain rfl := Option.some.inj H
      try go_wp2_with (first | ((with_reducible refine gate_callee (f := 57) rfl ?_); refine goesL_ (some 54) rfl rfl Tryd.func57 (by kernel_rfl) rfl #[.int .i64 a1, .int .i64 x49_2] rfl ar_ ?_; (with_reducible refine (XBrought.calls a1 x49_2 t202 _ ?side1 A15.out).mono ?_); (case side1 => exact HGSix.out.below (hg_ GE193.out)); rintro e w19 ⟨rfl, hb⟩; refine ⟨_, rfl, ?_⟩; have n0_ := Aside0.mk (blk_below (g := gb193) (o := .cells #[.int .i64 a0_0, .int .u64 a0_1, .int .u64 a0_2, .int .u64 a0_3, .int .u64 a0_4] 29 (0, 0)) (bk_ BK193.out) hb); have n1_ := Aside0.mk (below_step (hg_ GE193.out) hb); clear BK193; clear HB; have BK193 := n0_; have HB := n1_; clear n0_ n1_; (try clear hb); (try clear hb2); (try clear hk); (try clear hi)))
      have n0_ := Aside0.mk (blk_drew BK193.out)
      have n1_ := Aside0.mk (below_drew1 HB.out)
      clear BK193
      clear HB
      have BK193 := n0_
      have HB := n1_
      clear n0_ n1_
      refine start_ (n := 16) (S := fun w' => w'.cell? ⟨gb193, 0, none⟩ = some (.int .i64 a0_0) ∧ w'.cell? ⟨gb193, 1, none⟩ = some (.int .u64 a0_1) ∧ w'.cell? ⟨gb193, 2, none⟩ = some (.int .u64 a0_2) ∧ w'.cell? ⟨gb193, 3, none⟩ = some (.int .u64 a0_3) ∧ w'.cell? ⟨gb193, 4, none⟩ = some (.int .u64 a0_4)) (ds := []) (m_ 16 0) (by kernel_rfl) rfl rfl ⟨(blk_cell BK193.out 0).trans rfl, (blk_cell BK193.out 1).trans rfl, (blk_cell BK193.out 2).trans rfl, (blk_cell BK193.out 3).trans rfl, (blk_cell BK193.out 4).trans rfl⟩ (fun hHeld => ?_); refine with_tabW iso_Keeps.tab10 iso_Keeps.bits10 (fun HT_ HW_ => ?_)
      generalize w19.drew = w20 at BK193 HB hHeld ⊢
      refine pq_ 1 (some 56) (m_ 16 2) (h := ?_)
      refine pq_ 4 (some 59) (m_ 16 18) (h := ?_)
      refine tq5_ 0 (some 55) (m_ 16 19) (h := ?_)
      refine tq5_ 3 (some 58) (m_ 16 27) (h := ?_)
      refine one_ (i := 2) (N := some 57) (m_ 16 31) rfl rfl (one_of HT_.out (by kernel_rfl)) (by decide) (fun K hK => ?_)
      refine goes_ Tryd.func58 (by kernel_rfl) rfl #[.agg #[.int .i64 a0_0, .int .u64 a0_1, .int .u64 a0_2, .int .u64 a0_3, .int .u64 a0_4], .int .i64 0, .bool false, .int .i64 x49_2] (by rfl) rfl rfl ar_ ?_
      with_reducible refine (XNext.calls a0_0 a0_1 a0_2 a0_3 a0_4 0 false x49_2 t203 _ A16.out).mono ?_
      rintro e w21 ⟨rfl, hb⟩
      refine ⟨_, rfl, ?_⟩
      have n0_ := Aside0.mk (blk_below (g := gb193) (o := .cells #[.int .i64 a0_0, .int .u64 a0_1, .int .u64 a0_2, .int .u64 a0_3, .int .u64 a0_4] 29 (0, 0)) (bk_ BK193.out) hb)
      have n1_ := Aside0.mk (below_step (hg_ GE193.out) hb)
      clear BK193
      clear HB
      have BK193 := n0_
      have HB := n1_
      clear n0_ n1_
      (try clear hb)
      (try clear hb2)
      (try clear hk)
      (try clear hi)
      refine hK.out _ _ ⟨(blk_cell BK193.out 0).trans rfl, (blk_cell BK193.out 1).trans rfl, (blk_cell BK193.out 2).trans rfl, (blk_cell BK193.out 3).trans rfl, (blk_cell BK193.out 4).trans rfl⟩ (fun hHeld => ?_)
      clear hK K
      refine norm_ (a' := ?_) ?_ ?_
      rotate_left
      ·
       show Act.put _ (some 57) _ = _
       simp only [puts_]
       rfl
      refine one_ (i := 5) (N := some 60) (m_ 16 63) rfl rfl (one_of HT_.out (by kernel_rfl)) (by decide) (fun K hK => ?_)
      refine goes_ Tryd.func58 (by kernel_rfl) rfl #[.agg #[.int .i64 a0_0, .int .u64 a0_1, .int .u64 a0_2, .int .u64 a0_3, .int .u64 a0_4], .int .i64 0, .bool false, .int .i64 t202] (by rfl) rfl rfl ar_ ?_
      with_reducible refine (XNext.calls a0_0 a0_1 a0_2 a0_3 a0_4 0 false t202 t204 _ A17.out).mono ?_
      rintro e w22 ⟨rfl, hb⟩
      refine ⟨_, rfl, ?_⟩
      have n0_ := Aside0.mk (blk_below (g := gb193) (o := .cells #[.int .i64 a0_0, .int .u64 a0_1, .int .u64 a0_2, .int .u64 a0_3, .int .u64 a0_4] 29 (0, 0)) (bk_ BK193.out) hb)
      have n1_ := Aside0.mk (below_step (hg_ GE193.out) hb)
      clear BK193
      clear HB
      have BK193 := n0_
      have HB := n1_
      clear n0_ n1_
      (try clear hb)
      (try clear hb2)
      (try clear hk)
      (try clear hi)
      refine hK.out _ _ ⟨(blk_cell BK193.out 0).trans rfl, (blk_cell BK193.out 1).trans rfl, (blk_cell BK193.out 2).trans rfl, (blk_cell BK193.out 3).trans rfl, (blk_cell BK193.out 4).trans rfl⟩ (fun hHeld => ?_)
      clear hK K
      refine norm_ (a' := ?_) ?_ ?_
      rotate_left
      ·
       show Act.put _ (some 60) _ = _
       simp only [puts_]
       rfl
      refine pq_ 6 (some 61) (m_ 16 127) (h := ?_)
      refine pq_ 7 (some 62) (m_ 16 255) (h := ?_)
      refine pu_ 8 (some 63) (m_ 16 511) (h := ?_)
      refine pu_ 9 (some 64) (m_ 16 1023) (h := ?_)
      refine pu_ 10 (some 65) (m_ 16 2047) (h := ?_)
      refine pu_ 11 (some 66) (m_ 16 4095) (h := ?_)
      refine pu_ 12 (some 67) (m_ 16 8191) (h := ?_)
      refine pu_ 13 (some 68) (m_ 16 16383) (h := ?_)
      refine pu_ 14 (some 69) (m_ 16 32767) (h := ?_)
      refine pq_ 15 (some 70) (m_ 16 65535) (h := ?_)
      refine done_ (done_of HT_.out (by kernel_rfl)) ?_
      try go_wp2
      go_ret
      exact ⟨er_, hg_ GE193.out⟩
     rw [if_neg c18] at H
     have c18b0 : (t203 != t204) = false := by simpa using c18
     (try (have c18b1 : decide (t203 = t204) = true := by simpa using c18))
     (try (have c18b2 : (t203 == t204) = true := by simpa using c18))
     clear c18
     replace H := Option.bind_eq_some_iff.mp H
     obtain ⟨t205, A230, H⟩ := H
     replace H : ((XNext.f a0_0 a0_1 a0_2 a0_3 a0_4 0 true t202).bind fun t206 => (if (t205 != t206) = true then (some false) else (iso_Keeps.l0 k2 a1 (wrap64 (x49_2 + 1)) a0_0 a0_1 a0_2 a0_3 a0_4))) = some r := H
     have A23 := Aside0.mk A230
     clear A230
     replace H := Option.bind_eq_some_iff.mp H
     obtain ⟨t206, A240, H⟩ := H
     replace H : (if (t205 != t206) = true then (some false) else (iso_Keeps.l0 k2 a1 (wrap64 (x49_2 + 1)) a0_0 a0_1 a0_2 a0_3 a0_4)) = some r := H
     have A24 := Aside0.mk A240
     clear A240
     by_cases c25 : (t205 != t206) = true
     ·
      rw [if_pos c25] at H
      have c25b0 : (t205 != t206) = true := c25
      (try (have c25b1 : decide (t205 = t206) = false := by simpa using c25))
      (try (have c25b2 : (t205 == t206) = false := by simpa using c25))
      (try (have c25b3 : ¬ (t205 = t206) := by simpa using c25))
      clear c25
      obtain rfl := Option.some.inj H
      try go_wp2_with (first | ((with_reducible refine gate_callee (f := 57) rfl ?_); refine goesL_ (some 54) rfl rfl Tryd.func57 (by kernel_rfl) rfl #[.int .i64 a1, .int .i64 x49_2] rfl ar_ ?_; (with_reducible refine (XBrought.calls a1 x49_2 t202 _ ?side1 A15.out).mono ?_); (case side1 => exact HGSix.out.below (hg_ GE193.out)); rintro e w26 ⟨rfl, hb⟩; refine ⟨_, rfl, ?_⟩; have n0_ := Aside0.mk (blk_below (g := gb193) (o := .cells #[.int .i64 a0_0, .int .u64 a0_1, .int .u64 a0_2, .int .u64 a0_3, .int .u64 a0_4] 29 (0, 0)) (bk_ BK193.out) hb); have n1_ := Aside0.mk (below_step (hg_ GE193.out) hb); clear BK193; clear HB; have BK193 := n0_; have HB := n1_; clear n0_ n1_; (try clear hb); (try clear hb2); (try clear hk); (try clear hi)))
      have n0_ := Aside0.mk (blk_drew BK193.out)
      have n1_ := Aside0.mk (below_drew1 HB.out)
      clear BK193
      clear HB
      have BK193 := n0_
      have HB := n1_
      clear n0_ n1_
      refine start_ (n := 16) (S := fun w' => w'.cell? ⟨gb193, 0, none⟩ = some (.int .i64 a0_0) ∧ w'.cell? ⟨gb193, 1, none⟩ = some (.int .u64 a0_1) ∧ w'.cell? ⟨gb193, 2, none⟩ = some (.int .u64 a0_2) ∧ w'.cell? ⟨gb193, 3, none⟩ = some (.int .u64 a0_3) ∧ w'.cell? ⟨gb193, 4, none⟩ = some (.int .u64 a0_4)) (ds := []) (m_ 16 0) (by kernel_rfl) rfl rfl ⟨(blk_cell BK193.out 0).trans rfl, (blk_cell BK193.out 1).trans rfl, (blk_cell BK193.out 2).trans rfl, (blk_cell BK193.out 3).trans rfl, (blk_cell BK193.out 4).trans rfl⟩ (fun hHeld => ?_); refine with_tabW iso_Keeps.tab10 iso_Keeps.bits10 (fun HT_ HW_ => ?_)
      generalize w26.drew = w27 at BK193 HB hHeld ⊢
      refine pq_ 1 (some 56) (m_ 16 2) (h := ?_)
      refine pq_ 4 (some 59) (m_ 16 18) (h := ?_)
      refine tq5_ 0 (some 55) (m_ 16 19) (h := ?_)
      refine tq5_ 3 (some 58) (m_ 16 27) (h := ?_)
      refine one_ (i := 2) (N := some 57) (m_ 16 31) rfl rfl (one_of HT_.out (by kernel_rfl)) (by decide) (fun K hK => ?_)
      refine goes_ Tryd.func58 (by kernel_rfl) rfl #[.agg #[.int .i64 a0_0, .int .u64 a0_1, .int .u64 a0_2, .int .u64 a0_3, .int .u64 a0_4], .int .i64 0, .bool false, .int .i64 x49_2] (by rfl) rfl rfl ar_ ?_
      with_reducible refine (XNext.calls a0_0 a0_1 a0_2 a0_3 a0_4 0 false x49_2 t203 _ A16.out).mono ?_
      rintro e w28 ⟨rfl, hb⟩
      refine ⟨_, rfl, ?_⟩
      have n0_ := Aside0.mk (blk_below (g := gb193) (o := .cells #[.int .i64 a0_0, .int .u64 a0_1, .int .u64 a0_2, .int .u64 a0_3, .int .u64 a0_4] 29 (0, 0)) (bk_ BK193.out) hb)
      have n1_ := Aside0.mk (below_step (hg_ GE193.out) hb)
      clear BK193
      clear HB
      have BK193 := n0_
      have HB := n1_
      clear n0_ n1_
      (try clear hb)
      (try clear hb2)
      (try clear hk)
      (try clear hi)
      refine hK.out _ _ ⟨(blk_cell BK193.out 0).trans rfl, (blk_cell BK193.out 1).trans rfl, (blk_cell BK193.out 2).trans rfl, (blk_cell BK193.out 3).trans rfl, (blk_cell BK193.out 4).trans rfl⟩ (fun hHeld => ?_)
      clear hK K
      refine norm_ (a' := ?_) ?_ ?_
      rotate_left
      ·
       show Act.put _ (some 57) _ = _
       simp only [puts_]
       rfl
      refine one_ (i := 5) (N := some 60) (m_ 16 63) rfl rfl (one_of HT_.out (by kernel_rfl)) (by decide) (fun K hK => ?_)
      refine goes_ Tryd.func58 (by kernel_rfl) rfl #[.agg #[.int .i64 a0_0, .int .u64 a0_1, .int .u64 a0_2, .int .u64 a0_3, .int .u64 a0_4], .int .i64 0, .bool false, .int .i64 t202] (by rfl) rfl rfl ar_ ?_
      with_reducible refine (XNext.calls a0_0 a0_1 a0_2 a0_3 a0_4 0 false t202 t204 _ A17.out).mono ?_
      rintro e w29 ⟨rfl, hb⟩
      refine ⟨_, rfl, ?_⟩
      have n0_ := Aside0.mk (blk_below (g := gb193) (o := .cells #[.int .i64 a0_0, .int .u64 a0_1, .int .u64 a0_2, .int .u64 a0_3, .int .u64 a0_4] 29 (0, 0)) (bk_ BK193.out) hb)
      have n1_ := Aside0.mk (below_step (hg_ GE193.out) hb)
      clear BK193
      clear HB
      have BK193 := n0_
      have HB := n1_
      clear n0_ n1_
      (try clear hb)
      (try clear hb2)
      (try clear hk)
      (try clear hi)
      refine hK.out _ _ ⟨(blk_cell BK193.out 0).trans rfl, (blk_cell BK193.out 1).trans rfl, (blk_cell BK193.out 2).trans rfl, (blk_cell BK193.out 3).trans rfl, (blk_cell BK193.out 4).trans rfl⟩ (fun hHeld => ?_)
      clear hK K
      refine norm_ (a' := ?_) ?_ ?_
      rotate_left
      ·
       show Act.put _ (some 60) _ = _
       simp only [puts_]
       rfl
      refine pq_ 6 (some 61) (m_ 16 127) (h := ?_)
      refine pq_ 7 (some 62) (m_ 16 255) (h := ?_)
      refine pq_ 9 (some 64) (m_ 16 767) (h := ?_)
      refine pq_ 12 (some 67) (m_ 16 4863) (h := ?_)
      refine tq5_ 8 (some 63) (m_ 16 5119) (h := ?_)
      refine tq5_ 11 (some 66) (m_ 16 7167) (h := ?_)
      refine one_ (i := 10) (N := some 65) (m_ 16 8191) rfl rfl (one_of HT_.out (by kernel_rfl)) (by decide) (fun K hK => ?_)
      refine goes_ Tryd.func58 (by kernel_rfl) rfl #[.agg #[.int .i64 a0_0, .int .u64 a0_1, .int .u64 a0_2, .int .u64 a0_3, .int .u64 a0_4], .int .i64 0, .bool true, .int .i64 x49_2] (by rfl) rfl rfl ar_ ?_
      with_reducible refine (XNext.calls a0_0 a0_1 a0_2 a0_3 a0_4 0 true x49_2 t205 _ A23.out).mono ?_
      rintro e w30 ⟨rfl, hb⟩
      refine ⟨_, rfl, ?_⟩
      have n0_ := Aside0.mk (blk_below (g := gb193) (o := .cells #[.int .i64 a0_0, .int .u64 a0_1, .int .u64 a0_2, .int .u64 a0_3, .int .u64 a0_4] 29 (0, 0)) (bk_ BK193.out) hb)
      have n1_ := Aside0.mk (below_step (hg_ GE193.out) hb)
      clear BK193
      clear HB
      have BK193 := n0_
      have HB := n1_
      clear n0_ n1_
      (try clear hb)
      (try clear hb2)
      (try clear hk)
      (try clear hi)
      refine hK.out _ _ ⟨(blk_cell BK193.out 0).trans rfl, (blk_cell BK193.out 1).trans rfl, (blk_cell BK193.out 2).trans rfl, (blk_cell BK193.out 3).trans rfl, (blk_cell BK193.out 4).trans rfl⟩ (fun hHeld => ?_)
      clear hK K
      refine norm_ (a' := ?_) ?_ ?_
      rotate_left
      ·
       show Act.put _ (some 65) _ = _
       simp only [puts_]
       rfl
      refine one_ (i := 13) (N := some 68) (m_ 16 16383) rfl rfl (one_of HT_.out (by kernel_rfl)) (by decide) (fun K hK => ?_)
      refine goes_ Tryd.func58 (by kernel_rfl) rfl #[.agg #[.int .i64 a0_0, .int .u64 a0_1, .int .u64 a0_2, .int .u64 a0_3, .int .u64 a0_4], .int .i64 0, .bool true, .int .i64 t202] (by rfl) rfl rfl ar_ ?_
      with_reducible refine (XNext.calls a0_0 a0_1 a0_2 a0_3 a0_4 0 true t202 t206 _ A24.out).mono ?_
      rintro e w31 ⟨rfl, hb⟩
      refine ⟨_, rfl, ?_⟩
      have n0_ := Aside0.mk (blk_below (g := gb193) (o := .cells #[.int .i64 a0_0, .int .u64 a0_1, .int .u64 a0_2, .int .u64 a0_3, .int .u64 a0_4] 29 (0, 0)) (bk_ BK193.out) hb)
      have n1_ := Aside0.mk (below_step (hg_ GE193.out) hb)
      clear BK193
      clear HB
      have BK193 := n0_
      have HB := n1_
      clear n0_ n1_
      (try clear hb)
      (try clear hb2)
      (try clear hk)
      (try clear hi)
      refine hK.out _ _ ⟨(blk_cell BK193.out 0).trans rfl, (blk_cell BK193.out 1).trans rfl, (blk_cell BK193.out 2).trans rfl, (blk_cell BK193.out 3).trans rfl, (blk_cell BK193.out 4).trans rfl⟩ (fun hHeld => ?_)
      clear hK K
      refine norm_ (a' := ?_) ?_ ?_
      rotate_left
      ·
       show Act.put _ (some 68) _ = _
       simp only [puts_]
       rfl
      refine pq_ 14 (some 69) (m_ 16 32767) (h := ?_)
      refine pq_ 15 (some 70) (m_ 16 65535) (h := ?_)
      refine done_ (done_of HT_.out (by kernel_rfl)) ?_
      try go_wp2
      go_ret
      exact ⟨er_, hg_ GE193.out⟩
     rw [if_neg c25] at H
     have c25b0 : (t205 != t206) = false := by simpa using c25
     (try (have c25b1 : decide (t205 = t206) = true := by simpa using c25))
     (try (have c25b2 : (t205 == t206) = true := by simpa using c25))
     clear c25
     have H' := Aside0.mk H
     clear H
     try go_wp2_with (first | ((with_reducible refine gate_callee (f := 57) rfl ?_); refine goesL_ (some 54) rfl rfl Tryd.func57 (by kernel_rfl) rfl #[.int .i64 a1, .int .i64 x49_2] rfl ar_ ?_; (with_reducible refine (XBrought.calls a1 x49_2 t202 _ ?side1 A15.out).mono ?_); (case side1 => exact HGSix.out.below (hg_ GE193.out)); rintro e w32 ⟨rfl, hb⟩; refine ⟨_, rfl, ?_⟩; have n0_ := Aside0.mk (blk_below (g := gb193) (o := .cells #[.int .i64 a0_0, .int .u64 a0_1, .int .u64 a0_2, .int .u64 a0_3, .int .u64 a0_4] 29 (0, 0)) (bk_ BK193.out) hb); have n1_ := Aside0.mk (below_step (hg_ GE193.out) hb); clear BK193; clear HB; have BK193 := n0_; have HB := n1_; clear n0_ n1_; (try clear hb); (try clear hb2); (try clear hk); (try clear hi)))
     have n0_ := Aside0.mk (blk_drew BK193.out)
     have n1_ := Aside0.mk (below_drew1 HB.out)
     clear BK193
     clear HB
     have BK193 := n0_
     have HB := n1_
     clear n0_ n1_
     refine start_ (n := 16) (S := fun w' => w'.cell? ⟨gb193, 0, none⟩ = some (.int .i64 a0_0) ∧ w'.cell? ⟨gb193, 1, none⟩ = some (.int .u64 a0_1) ∧ w'.cell? ⟨gb193, 2, none⟩ = some (.int .u64 a0_2) ∧ w'.cell? ⟨gb193, 3, none⟩ = some (.int .u64 a0_3) ∧ w'.cell? ⟨gb193, 4, none⟩ = some (.int .u64 a0_4)) (ds := []) (m_ 16 0) (by kernel_rfl) rfl rfl ⟨(blk_cell BK193.out 0).trans rfl, (blk_cell BK193.out 1).trans rfl, (blk_cell BK193.out 2).trans rfl, (blk_cell BK193.out 3).trans rfl, (blk_cell BK193.out 4).trans rfl⟩ (fun hHeld => ?_); refine with_tabW iso_Keeps.tab10 iso_Keeps.bits10 (fun HT_ HW_ => ?_)
     generalize w32.drew = w33 at BK193 HB hHeld ⊢
     refine pq_ 1 (some 56) (m_ 16 2) (h := ?_)
     refine pq_ 4 (some 59) (m_ 16 18) (h := ?_)
     refine tq5_ 0 (some 55) (m_ 16 19) (h := ?_)
     refine tq5_ 3 (some 58) (m_ 16 27) (h := ?_)
     refine one_ (i := 2) (N := some 57) (m_ 16 31) rfl rfl (one_of HT_.out (by kernel_rfl)) (by decide) (fun K hK => ?_)
     refine goes_ Tryd.func58 (by kernel_rfl) rfl #[.agg #[.int .i64 a0_0, .int .u64 a0_1, .int .u64 a0_2, .int .u64 a0_3, .int .u64 a0_4], .int .i64 0, .bool false, .int .i64 x49_2] (by rfl) rfl rfl ar_ ?_
     with_reducible refine (XNext.calls a0_0 a0_1 a0_2 a0_3 a0_4 0 false x49_2 t203 _ A16.out).mono ?_
     rintro e w34 ⟨rfl, hb⟩
     refine ⟨_, rfl, ?_⟩
     have n0_ := Aside0.mk (blk_below (g := gb193) (o := .cells #[.int .i64 a0_0, .int .u64 a0_1, .int .u64 a0_2, .int .u64 a0_3, .int .u64 a0_4] 29 (0, 0)) (bk_ BK193.out) hb)
     have n1_ := Aside0.mk (below_step (hg_ GE193.out) hb)
     clear BK193
     clear HB
     have BK193 := n0_
     have HB := n1_
     clear n0_ n1_
     (try clear hb)
     (try clear hb2)
     (try clear hk)
     (try clear hi)
     refine hK.out _ _ ⟨(blk_cell BK193.out 0).trans rfl, (blk_cell BK193.out 1).trans rfl, (blk_cell BK193.out 2).trans rfl, (blk_cell BK193.out 3).trans rfl, (blk_cell BK193.out 4).trans rfl⟩ (fun hHeld => ?_)
     clear hK K
     refine norm_ (a' := ?_) ?_ ?_
     rotate_left
     ·
      show Act.put _ (some 57) _ = _
      simp only [puts_]
      rfl
     refine one_ (i := 5) (N := some 60) (m_ 16 63) rfl rfl (one_of HT_.out (by kernel_rfl)) (by decide) (fun K hK => ?_)
     refine goes_ Tryd.func58 (by kernel_rfl) rfl #[.agg #[.int .i64 a0_0, .int .u64 a0_1, .int .u64 a0_2, .int .u64 a0_3, .int .u64 a0_4], .int .i64 0, .bool false, .int .i64 t202] (by rfl) rfl rfl ar_ ?_
     with_reducible refine (XNext.calls a0_0 a0_1 a0_2 a0_3 a0_4 0 false t202 t204 _ A17.out).mono ?_
     rintro e w35 ⟨rfl, hb⟩
     refine ⟨_, rfl, ?_⟩
     have n0_ := Aside0.mk (blk_below (g := gb193) (o := .cells #[.int .i64 a0_0, .int .u64 a0_1, .int .u64 a0_2, .int .u64 a0_3, .int .u64 a0_4] 29 (0, 0)) (bk_ BK193.out) hb)
     have n1_ := Aside0.mk (below_step (hg_ GE193.out) hb)
     clear BK193
     clear HB
     have BK193 := n0_
     have HB := n1_
     clear n0_ n1_
     (try clear hb)
     (try clear hb2)
     (try clear hk)
     (try clear hi)
     refine hK.out _ _ ⟨(blk_cell BK193.out 0).trans rfl, (blk_cell BK193.out 1).trans rfl, (blk_cell BK193.out 2).trans rfl, (blk_cell BK193.out 3).trans rfl, (blk_cell BK193.out 4).trans rfl⟩ (fun hHeld => ?_)
     clear hK K
     refine norm_ (a' := ?_) ?_ ?_
     rotate_left
     ·
      show Act.put _ (some 60) _ = _
      simp only [puts_]
      rfl
     refine pq_ 6 (some 61) (m_ 16 127) (h := ?_)
     refine pq_ 7 (some 62) (m_ 16 255) (h := ?_)
     refine pq_ 9 (some 64) (m_ 16 767) (h := ?_)
     refine pq_ 12 (some 67) (m_ 16 4863) (h := ?_)
     refine tq5_ 8 (some 63) (m_ 16 5119) (h := ?_)
     refine tq5_ 11 (some 66) (m_ 16 7167) (h := ?_)
     refine one_ (i := 10) (N := some 65) (m_ 16 8191) rfl rfl (one_of HT_.out (by kernel_rfl)) (by decide) (fun K hK => ?_)
     refine goes_ Tryd.func58 (by kernel_rfl) rfl #[.agg #[.int .i64 a0_0, .int .u64 a0_1, .int .u64 a0_2, .int .u64 a0_3, .int .u64 a0_4], .int .i64 0, .bool true, .int .i64 x49_2] (by rfl) rfl rfl ar_ ?_
     with_reducible refine (XNext.calls a0_0 a0_1 a0_2 a0_3 a0_4 0 true x49_2 t205 _ A23.out).mono ?_
     rintro e w36 ⟨rfl, hb⟩
     refine ⟨_, rfl, ?_⟩
     have n0_ := Aside0.mk (blk_below (g := gb193) (o := .cells #[.int .i64 a0_0, .int .u64 a0_1, .int .u64 a0_2, .int .u64 a0_3, .int .u64 a0_4] 29 (0, 0)) (bk_ BK193.out) hb)
     have n1_ := Aside0.mk (below_step (hg_ GE193.out) hb)
     clear BK193
     clear HB
     have BK193 := n0_
     have HB := n1_
     clear n0_ n1_
     (try clear hb)
     (try clear hb2)
     (try clear hk)
     (try clear hi)
     refine hK.out _ _ ⟨(blk_cell BK193.out 0).trans rfl, (blk_cell BK193.out 1).trans rfl, (blk_cell BK193.out 2).trans rfl, (blk_cell BK193.out 3).trans rfl, (blk_cell BK193.out 4).trans rfl⟩ (fun hHeld => ?_)
     clear hK K
     refine norm_ (a' := ?_) ?_ ?_
     rotate_left
     ·
      show Act.put _ (some 65) _ = _
      simp only [puts_]
      rfl
     refine one_ (i := 13) (N := some 68) (m_ 16 16383) rfl rfl (one_of HT_.out (by kernel_rfl)) (by decide) (fun K hK => ?_)
     refine goes_ Tryd.func58 (by kernel_rfl) rfl #[.agg #[.int .i64 a0_0, .int .u64 a0_1, .int .u64 a0_2, .int .u64 a0_3, .int .u64 a0_4], .int .i64 0, .bool true, .int .i64 t202] (by rfl) rfl rfl ar_ ?_
     with_reducible refine (XNext.calls a0_0 a0_1 a0_2 a0_3 a0_4 0 true t202 t206 _ A24.out).mono ?_
     rintro e w37 ⟨rfl, hb⟩
     refine ⟨_, rfl, ?_⟩
     have n0_ := Aside0.mk (blk_below (g := gb193) (o := .cells #[.int .i64 a0_0, .int .u64 a0_1, .int .u64 a0_2, .int .u64 a0_3, .int .u64 a0_4] 29 (0, 0)) (bk_ BK193.out) hb)
     have n1_ := Aside0.mk (below_step (hg_ GE193.out) hb)
     clear BK193
     clear HB
     have BK193 := n0_
     have HB := n1_
     clear n0_ n1_
     (try clear hb)
     (try clear hb2)
     (try clear hk)
     (try clear hi)
     refine hK.out _ _ ⟨(blk_cell BK193.out 0).trans rfl, (blk_cell BK193.out 1).trans rfl, (blk_cell BK193.out 2).trans rfl, (blk_cell BK193.out 3).trans rfl, (blk_cell BK193.out 4).trans rfl⟩ (fun hHeld => ?_)
     clear hK K
     refine norm_ (a' := ?_) ?_ ?_
     rotate_left
     ·
      show Act.put _ (some 68) _ = _
      simp only [puts_]
      rfl
     refine pq_ 14 (some 69) (m_ 16 32767) (h := ?_)
     refine pq_ 15 (some 70) (m_ 16 65535) (h := ?_)
     refine done_ (done_of HT_.out (by kernel_rfl)) ?_
     try go_wp2
     go_roundg k2
     case measure => have := HJ2.out; have := HK2.out; omega
     case rel => exact ⟨(wrap64 (x49_2 + 1)), rs_, H', ⟨by have := HJ2.out; have := HK2.out; omega⟩, ⟨bk_ BK193.out⟩, ⟨by repeat (first | (with_reducible first | exact HB.out | apply ba_ | apply bn_ | apply bd_ | refine below_set ?_ GE193.out) | exact HB.out)⟩⟩
end Go.Proofs.YtaeenefdbahfoaaDoor.H
namespace Go.Proofs.YtaeenefdbahfoaaDoor
set_option linter.unusedSimpArgs false
set_option linter.unusedVariables false
open Go.RowKit Go.Proofs.YtaeenefdbahfoaaDoorW.PrintWords Go.Proofs.YtaeenefdbahfoaaDoorW.PrintLast Go.Proofs.YtaeenefdbahfoaaDoorW.PrintMore
open H
open Go.RowKit
theorem u64_nat (n : Nat) (h : n < 18446744073709551616) : IntKind.u64.wrap (n : Int) = n := by
  have : IntKind.u64.wrap (n : Int) = (n : Int) % 18446744073709551616 := by simp [IntKind.wrap, IntKind.signed, IntKind.bits]
  rw [this]
  omega
theorem ofInt_nat (n : Nat) (h : n < 18446744073709551616) : (BitVec.ofInt 64 (n : Int)).toNat = n := by
  rw [BitVec.toNat_ofInt]
  omega
theorem and_nat (a c : Nat) (ha : a < 18446744073709551616) (hc : c < 18446744073709551616) : Go.bits .and .u64 (a : Int) (c : Int) = ((a &&& c : Nat) : Int) := by
  have key : (BitVec.ofInt 64 (a : Int) &&& BitVec.ofInt 64 (c : Int)).toNat = a &&& c := by rw [BitVec.toNat_and, ofInt_nat a ha, ofInt_nat c hc]
  show IntKind.u64.wrap ((BitVec.ofInt 64 (a : Int) &&& BitVec.ofInt 64 (c : Int)).toNat : Nat) = _
  rw [key]
  exact u64_nat _ (Nat.lt_of_le_of_lt Nat.and_le_left ha)
theorem or_nat (a c : Nat) (ha : a < 18446744073709551616) (hc : c < 18446744073709551616) : Go.bits .or .u64 (a : Int) (c : Int) = ((a ||| c : Nat) : Int) := by
  have key : (BitVec.ofInt 64 (a : Int) ||| BitVec.ofInt 64 (c : Int)).toNat = a ||| c := by rw [BitVec.toNat_or, ofInt_nat a ha, ofInt_nat c hc]
  show IntKind.u64.wrap ((BitVec.ofInt 64 (a : Int) ||| BitVec.ofInt 64 (c : Int)).toNat : Nat) = _
  rw [key]
  exact u64_nat _ (Nat.or_lt_two_pow (n := 64) ha hc)
def posT (o i : Nat) : Nat := if o < 6 then (i + o) % 6 else (o + 1 - i) % 6
def brT (o r : Nat) : Nat := r % 2 * 2 ^ posT o 0 + r / 2 % 2 * 2 ^ posT o 1 + r / 4 % 2 * 2 ^ posT o 2 + r / 8 % 2 * 2 ^ posT o 3 + r / 16 % 2 * 2 ^ posT o 4 + r / 32 % 2 * 2 ^ posT o 5
theorem br_tab : ∀ o : Fin 12, ∀ r : Fin 64, brN (o.1 : Int) (r.1 : Int) 6 = (brT o.1 r.1 : Int) := by decide +kernel
theorem br_lt : ∀ o : Fin 12, ∀ r : Fin 64, brT o.1 r.1 < 64 := by decide +kernel
theorem br_f (o r : Nat) (ho : o < 12) (hr : r < 64) : XBrought.f (o : Int) (r : Int) = some (brT o r : Int) := by
  unfold XBrought.f
  rw [if_pos (by omega), br_tab ⟨o, ho⟩ ⟨r, hr⟩]
theorem brT_lt (o r : Nat) (ho : o < 12) (hr : r < 64) : brT o r < 64 := br_lt ⟨o, ho⟩ ⟨r, hr⟩
/-- a ring that an operator makes another one of -/
def badAt (b s : Int) (o r : Nat) : Bool := (nxB b r != nxB b (brT o r)) || (nxB s r != nxB s (brT o r))
theorem next_f (b0 b1 s0 s1 : Int) (live : Bool) (r : Nat) (hr : r < 64) : XNext.f 1 b0 b1 s0 s1 0 live (r : Int) = some (nxB (if live = true then s0 else b0) (r : Int)) := by
  unfold XNext.f
  rw [if_neg (by omega)]
  simp
theorem wN (r : Nat) (hr : r < 1000) : wrap64 ((r : Int) + 1) = ((r + 1 : Nat) : Int) := by rw [w64i _ (by omega) (by omega)]; simp
variable (b0 b1 s0 s1 : Int)
theorem keeps_l0 (k p : Nat) (hp : p < 12) : ∀ n r : Nat, r + n = 64 → ∃ v, iso_Keeps.l0 (k + n + 1) (p : Int) (r : Int) 1 b0 b1 s0 s1 = some v ∧ (v = true ↔ ∀ q, r ≤ q → q < 64 → badAt b0 s0 p q = false) := by
  intro n
  induction n with
  | zero =>
    intro r hr
    refine ⟨true, ?_, by simp; intro q h1 h2; omega⟩
    rw [iso_Keeps.l0, if_neg (by omega)]
  | succ n ih =>
    intro r hr
    have hr64 : r < 64 := by omega
    obtain ⟨v, hv, hiff⟩ := ih (r + 1) (by omega)
    have hb := brT_lt p r hp hr64
    have n0 := next_f b0 b1 s0 s1 false r hr64
    have n1 := next_f b0 b1 s0 s1 true r hr64
    have m0 := next_f b0 b1 s0 s1 false (brT p r) hb
    have m1 := next_f b0 b1 s0 s1 true (brT p r) hb
    simp only [↓reduceIte, Bool.false_eq_true] at n0 n1 m0 m1
    have hbad : badAt b0 s0 p r = ((nxB b0 r != nxB b0 (brT p r)) || (nxB s0 r != nxB s0 (brT p r))) := rfl
    rw [show k + (n + 1) + 1 = (k + n + 1) + 1 by omega, iso_Keeps.l0, if_pos (by omega), br_f p r hp hr64]
    simp only [Option.bind_some, n0, m0, n1, m1, wN r (by omega)]
    cases h0 : (nxB b0 (r : Int) != nxB b0 (brT p r : Int)) with
    | true => exact ⟨false, by simp, by simp; exact ⟨r, Nat.le_refl _, hr64, by rw [hbad, h0]; rfl⟩⟩
    | false =>
      cases h1 : (nxB s0 (r : Int) != nxB s0 (brT p r : Int)) with
      | true => exact ⟨false, by simp, by simp; exact ⟨r, Nat.le_refl _, hr64, by rw [hbad, h0, h1]; rfl⟩⟩
      | false =>
        refine ⟨v, by simpa using hv, hiff.trans ⟨fun h q h2 h3 => ?_, fun h q h2 h3 => h q (by omega) h3⟩⟩
        rcases Nat.eq_or_lt_of_le h2 with rfl | h4
        · rw [hbad, h0, h1]; rfl
        · exact h q h4 h3
theorem good_f (p : Nat) (hp : p < 12) : axis_Operator_Good.f (p : Int) = some true := by
  unfold axis_Operator_Good.f
  simp
  omega
theorem keeps_hex (k p : Nat) (hp : p < 12) (hc : checkT 1 b0 b1 s0 s1 = none) : ∃ v, iso_Keeps.f (k + 66) 1 b0 b1 s0 s1 (p : Int) = some v ∧ (v = true ↔ ∀ q, q < 64 → badAt b0 s0 p q = false) := by
  obtain ⟨v, h1, h2⟩ := keeps_l0 b0 b1 s0 s1 k p hp 64 0 (by omega)
  refine ⟨v, ?_, h2.trans ⟨fun h q => h q (Nat.zero_le _), fun h q _ => h q⟩⟩
  unfold iso_Keeps.f
  rw [show XTCheck.f 1 b0 b1 s0 s1 = some none by unfold XTCheck.f; rw [hc]]
  simp only [Option.bind_some, Option.isNone_none, ↓reduceIte, good_f p hp]
  rw [show k + 66 = (k + 65) + 1 from rfl, iso_Keeps.j0]
  simpa using h1
end Go.Proofs.YtaeenefdbahfoaaDoor
namespace Go.Proofs.YtaeenefdbahfoaaDoor
open Go.RowKit Go.Proofs.YtaeenefdbahfoaaDoorW.PrintWords Go.Proofs.YtaeenefdbahfoaaDoorW.PrintLast Go.Proofs.YtaeenefdbahfoaaDoorW.PrintMore
open H
open Go.RowKit
set_option linter.unusedSimpArgs false
def ompS : ByteArray := ⟨#[111, 109, 112]⟩
def ompC : Nat → Int
  | 0 => 111 | 1 => 109 | _ => 112
def setB (W : World) (g : Nat) (o : Obj) : World := { W with heap := W.heap.setIfInBounds g o }
theorem omp_next (W : World) (g pos : Nat) (ty : TypeId) (hp : pos < 3) (h : W.heap[g]? = some (.stringIter ompS pos)) :
    (Instr.next (.pointer (some ⟨g, 0, none⟩)) true ty).run Tryd.prog W = .ok (.tuple #[.bool true, .int .i64 pos, .int .i32 (ompC pos)]) (setB W g (.stringIter ompS (pos + 1))) := by
  have hd : Utf8.decode ompS pos = ((ompC pos).toNat, 1) := by
    have : pos = 0 ∨ pos = 1 ∨ pos = 2 := by omega
    rcases this with rfl | rfl | rfl <;> decide +kernel
  have hs : pos < ompS.size := hp
  have hc : (((ompC pos).toNat : Nat) : Int) = ompC pos := by
    unfold ompC
    split <;> rfl
  simp [Instr.next, getObj, setObj, Sem.run_bind, Sem.run, h, Result.andThen, hs, hd, goInt, hc, setB]
theorem omp_end (W : World) (g : Nat) (ty : TypeId) (h : W.heap[g]? = some (.stringIter ompS 3)) :
    (Instr.next (.pointer (some ⟨g, 0, none⟩)) true ty).run Tryd.prog W = .ok (.tuple #[.bool false]) W := by
  have hs : ¬ 3 < ompS.size := by decide
  simp [Instr.next, getObj, Sem.run, h, hs]
theorem omp_range (W : World) : (Instr.range 9 (.string ⟨#[111, 109, 112]⟩)).run Tryd.prog W = .ok (.pointer (some ⟨W.heap.size, 0, none⟩)) (W.alloc (.stringIter ompS 0)) := by
  have := run_range_string (P := Tryd.prog) W 9 ompS Tryd.underlying9
  exact this
theorem setB_same {W : World} {g : Nat} {o o' : Obj} (h : W.heap[g]? = some o) : (setB W g o').heap[g]? = some o' := by
  have := (Array.getElem?_eq_some_iff.1 h).1
  simp [setB, this]
theorem setB_below {B : Nat} {a W : World} {g : Nat} {o : Obj} (h : Below B a W) (hg : B ≤ g) : Below B a (setB W g o) := by
  obtain ⟨h1, h2, h3, h4, h5⟩ := h
  refine ⟨h1, h2, h3, by simpa [setB] using h4, fun k hk => ?_⟩
  rw [← h5 k hk]
  show (W.heap.setIfInBounds g o)[k]? = _
  rw [Array.getElem?_setIfInBounds_ne (by omega)]
theorem setB_R {W : World} {g base : Nat} {o : Obj} {v : Value} {xs : List S104} (h : Kd.R k104 104 W base (fun k => k ≠ g) v xs) : Kd.R k104 104 (setB W g o) base (fun k => k ≠ g) v xs :=
  Kd.R_move h fun k hk => by
    show (W.heap.setIfInBounds g o)[k]? = _
    rw [Array.getElem?_setIfInBounds_ne (by omega)]
theorem infoCl : (Tryd.prog.info? 104).map (fun i => (i.zero, i.size, i.bytes)) = some (some (.agg #[.int .i64 0, .int .u8 0]), 2, 16) := by kernel_rfl
theorem iterPos_of {W : World} {g : Nat} {s : ByteArray} {p : Nat} (h : W.heap[g]? = some (.stringIter s p)) : W.iterPos g = p := by
  unfold World.iterPos
  rw [h]
def ompL (n : Int) : List S104 := [⟨n, 111⟩, ⟨n, 109⟩, ⟨n, 112⟩]
def clsL : Nat → List S104
  | 0 => []
  | 1 => [⟨0, 0⟩]
  | 2 => [⟨0, 0⟩, ⟨1, 0⟩]
  | 3 => [⟨0, 0⟩, ⟨1, 0⟩] ++ ompL 2
  | 4 => [⟨0, 0⟩, ⟨1, 0⟩] ++ ompL 2 ++ ompL 3
  | 5 => [⟨0, 0⟩, ⟨1, 0⟩] ++ ompL 2 ++ ompL 3 ++ ompL 4
  | 6 => [⟨0, 0⟩, ⟨1, 0⟩] ++ ompL 2 ++ ompL 3 ++ ompL 4 ++ [⟨5, 0⟩]
  | _ => [⟨0, 0⟩, ⟨1, 0⟩] ++ ompL 2 ++ ompL 3 ++ ompL 4 ++ [⟨5, 0⟩] ++ [⟨6, 0⟩]
theorem clsL_le (n : Nat) : (clsL n).length ≤ 20 := by
  unfold clsL ompL
  split <;> simp
set_option maxRecDepth 100000 in
set_option maxHeartbeats 4000000 in
theorem classes_any (w : World) : Calls Tryd.prog 78 #[] w fun e w' => ∃ v, e = .returned v ∧ Kd.R k104 104 w' w.heap.size (fun _ => True) v (clsL 7) ∧ Below w.heap.size w w' := by
  have hrg := omp_range
  have h0 : clsL 0 = [] := rfl
  have H0 := Aside0.mk h0
  clear h0
  go_enter Tryd.func78, Tryd.ntmps78
  go_wp2_with fail
  go_loopw [5, 1] (fun i v wr => ∃ n : Nat, n ≤ 7 ∧ i = .int .i64 n ∧ Kd.R k104 104 wr w.heap.size (fun _ => True) v (clsL n) ∧ Below w.heap.size w wr) (fun i _ _ => 7 - (intOf i).toNat)
  case atStart => exact ⟨0, by omega, rfl, Kd.R_nil _ _ _ _ _, Below.refl _ _⟩
  case round =>
    obtain ⟨n, hn, rfl, hO, hb⟩ := hrel
    have HO := Aside0.mk hO
    have HB := Aside0.mk hb
    have hzr := hb.size
    clear hO hb
    have hnn : n = 0 ∨ n = 1 ∨ n = 2 ∨ n = 3 ∨ n = 4 ∨ n = 5 ∨ n = 6 ∨ n = 7 := by omega
    rcases hnn with rfl | rfl | rfl | rfl | rfl | rfl | rfl | rfl
    · have hcl : clsL 1 = clsL 0 ++ [⟨0, 0⟩] := rfl
      have HCL := Aside0.mk hcl
      have hle := clsL_le 0
      clear hcl
      go_wp2_with (at_builtin; refine Kd.R_append k104 (w0 := w) w.heap.size rfl (.tmp 14) (.tmp 17) 127 104 (.agg #[.int .i64 0, .int .u8 0]) 16 rfl Tryd.underlying127 infoCl rfl (by decide) (by decide) _ (clsL 0) (⟨0, 0⟩) [.int .i64 0, .int .u8 0] (fun _ => True) (fun _ => False) rfl (by first | (simp; done) | rfl) (k104_mkM _ _ _ _) (fun _ h => h.elim) (fun _ _ => trivial) HO.out HB.out hzr (by omega) ?_; intro v1 w1 ho1 hb1 hg1 _; have HO1 := Aside0.mk ho1; have HB1 := Aside0.mk hb1; have HG1 := Aside0.mk hg1; clear ho1 hb1 hg1)
      go_roundw
      case rel => exact ⟨1, by omega, by first | rfl | go_num, by rw [HCL.out]; exact HO1.out, HB1.out⟩
      case measure => simp [intOf]
    · have hcl : clsL 2 = clsL 1 ++ [⟨1, 0⟩] := rfl
      have HCL := Aside0.mk hcl
      have hle := clsL_le 1
      clear hcl
      go_wp2_with (at_builtin; refine Kd.R_append k104 (w0 := w) w.heap.size rfl (.tmp 14) (.tmp 17) 127 104 (.agg #[.int .i64 0, .int .u8 0]) 16 rfl Tryd.underlying127 infoCl rfl (by decide) (by decide) _ (clsL 1) (⟨1, 0⟩) [.int .i64 1, .int .u8 0] (fun _ => True) (fun _ => False) rfl (by first | (simp; done) | rfl) (k104_mkM _ _ _ _) (fun _ h => h.elim) (fun _ _ => trivial) HO.out HB.out hzr (by omega) ?_; intro v1 w1 ho1 hb1 hg1 _; have HO1 := Aside0.mk ho1; have HB1 := Aside0.mk hb1; have HG1 := Aside0.mk hg1; clear ho1 hb1 hg1)
      go_roundw
      case rel => exact ⟨2, by omega, by first | rfl | go_num, by rw [HCL.out]; exact HO1.out, HB1.out⟩
      case measure => simp [intOf]
    · have hcl : clsL 3 = clsL 2 ++ ompL 2 := rfl
      have HCL := Aside0.mk hcl
      have hle := clsL_le 2
      clear hcl
      go_wp2_with fail
      obtain ⟨wI, hwI⟩ : ∃ W, W = wr.alloc (.stringIter ompS 0) := ⟨_, rfl⟩
      have hi0 : wI.heap[wr.heap.size]? = some (.stringIter ompS 0) := by rw [hwI]; exact blk_new _ _
      have hBI : Below wr.heap.size wr wI := by rw [hwI]; exact below_alloc (Below.refl _ _) _
      have hOI : Kd.R k104 104 wI w.heap.size (fun k => k ≠ wr.heap.size) _ (clsL 2) := Kd.R_mono (Kd.R_below (Kd.R_bound HO.out) hBI) (fun k hk => by have := hk.2.2.1; omega)
      rw [← hwI]
      obtain ⟨g, hg⟩ : ∃ g, g = wr.heap.size := ⟨_, rfl⟩
      rw [← hg] at hi0 hOI ⊢
      have hgw : w.heap.size ≤ g := by omega
      have HBI := Aside0.mk (HB.out.trans (hBI.mono hzr))
      clear hwI hBI hg HO HB
      try rw [show ((2 : Nat) : Int) = 2 from rfl]
      go_loopw [1] (fun v wr => ∃ pos : Nat, pos ≤ 3 ∧ Kd.R k104 104 wr w.heap.size (fun k => k ≠ g) v (clsL 2 ++ (ompL 2).take pos) ∧ wr.heap[g]? = some (.stringIter ompS pos) ∧ Below w.heap.size w wr) (fun _ wr => 3 - wr.iterPos g)
      case atStart => exact ⟨0, by omega, by simpa using hOI, hi0, HBI.out⟩
      case round =>
        obtain ⟨pos, hpos, hO, hi, hb⟩ := hrel
        have HO := Aside0.mk hO
        have HI := Aside0.mk hi
        have HB := Aside0.mk hb
        clear hO hi hb hOI hi0 HBI
        have hpp : pos = 0 ∨ pos = 1 ∨ pos = 2 ∨ pos = 3 := by omega
        rcases hpp with rfl | rfl | rfl | rfl
        · have hnx := fun ty => omp_next wr g 0 ty (by omega) HI.out
          have hlt := blk_lt HI.out
          obtain ⟨w2, hw2⟩ : ∃ W, W = setB wr g (.stringIter ompS (0 + 1)) := ⟨_, rfl⟩
          rw [← hw2] at hnx
          have hI2 : w2.heap[g]? = some (.stringIter ompS 1) := by rw [hw2]; exact setB_same HI.out
          have hO2 := setB_R (o := .stringIter ompS (0 + 1)) HO.out
          rw [← hw2] at hO2
          have hB2 : Below w.heap.size w w2 := by rw [hw2]; exact setB_below HB.out hgw
          have hl2 : g < w2.heap.size := blk_lt hI2
          have HI2 := Aside0.mk hI2
          have HO2 := Aside0.mk hO2
          have HB2 := Aside0.mk hB2
          have hoc : ompC 0 = 111 := rfl
          rw [hoc] at hnx
          have hwr8 : IntKind.u8.wrap 111 = 111 := by decide
          clear hw2 hI2 hO2 hB2 hoc
          go_wp2_with (at_builtin; refine Kd.R_append k104 (w0 := w) w.heap.size rfl (.tmp 23) (.tmp 28) 127 104 (.agg #[.int .i64 0, .int .u8 0]) 16 rfl Tryd.underlying127 infoCl rfl (by decide) (by decide) _ (clsL 2 ++ (ompL 2).take 0) (⟨2, 111⟩) [.int .i64 2, .int .u8 111] (fun k => k ≠ g) (fun _ => False) rfl (by first | (simp; done) | rfl) (k104_mkM _ _ _ _) (fun _ h => h.elim) (fun k hk => by show k ≠ g; omega) HO2.out HB2.out HB2.out.size (by simp [ompL]; omega) ?_; intro v1 w1 ho1 hb1 hg1 _; have HO1 := Aside0.mk ho1; have HB1 := Aside0.mk hb1; have HG1 := Aside0.mk hg1; clear ho1 hb1 hg1)
          clear hnx
          have hz1 : w2.heap.size ≤ w1.heap.size := HG1.out.size
          go_roundw
          case rel => exact ⟨1, by omega, by simpa only [ompL, List.take_succ_cons, List.take_zero, List.append_assoc, List.cons_append, List.nil_append, List.append_nil] using HO1.out, (HG1.out.block g hl2 (Kd.R_away HO2.out (fun _ h => h))).trans HI2.out, HB1.out⟩
          case measure =>
            have hp1 := iterPos_of ((HG1.out.block g hl2 (Kd.R_away HO2.out (fun _ h => h))).trans HI2.out)
            have hp0 := iterPos_of HI.out
            simp only [hp1, hp0]
            omega
        · have hnx := fun ty => omp_next wr g 1 ty (by omega) HI.out
          have hlt := blk_lt HI.out
          obtain ⟨w2, hw2⟩ : ∃ W, W = setB wr g (.stringIter ompS (1 + 1)) := ⟨_, rfl⟩
          rw [← hw2] at hnx
          have hI2 : w2.heap[g]? = some (.stringIter ompS 2) := by rw [hw2]; exact setB_same HI.out
          have hO2 := setB_R (o := .stringIter ompS (1 + 1)) HO.out
          rw [← hw2] at hO2
          have hB2 : Below w.heap.size w w2 := by rw [hw2]; exact setB_below HB.out hgw
          have hl2 : g < w2.heap.size := blk_lt hI2
          have HI2 := Aside0.mk hI2
          have HO2 := Aside0.mk hO2
          have HB2 := Aside0.mk hB2
          have hoc : ompC 1 = 109 := rfl
          rw [hoc] at hnx
          have hwr8 : IntKind.u8.wrap 109 = 109 := by decide
          clear hw2 hI2 hO2 hB2 hoc
          go_wp2_with (at_builtin; refine Kd.R_append k104 (w0 := w) w.heap.size rfl (.tmp 23) (.tmp 28) 127 104 (.agg #[.int .i64 0, .int .u8 0]) 16 rfl Tryd.underlying127 infoCl rfl (by decide) (by decide) _ (clsL 2 ++ (ompL 2).take 1) (⟨2, 109⟩) [.int .i64 2, .int .u8 109] (fun k => k ≠ g) (fun _ => False) rfl (by first | (simp; done) | rfl) (k104_mkM _ _ _ _) (fun _ h => h.elim) (fun k hk => by show k ≠ g; omega) HO2.out HB2.out HB2.out.size (by simp [ompL]; omega) ?_; intro v1 w1 ho1 hb1 hg1 _; have HO1 := Aside0.mk ho1; have HB1 := Aside0.mk hb1; have HG1 := Aside0.mk hg1; clear ho1 hb1 hg1)
          clear hnx
          have hz1 : w2.heap.size ≤ w1.heap.size := HG1.out.size
          go_roundw
          case rel => exact ⟨2, by omega, by simpa only [ompL, List.take_succ_cons, List.take_zero, List.append_assoc, List.cons_append, List.nil_append, List.append_nil] using HO1.out, (HG1.out.block g hl2 (Kd.R_away HO2.out (fun _ h => h))).trans HI2.out, HB1.out⟩
          case measure =>
            have hp1 := iterPos_of ((HG1.out.block g hl2 (Kd.R_away HO2.out (fun _ h => h))).trans HI2.out)
            have hp0 := iterPos_of HI.out
            simp only [hp1, hp0]
            omega
        · have hnx := fun ty => omp_next wr g 2 ty (by omega) HI.out
          have hlt := blk_lt HI.out
          obtain ⟨w2, hw2⟩ : ∃ W, W = setB wr g (.stringIter ompS (2 + 1)) := ⟨_, rfl⟩
          rw [← hw2] at hnx
          have hI2 : w2.heap[g]? = some (.stringIter ompS 3) := by rw [hw2]; exact setB_same HI.out
          have hO2 := setB_R (o := .stringIter ompS (2 + 1)) HO.out
          rw [← hw2] at hO2
          have hB2 : Below w.heap.size w w2 := by rw [hw2]; exact setB_below HB.out hgw
          have hl2 : g < w2.heap.size := blk_lt hI2
          have HI2 := Aside0.mk hI2
          have HO2 := Aside0.mk hO2
          have HB2 := Aside0.mk hB2
          have hoc : ompC 2 = 112 := rfl
          rw [hoc] at hnx
          have hwr8 : IntKind.u8.wrap 112 = 112 := by decide
          clear hw2 hI2 hO2 hB2 hoc
          go_wp2_with (at_builtin; refine Kd.R_append k104 (w0 := w) w.heap.size rfl (.tmp 23) (.tmp 28) 127 104 (.agg #[.int .i64 0, .int .u8 0]) 16 rfl Tryd.underlying127 infoCl rfl (by decide) (by decide) _ (clsL 2 ++ (ompL 2).take 2) (⟨2, 112⟩) [.int .i64 2, .int .u8 112] (fun k => k ≠ g) (fun _ => False) rfl (by first | (simp; done) | rfl) (k104_mkM _ _ _ _) (fun _ h => h.elim) (fun k hk => by show k ≠ g; omega) HO2.out HB2.out HB2.out.size (by simp [ompL]; omega) ?_; intro v1 w1 ho1 hb1 hg1 _; have HO1 := Aside0.mk ho1; have HB1 := Aside0.mk hb1; have HG1 := Aside0.mk hg1; clear ho1 hb1 hg1)
          clear hnx
          have hz1 : w2.heap.size ≤ w1.heap.size := HG1.out.size
          go_roundw
          case rel => exact ⟨3, by omega, by simpa only [ompL, List.take_succ_cons, List.take_zero, List.append_assoc, List.cons_append, List.nil_append, List.append_nil] using HO1.out, (HG1.out.block g hl2 (Kd.R_away HO2.out (fun _ h => h))).trans HI2.out, HB1.out⟩
          case measure =>
            have hp1 := iterPos_of ((HG1.out.block g hl2 (Kd.R_away HO2.out (fun _ h => h))).trans HI2.out)
            have hp0 := iterPos_of HI.out
            simp only [hp1, hp0]
            omega
        · have hnx := fun ty => omp_end wr g ty HI.out
          go_wp2
          go_roundw
          case rel => exact ⟨3, by omega, by first | rfl | go_num, by rw [HCL.out]; exact Kd.R_mono HO.out (fun _ _ => trivial), HB.out⟩
          case measure => simp [intOf]
    · have hcl : clsL 4 = clsL 3 ++ ompL 3 := rfl
      have HCL := Aside0.mk hcl
      have hle := clsL_le 3
      clear hcl
      go_wp2_with fail
      obtain ⟨wI, hwI⟩ : ∃ W, W = wr.alloc (.stringIter ompS 0) := ⟨_, rfl⟩
      have hi0 : wI.heap[wr.heap.size]? = some (.stringIter ompS 0) := by rw [hwI]; exact blk_new _ _
      have hBI : Below wr.heap.size wr wI := by rw [hwI]; exact below_alloc (Below.refl _ _) _
      have hOI : Kd.R k104 104 wI w.heap.size (fun k => k ≠ wr.heap.size) _ (clsL 3) := Kd.R_mono (Kd.R_below (Kd.R_bound HO.out) hBI) (fun k hk => by have := hk.2.2.1; omega)
      rw [← hwI]
      obtain ⟨g, hg⟩ : ∃ g, g = wr.heap.size := ⟨_, rfl⟩
      rw [← hg] at hi0 hOI ⊢
      have hgw : w.heap.size ≤ g := by omega
      have HBI := Aside0.mk (HB.out.trans (hBI.mono hzr))
      clear hwI hBI hg HO HB
      try rw [show ((3 : Nat) : Int) = 3 from rfl]
      go_loopw [1] (fun v wr => ∃ pos : Nat, pos ≤ 3 ∧ Kd.R k104 104 wr w.heap.size (fun k => k ≠ g) v (clsL 3 ++ (ompL 3).take pos) ∧ wr.heap[g]? = some (.stringIter ompS pos) ∧ Below w.heap.size w wr) (fun _ wr => 3 - wr.iterPos g)
      case atStart => exact ⟨0, by omega, by simpa using hOI, hi0, HBI.out⟩
      case round =>
        obtain ⟨pos, hpos, hO, hi, hb⟩ := hrel
        have HO := Aside0.mk hO
        have HI := Aside0.mk hi
        have HB := Aside0.mk hb
        clear hO hi hb hOI hi0 HBI
        have hpp : pos = 0 ∨ pos = 1 ∨ pos = 2 ∨ pos = 3 := by omega
        rcases hpp with rfl | rfl | rfl | rfl
        · have hnx := fun ty => omp_next wr g 0 ty (by omega) HI.out
          have hlt := blk_lt HI.out
          obtain ⟨w2, hw2⟩ : ∃ W, W = setB wr g (.stringIter ompS (0 + 1)) := ⟨_, rfl⟩
          rw [← hw2] at hnx
          have hI2 : w2.heap[g]? = some (.stringIter ompS 1) := by rw [hw2]; exact setB_same HI.out
          have hO2 := setB_R (o := .stringIter ompS (0 + 1)) HO.out
          rw [← hw2] at hO2
          have hB2 : Below w.heap.size w w2 := by rw [hw2]; exact setB_below HB.out hgw
          have hl2 : g < w2.heap.size := blk_lt hI2
          have HI2 := Aside0.mk hI2
          have HO2 := Aside0.mk hO2
          have HB2 := Aside0.mk hB2
          have hoc : ompC 0 = 111 := rfl
          rw [hoc] at hnx
          have hwr8 : IntKind.u8.wrap 111 = 111 := by decide
          clear hw2 hI2 hO2 hB2 hoc
          go_wp2_with (at_builtin; refine Kd.R_append k104 (w0 := w) w.heap.size rfl (.tmp 23) (.tmp 28) 127 104 (.agg #[.int .i64 0, .int .u8 0]) 16 rfl Tryd.underlying127 infoCl rfl (by decide) (by decide) _ (clsL 3 ++ (ompL 3).take 0) (⟨3, 111⟩) [.int .i64 3, .int .u8 111] (fun k => k ≠ g) (fun _ => False) rfl (by first | (simp; done) | rfl) (k104_mkM _ _ _ _) (fun _ h => h.elim) (fun k hk => by show k ≠ g; omega) HO2.out HB2.out HB2.out.size (by simp [ompL]; omega) ?_; intro v1 w1 ho1 hb1 hg1 _; have HO1 := Aside0.mk ho1; have HB1 := Aside0.mk hb1; have HG1 := Aside0.mk hg1; clear ho1 hb1 hg1)
          clear hnx
          have hz1 : w2.heap.size ≤ w1.heap.size := HG1.out.size
          go_roundw
          case rel => exact ⟨1, by omega, by simpa only [ompL, List.take_succ_cons, List.take_zero, List.append_assoc, List.cons_append, List.nil_append, List.append_nil] using HO1.out, (HG1.out.block g hl2 (Kd.R_away HO2.out (fun _ h => h))).trans HI2.out, HB1.out⟩
          case measure =>
            have hp1 := iterPos_of ((HG1.out.block g hl2 (Kd.R_away HO2.out (fun _ h => h))).trans HI2.out)
            have hp0 := iterPos_of HI.out
            simp only [hp1, hp0]
            omega
        · have hnx := fun ty => omp_next wr g 1 ty (by omega) HI.out
          have hlt := blk_lt HI.out
          obtain ⟨w2, hw2⟩ : ∃ W, W = setB wr g (.stringIter ompS (1 + 1)) := ⟨_, rfl⟩
          rw [← hw2] at hnx
          have hI2 : w2.heap[g]? = some (.stringIter ompS 2) := by rw [hw2]; exact setB_same HI.out
          have hO2 := setB_R (o := .stringIter ompS (1 + 1)) HO.out
          rw [← hw2] at hO2
          have hB2 : Below w.heap.size w w2 := by rw [hw2]; exact setB_below HB.out hgw
          have hl2 : g < w2.heap.size := blk_lt hI2
          have HI2 := Aside0.mk hI2
          have HO2 := Aside0.mk hO2
          have HB2 := Aside0.mk hB2
          have hoc : ompC 1 = 109 := rfl
          rw [hoc] at hnx
          have hwr8 : IntKind.u8.wrap 109 = 109 := by decide
          clear hw2 hI2 hO2 hB2 hoc
          go_wp2_with (at_builtin; refine Kd.R_append k104 (w0 := w) w.heap.size rfl (.tmp 23) (.tmp 28) 127 104 (.agg #[.int .i64 0, .int .u8 0]) 16 rfl Tryd.underlying127 infoCl rfl (by decide) (by decide) _ (clsL 3 ++ (ompL 3).take 1) (⟨3, 109⟩) [.int .i64 3, .int .u8 109] (fun k => k ≠ g) (fun _ => False) rfl (by first | (simp; done) | rfl) (k104_mkM _ _ _ _) (fun _ h => h.elim) (fun k hk => by show k ≠ g; omega) HO2.out HB2.out HB2.out.size (by simp [ompL]; omega) ?_; intro v1 w1 ho1 hb1 hg1 _; have HO1 := Aside0.mk ho1; have HB1 := Aside0.mk hb1; have HG1 := Aside0.mk hg1; clear ho1 hb1 hg1)
          clear hnx
          have hz1 : w2.heap.size ≤ w1.heap.size := HG1.out.size
          go_roundw
          case rel => exact ⟨2, by omega, by simpa only [ompL, List.take_succ_cons, List.take_zero, List.append_assoc, List.cons_append, List.nil_append, List.append_nil] using HO1.out, (HG1.out.block g hl2 (Kd.R_away HO2.out (fun _ h => h))).trans HI2.out, HB1.out⟩
          case measure =>
            have hp1 := iterPos_of ((HG1.out.block g hl2 (Kd.R_away HO2.out (fun _ h => h))).trans HI2.out)
            have hp0 := iterPos_of HI.out
            simp only [hp1, hp0]
            omega
        · have hnx := fun ty => omp_next wr g 2 ty (by omega) HI.out
          have hlt := blk_lt HI.out
          obtain ⟨w2, hw2⟩ : ∃ W, W = setB wr g (.stringIter ompS (2 + 1)) := ⟨_, rfl⟩
          rw [← hw2] at hnx
          have hI2 : w2.heap[g]? = some (.stringIter ompS 3) := by rw [hw2]; exact setB_same HI.out
          have hO2 := setB_R (o := .stringIter ompS (2 + 1)) HO.out
          rw [← hw2] at hO2
          have hB2 : Below w.heap.size w w2 := by rw [hw2]; exact setB_below HB.out hgw
          have hl2 : g < w2.heap.size := blk_lt hI2
          have HI2 := Aside0.mk hI2
          have HO2 := Aside0.mk hO2
          have HB2 := Aside0.mk hB2
          have hoc : ompC 2 = 112 := rfl
          rw [hoc] at hnx
          have hwr8 : IntKind.u8.wrap 112 = 112 := by decide
          clear hw2 hI2 hO2 hB2 hoc
          go_wp2_with (at_builtin; refine Kd.R_append k104 (w0 := w) w.heap.size rfl (.tmp 23) (.tmp 28) 127 104 (.agg #[.int .i64 0, .int .u8 0]) 16 rfl Tryd.underlying127 infoCl rfl (by decide) (by decide) _ (clsL 3 ++ (ompL 3).take 2) (⟨3, 112⟩) [.int .i64 3, .int .u8 112] (fun k => k ≠ g) (fun _ => False) rfl (by first | (simp; done) | rfl) (k104_mkM _ _ _ _) (fun _ h => h.elim) (fun k hk => by show k ≠ g; omega) HO2.out HB2.out HB2.out.size (by simp [ompL]; omega) ?_; intro v1 w1 ho1 hb1 hg1 _; have HO1 := Aside0.mk ho1; have HB1 := Aside0.mk hb1; have HG1 := Aside0.mk hg1; clear ho1 hb1 hg1)
          clear hnx
          have hz1 : w2.heap.size ≤ w1.heap.size := HG1.out.size
          go_roundw
          case rel => exact ⟨3, by omega, by simpa only [ompL, List.take_succ_cons, List.take_zero, List.append_assoc, List.cons_append, List.nil_append, List.append_nil] using HO1.out, (HG1.out.block g hl2 (Kd.R_away HO2.out (fun _ h => h))).trans HI2.out, HB1.out⟩
          case measure =>
            have hp1 := iterPos_of ((HG1.out.block g hl2 (Kd.R_away HO2.out (fun _ h => h))).trans HI2.out)
            have hp0 := iterPos_of HI.out
            simp only [hp1, hp0]
            omega
        · have hnx := fun ty => omp_end wr g ty HI.out
          go_wp2
          go_roundw
          case rel => exact ⟨4, by omega, by first | rfl | go_num, by rw [HCL.out]; exact Kd.R_mono HO.out (fun _ _ => trivial), HB.out⟩
          case measure => simp [intOf]
    · have hcl : clsL 5 = clsL 4 ++ ompL 4 := rfl
      have HCL := Aside0.mk hcl
      have hle := clsL_le 4
      clear hcl
      go_wp2_with fail
      obtain ⟨wI, hwI⟩ : ∃ W, W = wr.alloc (.stringIter ompS 0) := ⟨_, rfl⟩
      have hi0 : wI.heap[wr.heap.size]? = some (.stringIter ompS 0) := by rw [hwI]; exact blk_new _ _
      have hBI : Below wr.heap.size wr wI := by rw [hwI]; exact below_alloc (Below.refl _ _) _
      have hOI : Kd.R k104 104 wI w.heap.size (fun k => k ≠ wr.heap.size) _ (clsL 4) := Kd.R_mono (Kd.R_below (Kd.R_bound HO.out) hBI) (fun k hk => by have := hk.2.2.1; omega)
      rw [← hwI]
      obtain ⟨g, hg⟩ : ∃ g, g = wr.heap.size := ⟨_, rfl⟩
      rw [← hg] at hi0 hOI ⊢
      have hgw : w.heap.size ≤ g := by omega
      have HBI := Aside0.mk (HB.out.trans (hBI.mono hzr))
      clear hwI hBI hg HO HB
      try rw [show ((4 : Nat) : Int) = 4 from rfl]
      go_loopw [1] (fun v wr => ∃ pos : Nat, pos ≤ 3 ∧ Kd.R k104 104 wr w.heap.size (fun k => k ≠ g) v (clsL 4 ++ (ompL 4).take pos) ∧ wr.heap[g]? = some (.stringIter ompS pos) ∧ Below w.heap.size w wr) (fun _ wr => 3 - wr.iterPos g)
      case atStart => exact ⟨0, by omega, by simpa using hOI, hi0, HBI.out⟩
      case round =>
        obtain ⟨pos, hpos, hO, hi, hb⟩ := hrel
        have HO := Aside0.mk hO
        have HI := Aside0.mk hi
        have HB := Aside0.mk hb
        clear hO hi hb hOI hi0 HBI
        have hpp : pos = 0 ∨ pos = 1 ∨ pos = 2 ∨ pos = 3 := by omega
        rcases hpp with rfl | rfl | rfl | rfl
        · have hnx := fun ty => omp_next wr g 0 ty (by omega) HI.out
          have hlt := blk_lt HI.out
          obtain ⟨w2, hw2⟩ : ∃ W, W = setB wr g (.stringIter ompS (0 + 1)) := ⟨_, rfl⟩
          rw [← hw2] at hnx
          have hI2 : w2.heap[g]? = some (.stringIter ompS 1) := by rw [hw2]; exact setB_same HI.out
          have hO2 := setB_R (o := .stringIter ompS (0 + 1)) HO.out
          rw [← hw2] at hO2
          have hB2 : Below w.heap.size w w2 := by rw [hw2]; exact setB_below HB.out hgw
          have hl2 : g < w2.heap.size := blk_lt hI2
          have HI2 := Aside0.mk hI2
          have HO2 := Aside0.mk hO2
          have HB2 := Aside0.mk hB2
          have hoc : ompC 0 = 111 := rfl
          rw [hoc] at hnx
          have hwr8 : IntKind.u8.wrap 111 = 111 := by decide
          clear hw2 hI2 hO2 hB2 hoc
          go_wp2_with (at_builtin; refine Kd.R_append k104 (w0 := w) w.heap.size rfl (.tmp 23) (.tmp 28) 127 104 (.agg #[.int .i64 0, .int .u8 0]) 16 rfl Tryd.underlying127 infoCl rfl (by decide) (by decide) _ (clsL 4 ++ (ompL 4).take 0) (⟨4, 111⟩) [.int .i64 4, .int .u8 111] (fun k => k ≠ g) (fun _ => False) rfl (by first | (simp; done) | rfl) (k104_mkM _ _ _ _) (fun _ h => h.elim) (fun k hk => by show k ≠ g; omega) HO2.out HB2.out HB2.out.size (by simp [ompL]; omega) ?_; intro v1 w1 ho1 hb1 hg1 _; have HO1 := Aside0.mk ho1; have HB1 := Aside0.mk hb1; have HG1 := Aside0.mk hg1; clear ho1 hb1 hg1)
          clear hnx
          have hz1 : w2.heap.size ≤ w1.heap.size := HG1.out.size
          go_roundw
          case rel => exact ⟨1, by omega, by simpa only [ompL, List.take_succ_cons, List.take_zero, List.append_assoc, List.cons_append, List.nil_append, List.append_nil] using HO1.out, (HG1.out.block g hl2 (Kd.R_away HO2.out (fun _ h => h))).trans HI2.out, HB1.out⟩
          case measure =>
            have hp1 := iterPos_of ((HG1.out.block g hl2 (Kd.R_away HO2.out (fun _ h => h))).trans HI2.out)
            have hp0 := iterPos_of HI.out
            simp only [hp1, hp0]
            omega
        · have hnx := fun ty => omp_next wr g 1 ty (by omega) HI.out
          have hlt := blk_lt HI.out
          obtain ⟨w2, hw2⟩ : ∃ W, W = setB wr g (.stringIter ompS (1 + 1)) := ⟨_, rfl⟩
          rw [← hw2] at hnx
          have hI2 : w2.heap[g]? = some (.stringIter ompS 2) := by rw [hw2]; exact setB_same HI.out
          have hO2 := setB_R (o := .stringIter ompS (1 + 1)) HO.out
          rw [← hw2] at hO2
          have hB2 : Below w.heap.size w w2 := by rw [hw2]; exact setB_below HB.out hgw
          have hl2 : g < w2.heap.size := blk_lt hI2
          have HI2 := Aside0.mk hI2
          have HO2 := Aside0.mk hO2
          have HB2 := Aside0.mk hB2
          have hoc : ompC 1 = 109 := rfl
          rw [hoc] at hnx
          have hwr8 : IntKind.u8.wrap 109 = 109 := by decide
          clear hw2 hI2 hO2 hB2 hoc
          go_wp2_with (at_builtin; refine Kd.R_append k104 (w0 := w) w.heap.size rfl (.tmp 23) (.tmp 28) 127 104 (.agg #[.int .i64 0, .int .u8 0]) 16 rfl Tryd.underlying127 infoCl rfl (by decide) (by decide) _ (clsL 4 ++ (ompL 4).take 1) (⟨4, 109⟩) [.int .i64 4, .int .u8 109] (fun k => k ≠ g) (fun _ => False) rfl (by first | (simp; done) | rfl) (k104_mkM _ _ _ _) (fun _ h => h.elim) (fun k hk => by show k ≠ g; omega) HO2.out HB2.out HB2.out.size (by simp [ompL]; omega) ?_; intro v1 w1 ho1 hb1 hg1 _; have HO1 := Aside0.mk ho1; have HB1 := Aside0.mk hb1; have HG1 := Aside0.mk hg1; clear ho1 hb1 hg1)
          clear hnx
          have hz1 : w2.heap.size ≤ w1.heap.size := HG1.out.size
          go_roundw
          case rel => exact ⟨2, by omega, by simpa only [ompL, List.take_succ_cons, List.take_zero, List.append_assoc, List.cons_append, List.nil_append, List.append_nil] using HO1.out, (HG1.out.block g hl2 (Kd.R_away HO2.out (fun _ h => h))).trans HI2.out, HB1.out⟩
          case measure =>
            have hp1 := iterPos_of ((HG1.out.block g hl2 (Kd.R_away HO2.out (fun _ h => h))).trans HI2.out)
            have hp0 := iterPos_of HI.out
            simp only [hp1, hp0]
            omega
        · have hnx := fun ty => omp_next wr g 2 ty (by omega) HI.out
          have hlt := blk_lt HI.out
          obtain ⟨w2, hw2⟩ : ∃ W, W = setB wr g (.stringIter ompS (2 + 1)) := ⟨_, rfl⟩
          rw [← hw2] at hnx
          have hI2 : w2.heap[g]? = some (.stringIter ompS 3) := by rw [hw2]; exact setB_same HI.out
          have hO2 := setB_R (o := .stringIter ompS (2 + 1)) HO.out
          rw [← hw2] at hO2
          have hB2 : Below w.heap.size w w2 := by rw [hw2]; exact setB_below HB.out hgw
          have hl2 : g < w2.heap.size := blk_lt hI2
          have HI2 := Aside0.mk hI2
          have HO2 := Aside0.mk hO2
          have HB2 := Aside0.mk hB2
          have hoc : ompC 2 = 112 := rfl
          rw [hoc] at hnx
          have hwr8 : IntKind.u8.wrap 112 = 112 := by decide
          clear hw2 hI2 hO2 hB2 hoc
          go_wp2_with (at_builtin; refine Kd.R_append k104 (w0 := w) w.heap.size rfl (.tmp 23) (.tmp 28) 127 104 (.agg #[.int .i64 0, .int .u8 0]) 16 rfl Tryd.underlying127 infoCl rfl (by decide) (by decide) _ (clsL 4 ++ (ompL 4).take 2) (⟨4, 112⟩) [.int .i64 4, .int .u8 112] (fun k => k ≠ g) (fun _ => False) rfl (by first | (simp; done) | rfl) (k104_mkM _ _ _ _) (fun _ h => h.elim) (fun k hk => by show k ≠ g; omega) HO2.out HB2.out HB2.out.size (by simp [ompL]; omega) ?_; intro v1 w1 ho1 hb1 hg1 _; have HO1 := Aside0.mk ho1; have HB1 := Aside0.mk hb1; have HG1 := Aside0.mk hg1; clear ho1 hb1 hg1)
          clear hnx
          have hz1 : w2.heap.size ≤ w1.heap.size := HG1.out.size
          go_roundw
          case rel => exact ⟨3, by omega, by simpa only [ompL, List.take_succ_cons, List.take_zero, List.append_assoc, List.cons_append, List.nil_append, List.append_nil] using HO1.out, (HG1.out.block g hl2 (Kd.R_away HO2.out (fun _ h => h))).trans HI2.out, HB1.out⟩
          case measure =>
            have hp1 := iterPos_of ((HG1.out.block g hl2 (Kd.R_away HO2.out (fun _ h => h))).trans HI2.out)
            have hp0 := iterPos_of HI.out
            simp only [hp1, hp0]
            omega
        · have hnx := fun ty => omp_end wr g ty HI.out
          go_wp2
          go_roundw
          case rel => exact ⟨5, by omega, by first | rfl | go_num, by rw [HCL.out]; exact Kd.R_mono HO.out (fun _ _ => trivial), HB.out⟩
          case measure => simp [intOf]
    · have hcl : clsL 6 = clsL 5 ++ [⟨5, 0⟩] := rfl
      have HCL := Aside0.mk hcl
      have hle := clsL_le 5
      clear hcl
      go_wp2_with (at_builtin; refine Kd.R_append k104 (w0 := w) w.heap.size rfl (.tmp 14) (.tmp 17) 127 104 (.agg #[.int .i64 0, .int .u8 0]) 16 rfl Tryd.underlying127 infoCl rfl (by decide) (by decide) _ (clsL 5) (⟨5, 0⟩) [.int .i64 5, .int .u8 0] (fun _ => True) (fun _ => False) rfl (by first | (simp; done) | rfl) (k104_mkM _ _ _ _) (fun _ h => h.elim) (fun _ _ => trivial) HO.out HB.out hzr (by omega) ?_; intro v1 w1 ho1 hb1 hg1 _; have HO1 := Aside0.mk ho1; have HB1 := Aside0.mk hb1; have HG1 := Aside0.mk hg1; clear ho1 hb1 hg1)
      go_roundw
      case rel => exact ⟨6, by omega, by first | rfl | go_num, by rw [HCL.out]; exact HO1.out, HB1.out⟩
      case measure => simp [intOf]
    · have hcl : clsL 7 = clsL 6 ++ [⟨6, 0⟩] := rfl
      have HCL := Aside0.mk hcl
      have hle := clsL_le 6
      clear hcl
      go_wp2_with (at_builtin; refine Kd.R_append k104 (w0 := w) w.heap.size rfl (.tmp 14) (.tmp 17) 127 104 (.agg #[.int .i64 0, .int .u8 0]) 16 rfl Tryd.underlying127 infoCl rfl (by decide) (by decide) _ (clsL 6) (⟨6, 0⟩) [.int .i64 6, .int .u8 0] (fun _ => True) (fun _ => False) rfl (by first | (simp; done) | rfl) (k104_mkM _ _ _ _) (fun _ h => h.elim) (fun _ _ => trivial) HO.out HB.out hzr (by omega) ?_; intro v1 w1 ho1 hb1 hg1 _; have HO1 := Aside0.mk ho1; have HB1 := Aside0.mk hb1; have HG1 := Aside0.mk hg1; clear ho1 hb1 hg1)
      go_roundw
      case rel => exact ⟨7, by omega, by first | rfl | go_num, by rw [HCL.out]; exact HO1.out, HB1.out⟩
      case measure => simp [intOf]
    · go_wp2
      go_ret
      exact ⟨_, rfl, HO.out, HB.out⟩
def XClasses.f : Option (List S104) := some (clsL 7)
theorem XClasses.calls (r : List S104) (w : World) (h : XClasses.f = some r) :
    Calls Tryd.prog 78 #[] w fun e w' => ∃ v0_ : Value, e = .returned (v0_) ∧ Kd.R k104 104 w' w.heap.size (fun _ => True) v0_ r ∧ Below w.heap.size w w' := by
  obtain rfl := Option.some.inj h
  exact classes_any w
def XLetter.f (x : Int) : Option Int := (bits_OnesCount.f (IntKind.u64.wrap x)).bind fun t => (table_turned.f x 1).bind fun u => (bits_OnesCount.f (IntKind.u64.wrap (Go.bits .and .i64 x u))).bind fun b => (table_turned.f x 2).bind fun v =>
  some (if t = 3 ∧ b = 0 then 112 else if t = 3 ∧ b = 1 then 109 else if b > 0 then 111 else if Go.bits .and .i64 x v = 0 then 112 else 109)
set_option maxRecDepth 100000 in
set_option maxHeartbeats 4000000 in
theorem letter_walk (x t u b v : Int) (w : World) (h1 : bits_OnesCount.f (IntKind.u64.wrap x) = some t) (h2 : table_turned.f x 1 = some u) (h3 : bits_OnesCount.f (IntKind.u64.wrap (Go.bits .and .i64 x u)) = some b) (h4 : table_turned.f x 2 = some v) :
    Calls Tryd.prog 109 #[.int .i64 x] w fun e w' => e = .returned (.int .u8 (if t = 3 ∧ b = 0 then 112 else if t = 3 ∧ b = 1 then 109 else if b > 0 then 111 else if Go.bits .and .i64 x v = 0 then 112 else 109)) ∧ Below w.heap.size w w' := by
  have c1 := fun W => bits_OnesCount.calls (IntKind.u64.wrap x) t W h1
  have c2 := fun W => table_turned.calls x 1 u W h2
  have c3 := fun W => bits_OnesCount.calls (IntKind.u64.wrap (Go.bits .and .i64 x u)) b W h3
  have c4 := fun W => table_turned.calls x 2 v W h4
  clear h1 h2 h3 h4
  generalize hy : Go.bits .and .i64 x u = y at c3
  generalize hz : Go.bits .and .i64 x v = z
  have HB0 := Aside0.mk (Below.refl w.heap.size w)
  have key : ∀ r : Int, (if t = 3 ∧ b = 0 then 112 else if t = 3 ∧ b = 1 then 109 else if b > 0 then 111 else if z = 0 then 112 else 109) = r →
      Calls Tryd.prog 109 #[.int .i64 x] w fun e w' => e = .returned (.int .u8 r) ∧ Below w.heap.size w w' := by
    intro r hr
    have HR := Aside0.mk hr
    clear hr
    go_enter Tryd.func109, Tryd.ntmps109
    go_wp2_with fail
    refine (c1 _).mono ?_
    rintro e w1 ⟨rfl, hd1⟩
    have HB1 := Aside0.mk (hd1.below : Below w.heap.size w w1)
    clear hd1
    by_cases ht : t = 3
    · subst ht
      go_wp2_with fail
      refine (c2 _).mono ?_
      rintro e w2 ⟨rfl, hd2⟩
      have HB2 := Aside0.mk (HB1.out.trans ((hd2.below).mono HB1.out.size))
      clear hd2
      go_wp2_with fail
      refine (c3 _).mono ?_
      rintro e w3 ⟨rfl, hd3⟩
      have HB3 := Aside0.mk (HB2.out.trans ((hd3.below).mono HB2.out.size))
      clear hd3
      by_cases hb0 : b = 0
      · subst hb0
        go_wp2
        go_ret
        exact ⟨by rw [← HR.out]; simp, HB3.out⟩
      · have e0 : (b == 0) = false := beq_eq_false_iff_ne.2 hb0
        by_cases hb1 : b = 1
        · subst hb1
          go_wp2
          go_ret
          exact ⟨by rw [← HR.out]; simp, HB3.out⟩
        · have e1 : (b == 1) = false := beq_eq_false_iff_ne.2 hb1
          by_cases hbp : b > 0
          · go_wp2
            go_ret
            exact ⟨by rw [← HR.out]; simp [hb0, hb1, hbp], HB3.out⟩
          · by_cases hz0 : z = 0
            · have ez : (z != 0) = false := by simp [hz0]
              go_wp2_with fail
              refine (c4 _).mono ?_
              rintro e w4 ⟨rfl, hd4⟩
              have HB4 := Aside0.mk (HB3.out.trans ((hd4.below).mono HB3.out.size))
              clear hd4
              go_wp2
              go_ret
              exact ⟨by rw [← HR.out]; simp [hb0, hb1, hbp, hz0], HB4.out⟩
            · have ez : (z != 0) = true := by simp [hz0]
              go_wp2_with fail
              refine (c4 _).mono ?_
              rintro e w4 ⟨rfl, hd4⟩
              have HB4 := Aside0.mk (HB3.out.trans ((hd4.below).mono HB3.out.size))
              clear hd4
              go_wp2
              go_ret
              exact ⟨by rw [← HR.out]; simp [hb0, hb1, hbp, hz0], HB4.out⟩
    · have et : (t == 3) = false := beq_eq_false_iff_ne.2 ht
      go_wp2_with fail
      refine (c2 _).mono ?_
      rintro e w2 ⟨rfl, hd2⟩
      have HB2 := Aside0.mk (HB1.out.trans ((hd2.below).mono HB1.out.size))
      clear hd2
      go_wp2_with fail
      refine (c3 _).mono ?_
      rintro e w3 ⟨rfl, hd3⟩
      have HB3 := Aside0.mk (HB2.out.trans ((hd3.below).mono HB2.out.size))
      clear hd3
      by_cases hbp : b > 0
      · go_wp2
        go_ret
        exact ⟨by rw [← HR.out]; simp [ht, hbp], HB3.out⟩
      · by_cases hz0 : z = 0
        · have ez : (z != 0) = false := by simp [hz0]
          go_wp2_with fail
          refine (c4 _).mono ?_
          rintro e w4 ⟨rfl, hd4⟩
          have HB4 := Aside0.mk (HB3.out.trans ((hd4.below).mono HB3.out.size))
          clear hd4
          go_wp2
          go_ret
          exact ⟨by rw [← HR.out]; simp [ht, hbp, hz0], HB4.out⟩
        · have ez : (z != 0) = true := by simp [hz0]
          go_wp2_with fail
          refine (c4 _).mono ?_
          rintro e w4 ⟨rfl, hd4⟩
          have HB4 := Aside0.mk (HB3.out.trans ((hd4.below).mono HB3.out.size))
          clear hd4
          go_wp2
          go_ret
          exact ⟨by rw [← HR.out]; simp [ht, hbp, hz0], HB4.out⟩
  exact key _ rfl
theorem XLetter.calls (a0 : Int) (r : Int) (w : World) (h : XLetter.f a0 = some r) :
    Calls Tryd.prog 109 #[.int .i64 a0] w fun e w' => e = .returned (.int .u8 r) ∧ Below w.heap.size w w' := by
  unfold XLetter.f at h
  obtain ⟨t, h1, h⟩ := Option.bind_eq_some_iff.1 h
  obtain ⟨u, h2, h⟩ := Option.bind_eq_some_iff.1 h
  obtain ⟨b, h3, h⟩ := Option.bind_eq_some_iff.1 h
  obtain ⟨v, h4, h⟩ := Option.bind_eq_some_iff.1 h
  obtain rfl := Option.some.inj h
  exact letter_walk a0 t u b v w h1 h2 h3 h4
end Go.Proofs.YtaeenefdbahfoaaDoor
