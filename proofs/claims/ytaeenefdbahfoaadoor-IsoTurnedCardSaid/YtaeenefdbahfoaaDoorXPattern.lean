/- iso.pattern: the origin, and a ring around it. -/
import Derived.Test.YtaeenefdbahfoaaDoorXOf
import Derived.Test.YtaeenefdbahfoaaDoorXBrought
namespace Go.Proofs.YtaeenefdbahfoaaDoor
open Go.RowKit Go.Proofs.YtaeenefdbahfoaaDoorW.PrintWords Go.Proofs.YtaeenefdbahfoaaDoorW.PrintLast Go.Proofs.YtaeenefdbahfoaaDoorW.PrintMore
open H
open Go.RowKit
set_option linter.unusedSimpArgs false

def patL (ring : Int) (live : Bool) : Nat → List S65
  | 0 => if live = true then [⟨⟨0, 0⟩, 0⟩] else []
  | j + 1 => if Go.bits .and .i64 (ring / 2 ^ j) 1 = 1 then patL ring live j ++ [⟨⟨sixA j, sixB j⟩, 0⟩] else patL ring live j
theorem patL_le (ring : Int) (live : Bool) : ∀ j, (patL ring live j).length ≤ j + 1
  | 0 => by unfold patL; split <;> simp
  | j + 1 => by
    have := patL_le ring live j
    unfold patL
    split
    · rw [List.length_append]; simp; omega
    · omega

set_option maxRecDepth 100000 in
set_option maxHeartbeats 4000000 in
theorem XPattern_any (ring : Int) (live : Bool) (w : World) (hG : Six w) :
    Calls Tryd.prog 88 #[.int .i64 ring, .bool live] w fun e w' => ∃ v, e = .returned v ∧ Kd.R k65 65 w' w.heap.size (fun _ => True) v (ofL (patL ring live 6)) ∧ Below w.heap.size w w' := by
  have hsix := fun W hW => XSix.calls 1 0 0 1 (-1) 1 (-1) 0 0 (-1) 1 (-1) W hW rfl
  have HG := Aside0.mk hG
  have HSIX := Aside0.mk hsix
  have hof : ∀ (A : Option Addr) (c : Nat) W (_ : Kd.C k65 W A (patL ring live 6).length (patL ring live 6)) (_ : (patL ring live 6).length ≤ c), Calls Tryd.prog 37 #[.slice A (patL ring live 6).length c] W fun e w' => ∃ v0_ : Value, e = .returned v0_ ∧ Kd.R k65 65 w' W.heap.size (fun _ => True) v0_ (ofL (patL ring live 6)) ∧ Below W.heap.size W w' := fun A c W hC hc =>
    XOf.calls A c (patL ring live 6) (ofL (patL ring live 6)) W hC hc (by have := patL_le ring live 6; simp [XOf.f]; omega)
  have HOF := Aside0.mk hof
  clear hsix hG hof
  have h00 : patL ring live 0 = if live = true then [⟨⟨0, 0⟩, 0⟩] else [] := rfl
  have H00 := Aside0.mk h00
  clear h00
  -- the end: behind the origin
  cases live
  · have h0 : patL ring false 0 = [] := rfl
    have H0 := Aside0.mk h0
    clear h0 H00
    generalize hX : ofL (patL ring false 6) = X at HOF ⊢
    have HX := Aside0.mk hX
    clear hX
    go_enter Tryd.func88, Tryd.ntmps88
    go_wp2_with fail
    refine (HSIX.out _ (Six.below HG.out (Below.refl _ _))).mono ?_
    rintro e w2 ⟨rfl, hb2⟩
    have HB2 := Aside0.mk hb2
    clear hb2
    go_wp2_with fail
    go_loopw [14, 5] (fun i v wr => ∃ j : Nat, j ≤ 6 ∧ i = .int .i64 j ∧ Kd.R k65 65 wr w.heap.size (fun _ => True) v (patL ring false j) ∧ Below w.heap.size w wr) (fun i _ _ => 6 - (intOf i).toNat)
    case atStart => exact ⟨0, by omega, rfl, by rw [H0.out]; exact Kd.R_nil _ _ _ _ _, HB2.out⟩
    case round =>
      obtain ⟨j, hj, rfl, hO, hb⟩ := hrel
      have HO := Aside0.mk hO
      have HB := Aside0.mk hb
      have hzr := hb.size
      clear hO hb H0
      have hjj : j = 0 ∨ j = 1 ∨ j = 2 ∨ j = 3 ∨ j = 4 ∨ j = 5 ∨ j = 6 := by omega
      rcases hjj with rfl | rfl | rfl | rfl | rfl | rfl | rfl
      · have hix : ∀ w : World, (Instr.index 69 (.agg #[.int .i64 1, .int .i64 0, .int .i64 0, .int .i64 1, .int .i64 (-1), .int .i64 1, .int .i64 (-1), .int .i64 0, .int .i64 0, .int .i64 (-1), .int .i64 1, .int .i64 (-1)]) (.int .i64 0)).run Tryd.prog w = .ok (.agg #[.int .i64 1, .int .i64 0]) w := fun w => by kernel_rfl
        have hpl := patL_le ring false 0
        have hp : patL ring false 1 = if Go.bits .and .i64 (ring / 2 ^ 0) 1 = 1 then patL ring false 0 ++ [⟨⟨1, 0⟩, 0⟩] else patL ring false 0 := rfl
        by_cases hbit : Go.bits .and .i64 (ring / 2 ^ 0) 1 = 1
        · have hp := hp.trans (if_pos hbit)
          have HP := Aside0.mk hp
          have hbit2 : (Go.bits .and .i64 (ring / 2 ^ 0) 1 == 1) = true := beq_iff_eq.2 hbit
          simp only [Int.reducePow, Int.ediv_one] at hbit hbit2
          clear hp hbit
          go_wp2_with (at_builtin; refine app1 k65 w.heap.size (.tmp 23) (.tmp 26) 34 65 (.agg #[.int .i64 0, .int .i64 0, .int .i64 0]) 24 (w0 := w) _ (patL ring false 0) (⟨⟨1, 0⟩, 0⟩) [.int .i64 1, .int .i64 0, .int .i64 0] _ rfl rfl Tryd.underlying34 info65 rfl (by decide) (by decide) rfl (by simp; done) rfl (k65_mkM _ _ _ _) (Kd.R_alloc HO.out _) (below_alloc2 HB.out hzr _) (by simp; omega) (by omega) ?_; intro v1 w4 ho1 hb1; have HO1 := Aside0.mk ho1; have HB1 := Aside0.mk hb1; clear ho1 hb1)
          go_roundw
          case rel => exact ⟨1, by omega, by first | rfl | go_num, by rw [HP.out]; exact HO1.out, HB1.out⟩
          case measure => simp [intOf]
        · have hp := hp.trans (if_neg hbit)
          have HP := Aside0.mk hp
          have hbit2 : (Go.bits .and .i64 (ring / 2 ^ 0) 1 == 1) = false := beq_eq_false_iff_ne.2 hbit
          simp only [Int.reducePow, Int.ediv_one] at hbit hbit2
          clear hp hbit
          go_wp2
          go_roundw
          case rel => exact ⟨1, by omega, by first | rfl | go_num, by rw [HP.out]; exact Kd.R_alloc HO.out _, below_alloc2 HB.out hzr _⟩
          case measure => simp [intOf]
      · have hix : ∀ w : World, (Instr.index 69 (.agg #[.int .i64 1, .int .i64 0, .int .i64 0, .int .i64 1, .int .i64 (-1), .int .i64 1, .int .i64 (-1), .int .i64 0, .int .i64 0, .int .i64 (-1), .int .i64 1, .int .i64 (-1)]) (.int .i64 1)).run Tryd.prog w = .ok (.agg #[.int .i64 0, .int .i64 1]) w := fun w => by kernel_rfl
        have hpl := patL_le ring false 1
        have hp : patL ring false 2 = if Go.bits .and .i64 (ring / 2 ^ 1) 1 = 1 then patL ring false 1 ++ [⟨⟨0, 1⟩, 0⟩] else patL ring false 1 := rfl
        by_cases hbit : Go.bits .and .i64 (ring / 2 ^ 1) 1 = 1
        · have hp := hp.trans (if_pos hbit)
          have HP := Aside0.mk hp
          have hbit2 : (Go.bits .and .i64 (ring / 2 ^ 1) 1 == 1) = true := beq_iff_eq.2 hbit
          simp only [Int.reducePow, Int.ediv_one] at hbit hbit2
          clear hp hbit
          go_wp2_with (at_builtin; refine app1 k65 w.heap.size (.tmp 23) (.tmp 26) 34 65 (.agg #[.int .i64 0, .int .i64 0, .int .i64 0]) 24 (w0 := w) _ (patL ring false 1) (⟨⟨0, 1⟩, 0⟩) [.int .i64 0, .int .i64 1, .int .i64 0] _ rfl rfl Tryd.underlying34 info65 rfl (by decide) (by decide) rfl (by simp; done) rfl (k65_mkM _ _ _ _) (Kd.R_alloc HO.out _) (below_alloc2 HB.out hzr _) (by simp; omega) (by omega) ?_; intro v1 w4 ho1 hb1; have HO1 := Aside0.mk ho1; have HB1 := Aside0.mk hb1; clear ho1 hb1)
          go_roundw
          case rel => exact ⟨2, by omega, by first | rfl | go_num, by rw [HP.out]; exact HO1.out, HB1.out⟩
          case measure => simp [intOf]
        · have hp := hp.trans (if_neg hbit)
          have HP := Aside0.mk hp
          have hbit2 : (Go.bits .and .i64 (ring / 2 ^ 1) 1 == 1) = false := beq_eq_false_iff_ne.2 hbit
          simp only [Int.reducePow, Int.ediv_one] at hbit hbit2
          clear hp hbit
          go_wp2
          go_roundw
          case rel => exact ⟨2, by omega, by first | rfl | go_num, by rw [HP.out]; exact Kd.R_alloc HO.out _, below_alloc2 HB.out hzr _⟩
          case measure => simp [intOf]
      · have hix : ∀ w : World, (Instr.index 69 (.agg #[.int .i64 1, .int .i64 0, .int .i64 0, .int .i64 1, .int .i64 (-1), .int .i64 1, .int .i64 (-1), .int .i64 0, .int .i64 0, .int .i64 (-1), .int .i64 1, .int .i64 (-1)]) (.int .i64 2)).run Tryd.prog w = .ok (.agg #[.int .i64 (-1), .int .i64 1]) w := fun w => by kernel_rfl
        have hpl := patL_le ring false 2
        have hp : patL ring false 3 = if Go.bits .and .i64 (ring / 2 ^ 2) 1 = 1 then patL ring false 2 ++ [⟨⟨(-1), 1⟩, 0⟩] else patL ring false 2 := rfl
        by_cases hbit : Go.bits .and .i64 (ring / 2 ^ 2) 1 = 1
        · have hp := hp.trans (if_pos hbit)
          have HP := Aside0.mk hp
          have hbit2 : (Go.bits .and .i64 (ring / 2 ^ 2) 1 == 1) = true := beq_iff_eq.2 hbit
          simp only [Int.reducePow, Int.ediv_one] at hbit hbit2
          clear hp hbit
          go_wp2_with (at_builtin; refine app1 k65 w.heap.size (.tmp 23) (.tmp 26) 34 65 (.agg #[.int .i64 0, .int .i64 0, .int .i64 0]) 24 (w0 := w) _ (patL ring false 2) (⟨⟨(-1), 1⟩, 0⟩) [.int .i64 (-1), .int .i64 1, .int .i64 0] _ rfl rfl Tryd.underlying34 info65 rfl (by decide) (by decide) rfl (by simp; done) rfl (k65_mkM _ _ _ _) (Kd.R_alloc HO.out _) (below_alloc2 HB.out hzr _) (by simp; omega) (by omega) ?_; intro v1 w4 ho1 hb1; have HO1 := Aside0.mk ho1; have HB1 := Aside0.mk hb1; clear ho1 hb1)
          go_roundw
          case rel => exact ⟨3, by omega, by first | rfl | go_num, by rw [HP.out]; exact HO1.out, HB1.out⟩
          case measure => simp [intOf]
        · have hp := hp.trans (if_neg hbit)
          have HP := Aside0.mk hp
          have hbit2 : (Go.bits .and .i64 (ring / 2 ^ 2) 1 == 1) = false := beq_eq_false_iff_ne.2 hbit
          simp only [Int.reducePow, Int.ediv_one] at hbit hbit2
          clear hp hbit
          go_wp2
          go_roundw
          case rel => exact ⟨3, by omega, by first | rfl | go_num, by rw [HP.out]; exact Kd.R_alloc HO.out _, below_alloc2 HB.out hzr _⟩
          case measure => simp [intOf]
      · have hix : ∀ w : World, (Instr.index 69 (.agg #[.int .i64 1, .int .i64 0, .int .i64 0, .int .i64 1, .int .i64 (-1), .int .i64 1, .int .i64 (-1), .int .i64 0, .int .i64 0, .int .i64 (-1), .int .i64 1, .int .i64 (-1)]) (.int .i64 3)).run Tryd.prog w = .ok (.agg #[.int .i64 (-1), .int .i64 0]) w := fun w => by kernel_rfl
        have hpl := patL_le ring false 3
        have hp : patL ring false 4 = if Go.bits .and .i64 (ring / 2 ^ 3) 1 = 1 then patL ring false 3 ++ [⟨⟨(-1), 0⟩, 0⟩] else patL ring false 3 := rfl
        by_cases hbit : Go.bits .and .i64 (ring / 2 ^ 3) 1 = 1
        · have hp := hp.trans (if_pos hbit)
          have HP := Aside0.mk hp
          have hbit2 : (Go.bits .and .i64 (ring / 2 ^ 3) 1 == 1) = true := beq_iff_eq.2 hbit
          simp only [Int.reducePow, Int.ediv_one] at hbit hbit2
          clear hp hbit
          go_wp2_with (at_builtin; refine app1 k65 w.heap.size (.tmp 23) (.tmp 26) 34 65 (.agg #[.int .i64 0, .int .i64 0, .int .i64 0]) 24 (w0 := w) _ (patL ring false 3) (⟨⟨(-1), 0⟩, 0⟩) [.int .i64 (-1), .int .i64 0, .int .i64 0] _ rfl rfl Tryd.underlying34 info65 rfl (by decide) (by decide) rfl (by simp; done) rfl (k65_mkM _ _ _ _) (Kd.R_alloc HO.out _) (below_alloc2 HB.out hzr _) (by simp; omega) (by omega) ?_; intro v1 w4 ho1 hb1; have HO1 := Aside0.mk ho1; have HB1 := Aside0.mk hb1; clear ho1 hb1)
          go_roundw
          case rel => exact ⟨4, by omega, by first | rfl | go_num, by rw [HP.out]; exact HO1.out, HB1.out⟩
          case measure => simp [intOf]
        · have hp := hp.trans (if_neg hbit)
          have HP := Aside0.mk hp
          have hbit2 : (Go.bits .and .i64 (ring / 2 ^ 3) 1 == 1) = false := beq_eq_false_iff_ne.2 hbit
          simp only [Int.reducePow, Int.ediv_one] at hbit hbit2
          clear hp hbit
          go_wp2
          go_roundw
          case rel => exact ⟨4, by omega, by first | rfl | go_num, by rw [HP.out]; exact Kd.R_alloc HO.out _, below_alloc2 HB.out hzr _⟩
          case measure => simp [intOf]
      · have hix : ∀ w : World, (Instr.index 69 (.agg #[.int .i64 1, .int .i64 0, .int .i64 0, .int .i64 1, .int .i64 (-1), .int .i64 1, .int .i64 (-1), .int .i64 0, .int .i64 0, .int .i64 (-1), .int .i64 1, .int .i64 (-1)]) (.int .i64 4)).run Tryd.prog w = .ok (.agg #[.int .i64 0, .int .i64 (-1)]) w := fun w => by kernel_rfl
        have hpl := patL_le ring false 4
        have hp : patL ring false 5 = if Go.bits .and .i64 (ring / 2 ^ 4) 1 = 1 then patL ring false 4 ++ [⟨⟨0, (-1)⟩, 0⟩] else patL ring false 4 := rfl
        by_cases hbit : Go.bits .and .i64 (ring / 2 ^ 4) 1 = 1
        · have hp := hp.trans (if_pos hbit)
          have HP := Aside0.mk hp
          have hbit2 : (Go.bits .and .i64 (ring / 2 ^ 4) 1 == 1) = true := beq_iff_eq.2 hbit
          simp only [Int.reducePow, Int.ediv_one] at hbit hbit2
          clear hp hbit
          go_wp2_with (at_builtin; refine app1 k65 w.heap.size (.tmp 23) (.tmp 26) 34 65 (.agg #[.int .i64 0, .int .i64 0, .int .i64 0]) 24 (w0 := w) _ (patL ring false 4) (⟨⟨0, (-1)⟩, 0⟩) [.int .i64 0, .int .i64 (-1), .int .i64 0] _ rfl rfl Tryd.underlying34 info65 rfl (by decide) (by decide) rfl (by simp; done) rfl (k65_mkM _ _ _ _) (Kd.R_alloc HO.out _) (below_alloc2 HB.out hzr _) (by simp; omega) (by omega) ?_; intro v1 w4 ho1 hb1; have HO1 := Aside0.mk ho1; have HB1 := Aside0.mk hb1; clear ho1 hb1)
          go_roundw
          case rel => exact ⟨5, by omega, by first | rfl | go_num, by rw [HP.out]; exact HO1.out, HB1.out⟩
          case measure => simp [intOf]
        · have hp := hp.trans (if_neg hbit)
          have HP := Aside0.mk hp
          have hbit2 : (Go.bits .and .i64 (ring / 2 ^ 4) 1 == 1) = false := beq_eq_false_iff_ne.2 hbit
          simp only [Int.reducePow, Int.ediv_one] at hbit hbit2
          clear hp hbit
          go_wp2
          go_roundw
          case rel => exact ⟨5, by omega, by first | rfl | go_num, by rw [HP.out]; exact Kd.R_alloc HO.out _, below_alloc2 HB.out hzr _⟩
          case measure => simp [intOf]
      · have hix : ∀ w : World, (Instr.index 69 (.agg #[.int .i64 1, .int .i64 0, .int .i64 0, .int .i64 1, .int .i64 (-1), .int .i64 1, .int .i64 (-1), .int .i64 0, .int .i64 0, .int .i64 (-1), .int .i64 1, .int .i64 (-1)]) (.int .i64 5)).run Tryd.prog w = .ok (.agg #[.int .i64 1, .int .i64 (-1)]) w := fun w => by kernel_rfl
        have hpl := patL_le ring false 5
        have hp : patL ring false 6 = if Go.bits .and .i64 (ring / 2 ^ 5) 1 = 1 then patL ring false 5 ++ [⟨⟨1, (-1)⟩, 0⟩] else patL ring false 5 := rfl
        by_cases hbit : Go.bits .and .i64 (ring / 2 ^ 5) 1 = 1
        · have hp := hp.trans (if_pos hbit)
          have HP := Aside0.mk hp
          have hbit2 : (Go.bits .and .i64 (ring / 2 ^ 5) 1 == 1) = true := beq_iff_eq.2 hbit
          simp only [Int.reducePow, Int.ediv_one] at hbit hbit2
          clear hp hbit
          go_wp2_with (at_builtin; refine app1 k65 w.heap.size (.tmp 23) (.tmp 26) 34 65 (.agg #[.int .i64 0, .int .i64 0, .int .i64 0]) 24 (w0 := w) _ (patL ring false 5) (⟨⟨1, (-1)⟩, 0⟩) [.int .i64 1, .int .i64 (-1), .int .i64 0] _ rfl rfl Tryd.underlying34 info65 rfl (by decide) (by decide) rfl (by simp; done) rfl (k65_mkM _ _ _ _) (Kd.R_alloc HO.out _) (below_alloc2 HB.out hzr _) (by simp; omega) (by omega) ?_; intro v1 w4 ho1 hb1; have HO1 := Aside0.mk ho1; have HB1 := Aside0.mk hb1; clear ho1 hb1)
          go_roundw
          case rel => exact ⟨6, by omega, by first | rfl | go_num, by rw [HP.out]; exact HO1.out, HB1.out⟩
          case measure => simp [intOf]
        · have hp := hp.trans (if_neg hbit)
          have HP := Aside0.mk hp
          have hbit2 : (Go.bits .and .i64 (ring / 2 ^ 5) 1 == 1) = false := beq_eq_false_iff_ne.2 hbit
          simp only [Int.reducePow, Int.ediv_one] at hbit hbit2
          clear hp hbit
          go_wp2
          go_roundw
          case rel => exact ⟨6, by omega, by first | rfl | go_num, by rw [HP.out]; exact Kd.R_alloc HO.out _, below_alloc2 HB.out hzr _⟩
          case measure => simp [intOf]
      · obtain ⟨A3, c3, rfl, hl3, hc3⟩ := Kd.R_reads HO.out
        have HC3 := Aside0.mk hc3
        have HL3 := Aside0.mk hl3
        clear hc3 hl3
        go_wp2_with (go_at_call 37; refine (HOF.out A3 c3 _ HC3.out HL3.out).mono ?_; rintro e w5 ⟨v5, rfl, ho5, hb5⟩; have HO5 := Aside0.mk ho5; have HB5 := Aside0.mk (HB.out.trans (hb5.mono hzr)); clear ho5 hb5)
        go_ret
        exact ⟨_, rfl, Kd.R_lower HO5.out hzr, HB5.out⟩
  · have h0 : patL ring true 0 = [⟨⟨0, 0⟩, 0⟩] := rfl
    have H0 := Aside0.mk h0
    clear h0 H00
    generalize hX : ofL (patL ring true 6) = X at HOF ⊢
    have HX := Aside0.mk hX
    clear hX
    go_enter Tryd.func88, Tryd.ntmps88
    go_wp2_with (at_builtin; refine app1 k65 w.heap.size (.tmp 9) (.tmp 11) 34 65 (.agg #[.int .i64 0, .int .i64 0, .int .i64 0]) 24 (w0 := w) _ ([]) (⟨⟨0, 0⟩, 0⟩) [.int .i64 0, .int .i64 0, .int .i64 0] _ rfl rfl Tryd.underlying34 info65 rfl (by decide) (by decide) rfl (by simp; done) rfl (k65_mkM _ _ _ _) (Kd.R_nil _ _ _ _ _) (Below.refl _ _) (Nat.le_refl _) (by decide) ?_; intro v1 w1 ho1 hb1; have HO1 := Aside0.mk ho1; have HB1 := Aside0.mk hb1; clear ho1 hb1)
    refine (HSIX.out _ (Six.below HG.out (HB1.out))).mono ?_
    rintro e w2 ⟨rfl, hb2⟩
    have hz1 := HB1.out.size
    have HO2 := Aside0.mk (Kd.R_below HO1.out hb2)
    have HB2 := Aside0.mk (HB1.out.trans (hb2.mono hz1))
    clear hb2
    go_wp2_with fail
    go_loopw [14, 5] (fun i v wr => ∃ j : Nat, j ≤ 6 ∧ i = .int .i64 j ∧ Kd.R k65 65 wr w.heap.size (fun _ => True) v (patL ring true j) ∧ Below w.heap.size w wr) (fun i _ _ => 6 - (intOf i).toNat)
    case atStart => exact ⟨0, by omega, rfl, by rw [H0.out]; exact HO2.out, HB2.out⟩
    case round =>
      obtain ⟨j, hj, rfl, hO, hb⟩ := hrel
      have HO := Aside0.mk hO
      have HB := Aside0.mk hb
      have hzr := hb.size
      clear hO hb H0
      have hjj : j = 0 ∨ j = 1 ∨ j = 2 ∨ j = 3 ∨ j = 4 ∨ j = 5 ∨ j = 6 := by omega
      rcases hjj with rfl | rfl | rfl | rfl | rfl | rfl | rfl
      · have hix : ∀ w : World, (Instr.index 69 (.agg #[.int .i64 1, .int .i64 0, .int .i64 0, .int .i64 1, .int .i64 (-1), .int .i64 1, .int .i64 (-1), .int .i64 0, .int .i64 0, .int .i64 (-1), .int .i64 1, .int .i64 (-1)]) (.int .i64 0)).run Tryd.prog w = .ok (.agg #[.int .i64 1, .int .i64 0]) w := fun w => by kernel_rfl
        have hpl := patL_le ring true 0
        have hp : patL ring true 1 = if Go.bits .and .i64 (ring / 2 ^ 0) 1 = 1 then patL ring true 0 ++ [⟨⟨1, 0⟩, 0⟩] else patL ring true 0 := rfl
        by_cases hbit : Go.bits .and .i64 (ring / 2 ^ 0) 1 = 1
        · have hp := hp.trans (if_pos hbit)
          have HP := Aside0.mk hp
          have hbit2 : (Go.bits .and .i64 (ring / 2 ^ 0) 1 == 1) = true := beq_iff_eq.2 hbit
          simp only [Int.reducePow, Int.ediv_one] at hbit hbit2
          clear hp hbit
          go_wp2_with (at_builtin; refine app1 k65 w.heap.size (.tmp 23) (.tmp 26) 34 65 (.agg #[.int .i64 0, .int .i64 0, .int .i64 0]) 24 (w0 := w) _ (patL ring true 0) (⟨⟨1, 0⟩, 0⟩) [.int .i64 1, .int .i64 0, .int .i64 0] _ rfl rfl Tryd.underlying34 info65 rfl (by decide) (by decide) rfl (by simp; done) rfl (k65_mkM _ _ _ _) (Kd.R_alloc HO.out _) (below_alloc2 HB.out hzr _) (by simp; omega) (by omega) ?_; intro v1 w4 ho1 hb1; have HO1 := Aside0.mk ho1; have HB1 := Aside0.mk hb1; clear ho1 hb1)
          go_roundw
          case rel => exact ⟨1, by omega, by first | rfl | go_num, by rw [HP.out]; exact HO1.out, HB1.out⟩
          case measure => simp [intOf]
        · have hp := hp.trans (if_neg hbit)
          have HP := Aside0.mk hp
          have hbit2 : (Go.bits .and .i64 (ring / 2 ^ 0) 1 == 1) = false := beq_eq_false_iff_ne.2 hbit
          simp only [Int.reducePow, Int.ediv_one] at hbit hbit2
          clear hp hbit
          go_wp2
          go_roundw
          case rel => exact ⟨1, by omega, by first | rfl | go_num, by rw [HP.out]; exact Kd.R_alloc HO.out _, below_alloc2 HB.out hzr _⟩
          case measure => simp [intOf]
      · have hix : ∀ w : World, (Instr.index 69 (.agg #[.int .i64 1, .int .i64 0, .int .i64 0, .int .i64 1, .int .i64 (-1), .int .i64 1, .int .i64 (-1), .int .i64 0, .int .i64 0, .int .i64 (-1), .int .i64 1, .int .i64 (-1)]) (.int .i64 1)).run Tryd.prog w = .ok (.agg #[.int .i64 0, .int .i64 1]) w := fun w => by kernel_rfl
        have hpl := patL_le ring true 1
        have hp : patL ring true 2 = if Go.bits .and .i64 (ring / 2 ^ 1) 1 = 1 then patL ring true 1 ++ [⟨⟨0, 1⟩, 0⟩] else patL ring true 1 := rfl
        by_cases hbit : Go.bits .and .i64 (ring / 2 ^ 1) 1 = 1
        · have hp := hp.trans (if_pos hbit)
          have HP := Aside0.mk hp
          have hbit2 : (Go.bits .and .i64 (ring / 2 ^ 1) 1 == 1) = true := beq_iff_eq.2 hbit
          simp only [Int.reducePow, Int.ediv_one] at hbit hbit2
          clear hp hbit
          go_wp2_with (at_builtin; refine app1 k65 w.heap.size (.tmp 23) (.tmp 26) 34 65 (.agg #[.int .i64 0, .int .i64 0, .int .i64 0]) 24 (w0 := w) _ (patL ring true 1) (⟨⟨0, 1⟩, 0⟩) [.int .i64 0, .int .i64 1, .int .i64 0] _ rfl rfl Tryd.underlying34 info65 rfl (by decide) (by decide) rfl (by simp; done) rfl (k65_mkM _ _ _ _) (Kd.R_alloc HO.out _) (below_alloc2 HB.out hzr _) (by simp; omega) (by omega) ?_; intro v1 w4 ho1 hb1; have HO1 := Aside0.mk ho1; have HB1 := Aside0.mk hb1; clear ho1 hb1)
          go_roundw
          case rel => exact ⟨2, by omega, by first | rfl | go_num, by rw [HP.out]; exact HO1.out, HB1.out⟩
          case measure => simp [intOf]
        · have hp := hp.trans (if_neg hbit)
          have HP := Aside0.mk hp
          have hbit2 : (Go.bits .and .i64 (ring / 2 ^ 1) 1 == 1) = false := beq_eq_false_iff_ne.2 hbit
          simp only [Int.reducePow, Int.ediv_one] at hbit hbit2
          clear hp hbit
          go_wp2
          go_roundw
          case rel => exact ⟨2, by omega, by first | rfl | go_num, by rw [HP.out]; exact Kd.R_alloc HO.out _, below_alloc2 HB.out hzr _⟩
          case measure => simp [intOf]
      · have hix : ∀ w : World, (Instr.index 69 (.agg #[.int .i64 1, .int .i64 0, .int .i64 0, .int .i64 1, .int .i64 (-1), .int .i64 1, .int .i64 (-1), .int .i64 0, .int .i64 0, .int .i64 (-1), .int .i64 1, .int .i64 (-1)]) (.int .i64 2)).run Tryd.prog w = .ok (.agg #[.int .i64 (-1), .int .i64 1]) w := fun w => by kernel_rfl
        have hpl := patL_le ring true 2
        have hp : patL ring true 3 = if Go.bits .and .i64 (ring / 2 ^ 2) 1 = 1 then patL ring true 2 ++ [⟨⟨(-1), 1⟩, 0⟩] else patL ring true 2 := rfl
        by_cases hbit : Go.bits .and .i64 (ring / 2 ^ 2) 1 = 1
        · have hp := hp.trans (if_pos hbit)
          have HP := Aside0.mk hp
          have hbit2 : (Go.bits .and .i64 (ring / 2 ^ 2) 1 == 1) = true := beq_iff_eq.2 hbit
          simp only [Int.reducePow, Int.ediv_one] at hbit hbit2
          clear hp hbit
          go_wp2_with (at_builtin; refine app1 k65 w.heap.size (.tmp 23) (.tmp 26) 34 65 (.agg #[.int .i64 0, .int .i64 0, .int .i64 0]) 24 (w0 := w) _ (patL ring true 2) (⟨⟨(-1), 1⟩, 0⟩) [.int .i64 (-1), .int .i64 1, .int .i64 0] _ rfl rfl Tryd.underlying34 info65 rfl (by decide) (by decide) rfl (by simp; done) rfl (k65_mkM _ _ _ _) (Kd.R_alloc HO.out _) (below_alloc2 HB.out hzr _) (by simp; omega) (by omega) ?_; intro v1 w4 ho1 hb1; have HO1 := Aside0.mk ho1; have HB1 := Aside0.mk hb1; clear ho1 hb1)
          go_roundw
          case rel => exact ⟨3, by omega, by first | rfl | go_num, by rw [HP.out]; exact HO1.out, HB1.out⟩
          case measure => simp [intOf]
        · have hp := hp.trans (if_neg hbit)
          have HP := Aside0.mk hp
          have hbit2 : (Go.bits .and .i64 (ring / 2 ^ 2) 1 == 1) = false := beq_eq_false_iff_ne.2 hbit
          simp only [Int.reducePow, Int.ediv_one] at hbit hbit2
          clear hp hbit
          go_wp2
          go_roundw
          case rel => exact ⟨3, by omega, by first | rfl | go_num, by rw [HP.out]; exact Kd.R_alloc HO.out _, below_alloc2 HB.out hzr _⟩
          case measure => simp [intOf]
      · have hix : ∀ w : World, (Instr.index 69 (.agg #[.int .i64 1, .int .i64 0, .int .i64 0, .int .i64 1, .int .i64 (-1), .int .i64 1, .int .i64 (-1), .int .i64 0, .int .i64 0, .int .i64 (-1), .int .i64 1, .int .i64 (-1)]) (.int .i64 3)).run Tryd.prog w = .ok (.agg #[.int .i64 (-1), .int .i64 0]) w := fun w => by kernel_rfl
        have hpl := patL_le ring true 3
        have hp : patL ring true 4 = if Go.bits .and .i64 (ring / 2 ^ 3) 1 = 1 then patL ring true 3 ++ [⟨⟨(-1), 0⟩, 0⟩] else patL ring true 3 := rfl
        by_cases hbit : Go.bits .and .i64 (ring / 2 ^ 3) 1 = 1
        · have hp := hp.trans (if_pos hbit)
          have HP := Aside0.mk hp
          have hbit2 : (Go.bits .and .i64 (ring / 2 ^ 3) 1 == 1) = true := beq_iff_eq.2 hbit
          simp only [Int.reducePow, Int.ediv_one] at hbit hbit2
          clear hp hbit
          go_wp2_with (at_builtin; refine app1 k65 w.heap.size (.tmp 23) (.tmp 26) 34 65 (.agg #[.int .i64 0, .int .i64 0, .int .i64 0]) 24 (w0 := w) _ (patL ring true 3) (⟨⟨(-1), 0⟩, 0⟩) [.int .i64 (-1), .int .i64 0, .int .i64 0] _ rfl rfl Tryd.underlying34 info65 rfl (by decide) (by decide) rfl (by simp; done) rfl (k65_mkM _ _ _ _) (Kd.R_alloc HO.out _) (below_alloc2 HB.out hzr _) (by simp; omega) (by omega) ?_; intro v1 w4 ho1 hb1; have HO1 := Aside0.mk ho1; have HB1 := Aside0.mk hb1; clear ho1 hb1)
          go_roundw
          case rel => exact ⟨4, by omega, by first | rfl | go_num, by rw [HP.out]; exact HO1.out, HB1.out⟩
          case measure => simp [intOf]
        · have hp := hp.trans (if_neg hbit)
          have HP := Aside0.mk hp
          have hbit2 : (Go.bits .and .i64 (ring / 2 ^ 3) 1 == 1) = false := beq_eq_false_iff_ne.2 hbit
          simp only [Int.reducePow, Int.ediv_one] at hbit hbit2
          clear hp hbit
          go_wp2
          go_roundw
          case rel => exact ⟨4, by omega, by first | rfl | go_num, by rw [HP.out]; exact Kd.R_alloc HO.out _, below_alloc2 HB.out hzr _⟩
          case measure => simp [intOf]
      · have hix : ∀ w : World, (Instr.index 69 (.agg #[.int .i64 1, .int .i64 0, .int .i64 0, .int .i64 1, .int .i64 (-1), .int .i64 1, .int .i64 (-1), .int .i64 0, .int .i64 0, .int .i64 (-1), .int .i64 1, .int .i64 (-1)]) (.int .i64 4)).run Tryd.prog w = .ok (.agg #[.int .i64 0, .int .i64 (-1)]) w := fun w => by kernel_rfl
        have hpl := patL_le ring true 4
        have hp : patL ring true 5 = if Go.bits .and .i64 (ring / 2 ^ 4) 1 = 1 then patL ring true 4 ++ [⟨⟨0, (-1)⟩, 0⟩] else patL ring true 4 := rfl
        by_cases hbit : Go.bits .and .i64 (ring / 2 ^ 4) 1 = 1
        · have hp := hp.trans (if_pos hbit)
          have HP := Aside0.mk hp
          have hbit2 : (Go.bits .and .i64 (ring / 2 ^ 4) 1 == 1) = true := beq_iff_eq.2 hbit
          simp only [Int.reducePow, Int.ediv_one] at hbit hbit2
          clear hp hbit
          go_wp2_with (at_builtin; refine app1 k65 w.heap.size (.tmp 23) (.tmp 26) 34 65 (.agg #[.int .i64 0, .int .i64 0, .int .i64 0]) 24 (w0 := w) _ (patL ring true 4) (⟨⟨0, (-1)⟩, 0⟩) [.int .i64 0, .int .i64 (-1), .int .i64 0] _ rfl rfl Tryd.underlying34 info65 rfl (by decide) (by decide) rfl (by simp; done) rfl (k65_mkM _ _ _ _) (Kd.R_alloc HO.out _) (below_alloc2 HB.out hzr _) (by simp; omega) (by omega) ?_; intro v1 w4 ho1 hb1; have HO1 := Aside0.mk ho1; have HB1 := Aside0.mk hb1; clear ho1 hb1)
          go_roundw
          case rel => exact ⟨5, by omega, by first | rfl | go_num, by rw [HP.out]; exact HO1.out, HB1.out⟩
          case measure => simp [intOf]
        · have hp := hp.trans (if_neg hbit)
          have HP := Aside0.mk hp
          have hbit2 : (Go.bits .and .i64 (ring / 2 ^ 4) 1 == 1) = false := beq_eq_false_iff_ne.2 hbit
          simp only [Int.reducePow, Int.ediv_one] at hbit hbit2
          clear hp hbit
          go_wp2
          go_roundw
          case rel => exact ⟨5, by omega, by first | rfl | go_num, by rw [HP.out]; exact Kd.R_alloc HO.out _, below_alloc2 HB.out hzr _⟩
          case measure => simp [intOf]
      · have hix : ∀ w : World, (Instr.index 69 (.agg #[.int .i64 1, .int .i64 0, .int .i64 0, .int .i64 1, .int .i64 (-1), .int .i64 1, .int .i64 (-1), .int .i64 0, .int .i64 0, .int .i64 (-1), .int .i64 1, .int .i64 (-1)]) (.int .i64 5)).run Tryd.prog w = .ok (.agg #[.int .i64 1, .int .i64 (-1)]) w := fun w => by kernel_rfl
        have hpl := patL_le ring true 5
        have hp : patL ring true 6 = if Go.bits .and .i64 (ring / 2 ^ 5) 1 = 1 then patL ring true 5 ++ [⟨⟨1, (-1)⟩, 0⟩] else patL ring true 5 := rfl
        by_cases hbit : Go.bits .and .i64 (ring / 2 ^ 5) 1 = 1
        · have hp := hp.trans (if_pos hbit)
          have HP := Aside0.mk hp
          have hbit2 : (Go.bits .and .i64 (ring / 2 ^ 5) 1 == 1) = true := beq_iff_eq.2 hbit
          simp only [Int.reducePow, Int.ediv_one] at hbit hbit2
          clear hp hbit
          go_wp2_with (at_builtin; refine app1 k65 w.heap.size (.tmp 23) (.tmp 26) 34 65 (.agg #[.int .i64 0, .int .i64 0, .int .i64 0]) 24 (w0 := w) _ (patL ring true 5) (⟨⟨1, (-1)⟩, 0⟩) [.int .i64 1, .int .i64 (-1), .int .i64 0] _ rfl rfl Tryd.underlying34 info65 rfl (by decide) (by decide) rfl (by simp; done) rfl (k65_mkM _ _ _ _) (Kd.R_alloc HO.out _) (below_alloc2 HB.out hzr _) (by simp; omega) (by omega) ?_; intro v1 w4 ho1 hb1; have HO1 := Aside0.mk ho1; have HB1 := Aside0.mk hb1; clear ho1 hb1)
          go_roundw
          case rel => exact ⟨6, by omega, by first | rfl | go_num, by rw [HP.out]; exact HO1.out, HB1.out⟩
          case measure => simp [intOf]
        · have hp := hp.trans (if_neg hbit)
          have HP := Aside0.mk hp
          have hbit2 : (Go.bits .and .i64 (ring / 2 ^ 5) 1 == 1) = false := beq_eq_false_iff_ne.2 hbit
          simp only [Int.reducePow, Int.ediv_one] at hbit hbit2
          clear hp hbit
          go_wp2
          go_roundw
          case rel => exact ⟨6, by omega, by first | rfl | go_num, by rw [HP.out]; exact Kd.R_alloc HO.out _, below_alloc2 HB.out hzr _⟩
          case measure => simp [intOf]
      · obtain ⟨A3, c3, rfl, hl3, hc3⟩ := Kd.R_reads HO.out
        have HC3 := Aside0.mk hc3
        have HL3 := Aside0.mk hl3
        clear hc3 hl3
        go_wp2_with (go_at_call 37; refine (HOF.out A3 c3 _ HC3.out HL3.out).mono ?_; rintro e w5 ⟨v5, rfl, ho5, hb5⟩; have HO5 := Aside0.mk ho5; have HB5 := Aside0.mk (HB.out.trans (hb5.mono hzr)); clear ho5 hb5)
        go_ret
        exact ⟨_, rfl, Kd.R_lower HO5.out hzr, HB5.out⟩
def XPattern.f (ring : Int) (live : Bool) : Option (List S65) := some (ofL (patL ring live 6))
theorem XPattern.calls (a0 : Int) (a1 : Bool) (r : List S65) (w : World) (hGSix : Six w) (h : XPattern.f a0 a1 = some r) :
    Calls Tryd.prog 88 #[.int .i64 a0, .bool a1] w fun e w' => ∃ v0_ : Value, e = .returned v0_ ∧ Kd.R k65 65 w' w.heap.size (fun _ => True) v0_ r ∧ Below w.heap.size w w' := by
  obtain rfl := Option.some.inj h
  exact XPattern_any a0 a1 w hGSix
end Go.Proofs.YtaeenefdbahfoaaDoor
