-- Printed for this claim by wip/tools/hp2.py (our own call of the kit's printer). Lean checks it.
import Derived.Test.YtilhadckmhphgaaDoorH0
namespace Go.Proofs.YtilhadckmhphgaaDoor.H
open Go.RowKit Go.Proofs.YtilhadckmhphgaaDoorW.PrintWords Go.Proofs.YtilhadckmhphgaaDoorW.PrintLast Go.Proofs.YtilhadckmhphgaaDoorW.PrintMore
attribute [local go_sem] max2_int min2_int max_two min_two max_three min_three max_four min_four   -- for this text's walks alone
set_option linter.unusedVariables false
set_option linter.unusedSimpArgs false

/-! ### axis_Operator_Back: function 10 -/
def axis_Operator_Back.f (a0 : Int) : Option (Int) := if a0 ≥ 6 then (some a0) else (some (Int.tmod (wrap64 (6 - a0)) 6))
set_option maxHeartbeats 8000000 in
set_option maxRecDepth 100000 in
theorem axis_Operator_Back.calls (a0 : Int) (r : Int) (w : World) (h : axis_Operator_Back.f a0 = some r) :
  Calls Tryd.prog 10 #[.int .i64 a0] w fun e w' => e = .returned (.int .i64 r) ∧ Drawn0 w w' := by
 have H : (if a0 ≥ 6 then (some a0) else (some (Int.tmod (wrap64 (6 - a0)) 6))) = some r := h
 clear h
 by_cases c2 : a0 ≥ 6
 ·
  rw [if_pos c2] at H
  have c2b0 : decide (6 ≤ a0) = true := decide_eq_true c2
  clear c2
  obtain rfl := Option.some.inj H
  go_enter Tryd.func10, Tryd.ntmps10
  go_wp2
  go_ret
  exact ⟨by first | rfl | (simp; done) | (simp [*]; done), by repeat (first | exact Drawn0.refl _ | apply Drawn0.step)⟩
 ·
  rw [if_neg c2] at H
  have c2b0 : decide (6 ≤ a0) = false := decide_eq_false c2
  clear c2
  obtain rfl := Option.some.inj H
  go_enter Tryd.func10, Tryd.ntmps10
  go_wp2
  go_ret
  exact ⟨by first | rfl | (simp; done) | (simp [*]; done), by repeat (first | exact Drawn0.refl _ | apply Drawn0.step)⟩

end Go.Proofs.YtilhadckmhphgaaDoor.H
