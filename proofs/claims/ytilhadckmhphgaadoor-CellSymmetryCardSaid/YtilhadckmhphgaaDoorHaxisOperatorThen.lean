-- Printed for this claim by wip/tools/hp2.py (our own call of the kit's printer). Lean checks it.
import Derived.Test.YtilhadckmhphgaaDoorH0
namespace Go.Proofs.YtilhadckmhphgaaDoor.H
open Go.RowKit Go.Proofs.YtilhadckmhphgaaDoorW.PrintWords Go.Proofs.YtilhadckmhphgaaDoorW.PrintLast Go.Proofs.YtilhadckmhphgaaDoorW.PrintMore
attribute [local go_sem] max2_int min2_int max_two min_two max_three min_three max_four min_four   -- for this text's walks alone
set_option linter.unusedVariables false
set_option linter.unusedSimpArgs false

/-! ### axis_Operator_Then: function 9 -/
def axis_Operator_Then.f (a0 : Int) (a1 : Int) : Option (Int) := if a1 < 6 then (some (wrap64 ((wrap64 ((wrap64 (Int.tdiv a0 6)) * 6)) + (Int.tmod (wrap64 ((Int.tmod a0 6) + a1)) 6)))) else (if a0 < 6 then (some (wrap64 (6 + (Int.tmod (wrap64 (a1 - a0)) 6)))) else (some (Int.tmod (wrap64 ((wrap64 (a1 - (Int.tmod a0 6))) + 6)) 6)))
set_option maxHeartbeats 8000000 in
set_option maxRecDepth 100000 in
theorem axis_Operator_Then.calls (a0 : Int) (a1 : Int) (r : Int) (w : World) (h : axis_Operator_Then.f a0 a1 = some r) :
  Calls Tryd.prog 9 #[.int .i64 a0, .int .i64 a1] w fun e w' => e = .returned (.int .i64 r) ∧ Drawn0 w w' := by
 have H : (if a1 < 6 then (some (wrap64 ((wrap64 ((wrap64 (Int.tdiv a0 6)) * 6)) + (Int.tmod (wrap64 ((Int.tmod a0 6) + a1)) 6)))) else (if a0 < 6 then (some (wrap64 (6 + (Int.tmod (wrap64 (a1 - a0)) 6)))) else (some (Int.tmod (wrap64 ((wrap64 (a1 - (Int.tmod a0 6))) + 6)) 6)))) = some r := h
 clear h
 by_cases c3 : a1 < 6
 ·
  rw [if_pos c3] at H
  have c3b0 : decide (a1 < 6) = true := decide_eq_true c3
  clear c3
  obtain rfl := Option.some.inj H
  go_enter Tryd.func9, Tryd.ntmps9
  go_wp2
  go_ret
  exact ⟨by first | rfl | (simp; done) | (simp [*]; done), by repeat (first | exact Drawn0.refl _ | apply Drawn0.step)⟩
 ·
  rw [if_neg c3] at H
  have c3b0 : decide (a1 < 6) = false := decide_eq_false c3
  clear c3
  by_cases c4 : a0 < 6
  ·
   rw [if_pos c4] at H
   have c4b0 : decide (a0 < 6) = true := decide_eq_true c4
   clear c4
   obtain rfl := Option.some.inj H
   go_enter Tryd.func9, Tryd.ntmps9
   go_wp2
   go_ret
   exact ⟨by first | rfl | (simp; done) | (simp [*]; done), by repeat (first | exact Drawn0.refl _ | apply Drawn0.step)⟩
  ·
   rw [if_neg c4] at H
   have c4b0 : decide (a0 < 6) = false := decide_eq_false c4
   clear c4
   obtain rfl := Option.some.inj H
   go_enter Tryd.func9, Tryd.ntmps9
   go_wp2
   go_ret
   exact ⟨by first | rfl | (simp; done) | (simp [*]; done), by repeat (first | exact Drawn0.refl _ | apply Drawn0.step)⟩

end Go.Proofs.YtilhadckmhphgaaDoor.H
