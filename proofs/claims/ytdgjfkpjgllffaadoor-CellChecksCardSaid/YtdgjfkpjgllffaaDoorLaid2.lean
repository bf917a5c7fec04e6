/- From the rows' condition on axis.six and errors.errorType to what the walks ask; a start that meets it. -/
import Derived.Test.YtdgjfkpjgllffaaDoorLaid
import Derived.Test.YtdgjfkpjgllffaaDoorCodeOf
namespace Go.Proofs.YtdgjfkpjgllffaaDoor
open Go.ChangeShapes Go.WideShapes Go.ChangeAt Go.RowKit

theorem etN : Tryd.prog.globalNamed "errors.errorType" = some 1 := by kernel_rfl
theorem rtN : (Tryd.prog.cutTypes.find? (·.1 == "internal/reflectlite.rtype")).map (·.2) = some 124 := by kernel_rfl
theorem typesSize : Tryd.prog.types.size = 173 := by kernel_rfl
theorem oneRow : ((List.range 173).filter fun t => Tryd.prog.rowNamed t [101, 114, 114, 111, 114]) = [34] := by kernel_rfl
def laid2 : List (String × DataW Unit) := [("honeycomb/axis.six", Rows.laid_honeycomb_axis_six), ("errors.errorType", Rows.laid_errors_errorType)]
theorem six_of_laid2 {W : World} (h : laidMetH Tryd.prog laid2 W) : Six W := by
  have h' : laidMet Tryd.prog [("honeycomb/axis.six", Rows.laid_honeycomb_axis_six)] W ∧ handlesMet Tryd.prog [("errors.errorType", Rows.laid_errors_errorType)] W := h
  obtain ⟨ps, hv, _⟩ := h'.1
  exact six_of_vars hv
set_option maxRecDepth 100000 in
theorem handle_of_laid {W : World} (h : laidMetH Tryd.prog laid2 W) : Et W := by
  have h' : laidMet Tryd.prog [("honeycomb/axis.six", Rows.laid_honeycomb_axis_six)] W ∧ handlesMet Tryd.prog [("errors.errorType", Rows.laid_errors_errorType)] W := h
  obtain ⟨name, u, ty, e1, e2, e3, e4, e5⟩ := h'.2 _ (List.mem_singleton.2 rfl)
  have en : name = [101, 114, 114, 111, 114] := (Option.some.inj e1).symm
  subst en
  obtain rfl := Option.some.inj (rtN.symm.trans e2)
  have hm : ty ∈ (List.range 173).filter fun t => Tryd.prog.rowNamed t [101, 114, 114, 111, 114] := List.mem_filter.2 ⟨List.mem_range.2 (by rw [← typesSize]; exact e3), e4⟩
  rw [oneRow] at hm
  obtain rfl := List.mem_singleton.1 hm
  have hh : typeHandle Tryd.prog 34 = .pointer (some ⟨2, 34, none⟩) := by kernel_rfl
  rw [hh] at e5
  unfold Et
  simpa using World.var?_cell etN e5 0
set_option maxRecDepth 100000 in
theorem door_met2 (os : Os) (args : Array Value) : laidMetH Tryd.prog laid2 ((World.doorLaid Tryd.prog 27 os).forCall (fun _ _ => 0) ⟨#[], args, []⟩).memory :=
  laidMetH_of_parts3 (fuel := 8) (laidMet_of_run' 8 (by kernel_rfl) (by kernel_rfl)) (by kernel_rfl) (by kernel_rfl)
end Go.Proofs.YtdgjfkpjgllffaaDoor
