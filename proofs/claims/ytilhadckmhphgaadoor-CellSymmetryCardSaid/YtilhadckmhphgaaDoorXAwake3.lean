/- awake of chapter 3, as the printed texts call it. -/
import Derived.Test.YtilhadckmhphgaaDoorAwake3
namespace Go.Proofs.YtilhadckmhphgaaDoor
open Go.RowKit Go.Proofs.YtilhadckmhphgaaDoorW.PrintWords Go.Proofs.YtilhadckmhphgaaDoorW.PrintLast Go.Proofs.YtilhadckmhphgaaDoorW.PrintMore
open H
def XAwake3.f : Option Bool := some true
theorem XAwake3.calls (r : Bool) (w : World) (hGSix : Six w) (h : XAwake3.f = some r) : Calls Tryd.prog 5 #[] w fun e w' => e = .returned (.bool r) ∧ Below w.heap.size w w' := by
  obtain rfl := Option.some.inj h
  exact awake_any w hGSix
end Go.Proofs.YtilhadckmhphgaaDoor
