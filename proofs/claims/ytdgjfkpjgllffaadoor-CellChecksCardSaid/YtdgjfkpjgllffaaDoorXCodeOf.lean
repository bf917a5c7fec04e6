/- CodeOf, as the printed texts call it. -/
import Derived.Test.YtdgjfkpjgllffaaDoorCodeOf
namespace Go.Proofs.YtdgjfkpjgllffaaDoor
open Go.RowKit Go.Proofs.YtdgjfkpjgllffaaDoorW.PrintWords Go.Proofs.YtdgjfkpjgllffaaDoorW.PrintLast Go.Proofs.YtdgjfkpjgllffaaDoorW.PrintMore
open H
def XCodeOf.f (e : Option Int) : Option Int := some (e.getD 0)
theorem XCodeOf.calls (a0 : Option Int) (r : Int) (w : World) (hGEt : Et w) (h : XCodeOf.f a0 = some r) :
    Calls Tryd.prog 27 #[errW a0] w fun e w' => e = .returned (.int .i64 r) ∧ Below w.heap.size w w' := by
  obtain rfl := Option.some.inj h
  exact codeOf_any a0 w hGEt
end Go.Proofs.YtdgjfkpjgllffaaDoor
