/- fault.Wrap of no error, as the printed texts call it (of an error: nothing is told). -/
import Derived.Test.YtpekdgdogmaohaaL0
import Derived.Test.YtpekdgdogmaohaaH0
namespace Go.Proofs.Ytpekdgdogmaohaa
open Go.RowKit Go.Proofs.YtpekdgdogmaohaaW.PrintWords Go.Proofs.YtpekdgdogmaohaaW.PrintLast Go.Proofs.YtpekdgdogmaohaaW.PrintMore
open H
def XWrap.f (_what : ByteArray) (_at : Int) (e : Option Int) : Option (Option Int) := match e with
  | none => some none
  | some _ => none
theorem XWrap.calls (a0 : ByteArray) (a1 : Int) (a2 : Option Int) (r : Option Int) (w : World) (h : XWrap.f a0 a1 a2 = some r) :
    Calls Try.prog 46 #[.string a0, .int .i64 a1, errW a2] w fun e w' => e = .returned (errW r) ∧ Below w.heap.size w w' := by
  cases a2 with
  | some q => cases h
  | none =>
    obtain rfl := Option.some.inj h
    rw [errW_none]
    go_enter Try.func46, Try.ntmps46
    go_wp2
    go_ret
    exact ⟨rfl, (by with_reducible repeat (first | apply below_alloc | apply pw_below_drewN | apply below_drew | refine bset ?_ _ _ (by omega) _ | exact Below.refl _ _))⟩
end Go.Proofs.Ytpekdgdogmaohaa
