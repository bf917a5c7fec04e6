/- ref03.Cell as an element of a slice. -/
import Derived.Test.YtpekdgdogmaohaaLaidS
import Derived.Deep.Strs
import Derived.Lib.SmallJoins
namespace Go.Proofs.Ytpekdgdogmaohaa
open Go.RowKit Go.Proofs.YtpekdgdogmaohaaW.PrintWords Go.Proofs.YtpekdgdogmaohaaW.PrintLast Go.Proofs.YtpekdgdogmaohaaW.PrintMore
open H
open Go.ChangeShapes Go.WideShapes Go.ChangeAt Go.Deep
set_option maxRecDepth 100000 in
theorem el_rc {T : Type} {enc : TypeId × Value → T} {w : World} {base : Nat} {spare : Nat → Bool} {held : Bool} (fuel : Nat) (cs : List Value) (y : DataW T × List MemPlace)
    (h : DataW.trod enc Try.prog w base spare held fuel 24 cs = some y) : ∃ z, k24.K w z cs := by
  have hc3 : Try.prog.cellsOf 24 = 3 := by kernel_rfl
  have hc1 : Try.prog.cellsOf 2 = 1 := by kernel_rfl
  have hc0 : Try.prog.cellsOf 3 = 1 := by kernel_rfl
  obtain ⟨xs, n, _, _, hcl, hl, hf⟩ := DataW.trod_struct Try.underlying24 h
  rw [hc3] at hcl
  obtain ⟨c0, c1, c2, rfl⟩ : ∃ c0 c1 c2, cs = [c0, c1, c2] := by
    match cs, hcl with
    | [a, b, c], _ => exact ⟨a, b, c, rfl⟩
  obtain ⟨y0, y1, y2, rfl⟩ : ∃ y0 y1 y2, xs = [y0, y1, y2] := by
    match xs, hl with
    | [a, b, c], _ => exact ⟨a, b, c, rfl⟩
  have f0 := hf 0 _ rfl
  have f1 := hf 1 _ rfl
  have f2 := hf 2 _ rfl
  simp [hc1, hc0] at f0 f1 f2
  obtain ⟨a, e0, _, _⟩ := DataW.trod_int Try.underlying2 f0
  obtain ⟨b, e1, _, _⟩ := DataW.trod_int Try.underlying2 f1
  obtain ⟨c, e2, _, _⟩ := DataW.trod_int Try.underlying3 f2
  simp at e0 e1 e2
  subst e0
  subst e1
  subst e2
  exact ⟨⟨a, b, c⟩, k24_mk w ⟨a, b, c⟩⟩
section
variable {H : Type} {enc : TypeId × Value → H} {w : World} {base : Nat} {spare : Nat → Bool} {held : Bool}
set_option maxRecDepth 100000 in
theorem open_rcv {r : Reach} {b0 : Nat} {v : Value} {d : DataW H} {p : List MemPlace} (hv : Value.okWide Try.prog w r b0 24 v) (h : DataW.Trod enc Try.prog w base spare held 24 v d p) :
    ∃ a b c : Int, v = .agg #[.int .i64 a, .int .i64 b, .int .i64 c] ∧ d = .agg [.lit (.int .i64 a), .lit (.int .i64 b), .lit (.int .i64 c)] ∧ p = [] ∧ (Lit.int .i64 a).wf = true ∧ (Lit.int .i64 b).wf = true ∧ (Lit.int .i64 c).wf = true := by
  obtain ⟨v0, v1, v2, y0, y1, y2, n, rfl, rfl, rfl, t0, t1, t2⟩ := Go.Joins.open_agg3 Try.underlying24 (by kernel_rfl) (by kernel_rfl) hv h
  obtain ⟨a, e0, rfl, wa⟩ := DataW.trod_int Try.underlying2 t0
  obtain ⟨b, e1, rfl, wb⟩ := DataW.trod_int Try.underlying2 t1
  obtain ⟨c, e2, rfl, wc⟩ := DataW.trod_int Try.underlying3 t2
  simp at e0 e1 e2
  subst e0
  subst e1
  subst e2
  exact ⟨a, b, c, rfl, rfl, rfl, wa, wb, wc⟩
set_option maxRecDepth 100000 in
theorem shut_rcv {a b c : Int} (wa : (Lit.int .i64 a).wf = true) (wb : (Lit.int .i64 b).wf = true) (wc : (Lit.int .i64 c).wf = true) :
    DataW.Trod enc Try.prog w base spare held 24 (.agg #[.int .i64 a, .int .i64 b, .int .i64 c]) (.agg [.lit (.int .i64 a), .lit (.int .i64 b), .lit (.int .i64 c)]) [] :=
  Go.Joins.shut_agg3 (y0 := (.lit (.int .i64 a), [])) (y1 := (.lit (.int .i64 b), [])) (y2 := (.lit (.int .i64 c), [])) Try.underlying24 (by kernel_rfl) (by kernel_rfl) (shut_int Try.underlying2 wa) (shut_int Try.underlying2 wb) (shut_int Try.underlying3 wc)
end
end Go.Proofs.Ytpekdgdogmaohaa
