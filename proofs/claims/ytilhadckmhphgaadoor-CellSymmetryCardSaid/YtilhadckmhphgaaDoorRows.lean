/-
  NARROWER THAN 'FOR EVERY INPUT', by the rows' own cells (each row's printed sentence says how): CellSymmetry: laid · HoneycombTwelve: laid.
  DERIVED. THE GIVEN ROWS OF THIS SEAT. 2 by the template 'for every input the law returns true; each argument reads behind the call as it read before'; 0 by the template 'total and deterministic' (their statements: YtilhadckmhphgaaDoorTotals.lean).
  GIVEN WITH THE SEED: the statements are not yours to turn. If you find one false, say at which input.
  Laid BY PROGRAM, IN A SANDBOX (cutbox-rows.mjs): the forced cells as the released guide's own fill.sh prints them over the translation 00430ab459dc6051… (all of the seat's roots in one cut). By AI agents, Wed Nov 11 2026. No macro, syntax, notation, axiom, sorry.
-/
import Derived.Test.YtilhadckmhphgaaDoorChecked
import GoSem.Claim
import GoSem.ClaimJoined
import GoSem.ClaimMapViews
import Derived.JoinedTies
import Derived.KernelRfl
namespace Go.Proofs.YtilhadckmhphgaaDoor
/- THE CELL 'sum', in the pinned program and in every row, IS THE sha256 OF THE DUMP (.gsa) THAT YtilhadckmhphgaaDoorProg.lean LOADS. Nothing in Lean hashes anything: it is a label: what it is worth is what the hold of that sum in a sandbox is worth. -/
noncomputable def Tryd.pinned : Pinned := { name := "ytilhadckmhphgaadoor", sum := "00430ab459dc6051c1768cfb8878200cc1cd22e31f72cfc9025c375b36902ffc", checked := Tryd.checked }
namespace Rows
def none {H : Type} : Left H := { results := [], args := [] }

/- WHAT THE LISTED PACKAGE-LEVEL VARIABLES READ AS WHEN THE CALL BEGINS. Each datum BY PROGRAM (the guide's laid-datum.mjs) off the statement by which the dump's own 'gosem.cut.vars' lays the variable. In a bare row this is a premise. The card (YtilhadckmhphgaaDoorCards.lean) ties it to the program's text. -/
def laid_honeycomb_axis_six {H : Type} : DataW H := .agg [.agg [.lit (.int .i64 1), .lit (.int .i64 0)], .agg [.lit (.int .i64 0), .lit (.int .i64 1)], .agg [.lit (.int .i64 (-1)), .lit (.int .i64 1)], .agg [.lit (.int .i64 (-1)), .lit (.int .i64 0)], .agg [.lit (.int .i64 0), .lit (.int .i64 (-1))], .agg [.lit (.int .i64 1), .lit (.int .i64 (-1))]]

/-- 'honeycomblaw03.CellSymmetry': WHATEVER THE INPUT: true; the input reads as it did. -/
def cellSymmetrySpec : ChangeSpec := { name := "cellSymmetry", fn := fun _ => fun
  | [d1, d2, d3, d4] => { results := [.lit (.bool true)], args := [d1, d2, d3, d4] }
  | _ => none }
def cellSymmetryRow : OpenClaim := { program := "ytilhadckmhphgaadoor", sum := "00430ab459dc6051c1768cfb8878200cc1cd22e31f72cfc9025c375b36902ffc", func := "honeycomb/honeycomblaw03.CellSymmetry", spec := "cellSymmetry", unfollowed := true, recurses := true, named := ["honeycomb/axis.six"], plainKeys := false, apart := false, laid := [("honeycomb/axis.six", laid_honeycomb_axis_six)] }
def CellSymmetrySaid : Prop := cellSymmetryRow.holds Tryd.pinned (OpenSpec.ofChange cellSymmetrySpec)

/-- ITS FALSE NEIGHBOUR: 'it returns false'. Refute it at one input. -/
def cellSymmetryWrong : ChangeSpec := { name := "cellSymmetry", fn := fun _ => fun
  | [d1, d2, d3, d4] => { results := [.lit (.bool false)], args := [d1, d2, d3, d4] }
  | _ => none }
def CellSymmetryWrongFalsely : Prop := cellSymmetryRow.holds Tryd.pinned (OpenSpec.ofChange cellSymmetryWrong)

/-- 'honeycombtop.HoneycombTwelve': WHATEVER THE INPUT: true; the input reads as it did. -/
def honeycombTwelveSpec : ChangeSpec := { name := "honeycombTwelve", fn := fun _ => fun
  | [d1, d2] => { results := [.lit (.bool true)], args := [d1, d2] }
  | _ => none }
def honeycombTwelveRow : OpenClaim := { program := "ytilhadckmhphgaadoor", sum := "00430ab459dc6051c1768cfb8878200cc1cd22e31f72cfc9025c375b36902ffc", func := "honeycomb/honeycombtop.HoneycombTwelve", spec := "honeycombTwelve", named := ["honeycomb/axis.six"], plainKeys := false, apart := false, laid := [("honeycomb/axis.six", laid_honeycomb_axis_six)] }
def HoneycombTwelveSaid : Prop := honeycombTwelveRow.holds Tryd.pinned (OpenSpec.ofChange honeycombTwelveSpec)

/-- ITS FALSE NEIGHBOUR: 'it returns false'. Refute it at one input. -/
def honeycombTwelveWrong : ChangeSpec := { name := "honeycombTwelve", fn := fun _ => fun
  | [d1, d2] => { results := [.lit (.bool false)], args := [d1, d2] }
  | _ => none }
def HoneycombTwelveWrongFalsely : Prop := honeycombTwelveRow.holds Tryd.pinned (OpenSpec.ofChange honeycombTwelveWrong)

/- THE SECOND FORM. 'bulk': how many values and letters a reading holds, each counted each time it is reached (what is shared counts as often as it is met; a slice's spare places count too). A statement '..UptoSaid' is the law's where the arguments, and the package variables that the reading takes, are together of bulk at most 1048576: NARROWER than '..Said'. Prove '..Said' where nothing that the law and all that it calls make is longer than what came in: it says more and counts as full. Else prove '..UptoSaid'. A law counts once. -/
mutual
def uptoBulk {H : Type} : DataW H → Nat
  | .lit (.string bytes) => bytes.length + 1
  | .lit _ => 1
  | .nil => 1
  | .ptr d => uptoBulk d + 1
  | .slice elems spare => uptoBulkAll elems + uptoBulkAll spare + 1
  | .agg parts => uptoBulkAll parts + 1
  | .iface _ d => uptoBulk d + 1
  | .map entries => uptoBulkEntries entries + 1
  | .held _ => 1
def uptoBulkAll {H : Type} : List (DataW H) → Nat
  | [] => 0
  | d :: r => uptoBulk d + uptoBulkAll r
def uptoBulkEntries {H : Type} : List (Lit × DataW H) → Nat
  | [] => 0
  | x :: r => uptoBulkEntry x + uptoBulkEntries r
def uptoBulkEntry {H : Type} : Lit × DataW H → Nat
  | (.string bytes, d) => bytes.length + uptoBulk d + 1
  | (_, d) => uptoBulk d + 1
 end
def uptoSmall : (H : Type) → List (DataW H) → Bool := fun _ ds => decide (uptoBulkAll ds ≤ 1048576)
def OpenSpec.upto (s : _root_.Go.ChangeSpec) : _root_.Go.OpenSpec := { _root_.Go.OpenSpec.ofChange s with cond := some uptoSmall }

/-- 'honeycomblaw03.CellSymmetry', WHERE WHAT IT READS IS OF BULK AT MOST 1048576: true; the input reads as it did. -/
def cellSymmetryUptoRow : OpenClaim := { program := "ytilhadckmhphgaadoor", sum := "00430ab459dc6051c1768cfb8878200cc1cd22e31f72cfc9025c375b36902ffc", func := "honeycomb/honeycomblaw03.CellSymmetry", spec := "cellSymmetry", unfollowed := true, recurses := true, named := ["honeycomb/axis.six"], plainKeys := false, apart := false, laid := [("honeycomb/axis.six", laid_honeycomb_axis_six)], narrowed := true }
def CellSymmetryUptoSaid : Prop := cellSymmetryUptoRow.holds Tryd.pinned (OpenSpec.upto cellSymmetrySpec)

/-- 'honeycombtop.HoneycombTwelve', WHERE WHAT IT READS IS OF BULK AT MOST 1048576: true; the input reads as it did. -/
def honeycombTwelveUptoRow : OpenClaim := { program := "ytilhadckmhphgaadoor", sum := "00430ab459dc6051c1768cfb8878200cc1cd22e31f72cfc9025c375b36902ffc", func := "honeycomb/honeycombtop.HoneycombTwelve", spec := "honeycombTwelve", named := ["honeycomb/axis.six"], plainKeys := false, apart := false, laid := [("honeycomb/axis.six", laid_honeycomb_axis_six)], narrowed := true }
def HoneycombTwelveUptoSaid : Prop := honeycombTwelveUptoRow.holds Tryd.pinned (OpenSpec.upto honeycombTwelveSpec)

end Rows
end Go.Proofs.YtilhadckmhphgaaDoor
