/-
  NARROWER THAN 'FOR EVERY INPUT', by the rows' own cells (each row's printed sentence says how): CellMutual: laid · CellEdges: laid · CellShifts: laid · CellSymmetry: laid · HoneycombTwelve: laid · HoneycombHalfTurn: laid · CellChecks: laid · CellBeside: laid · CellTurns: laid.
  DERIVED. THE GIVEN ROWS OF THIS SEAT. 9 by the template 'for every input the law returns true; each argument reads behind the call as it read before'; 0 by the template 'total and deterministic' (their statements: YtdgjfkpjgllffaaDoorTotals.lean).
  GIVEN WITH THE SEED: the statements are not yours to turn. If you find one false, say at which input.
  Laid BY PROGRAM, IN A SANDBOX (cutbox-rows.mjs): the forced cells as the released guide's own fill.sh prints them over the translation 19afa5f8b8b81308… (all of the seat's roots in one cut). By AI agents, Wed Nov 11 2026. No macro, syntax, notation, axiom, sorry.
-/
import Derived.Test.YtdgjfkpjgllffaaDoorChecked
import GoSem.Claim
import GoSem.ClaimJoined
import GoSem.ClaimMapViews
import Derived.JoinedTies
import Derived.KernelRfl
namespace Go.Proofs.YtdgjfkpjgllffaaDoor
/- THE CELL 'sum', in the pinned program and in every row, IS THE sha256 OF THE DUMP (.gsa) THAT YtdgjfkpjgllffaaDoorProg.lean LOADS. Nothing in Lean hashes anything: it is a label: what it is worth is what the hold of that sum in a sandbox is worth. -/
noncomputable def Tryd.pinned : Pinned := { name := "ytdgjfkpjgllffaadoor", sum := "19afa5f8b8b813087e42d272ec2286ea452816c356c41fbbba54410a47546883", checked := Tryd.checked }
namespace Rows
def none {H : Type} : Left H := { results := [], args := [] }

/- WHAT THE LISTED PACKAGE-LEVEL VARIABLES READ AS WHEN THE CALL BEGINS. Each datum BY PROGRAM (the guide's laid-datum.mjs) off the statement by which the dump's own 'gosem.cut.vars' lays the variable. In a bare row this is a premise. The card (YtdgjfkpjgllffaaDoorCards.lean) ties it to the program's text. -/
def laid_honeycomb_axis_six {H : Type} : DataW H := .agg [.agg [.lit (.int .i64 1), .lit (.int .i64 0)], .agg [.lit (.int .i64 0), .lit (.int .i64 1)], .agg [.lit (.int .i64 (-1)), .lit (.int .i64 1)], .agg [.lit (.int .i64 (-1)), .lit (.int .i64 0)], .agg [.lit (.int .i64 0), .lit (.int .i64 (-1))], .agg [.lit (.int .i64 1), .lit (.int .i64 (-1))]]
def laid_errors_errorType {H : Type} : DataW H := .iface "internal/reflectlite.rtype" (.agg [.ptr (.lit (.string [101, 114, 114, 111, 114]))])

/-- 'honeycomblaw03.CellMutual': WHATEVER THE INPUT: true; the input reads as it did. -/
def cellMutualSpec : ChangeSpec := { name := "cellMutual", fn := fun _ => fun
  | [d1, d2] => { results := [.lit (.bool true)], args := [d1, d2] }
  | _ => none }
def cellMutualRow : OpenClaim := { program := "ytdgjfkpjgllffaadoor", sum := "19afa5f8b8b813087e42d272ec2286ea452816c356c41fbbba54410a47546883", func := "honeycomb/honeycomblaw03.CellMutual", spec := "cellMutual", unfollowed := true, recurses := true, named := ["honeycomb/axis.six"], plainKeys := false, apart := false, laid := [("honeycomb/axis.six", laid_honeycomb_axis_six)] }
def CellMutualSaid : Prop := cellMutualRow.holds Tryd.pinned (OpenSpec.ofChange cellMutualSpec)

/-- ITS FALSE NEIGHBOUR: 'it returns false'. Refute it at one input. -/
def cellMutualWrong : ChangeSpec := { name := "cellMutual", fn := fun _ => fun
  | [d1, d2] => { results := [.lit (.bool false)], args := [d1, d2] }
  | _ => none }
def CellMutualWrongFalsely : Prop := cellMutualRow.holds Tryd.pinned (OpenSpec.ofChange cellMutualWrong)

/-- 'honeycomblaw03.CellEdges': WHATEVER THE INPUT: true; the input reads as it did. -/
def cellEdgesSpec : ChangeSpec := { name := "cellEdges", fn := fun _ => fun
  | [d] => { results := [.lit (.bool true)], args := [d] }
  | _ => none }
def cellEdgesRow : OpenClaim := { program := "ytdgjfkpjgllffaadoor", sum := "19afa5f8b8b813087e42d272ec2286ea452816c356c41fbbba54410a47546883", func := "honeycomb/honeycomblaw03.CellEdges", spec := "cellEdges", unfollowed := true, recurses := true, named := ["honeycomb/axis.six"], plainKeys := false, apart := false, laid := [("honeycomb/axis.six", laid_honeycomb_axis_six)] }
def CellEdgesSaid : Prop := cellEdgesRow.holds Tryd.pinned (OpenSpec.ofChange cellEdgesSpec)

/-- ITS FALSE NEIGHBOUR: 'it returns false'. Refute it at one input. -/
def cellEdgesWrong : ChangeSpec := { name := "cellEdges", fn := fun _ => fun
  | [d] => { results := [.lit (.bool false)], args := [d] }
  | _ => none }
def CellEdgesWrongFalsely : Prop := cellEdgesRow.holds Tryd.pinned (OpenSpec.ofChange cellEdgesWrong)

/-- 'honeycomblaw03.CellShifts': WHATEVER THE INPUT: true; the input reads as it did. -/
def cellShiftsSpec : ChangeSpec := { name := "cellShifts", fn := fun _ => fun
  | [d1, d2, d3, d4] => { results := [.lit (.bool true)], args := [d1, d2, d3, d4] }
  | _ => none }
def cellShiftsRow : OpenClaim := { program := "ytdgjfkpjgllffaadoor", sum := "19afa5f8b8b813087e42d272ec2286ea452816c356c41fbbba54410a47546883", func := "honeycomb/honeycomblaw03.CellShifts", spec := "cellShifts", unfollowed := true, recurses := true, named := ["honeycomb/axis.six"], plainKeys := false, apart := false, laid := [("honeycomb/axis.six", laid_honeycomb_axis_six)] }
def CellShiftsSaid : Prop := cellShiftsRow.holds Tryd.pinned (OpenSpec.ofChange cellShiftsSpec)

/-- ITS FALSE NEIGHBOUR: 'it returns false'. Refute it at one input. -/
def cellShiftsWrong : ChangeSpec := { name := "cellShifts", fn := fun _ => fun
  | [d1, d2, d3, d4] => { results := [.lit (.bool false)], args := [d1, d2, d3, d4] }
  | _ => none }
def CellShiftsWrongFalsely : Prop := cellShiftsRow.holds Tryd.pinned (OpenSpec.ofChange cellShiftsWrong)

/-- 'honeycomblaw03.CellSymmetry': WHATEVER THE INPUT: true; the input reads as it did. -/
def cellSymmetrySpec : ChangeSpec := { name := "cellSymmetry", fn := fun _ => fun
  | [d1, d2, d3, d4] => { results := [.lit (.bool true)], args := [d1, d2, d3, d4] }
  | _ => none }
def cellSymmetryRow : OpenClaim := { program := "ytdgjfkpjgllffaadoor", sum := "19afa5f8b8b813087e42d272ec2286ea452816c356c41fbbba54410a47546883", func := "honeycomb/honeycomblaw03.CellSymmetry", spec := "cellSymmetry", unfollowed := true, recurses := true, named := ["honeycomb/axis.six"], plainKeys := false, apart := false, laid := [("honeycomb/axis.six", laid_honeycomb_axis_six)] }
def CellSymmetrySaid : Prop := cellSymmetryRow.holds Tryd.pinned (OpenSpec.ofChange cellSymmetrySpec)

/-- ITS FALSE NEIGHBOUR: 'it returns false'. Refute it at one input. -/
def cellSymmetryWrong : ChangeSpec := { name := "cellSymmetry", fn := fun _ => fun
  | [d1, d2, d3, d4] => { results := [.lit (.bool false)], args := [d1, d2, d3, d4] }
  | _ => none }
def CellSymmetryWrongFalsely : Prop := cellSymmetryRow.holds Tryd.pinned (OpenSpec.ofChange cellSymmetryWrong)

/-- 'honeycombtop.HoneycombTwelve': WHATEVER THE INPUT: true; the input reads as it did. -/
def honeycombTwelveSpec : ChangeSpec := { name := "honeycombTwelve", fn := fun _ => fun
  | [d1, d2] => { results := [.lit (.bool true)], args := [d1, d2] }
  | _ => none }
def honeycombTwelveRow : OpenClaim := { program := "ytdgjfkpjgllffaadoor", sum := "19afa5f8b8b813087e42d272ec2286ea452816c356c41fbbba54410a47546883", func := "honeycomb/honeycombtop.HoneycombTwelve", spec := "honeycombTwelve", named := ["honeycomb/axis.six"], plainKeys := false, apart := false, laid := [("honeycomb/axis.six", laid_honeycomb_axis_six)] }
def HoneycombTwelveSaid : Prop := honeycombTwelveRow.holds Tryd.pinned (OpenSpec.ofChange honeycombTwelveSpec)

/-- ITS FALSE NEIGHBOUR: 'it returns false'. Refute it at one input. -/
def honeycombTwelveWrong : ChangeSpec := { name := "honeycombTwelve", fn := fun _ => fun
  | [d1, d2] => { results := [.lit (.bool false)], args := [d1, d2] }
  | _ => none }
def HoneycombTwelveWrongFalsely : Prop := honeycombTwelveRow.holds Tryd.pinned (OpenSpec.ofChange honeycombTwelveWrong)

/-- 'honeycombtop.HoneycombHalfTurn': WHATEVER THE INPUT: true; the input reads as it did. -/
def honeycombHalfTurnSpec : ChangeSpec := { name := "honeycombHalfTurn", fn := fun _ => fun
  | [d1, d2] => { results := [.lit (.bool true)], args := [d1, d2] }
  | _ => none }
def honeycombHalfTurnRow : OpenClaim := { program := "ytdgjfkpjgllffaadoor", sum := "19afa5f8b8b813087e42d272ec2286ea452816c356c41fbbba54410a47546883", func := "honeycomb/honeycombtop.HoneycombHalfTurn", spec := "honeycombHalfTurn", unfollowed := true, recurses := true, named := ["honeycomb/axis.six"], plainKeys := false, apart := false, laid := [("honeycomb/axis.six", laid_honeycomb_axis_six)] }
def HoneycombHalfTurnSaid : Prop := honeycombHalfTurnRow.holds Tryd.pinned (OpenSpec.ofChange honeycombHalfTurnSpec)

/-- ITS FALSE NEIGHBOUR: 'it returns false'. Refute it at one input. -/
def honeycombHalfTurnWrong : ChangeSpec := { name := "honeycombHalfTurn", fn := fun _ => fun
  | [d1, d2] => { results := [.lit (.bool false)], args := [d1, d2] }
  | _ => none }
def HoneycombHalfTurnWrongFalsely : Prop := honeycombHalfTurnRow.holds Tryd.pinned (OpenSpec.ofChange honeycombHalfTurnWrong)

/-- 'honeycomblaw03.CellChecks': WHATEVER THE INPUT: true; the input reads as it did. -/
def cellChecksSpec : ChangeSpec := { name := "cellChecks", fn := fun _ => fun
  | [d1, d2, d3, d4] => { results := [.lit (.bool true)], args := [d1, d2, d3, d4] }
  | _ => none }
def cellChecksRow : OpenClaim := { program := "ytdgjfkpjgllffaadoor", sum := "19afa5f8b8b813087e42d272ec2286ea452816c356c41fbbba54410a47546883", func := "honeycomb/honeycomblaw03.CellChecks", spec := "cellChecks", inPlace := ["internal/reflectlite.ValueOf", "(internal/reflectlite.Value).Type", "(internal/reflectlite.Value).IsNil", "internal/reflectlite.TypeOf", "(internal/reflectlite.Value).Elem", "(internal/reflectlite.Value).Set"], unfollowed := true, recurses := true, named := ["honeycomb/axis.six", "errors.errorType"], plainKeys := false, apart := false, laid := [("honeycomb/axis.six", laid_honeycomb_axis_six), ("errors.errorType", laid_errors_errorType)] }
def CellChecksSaid : Prop := cellChecksRow.holds Tryd.pinned (OpenSpec.ofChange cellChecksSpec)

/-- ITS FALSE NEIGHBOUR: 'it returns false'. Refute it at one input. -/
def cellChecksWrong : ChangeSpec := { name := "cellChecks", fn := fun _ => fun
  | [d1, d2, d3, d4] => { results := [.lit (.bool false)], args := [d1, d2, d3, d4] }
  | _ => none }
def CellChecksWrongFalsely : Prop := cellChecksRow.holds Tryd.pinned (OpenSpec.ofChange cellChecksWrong)

/-- 'honeycomblaw03.CellBeside': WHATEVER THE INPUT: true; the input reads as it did. -/
def cellBesideSpec : ChangeSpec := { name := "cellBeside", fn := fun _ => fun
  | [d1, d2] => { results := [.lit (.bool true)], args := [d1, d2] }
  | _ => none }
def cellBesideRow : OpenClaim := { program := "ytdgjfkpjgllffaadoor", sum := "19afa5f8b8b813087e42d272ec2286ea452816c356c41fbbba54410a47546883", func := "honeycomb/honeycomblaw03.CellBeside", spec := "cellBeside", inPlace := ["internal/reflectlite.ValueOf", "(internal/reflectlite.Value).Type", "(internal/reflectlite.Value).IsNil", "internal/reflectlite.TypeOf", "(internal/reflectlite.Value).Elem", "(internal/reflectlite.Value).Set"], unfollowed := true, recurses := true, named := ["honeycomb/axis.six", "errors.errorType"], plainKeys := false, apart := false, laid := [("honeycomb/axis.six", laid_honeycomb_axis_six), ("errors.errorType", laid_errors_errorType)] }
def CellBesideSaid : Prop := cellBesideRow.holds Tryd.pinned (OpenSpec.ofChange cellBesideSpec)

/-- ITS FALSE NEIGHBOUR: 'it returns false'. Refute it at one input. -/
def cellBesideWrong : ChangeSpec := { name := "cellBeside", fn := fun _ => fun
  | [d1, d2] => { results := [.lit (.bool false)], args := [d1, d2] }
  | _ => none }
def CellBesideWrongFalsely : Prop := cellBesideRow.holds Tryd.pinned (OpenSpec.ofChange cellBesideWrong)

/-- 'honeycomblaw03.CellTurns': WHATEVER THE INPUT: true; the input reads as it did. -/
def cellTurnsSpec : ChangeSpec := { name := "cellTurns", fn := fun _ => fun
  | [d1, d2, d3] => { results := [.lit (.bool true)], args := [d1, d2, d3] }
  | _ => none }
def cellTurnsRow : OpenClaim := { program := "ytdgjfkpjgllffaadoor", sum := "19afa5f8b8b813087e42d272ec2286ea452816c356c41fbbba54410a47546883", func := "honeycomb/honeycomblaw03.CellTurns", spec := "cellTurns", inPlace := ["internal/reflectlite.ValueOf", "(internal/reflectlite.Value).Type", "(internal/reflectlite.Value).IsNil", "internal/reflectlite.TypeOf", "(internal/reflectlite.Value).Elem", "(internal/reflectlite.Value).Set"], unfollowed := true, recurses := true, named := ["honeycomb/axis.six", "errors.errorType"], plainKeys := false, apart := false, laid := [("honeycomb/axis.six", laid_honeycomb_axis_six), ("errors.errorType", laid_errors_errorType)] }
def CellTurnsSaid : Prop := cellTurnsRow.holds Tryd.pinned (OpenSpec.ofChange cellTurnsSpec)

/-- ITS FALSE NEIGHBOUR: 'it returns false'. Refute it at one input. -/
def cellTurnsWrong : ChangeSpec := { name := "cellTurns", fn := fun _ => fun
  | [d1, d2, d3] => { results := [.lit (.bool false)], args := [d1, d2, d3] }
  | _ => none }
def CellTurnsWrongFalsely : Prop := cellTurnsRow.holds Tryd.pinned (OpenSpec.ofChange cellTurnsWrong)

/- THE SECOND FORM. 'bulk': how many values and letters a reading holds, each counted each time it is reached (what is shared counts as often as it is met; a slice's spare places count too). A statement '..UptoSaid' is the law's where the arguments, and the package variables that the reading takes, are together of bulk at most 1048576: NARROWER than '..Said'. Prove '..Said' where nothing that the law and all that it calls make is longer than what came in: it says more and counts as full. Else prove '..UptoSaid'. A law counts once. -/
mutual
def uptoBulk {H : Type} : DataW H → Nat
  | .lit (.string bytes) => bytes.length + 1
  | .lit _ => 1
  | .nil => 1
  | .ptr d => uptoBulk d + 1
  | .slice elems spare => uptoBulkAll elems + uptoBulkAll spare + 1
  | .agg parts => uptoBulkAll parts + 1
  | .iface _ d => uptoBulk d + 1
  | .map entries => uptoBulkEntries entries + 1
  | .held _ => 1
def uptoBulkAll {H : Type} : List (DataW H) → Nat
  | [] => 0
  | d :: r => uptoBulk d + uptoBulkAll r
def uptoBulkEntries {H : Type} : List (Lit × DataW H) → Nat
  | [] => 0
  | x :: r => uptoBulkEntry x + uptoBulkEntries r
def uptoBulkEntry {H : Type} : Lit × DataW H → Nat
  | (.string bytes, d) => bytes.length + uptoBulk d + 1
  | (_, d) => uptoBulk d + 1
 end
def uptoSmall : (H : Type) → List (DataW H) → Bool := fun _ ds => decide (uptoBulkAll ds ≤ 1048576)
def OpenSpec.upto (s : _root_.Go.ChangeSpec) : _root_.Go.OpenSpec := { _root_.Go.OpenSpec.ofChange s with cond := some uptoSmall }

/-- 'honeycomblaw03.CellMutual', WHERE WHAT IT READS IS OF BULK AT MOST 1048576: true; the input reads as it did. -/
def cellMutualUptoRow : OpenClaim := { program := "ytdgjfkpjgllffaadoor", sum := "19afa5f8b8b813087e42d272ec2286ea452816c356c41fbbba54410a47546883", func := "honeycomb/honeycomblaw03.CellMutual", spec := "cellMutual", unfollowed := true, recurses := true, named := ["honeycomb/axis.six"], plainKeys := false, apart := false, laid := [("honeycomb/axis.six", laid_honeycomb_axis_six)], narrowed := true }
def CellMutualUptoSaid : Prop := cellMutualUptoRow.holds Tryd.pinned (OpenSpec.upto cellMutualSpec)

/-- 'honeycomblaw03.CellEdges', WHERE WHAT IT READS IS OF BULK AT MOST 1048576: true; the input reads as it did. -/
def cellEdgesUptoRow : OpenClaim := { program := "ytdgjfkpjgllffaadoor", sum := "19afa5f8b8b813087e42d272ec2286ea452816c356c41fbbba54410a47546883", func := "honeycomb/honeycomblaw03.CellEdges", spec := "cellEdges", unfollowed := true, recurses := true, named := ["honeycomb/axis.six"], plainKeys := false, apart := false, laid := [("honeycomb/axis.six", laid_honeycomb_axis_six)], narrowed := true }
def CellEdgesUptoSaid : Prop := cellEdgesUptoRow.holds Tryd.pinned (OpenSpec.upto cellEdgesSpec)

/-- 'honeycomblaw03.CellShifts', WHERE WHAT IT READS IS OF BULK AT MOST 1048576: true; the input reads as it did. -/
def cellShiftsUptoRow : OpenClaim := { program := "ytdgjfkpjgllffaadoor", sum := "19afa5f8b8b813087e42d272ec2286ea452816c356c41fbbba54410a47546883", func := "honeycomb/honeycomblaw03.CellShifts", spec := "cellShifts", unfollowed := true, recurses := true, named := ["honeycomb/axis.six"], plainKeys := false, apart := false, laid := [("honeycomb/axis.six", laid_honeycomb_axis_six)], narrowed := true }
def CellShiftsUptoSaid : Prop := cellShiftsUptoRow.holds Tryd.pinned (OpenSpec.upto cellShiftsSpec)

/-- 'honeycomblaw03.CellSymmetry', WHERE WHAT IT READS IS OF BULK AT MOST 1048576: true; the input reads as it did. -/
def cellSymmetryUptoRow : OpenClaim := { program := "ytdgjfkpjgllffaadoor", sum := "19afa5f8b8b813087e42d272ec2286ea452816c356c41fbbba54410a47546883", func := "honeycomb/honeycomblaw03.CellSymmetry", spec := "cellSymmetry", unfollowed := true, recurses := true, named := ["honeycomb/axis.six"], plainKeys := false, apart := false, laid := [("honeycomb/axis.six", laid_honeycomb_axis_six)], narrowed := true }
def CellSymmetryUptoSaid : Prop := cellSymmetryUptoRow.holds Tryd.pinned (OpenSpec.upto cellSymmetrySpec)

/-- 'honeycombtop.HoneycombTwelve', WHERE WHAT IT READS IS OF BULK AT MOST 1048576: true; the input reads as it did. -/
def honeycombTwelveUptoRow : OpenClaim := { program := "ytdgjfkpjgllffaadoor", sum := "19afa5f8b8b813087e42d272ec2286ea452816c356c41fbbba54410a47546883", func := "honeycomb/honeycombtop.HoneycombTwelve", spec := "honeycombTwelve", named := ["honeycomb/axis.six"], plainKeys := false, apart := false, laid := [("honeycomb/axis.six", laid_honeycomb_axis_six)], narrowed := true }
def HoneycombTwelveUptoSaid : Prop := honeycombTwelveUptoRow.holds Tryd.pinned (OpenSpec.upto honeycombTwelveSpec)

/-- 'honeycombtop.HoneycombHalfTurn', WHERE WHAT IT READS IS OF BULK AT MOST 1048576: true; the input reads as it did. -/
def honeycombHalfTurnUptoRow : OpenClaim := { program := "ytdgjfkpjgllffaadoor", sum := "19afa5f8b8b813087e42d272ec2286ea452816c356c41fbbba54410a47546883", func := "honeycomb/honeycombtop.HoneycombHalfTurn", spec := "honeycombHalfTurn", unfollowed := true, recurses := true, named := ["honeycomb/axis.six"], plainKeys := false, apart := false, laid := [("honeycomb/axis.six", laid_honeycomb_axis_six)], narrowed := true }
def HoneycombHalfTurnUptoSaid : Prop := honeycombHalfTurnUptoRow.holds Tryd.pinned (OpenSpec.upto honeycombHalfTurnSpec)

/-- 'honeycomblaw03.CellChecks', WHERE WHAT IT READS IS OF BULK AT MOST 1048576: true; the input reads as it did. -/
def cellChecksUptoRow : OpenClaim := { program := "ytdgjfkpjgllffaadoor", sum := "19afa5f8b8b813087e42d272ec2286ea452816c356c41fbbba54410a47546883", func := "honeycomb/honeycomblaw03.CellChecks", spec := "cellChecks", inPlace := ["internal/reflectlite.ValueOf", "(internal/reflectlite.Value).Type", "(internal/reflectlite.Value).IsNil", "internal/reflectlite.TypeOf", "(internal/reflectlite.Value).Elem", "(internal/reflectlite.Value).Set"], unfollowed := true, recurses := true, named := ["honeycomb/axis.six", "errors.errorType"], plainKeys := false, apart := false, laid := [("honeycomb/axis.six", laid_honeycomb_axis_six), ("errors.errorType", laid_errors_errorType)], narrowed := true }
def CellChecksUptoSaid : Prop := cellChecksUptoRow.holds Tryd.pinned (OpenSpec.upto cellChecksSpec)

/-- 'honeycomblaw03.CellBeside', WHERE WHAT IT READS IS OF BULK AT MOST 1048576: true; the input reads as it did. -/
def cellBesideUptoRow : OpenClaim := { program := "ytdgjfkpjgllffaadoor", sum := "19afa5f8b8b813087e42d272ec2286ea452816c356c41fbbba54410a47546883", func := "honeycomb/honeycomblaw03.CellBeside", spec := "cellBeside", inPlace := ["internal/reflectlite.ValueOf", "(internal/reflectlite.Value).Type", "(internal/reflectlite.Value).IsNil", "internal/reflectlite.TypeOf", "(internal/reflectlite.Value).Elem", "(internal/reflectlite.Value).Set"], unfollowed := true, recurses := true, named := ["honeycomb/axis.six", "errors.errorType"], plainKeys := false, apart := false, laid := [("honeycomb/axis.six", laid_honeycomb_axis_six), ("errors.errorType", laid_errors_errorType)], narrowed := true }
def CellBesideUptoSaid : Prop := cellBesideUptoRow.holds Tryd.pinned (OpenSpec.upto cellBesideSpec)

/-- 'honeycomblaw03.CellTurns', WHERE WHAT IT READS IS OF BULK AT MOST 1048576: true; the input reads as it did. -/
def cellTurnsUptoRow : OpenClaim := { program := "ytdgjfkpjgllffaadoor", sum := "19afa5f8b8b813087e42d272ec2286ea452816c356c41fbbba54410a47546883", func := "honeycomb/honeycomblaw03.CellTurns", spec := "cellTurns", inPlace := ["internal/reflectlite.ValueOf", "(internal/reflectlite.Value).Type", "(internal/reflectlite.Value).IsNil", "internal/reflectlite.TypeOf", "(internal/reflectlite.Value).Elem", "(internal/reflectlite.Value).Set"], unfollowed := true, recurses := true, named := ["honeycomb/axis.six", "errors.errorType"], plainKeys := false, apart := false, laid := [("honeycomb/axis.six", laid_honeycomb_axis_six), ("errors.errorType", laid_errors_errorType)], narrowed := true }
def CellTurnsUptoSaid : Prop := cellTurnsUptoRow.holds Tryd.pinned (OpenSpec.upto cellTurnsSpec)

end Rows
end Go.Proofs.YtdgjfkpjgllffaaDoor
