/-
  NARROWER THAN 'FOR EVERY INPUT', by the rows' own cells (each row's printed sentence says how): BlockInside: laid · BlockShifts: laid · BlockParts: laid · LeafResults: laid · LeafAgain: laid · BlockSteps: laid.
  DERIVED. THE GIVEN ROWS OF THIS SEAT. 6 by the template 'for every input the law returns true; each argument reads behind the call as it read before'; 0 by the template 'total and deterministic' (their statements: YtieekbdododkkaaDoorTotals.lean).
  GIVEN WITH THE SEED: the statements are not yours to turn. If you find one false, say at which input.
  Laid BY PROGRAM, IN A SANDBOX (cutbox-rows.mjs): the forced cells as the released guide's own fill.sh prints them over the translation 0d1b75d9414a4773… (all of the seat's roots in one cut). By AI agents, Wed Nov 11 2026. No macro, syntax, notation, axiom, sorry.
-/
import Derived.Test.YtieekbdododkkaaDoorChecked
import GoSem.Claim
import GoSem.ClaimJoined
import GoSem.ClaimMapViews
import Derived.JoinedTies
import Derived.KernelRfl
namespace Go.Proofs.YtieekbdododkkaaDoor
/- THE CELL 'sum', in the pinned program and in every row, IS THE sha256 OF THE DUMP (.gsa) THAT YtieekbdododkkaaDoorProg.lean LOADS. Nothing in Lean hashes anything: it is a label: what it is worth is what the hold of that sum in a sandbox is worth. -/
noncomputable def Tryd.pinned : Pinned := { name := "ytieekbdododkkaadoor", sum := "0d1b75d9414a47732d9780090241a99dc8cd3bc9a0d5d770ff9685a8e7d179f6", checked := Tryd.checked }
namespace Rows
def none {H : Type} : Left H := { results := [], args := [] }

/- WHAT THE LISTED PACKAGE-LEVEL VARIABLES READ AS WHEN THE CALL BEGINS. Each datum BY PROGRAM (the guide's laid-datum.mjs) off the statement by which the dump's own 'gosem.cut.vars' lays the variable. In a bare row this is a premise. The card (YtieekbdododkkaaDoorCards.lean) ties it to the program's text. -/
def laid_honeycomb_axis_six {H : Type} : DataW H := .agg [.agg [.lit (.int .i64 1), .lit (.int .i64 0)], .agg [.lit (.int .i64 0), .lit (.int .i64 1)], .agg [.lit (.int .i64 (-1)), .lit (.int .i64 1)], .agg [.lit (.int .i64 (-1)), .lit (.int .i64 0)], .agg [.lit (.int .i64 0), .lit (.int .i64 (-1))], .agg [.lit (.int .i64 1), .lit (.int .i64 (-1))]]
def laid_errors_errorType {H : Type} : DataW H := .iface "internal/reflectlite.rtype" (.agg [.ptr (.lit (.string [101, 114, 114, 111, 114]))])

/-- 'honeycomblaw10.BlockInside': WHATEVER THE INPUT: true; the input reads as it did. -/
def blockInsideSpec : ChangeSpec := { name := "blockInside", fn := fun _ => fun
  | [d1, d2, d3] => { results := [.lit (.bool true)], args := [d1, d2, d3] }
  | _ => none }
def blockInsideRow : OpenClaim := { program := "ytieekbdododkkaadoor", sum := "0d1b75d9414a47732d9780090241a99dc8cd3bc9a0d5d770ff9685a8e7d179f6", func := "honeycomb/honeycomblaw10.BlockInside", spec := "blockInside", unfollowed := true, recurses := true, named := ["honeycomb/axis.six"], plainKeys := false, apart := false, laid := [("honeycomb/axis.six", laid_honeycomb_axis_six)] }
def BlockInsideSaid : Prop := blockInsideRow.holds Tryd.pinned (OpenSpec.ofChange blockInsideSpec)

/-- ITS FALSE NEIGHBOUR: 'it returns false'. Refute it at one input. -/
def blockInsideWrong : ChangeSpec := { name := "blockInside", fn := fun _ => fun
  | [d1, d2, d3] => { results := [.lit (.bool false)], args := [d1, d2, d3] }
  | _ => none }
def BlockInsideWrongFalsely : Prop := blockInsideRow.holds Tryd.pinned (OpenSpec.ofChange blockInsideWrong)

/-- 'honeycomblaw10.BlockShifts': WHATEVER THE INPUT: true; the input reads as it did. -/
def blockShiftsSpec : ChangeSpec := { name := "blockShifts", fn := fun _ => fun
  | [d1, d2] => { results := [.lit (.bool true)], args := [d1, d2] }
  | _ => none }
def blockShiftsRow : OpenClaim := { program := "ytieekbdododkkaadoor", sum := "0d1b75d9414a47732d9780090241a99dc8cd3bc9a0d5d770ff9685a8e7d179f6", func := "honeycomb/honeycomblaw10.BlockShifts", spec := "blockShifts", unfollowed := true, recurses := true, named := ["honeycomb/axis.six"], plainKeys := false, apart := false, laid := [("honeycomb/axis.six", laid_honeycomb_axis_six)] }
def BlockShiftsSaid : Prop := blockShiftsRow.holds Tryd.pinned (OpenSpec.ofChange blockShiftsSpec)

/-- ITS FALSE NEIGHBOUR: 'it returns false'. Refute it at one input. -/
def blockShiftsWrong : ChangeSpec := { name := "blockShifts", fn := fun _ => fun
  | [d1, d2] => { results := [.lit (.bool false)], args := [d1, d2] }
  | _ => none }
def BlockShiftsWrongFalsely : Prop := blockShiftsRow.holds Tryd.pinned (OpenSpec.ofChange blockShiftsWrong)

/-- 'honeycomblaw10.BlockParts': WHATEVER THE INPUT: true; the input reads as it did. -/
def blockPartsSpec : ChangeSpec := { name := "blockParts", fn := fun _ => fun
  | [d1, d2, d3] => { results := [.lit (.bool true)], args := [d1, d2, d3] }
  | _ => none }
def blockPartsRow : OpenClaim := { program := "ytieekbdododkkaadoor", sum := "0d1b75d9414a47732d9780090241a99dc8cd3bc9a0d5d770ff9685a8e7d179f6", func := "honeycomb/honeycomblaw10.BlockParts", spec := "blockParts", unfollowed := true, recurses := true, named := ["honeycomb/axis.six"], plainKeys := false, apart := false, laid := [("honeycomb/axis.six", laid_honeycomb_axis_six)] }
def BlockPartsSaid : Prop := blockPartsRow.holds Tryd.pinned (OpenSpec.ofChange blockPartsSpec)

/-- ITS FALSE NEIGHBOUR: 'it returns false'. Refute it at one input. -/
def blockPartsWrong : ChangeSpec := { name := "blockParts", fn := fun _ => fun
  | [d1, d2, d3] => { results := [.lit (.bool false)], args := [d1, d2, d3] }
  | _ => none }
def BlockPartsWrongFalsely : Prop := blockPartsRow.holds Tryd.pinned (OpenSpec.ofChange blockPartsWrong)

/-- 'honeycomblaw11.LeafResults': WHATEVER THE INPUT: true; the input reads as it did. -/
def leafResultsSpec : ChangeSpec := { name := "leafResults", fn := fun _ => fun
  | [d1, d2, d3, d4] => { results := [.lit (.bool true)], args := [d1, d2, d3, d4] }
  | _ => none }
def leafResultsRow : OpenClaim := { program := "ytieekbdododkkaadoor", sum := "0d1b75d9414a47732d9780090241a99dc8cd3bc9a0d5d770ff9685a8e7d179f6", func := "honeycomb/honeycomblaw11.LeafResults", spec := "leafResults", unfollowed := true, recurses := true, named := ["honeycomb/axis.six"], plainKeys := false, apart := false, laid := [("honeycomb/axis.six", laid_honeycomb_axis_six)] }
def LeafResultsSaid : Prop := leafResultsRow.holds Tryd.pinned (OpenSpec.ofChange leafResultsSpec)

/-- ITS FALSE NEIGHBOUR: 'it returns false'. Refute it at one input. -/
def leafResultsWrong : ChangeSpec := { name := "leafResults", fn := fun _ => fun
  | [d1, d2, d3, d4] => { results := [.lit (.bool false)], args := [d1, d2, d3, d4] }
  | _ => none }
def LeafResultsWrongFalsely : Prop := leafResultsRow.holds Tryd.pinned (OpenSpec.ofChange leafResultsWrong)

/-- 'honeycomblaw11.LeafAgain': WHATEVER THE INPUT: true; the input reads as it did. -/
def leafAgainSpec : ChangeSpec := { name := "leafAgain", fn := fun _ => fun
  | [d1, d2, d3, d4] => { results := [.lit (.bool true)], args := [d1, d2, d3, d4] }
  | _ => none }
def leafAgainRow : OpenClaim := { program := "ytieekbdododkkaadoor", sum := "0d1b75d9414a47732d9780090241a99dc8cd3bc9a0d5d770ff9685a8e7d179f6", func := "honeycomb/honeycomblaw11.LeafAgain", spec := "leafAgain", unfollowed := true, recurses := true, named := ["honeycomb/axis.six"], plainKeys := false, apart := false, laid := [("honeycomb/axis.six", laid_honeycomb_axis_six)] }
def LeafAgainSaid : Prop := leafAgainRow.holds Tryd.pinned (OpenSpec.ofChange leafAgainSpec)

/-- ITS FALSE NEIGHBOUR: 'it returns false'. Refute it at one input. -/
def leafAgainWrong : ChangeSpec := { name := "leafAgain", fn := fun _ => fun
  | [d1, d2, d3, d4] => { results := [.lit (.bool false)], args := [d1, d2, d3, d4] }
  | _ => none }
def LeafAgainWrongFalsely : Prop := leafAgainRow.holds Tryd.pinned (OpenSpec.ofChange leafAgainWrong)

/-- 'honeycomblaw10.BlockSteps': WHATEVER THE INPUT: true; the input reads as it did. -/
def blockStepsSpec : ChangeSpec := { name := "blockSteps", fn := fun _ => fun
  | [d1, d2, d3] => { results := [.lit (.bool true)], args := [d1, d2, d3] }
  | _ => none }
def blockStepsRow : OpenClaim := { program := "ytieekbdododkkaadoor", sum := "0d1b75d9414a47732d9780090241a99dc8cd3bc9a0d5d770ff9685a8e7d179f6", func := "honeycomb/honeycomblaw10.BlockSteps", spec := "blockSteps", inPlace := ["internal/reflectlite.ValueOf", "(internal/reflectlite.Value).Type", "(internal/reflectlite.Value).IsNil", "internal/reflectlite.TypeOf", "(internal/reflectlite.Value).Elem", "(internal/reflectlite.Value).Set"], unfollowed := true, recurses := true, named := ["honeycomb/axis.six", "errors.errorType"], plainKeys := false, apart := false, laid := [("honeycomb/axis.six", laid_honeycomb_axis_six), ("errors.errorType", laid_errors_errorType)] }
def BlockStepsSaid : Prop := blockStepsRow.holds Tryd.pinned (OpenSpec.ofChange blockStepsSpec)

/-- ITS FALSE NEIGHBOUR: 'it returns false'. Refute it at one input. -/
def blockStepsWrong : ChangeSpec := { name := "blockSteps", fn := fun _ => fun
  | [d1, d2, d3] => { results := [.lit (.bool false)], args := [d1, d2, d3] }
  | _ => none }
def BlockStepsWrongFalsely : Prop := blockStepsRow.holds Tryd.pinned (OpenSpec.ofChange blockStepsWrong)

/- THE SECOND FORM. 'bulk': how many values and letters a reading holds, each counted each time it is reached (what is shared counts as often as it is met; a slice's spare places count too). A statement '..UptoSaid' is the law's where the arguments, and the package variables that the reading takes, are together of bulk at most 1048576: NARROWER than '..Said'. Prove '..Said' where nothing that the law and all that it calls make is longer than what came in: it says more and counts as full. Else prove '..UptoSaid'. A law counts once. -/
mutual
def uptoBulk {H : Type} : DataW H → Nat
  | .lit (.string bytes) => bytes.length + 1
  | .lit _ => 1
  | .nil => 1
  | .ptr d => uptoBulk d + 1
  | .slice elems spare => uptoBulkAll elems + uptoBulkAll spare + 1
  | .agg parts => uptoBulkAll parts + 1
  | .iface _ d => uptoBulk d + 1
  | .map entries => uptoBulkEntries entries + 1
  | .held _ => 1
def uptoBulkAll {H : Type} : List (DataW H) → Nat
  | [] => 0
  | d :: r => uptoBulk d + uptoBulkAll r
def uptoBulkEntries {H : Type} : List (Lit × DataW H) → Nat
  | [] => 0
  | x :: r => uptoBulkEntry x + uptoBulkEntries r
def uptoBulkEntry {H : Type} : Lit × DataW H → Nat
  | (.string bytes, d) => bytes.length + uptoBulk d + 1
  | (_, d) => uptoBulk d + 1
 end
def uptoSmall : (H : Type) → List (DataW H) → Bool := fun _ ds => decide (uptoBulkAll ds ≤ 1048576)
def OpenSpec.upto (s : _root_.Go.ChangeSpec) : _root_.Go.OpenSpec := { _root_.Go.OpenSpec.ofChange s with cond := some uptoSmall }

/-- 'honeycomblaw10.BlockInside', WHERE WHAT IT READS IS OF BULK AT MOST 1048576: true; the input reads as it did. -/
def blockInsideUptoRow : OpenClaim := { program := "ytieekbdododkkaadoor", sum := "0d1b75d9414a47732d9780090241a99dc8cd3bc9a0d5d770ff9685a8e7d179f6", func := "honeycomb/honeycomblaw10.BlockInside", spec := "blockInside", unfollowed := true, recurses := true, named := ["honeycomb/axis.six"], plainKeys := false, apart := false, laid := [("honeycomb/axis.six", laid_honeycomb_axis_six)], narrowed := true }
def BlockInsideUptoSaid : Prop := blockInsideUptoRow.holds Tryd.pinned (OpenSpec.upto blockInsideSpec)

/-- 'honeycomblaw10.BlockShifts', WHERE WHAT IT READS IS OF BULK AT MOST 1048576: true; the input reads as it did. -/
def blockShiftsUptoRow : OpenClaim := { program := "ytieekbdododkkaadoor", sum := "0d1b75d9414a47732d9780090241a99dc8cd3bc9a0d5d770ff9685a8e7d179f6", func := "honeycomb/honeycomblaw10.BlockShifts", spec := "blockShifts", unfollowed := true, recurses := true, named := ["honeycomb/axis.six"], plainKeys := false, apart := false, laid := [("honeycomb/axis.six", laid_honeycomb_axis_six)], narrowed := true }
def BlockShiftsUptoSaid : Prop := blockShiftsUptoRow.holds Tryd.pinned (OpenSpec.upto blockShiftsSpec)

/-- 'honeycomblaw10.BlockParts', WHERE WHAT IT READS IS OF BULK AT MOST 1048576: true; the input reads as it did. -/
def blockPartsUptoRow : OpenClaim := { program := "ytieekbdododkkaadoor", sum := "0d1b75d9414a47732d9780090241a99dc8cd3bc9a0d5d770ff9685a8e7d179f6", func := "honeycomb/honeycomblaw10.BlockParts", spec := "blockParts", unfollowed := true, recurses := true, named := ["honeycomb/axis.six"], plainKeys := false, apart := false, laid := [("honeycomb/axis.six", laid_honeycomb_axis_six)], narrowed := true }
def BlockPartsUptoSaid : Prop := blockPartsUptoRow.holds Tryd.pinned (OpenSpec.upto blockPartsSpec)

/-- 'honeycomblaw11.LeafResults', WHERE WHAT IT READS IS OF BULK AT MOST 1048576: true; the input reads as it did. -/
def leafResultsUptoRow : OpenClaim := { program := "ytieekbdododkkaadoor", sum := "0d1b75d9414a47732d9780090241a99dc8cd3bc9a0d5d770ff9685a8e7d179f6", func := "honeycomb/honeycomblaw11.LeafResults", spec := "leafResults", unfollowed := true, recurses := true, named := ["honeycomb/axis.six"], plainKeys := false, apart := false, laid := [("honeycomb/axis.six", laid_honeycomb_axis_six)], narrowed := true }
def LeafResultsUptoSaid : Prop := leafResultsUptoRow.holds Tryd.pinned (OpenSpec.upto leafResultsSpec)

/-- 'honeycomblaw11.LeafAgain', WHERE WHAT IT READS IS OF BULK AT MOST 1048576: true; the input reads as it did. -/
def leafAgainUptoRow : OpenClaim := { program := "ytieekbdododkkaadoor", sum := "0d1b75d9414a47732d9780090241a99dc8cd3bc9a0d5d770ff9685a8e7d179f6", func := "honeycomb/honeycomblaw11.LeafAgain", spec := "leafAgain", unfollowed := true, recurses := true, named := ["honeycomb/axis.six"], plainKeys := false, apart := false, laid := [("honeycomb/axis.six", laid_honeycomb_axis_six)], narrowed := true }
def LeafAgainUptoSaid : Prop := leafAgainUptoRow.holds Tryd.pinned (OpenSpec.upto leafAgainSpec)

/-- 'honeycomblaw10.BlockSteps', WHERE WHAT IT READS IS OF BULK AT MOST 1048576: true; the input reads as it did. -/
def blockStepsUptoRow : OpenClaim := { program := "ytieekbdododkkaadoor", sum := "0d1b75d9414a47732d9780090241a99dc8cd3bc9a0d5d770ff9685a8e7d179f6", func := "honeycomb/honeycomblaw10.BlockSteps", spec := "blockSteps", inPlace := ["internal/reflectlite.ValueOf", "(internal/reflectlite.Value).Type", "(internal/reflectlite.Value).IsNil", "internal/reflectlite.TypeOf", "(internal/reflectlite.Value).Elem", "(internal/reflectlite.Value).Set"], unfollowed := true, recurses := true, named := ["honeycomb/axis.six", "errors.errorType"], plainKeys := false, apart := false, laid := [("honeycomb/axis.six", laid_honeycomb_axis_six), ("errors.errorType", laid_errors_errorType)], narrowed := true }
def BlockStepsUptoSaid : Prop := blockStepsUptoRow.holds Tryd.pinned (OpenSpec.upto blockStepsSpec)

end Rows
end Go.Proofs.YtieekbdododkkaaDoor
