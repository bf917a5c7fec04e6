/-
  NARROWER THAN 'FOR EVERY INPUT', by the rows' own cells (each row's printed sentence says how): IsoTurned: laid · FlatSteps: laid · FlatOne: laid · FlatFar: laid · FlatShift: laid · IsoCommutes: laid · IsoWitness: laid · IsoGroup: laid · IsoKeeps: laid · FlatRefuses: laid.
  DERIVED. THE GIVEN ROWS OF THIS SEAT. 10 by the template 'for every input the law returns true; each argument reads behind the call as it read before'; 0 by the template 'total and deterministic' (their statements: YtaeenefdbahfoaaDoorTotals.lean).
  GIVEN WITH THE SEED: the statements are not yours to turn. If you find one false, say at which input.
  Laid BY PROGRAM, IN A SANDBOX (cutbox-rows.mjs): the forced cells as the released guide's own fill.sh prints them over the translation 5853d23e9fcd40cd… (all of the seat's roots in one cut). By AI agents, Wed Nov 11 2026. No macro, syntax, notation, axiom, sorry.
-/
import Derived.Test.YtaeenefdbahfoaaDoorChecked
import GoSem.Claim
import GoSem.ClaimJoined
import GoSem.ClaimMapViews
import Derived.JoinedTies
import Derived.KernelRfl
namespace Go.Proofs.YtaeenefdbahfoaaDoor
/- THE CELL 'sum', in the pinned program and in every row, IS THE sha256 OF THE DUMP (.gsa) THAT YtaeenefdbahfoaaDoorProg.lean LOADS. Nothing in Lean hashes anything: it is a label: what it is worth is what the hold of that sum in a sandbox is worth. -/
noncomputable def Tryd.pinned : Pinned := { name := "ytaeenefdbahfoaadoor", sum := "5853d23e9fcd40cded0a2e40d23ffd2022e95dff9f5dd113d615835a3b218d31", checked := Tryd.checked }
namespace Rows
def none {H : Type} : Left H := { results := [], args := [] }

/- WHAT THE LISTED PACKAGE-LEVEL VARIABLES READ AS WHEN THE CALL BEGINS. Each datum BY PROGRAM (the guide's laid-datum.mjs) off the statement by which the dump's own 'gosem.cut.vars' lays the variable. In a bare row this is a premise. The card (YtaeenefdbahfoaaDoorCards.lean) ties it to the program's text. -/
def laid_honeycomb_axis_six {H : Type} : DataW H := .agg [.agg [.lit (.int .i64 1), .lit (.int .i64 0)], .agg [.lit (.int .i64 0), .lit (.int .i64 1)], .agg [.lit (.int .i64 (-1)), .lit (.int .i64 1)], .agg [.lit (.int .i64 (-1)), .lit (.int .i64 0)], .agg [.lit (.int .i64 0), .lit (.int .i64 (-1))], .agg [.lit (.int .i64 1), .lit (.int .i64 (-1))]]
def laid_errors_errorType {H : Type} : DataW H := .iface "internal/reflectlite.rtype" (.agg [.ptr (.lit (.string [101, 114, 114, 111, 114]))])

/-- 'honeycomblaw07.IsoTurned': WHATEVER THE INPUT: true; the input reads as it did. -/
def isoTurnedSpec : ChangeSpec := { name := "isoTurned", fn := fun _ => fun
  | [d1, d2, d3] => { results := [.lit (.bool true)], args := [d1, d2, d3] }
  | _ => none }
def isoTurnedRow : OpenClaim := { program := "ytaeenefdbahfoaadoor", sum := "5853d23e9fcd40cded0a2e40d23ffd2022e95dff9f5dd113d615835a3b218d31", func := "honeycomb/honeycomblaw07.IsoTurned", spec := "isoTurned", unfollowed := true, recurses := true, named := ["honeycomb/axis.six"], plainKeys := false, apart := false, laid := [("honeycomb/axis.six", laid_honeycomb_axis_six)] }
def IsoTurnedSaid : Prop := isoTurnedRow.holds Tryd.pinned (OpenSpec.ofChange isoTurnedSpec)

/-- ITS FALSE NEIGHBOUR: 'it returns false'. Refute it at one input. -/
def isoTurnedWrong : ChangeSpec := { name := "isoTurned", fn := fun _ => fun
  | [d1, d2, d3] => { results := [.lit (.bool false)], args := [d1, d2, d3] }
  | _ => none }
def IsoTurnedWrongFalsely : Prop := isoTurnedRow.holds Tryd.pinned (OpenSpec.ofChange isoTurnedWrong)

/-- 'honeycomblaw08.FlatSteps': WHATEVER THE INPUT: true; the input reads as it did. -/
def flatStepsSpec : ChangeSpec := { name := "flatSteps", fn := fun _ => fun
  | [d1, d2, d3] => { results := [.lit (.bool true)], args := [d1, d2, d3] }
  | _ => none }
def flatStepsRow : OpenClaim := { program := "ytaeenefdbahfoaadoor", sum := "5853d23e9fcd40cded0a2e40d23ffd2022e95dff9f5dd113d615835a3b218d31", func := "honeycomb/honeycomblaw08.FlatSteps", spec := "flatSteps", unfollowed := true, recurses := true, named := ["honeycomb/axis.six"], plainKeys := false, apart := false, laid := [("honeycomb/axis.six", laid_honeycomb_axis_six)] }
def FlatStepsSaid : Prop := flatStepsRow.holds Tryd.pinned (OpenSpec.ofChange flatStepsSpec)

/-- ITS FALSE NEIGHBOUR: 'it returns false'. Refute it at one input. -/
def flatStepsWrong : ChangeSpec := { name := "flatSteps", fn := fun _ => fun
  | [d1, d2, d3] => { results := [.lit (.bool false)], args := [d1, d2, d3] }
  | _ => none }
def FlatStepsWrongFalsely : Prop := flatStepsRow.holds Tryd.pinned (OpenSpec.ofChange flatStepsWrong)

/-- 'honeycomblaw08.FlatOne': WHATEVER THE INPUT: true; the input reads as it did. -/
def flatOneSpec : ChangeSpec := { name := "flatOne", fn := fun _ => fun
  | [d1, d2, d3] => { results := [.lit (.bool true)], args := [d1, d2, d3] }
  | _ => none }
def flatOneRow : OpenClaim := { program := "ytaeenefdbahfoaadoor", sum := "5853d23e9fcd40cded0a2e40d23ffd2022e95dff9f5dd113d615835a3b218d31", func := "honeycomb/honeycomblaw08.FlatOne", spec := "flatOne", unfollowed := true, recurses := true, named := ["honeycomb/axis.six"], plainKeys := false, apart := false, laid := [("honeycomb/axis.six", laid_honeycomb_axis_six)] }
def FlatOneSaid : Prop := flatOneRow.holds Tryd.pinned (OpenSpec.ofChange flatOneSpec)

/-- ITS FALSE NEIGHBOUR: 'it returns false'. Refute it at one input. -/
def flatOneWrong : ChangeSpec := { name := "flatOne", fn := fun _ => fun
  | [d1, d2, d3] => { results := [.lit (.bool false)], args := [d1, d2, d3] }
  | _ => none }
def FlatOneWrongFalsely : Prop := flatOneRow.holds Tryd.pinned (OpenSpec.ofChange flatOneWrong)

/-- 'honeycomblaw08.FlatFar': WHATEVER THE INPUT: true; the input reads as it did. -/
def flatFarSpec : ChangeSpec := { name := "flatFar", fn := fun _ => fun
  | [d1, d2, d3, d4] => { results := [.lit (.bool true)], args := [d1, d2, d3, d4] }
  | _ => none }
def flatFarRow : OpenClaim := { program := "ytaeenefdbahfoaadoor", sum := "5853d23e9fcd40cded0a2e40d23ffd2022e95dff9f5dd113d615835a3b218d31", func := "honeycomb/honeycomblaw08.FlatFar", spec := "flatFar", unfollowed := true, recurses := true, named := ["honeycomb/axis.six"], plainKeys := false, apart := false, laid := [("honeycomb/axis.six", laid_honeycomb_axis_six)] }
def FlatFarSaid : Prop := flatFarRow.holds Tryd.pinned (OpenSpec.ofChange flatFarSpec)

/-- ITS FALSE NEIGHBOUR: 'it returns false'. Refute it at one input. -/
def flatFarWrong : ChangeSpec := { name := "flatFar", fn := fun _ => fun
  | [d1, d2, d3, d4] => { results := [.lit (.bool false)], args := [d1, d2, d3, d4] }
  | _ => none }
def FlatFarWrongFalsely : Prop := flatFarRow.holds Tryd.pinned (OpenSpec.ofChange flatFarWrong)

/-- 'honeycomblaw08.FlatShift': WHATEVER THE INPUT: true; the input reads as it did. -/
def flatShiftSpec : ChangeSpec := { name := "flatShift", fn := fun _ => fun
  | [d1, d2, d3, d4] => { results := [.lit (.bool true)], args := [d1, d2, d3, d4] }
  | _ => none }
def flatShiftRow : OpenClaim := { program := "ytaeenefdbahfoaadoor", sum := "5853d23e9fcd40cded0a2e40d23ffd2022e95dff9f5dd113d615835a3b218d31", func := "honeycomb/honeycomblaw08.FlatShift", spec := "flatShift", unfollowed := true, recurses := true, named := ["honeycomb/axis.six"], plainKeys := false, apart := false, laid := [("honeycomb/axis.six", laid_honeycomb_axis_six)] }
def FlatShiftSaid : Prop := flatShiftRow.holds Tryd.pinned (OpenSpec.ofChange flatShiftSpec)

/-- ITS FALSE NEIGHBOUR: 'it returns false'. Refute it at one input. -/
def flatShiftWrong : ChangeSpec := { name := "flatShift", fn := fun _ => fun
  | [d1, d2, d3, d4] => { results := [.lit (.bool false)], args := [d1, d2, d3, d4] }
  | _ => none }
def FlatShiftWrongFalsely : Prop := flatShiftRow.holds Tryd.pinned (OpenSpec.ofChange flatShiftWrong)

/-- 'honeycomblaw07.IsoCommutes': WHATEVER THE INPUT: true; the input reads as it did. -/
def isoCommutesSpec : ChangeSpec := { name := "isoCommutes", fn := fun _ => fun
  | [d1, d2, d3, d4] => { results := [.lit (.bool true)], args := [d1, d2, d3, d4] }
  | _ => none }
def isoCommutesRow : OpenClaim := { program := "ytaeenefdbahfoaadoor", sum := "5853d23e9fcd40cded0a2e40d23ffd2022e95dff9f5dd113d615835a3b218d31", func := "honeycomb/honeycomblaw07.IsoCommutes", spec := "isoCommutes", unfollowed := true, recurses := true, named := ["honeycomb/axis.six"], plainKeys := false, apart := false, laid := [("honeycomb/axis.six", laid_honeycomb_axis_six)] }
def IsoCommutesSaid : Prop := isoCommutesRow.holds Tryd.pinned (OpenSpec.ofChange isoCommutesSpec)

/-- ITS FALSE NEIGHBOUR: 'it returns false'. Refute it at one input. -/
def isoCommutesWrong : ChangeSpec := { name := "isoCommutes", fn := fun _ => fun
  | [d1, d2, d3, d4] => { results := [.lit (.bool false)], args := [d1, d2, d3, d4] }
  | _ => none }
def IsoCommutesWrongFalsely : Prop := isoCommutesRow.holds Tryd.pinned (OpenSpec.ofChange isoCommutesWrong)

/-- 'honeycomblaw07.IsoWitness': WHATEVER THE INPUT: true; the input reads as it did. -/
def isoWitnessSpec : ChangeSpec := { name := "isoWitness", fn := fun _ => fun
  | [d1, d2, d3] => { results := [.lit (.bool true)], args := [d1, d2, d3] }
  | _ => none }
def isoWitnessRow : OpenClaim := { program := "ytaeenefdbahfoaadoor", sum := "5853d23e9fcd40cded0a2e40d23ffd2022e95dff9f5dd113d615835a3b218d31", func := "honeycomb/honeycomblaw07.IsoWitness", spec := "isoWitness", unfollowed := true, recurses := true, named := ["honeycomb/axis.six"], plainKeys := false, apart := false, laid := [("honeycomb/axis.six", laid_honeycomb_axis_six)] }
def IsoWitnessSaid : Prop := isoWitnessRow.holds Tryd.pinned (OpenSpec.ofChange isoWitnessSpec)

/-- ITS FALSE NEIGHBOUR: 'it returns false'. Refute it at one input. -/
def isoWitnessWrong : ChangeSpec := { name := "isoWitness", fn := fun _ => fun
  | [d1, d2, d3] => { results := [.lit (.bool false)], args := [d1, d2, d3] }
  | _ => none }
def IsoWitnessWrongFalsely : Prop := isoWitnessRow.holds Tryd.pinned (OpenSpec.ofChange isoWitnessWrong)

/-- 'honeycomblaw07.IsoGroup': WHATEVER THE INPUT: true; the input reads as it did. -/
def isoGroupSpec : ChangeSpec := { name := "isoGroup", fn := fun _ => fun
  | [d1, d2, d3] => { results := [.lit (.bool true)], args := [d1, d2, d3] }
  | _ => none }
def isoGroupRow : OpenClaim := { program := "ytaeenefdbahfoaadoor", sum := "5853d23e9fcd40cded0a2e40d23ffd2022e95dff9f5dd113d615835a3b218d31", func := "honeycomb/honeycomblaw07.IsoGroup", spec := "isoGroup", unfollowed := true, recurses := true, named := ["honeycomb/axis.six"], plainKeys := false, apart := false, laid := [("honeycomb/axis.six", laid_honeycomb_axis_six)] }
def IsoGroupSaid : Prop := isoGroupRow.holds Tryd.pinned (OpenSpec.ofChange isoGroupSpec)

/-- ITS FALSE NEIGHBOUR: 'it returns false'. Refute it at one input. -/
def isoGroupWrong : ChangeSpec := { name := "isoGroup", fn := fun _ => fun
  | [d1, d2, d3] => { results := [.lit (.bool false)], args := [d1, d2, d3] }
  | _ => none }
def IsoGroupWrongFalsely : Prop := isoGroupRow.holds Tryd.pinned (OpenSpec.ofChange isoGroupWrong)

/-- 'honeycomblaw07.IsoKeeps': WHATEVER THE INPUT: true; the input reads as it did. -/
def isoKeepsSpec : ChangeSpec := { name := "isoKeeps", fn := fun _ => fun
  | [d1, d2] => { results := [.lit (.bool true)], args := [d1, d2] }
  | _ => none }
def isoKeepsRow : OpenClaim := { program := "ytaeenefdbahfoaadoor", sum := "5853d23e9fcd40cded0a2e40d23ffd2022e95dff9f5dd113d615835a3b218d31", func := "honeycomb/honeycomblaw07.IsoKeeps", spec := "isoKeeps", inPlace := ["internal/reflectlite.ValueOf", "(internal/reflectlite.Value).Type", "(internal/reflectlite.Value).IsNil", "internal/reflectlite.TypeOf", "(internal/reflectlite.Value).Elem", "(internal/reflectlite.Value).Set"], unfollowed := true, recurses := true, named := ["honeycomb/axis.six", "errors.errorType"], plainKeys := false, apart := false, laid := [("honeycomb/axis.six", laid_honeycomb_axis_six), ("errors.errorType", laid_errors_errorType)] }
def IsoKeepsSaid : Prop := isoKeepsRow.holds Tryd.pinned (OpenSpec.ofChange isoKeepsSpec)

/-- ITS FALSE NEIGHBOUR: 'it returns false'. Refute it at one input. -/
def isoKeepsWrong : ChangeSpec := { name := "isoKeeps", fn := fun _ => fun
  | [d1, d2] => { results := [.lit (.bool false)], args := [d1, d2] }
  | _ => none }
def IsoKeepsWrongFalsely : Prop := isoKeepsRow.holds Tryd.pinned (OpenSpec.ofChange isoKeepsWrong)

/-- 'honeycomblaw08.FlatRefuses': WHATEVER THE INPUT: true; the input reads as it did. -/
def flatRefusesSpec : ChangeSpec := { name := "flatRefuses", fn := fun _ => fun
  | [d1, d2, d3] => { results := [.lit (.bool true)], args := [d1, d2, d3] }
  | _ => none }
def flatRefusesRow : OpenClaim := { program := "ytaeenefdbahfoaadoor", sum := "5853d23e9fcd40cded0a2e40d23ffd2022e95dff9f5dd113d615835a3b218d31", func := "honeycomb/honeycomblaw08.FlatRefuses", spec := "flatRefuses", inPlace := ["internal/reflectlite.ValueOf", "(internal/reflectlite.Value).Type", "(internal/reflectlite.Value).IsNil", "internal/reflectlite.TypeOf", "(internal/reflectlite.Value).Elem", "(internal/reflectlite.Value).Set"], unfollowed := true, recurses := true, named := ["honeycomb/axis.six", "errors.errorType"], plainKeys := false, apart := false, laid := [("honeycomb/axis.six", laid_honeycomb_axis_six), ("errors.errorType", laid_errors_errorType)] }
def FlatRefusesSaid : Prop := flatRefusesRow.holds Tryd.pinned (OpenSpec.ofChange flatRefusesSpec)

/-- ITS FALSE NEIGHBOUR: 'it returns false'. Refute it at one input. -/
def flatRefusesWrong : ChangeSpec := { name := "flatRefuses", fn := fun _ => fun
  | [d1, d2, d3] => { results := [.lit (.bool false)], args := [d1, d2, d3] }
  | _ => none }
def FlatRefusesWrongFalsely : Prop := flatRefusesRow.holds Tryd.pinned (OpenSpec.ofChange flatRefusesWrong)

/- THE SECOND FORM. 'bulk': how many values and letters a reading holds, each counted each time it is reached (what is shared counts as often as it is met; a slice's spare places count too). A statement '..UptoSaid' is the law's where the arguments, and the package variables that the reading takes, are together of bulk at most 1048576: NARROWER than '..Said'. Prove '..Said' where nothing that the law and all that it calls make is longer than what came in: it says more and counts as full. Else prove '..UptoSaid'. A law counts once. -/
mutual
def uptoBulk {H : Type} : DataW H → Nat
  | .lit (.string bytes) => bytes.length + 1
  | .lit _ => 1
  | .nil => 1
  | .ptr d => uptoBulk d + 1
  | .slice elems spare => uptoBulkAll elems + uptoBulkAll spare + 1
  | .agg parts => uptoBulkAll parts + 1
  | .iface _ d => uptoBulk d + 1
  | .map entries => uptoBulkEntries entries + 1
  | .held _ => 1
def uptoBulkAll {H : Type} : List (DataW H) → Nat
  | [] => 0
  | d :: r => uptoBulk d + uptoBulkAll r
def uptoBulkEntries {H : Type} : List (Lit × DataW H) → Nat
  | [] => 0
  | x :: r => uptoBulkEntry x + uptoBulkEntries r
def uptoBulkEntry {H : Type} : Lit × DataW H → Nat
  | (.string bytes, d) => bytes.length + uptoBulk d + 1
  | (_, d) => uptoBulk d + 1
 end
def uptoSmall : (H : Type) → List (DataW H) → Bool := fun _ ds => decide (uptoBulkAll ds ≤ 1048576)
def OpenSpec.upto (s : _root_.Go.ChangeSpec) : _root_.Go.OpenSpec := { _root_.Go.OpenSpec.ofChange s with cond := some uptoSmall }

/-- 'honeycomblaw07.IsoTurned', WHERE WHAT IT READS IS OF BULK AT MOST 1048576: true; the input reads as it did. -/
def isoTurnedUptoRow : OpenClaim := { program := "ytaeenefdbahfoaadoor", sum := "5853d23e9fcd40cded0a2e40d23ffd2022e95dff9f5dd113d615835a3b218d31", func := "honeycomb/honeycomblaw07.IsoTurned", spec := "isoTurned", unfollowed := true, recurses := true, named := ["honeycomb/axis.six"], plainKeys := false, apart := false, laid := [("honeycomb/axis.six", laid_honeycomb_axis_six)], narrowed := true }
def IsoTurnedUptoSaid : Prop := isoTurnedUptoRow.holds Tryd.pinned (OpenSpec.upto isoTurnedSpec)

/-- 'honeycomblaw08.FlatSteps', WHERE WHAT IT READS IS OF BULK AT MOST 1048576: true; the input reads as it did. -/
def flatStepsUptoRow : OpenClaim := { program := "ytaeenefdbahfoaadoor", sum := "5853d23e9fcd40cded0a2e40d23ffd2022e95dff9f5dd113d615835a3b218d31", func := "honeycomb/honeycomblaw08.FlatSteps", spec := "flatSteps", unfollowed := true, recurses := true, named := ["honeycomb/axis.six"], plainKeys := false, apart := false, laid := [("honeycomb/axis.six", laid_honeycomb_axis_six)], narrowed := true }
def FlatStepsUptoSaid : Prop := flatStepsUptoRow.holds Tryd.pinned (OpenSpec.upto flatStepsSpec)

/-- 'honeycomblaw08.FlatOne', WHERE WHAT IT READS IS OF BULK AT MOST 1048576: true; the input reads as it did. -/
def flatOneUptoRow : OpenClaim := { program := "ytaeenefdbahfoaadoor", sum := "5853d23e9fcd40cded0a2e40d23ffd2022e95dff9f5dd113d615835a3b218d31", func := "honeycomb/honeycomblaw08.FlatOne", spec := "flatOne", unfollowed := true, recurses := true, named := ["honeycomb/axis.six"], plainKeys := false, apart := false, laid := [("honeycomb/axis.six", laid_honeycomb_axis_six)], narrowed := true }
def FlatOneUptoSaid : Prop := flatOneUptoRow.holds Tryd.pinned (OpenSpec.upto flatOneSpec)

/-- 'honeycomblaw08.FlatFar', WHERE WHAT IT READS IS OF BULK AT MOST 1048576: true; the input reads as it did. -/
def flatFarUptoRow : OpenClaim := { program := "ytaeenefdbahfoaadoor", sum := "5853d23e9fcd40cded0a2e40d23ffd2022e95dff9f5dd113d615835a3b218d31", func := "honeycomb/honeycomblaw08.FlatFar", spec := "flatFar", unfollowed := true, recurses := true, named := ["honeycomb/axis.six"], plainKeys := false, apart := false, laid := [("honeycomb/axis.six", laid_honeycomb_axis_six)], narrowed := true }
def FlatFarUptoSaid : Prop := flatFarUptoRow.holds Tryd.pinned (OpenSpec.upto flatFarSpec)

/-- 'honeycomblaw08.FlatShift', WHERE WHAT IT READS IS OF BULK AT MOST 1048576: true; the input reads as it did. -/
def flatShiftUptoRow : OpenClaim := { program := "ytaeenefdbahfoaadoor", sum := "5853d23e9fcd40cded0a2e40d23ffd2022e95dff9f5dd113d615835a3b218d31", func := "honeycomb/honeycomblaw08.FlatShift", spec := "flatShift", unfollowed := true, recurses := true, named := ["honeycomb/axis.six"], plainKeys := false, apart := false, laid := [("honeycomb/axis.six", laid_honeycomb_axis_six)], narrowed := true }
def FlatShiftUptoSaid : Prop := flatShiftUptoRow.holds Tryd.pinned (OpenSpec.upto flatShiftSpec)

/-- 'honeycomblaw07.IsoCommutes', WHERE WHAT IT READS IS OF BULK AT MOST 1048576: true; the input reads as it did. -/
def isoCommutesUptoRow : OpenClaim := { program := "ytaeenefdbahfoaadoor", sum := "5853d23e9fcd40cded0a2e40d23ffd2022e95dff9f5dd113d615835a3b218d31", func := "honeycomb/honeycomblaw07.IsoCommutes", spec := "isoCommutes", unfollowed := true, recurses := true, named := ["honeycomb/axis.six"], plainKeys := false, apart := false, laid := [("honeycomb/axis.six", laid_honeycomb_axis_six)], narrowed := true }
def IsoCommutesUptoSaid : Prop := isoCommutesUptoRow.holds Tryd.pinned (OpenSpec.upto isoCommutesSpec)

/-- 'honeycomblaw07.IsoWitness', WHERE WHAT IT READS IS OF BULK AT MOST 1048576: true; the input reads as it did. -/
def isoWitnessUptoRow : OpenClaim := { program := "ytaeenefdbahfoaadoor", sum := "5853d23e9fcd40cded0a2e40d23ffd2022e95dff9f5dd113d615835a3b218d31", func := "honeycomb/honeycomblaw07.IsoWitness", spec := "isoWitness", unfollowed := true, recurses := true, named := ["honeycomb/axis.six"], plainKeys := false, apart := false, laid := [("honeycomb/axis.six", laid_honeycomb_axis_six)], narrowed := true }
def IsoWitnessUptoSaid : Prop := isoWitnessUptoRow.holds Tryd.pinned (OpenSpec.upto isoWitnessSpec)

/-- 'honeycomblaw07.IsoGroup', WHERE WHAT IT READS IS OF BULK AT MOST 1048576: true; the input reads as it did. -/
def isoGroupUptoRow : OpenClaim := { program := "ytaeenefdbahfoaadoor", sum := "5853d23e9fcd40cded0a2e40d23ffd2022e95dff9f5dd113d615835a3b218d31", func := "honeycomb/honeycomblaw07.IsoGroup", spec := "isoGroup", unfollowed := true, recurses := true, named := ["honeycomb/axis.six"], plainKeys := false, apart := false, laid := [("honeycomb/axis.six", laid_honeycomb_axis_six)], narrowed := true }
def IsoGroupUptoSaid : Prop := isoGroupUptoRow.holds Tryd.pinned (OpenSpec.upto isoGroupSpec)

/-- 'honeycomblaw07.IsoKeeps', WHERE WHAT IT READS IS OF BULK AT MOST 1048576: true; the input reads as it did. -/
def isoKeepsUptoRow : OpenClaim := { program := "ytaeenefdbahfoaadoor", sum := "5853d23e9fcd40cded0a2e40d23ffd2022e95dff9f5dd113d615835a3b218d31", func := "honeycomb/honeycomblaw07.IsoKeeps", spec := "isoKeeps", inPlace := ["internal/reflectlite.ValueOf", "(internal/reflectlite.Value).Type", "(internal/reflectlite.Value).IsNil", "internal/reflectlite.TypeOf", "(internal/reflectlite.Value).Elem", "(internal/reflectlite.Value).Set"], unfollowed := true, recurses := true, named := ["honeycomb/axis.six", "errors.errorType"], plainKeys := false, apart := false, laid := [("honeycomb/axis.six", laid_honeycomb_axis_six), ("errors.errorType", laid_errors_errorType)], narrowed := true }
def IsoKeepsUptoSaid : Prop := isoKeepsUptoRow.holds Tryd.pinned (OpenSpec.upto isoKeepsSpec)

/-- 'honeycomblaw08.FlatRefuses', WHERE WHAT IT READS IS OF BULK AT MOST 1048576: true; the input reads as it did. -/
def flatRefusesUptoRow : OpenClaim := { program := "ytaeenefdbahfoaadoor", sum := "5853d23e9fcd40cded0a2e40d23ffd2022e95dff9f5dd113d615835a3b218d31", func := "honeycomb/honeycomblaw08.FlatRefuses", spec := "flatRefuses", inPlace := ["internal/reflectlite.ValueOf", "(internal/reflectlite.Value).Type", "(internal/reflectlite.Value).IsNil", "internal/reflectlite.TypeOf", "(internal/reflectlite.Value).Elem", "(internal/reflectlite.Value).Set"], unfollowed := true, recurses := true, named := ["honeycomb/axis.six", "errors.errorType"], plainKeys := false, apart := false, laid := [("honeycomb/axis.six", laid_honeycomb_axis_six), ("errors.errorType", laid_errors_errorType)], narrowed := true }
def FlatRefusesUptoSaid : Prop := flatRefusesUptoRow.holds Tryd.pinned (OpenSpec.upto flatRefusesSpec)

end Rows
end Go.Proofs.YtaeenefdbahfoaaDoor
