/-
  No cell of these rows narrows 'for every input' (looked for: loops, veiled, ifaces, maps, wideKeys, modest, calm, conditions, laid).
  DERIVED. THE GIVEN ROWS OF THIS SEAT. 3 by the template 'for every input the law returns true; each argument reads behind the call as it read before'; 0 by the template 'total and deterministic' (their statements: YtpekdgdogmaohaaTotals.lean).
  GIVEN WITH THE SEED: the statements are not yours to turn. If you find one false, say at which input.
  Laid BY PROGRAM, IN A SANDBOX (cutbox-rows.mjs): the forced cells as the released guide's own fill.sh prints them over the translation 1f51ac0520f8b1d0… (all of the seat's roots in one cut). By AI agents, Wed Nov 11 2026. No macro, syntax, notation, axiom, sorry.
-/
import Derived.Test.YtpekdgdogmaohaaChecked
import GoSem.Claim
import GoSem.ClaimJoined
import GoSem.ClaimMapViews
import Derived.JoinedTies
import Derived.KernelRfl
namespace Go.Proofs.Ytpekdgdogmaohaa
/- THE CELL 'sum', in the pinned program and in every row, IS THE sha256 OF THE DUMP (.gsa) THAT YtpekdgdogmaohaaProg.lean LOADS. Nothing in Lean hashes anything: it is a label: what it is worth is what the hold of that sum in a sandbox is worth. -/
noncomputable def Try.pinned : Pinned := { name := "ytpekdgdogmaohaa", sum := "1f51ac0520f8b1d04f33ba8cd217302c69dd9031ffbbcd4968337848f3bc934a", checked := Try.checked }
namespace Rows
def none {H : Type} : Left H := { results := [], args := [] }

/-- 'honeycomblaw04.SetCells': WHATEVER THE INPUT: true; the input reads as it did. -/
def setCellsSpec : ChangeSpec := { name := "setCells", fn := fun _ => fun
  | [d1, d2, d3] => { results := [.lit (.bool true)], args := [d1, d2, d3] }
  | _ => none }
def setCellsRow : OpenClaim := { program := "ytpekdgdogmaohaa", sum := "1f51ac0520f8b1d04f33ba8cd217302c69dd9031ffbbcd4968337848f3bc934a", func := "honeycomb/honeycomblaw04.SetCells", spec := "setCells", inPlace := ["slices.overlaps[honeycomb/cell.Cell]"], unfollowed := true, recurses := true, apart := false }
def SetCellsSaid : Prop := setCellsRow.holds Try.pinned (OpenSpec.ofChange setCellsSpec)

/-- ITS FALSE NEIGHBOUR: 'it returns false'. Refute it at one input. -/
def setCellsWrong : ChangeSpec := { name := "setCells", fn := fun _ => fun
  | [d1, d2, d3] => { results := [.lit (.bool false)], args := [d1, d2, d3] }
  | _ => none }
def SetCellsWrongFalsely : Prop := setCellsRow.holds Try.pinned (OpenSpec.ofChange setCellsWrong)

/-- 'honeycomblaw04.SetPuts': WHATEVER THE INPUT: true; the input reads as it did. -/
def setPutsSpec : ChangeSpec := { name := "setPuts", fn := fun _ => fun
  | [d] => { results := [.lit (.bool true)], args := [d] }
  | _ => none }
def setPutsRow : OpenClaim := { program := "ytpekdgdogmaohaa", sum := "1f51ac0520f8b1d04f33ba8cd217302c69dd9031ffbbcd4968337848f3bc934a", func := "honeycomb/honeycomblaw04.SetPuts", spec := "setPuts", inPlace := ["slices.overlaps[honeycomb/cell.Cell]"], unfollowed := true, recurses := true, apart := false }
def SetPutsSaid : Prop := setPutsRow.holds Try.pinned (OpenSpec.ofChange setPutsSpec)

/-- ITS FALSE NEIGHBOUR: 'it returns false'. Refute it at one input. -/
def setPutsWrong : ChangeSpec := { name := "setPuts", fn := fun _ => fun
  | [d] => { results := [.lit (.bool false)], args := [d] }
  | _ => none }
def SetPutsWrongFalsely : Prop := setPutsRow.holds Try.pinned (OpenSpec.ofChange setPutsWrong)

/-- 'honeycomblaw04.SetBack': WHATEVER THE INPUT: true; the input reads as it did. -/
def setBackSpec : ChangeSpec := { name := "setBack", fn := fun _ => fun
  | [d1, d2, d3, d4, d5] => { results := [.lit (.bool true)], args := [d1, d2, d3, d4, d5] }
  | _ => none }
def setBackRow : OpenClaim := { program := "ytpekdgdogmaohaa", sum := "1f51ac0520f8b1d04f33ba8cd217302c69dd9031ffbbcd4968337848f3bc934a", func := "honeycomb/honeycomblaw04.SetBack", spec := "setBack", unfollowed := true, recurses := true, apart := false }
def SetBackSaid : Prop := setBackRow.holds Try.pinned (OpenSpec.ofChange setBackSpec)

/-- ITS FALSE NEIGHBOUR: 'it returns false'. Refute it at one input. -/
def setBackWrong : ChangeSpec := { name := "setBack", fn := fun _ => fun
  | [d1, d2, d3, d4, d5] => { results := [.lit (.bool false)], args := [d1, d2, d3, d4, d5] }
  | _ => none }
def SetBackWrongFalsely : Prop := setBackRow.holds Try.pinned (OpenSpec.ofChange setBackWrong)

/- THE SECOND FORM. 'bulk': how many values and letters a reading holds, each counted each time it is reached (what is shared counts as often as it is met; a slice's spare places count too). A statement '..UptoSaid' is the law's where the arguments, and the package variables that the reading takes, are together of bulk at most 1048576: NARROWER than '..Said'. Prove '..Said' where nothing that the law and all that it calls make is longer than what came in: it says more and counts as full. Else prove '..UptoSaid'. A law counts once. -/
mutual
def uptoBulk {H : Type} : DataW H → Nat
  | .lit (.string bytes) => bytes.length + 1
  | .lit _ => 1
  | .nil => 1
  | .ptr d => uptoBulk d + 1
  | .slice elems spare => uptoBulkAll elems + uptoBulkAll spare + 1
  | .agg parts => uptoBulkAll parts + 1
  | .iface _ d => uptoBulk d + 1
  | .map entries => uptoBulkEntries entries + 1
  | .held _ => 1
def uptoBulkAll {H : Type} : List (DataW H) → Nat
  | [] => 0
  | d :: r => uptoBulk d + uptoBulkAll r
def uptoBulkEntries {H : Type} : List (Lit × DataW H) → Nat
  | [] => 0
  | x :: r => uptoBulkEntry x + uptoBulkEntries r
def uptoBulkEntry {H : Type} : Lit × DataW H → Nat
  | (.string bytes, d) => bytes.length + uptoBulk d + 1
  | (_, d) => uptoBulk d + 1
 end
def uptoSmall : (H : Type) → List (DataW H) → Bool := fun _ ds => decide (uptoBulkAll ds ≤ 1048576)
def OpenSpec.upto (s : _root_.Go.ChangeSpec) : _root_.Go.OpenSpec := { _root_.Go.OpenSpec.ofChange s with cond := some uptoSmall }

/-- 'honeycomblaw04.SetCells', WHERE WHAT IT READS IS OF BULK AT MOST 1048576: true; the input reads as it did. -/
def setCellsUptoRow : OpenClaim := { program := "ytpekdgdogmaohaa", sum := "1f51ac0520f8b1d04f33ba8cd217302c69dd9031ffbbcd4968337848f3bc934a", func := "honeycomb/honeycomblaw04.SetCells", spec := "setCells", inPlace := ["slices.overlaps[honeycomb/cell.Cell]"], unfollowed := true, recurses := true, apart := false, narrowed := true }
def SetCellsUptoSaid : Prop := setCellsUptoRow.holds Try.pinned (OpenSpec.upto setCellsSpec)

/-- 'honeycomblaw04.SetPuts', WHERE WHAT IT READS IS OF BULK AT MOST 1048576: true; the input reads as it did. -/
def setPutsUptoRow : OpenClaim := { program := "ytpekdgdogmaohaa", sum := "1f51ac0520f8b1d04f33ba8cd217302c69dd9031ffbbcd4968337848f3bc934a", func := "honeycomb/honeycomblaw04.SetPuts", spec := "setPuts", inPlace := ["slices.overlaps[honeycomb/cell.Cell]"], unfollowed := true, recurses := true, apart := false, narrowed := true }
def SetPutsUptoSaid : Prop := setPutsUptoRow.holds Try.pinned (OpenSpec.upto setPutsSpec)

/-- 'honeycomblaw04.SetBack', WHERE WHAT IT READS IS OF BULK AT MOST 1048576: true; the input reads as it did. -/
def setBackUptoRow : OpenClaim := { program := "ytpekdgdogmaohaa", sum := "1f51ac0520f8b1d04f33ba8cd217302c69dd9031ffbbcd4968337848f3bc934a", func := "honeycomb/honeycomblaw04.SetBack", spec := "setBack", unfollowed := true, recurses := true, apart := false, narrowed := true }
def SetBackUptoSaid : Prop := setBackUptoRow.holds Try.pinned (OpenSpec.upto setBackSpec)

end Rows
end Go.Proofs.Ytpekdgdogmaohaa
