/-
  DERIVED. GIVEN WITH THE SEED: THE CARDS: each row of YtieekbdododkkaaDoorRows.lean that lists a variable, with what it lists TIED to the program's text (the seventh form; the later family's looks); each row that meets fmt, with fmt's text TOLD by the authors' own Lean function (tested against real Go, not proved from fmt's source: count such statements apart). THE CARD IS WHAT COUNTS. Prove the row's statement (the work); the ties are given (YtieekbdododkkaaDoorTie.lean); close each card by the builder's one call (the guide's Derived/Test/ToyasCard.lean, 'card_holds'). Laid BY PROGRAM, IN A SANDBOX (cutbox-door.mjs). By AI agents, Wed Nov 11 2026. No macro, syntax, notation, axiom, sorry.
-/
import Derived.Test.YtieekbdododkkaaDoorRows
import GoSem.ClaimSeven
namespace Go.Proofs.YtieekbdododkkaaDoor
namespace Rows

/-- THE TIED CARD OF 'honeycomblaw10.BlockInside'. -/
def blockInsideCard : Claim7 := { stood := { row := blockInsideRow, standIns := [], harness := (true, "6a075dd8059d4d0e2579a06455ba3964e544451e9c8aadb1883d0044cb9f148a"), looks := true }, kinds := [], alts := [], laidByText := true, laidKinds := [.data], laidTests := true, laidLooks := .later }
def BlockInsideCardSaid : Prop := Claim7.holds Tryd.pinned (.plain (OpenSpec.ofChange blockInsideSpec)) blockInsideCard

/-- THE TIED CARD OF 'honeycomblaw10.BlockShifts'. -/
def blockShiftsCard : Claim7 := { stood := { row := blockShiftsRow, standIns := [], harness := (true, "6a075dd8059d4d0e2579a06455ba3964e544451e9c8aadb1883d0044cb9f148a"), looks := true }, kinds := [], alts := [], laidByText := true, laidKinds := [.data], laidTests := true, laidLooks := .later }
def BlockShiftsCardSaid : Prop := Claim7.holds Tryd.pinned (.plain (OpenSpec.ofChange blockShiftsSpec)) blockShiftsCard

/-- THE TIED CARD OF 'honeycomblaw10.BlockParts'. -/
def blockPartsCard : Claim7 := { stood := { row := blockPartsRow, standIns := [], harness := (true, "6a075dd8059d4d0e2579a06455ba3964e544451e9c8aadb1883d0044cb9f148a"), looks := true }, kinds := [], alts := [], laidByText := true, laidKinds := [.data], laidTests := true, laidLooks := .later }
def BlockPartsCardSaid : Prop := Claim7.holds Tryd.pinned (.plain (OpenSpec.ofChange blockPartsSpec)) blockPartsCard

/-- THE TIED CARD OF 'honeycomblaw11.LeafResults'. -/
def leafResultsCard : Claim7 := { stood := { row := leafResultsRow, standIns := [], harness := (true, "6a075dd8059d4d0e2579a06455ba3964e544451e9c8aadb1883d0044cb9f148a"), looks := true }, kinds := [], alts := [], laidByText := true, laidKinds := [.data], laidTests := true, laidLooks := .later }
def LeafResultsCardSaid : Prop := Claim7.holds Tryd.pinned (.plain (OpenSpec.ofChange leafResultsSpec)) leafResultsCard

/-- THE TIED CARD OF 'honeycomblaw11.LeafAgain'. -/
def leafAgainCard : Claim7 := { stood := { row := leafAgainRow, standIns := [], harness := (true, "6a075dd8059d4d0e2579a06455ba3964e544451e9c8aadb1883d0044cb9f148a"), looks := true }, kinds := [], alts := [], laidByText := true, laidKinds := [.data], laidTests := true, laidLooks := .later }
def LeafAgainCardSaid : Prop := Claim7.holds Tryd.pinned (.plain (OpenSpec.ofChange leafAgainSpec)) leafAgainCard

/-- THE TIED CARD OF 'honeycomblaw10.BlockSteps'. -/
def blockStepsCard : Claim7 := { stood := { row := blockStepsRow, standIns := [], harness := (true, "6a075dd8059d4d0e2579a06455ba3964e544451e9c8aadb1883d0044cb9f148a"), looks := true }, kinds := [], alts := [], laidByText := true, laidKinds := [.data, .handle], laidTests := true, laidLooks := .later }
def BlockStepsCardSaid : Prop := Claim7.holds Tryd.pinned (.plain (OpenSpec.ofChange blockStepsSpec)) blockStepsCard

/-- THE SECOND FORM's CARD OF 'honeycomblaw10.BlockInside'. -/
def blockInsideUptoCard : Claim7 := { stood := { row := blockInsideUptoRow, standIns := [], harness := (true, "6a075dd8059d4d0e2579a06455ba3964e544451e9c8aadb1883d0044cb9f148a"), looks := true }, kinds := [], alts := [], laidByText := true, laidKinds := [.data], laidTests := true, laidLooks := .later }
def BlockInsideUptoCardSaid : Prop := Claim7.holds Tryd.pinned (.plain (OpenSpec.upto blockInsideSpec)) blockInsideUptoCard

/-- THE SECOND FORM's CARD OF 'honeycomblaw10.BlockShifts'. -/
def blockShiftsUptoCard : Claim7 := { stood := { row := blockShiftsUptoRow, standIns := [], harness := (true, "6a075dd8059d4d0e2579a06455ba3964e544451e9c8aadb1883d0044cb9f148a"), looks := true }, kinds := [], alts := [], laidByText := true, laidKinds := [.data], laidTests := true, laidLooks := .later }
def BlockShiftsUptoCardSaid : Prop := Claim7.holds Tryd.pinned (.plain (OpenSpec.upto blockShiftsSpec)) blockShiftsUptoCard

/-- THE SECOND FORM's CARD OF 'honeycomblaw10.BlockParts'. -/
def blockPartsUptoCard : Claim7 := { stood := { row := blockPartsUptoRow, standIns := [], harness := (true, "6a075dd8059d4d0e2579a06455ba3964e544451e9c8aadb1883d0044cb9f148a"), looks := true }, kinds := [], alts := [], laidByText := true, laidKinds := [.data], laidTests := true, laidLooks := .later }
def BlockPartsUptoCardSaid : Prop := Claim7.holds Tryd.pinned (.plain (OpenSpec.upto blockPartsSpec)) blockPartsUptoCard

/-- THE SECOND FORM's CARD OF 'honeycomblaw11.LeafResults'. -/
def leafResultsUptoCard : Claim7 := { stood := { row := leafResultsUptoRow, standIns := [], harness := (true, "6a075dd8059d4d0e2579a06455ba3964e544451e9c8aadb1883d0044cb9f148a"), looks := true }, kinds := [], alts := [], laidByText := true, laidKinds := [.data], laidTests := true, laidLooks := .later }
def LeafResultsUptoCardSaid : Prop := Claim7.holds Tryd.pinned (.plain (OpenSpec.upto leafResultsSpec)) leafResultsUptoCard

/-- THE SECOND FORM's CARD OF 'honeycomblaw11.LeafAgain'. -/
def leafAgainUptoCard : Claim7 := { stood := { row := leafAgainUptoRow, standIns := [], harness := (true, "6a075dd8059d4d0e2579a06455ba3964e544451e9c8aadb1883d0044cb9f148a"), looks := true }, kinds := [], alts := [], laidByText := true, laidKinds := [.data], laidTests := true, laidLooks := .later }
def LeafAgainUptoCardSaid : Prop := Claim7.holds Tryd.pinned (.plain (OpenSpec.upto leafAgainSpec)) leafAgainUptoCard

/-- THE SECOND FORM's CARD OF 'honeycomblaw10.BlockSteps'. -/
def blockStepsUptoCard : Claim7 := { stood := { row := blockStepsUptoRow, standIns := [], harness := (true, "6a075dd8059d4d0e2579a06455ba3964e544451e9c8aadb1883d0044cb9f148a"), looks := true }, kinds := [], alts := [], laidByText := true, laidKinds := [.data, .handle], laidTests := true, laidLooks := .later }
def BlockStepsUptoCardSaid : Prop := Claim7.holds Tryd.pinned (.plain (OpenSpec.upto blockStepsSpec)) blockStepsUptoCard
end Rows
end Go.Proofs.YtieekbdododkkaaDoor
