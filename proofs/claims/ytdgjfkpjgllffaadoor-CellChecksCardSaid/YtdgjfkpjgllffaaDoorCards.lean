/-
  DERIVED. GIVEN WITH THE SEED: THE CARDS: each row of YtdgjfkpjgllffaaDoorRows.lean that lists a variable, with what it lists TIED to the program's text (the seventh form; the later family's looks); each row that meets fmt, with fmt's text TOLD by the authors' own Lean function (tested against real Go, not proved from fmt's source: count such statements apart). THE CARD IS WHAT COUNTS. Prove the row's statement (the work); the ties are given (YtdgjfkpjgllffaaDoorTie.lean); close each card by the builder's one call (the guide's Derived/Test/ToyasCard.lean, 'card_holds'). Laid BY PROGRAM, IN A SANDBOX (cutbox-door.mjs). By AI agents, Wed Nov 11 2026. No macro, syntax, notation, axiom, sorry.
-/
import Derived.Test.YtdgjfkpjgllffaaDoorRows
import GoSem.ClaimSeven
namespace Go.Proofs.YtdgjfkpjgllffaaDoor
namespace Rows

/-- THE TIED CARD OF 'honeycomblaw03.CellMutual'. -/
def cellMutualCard : Claim7 := { stood := { row := cellMutualRow, standIns := [], harness := (true, "6ab5f34f6131715041131eaf644bb4492404820ee8684525d90ebb45a37ae879"), looks := true }, kinds := [], alts := [], laidByText := true, laidKinds := [.data], laidTests := true, laidLooks := .later }
def CellMutualCardSaid : Prop := Claim7.holds Tryd.pinned (.plain (OpenSpec.ofChange cellMutualSpec)) cellMutualCard

/-- THE TIED CARD OF 'honeycomblaw03.CellEdges'. -/
def cellEdgesCard : Claim7 := { stood := { row := cellEdgesRow, standIns := [], harness := (true, "6ab5f34f6131715041131eaf644bb4492404820ee8684525d90ebb45a37ae879"), looks := true }, kinds := [], alts := [], laidByText := true, laidKinds := [.data], laidTests := true, laidLooks := .later }
def CellEdgesCardSaid : Prop := Claim7.holds Tryd.pinned (.plain (OpenSpec.ofChange cellEdgesSpec)) cellEdgesCard

/-- THE TIED CARD OF 'honeycomblaw03.CellShifts'. -/
def cellShiftsCard : Claim7 := { stood := { row := cellShiftsRow, standIns := [], harness := (true, "6ab5f34f6131715041131eaf644bb4492404820ee8684525d90ebb45a37ae879"), looks := true }, kinds := [], alts := [], laidByText := true, laidKinds := [.data], laidTests := true, laidLooks := .later }
def CellShiftsCardSaid : Prop := Claim7.holds Tryd.pinned (.plain (OpenSpec.ofChange cellShiftsSpec)) cellShiftsCard

/-- THE TIED CARD OF 'honeycomblaw03.CellSymmetry'. -/
def cellSymmetryCard : Claim7 := { stood := { row := cellSymmetryRow, standIns := [], harness := (true, "6ab5f34f6131715041131eaf644bb4492404820ee8684525d90ebb45a37ae879"), looks := true }, kinds := [], alts := [], laidByText := true, laidKinds := [.data], laidTests := true, laidLooks := .later }
def CellSymmetryCardSaid : Prop := Claim7.holds Tryd.pinned (.plain (OpenSpec.ofChange cellSymmetrySpec)) cellSymmetryCard

/-- THE TIED CARD OF 'honeycombtop.HoneycombTwelve'. -/
def honeycombTwelveCard : Claim7 := { stood := { row := honeycombTwelveRow, standIns := [], harness := (true, "6ab5f34f6131715041131eaf644bb4492404820ee8684525d90ebb45a37ae879"), looks := true }, kinds := [], alts := [], laidByText := true, laidKinds := [.data], laidTests := true, laidLooks := .later }
def HoneycombTwelveCardSaid : Prop := Claim7.holds Tryd.pinned (.plain (OpenSpec.ofChange honeycombTwelveSpec)) honeycombTwelveCard

/-- THE TIED CARD OF 'honeycombtop.HoneycombHalfTurn'. -/
def honeycombHalfTurnCard : Claim7 := { stood := { row := honeycombHalfTurnRow, standIns := [], harness := (true, "6ab5f34f6131715041131eaf644bb4492404820ee8684525d90ebb45a37ae879"), looks := true }, kinds := [], alts := [], laidByText := true, laidKinds := [.data], laidTests := true, laidLooks := .later }
def HoneycombHalfTurnCardSaid : Prop := Claim7.holds Tryd.pinned (.plain (OpenSpec.ofChange honeycombHalfTurnSpec)) honeycombHalfTurnCard

/-- THE TIED CARD OF 'honeycomblaw03.CellChecks'. -/
def cellChecksCard : Claim7 := { stood := { row := cellChecksRow, standIns := [], harness := (true, "6ab5f34f6131715041131eaf644bb4492404820ee8684525d90ebb45a37ae879"), looks := true }, kinds := [], alts := [], laidByText := true, laidKinds := [.data, .handle], laidTests := true, laidLooks := .later }
def CellChecksCardSaid : Prop := Claim7.holds Tryd.pinned (.plain (OpenSpec.ofChange cellChecksSpec)) cellChecksCard

/-- THE TIED CARD OF 'honeycomblaw03.CellBeside'. -/
def cellBesideCard : Claim7 := { stood := { row := cellBesideRow, standIns := [], harness := (true, "6ab5f34f6131715041131eaf644bb4492404820ee8684525d90ebb45a37ae879"), looks := true }, kinds := [], alts := [], laidByText := true, laidKinds := [.data, .handle], laidTests := true, laidLooks := .later }
def CellBesideCardSaid : Prop := Claim7.holds Tryd.pinned (.plain (OpenSpec.ofChange cellBesideSpec)) cellBesideCard

/-- THE TIED CARD OF 'honeycomblaw03.CellTurns'. -/
def cellTurnsCard : Claim7 := { stood := { row := cellTurnsRow, standIns := [], harness := (true, "6ab5f34f6131715041131eaf644bb4492404820ee8684525d90ebb45a37ae879"), looks := true }, kinds := [], alts := [], laidByText := true, laidKinds := [.data, .handle], laidTests := true, laidLooks := .later }
def CellTurnsCardSaid : Prop := Claim7.holds Tryd.pinned (.plain (OpenSpec.ofChange cellTurnsSpec)) cellTurnsCard

/-- THE SECOND FORM's CARD OF 'honeycomblaw03.CellMutual'. -/
def cellMutualUptoCard : Claim7 := { stood := { row := cellMutualUptoRow, standIns := [], harness := (true, "6ab5f34f6131715041131eaf644bb4492404820ee8684525d90ebb45a37ae879"), looks := true }, kinds := [], alts := [], laidByText := true, laidKinds := [.data], laidTests := true, laidLooks := .later }
def CellMutualUptoCardSaid : Prop := Claim7.holds Tryd.pinned (.plain (OpenSpec.upto cellMutualSpec)) cellMutualUptoCard

/-- THE SECOND FORM's CARD OF 'honeycomblaw03.CellEdges'. -/
def cellEdgesUptoCard : Claim7 := { stood := { row := cellEdgesUptoRow, standIns := [], harness := (true, "6ab5f34f6131715041131eaf644bb4492404820ee8684525d90ebb45a37ae879"), looks := true }, kinds := [], alts := [], laidByText := true, laidKinds := [.data], laidTests := true, laidLooks := .later }
def CellEdgesUptoCardSaid : Prop := Claim7.holds Tryd.pinned (.plain (OpenSpec.upto cellEdgesSpec)) cellEdgesUptoCard

/-- THE SECOND FORM's CARD OF 'honeycomblaw03.CellShifts'. -/
def cellShiftsUptoCard : Claim7 := { stood := { row := cellShiftsUptoRow, standIns := [], harness := (true, "6ab5f34f6131715041131eaf644bb4492404820ee8684525d90ebb45a37ae879"), looks := true }, kinds := [], alts := [], laidByText := true, laidKinds := [.data], laidTests := true, laidLooks := .later }
def CellShiftsUptoCardSaid : Prop := Claim7.holds Tryd.pinned (.plain (OpenSpec.upto cellShiftsSpec)) cellShiftsUptoCard

/-- THE SECOND FORM's CARD OF 'honeycomblaw03.CellSymmetry'. -/
def cellSymmetryUptoCard : Claim7 := { stood := { row := cellSymmetryUptoRow, standIns := [], harness := (true, "6ab5f34f6131715041131eaf644bb4492404820ee8684525d90ebb45a37ae879"), looks := true }, kinds := [], alts := [], laidByText := true, laidKinds := [.data], laidTests := true, laidLooks := .later }
def CellSymmetryUptoCardSaid : Prop := Claim7.holds Tryd.pinned (.plain (OpenSpec.upto cellSymmetrySpec)) cellSymmetryUptoCard

/-- THE SECOND FORM's CARD OF 'honeycombtop.HoneycombTwelve'. -/
def honeycombTwelveUptoCard : Claim7 := { stood := { row := honeycombTwelveUptoRow, standIns := [], harness := (true, "6ab5f34f6131715041131eaf644bb4492404820ee8684525d90ebb45a37ae879"), looks := true }, kinds := [], alts := [], laidByText := true, laidKinds := [.data], laidTests := true, laidLooks := .later }
def HoneycombTwelveUptoCardSaid : Prop := Claim7.holds Tryd.pinned (.plain (OpenSpec.upto honeycombTwelveSpec)) honeycombTwelveUptoCard

/-- THE SECOND FORM's CARD OF 'honeycombtop.HoneycombHalfTurn'. -/
def honeycombHalfTurnUptoCard : Claim7 := { stood := { row := honeycombHalfTurnUptoRow, standIns := [], harness := (true, "6ab5f34f6131715041131eaf644bb4492404820ee8684525d90ebb45a37ae879"), looks := true }, kinds := [], alts := [], laidByText := true, laidKinds := [.data], laidTests := true, laidLooks := .later }
def HoneycombHalfTurnUptoCardSaid : Prop := Claim7.holds Tryd.pinned (.plain (OpenSpec.upto honeycombHalfTurnSpec)) honeycombHalfTurnUptoCard

/-- THE SECOND FORM's CARD OF 'honeycomblaw03.CellChecks'. -/
def cellChecksUptoCard : Claim7 := { stood := { row := cellChecksUptoRow, standIns := [], harness := (true, "6ab5f34f6131715041131eaf644bb4492404820ee8684525d90ebb45a37ae879"), looks := true }, kinds := [], alts := [], laidByText := true, laidKinds := [.data, .handle], laidTests := true, laidLooks := .later }
def CellChecksUptoCardSaid : Prop := Claim7.holds Tryd.pinned (.plain (OpenSpec.upto cellChecksSpec)) cellChecksUptoCard

/-- THE SECOND FORM's CARD OF 'honeycomblaw03.CellBeside'. -/
def cellBesideUptoCard : Claim7 := { stood := { row := cellBesideUptoRow, standIns := [], harness := (true, "6ab5f34f6131715041131eaf644bb4492404820ee8684525d90ebb45a37ae879"), looks := true }, kinds := [], alts := [], laidByText := true, laidKinds := [.data, .handle], laidTests := true, laidLooks := .later }
def CellBesideUptoCardSaid : Prop := Claim7.holds Tryd.pinned (.plain (OpenSpec.upto cellBesideSpec)) cellBesideUptoCard

/-- THE SECOND FORM's CARD OF 'honeycomblaw03.CellTurns'. -/
def cellTurnsUptoCard : Claim7 := { stood := { row := cellTurnsUptoRow, standIns := [], harness := (true, "6ab5f34f6131715041131eaf644bb4492404820ee8684525d90ebb45a37ae879"), looks := true }, kinds := [], alts := [], laidByText := true, laidKinds := [.data, .handle], laidTests := true, laidLooks := .later }
def CellTurnsUptoCardSaid : Prop := Claim7.holds Tryd.pinned (.plain (OpenSpec.upto cellTurnsSpec)) cellTurnsUptoCard
end Rows
end Go.Proofs.YtdgjfkpjgllffaaDoor
