/-
  DERIVED. GIVEN WITH THE SEED: THE CARDS: each row of YtaeenefdbahfoaaDoorRows.lean that lists a variable, with what it lists TIED to the program's text (the seventh form; the later family's looks); each row that meets fmt, with fmt's text TOLD by the authors' own Lean function (tested against real Go, not proved from fmt's source: count such statements apart). THE CARD IS WHAT COUNTS. Prove the row's statement (the work); the ties are given (YtaeenefdbahfoaaDoorTie.lean); close each card by the builder's one call (the guide's Derived/Test/ToyasCard.lean, 'card_holds'). Laid BY PROGRAM, IN A SANDBOX (cutbox-door.mjs). By AI agents, Wed Nov 11 2026. No macro, syntax, notation, axiom, sorry.
-/
import Derived.Test.YtaeenefdbahfoaaDoorRows
import GoSem.ClaimSeven
namespace Go.Proofs.YtaeenefdbahfoaaDoor
namespace Rows

/-- THE TIED CARD OF 'honeycomblaw07.IsoTurned'. -/
def isoTurnedCard : Claim7 := { stood := { row := isoTurnedRow, standIns := [], harness := (true, "5343993735a6796f50623d127ce6b9207b28942770deceed6d4303fa040c3cfe"), looks := true }, kinds := [], alts := [], laidByText := true, laidKinds := [.data], laidTests := true, laidLooks := .later }
def IsoTurnedCardSaid : Prop := Claim7.holds Tryd.pinned (.plain (OpenSpec.ofChange isoTurnedSpec)) isoTurnedCard

/-- THE TIED CARD OF 'honeycomblaw08.FlatSteps'. -/
def flatStepsCard : Claim7 := { stood := { row := flatStepsRow, standIns := [], harness := (true, "5343993735a6796f50623d127ce6b9207b28942770deceed6d4303fa040c3cfe"), looks := true }, kinds := [], alts := [], laidByText := true, laidKinds := [.data], laidTests := true, laidLooks := .later }
def FlatStepsCardSaid : Prop := Claim7.holds Tryd.pinned (.plain (OpenSpec.ofChange flatStepsSpec)) flatStepsCard

/-- THE TIED CARD OF 'honeycomblaw08.FlatOne'. -/
def flatOneCard : Claim7 := { stood := { row := flatOneRow, standIns := [], harness := (true, "5343993735a6796f50623d127ce6b9207b28942770deceed6d4303fa040c3cfe"), looks := true }, kinds := [], alts := [], laidByText := true, laidKinds := [.data], laidTests := true, laidLooks := .later }
def FlatOneCardSaid : Prop := Claim7.holds Tryd.pinned (.plain (OpenSpec.ofChange flatOneSpec)) flatOneCard

/-- THE TIED CARD OF 'honeycomblaw08.FlatFar'. -/
def flatFarCard : Claim7 := { stood := { row := flatFarRow, standIns := [], harness := (true, "5343993735a6796f50623d127ce6b9207b28942770deceed6d4303fa040c3cfe"), looks := true }, kinds := [], alts := [], laidByText := true, laidKinds := [.data], laidTests := true, laidLooks := .later }
def FlatFarCardSaid : Prop := Claim7.holds Tryd.pinned (.plain (OpenSpec.ofChange flatFarSpec)) flatFarCard

/-- THE TIED CARD OF 'honeycomblaw08.FlatShift'. -/
def flatShiftCard : Claim7 := { stood := { row := flatShiftRow, standIns := [], harness := (true, "5343993735a6796f50623d127ce6b9207b28942770deceed6d4303fa040c3cfe"), looks := true }, kinds := [], alts := [], laidByText := true, laidKinds := [.data], laidTests := true, laidLooks := .later }
def FlatShiftCardSaid : Prop := Claim7.holds Tryd.pinned (.plain (OpenSpec.ofChange flatShiftSpec)) flatShiftCard

/-- THE TIED CARD OF 'honeycomblaw07.IsoCommutes'. -/
def isoCommutesCard : Claim7 := { stood := { row := isoCommutesRow, standIns := [], harness := (true, "5343993735a6796f50623d127ce6b9207b28942770deceed6d4303fa040c3cfe"), looks := true }, kinds := [], alts := [], laidByText := true, laidKinds := [.data], laidTests := true, laidLooks := .later }
def IsoCommutesCardSaid : Prop := Claim7.holds Tryd.pinned (.plain (OpenSpec.ofChange isoCommutesSpec)) isoCommutesCard

/-- THE TIED CARD OF 'honeycomblaw07.IsoWitness'. -/
def isoWitnessCard : Claim7 := { stood := { row := isoWitnessRow, standIns := [], harness := (true, "5343993735a6796f50623d127ce6b9207b28942770deceed6d4303fa040c3cfe"), looks := true }, kinds := [], alts := [], laidByText := true, laidKinds := [.data], laidTests := true, laidLooks := .later }
def IsoWitnessCardSaid : Prop := Claim7.holds Tryd.pinned (.plain (OpenSpec.ofChange isoWitnessSpec)) isoWitnessCard

/-- THE TIED CARD OF 'honeycomblaw07.IsoGroup'. -/
def isoGroupCard : Claim7 := { stood := { row := isoGroupRow, standIns := [], harness := (true, "5343993735a6796f50623d127ce6b9207b28942770deceed6d4303fa040c3cfe"), looks := true }, kinds := [], alts := [], laidByText := true, laidKinds := [.data], laidTests := true, laidLooks := .later }
def IsoGroupCardSaid : Prop := Claim7.holds Tryd.pinned (.plain (OpenSpec.ofChange isoGroupSpec)) isoGroupCard

/-- THE TIED CARD OF 'honeycomblaw07.IsoKeeps'. -/
def isoKeepsCard : Claim7 := { stood := { row := isoKeepsRow, standIns := [], harness := (true, "5343993735a6796f50623d127ce6b9207b28942770deceed6d4303fa040c3cfe"), looks := true }, kinds := [], alts := [], laidByText := true, laidKinds := [.data, .handle], laidTests := true, laidLooks := .later }
def IsoKeepsCardSaid : Prop := Claim7.holds Tryd.pinned (.plain (OpenSpec.ofChange isoKeepsSpec)) isoKeepsCard

/-- THE TIED CARD OF 'honeycomblaw08.FlatRefuses'. -/
def flatRefusesCard : Claim7 := { stood := { row := flatRefusesRow, standIns := [], harness := (true, "5343993735a6796f50623d127ce6b9207b28942770deceed6d4303fa040c3cfe"), looks := true }, kinds := [], alts := [], laidByText := true, laidKinds := [.data, .handle], laidTests := true, laidLooks := .later }
def FlatRefusesCardSaid : Prop := Claim7.holds Tryd.pinned (.plain (OpenSpec.ofChange flatRefusesSpec)) flatRefusesCard

/-- THE SECOND FORM's CARD OF 'honeycomblaw07.IsoTurned'. -/
def isoTurnedUptoCard : Claim7 := { stood := { row := isoTurnedUptoRow, standIns := [], harness := (true, "5343993735a6796f50623d127ce6b9207b28942770deceed6d4303fa040c3cfe"), looks := true }, kinds := [], alts := [], laidByText := true, laidKinds := [.data], laidTests := true, laidLooks := .later }
def IsoTurnedUptoCardSaid : Prop := Claim7.holds Tryd.pinned (.plain (OpenSpec.upto isoTurnedSpec)) isoTurnedUptoCard

/-- THE SECOND FORM's CARD OF 'honeycomblaw08.FlatSteps'. -/
def flatStepsUptoCard : Claim7 := { stood := { row := flatStepsUptoRow, standIns := [], harness := (true, "5343993735a6796f50623d127ce6b9207b28942770deceed6d4303fa040c3cfe"), looks := true }, kinds := [], alts := [], laidByText := true, laidKinds := [.data], laidTests := true, laidLooks := .later }
def FlatStepsUptoCardSaid : Prop := Claim7.holds Tryd.pinned (.plain (OpenSpec.upto flatStepsSpec)) flatStepsUptoCard

/-- THE SECOND FORM's CARD OF 'honeycomblaw08.FlatOne'. -/
def flatOneUptoCard : Claim7 := { stood := { row := flatOneUptoRow, standIns := [], harness := (true, "5343993735a6796f50623d127ce6b9207b28942770deceed6d4303fa040c3cfe"), looks := true }, kinds := [], alts := [], laidByText := true, laidKinds := [.data], laidTests := true, laidLooks := .later }
def FlatOneUptoCardSaid : Prop := Claim7.holds Tryd.pinned (.plain (OpenSpec.upto flatOneSpec)) flatOneUptoCard

/-- THE SECOND FORM's CARD OF 'honeycomblaw08.FlatFar'. -/
def flatFarUptoCard : Claim7 := { stood := { row := flatFarUptoRow, standIns := [], harness := (true, "5343993735a6796f50623d127ce6b9207b28942770deceed6d4303fa040c3cfe"), looks := true }, kinds := [], alts := [], laidByText := true, laidKinds := [.data], laidTests := true, laidLooks := .later }
def FlatFarUptoCardSaid : Prop := Claim7.holds Tryd.pinned (.plain (OpenSpec.upto flatFarSpec)) flatFarUptoCard

/-- THE SECOND FORM's CARD OF 'honeycomblaw08.FlatShift'. -/
def flatShiftUptoCard : Claim7 := { stood := { row := flatShiftUptoRow, standIns := [], harness := (true, "5343993735a6796f50623d127ce6b9207b28942770deceed6d4303fa040c3cfe"), looks := true }, kinds := [], alts := [], laidByText := true, laidKinds := [.data], laidTests := true, laidLooks := .later }
def FlatShiftUptoCardSaid : Prop := Claim7.holds Tryd.pinned (.plain (OpenSpec.upto flatShiftSpec)) flatShiftUptoCard

/-- THE SECOND FORM's CARD OF 'honeycomblaw07.IsoCommutes'. -/
def isoCommutesUptoCard : Claim7 := { stood := { row := isoCommutesUptoRow, standIns := [], harness := (true, "5343993735a6796f50623d127ce6b9207b28942770deceed6d4303fa040c3cfe"), looks := true }, kinds := [], alts := [], laidByText := true, laidKinds := [.data], laidTests := true, laidLooks := .later }
def IsoCommutesUptoCardSaid : Prop := Claim7.holds Tryd.pinned (.plain (OpenSpec.upto isoCommutesSpec)) isoCommutesUptoCard

/-- THE SECOND FORM's CARD OF 'honeycomblaw07.IsoWitness'. -/
def isoWitnessUptoCard : Claim7 := { stood := { row := isoWitnessUptoRow, standIns := [], harness := (true, "5343993735a6796f50623d127ce6b9207b28942770deceed6d4303fa040c3cfe"), looks := true }, kinds := [], alts := [], laidByText := true, laidKinds := [.data], laidTests := true, laidLooks := .later }
def IsoWitnessUptoCardSaid : Prop := Claim7.holds Tryd.pinned (.plain (OpenSpec.upto isoWitnessSpec)) isoWitnessUptoCard

/-- THE SECOND FORM's CARD OF 'honeycomblaw07.IsoGroup'. -/
def isoGroupUptoCard : Claim7 := { stood := { row := isoGroupUptoRow, standIns := [], harness := (true, "5343993735a6796f50623d127ce6b9207b28942770deceed6d4303fa040c3cfe"), looks := true }, kinds := [], alts := [], laidByText := true, laidKinds := [.data], laidTests := true, laidLooks := .later }
def IsoGroupUptoCardSaid : Prop := Claim7.holds Tryd.pinned (.plain (OpenSpec.upto isoGroupSpec)) isoGroupUptoCard

/-- THE SECOND FORM's CARD OF 'honeycomblaw07.IsoKeeps'. -/
def isoKeepsUptoCard : Claim7 := { stood := { row := isoKeepsUptoRow, standIns := [], harness := (true, "5343993735a6796f50623d127ce6b9207b28942770deceed6d4303fa040c3cfe"), looks := true }, kinds := [], alts := [], laidByText := true, laidKinds := [.data, .handle], laidTests := true, laidLooks := .later }
def IsoKeepsUptoCardSaid : Prop := Claim7.holds Tryd.pinned (.plain (OpenSpec.upto isoKeepsSpec)) isoKeepsUptoCard

/-- THE SECOND FORM's CARD OF 'honeycomblaw08.FlatRefuses'. -/
def flatRefusesUptoCard : Claim7 := { stood := { row := flatRefusesUptoRow, standIns := [], harness := (true, "5343993735a6796f50623d127ce6b9207b28942770deceed6d4303fa040c3cfe"), looks := true }, kinds := [], alts := [], laidByText := true, laidKinds := [.data, .handle], laidTests := true, laidLooks := .later }
def FlatRefusesUptoCardSaid : Prop := Claim7.holds Tryd.pinned (.plain (OpenSpec.upto flatRefusesSpec)) flatRefusesUptoCard
end Rows
end Go.Proofs.YtaeenefdbahfoaaDoor
