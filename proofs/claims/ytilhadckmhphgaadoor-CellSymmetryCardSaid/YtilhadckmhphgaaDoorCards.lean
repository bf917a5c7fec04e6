/-
  DERIVED. GIVEN WITH THE SEED: THE CARDS: each row of YtilhadckmhphgaaDoorRows.lean that lists a variable, with what it lists TIED to the program's text (the seventh form; the later family's looks); each row that meets fmt, with fmt's text TOLD by the authors' own Lean function (tested against real Go, not proved from fmt's source: count such statements apart). THE CARD IS WHAT COUNTS. Prove the row's statement (the work); the ties are given (YtilhadckmhphgaaDoorTie.lean); close each card by the builder's one call (the guide's Derived/Test/ToyasCard.lean, 'card_holds'). Laid BY PROGRAM, IN A SANDBOX (cutbox-door.mjs). By AI agents, Wed Nov 11 2026. No macro, syntax, notation, axiom, sorry.
-/
import Derived.Test.YtilhadckmhphgaaDoorRows
import GoSem.ClaimSeven
namespace Go.Proofs.YtilhadckmhphgaaDoor
namespace Rows

/-- THE TIED CARD OF 'honeycomblaw03.CellSymmetry'. -/
def cellSymmetryCard : Claim7 := { stood := { row := cellSymmetryRow, standIns := [], harness := (true, "c8bcd4fbcb75cddbac7b822f402d3e2ed1e436d387a612c1ba7ce33e1915028e"), looks := false }, kinds := [], alts := [], laidByText := true, laidKinds := [.data], laidTests := true, laidLooks := .later }
def CellSymmetryCardSaid : Prop := Claim7.holds Tryd.pinned (.plain (OpenSpec.ofChange cellSymmetrySpec)) cellSymmetryCard

/-- THE TIED CARD OF 'honeycombtop.HoneycombTwelve'. -/
def honeycombTwelveCard : Claim7 := { stood := { row := honeycombTwelveRow, standIns := [], harness := (true, "c8bcd4fbcb75cddbac7b822f402d3e2ed1e436d387a612c1ba7ce33e1915028e"), looks := false }, kinds := [], alts := [], laidByText := true, laidKinds := [.data], laidTests := true, laidLooks := .later }
def HoneycombTwelveCardSaid : Prop := Claim7.holds Tryd.pinned (.plain (OpenSpec.ofChange honeycombTwelveSpec)) honeycombTwelveCard

/-- THE SECOND FORM's CARD OF 'honeycomblaw03.CellSymmetry'. -/
def cellSymmetryUptoCard : Claim7 := { stood := { row := cellSymmetryUptoRow, standIns := [], harness := (true, "c8bcd4fbcb75cddbac7b822f402d3e2ed1e436d387a612c1ba7ce33e1915028e"), looks := false }, kinds := [], alts := [], laidByText := true, laidKinds := [.data], laidTests := true, laidLooks := .later }
def CellSymmetryUptoCardSaid : Prop := Claim7.holds Tryd.pinned (.plain (OpenSpec.upto cellSymmetrySpec)) cellSymmetryUptoCard

/-- THE SECOND FORM's CARD OF 'honeycombtop.HoneycombTwelve'. -/
def honeycombTwelveUptoCard : Claim7 := { stood := { row := honeycombTwelveUptoRow, standIns := [], harness := (true, "c8bcd4fbcb75cddbac7b822f402d3e2ed1e436d387a612c1ba7ce33e1915028e"), looks := false }, kinds := [], alts := [], laidByText := true, laidKinds := [.data], laidTests := true, laidLooks := .later }
def HoneycombTwelveUptoCardSaid : Prop := Claim7.holds Tryd.pinned (.plain (OpenSpec.upto honeycombTwelveSpec)) honeycombTwelveUptoCard
end Rows
end Go.Proofs.YtilhadckmhphgaaDoor
