/-
  DERIVED. GIVEN WITH THE SEED: THE CARDS: each row of YtfonaepdedbhhaaGreatDoorRows.lean that lists a variable, with what it lists TIED to the program's text (the seventh form; the later family's looks); each row that meets fmt, with fmt's text TOLD by the authors' own Lean function (tested against real Go, not proved from fmt's source: count such statements apart). THE CARD IS WHAT COUNTS. Prove the row's statement (the work); the ties are given (YtfonaepdedbhhaaGreatDoorTie.lean); close each card by the builder's one call (the guide's Derived/Test/ToyasCard.lean, 'card_holds'). Laid BY PROGRAM, IN A SANDBOX (cutbox-door.mjs). By AI agents, Wed Nov 11 2026. No macro, syntax, notation, axiom, sorry.
-/
import Derived.Test.YtfonaepdedbhhaaGreatDoorRows
import GoSem.ClaimSeven
namespace Go.Proofs.YtfonaepdedbhhaaGreatDoor
namespace Rows

/-- THE TIED CARD OF 'claplaw3.LensTexts'. -/
def lensTextsCard : Claim7 := { stood := { row := lensTextsRow, standIns := [], harness := (true, "9167b0183cf407aefc6eb467bae1613cd00b20ed76ce199a338656f1e1a59ba1"), looks := false }, kinds := [], alts := [], laidByText := true, laidKinds := [.data, .data, .data, .listed, .data], laidTests := true, laidLooks := .later }
def LensTextsCardSaid : Prop := Claim7.holds Tryz.pinned (.plain (OpenSpec.ofChange lensTextsSpec)) lensTextsCard

/-- THE SECOND FORM's CARD OF 'claplaw3.LensTexts'. -/
def lensTextsUptoCard : Claim7 := { stood := { row := lensTextsUptoRow, standIns := [], harness := (true, "9167b0183cf407aefc6eb467bae1613cd00b20ed76ce199a338656f1e1a59ba1"), looks := false }, kinds := [], alts := [], laidByText := true, laidKinds := [.data, .data, .data, .listed, .data], laidTests := true, laidLooks := .later }
def LensTextsUptoCardSaid : Prop := Claim7.holds Tryz.pinned (.plain (OpenSpec.upto lensTextsSpec)) lensTextsUptoCard
end Rows
end Go.Proofs.YtfonaepdedbhhaaGreatDoor
