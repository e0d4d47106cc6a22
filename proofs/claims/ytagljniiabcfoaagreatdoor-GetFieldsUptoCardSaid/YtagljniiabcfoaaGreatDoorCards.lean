/-
  DERIVED. GIVEN WITH THE SEED: THE CARDS: each row of YtagljniiabcfoaaGreatDoorRows.lean that lists a variable, with what it lists TIED to the program's text (the seventh form; the later family's looks); each row that meets fmt, with fmt's text TOLD by the authors' own Lean function (tested against real Go, not proved from fmt's source: count such statements apart). THE CARD IS WHAT COUNTS. Prove the row's statement (the work); the ties are given (YtagljniiabcfoaaGreatDoorTie.lean); close each card by the builder's one call (the guide's Derived/Test/ToyasCard.lean, 'card_holds'). Laid BY PROGRAM, IN A SANDBOX (cutbox-door.mjs). By AI agents, Wed Nov 11 2026. No macro, syntax, notation, axiom, sorry.
-/
import Derived.Test.YtagljniiabcfoaaGreatDoorRows
import GoSem.ClaimSeven
namespace Go.Proofs.YtagljniiabcfoaaGreatDoor
namespace Rows

/-- THE TIED CARD OF 'claplaw3.GetFields'. -/
def getFieldsCard : Claim7 := { stood := { row := getFieldsRow, standIns := [], harness := (true, "6e1adbd2e43183d368bc9f9a06c2fe67dd9dcc3ff2bae6fd8e8ef43e3473f95f"), looks := true }, kinds := [], alts := [], laidByText := true, laidKinds := [.data, .data, .data, .sentinel, .sentinel], laidTests := true, laidLooks := .later }
def GetFieldsCardSaid : Prop := Claim7.holds Tryz.pinned (.plain (OpenSpec.ofChange getFieldsSpec)) getFieldsCard

/-- THE SECOND FORM's CARD OF 'claplaw3.GetFields'. -/
def getFieldsUptoCard : Claim7 := { stood := { row := getFieldsUptoRow, standIns := [], harness := (true, "6e1adbd2e43183d368bc9f9a06c2fe67dd9dcc3ff2bae6fd8e8ef43e3473f95f"), looks := true }, kinds := [], alts := [], laidByText := true, laidKinds := [.data, .data, .data, .sentinel, .sentinel], laidTests := true, laidLooks := .later }
def GetFieldsUptoCardSaid : Prop := Claim7.holds Tryz.pinned (.plain (OpenSpec.upto getFieldsSpec)) getFieldsUptoCard
end Rows
end Go.Proofs.YtagljniiabcfoaaGreatDoor
