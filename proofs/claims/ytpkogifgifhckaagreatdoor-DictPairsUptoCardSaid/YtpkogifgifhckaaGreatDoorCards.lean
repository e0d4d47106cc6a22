/-
  DERIVED. GIVEN WITH THE SEED: THE CARDS: each row of YtpkogifgifhckaaGreatDoorRows.lean that lists a variable, with what it lists TIED to the program's text (the seventh form; the later family's looks); each row that meets fmt, with fmt's text TOLD by the authors' own Lean function (tested against real Go, not proved from fmt's source: count such statements apart). THE CARD IS WHAT COUNTS. Prove the row's statement (the work); the ties are given (YtpkogifgifhckaaGreatDoorTie.lean); close each card by the builder's one call (the guide's Derived/Test/ToyasCard.lean, 'card_holds'). Laid BY PROGRAM, IN A SANDBOX (cutbox-door.mjs). By AI agents, Wed Nov 11 2026. No macro, syntax, notation, axiom, sorry.
-/
import Derived.Test.YtpkogifgifhckaaGreatDoorRows
import GoSem.ClaimSeven
namespace Go.Proofs.YtpkogifgifhckaaGreatDoor
namespace Rows

/-- THE TIED CARD OF 'claplaw3.DictPairs'. -/
def dictPairsCard : Claim7 := { stood := { row := dictPairsRow, standIns := [], harness := (true, "43e7a23d4b6191550e9e80cd6a91b67bf1ccd4d73e7a6ccd2d8e040f6c6e9012"), looks := false }, kinds := [], alts := [], laidByText := true, laidKinds := [.data, .data, .data], laidTests := true, laidLooks := .later }
def DictPairsCardSaid : Prop := Claim7.holds Tryz.pinned (.plain (OpenSpec.ofChange dictPairsSpec)) dictPairsCard

/-- THE SECOND FORM's CARD OF 'claplaw3.DictPairs'. -/
def dictPairsUptoCard : Claim7 := { stood := { row := dictPairsUptoRow, standIns := [], harness := (true, "43e7a23d4b6191550e9e80cd6a91b67bf1ccd4d73e7a6ccd2d8e040f6c6e9012"), looks := false }, kinds := [], alts := [], laidByText := true, laidKinds := [.data, .data, .data], laidTests := true, laidLooks := .later }
def DictPairsUptoCardSaid : Prop := Claim7.holds Tryz.pinned (.plain (OpenSpec.upto dictPairsSpec)) dictPairsUptoCard
end Rows
end Go.Proofs.YtpkogifgifhckaaGreatDoor
