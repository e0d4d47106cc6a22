/-
  DERIVED. GIVEN WITH THE SEED: THE CARDS: each row of YtpagadadfpmeaaaGreatDoorRows.lean that lists a variable, with what it lists TIED to the program's text (the seventh form; the later family's looks); each row that meets fmt, with fmt's text TOLD by the authors' own Lean function (tested against real Go, not proved from fmt's source: count such statements apart). THE CARD IS WHAT COUNTS. Prove the row's statement (the work); the ties are given (YtpagadadfpmeaaaGreatDoorTie.lean); close each card by the builder's one call (the guide's Derived/Test/ToyasCard.lean, 'card_holds'). Laid BY PROGRAM, IN A SANDBOX (cutbox-door.mjs). By AI agents, Wed Nov 11 2026. No macro, syntax, notation, axiom, sorry.
-/
import Derived.Test.YtpagadadfpmeaaaGreatDoorRows
import GoSem.ClaimSeven
namespace Go.Proofs.YtpagadadfpmeaaaGreatDoor
namespace Rows

/-- THE TIED CARD OF 'claplaw3.LensChecks'. -/
def lensChecksCard : Claim7 := { stood := { row := lensChecksRow, standIns := [], harness := (true, "4d32e395b52c39b3f0c646bf9034fd3a1f82d97c5ae07b7e881465357523bbf0"), looks := false }, kinds := [], alts := [], laidByText := true, laidKinds := [.data, .data, .data, .listed, .data], laidTests := true, laidLooks := .later }
def LensChecksCardSaid : Prop := Claim7.holds Tryz.pinned (.plain (OpenSpec.ofChange lensChecksSpec)) lensChecksCard

/-- THE SECOND FORM's CARD OF 'claplaw3.LensChecks'. -/
def lensChecksUptoCard : Claim7 := { stood := { row := lensChecksUptoRow, standIns := [], harness := (true, "4d32e395b52c39b3f0c646bf9034fd3a1f82d97c5ae07b7e881465357523bbf0"), looks := false }, kinds := [], alts := [], laidByText := true, laidKinds := [.data, .data, .data, .listed, .data], laidTests := true, laidLooks := .later }
def LensChecksUptoCardSaid : Prop := Claim7.holds Tryz.pinned (.plain (OpenSpec.upto lensChecksSpec)) lensChecksUptoCard
end Rows
end Go.Proofs.YtpagadadfpmeaaaGreatDoor
