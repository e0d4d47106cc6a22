/-
  DERIVED. GIVEN WITH THE SEED: THE CARDS: each row of YtdhebofenihjmaaGreatDoorRows.lean that lists a variable, with what it lists TIED to the program's text (the seventh form; the later family's looks); each row that meets fmt, with fmt's text TOLD by the authors' own Lean function (tested against real Go, not proved from fmt's source: count such statements apart). THE CARD IS WHAT COUNTS. Prove the row's statement (the work); the ties are given (YtdhebofenihjmaaGreatDoorTie.lean); close each card by the builder's one call (the guide's Derived/Test/ToyasCard.lean, 'card_holds'). Laid BY PROGRAM, IN A SANDBOX (cutbox-door.mjs). By AI agents, Wed Nov 11 2026. No macro, syntax, notation, axiom, sorry.
-/
import Derived.Test.YtdhebofenihjmaaGreatDoorRows
import GoSem.ClaimSeven
namespace Go.Proofs.YtdhebofenihjmaaGreatDoor
namespace Rows

/-- THE TIED CARD OF 'claplaw3.NormThens'. -/
def normThensCard : Claim7 := { stood := { row := normThensRow, standIns := [], harness := (true, "7b7d54139e04526b960d6535a72cfffdfbf30c4063cceb31fe2d0829055fb6ca"), looks := false }, kinds := [], alts := [], laidByText := true, laidKinds := [.data, .data, .data, .listed, .data], laidTests := true, laidLooks := .later }
def NormThensCardSaid : Prop := Claim7.holds Tryz.pinned (.plain (OpenSpec.ofChange normThensSpec)) normThensCard

/-- THE SECOND FORM's CARD OF 'claplaw3.NormThens'. -/
def normThensUptoCard : Claim7 := { stood := { row := normThensUptoRow, standIns := [], harness := (true, "7b7d54139e04526b960d6535a72cfffdfbf30c4063cceb31fe2d0829055fb6ca"), looks := false }, kinds := [], alts := [], laidByText := true, laidKinds := [.data, .data, .data, .listed, .data], laidTests := true, laidLooks := .later }
def NormThensUptoCardSaid : Prop := Claim7.holds Tryz.pinned (.plain (OpenSpec.upto normThensSpec)) normThensUptoCard
end Rows
end Go.Proofs.YtdhebofenihjmaaGreatDoor
