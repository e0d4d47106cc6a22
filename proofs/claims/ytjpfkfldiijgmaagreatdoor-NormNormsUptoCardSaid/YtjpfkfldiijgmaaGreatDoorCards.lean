/-
  DERIVED. GIVEN WITH THE SEED: THE CARDS: each row of YtjpfkfldiijgmaaGreatDoorRows.lean that lists a variable, with what it lists TIED to the program's text (the seventh form; the later family's looks); each row that meets fmt, with fmt's text TOLD by the authors' own Lean function (tested against real Go, not proved from fmt's source: count such statements apart). THE CARD IS WHAT COUNTS. Prove the row's statement (the work); the ties are given (YtjpfkfldiijgmaaGreatDoorTie.lean); close each card by the builder's one call (the guide's Derived/Test/ToyasCard.lean, 'card_holds'). Laid BY PROGRAM, IN A SANDBOX (cutbox-door.mjs). By AI agents, Wed Nov 11 2026. No macro, syntax, notation, axiom, sorry.
-/
import Derived.Test.YtjpfkfldiijgmaaGreatDoorRows
import GoSem.ClaimSeven
namespace Go.Proofs.YtjpfkfldiijgmaaGreatDoor
namespace Rows

/-- THE TIED CARD OF 'claplaw3.NormNorms'. -/
def normNormsCard : Claim7 := { stood := { row := normNormsRow, standIns := [], harness := (true, "f2ffecfbf187ca3fc3ed6a874620da9b8b5cc82f3163e23d8a5e615a5aefb991"), looks := false }, kinds := [], alts := [], laidByText := true, laidKinds := [.data, .data, .data, .listed, .data], laidTests := true, laidLooks := .later }
def NormNormsCardSaid : Prop := Claim7.holds Tryz.pinned (.plain (OpenSpec.ofChange normNormsSpec)) normNormsCard

/-- THE SECOND FORM's CARD OF 'claplaw3.NormNorms'. -/
def normNormsUptoCard : Claim7 := { stood := { row := normNormsUptoRow, standIns := [], harness := (true, "f2ffecfbf187ca3fc3ed6a874620da9b8b5cc82f3163e23d8a5e615a5aefb991"), looks := false }, kinds := [], alts := [], laidByText := true, laidKinds := [.data, .data, .data, .listed, .data], laidTests := true, laidLooks := .later }
def NormNormsUptoCardSaid : Prop := Claim7.holds Tryz.pinned (.plain (OpenSpec.upto normNormsSpec)) normNormsUptoCard
end Rows
end Go.Proofs.YtjpfkfldiijgmaaGreatDoor
