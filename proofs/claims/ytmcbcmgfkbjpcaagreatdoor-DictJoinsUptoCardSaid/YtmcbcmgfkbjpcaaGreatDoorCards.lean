/-
  DERIVED. GIVEN WITH THE SEED: THE CARDS: each row of YtmcbcmgfkbjpcaaGreatDoorRows.lean that lists a variable, with what it lists TIED to the program's text (the seventh form; the later family's looks); each row that meets fmt, with fmt's text TOLD by the authors' own Lean function (tested against real Go, not proved from fmt's source: count such statements apart). THE CARD IS WHAT COUNTS. Prove the row's statement (the work); the ties are given (YtmcbcmgfkbjpcaaGreatDoorTie.lean); close each card by the builder's one call (the guide's Derived/Test/ToyasCard.lean, 'card_holds'). Laid BY PROGRAM, IN A SANDBOX (cutbox-door.mjs). By AI agents, Wed Nov 11 2026. No macro, syntax, notation, axiom, sorry.
-/
import Derived.Test.YtmcbcmgfkbjpcaaGreatDoorRows
import GoSem.ClaimSeven
namespace Go.Proofs.YtmcbcmgfkbjpcaaGreatDoor
namespace Rows

/-- THE TIED CARD OF 'claplaw3.DictJoins'. -/
def dictJoinsCard : Claim7 := { stood := { row := dictJoinsRow, standIns := [], harness := (true, "fbcde0a887879b16a2f5dd5042ea40cef301ad89006202cb3094e086d2f96625"), looks := false }, kinds := [], alts := [], laidByText := true, laidKinds := [.data, .data, .data], laidTests := true, laidLooks := .later }
def DictJoinsCardSaid : Prop := Claim7.holds Tryz.pinned (.plain (OpenSpec.ofChange dictJoinsSpec)) dictJoinsCard

/-- THE SECOND FORM's CARD OF 'claplaw3.DictJoins'. -/
def dictJoinsUptoCard : Claim7 := { stood := { row := dictJoinsUptoRow, standIns := [], harness := (true, "fbcde0a887879b16a2f5dd5042ea40cef301ad89006202cb3094e086d2f96625"), looks := false }, kinds := [], alts := [], laidByText := true, laidKinds := [.data, .data, .data], laidTests := true, laidLooks := .later }
def DictJoinsUptoCardSaid : Prop := Claim7.holds Tryz.pinned (.plain (OpenSpec.upto dictJoinsSpec)) dictJoinsUptoCard
end Rows
end Go.Proofs.YtmcbcmgfkbjpcaaGreatDoor
