/-
  DERIVED. GIVEN WITH THE SEED: THE CARDS: each row of YtgiibefjiloafaaGreatDoorRows.lean that lists a variable, with what it lists TIED to the program's text (the seventh form; the later family's looks); each row that meets fmt, with fmt's text TOLD by the authors' own Lean function (tested against real Go, not proved from fmt's source: count such statements apart). THE CARD IS WHAT COUNTS. Prove the row's statement (the work); the ties are given (YtgiibefjiloafaaGreatDoorTie.lean); close each card by the builder's one call (the guide's Derived/Test/ToyasCard.lean, 'card_holds'). Laid BY PROGRAM, IN A SANDBOX (cutbox-door.mjs). By AI agents, Wed Nov 11 2026. No macro, syntax, notation, axiom, sorry.
-/
import Derived.Test.YtgiibefjiloafaaGreatDoorRows
import GoSem.ClaimSeven
namespace Go.Proofs.YtgiibefjiloafaaGreatDoor
namespace Rows

/-- THE TIED CARD OF 'claplaw3.TypingHas'. -/
def typingHasCard : Claim7 := { stood := { row := typingHasRow, standIns := [], harness := (true, "6c56ddeb1677b6e53da50e1a56b9da1dc1e6030b896ed91c2b87fb9ebd74e29e"), looks := false }, kinds := [], alts := [], laidByText := true, laidKinds := [.data, .data, .data], laidTests := true, laidLooks := .later }
def TypingHasCardSaid : Prop := Claim7.holds Tryz.pinned (.plain (OpenSpec.ofChange typingHasSpec)) typingHasCard

/-- THE SECOND FORM's CARD OF 'claplaw3.TypingHas'. -/
def typingHasUptoCard : Claim7 := { stood := { row := typingHasUptoRow, standIns := [], harness := (true, "6c56ddeb1677b6e53da50e1a56b9da1dc1e6030b896ed91c2b87fb9ebd74e29e"), looks := false }, kinds := [], alts := [], laidByText := true, laidKinds := [.data, .data, .data], laidTests := true, laidLooks := .later }
def TypingHasUptoCardSaid : Prop := Claim7.holds Tryz.pinned (.plain (OpenSpec.upto typingHasSpec)) typingHasUptoCard
end Rows
end Go.Proofs.YtgiibefjiloafaaGreatDoor
