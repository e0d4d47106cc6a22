/-
  DERIVED. GIVEN WITH THE SEED: THE CARDS: each row of YtnlaheegimhdpaaDoorRows.lean that lists a variable, with what it lists TIED to the program's text (the seventh form; the later family's looks); each row that meets fmt, with fmt's text TOLD by the authors' own Lean function (tested against real Go, not proved from fmt's source: count such statements apart). THE CARD IS WHAT COUNTS. Prove the row's statement (the work); the ties are given (YtnlaheegimhdpaaDoorTie.lean); close each card by the builder's one call (the guide's Derived/Test/ToyasCard.lean, 'card_holds'). Laid BY PROGRAM, IN A SANDBOX (cutbox-door.mjs). By AI agents, Wed Nov 11 2026. No macro, syntax, notation, axiom, sorry.
-/
import Derived.Test.YtnlaheegimhdpaaDoorRows
import GoSem.ClaimSeven
namespace Go.Proofs.YtnlaheegimhdpaaDoor
namespace Rows

/-- THE TIED CARD OF 'claplaw3.LensEquals'. -/
def lensEqualsCard : Claim7 := { stood := { row := lensEqualsRow, standIns := [], harness := (true, "017452d0cc559546c25a277175aa779e98704e3cd42481c05915f352b32707e6"), looks := false }, kinds := [], alts := [], laidByText := true, laidKinds := [.data, .data, .data], laidTests := true, laidLooks := .later }
def LensEqualsCardSaid : Prop := Claim7.holds Tryd.pinned (.plain (OpenSpec.ofChange lensEqualsSpec)) lensEqualsCard

/-- THE SECOND FORM's CARD OF 'claplaw3.LensEquals'. -/
def lensEqualsUptoCard : Claim7 := { stood := { row := lensEqualsUptoRow, standIns := [], harness := (true, "017452d0cc559546c25a277175aa779e98704e3cd42481c05915f352b32707e6"), looks := false }, kinds := [], alts := [], laidByText := true, laidKinds := [.data, .data, .data], laidTests := true, laidLooks := .later }
def LensEqualsUptoCardSaid : Prop := Claim7.holds Tryd.pinned (.plain (OpenSpec.upto lensEqualsSpec)) lensEqualsUptoCard
end Rows
end Go.Proofs.YtnlaheegimhdpaaDoor
