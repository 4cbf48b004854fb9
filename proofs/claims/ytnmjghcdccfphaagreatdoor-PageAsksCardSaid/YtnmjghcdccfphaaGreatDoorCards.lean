/-
  DERIVED. GIVEN WITH THE SEED: THE CARDS: each row of YtnmjghcdccfphaaGreatDoorRows.lean that lists a variable, with what it lists TIED to the program's text (the seventh form; the later family's looks); each row that meets fmt, with fmt's text TOLD by the authors' own Lean function (tested against real Go, not proved from fmt's source: count such statements apart). THE CARD IS WHAT COUNTS. Prove the row's statement (the work); the ties are given (YtnmjghcdccfphaaGreatDoorTie.lean); close each card by the builder's one call (the guide's Derived/Test/ToyasCard.lean, 'card_holds'). Laid BY PROGRAM, IN A SANDBOX (cutbox-door.mjs). By AI agents, Wed Nov 11 2026. No macro, syntax, notation, axiom, sorry.
-/
import Derived.Test.YtnmjghcdccfphaaGreatDoorRows
import GoSem.ClaimSeven
namespace Go.Proofs.YtnmjghcdccfphaaGreatDoor
namespace Rows

/-- THE TIED CARD OF 'steamerlaw19.PageAsks'. -/
def pageAsksCard : Claim7 := { stood := { row := pageAsksRow, standIns := [], harness := (true, "97ac9ac5041e3eb709a0830ad89f239b8cd9164a80955bb925599e1845e1f93f"), looks := false }, kinds := [], alts := [], laidByText := true, laidKinds := [.data, .data, .data], laidTests := true, laidLooks := .later }
def PageAsksCardSaid : Prop := Claim7.holds Tryz.pinned (.plain (OpenSpec.ofChange pageAsksSpec)) pageAsksCard

/-- THE SECOND FORM's CARD OF 'steamerlaw19.PageAsks'. -/
def pageAsksUptoCard : Claim7 := { stood := { row := pageAsksUptoRow, standIns := [], harness := (true, "97ac9ac5041e3eb709a0830ad89f239b8cd9164a80955bb925599e1845e1f93f"), looks := false }, kinds := [], alts := [], laidByText := true, laidKinds := [.data, .data, .data], laidTests := true, laidLooks := .later }
def PageAsksUptoCardSaid : Prop := Claim7.holds Tryz.pinned (.plain (OpenSpec.upto pageAsksSpec)) pageAsksUptoCard
end Rows
end Go.Proofs.YtnmjghcdccfphaaGreatDoor
