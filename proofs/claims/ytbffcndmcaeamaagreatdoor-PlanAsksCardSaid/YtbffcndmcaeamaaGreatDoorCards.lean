/-
  DERIVED. GIVEN WITH THE SEED: THE CARDS: each row of YtbffcndmcaeamaaGreatDoorRows.lean that lists a variable, with what it lists TIED to the program's text (the seventh form; the later family's looks); each row that meets fmt, with fmt's text TOLD by the authors' own Lean function (tested against real Go, not proved from fmt's source: count such statements apart). THE CARD IS WHAT COUNTS. Prove the row's statement (the work); the ties are given (YtbffcndmcaeamaaGreatDoorTie.lean); close each card by the builder's one call (the guide's Derived/Test/ToyasCard.lean, 'card_holds'). Laid BY PROGRAM, IN A SANDBOX (cutbox-door.mjs). By AI agents, Wed Nov 11 2026. No macro, syntax, notation, axiom, sorry.
-/
import Derived.Test.YtbffcndmcaeamaaGreatDoorRows
import GoSem.ClaimSeven
namespace Go.Proofs.YtbffcndmcaeamaaGreatDoor
namespace Rows

/-- THE TIED CARD OF 'steamerlaw24.PlanAsks'. -/
def planAsksCard : Claim7 := { stood := { row := planAsksRow, standIns := [], harness := (true, "5eb6d00daba7efa06fd9a3839708dcb69f7a19b3557e7a31f03d2e2056af9a14"), looks := false }, kinds := [], alts := [], laidByText := true, laidKinds := [.data, .pinned], laidTests := true, laidLooks := .later }
def PlanAsksCardSaid : Prop := Claim7.holds Tryz.pinned (.plain (OpenSpec.ofChange planAsksSpec)) planAsksCard

/-- THE SECOND FORM's CARD OF 'steamerlaw24.PlanAsks'. -/
def planAsksUptoCard : Claim7 := { stood := { row := planAsksUptoRow, standIns := [], harness := (true, "5eb6d00daba7efa06fd9a3839708dcb69f7a19b3557e7a31f03d2e2056af9a14"), looks := false }, kinds := [], alts := [], laidByText := true, laidKinds := [.data, .pinned], laidTests := true, laidLooks := .later }
def PlanAsksUptoCardSaid : Prop := Claim7.holds Tryz.pinned (.plain (OpenSpec.upto planAsksSpec)) planAsksUptoCard
end Rows
end Go.Proofs.YtbffcndmcaeamaaGreatDoor
