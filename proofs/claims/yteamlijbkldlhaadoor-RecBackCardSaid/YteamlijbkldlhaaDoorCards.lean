/-
  DERIVED. GIVEN WITH THE SEED: THE CARDS: each row of YteamlijbkldlhaaDoorRows.lean that lists a variable, with what it lists TIED to the program's text (the seventh form; the later family's looks); each row that meets fmt, with fmt's text TOLD by the authors' own Lean function (tested against real Go, not proved from fmt's source: count such statements apart). THE CARD IS WHAT COUNTS. Prove the row's statement (the work); the ties are given (YteamlijbkldlhaaDoorTie.lean); close each card by the builder's one call (the guide's Derived/Test/ToyasCard.lean, 'card_holds'). Laid BY PROGRAM, IN A SANDBOX (cutbox-door.mjs). By AI agents, Wed Nov 11 2026. No macro, syntax, notation, axiom, sorry.
-/
import Derived.Test.YteamlijbkldlhaaDoorRows
import GoSem.ClaimSeven
namespace Go.Proofs.YteamlijbkldlhaaDoor
namespace Rows

/-- THE TIED CARD OF 'steamerlaw18.RecBack'. -/
def recBackCard : Claim7 := { stood := { row := recBackRow, standIns := [], harness := (true, "2224c8ff13eb33f1ff025dcefe78dbd3949f3a1c041d2a3b44eb4887784e1f6d"), looks := false }, kinds := [], alts := [], laidByText := true, laidKinds := [.data, .data, .data], laidTests := true, laidLooks := .later }
def RecBackCardSaid : Prop := Claim7.holds Tryd.pinned (.plain (OpenSpec.ofChange recBackSpec)) recBackCard

/-- THE TIED CARD OF 'steamerlaw18.RecRows'. -/
def recRowsCard : Claim7 := { stood := { row := recRowsRow, standIns := [], harness := (true, "2224c8ff13eb33f1ff025dcefe78dbd3949f3a1c041d2a3b44eb4887784e1f6d"), looks := false }, kinds := [], alts := [], laidByText := true, laidKinds := [.data, .data, .data], laidTests := true, laidLooks := .later }
def RecRowsCardSaid : Prop := Claim7.holds Tryd.pinned (.plain (OpenSpec.ofChange recRowsSpec)) recRowsCard

/-- THE SECOND FORM's CARD OF 'steamerlaw18.RecBack'. -/
def recBackUptoCard : Claim7 := { stood := { row := recBackUptoRow, standIns := [], harness := (true, "2224c8ff13eb33f1ff025dcefe78dbd3949f3a1c041d2a3b44eb4887784e1f6d"), looks := false }, kinds := [], alts := [], laidByText := true, laidKinds := [.data, .data, .data], laidTests := true, laidLooks := .later }
def RecBackUptoCardSaid : Prop := Claim7.holds Tryd.pinned (.plain (OpenSpec.upto recBackSpec)) recBackUptoCard

/-- THE SECOND FORM's CARD OF 'steamerlaw18.RecRows'. -/
def recRowsUptoCard : Claim7 := { stood := { row := recRowsUptoRow, standIns := [], harness := (true, "2224c8ff13eb33f1ff025dcefe78dbd3949f3a1c041d2a3b44eb4887784e1f6d"), looks := false }, kinds := [], alts := [], laidByText := true, laidKinds := [.data, .data, .data], laidTests := true, laidLooks := .later }
def RecRowsUptoCardSaid : Prop := Claim7.holds Tryd.pinned (.plain (OpenSpec.upto recRowsSpec)) recRowsUptoCard
end Rows
end Go.Proofs.YteamlijbkldlhaaDoor
