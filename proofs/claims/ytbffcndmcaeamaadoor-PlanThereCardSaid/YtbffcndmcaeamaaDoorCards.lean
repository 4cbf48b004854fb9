/-
  DERIVED. GIVEN WITH THE SEED: THE CARDS: each row of YtbffcndmcaeamaaDoorRows.lean that lists a variable, with what it lists TIED to the program's text (the seventh form; the later family's looks); each row that meets fmt, with fmt's text TOLD by the authors' own Lean function (tested against real Go, not proved from fmt's source: count such statements apart). THE CARD IS WHAT COUNTS. Prove the row's statement (the work); the ties are given (YtbffcndmcaeamaaDoorTie.lean); close each card by the builder's one call (the guide's Derived/Test/ToyasCard.lean, 'card_holds'). Laid BY PROGRAM, IN A SANDBOX (cutbox-door.mjs). By AI agents, Wed Nov 11 2026. No macro, syntax, notation, axiom, sorry.
-/
import Derived.Test.YtbffcndmcaeamaaDoorRows
import GoSem.ClaimSeven
namespace Go.Proofs.YtbffcndmcaeamaaDoor
namespace Rows

/-- THE TIED CARD OF 'steamerlaw24.PlanOrder'. -/
def planOrderCard : Claim7 := { stood := { row := planOrderRow, standIns := [], harness := (true, "c4ad4e5912716d8b408cbee44341fe42bb60992ab63532b9abee975dc8885ddf"), looks := false }, kinds := [], alts := [], laidByText := true, laidKinds := [.data, .pinned], laidTests := true, laidLooks := .later }
def PlanOrderCardSaid : Prop := Claim7.holds Tryd.pinned (.plain (OpenSpec.ofChange planOrderSpec)) planOrderCard

/-- THE TIED CARD OF 'steamerlaw24.PlanCounts'. -/
def planCountsCard : Claim7 := { stood := { row := planCountsRow, standIns := [], harness := (true, "c4ad4e5912716d8b408cbee44341fe42bb60992ab63532b9abee975dc8885ddf"), looks := false }, kinds := [], alts := [], laidByText := true, laidKinds := [.data, .pinned], laidTests := true, laidLooks := .later }
def PlanCountsCardSaid : Prop := Claim7.holds Tryd.pinned (.plain (OpenSpec.ofChange planCountsSpec)) planCountsCard

/-- THE TIED CARD OF 'steamerlaw24.PlanThere'. -/
def planThereCard : Claim7 := { stood := { row := planThereRow, standIns := [], harness := (true, "c4ad4e5912716d8b408cbee44341fe42bb60992ab63532b9abee975dc8885ddf"), looks := false }, kinds := [], alts := [], laidByText := true, laidKinds := [.data, .pinned], laidTests := true, laidLooks := .later }
def PlanThereCardSaid : Prop := Claim7.holds Tryd.pinned (.plain (OpenSpec.ofChange planThereSpec)) planThereCard

/-- THE SECOND FORM's CARD OF 'steamerlaw24.PlanOrder'. -/
def planOrderUptoCard : Claim7 := { stood := { row := planOrderUptoRow, standIns := [], harness := (true, "c4ad4e5912716d8b408cbee44341fe42bb60992ab63532b9abee975dc8885ddf"), looks := false }, kinds := [], alts := [], laidByText := true, laidKinds := [.data, .pinned], laidTests := true, laidLooks := .later }
def PlanOrderUptoCardSaid : Prop := Claim7.holds Tryd.pinned (.plain (OpenSpec.upto planOrderSpec)) planOrderUptoCard

/-- THE SECOND FORM's CARD OF 'steamerlaw24.PlanCounts'. -/
def planCountsUptoCard : Claim7 := { stood := { row := planCountsUptoRow, standIns := [], harness := (true, "c4ad4e5912716d8b408cbee44341fe42bb60992ab63532b9abee975dc8885ddf"), looks := false }, kinds := [], alts := [], laidByText := true, laidKinds := [.data, .pinned], laidTests := true, laidLooks := .later }
def PlanCountsUptoCardSaid : Prop := Claim7.holds Tryd.pinned (.plain (OpenSpec.upto planCountsSpec)) planCountsUptoCard

/-- THE SECOND FORM's CARD OF 'steamerlaw24.PlanThere'. -/
def planThereUptoCard : Claim7 := { stood := { row := planThereUptoRow, standIns := [], harness := (true, "c4ad4e5912716d8b408cbee44341fe42bb60992ab63532b9abee975dc8885ddf"), looks := false }, kinds := [], alts := [], laidByText := true, laidKinds := [.data, .pinned], laidTests := true, laidLooks := .later }
def PlanThereUptoCardSaid : Prop := Claim7.holds Tryd.pinned (.plain (OpenSpec.upto planThereSpec)) planThereUptoCard
end Rows
end Go.Proofs.YtbffcndmcaeamaaDoor
