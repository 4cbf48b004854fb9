/-
  DERIVED. GIVEN WITH THE SEED: THE CARDS: each row of YteamlijbkldlhaaGreatDoorRows.lean that lists a variable, with what it lists TIED to the program's text (the seventh form; the later family's looks); each row that meets fmt, with fmt's text TOLD by the authors' own Lean function (tested against real Go, not proved from fmt's source: count such statements apart). THE CARD IS WHAT COUNTS. Prove the row's statement (the work); the ties are given (YteamlijbkldlhaaGreatDoorTie.lean); close each card by the builder's one call (the guide's Derived/Test/ToyasCard.lean, 'card_holds'). Laid BY PROGRAM, IN A SANDBOX (cutbox-door.mjs). By AI agents, Wed Nov 11 2026. No macro, syntax, notation, axiom, sorry.
-/
import Derived.Test.YteamlijbkldlhaaGreatDoorRows
import GoSem.ClaimSeven
namespace Go.Proofs.YteamlijbkldlhaaGreatDoor
namespace Rows

/-- THE TIED CARD OF 'steamerlaw18.RecBare'. -/
def recBareCard : Claim7 := { stood := { row := recBareRow, standIns := [], harness := (true, "289e611e9cac59e8df26acaf9a373a17898dea48884335065e0026cac6ce892e"), looks := false }, kinds := [], alts := [], laidByText := true, laidKinds := [.data, .data, .data], laidTests := true, laidLooks := .later }
def RecBareCardSaid : Prop := Claim7.holds Tryz.pinned (.plain (OpenSpec.ofChange recBareSpec)) recBareCard

/-- THE TIED CARD OF 'steamerlaw19.PageRaw'. -/
def pageRawCard : Claim7 := { stood := { row := pageRawRow, standIns := [], harness := (true, "289e611e9cac59e8df26acaf9a373a17898dea48884335065e0026cac6ce892e"), looks := false }, kinds := [], alts := [], laidByText := true, laidKinds := [.data, .data, .data], laidTests := true, laidLooks := .later }
def PageRawCardSaid : Prop := Claim7.holds Tryz.pinned (.plain (OpenSpec.ofChange pageRawSpec)) pageRawCard

/-- THE TIED CARD OF 'steamerlaw19.PageAsks'. -/
def pageAsksCard : Claim7 := { stood := { row := pageAsksRow, standIns := [], harness := (true, "289e611e9cac59e8df26acaf9a373a17898dea48884335065e0026cac6ce892e"), looks := false }, kinds := [], alts := [], laidByText := true, laidKinds := [.data, .data, .data], laidTests := true, laidLooks := .later }
def PageAsksCardSaid : Prop := Claim7.holds Tryz.pinned (.plain (OpenSpec.ofChange pageAsksSpec)) pageAsksCard

/-- THE TIED CARD OF 'steamerlaw19.PageBack'. -/
def pageBackCard : Claim7 := { stood := { row := pageBackRow, standIns := [], harness := (true, "289e611e9cac59e8df26acaf9a373a17898dea48884335065e0026cac6ce892e"), looks := false }, kinds := [], alts := [], laidByText := true, laidKinds := [.data, .data, .data], laidTests := true, laidLooks := .later }
def PageBackCardSaid : Prop := Claim7.holds Tryz.pinned (.plain (OpenSpec.ofChange pageBackSpec)) pageBackCard

/-- THE TIED CARD OF 'steamerlaw19.PageLeaves'. -/
def pageLeavesCard : Claim7 := { stood := { row := pageLeavesRow, standIns := [], harness := (true, "289e611e9cac59e8df26acaf9a373a17898dea48884335065e0026cac6ce892e"), looks := false }, kinds := [], alts := [], laidByText := true, laidKinds := [.data, .data, .data], laidTests := true, laidLooks := .later }
def PageLeavesCardSaid : Prop := Claim7.holds Tryz.pinned (.plain (OpenSpec.ofChange pageLeavesSpec)) pageLeavesCard

/-- THE TIED CARD OF 'steamerlaw19.PageKeys'. -/
def pageKeysCard : Claim7 := { stood := { row := pageKeysRow, standIns := [], harness := (true, "289e611e9cac59e8df26acaf9a373a17898dea48884335065e0026cac6ce892e"), looks := false }, kinds := [], alts := [], laidByText := true, laidKinds := [.data, .data, .data], laidTests := true, laidLooks := .later }
def PageKeysCardSaid : Prop := Claim7.holds Tryz.pinned (.plain (OpenSpec.ofChange pageKeysSpec)) pageKeysCard

/-- THE SECOND FORM's CARD OF 'steamerlaw18.RecBare'. -/
def recBareUptoCard : Claim7 := { stood := { row := recBareUptoRow, standIns := [], harness := (true, "289e611e9cac59e8df26acaf9a373a17898dea48884335065e0026cac6ce892e"), looks := false }, kinds := [], alts := [], laidByText := true, laidKinds := [.data, .data, .data], laidTests := true, laidLooks := .later }
def RecBareUptoCardSaid : Prop := Claim7.holds Tryz.pinned (.plain (OpenSpec.upto recBareSpec)) recBareUptoCard

/-- THE SECOND FORM's CARD OF 'steamerlaw19.PageRaw'. -/
def pageRawUptoCard : Claim7 := { stood := { row := pageRawUptoRow, standIns := [], harness := (true, "289e611e9cac59e8df26acaf9a373a17898dea48884335065e0026cac6ce892e"), looks := false }, kinds := [], alts := [], laidByText := true, laidKinds := [.data, .data, .data], laidTests := true, laidLooks := .later }
def PageRawUptoCardSaid : Prop := Claim7.holds Tryz.pinned (.plain (OpenSpec.upto pageRawSpec)) pageRawUptoCard

/-- THE SECOND FORM's CARD OF 'steamerlaw19.PageAsks'. -/
def pageAsksUptoCard : Claim7 := { stood := { row := pageAsksUptoRow, standIns := [], harness := (true, "289e611e9cac59e8df26acaf9a373a17898dea48884335065e0026cac6ce892e"), looks := false }, kinds := [], alts := [], laidByText := true, laidKinds := [.data, .data, .data], laidTests := true, laidLooks := .later }
def PageAsksUptoCardSaid : Prop := Claim7.holds Tryz.pinned (.plain (OpenSpec.upto pageAsksSpec)) pageAsksUptoCard

/-- THE SECOND FORM's CARD OF 'steamerlaw19.PageBack'. -/
def pageBackUptoCard : Claim7 := { stood := { row := pageBackUptoRow, standIns := [], harness := (true, "289e611e9cac59e8df26acaf9a373a17898dea48884335065e0026cac6ce892e"), looks := false }, kinds := [], alts := [], laidByText := true, laidKinds := [.data, .data, .data], laidTests := true, laidLooks := .later }
def PageBackUptoCardSaid : Prop := Claim7.holds Tryz.pinned (.plain (OpenSpec.upto pageBackSpec)) pageBackUptoCard

/-- THE SECOND FORM's CARD OF 'steamerlaw19.PageLeaves'. -/
def pageLeavesUptoCard : Claim7 := { stood := { row := pageLeavesUptoRow, standIns := [], harness := (true, "289e611e9cac59e8df26acaf9a373a17898dea48884335065e0026cac6ce892e"), looks := false }, kinds := [], alts := [], laidByText := true, laidKinds := [.data, .data, .data], laidTests := true, laidLooks := .later }
def PageLeavesUptoCardSaid : Prop := Claim7.holds Tryz.pinned (.plain (OpenSpec.upto pageLeavesSpec)) pageLeavesUptoCard

/-- THE SECOND FORM's CARD OF 'steamerlaw19.PageKeys'. -/
def pageKeysUptoCard : Claim7 := { stood := { row := pageKeysUptoRow, standIns := [], harness := (true, "289e611e9cac59e8df26acaf9a373a17898dea48884335065e0026cac6ce892e"), looks := false }, kinds := [], alts := [], laidByText := true, laidKinds := [.data, .data, .data], laidTests := true, laidLooks := .later }
def PageKeysUptoCardSaid : Prop := Claim7.holds Tryz.pinned (.plain (OpenSpec.upto pageKeysSpec)) pageKeysUptoCard
end Rows
end Go.Proofs.YteamlijbkldlhaaGreatDoor
