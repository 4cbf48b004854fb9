/-
  DERIVED. GIVEN WITH THE SEED: THE CARDS: each row of YtmchdjpgceiloaaDoorRows.lean that lists a variable, with what it lists TIED to the program's text (the seventh form; the later family's looks); each row that meets fmt, with fmt's text TOLD by the authors' own Lean function (tested against real Go, not proved from fmt's source: count such statements apart). THE CARD IS WHAT COUNTS. Prove the row's statement (the work); the ties are given (YtmchdjpgceiloaaDoorTie.lean); close each card by the builder's one call (the guide's Derived/Test/ToyasCard.lean, 'card_holds'). Laid BY PROGRAM, IN A SANDBOX (cutbox-door.mjs). By AI agents, Wed Nov 11 2026. No macro, syntax, notation, axiom, sorry.
-/
import Derived.Test.YtmchdjpgceiloaaDoorRows
import GoSem.ClaimSeven
namespace Go.Proofs.YtmchdjpgceiloaaDoor
namespace Rows

/-- THE TIED CARD OF 'steamerlaw3.AclAsks'. -/
def aclAsksCard : Claim7 := { stood := { row := aclAsksRow, standIns := [], harness := (true, "9a31a0a3df34b74aa1fd780005f6beede4a9078059077392cc7a035bb2910145"), looks := false }, kinds := [], alts := [], laidByText := true, laidKinds := [.data, .data, .data], laidTests := true, laidLooks := .later }
def AclAsksCardSaid : Prop := Claim7.holds Tryd.pinned (.plain (OpenSpec.ofChange aclAsksSpec)) aclAsksCard

/-- THE TIED CARD OF 'steamerlaw3.AclNorms'. -/
def aclNormsCard : Claim7 := { stood := { row := aclNormsRow, standIns := [], harness := (true, "9a31a0a3df34b74aa1fd780005f6beede4a9078059077392cc7a035bb2910145"), looks := false }, kinds := [], alts := [], laidByText := true, laidKinds := [.data, .data, .data], laidTests := true, laidLooks := .later }
def AclNormsCardSaid : Prop := Claim7.holds Tryd.pinned (.plain (OpenSpec.ofChange aclNormsSpec)) aclNormsCard

/-- THE TIED CARD OF 'steamerlaw3.AclMask'. -/
def aclMaskCard : Claim7 := { stood := { row := aclMaskRow, standIns := [], harness := (true, "9a31a0a3df34b74aa1fd780005f6beede4a9078059077392cc7a035bb2910145"), looks := false }, kinds := [], alts := [], laidByText := true, laidKinds := [.data, .data, .data], laidTests := true, laidLooks := .later }
def AclMaskCardSaid : Prop := Claim7.holds Tryd.pinned (.plain (OpenSpec.ofChange aclMaskSpec)) aclMaskCard

/-- THE TIED CARD OF 'steamerlaw3.AclUsers'. -/
def aclUsersCard : Claim7 := { stood := { row := aclUsersRow, standIns := [], harness := (true, "9a31a0a3df34b74aa1fd780005f6beede4a9078059077392cc7a035bb2910145"), looks := false }, kinds := [], alts := [], laidByText := true, laidKinds := [.data, .data, .data], laidTests := true, laidLooks := .later }
def AclUsersCardSaid : Prop := Claim7.holds Tryd.pinned (.plain (OpenSpec.ofChange aclUsersSpec)) aclUsersCard

/-- THE SECOND FORM's CARD OF 'steamerlaw3.AclAsks'. -/
def aclAsksUptoCard : Claim7 := { stood := { row := aclAsksUptoRow, standIns := [], harness := (true, "9a31a0a3df34b74aa1fd780005f6beede4a9078059077392cc7a035bb2910145"), looks := false }, kinds := [], alts := [], laidByText := true, laidKinds := [.data, .data, .data], laidTests := true, laidLooks := .later }
def AclAsksUptoCardSaid : Prop := Claim7.holds Tryd.pinned (.plain (OpenSpec.upto aclAsksSpec)) aclAsksUptoCard

/-- THE SECOND FORM's CARD OF 'steamerlaw3.AclNorms'. -/
def aclNormsUptoCard : Claim7 := { stood := { row := aclNormsUptoRow, standIns := [], harness := (true, "9a31a0a3df34b74aa1fd780005f6beede4a9078059077392cc7a035bb2910145"), looks := false }, kinds := [], alts := [], laidByText := true, laidKinds := [.data, .data, .data], laidTests := true, laidLooks := .later }
def AclNormsUptoCardSaid : Prop := Claim7.holds Tryd.pinned (.plain (OpenSpec.upto aclNormsSpec)) aclNormsUptoCard

/-- THE SECOND FORM's CARD OF 'steamerlaw3.AclMask'. -/
def aclMaskUptoCard : Claim7 := { stood := { row := aclMaskUptoRow, standIns := [], harness := (true, "9a31a0a3df34b74aa1fd780005f6beede4a9078059077392cc7a035bb2910145"), looks := false }, kinds := [], alts := [], laidByText := true, laidKinds := [.data, .data, .data], laidTests := true, laidLooks := .later }
def AclMaskUptoCardSaid : Prop := Claim7.holds Tryd.pinned (.plain (OpenSpec.upto aclMaskSpec)) aclMaskUptoCard

/-- THE SECOND FORM's CARD OF 'steamerlaw3.AclUsers'. -/
def aclUsersUptoCard : Claim7 := { stood := { row := aclUsersUptoRow, standIns := [], harness := (true, "9a31a0a3df34b74aa1fd780005f6beede4a9078059077392cc7a035bb2910145"), looks := false }, kinds := [], alts := [], laidByText := true, laidKinds := [.data, .data, .data], laidTests := true, laidLooks := .later }
def AclUsersUptoCardSaid : Prop := Claim7.holds Tryd.pinned (.plain (OpenSpec.upto aclUsersSpec)) aclUsersUptoCard
end Rows
end Go.Proofs.YtmchdjpgceiloaaDoor
