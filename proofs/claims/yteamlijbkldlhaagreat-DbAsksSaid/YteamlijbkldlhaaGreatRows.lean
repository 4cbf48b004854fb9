/-
  No cell of these rows narrows 'for every input' (looked for: loops, veiled, ifaces, maps, wideKeys, modest, calm, conditions, laid).
  DERIVED. THE GIVEN ROWS OF THIS SEAT. 5 by the template 'for every input the law returns true; each argument reads behind the call as it read before'; 0 by the template 'total and deterministic' (their statements: YteamlijbkldlhaaGreatTotals.lean).
  GIVEN WITH THE SEED: the statements are not yours to turn. If you find one false, say at which input.
  Laid BY PROGRAM, IN A SANDBOX (cutbox-rows.mjs): the forced cells as the released guide's own fill.sh prints them over the translation c4f40b9dfc62f3d7… (all of the seat's roots in one cut). By AI agents, Wed Nov 11 2026. No macro, syntax, notation, axiom, sorry.
-/
import Derived.Test.YteamlijbkldlhaaGreatChecked
import GoSem.Claim
import GoSem.ClaimJoined
import GoSem.ClaimMapViews
import Derived.JoinedTies
import Derived.KernelRfl
namespace Go.Proofs.YteamlijbkldlhaaGreat
/- THE CELL 'sum', in the pinned program and in every row, IS THE sha256 OF THE DUMP (.gsa) THAT YteamlijbkldlhaaGreatProg.lean LOADS. Nothing in Lean hashes anything: it is a label: what it is worth is what the hold of that sum in a sandbox is worth. -/
noncomputable def Tryz.pinned : Pinned := { name := "yteamlijbkldlhaagreat", sum := "c4f40b9dfc62f3d7225b0ecc61ce5416ca01a927cc2c61900abfedd6f82811b1", checked := Tryz.checked }
namespace Rows
def none {H : Type} : Left H := { results := [], args := [] }

/-- 'steamerlaw20.DbFirst': WHATEVER THE INPUT: true; the input reads as it did. -/
def dbFirstSpec : ChangeSpec := { name := "dbFirst", fn := fun _ => fun
  | [d] => { results := [.lit (.bool true)], args := [d] }
  | _ => none }
def dbFirstRow : OpenClaim := { program := "yteamlijbkldlhaagreat", sum := "c4f40b9dfc62f3d7225b0ecc61ce5416ca01a927cc2c61900abfedd6f82811b1", func := "steamer/steamerlaw20.DbFirst", spec := "dbFirst", inPlace := ["internal/bytealg.IndexByteString", "internal/bytealg.IndexString", "internal/abi.NoEscape", "internal/bytealg.MakeNoZero"], unfollowed := true, recurses := true, named := ["internal/bytealg.MaxLen"], apart := false }
def DbFirstSaid : Prop := dbFirstRow.holds Tryz.pinned (OpenSpec.ofChange dbFirstSpec)

/-- ITS FALSE NEIGHBOUR: 'it returns false'. Refute it at one input. -/
def dbFirstWrong : ChangeSpec := { name := "dbFirst", fn := fun _ => fun
  | [d] => { results := [.lit (.bool false)], args := [d] }
  | _ => none }
def DbFirstWrongFalsely : Prop := dbFirstRow.holds Tryz.pinned (OpenSpec.ofChange dbFirstWrong)

/-- 'steamerlaw20.DbAsks': WHATEVER THE INPUT: true; the input reads as it did. -/
def dbAsksSpec : ChangeSpec := { name := "dbAsks", fn := fun _ => fun
  | [d] => { results := [.lit (.bool true)], args := [d] }
  | _ => none }
def dbAsksRow : OpenClaim := { program := "yteamlijbkldlhaagreat", sum := "c4f40b9dfc62f3d7225b0ecc61ce5416ca01a927cc2c61900abfedd6f82811b1", func := "steamer/steamerlaw20.DbAsks", spec := "dbAsks", inPlace := ["internal/bytealg.IndexByteString", "internal/bytealg.IndexString", "internal/abi.NoEscape", "internal/bytealg.MakeNoZero"], unfollowed := true, recurses := true, named := ["internal/bytealg.MaxLen"], apart := false }
def DbAsksSaid : Prop := dbAsksRow.holds Tryz.pinned (OpenSpec.ofChange dbAsksSpec)

/-- ITS FALSE NEIGHBOUR: 'it returns false'. Refute it at one input. -/
def dbAsksWrong : ChangeSpec := { name := "dbAsks", fn := fun _ => fun
  | [d] => { results := [.lit (.bool false)], args := [d] }
  | _ => none }
def DbAsksWrongFalsely : Prop := dbAsksRow.holds Tryz.pinned (OpenSpec.ofChange dbAsksWrong)

/-- 'steamerlaw20.DbFinds': WHATEVER THE INPUT: true; the input reads as it did. -/
def dbFindsSpec : ChangeSpec := { name := "dbFinds", fn := fun _ => fun
  | [d1, d2, d3, d4] => { results := [.lit (.bool true)], args := [d1, d2, d3, d4] }
  | _ => none }
def dbFindsRow : OpenClaim := { program := "yteamlijbkldlhaagreat", sum := "c4f40b9dfc62f3d7225b0ecc61ce5416ca01a927cc2c61900abfedd6f82811b1", func := "steamer/steamerlaw20.DbFinds", spec := "dbFinds", inPlace := ["internal/bytealg.IndexByteString", "internal/bytealg.IndexString", "internal/abi.NoEscape", "internal/bytealg.MakeNoZero"], unfollowed := true, recurses := true, named := ["internal/bytealg.MaxLen"], apart := false }
def DbFindsSaid : Prop := dbFindsRow.holds Tryz.pinned (OpenSpec.ofChange dbFindsSpec)

/-- ITS FALSE NEIGHBOUR: 'it returns false'. Refute it at one input. -/
def dbFindsWrong : ChangeSpec := { name := "dbFinds", fn := fun _ => fun
  | [d1, d2, d3, d4] => { results := [.lit (.bool false)], args := [d1, d2, d3, d4] }
  | _ => none }
def DbFindsWrongFalsely : Prop := dbFindsRow.holds Tryz.pinned (OpenSpec.ofChange dbFindsWrong)

/-- 'steamerlaw20.DbSpoilt': WHATEVER THE INPUT: true; the input reads as it did. -/
def dbSpoiltSpec : ChangeSpec := { name := "dbSpoilt", fn := fun _ => fun
  | [d1, d2, d3] => { results := [.lit (.bool true)], args := [d1, d2, d3] }
  | _ => none }
def dbSpoiltRow : OpenClaim := { program := "yteamlijbkldlhaagreat", sum := "c4f40b9dfc62f3d7225b0ecc61ce5416ca01a927cc2c61900abfedd6f82811b1", func := "steamer/steamerlaw20.DbSpoilt", spec := "dbSpoilt", inPlace := ["internal/bytealg.IndexByteString", "internal/bytealg.IndexString", "internal/abi.NoEscape", "internal/bytealg.MakeNoZero"], unfollowed := true, recurses := true, named := ["internal/bytealg.MaxLen"], apart := false }
def DbSpoiltSaid : Prop := dbSpoiltRow.holds Tryz.pinned (OpenSpec.ofChange dbSpoiltSpec)

/-- ITS FALSE NEIGHBOUR: 'it returns false'. Refute it at one input. -/
def dbSpoiltWrong : ChangeSpec := { name := "dbSpoilt", fn := fun _ => fun
  | [d1, d2, d3] => { results := [.lit (.bool false)], args := [d1, d2, d3] }
  | _ => none }
def DbSpoiltWrongFalsely : Prop := dbSpoiltRow.holds Tryz.pinned (OpenSpec.ofChange dbSpoiltWrong)

/-- 'steamerlaw20.DbParts': WHATEVER THE INPUT: true; the input reads as it did. -/
def dbPartsSpec : ChangeSpec := { name := "dbParts", fn := fun _ => fun
  | [d1, d2, d3] => { results := [.lit (.bool true)], args := [d1, d2, d3] }
  | _ => none }
def dbPartsRow : OpenClaim := { program := "yteamlijbkldlhaagreat", sum := "c4f40b9dfc62f3d7225b0ecc61ce5416ca01a927cc2c61900abfedd6f82811b1", func := "steamer/steamerlaw20.DbParts", spec := "dbParts", inPlace := ["internal/bytealg.IndexByteString", "internal/bytealg.IndexString", "internal/abi.NoEscape", "internal/bytealg.MakeNoZero"], unfollowed := true, recurses := true, named := ["internal/bytealg.MaxLen"], apart := false }
def DbPartsSaid : Prop := dbPartsRow.holds Tryz.pinned (OpenSpec.ofChange dbPartsSpec)

/-- ITS FALSE NEIGHBOUR: 'it returns false'. Refute it at one input. -/
def dbPartsWrong : ChangeSpec := { name := "dbParts", fn := fun _ => fun
  | [d1, d2, d3] => { results := [.lit (.bool false)], args := [d1, d2, d3] }
  | _ => none }
def DbPartsWrongFalsely : Prop := dbPartsRow.holds Tryz.pinned (OpenSpec.ofChange dbPartsWrong)

/- THE SECOND FORM. 'bulk': how many values and letters a reading holds, each counted each time it is reached (what is shared counts as often as it is met; a slice's spare places count too). A statement '..UptoSaid' is the law's where the arguments, and the package variables that the reading takes, are together of bulk at most 1048576: NARROWER than '..Said'. Prove '..Said' where nothing that the law and all that it calls make is longer than what came in: it says more and counts as full. Else prove '..UptoSaid'. A law counts once. -/
mutual
def uptoBulk {H : Type} : DataW H → Nat
  | .lit (.string bytes) => bytes.length + 1
  | .lit _ => 1
  | .nil => 1
  | .ptr d => uptoBulk d + 1
  | .slice elems spare => uptoBulkAll elems + uptoBulkAll spare + 1
  | .agg parts => uptoBulkAll parts + 1
  | .iface _ d => uptoBulk d + 1
  | .map entries => uptoBulkEntries entries + 1
  | .held _ => 1
def uptoBulkAll {H : Type} : List (DataW H) → Nat
  | [] => 0
  | d :: r => uptoBulk d + uptoBulkAll r
def uptoBulkEntries {H : Type} : List (Lit × DataW H) → Nat
  | [] => 0
  | x :: r => uptoBulkEntry x + uptoBulkEntries r
def uptoBulkEntry {H : Type} : Lit × DataW H → Nat
  | (.string bytes, d) => bytes.length + uptoBulk d + 1
  | (_, d) => uptoBulk d + 1
 end
def uptoSmall : (H : Type) → List (DataW H) → Bool := fun _ ds => decide (uptoBulkAll ds ≤ 1048576)
def OpenSpec.upto (s : _root_.Go.ChangeSpec) : _root_.Go.OpenSpec := { _root_.Go.OpenSpec.ofChange s with cond := some uptoSmall }

/-- 'steamerlaw20.DbFirst', WHERE WHAT IT READS IS OF BULK AT MOST 1048576: true; the input reads as it did. -/
def dbFirstUptoRow : OpenClaim := { program := "yteamlijbkldlhaagreat", sum := "c4f40b9dfc62f3d7225b0ecc61ce5416ca01a927cc2c61900abfedd6f82811b1", func := "steamer/steamerlaw20.DbFirst", spec := "dbFirst", inPlace := ["internal/bytealg.IndexByteString", "internal/bytealg.IndexString", "internal/abi.NoEscape", "internal/bytealg.MakeNoZero"], unfollowed := true, recurses := true, named := ["internal/bytealg.MaxLen"], apart := false, narrowed := true }
def DbFirstUptoSaid : Prop := dbFirstUptoRow.holds Tryz.pinned (OpenSpec.upto dbFirstSpec)

/-- 'steamerlaw20.DbAsks', WHERE WHAT IT READS IS OF BULK AT MOST 1048576: true; the input reads as it did. -/
def dbAsksUptoRow : OpenClaim := { program := "yteamlijbkldlhaagreat", sum := "c4f40b9dfc62f3d7225b0ecc61ce5416ca01a927cc2c61900abfedd6f82811b1", func := "steamer/steamerlaw20.DbAsks", spec := "dbAsks", inPlace := ["internal/bytealg.IndexByteString", "internal/bytealg.IndexString", "internal/abi.NoEscape", "internal/bytealg.MakeNoZero"], unfollowed := true, recurses := true, named := ["internal/bytealg.MaxLen"], apart := false, narrowed := true }
def DbAsksUptoSaid : Prop := dbAsksUptoRow.holds Tryz.pinned (OpenSpec.upto dbAsksSpec)

/-- 'steamerlaw20.DbFinds', WHERE WHAT IT READS IS OF BULK AT MOST 1048576: true; the input reads as it did. -/
def dbFindsUptoRow : OpenClaim := { program := "yteamlijbkldlhaagreat", sum := "c4f40b9dfc62f3d7225b0ecc61ce5416ca01a927cc2c61900abfedd6f82811b1", func := "steamer/steamerlaw20.DbFinds", spec := "dbFinds", inPlace := ["internal/bytealg.IndexByteString", "internal/bytealg.IndexString", "internal/abi.NoEscape", "internal/bytealg.MakeNoZero"], unfollowed := true, recurses := true, named := ["internal/bytealg.MaxLen"], apart := false, narrowed := true }
def DbFindsUptoSaid : Prop := dbFindsUptoRow.holds Tryz.pinned (OpenSpec.upto dbFindsSpec)

/-- 'steamerlaw20.DbSpoilt', WHERE WHAT IT READS IS OF BULK AT MOST 1048576: true; the input reads as it did. -/
def dbSpoiltUptoRow : OpenClaim := { program := "yteamlijbkldlhaagreat", sum := "c4f40b9dfc62f3d7225b0ecc61ce5416ca01a927cc2c61900abfedd6f82811b1", func := "steamer/steamerlaw20.DbSpoilt", spec := "dbSpoilt", inPlace := ["internal/bytealg.IndexByteString", "internal/bytealg.IndexString", "internal/abi.NoEscape", "internal/bytealg.MakeNoZero"], unfollowed := true, recurses := true, named := ["internal/bytealg.MaxLen"], apart := false, narrowed := true }
def DbSpoiltUptoSaid : Prop := dbSpoiltUptoRow.holds Tryz.pinned (OpenSpec.upto dbSpoiltSpec)

/-- 'steamerlaw20.DbParts', WHERE WHAT IT READS IS OF BULK AT MOST 1048576: true; the input reads as it did. -/
def dbPartsUptoRow : OpenClaim := { program := "yteamlijbkldlhaagreat", sum := "c4f40b9dfc62f3d7225b0ecc61ce5416ca01a927cc2c61900abfedd6f82811b1", func := "steamer/steamerlaw20.DbParts", spec := "dbParts", inPlace := ["internal/bytealg.IndexByteString", "internal/bytealg.IndexString", "internal/abi.NoEscape", "internal/bytealg.MakeNoZero"], unfollowed := true, recurses := true, named := ["internal/bytealg.MaxLen"], apart := false, narrowed := true }
def DbPartsUptoSaid : Prop := dbPartsUptoRow.holds Tryz.pinned (OpenSpec.upto dbPartsSpec)

end Rows
end Go.Proofs.YteamlijbkldlhaaGreat
