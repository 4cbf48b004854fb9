import Derived.Test.YteamlijbkldlhaaGreatDoorNCut
set_option linter.unusedSimpArgs false
set_option linter.unusedVariables false
namespace Go.Proofs.YteamlijbkldlhaaGreatDoor.NodeSpec
open GSort AclSpec MetaSpec Ext

def okP (p : Piece) : Prop := p.dat ≠ [] ∧ 0 ≤ p.pos ∧ p.pos + p.dat.length ≤ 1099511627776
end Go.Proofs.YteamlijbkldlhaaGreatDoor.NodeSpec
