import Derived.Test.YteamlijbkldlhaaNCut
set_option linter.unusedSimpArgs false
set_option linter.unusedVariables false
namespace Go.Proofs.Yteamlijbkldlhaa.NodeSpec
open GSort AclSpec MetaSpec Ext

def okP (p : Piece) : Prop := p.dat ≠ [] ∧ 0 ≤ p.pos ∧ p.pos + p.dat.length ≤ 1099511627776
end Go.Proofs.Yteamlijbkldlhaa.NodeSpec
