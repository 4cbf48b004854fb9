import Derived.Test.YtnmjghcdccfphaaGreatDoorRBare
section
set_option linter.unusedSimpArgs false
set_option linter.unusedVariables false
namespace Go.Proofs.YtnmjghcdccfphaaGreatDoor.NodeSpec
open GSort AclSpec MetaSpec Ext

end Go.Proofs.YtnmjghcdccfphaaGreatDoor.NodeSpec
end
section
set_option linter.unusedSimpArgs false
set_option linter.unusedVariables false
namespace Go.Proofs.YtnmjghcdccfphaaGreatDoor.NodeSpec
open GSort AclSpec MetaSpec Ext

def okP (p : Piece) : Prop := p.dat ≠ [] ∧ 0 ≤ p.pos ∧ p.pos + p.dat.length ≤ 1099511627776
end Go.Proofs.YtnmjghcdccfphaaGreatDoor.NodeSpec
end
section
set_option linter.unusedSimpArgs false
set_option linter.unusedVariables false
namespace Go.Proofs.YtnmjghcdccfphaaGreatDoor.NodeSpec
open GSort AclSpec MetaSpec Ext

def cov (p : Piece) (q : Int) : Option UInt8 := if p.pos ≤ q ∧ q < p.pos + p.dat.length then p.dat[(q - p.pos).toNat]? else none
def valAt (l : List Piece) (q : Int) : UInt8 := l.foldl (fun v p => (cov p q).getD v) 0
end Go.Proofs.YtnmjghcdccfphaaGreatDoor.NodeSpec
end
