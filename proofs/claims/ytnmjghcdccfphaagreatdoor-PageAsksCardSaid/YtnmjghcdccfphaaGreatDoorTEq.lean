import Derived.Test.YtnmjghcdccfphaaGreatDoorRBare
import Derived.Test.YtnmjghcdccfphaaGreatDoorPlain
section
set_option linter.unusedSimpArgs false
set_option linter.unusedVariables false
namespace Go.Proofs.YtnmjghcdccfphaaGreatDoor.TreeSpec
open AclSpec MetaSpec NodeSpec PathSpec

structure TEnt where
 path : List UInt8
 node : Int
 deriving DecidableEq,Inhabited
structure FTree where
 ents : List TEnt
 nodes : List FNode
 deriving DecidableEq,Inhabited
def findT : List TEnt → List UInt8 → Int × Bool
 | [],_ => (0,false)
 | e :: r,p => if e.path = p then (e.node,true) else findT r p
end Go.Proofs.YtnmjghcdccfphaaGreatDoor.TreeSpec
end
section
set_option linter.unusedSimpArgs false
set_option linter.unusedVariables false
namespace Go.Proofs.YtnmjghcdccfphaaGreatDoor.TreeSpec
open AclSpec MetaSpec NodeSpec PathSpec

structure UseInv (ns : List FNode) (used : Nat) (uses : List Int) : Prop where
 len : uses.length = ns.length
 le : used ≤ ns.length
 lo : ∀ (k : Nat) (u : Int),uses[k]? = some u → k < used → 1 ≤ u
 hi : ∀ (k : Nat) (u : Int),uses[k]? = some u → used ≤ k → u = 0
end Go.Proofs.YtnmjghcdccfphaaGreatDoor.TreeSpec
end
