import Derived.Test.YtnmjghcdccfphaaGreatDoorTEq
import Derived.Test.YtnmjghcdccfphaaGreatDoorPlain
set_option linter.unusedSimpArgs false
set_option linter.unusedVariables false
namespace Go.Proofs.YtnmjghcdccfphaaGreatDoor.TreeSpec
open AclSpec MetaSpec NodeSpec PathSpec

def Rise (l : List TEnt) : Prop := l.Pairwise (fun x y => lessB x.path y.path = true) ∧ ∀ e ∈ l,mayB e.path = true
theorem Rise.tail {x : TEnt} {l : List TEnt} (h : Rise (x :: l)) : Rise l := ⟨(List.pairwise_cons.1 h.1).2,fun e he => h.2 e (by simp [he])⟩
structure Valid (t : FTree) : Prop where
 head : ∃ e r,t.ents = e :: r ∧ e.path = [] ∧ Rise (e :: r) ∧ ∀ x ∈ r,x.path ≠ []
 range : ∀ e ∈ t.ents,0 ≤ e.node ∧ e.node < t.nodes.length
def lone : List TEnt → List TEnt → List UInt8
 | [],_ => []
 | e :: r,b => if (findT b e.path).2 then lone r b else e.path
structure TPair where
 path : List UInt8
 a : Int
 b : Int
 deriving DecidableEq,Inhabited
def nodeG (ns : List FNode) (i : Int) : FNode := (ns[i.toNat]?).getD default
end Go.Proofs.YtnmjghcdccfphaaGreatDoor.TreeSpec
