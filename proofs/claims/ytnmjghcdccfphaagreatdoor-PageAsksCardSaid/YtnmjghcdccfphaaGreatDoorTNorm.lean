import Derived.Test.YtnmjghcdccfphaaGreatDoorISpec
set_option linter.unusedSimpArgs false
set_option linter.unusedVariables false
namespace Go.Proofs.YtnmjghcdccfphaaGreatDoor.TreeSpec
open AclSpec MetaSpec NodeSpec PathSpec

structure Ren where
 seen : List Int
 ents : List TEnt
 nodes : List FNode
def seenAt (l : List Int) (i : Int) : Int := (l[i.toNat]?).getD 0
structure RenInv (ns : List FNode) (pre : List TEnt) (r : Ren) : Prop where
 len : r.seen.length = ns.length
 old : ∀ e ∈ pre,∃ k : Nat,seenAt r.seen e.node = (k : Int) + 1 ∧ r.nodes[k]? = some (nodeG ns e.node)
 new : ∀ i : Int,seenAt r.seen i ≠ 0 → ∃ e ∈ pre,e.node.toNat = i.toNat
theorem nodeG_nat (ns : List FNode) {i j : Int} (h : i.toNat = j.toNat) : nodeG ns i = nodeG ns j := by unfold nodeG;rw [h]
def Once (ns : List FNode) (l : List TEnt) : Prop := l.Pairwise fun x y => x.node.toNat = y.node.toNat → (nodeG ns y.node).kind ≠ 1
structure Good (t : FTree) : Prop where
 may : ∀ e ∈ t.ents,mayB e.path = true
 dist : t.ents.Pairwise fun x y => x.path ≠ y.path
 range : ∀ e ∈ t.ents,0 ≤ e.node ∧ e.node < t.nodes.length
 nodes : ∀ e ∈ t.ents,mayN (nodeG t.nodes e.node) = true
 once : Once t.nodes t.ents
 root : ∃ e ∈ t.ents,e.path = [] ∧ (nodeG t.nodes e.node).kind = 1
 up : ∀ e ∈ t.ents,e.path ≠ [] → ∃ p ∈ t.ents,p.path = (parentB e.path).1 ∧ (nodeG t.nodes p.node).kind = 1
 len : t.ents.length ≤ 100
theorem Once.perm {ns : List FNode} {l m : List TEnt} (h : Once ns l) (p : m.Perm l) : Once ns m := by
 unfold Once at *
 refine (List.Perm.pairwise_iff ?_ p.symm).1 h
 intro x y hxy he
 rw [← nodeG_nat ns he]
 exact hxy he.symm
end Go.Proofs.YtnmjghcdccfphaaGreatDoor.TreeSpec
