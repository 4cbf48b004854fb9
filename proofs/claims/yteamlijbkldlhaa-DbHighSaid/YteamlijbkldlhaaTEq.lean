import Derived.Test.YteamlijbkldlhaaTSpec
set_option linter.unusedSimpArgs false
set_option linter.unusedVariables false
namespace Go.Proofs.Yteamlijbkldlhaa.TreeSpec
open AclSpec MetaSpec NodeSpec PathSpec

structure UseInv (ns : List FNode) (used : Nat) (uses : List Int) : Prop where
  len : uses.length = ns.length
  le : used ≤ ns.length
  lo : ∀ (k : Nat) (u : Int),uses[k]? = some u → k < used → 1 ≤ u
  hi : ∀ (k : Nat) (u : Int),uses[k]? = some u → used ≤ k → u = 0
end Go.Proofs.Yteamlijbkldlhaa.TreeSpec
