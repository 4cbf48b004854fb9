import Derived.Test.YteamlijbkldlhaaRBare
import Derived.Test.YteamlijbkldlhaaPlain
set_option linter.unusedSimpArgs false
set_option linter.unusedVariables false
namespace Go.Proofs.Yteamlijbkldlhaa.TreeSpec
open AclSpec MetaSpec NodeSpec PathSpec

structure TEnt where
  path : List UInt8
  node : Int
  deriving DecidableEq,Inhabited
structure FTree where
  ents : List TEnt
  nodes : List FNode
  deriving DecidableEq,Inhabited
def findT : List TEnt → List UInt8 → Int × Bool
  | [],_ => (0,false)
  | e :: r,p => if e.path = p then (e.node,true) else findT r p
end Go.Proofs.Yteamlijbkldlhaa.TreeSpec
