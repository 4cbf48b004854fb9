import Derived.Test.YtaeefaehpfjmlaaGSort
import Derived.Test.YtaeefaehpfjmlaaASpec
set_option linter.unusedSimpArgs false
set_option linter.unusedVariables false
namespace Go.Proofs.Ytaeefaehpfjmlaa.MetaSpec
open GSort AclSpec

structure Attr where
  name : List UInt8
  value : List UInt8
  deriving DecidableEq, Inhabited
structure FMeta where
  mode : Int
  uid : Int
  gid : Int
  time : Int
  attrs : List Attr
  acl : List Ace
  deriving DecidableEq, Inhabited
def goodT (a : Attr) : Bool := decide (1 ≤ a.name.length) && decide (a.name.length ≤ 20) && decide (a.value.length ≤ 200)
def chkT (l : List Attr) (i : Nat) : Bool := chkGAt Attr.name Op.bytesLess goodT l i
def idB (n : Int) : Bool := decide (0 ≤ n) && decide (n ≤ 2147483647)
def mayM (m : FMeta) : Bool := decide (0 ≤ m.mode) && decide (m.mode ≤ 4095) && idB m.uid && idB m.gid && decide (0 ≤ m.time) && decide (m.attrs.length ≤ 8) && chkT m.attrs 0 && mayA m.acl
def diffM (a b : FMeta) : List UInt8 :=
  if ¬ a.mode = b.mode then [109, 111, 100, 101]
  else if ¬ a.uid = b.uid then [117, 105, 100]
  else if ¬ a.gid = b.gid then [103, 105, 100]
  else if ¬ a.time = b.time then [116, 105, 109, 101]
  else if ¬ a.attrs = b.attrs then [97, 116, 116, 114, 115]
  else if ¬ a.acl = b.acl then [97, 99, 108]
  else []
theorem diffM_nil {a b : FMeta} : diffM a b = [] ↔ a = b := by
  unfold diffM
  constructor
  · intro h
    repeat' split at h
    all_goals first | (cases h; done) | (cases a; cases b; simp_all; done)
  · rintro rfl; simp
end Go.Proofs.Ytaeefaehpfjmlaa.MetaSpec
