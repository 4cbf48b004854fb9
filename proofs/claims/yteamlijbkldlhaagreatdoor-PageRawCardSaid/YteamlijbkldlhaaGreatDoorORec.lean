import Derived.Test.YteamlijbkldlhaaGreatDoorLawD
import Derived.Test.YteamlijbkldlhaaGreatDoorKRef
import Derived.Test.YteamlijbkldlhaaGreatDoorKMB
import Derived.Test.YteamlijbkldlhaaGreatDoorKNF
import Derived.Test.YteamlijbkldlhaaGreatDoorKU8
section
set_option linter.unusedSimpArgs false
set_option linter.unusedVariables false
namespace Go.Proofs.YteamlijbkldlhaaGreatDoor
open Go.RowKit AclSpec
section
variable {H : Type} {enc : TypeId × Value → H} {w : World}
def inW (n : Int) : Prop := (Lit.int .i64 n).wf = true
end
end Go.Proofs.YteamlijbkldlhaaGreatDoor
end
section
set_option linter.unusedSimpArgs false
set_option linter.unusedVariables false
namespace Go.Proofs.YteamlijbkldlhaaGreatDoor
open Go.RowKit AclSpec MetaSpec
section
variable {H : Type} {enc : TypeId × Value → H} {w : World}
def okAttr (a : Attr) : Prop := a.name.length ≤ maxLen ∧ a.value.length ≤ maxLen
def okMeta (m : FMeta) : Prop := m.attrs.length ≤ maxLen ∧ m.acl.length ≤ maxLen ∧ (∀ a ∈ m.attrs,okAttr a)
end
end Go.Proofs.YteamlijbkldlhaaGreatDoor
end
section
set_option linter.unusedSimpArgs false
set_option linter.unusedVariables false
namespace Go.Proofs.YteamlijbkldlhaaGreatDoor
open Go.RowKit AclSpec MetaSpec NodeSpec
section
variable {H : Type} {enc : TypeId × Value → H} {w : World}
def okPc (p : Piece) : Prop := inW p.pos ∧ p.dat.length ≤ maxLen
def okNode (n : FNode) : Prop := okLen n ∧ okMeta n.mt ∧ (∀ p ∈ n.dat,okPc p) ∧ n.target.length ≤ maxLen ∧ inW n.size
end
end Go.Proofs.YteamlijbkldlhaaGreatDoor
end
section
set_option linter.unusedSimpArgs false
set_option linter.unusedVariables false
namespace Go.Proofs.YteamlijbkldlhaaGreatDoor
open Go.ChangeShapes Go.WideShapes Go.ChangeAt Go.RowKit AclSpec MetaSpec NodeSpec RecSpec
section
variable {H : Type} {enc : TypeId × Value → H} {w : World}
theorem u8_wf {n : Int} (h : (Lit.int .u8 n).wf = true) : (n.toNat.toUInt8.toNat : Int) = n := by
  have h1 : (decide (IntKind.u8.min ≤ n) && decide (n ≤ IntKind.u8.max)) = true := h
  rw [Bool.and_eq_true,decide_eq_true_eq,decide_eq_true_eq] at h1
  have h3 : IntKind.u8.min = 0 := by decide
  have h4 : IntKind.u8.max = 255 := by decide
  rw [show (n.toNat.toUInt8).toNat = n.toNat % 256 from rfl]
  omega
theorem opens_u8 : Opens enc Tryz.prog w 5 (fun _ => True) (fun c : UInt8 => [byL c]) := by
  intro fuel cs x h
  obtain ⟨n,hn,hv⟩ := opens_int Tryz.underlying5 fuel cs x h
  refine ⟨n.toNat.toUInt8,trivial,?_⟩
  show Vals _ _ _ [LV.lit (.int .u8 (n.toNat.toUInt8.toNat : Int))] _
  rw [u8_wf hn];exact hv
theorem flat_one (l : List UInt8) : l.flatMap (fun c => [byL c]) = bL l := by
  unfold bL
  induction l with
  | nil => rfl
  | cons a r ih => rw [List.flatMap_cons,List.map_cons,ih];rfl
theorem opens_bytes : Opens enc Tryz.prog w 31 (fun l => l.length ≤ maxLen ∧ ∀ a ∈ l,True) (fun l => [bytesL' l]) := by
  intro fuel cs x h
  obtain ⟨l,hl,hv⟩ := opens_slice Tryz.underlying31 (k := 1) (by kernel_rfl) (by decide) (fun _ => rfl) opens_u8 fuel cs x h
  refine ⟨l,hl,?_⟩
  have hv : Vals _ _ _ [LV.sl l.length (l.flatMap (fun c => [byL c])) .no] _ := hv
  rw [flat_one] at hv
  exact hv
def okRec (r : Rec) : Prop := okNode r.node ∧ r.node.mt.time < 9223372036854775808 ∧ r.path.length ≤ maxLen
end
end Go.Proofs.YteamlijbkldlhaaGreatDoor
end
