import Derived.Test.YteamlijbkldlhaaGreatDoorLawD
import Derived.Test.YteamlijbkldlhaaGreatDoorKRef
import Derived.Test.YteamlijbkldlhaaGreatDoorKMB
import Derived.Test.YteamlijbkldlhaaGreatDoorKNF
import Derived.Test.YteamlijbkldlhaaGreatDoorKU8
section
set_option linter.unusedSimpArgs false
set_option linter.unusedVariables false
namespace Go.Proofs.YteamlijbkldlhaaGreatDoor
open Go.RowKit AclSpec
section
variable {H : Type} {enc : TypeId × Value → H} {w : World}
def inW (n : Int) : Prop := (Lit.int .i64 n).wf = true
theorem opens_i64 : Opens enc Tryz.prog w 3 inW (fun n => [intL n]) := opens_int Tryz.underlying3
def okAce (a : Ace) : Prop := inW a.kind ∧ inW a.id ∧ inW a.perm
theorem opens_ace : Opens enc Tryz.prog w 86 okAce aceL := by
  intro fuel cs x h
  have hu := Tryz.underlying86
  have hl := struct_len hu h (k := 3) (by kernel_rfl)
  obtain ⟨a,ha,va⟩ := open_field hu h 0 rfl (o := 0) (k := 1) rfl rfl (by kernel_rfl) opens_i64
  obtain ⟨b,hb,vb⟩ := open_field hu h 1 rfl (o := 1) (k := 1) rfl rfl (by kernel_rfl) opens_i64
  obtain ⟨c,hc,vc⟩ := open_field hu h 2 rfl (o := 2) (k := 1) rfl rfl (by kernel_rfl) opens_i64
  exact ⟨⟨a,b,c⟩,⟨ha,hb,hc⟩,vals_field va (vals_field vb (vals_field vc (vals_last hl) rfl) rfl) rfl⟩
theorem opens_aces : Opens enc Tryz.prog w 23 (fun l => l.length ≤ maxLen ∧ ∀ a ∈ l,okAce a) (fun l => [acesL l]) :=
  opens_slice Tryz.underlying23 (by kernel_rfl) (by decide) aceL_len opens_ace
end
end Go.Proofs.YteamlijbkldlhaaGreatDoor
end
section
set_option linter.unusedSimpArgs false
set_option linter.unusedVariables false
namespace Go.Proofs.YteamlijbkldlhaaGreatDoor
open Go.RowKit AclSpec MetaSpec
section
variable {H : Type} {enc : TypeId × Value → H} {w : World}
def okAttr (a : Attr) : Prop := a.name.length ≤ maxLen ∧ a.value.length ≤ maxLen
theorem opens_str : Opens enc Tryz.prog w 9 (fun l : List UInt8 => l.length ≤ maxLen) (fun l => [strL l]) := opens_string Tryz.underlying9
theorem opens_attr : Opens enc Tryz.prog w 83 okAttr attrL := by
  intro fuel cs x h
  have hu := Tryz.underlying83
  have hl := struct_len hu h (k := 2) (by kernel_rfl)
  obtain ⟨a,ha,va⟩ := open_field hu h 0 rfl (o := 0) (k := 1) rfl rfl (by kernel_rfl) opens_str
  obtain ⟨b,hb,vb⟩ := open_field hu h 1 rfl (o := 1) (k := 1) rfl rfl (by kernel_rfl) opens_str
  exact ⟨⟨a,b⟩,⟨ha,hb⟩,vals_field va (vals_field vb (vals_last hl) rfl) rfl⟩
theorem opens_attrs : Opens enc Tryz.prog w 22 (fun l => l.length ≤ maxLen ∧ ∀ a ∈ l,okAttr a) (fun l => [attrsL l]) :=
  opens_slice Tryz.underlying22 (by kernel_rfl) (by decide) attrL_len opens_attr
theorem opens_i64' : Opens enc Tryz.prog w 2 inW (fun n => [intL n]) := opens_int Tryz.underlying2
def okMeta (m : FMeta) : Prop := m.attrs.length ≤ maxLen ∧ m.acl.length ≤ maxLen ∧ (∀ a ∈ m.attrs,okAttr a)
theorem opens_meta : Opens enc Tryz.prog w 25 okMeta metaL := by
  intro fuel cs x h
  have hu := Tryz.underlying25
  have hl := struct_len hu h (k := 6) (by kernel_rfl)
  obtain ⟨a,ha,va⟩ := open_field hu h 0 rfl (o := 0) (k := 1) rfl rfl (by kernel_rfl) opens_i64
  obtain ⟨b,hb,vb⟩ := open_field hu h 1 rfl (o := 1) (k := 1) rfl rfl (by kernel_rfl) opens_i64
  obtain ⟨c,hc,vc⟩ := open_field hu h 2 rfl (o := 2) (k := 1) rfl rfl (by kernel_rfl) opens_i64
  obtain ⟨d,hd,vd⟩ := open_field hu h 3 rfl (o := 3) (k := 1) rfl rfl (by kernel_rfl) opens_i64'
  obtain ⟨e,he,ve⟩ := open_field hu h 4 rfl (o := 4) (k := 1) rfl rfl (by kernel_rfl) opens_attrs
  obtain ⟨f,hf,vf⟩ := open_field hu h 5 rfl (o := 5) (k := 1) rfl rfl (by kernel_rfl) opens_aces
  exact ⟨⟨a,b,c,d,e,f⟩,⟨he.1,hf.1,he.2⟩,vals_field va (vals_field vb (vals_field vc (vals_field vd (vals_field ve (vals_field vf (vals_last hl) rfl) rfl) rfl) rfl) rfl) rfl⟩
end
end Go.Proofs.YteamlijbkldlhaaGreatDoor
end
section
set_option linter.unusedSimpArgs false
set_option linter.unusedVariables false
namespace Go.Proofs.YteamlijbkldlhaaGreatDoor
open Go.RowKit AclSpec MetaSpec NodeSpec
section
variable {H : Type} {enc : TypeId × Value → H} {w : World}
def okPc (p : Piece) : Prop := inW p.pos ∧ p.dat.length ≤ maxLen
theorem opens_piece : Opens enc Tryz.prog w 33 okPc pieceL := by
  intro fuel cs x h
  have hu := Tryz.underlying33
  have hl := struct_len hu h (k := 2) (by kernel_rfl)
  obtain ⟨a,ha,va⟩ := open_field hu h 0 rfl (o := 0) (k := 1) rfl rfl (by kernel_rfl) opens_i64'
  obtain ⟨b,hb,vb⟩ := open_field hu h 1 rfl (o := 1) (k := 1) rfl rfl (by kernel_rfl) opens_str
  exact ⟨⟨a,b⟩,⟨ha,hb⟩,vals_field va (vals_field vb (vals_last hl) rfl) rfl⟩
theorem opens_pieces : Opens enc Tryz.prog w 26 (fun l => l.length ≤ maxLen ∧ ∀ a ∈ l,okPc a) (fun l => [piecesL l]) :=
  opens_slice Tryz.underlying26 (k := 2) (by kernel_rfl) (by decide) (fun _ => rfl) opens_piece
def okNode (n : FNode) : Prop := okLen n ∧ okMeta n.mt ∧ (∀ p ∈ n.dat,okPc p) ∧ n.target.length ≤ maxLen ∧ inW n.size
theorem opens_node : Opens enc Tryz.prog w 28 okNode nodeL := by
  intro fuel cs x h
  have hu := Tryz.underlying28
  have hl := struct_len hu h (k := 12) (by kernel_rfl)
  obtain ⟨a,ha,va⟩ := open_field hu h 0 rfl (o := 0) (k := 1) rfl rfl (by kernel_rfl) opens_i64
  obtain ⟨b,hb,vb⟩ := open_field hu h 1 rfl (o := 1) (k := 6) rfl rfl (by kernel_rfl) opens_meta
  obtain ⟨c,hc,vc⟩ := open_field hu h 2 rfl (o := 7) (k := 1) rfl rfl (by kernel_rfl) opens_i64'
  obtain ⟨d,hd,vd⟩ := open_field hu h 3 rfl (o := 8) (k := 1) rfl rfl (by kernel_rfl) opens_pieces
  obtain ⟨e,he,ve⟩ := open_field hu h 4 rfl (o := 9) (k := 1) rfl rfl (by kernel_rfl) opens_str
  obtain ⟨f,hf,vf⟩ := open_field hu h 5 rfl (o := 10) (k := 1) rfl rfl (by kernel_rfl) opens_i64
  obtain ⟨g,hg,vg⟩ := open_field hu h 6 rfl (o := 11) (k := 1) rfl rfl (by kernel_rfl) opens_i64
  exact ⟨⟨a,b,c,d,e,f,g⟩,⟨⟨hb.1,hb.2.1,hd.1⟩,hb,hd.2,he,hc⟩,vals_field va (vals_field vb (vals_field vc (vals_field vd (vals_field ve (vals_field vf (vals_field vg (vals_last hl) rfl) rfl) rfl) rfl) rfl) rfl) rfl⟩
end
end Go.Proofs.YteamlijbkldlhaaGreatDoor
end
section
set_option linter.unusedSimpArgs false
set_option linter.unusedVariables false
namespace Go.Proofs.YteamlijbkldlhaaGreatDoor
open Go.ChangeShapes Go.WideShapes Go.ChangeAt Go.RowKit AclSpec MetaSpec NodeSpec RecSpec
section
variable {H : Type} {enc : TypeId × Value → H} {w : World}
theorem u8_wf {n : Int} (h : (Lit.int .u8 n).wf = true) : (n.toNat.toUInt8.toNat : Int) = n := by
  have h1 : (decide (IntKind.u8.min ≤ n) && decide (n ≤ IntKind.u8.max)) = true := h
  rw [Bool.and_eq_true,decide_eq_true_eq,decide_eq_true_eq] at h1
  have h3 : IntKind.u8.min = 0 := by decide
  have h4 : IntKind.u8.max = 255 := by decide
  rw [show (n.toNat.toUInt8).toNat = n.toNat % 256 from rfl]
  omega
theorem opens_u8 : Opens enc Tryz.prog w 5 (fun _ => True) (fun c : UInt8 => [byL c]) := by
  intro fuel cs x h
  obtain ⟨n,hn,hv⟩ := opens_int Tryz.underlying5 fuel cs x h
  refine ⟨n.toNat.toUInt8,trivial,?_⟩
  show Vals _ _ _ [LV.lit (.int .u8 (n.toNat.toUInt8.toNat : Int))] _
  rw [u8_wf hn];exact hv
set_option maxRecDepth 100000 in
theorem arg_byte {r : Reach} {b0 : Nat} {v : Value} {d : DataW H} {ps : List MemPlace} (hval : Value.okWide Tryz.prog w r b0 5 v) (hd : DataW.Trod enc Tryz.prog w 0 (fun _ => true) true 5 v d ps) :
    ∃ a : UInt8,True ∧ Rep Tryz.prog w (bareGh (allS w)) (byL a) v := by
  obtain ⟨n,rfl⟩ := okWide_int Tryz.underlying5 hval
  exact arg_one (P := Tryz.prog) (t := 5) (E := byL) opens_u8 rfl hd
end
end Go.Proofs.YteamlijbkldlhaaGreatDoor
end
