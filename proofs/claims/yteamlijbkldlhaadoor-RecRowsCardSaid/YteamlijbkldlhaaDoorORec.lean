import Derived.Test.YteamlijbkldlhaaDoorLawD
import Derived.Test.YteamlijbkldlhaaDoorKRef
import Derived.Test.YteamlijbkldlhaaDoorKM2
import Derived.Test.YteamlijbkldlhaaDoorKNF
import Derived.Test.YteamlijbkldlhaaDoorKU8
section
set_option linter.unusedSimpArgs false
set_option linter.unusedVariables false
namespace Go.Proofs.YteamlijbkldlhaaDoor
open Go.RowKit AclSpec
section
variable {H : Type} {enc : TypeId × Value → H} {w : World}
def inW (n : Int) : Prop := (Lit.int .i64 n).wf = true
theorem opens_i64 : Opens enc Tryd.prog w 3 inW (fun n => [intL n]) := opens_int Tryd.underlying3
def okAce (a : Ace) : Prop := inW a.kind ∧ inW a.id ∧ inW a.perm
theorem opens_ace : Opens enc Tryd.prog w 55 okAce aceL := by
  intro fuel cs x h
  have hu := Tryd.underlying55
  have hl := struct_len hu h (k := 3) (by kernel_rfl)
  obtain ⟨a,ha,va⟩ := open_field hu h 0 rfl (o := 0) (k := 1) rfl rfl (by kernel_rfl) opens_i64
  obtain ⟨b,hb,vb⟩ := open_field hu h 1 rfl (o := 1) (k := 1) rfl rfl (by kernel_rfl) opens_i64
  obtain ⟨c,hc,vc⟩ := open_field hu h 2 rfl (o := 2) (k := 1) rfl rfl (by kernel_rfl) opens_i64
  exact ⟨⟨a,b,c⟩,⟨ha,hb,hc⟩,vals_field va (vals_field vb (vals_field vc (vals_last hl) rfl) rfl) rfl⟩
theorem opens_aces : Opens enc Tryd.prog w 23 (fun l => l.length ≤ maxLen ∧ ∀ a ∈ l,okAce a) (fun l => [acesL l]) :=
  opens_slice Tryd.underlying23 (by kernel_rfl) (by decide) aceL_len opens_ace
end
end Go.Proofs.YteamlijbkldlhaaDoor
end
section
set_option linter.unusedSimpArgs false
set_option linter.unusedVariables false
namespace Go.Proofs.YteamlijbkldlhaaDoor
open Go.RowKit AclSpec MetaSpec
section
variable {H : Type} {enc : TypeId × Value → H} {w : World}
def okAttr (a : Attr) : Prop := a.name.length ≤ maxLen ∧ a.value.length ≤ maxLen
theorem opens_str : Opens enc Tryd.prog w 9 (fun l : List UInt8 => l.length ≤ maxLen) (fun l => [strL l]) := opens_string Tryd.underlying9
theorem opens_attr : Opens enc Tryd.prog w 53 okAttr attrL := by
  intro fuel cs x h
  have hu := Tryd.underlying53
  have hl := struct_len hu h (k := 2) (by kernel_rfl)
  obtain ⟨a,ha,va⟩ := open_field hu h 0 rfl (o := 0) (k := 1) rfl rfl (by kernel_rfl) opens_str
  obtain ⟨b,hb,vb⟩ := open_field hu h 1 rfl (o := 1) (k := 1) rfl rfl (by kernel_rfl) opens_str
  exact ⟨⟨a,b⟩,⟨ha,hb⟩,vals_field va (vals_field vb (vals_last hl) rfl) rfl⟩
theorem opens_attrs : Opens enc Tryd.prog w 22 (fun l => l.length ≤ maxLen ∧ ∀ a ∈ l,okAttr a) (fun l => [attrsL l]) :=
  opens_slice Tryd.underlying22 (by kernel_rfl) (by decide) attrL_len opens_attr
theorem opens_i64' : Opens enc Tryd.prog w 2 inW (fun n => [intL n]) := opens_int Tryd.underlying2
def okMeta (m : FMeta) : Prop := m.attrs.length ≤ maxLen ∧ m.acl.length ≤ maxLen ∧ (∀ a ∈ m.attrs,okAttr a)
end
end Go.Proofs.YteamlijbkldlhaaDoor
end
section
set_option linter.unusedSimpArgs false
set_option linter.unusedVariables false
namespace Go.Proofs.YteamlijbkldlhaaDoor
open Go.RowKit AclSpec MetaSpec NodeSpec
section
variable {H : Type} {enc : TypeId × Value → H} {w : World}
def okPc (p : Piece) : Prop := inW p.pos ∧ p.dat.length ≤ maxLen
theorem opens_piece : Opens enc Tryd.prog w 48 okPc pieceL := by
  intro fuel cs x h
  have hu := Tryd.underlying48
  have hl := struct_len hu h (k := 2) (by kernel_rfl)
  obtain ⟨a,ha,va⟩ := open_field hu h 0 rfl (o := 0) (k := 1) rfl rfl (by kernel_rfl) opens_i64'
  obtain ⟨b,hb,vb⟩ := open_field hu h 1 rfl (o := 1) (k := 1) rfl rfl (by kernel_rfl) opens_str
  exact ⟨⟨a,b⟩,⟨ha,hb⟩,vals_field va (vals_field vb (vals_last hl) rfl) rfl⟩
theorem opens_pieces : Opens enc Tryd.prog w 26 (fun l => l.length ≤ maxLen ∧ ∀ a ∈ l,okPc a) (fun l => [piecesL l]) :=
  opens_slice Tryd.underlying26 (k := 2) (by kernel_rfl) (by decide) (fun _ => rfl) opens_piece
def okNode (n : FNode) : Prop := okLen n ∧ okMeta n.mt ∧ (∀ p ∈ n.dat,okPc p) ∧ n.target.length ≤ maxLen ∧ inW n.size
end
end Go.Proofs.YteamlijbkldlhaaDoor
end
section
set_option linter.unusedSimpArgs false
set_option linter.unusedVariables false
namespace Go.Proofs.YteamlijbkldlhaaDoor
open Go.ChangeShapes Go.WideShapes Go.ChangeAt Go.RowKit AclSpec MetaSpec NodeSpec RecSpec
section
variable {H : Type} {enc : TypeId × Value → H} {w : World}
theorem inW_time {n : Int} (h : inW n) : n < 9223372036854775808 := by
  have h1 : (decide (IntKind.i64.min ≤ n) && decide (n ≤ IntKind.i64.max)) = true := h
  rw [Bool.and_eq_true,decide_eq_true_eq,decide_eq_true_eq] at h1
  have h4 : IntKind.i64.max = 9223372036854775807 := by decide
  omega
theorem opens_metaT : Opens enc Tryd.prog w 25 (fun m => okMeta m ∧ m.time < 9223372036854775808) metaL := by
  intro fuel cs x h
  have hu := Tryd.underlying25
  have hl := struct_len hu h (k := 6) (by kernel_rfl)
  obtain ⟨a,ha,va⟩ := open_field hu h 0 rfl (o := 0) (k := 1) rfl rfl (by kernel_rfl) opens_i64
  obtain ⟨b,hb,vb⟩ := open_field hu h 1 rfl (o := 1) (k := 1) rfl rfl (by kernel_rfl) opens_i64
  obtain ⟨c,hc,vc⟩ := open_field hu h 2 rfl (o := 2) (k := 1) rfl rfl (by kernel_rfl) opens_i64
  obtain ⟨d,hd,vd⟩ := open_field hu h 3 rfl (o := 3) (k := 1) rfl rfl (by kernel_rfl) opens_i64'
  obtain ⟨e,he,ve⟩ := open_field hu h 4 rfl (o := 4) (k := 1) rfl rfl (by kernel_rfl) opens_attrs
  obtain ⟨f,hf,vf⟩ := open_field hu h 5 rfl (o := 5) (k := 1) rfl rfl (by kernel_rfl) opens_aces
  exact ⟨⟨a,b,c,d,e,f⟩,⟨⟨he.1,hf.1,he.2⟩,inW_time hd⟩,vals_field va (vals_field vb (vals_field vc (vals_field vd (vals_field ve (vals_field vf (vals_last hl) rfl) rfl) rfl) rfl) rfl) rfl⟩
theorem opens_nodeT : Opens enc Tryd.prog w 28 (fun n => okNode n ∧ n.mt.time < 9223372036854775808) nodeL := by
  intro fuel cs x h
  have hu := Tryd.underlying28
  have hl := struct_len hu h (k := 12) (by kernel_rfl)
  obtain ⟨a,ha,va⟩ := open_field hu h 0 rfl (o := 0) (k := 1) rfl rfl (by kernel_rfl) opens_i64
  obtain ⟨b,hb,vb⟩ := open_field hu h 1 rfl (o := 1) (k := 6) rfl rfl (by kernel_rfl) opens_metaT
  obtain ⟨c,hc,vc⟩ := open_field hu h 2 rfl (o := 7) (k := 1) rfl rfl (by kernel_rfl) opens_i64'
  obtain ⟨d,hd,vd⟩ := open_field hu h 3 rfl (o := 8) (k := 1) rfl rfl (by kernel_rfl) opens_pieces
  obtain ⟨e,he,ve⟩ := open_field hu h 4 rfl (o := 9) (k := 1) rfl rfl (by kernel_rfl) opens_str
  obtain ⟨f,hf,vf⟩ := open_field hu h 5 rfl (o := 10) (k := 1) rfl rfl (by kernel_rfl) opens_i64
  obtain ⟨g,hg,vg⟩ := open_field hu h 6 rfl (o := 11) (k := 1) rfl rfl (by kernel_rfl) opens_i64
  exact ⟨⟨a,b,c,d,e,f,g⟩,⟨⟨⟨hb.1.1,hb.1.2.1,hd.1⟩,hb.1,hd.2,he,hc⟩,hb.2⟩,vals_field va (vals_field vb (vals_field vc (vals_field vd (vals_field ve (vals_field vf (vals_field vg (vals_last hl) rfl) rfl) rfl) rfl) rfl) rfl) rfl⟩
def okRec (r : Rec) : Prop := okNode r.node ∧ r.node.mt.time < 9223372036854775808 ∧ r.path.length ≤ maxLen
theorem opens_rec : Opens enc Tryd.prog w 30 okRec recL := by
  intro fuel cs x h
  have hu := Tryd.underlying30
  have hl := struct_len hu h (k := 15) (by kernel_rfl)
  obtain ⟨a,ha,va⟩ := open_field hu h 0 rfl (o := 0) (k := 1) rfl rfl (by kernel_rfl) opens_str
  obtain ⟨b,hb,vb⟩ := open_field hu h 1 rfl (o := 1) (k := 1) rfl rfl (by kernel_rfl) opens_i64
  obtain ⟨c,hc,vc⟩ := open_field hu h 2 rfl (o := 2) (k := 12) rfl rfl (by kernel_rfl) opens_nodeT
  obtain ⟨d,hd,vd⟩ := open_field hu h 3 rfl (o := 14) (k := 1) rfl rfl (by kernel_rfl) opens_i64
  refine ⟨⟨a,b,c,d⟩,⟨hc.1,hc.2,ha⟩,?_⟩
  have := vals_field va (vals_field vb (vals_field vc (vals_field vd (vals_last hl) rfl) rfl) rfl) rfl
  rw [List.append_nil] at this
  exact this
theorem opens_recs : Opens enc Tryd.prog w 41 (fun l => l.length ≤ maxLen ∧ ∀ a ∈ l,okRec a) (fun l => [rowL recL l]) :=
  opens_slice Tryd.underlying41 (k := 15) (by kernel_rfl) (by decide) (fun _ => rfl) opens_rec
end
end Go.Proofs.YteamlijbkldlhaaDoor
end
