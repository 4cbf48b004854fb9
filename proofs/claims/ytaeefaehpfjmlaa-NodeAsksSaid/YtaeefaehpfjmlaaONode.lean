import Derived.Test.YtaeefaehpfjmlaaOpen
import Derived.Test.YtaeefaehpfjmlaaKAcl
import Derived.Test.YtaeefaehpfjmlaaKM1
import Derived.Test.YtaeefaehpfjmlaaKN2
section
set_option linter.unusedSimpArgs false
set_option linter.unusedVariables false
namespace Go.Proofs.Ytaeefaehpfjmlaa
open Go.RowKit AclSpec
section
variable {H : Type} {enc : TypeId × Value → H} {w : World}
def inW (n : Int) : Prop := (Lit.int .i64 n).wf = true
theorem opens_i64 : Opens enc Try.prog w 3 inW (fun n => [intL n]) := opens_int Try.underlying3
def okAce (a : Ace) : Prop := inW a.kind ∧ inW a.id ∧ inW a.perm
theorem opens_ace : Opens enc Try.prog w 88 okAce aceL := by
  intro fuel cs x h
  have hu := Try.underlying88
  have hl := struct_len hu h (k := 3) (by kernel_rfl)
  obtain ⟨a, ha, va⟩ := open_field hu h 0 rfl (o := 0) (k := 1) rfl rfl (by kernel_rfl) opens_i64
  obtain ⟨b, hb, vb⟩ := open_field hu h 1 rfl (o := 1) (k := 1) rfl rfl (by kernel_rfl) opens_i64
  obtain ⟨c, hc, vc⟩ := open_field hu h 2 rfl (o := 2) (k := 1) rfl rfl (by kernel_rfl) opens_i64
  exact ⟨⟨a, b, c⟩, ⟨ha, hb, hc⟩, vals_field va (vals_field vb (vals_field vc (vals_last hl) rfl) rfl) rfl⟩
theorem opens_aces : Opens enc Try.prog w 23 (fun l => l.length ≤ maxLen ∧ ∀ a ∈ l, okAce a) (fun l => [acesL l]) :=
  opens_slice Try.underlying23 (by kernel_rfl) (by decide) aceL_len opens_ace
end
end Go.Proofs.Ytaeefaehpfjmlaa
end
section
set_option linter.unusedSimpArgs false
set_option linter.unusedVariables false
namespace Go.Proofs.Ytaeefaehpfjmlaa
open Go.RowKit AclSpec MetaSpec
section
variable {H : Type} {enc : TypeId × Value → H} {w : World}
def okAttr (a : Attr) : Prop := a.name.length ≤ maxLen ∧ a.value.length ≤ maxLen
theorem opens_str : Opens enc Try.prog w 9 (fun l : List UInt8 => l.length ≤ maxLen) (fun l => [strL l]) := opens_string Try.underlying9
theorem opens_attr : Opens enc Try.prog w 71 okAttr attrL := by
  intro fuel cs x h
  have hu := Try.underlying71
  have hl := struct_len hu h (k := 2) (by kernel_rfl)
  obtain ⟨a, ha, va⟩ := open_field hu h 0 rfl (o := 0) (k := 1) rfl rfl (by kernel_rfl) opens_str
  obtain ⟨b, hb, vb⟩ := open_field hu h 1 rfl (o := 1) (k := 1) rfl rfl (by kernel_rfl) opens_str
  exact ⟨⟨a, b⟩, ⟨ha, hb⟩, vals_field va (vals_field vb (vals_last hl) rfl) rfl⟩
theorem opens_attrs : Opens enc Try.prog w 22 (fun l => l.length ≤ maxLen ∧ ∀ a ∈ l, okAttr a) (fun l => [attrsL l]) :=
  opens_slice Try.underlying22 (by kernel_rfl) (by decide) attrL_len opens_attr
theorem opens_i64' : Opens enc Try.prog w 2 inW (fun n => [intL n]) := opens_int Try.underlying2
def okMeta (m : FMeta) : Prop := m.attrs.length ≤ maxLen ∧ m.acl.length ≤ maxLen ∧ (∀ a ∈ m.attrs, okAttr a)
theorem opens_meta : Opens enc Try.prog w 25 okMeta metaL := by
  intro fuel cs x h
  have hu := Try.underlying25
  have hl := struct_len hu h (k := 6) (by kernel_rfl)
  obtain ⟨a, ha, va⟩ := open_field hu h 0 rfl (o := 0) (k := 1) rfl rfl (by kernel_rfl) opens_i64
  obtain ⟨b, hb, vb⟩ := open_field hu h 1 rfl (o := 1) (k := 1) rfl rfl (by kernel_rfl) opens_i64
  obtain ⟨c, hc, vc⟩ := open_field hu h 2 rfl (o := 2) (k := 1) rfl rfl (by kernel_rfl) opens_i64
  obtain ⟨d, hd, vd⟩ := open_field hu h 3 rfl (o := 3) (k := 1) rfl rfl (by kernel_rfl) opens_i64'
  obtain ⟨e, he, ve⟩ := open_field hu h 4 rfl (o := 4) (k := 1) rfl rfl (by kernel_rfl) opens_attrs
  obtain ⟨f, hf, vf⟩ := open_field hu h 5 rfl (o := 5) (k := 1) rfl rfl (by kernel_rfl) opens_aces
  exact ⟨⟨a, b, c, d, e, f⟩, ⟨he.1, hf.1, he.2⟩, vals_field va (vals_field vb (vals_field vc (vals_field vd (vals_field ve (vals_field vf (vals_last hl) rfl) rfl) rfl) rfl) rfl) rfl⟩
end
end Go.Proofs.Ytaeefaehpfjmlaa
end
section
set_option linter.unusedSimpArgs false
set_option linter.unusedVariables false
namespace Go.Proofs.Ytaeefaehpfjmlaa
open Go.RowKit AclSpec MetaSpec NodeSpec
section
variable {H : Type} {enc : TypeId × Value → H} {w : World}
def okPc (p : Piece) : Prop := inW p.pos ∧ p.dat.length ≤ maxLen
theorem opens_piece : Opens enc Try.prog w 55 okPc pieceL := by
  intro fuel cs x h
  have hu := Try.underlying55
  have hl := struct_len hu h (k := 2) (by kernel_rfl)
  obtain ⟨a, ha, va⟩ := open_field hu h 0 rfl (o := 0) (k := 1) rfl rfl (by kernel_rfl) opens_i64'
  obtain ⟨b, hb, vb⟩ := open_field hu h 1 rfl (o := 1) (k := 1) rfl rfl (by kernel_rfl) opens_str
  exact ⟨⟨a, b⟩, ⟨ha, hb⟩, vals_field va (vals_field vb (vals_last hl) rfl) rfl⟩
theorem opens_pieces : Opens enc Try.prog w 26 (fun l => l.length ≤ maxLen ∧ ∀ a ∈ l, okPc a) (fun l => [piecesL l]) :=
  opens_slice Try.underlying26 (k := 2) (by kernel_rfl) (by decide) (fun _ => rfl) opens_piece
def okNode (n : FNode) : Prop := okLen n ∧ okMeta n.mt ∧ (∀ p ∈ n.dat, okPc p) ∧ n.target.length ≤ maxLen ∧ inW n.size
theorem opens_node : Opens enc Try.prog w 28 okNode nodeL := by
  intro fuel cs x h
  have hu := Try.underlying28
  have hl := struct_len hu h (k := 12) (by kernel_rfl)
  obtain ⟨a, ha, va⟩ := open_field hu h 0 rfl (o := 0) (k := 1) rfl rfl (by kernel_rfl) opens_i64
  obtain ⟨b, hb, vb⟩ := open_field hu h 1 rfl (o := 1) (k := 6) rfl rfl (by kernel_rfl) opens_meta
  obtain ⟨c, hc, vc⟩ := open_field hu h 2 rfl (o := 7) (k := 1) rfl rfl (by kernel_rfl) opens_i64'
  obtain ⟨d, hd, vd⟩ := open_field hu h 3 rfl (o := 8) (k := 1) rfl rfl (by kernel_rfl) opens_pieces
  obtain ⟨e, he, ve⟩ := open_field hu h 4 rfl (o := 9) (k := 1) rfl rfl (by kernel_rfl) opens_str
  obtain ⟨f, hf, vf⟩ := open_field hu h 5 rfl (o := 10) (k := 1) rfl rfl (by kernel_rfl) opens_i64
  obtain ⟨g, hg, vg⟩ := open_field hu h 6 rfl (o := 11) (k := 1) rfl rfl (by kernel_rfl) opens_i64
  exact ⟨⟨a, b, c, d, e, f, g⟩, ⟨⟨hb.1, hb.2.1, hd.1⟩, hb, hd.2, he, hc⟩, vals_field va (vals_field vb (vals_field vc (vals_field vd (vals_field ve (vals_field vf (vals_field vg (vals_last hl) rfl) rfl) rfl) rfl) rfl) rfl) rfl⟩
end
end Go.Proofs.Ytaeefaehpfjmlaa
end
