import Derived.Test.YtaeefaehpfjmlaaOMeta
import Derived.Test.YtaeefaehpfjmlaaKN2
set_option linter.unusedSimpArgs false
set_option linter.unusedVariables false
namespace Go.Proofs.Ytaeefaehpfjmlaa
open Go.RowKit AclSpec MetaSpec NodeSpec
section
variable {H : Type} {enc : TypeId × Value → H} {w : World}
def okPc (p : Piece) : Prop := inW p.pos ∧ p.dat.length ≤ maxLen
theorem opens_piece : Opens enc Try.prog w 55 okPc pieceL := by
  intro fuel cs x h
  have hu := Try.underlying55
  have hl := struct_len hu h (k := 2) (by kernel_rfl)
  obtain ⟨a, ha, va⟩ := open_field hu h 0 rfl (o := 0) (k := 1) rfl rfl (by kernel_rfl) opens_i64'
  obtain ⟨b, hb, vb⟩ := open_field hu h 1 rfl (o := 1) (k := 1) rfl rfl (by kernel_rfl) opens_str
  exact ⟨⟨a, b⟩, ⟨ha, hb⟩, vals_field va (vals_field vb (vals_last hl) rfl) rfl⟩
theorem opens_pieces : Opens enc Try.prog w 26 (fun l => l.length ≤ maxLen ∧ ∀ a ∈ l, okPc a) (fun l => [piecesL l]) :=
  opens_slice Try.underlying26 (k := 2) (by kernel_rfl) (by decide) (fun _ => rfl) opens_piece
def okNode (n : FNode) : Prop := okLen n ∧ okMeta n.mt ∧ (∀ p ∈ n.dat, okPc p) ∧ n.target.length ≤ maxLen ∧ inW n.size
theorem opens_node : Opens enc Try.prog w 28 okNode nodeL := by
  intro fuel cs x h
  have hu := Try.underlying28
  have hl := struct_len hu h (k := 12) (by kernel_rfl)
  obtain ⟨a, ha, va⟩ := open_field hu h 0 rfl (o := 0) (k := 1) rfl rfl (by kernel_rfl) opens_i64
  obtain ⟨b, hb, vb⟩ := open_field hu h 1 rfl (o := 1) (k := 6) rfl rfl (by kernel_rfl) opens_meta
  obtain ⟨c, hc, vc⟩ := open_field hu h 2 rfl (o := 7) (k := 1) rfl rfl (by kernel_rfl) opens_i64'
  obtain ⟨d, hd, vd⟩ := open_field hu h 3 rfl (o := 8) (k := 1) rfl rfl (by kernel_rfl) opens_pieces
  obtain ⟨e, he, ve⟩ := open_field hu h 4 rfl (o := 9) (k := 1) rfl rfl (by kernel_rfl) opens_str
  obtain ⟨f, hf, vf⟩ := open_field hu h 5 rfl (o := 10) (k := 1) rfl rfl (by kernel_rfl) opens_i64
  obtain ⟨g, hg, vg⟩ := open_field hu h 6 rfl (o := 11) (k := 1) rfl rfl (by kernel_rfl) opens_i64
  exact ⟨⟨a, b, c, d, e, f, g⟩, ⟨⟨hb.1, hb.2.1, hd.1⟩, hb, hd.2, he, hc⟩, vals_field va (vals_field vb (vals_field vc (vals_field vd (vals_field ve (vals_field vf (vals_field vg (vals_last hl) rfl) rfl) rfl) rfl) rfl) rfl) rfl⟩
end
end Go.Proofs.Ytaeefaehpfjmlaa
