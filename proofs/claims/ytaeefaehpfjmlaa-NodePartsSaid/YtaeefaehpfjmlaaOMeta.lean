import Derived.Test.YtaeefaehpfjmlaaOAce
import Derived.Test.YtaeefaehpfjmlaaKM1
set_option linter.unusedSimpArgs false
set_option linter.unusedVariables false
namespace Go.Proofs.Ytaeefaehpfjmlaa
open Go.RowKit AclSpec MetaSpec
section
variable {H : Type} {enc : TypeId × Value → H} {w : World}
def okAttr (a : Attr) : Prop := a.name.length ≤ maxLen ∧ a.value.length ≤ maxLen
theorem opens_str : Opens enc Try.prog w 9 (fun l : List UInt8 => l.length ≤ maxLen) (fun l => [strL l]) := opens_string Try.underlying9
theorem opens_attr : Opens enc Try.prog w 71 okAttr attrL := by
  intro fuel cs x h
  have hu := Try.underlying71
  have hl := struct_len hu h (k := 2) (by kernel_rfl)
  obtain ⟨a, ha, va⟩ := open_field hu h 0 rfl (o := 0) (k := 1) rfl rfl (by kernel_rfl) opens_str
  obtain ⟨b, hb, vb⟩ := open_field hu h 1 rfl (o := 1) (k := 1) rfl rfl (by kernel_rfl) opens_str
  exact ⟨⟨a, b⟩, ⟨ha, hb⟩, vals_field va (vals_field vb (vals_last hl) rfl) rfl⟩
theorem opens_attrs : Opens enc Try.prog w 22 (fun l => l.length ≤ maxLen ∧ ∀ a ∈ l, okAttr a) (fun l => [attrsL l]) :=
  opens_slice Try.underlying22 (by kernel_rfl) (by decide) attrL_len opens_attr
theorem opens_i64' : Opens enc Try.prog w 2 inW (fun n => [intL n]) := opens_int Try.underlying2
def okMeta (m : Meta) : Prop := m.attrs.length ≤ maxLen ∧ m.acl.length ≤ maxLen ∧ (∀ a ∈ m.attrs, okAttr a)
theorem opens_meta : Opens enc Try.prog w 25 okMeta metaL := by
  intro fuel cs x h
  have hu := Try.underlying25
  have hl := struct_len hu h (k := 6) (by kernel_rfl)
  obtain ⟨a, ha, va⟩ := open_field hu h 0 rfl (o := 0) (k := 1) rfl rfl (by kernel_rfl) opens_i64
  obtain ⟨b, hb, vb⟩ := open_field hu h 1 rfl (o := 1) (k := 1) rfl rfl (by kernel_rfl) opens_i64
  obtain ⟨c, hc, vc⟩ := open_field hu h 2 rfl (o := 2) (k := 1) rfl rfl (by kernel_rfl) opens_i64
  obtain ⟨d, hd, vd⟩ := open_field hu h 3 rfl (o := 3) (k := 1) rfl rfl (by kernel_rfl) opens_i64'
  obtain ⟨e, he, ve⟩ := open_field hu h 4 rfl (o := 4) (k := 1) rfl rfl (by kernel_rfl) opens_attrs
  obtain ⟨f, hf, vf⟩ := open_field hu h 5 rfl (o := 5) (k := 1) rfl rfl (by kernel_rfl) opens_aces
  exact ⟨⟨a, b, c, d, e, f⟩, ⟨he.1, hf.1, he.2⟩, vals_field va (vals_field vb (vals_field vc (vals_field vd (vals_field ve (vals_field vf (vals_last hl) rfl) rfl) rfl) rfl) rfl) rfl⟩
end
end Go.Proofs.Ytaeefaehpfjmlaa
