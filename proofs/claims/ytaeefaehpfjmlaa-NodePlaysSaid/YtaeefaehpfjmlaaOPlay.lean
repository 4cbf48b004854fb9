import Derived.Test.YtaeefaehpfjmlaaOMeta
import Derived.Test.YtaeefaehpfjmlaaKNL
set_option linter.unusedSimpArgs false
set_option linter.unusedVariables false
namespace Go.Proofs.Ytaeefaehpfjmlaa
open Go.RowKit AclSpec MetaSpec NodeSpec
section
variable {H : Type} {enc : TypeId × Value → H} {w : World}
instance : Inhabited POp := ⟨⟨0, 0, []⟩⟩
theorem opens_op : Opens enc Try.prog w 48 (fun _ => True) opL := by
  intro fuel cs x h
  have hu := Try.underlying48
  have hl := struct_len hu h (k := 3) (by kernel_rfl)
  obtain ⟨a, ha, va⟩ := open_field hu h 0 rfl (o := 0) (k := 1) rfl rfl (by kernel_rfl) opens_i64
  obtain ⟨b, hb, vb⟩ := open_field hu h 1 rfl (o := 1) (k := 1) rfl rfl (by kernel_rfl) opens_i64'
  obtain ⟨c, hc, vc⟩ := open_field hu h 2 rfl (o := 2) (k := 1) rfl rfl (by kernel_rfl) opens_str
  exact ⟨⟨a, b, c⟩, trivial, vals_field va (vals_field vb (vals_field vc (vals_last hl) rfl) rfl) rfl⟩
theorem opens_ops : Opens enc Try.prog w 43 (fun l => l.length ≤ maxLen ∧ ∀ a ∈ l, True) (fun l => [opsL l]) :=
  opens_slice Try.underlying43 (k := 3) (by kernel_rfl) (by decide) (fun _ => rfl) opens_op
end
end Go.Proofs.Ytaeefaehpfjmlaa
