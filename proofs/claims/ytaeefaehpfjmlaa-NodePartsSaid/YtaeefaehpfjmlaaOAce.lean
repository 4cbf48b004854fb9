import Derived.Test.YtaeefaehpfjmlaaOpen
import Derived.Test.YtaeefaehpfjmlaaKAcl
set_option linter.unusedSimpArgs false
set_option linter.unusedVariables false
namespace Go.Proofs.Ytaeefaehpfjmlaa
open Go.RowKit AclSpec
section
variable {H : Type} {enc : TypeId × Value → H} {w : World}
def inW (n : Int) : Prop := (Lit.int .i64 n).wf = true
theorem opens_i64 : Opens enc Try.prog w 3 inW (fun n => [intL n]) := opens_int Try.underlying3
theorem opens_ints : Opens enc Try.prog w 111 (fun l => l.length ≤ maxLen ∧ ∀ a ∈ l, inW a) (fun l => [intsL l]) :=
  opens_slice Try.underlying111 (by kernel_rfl) (by decide) (fun _ => rfl) opens_i64
def okAce (a : Ace) : Prop := inW a.kind ∧ inW a.id ∧ inW a.perm
theorem opens_ace : Opens enc Try.prog w 88 okAce aceL := by
  intro fuel cs x h
  have hu := Try.underlying88
  have hl := struct_len hu h (k := 3) (by kernel_rfl)
  obtain ⟨a, ha, va⟩ := open_field hu h 0 rfl (o := 0) (k := 1) rfl rfl (by kernel_rfl) opens_i64
  obtain ⟨b, hb, vb⟩ := open_field hu h 1 rfl (o := 1) (k := 1) rfl rfl (by kernel_rfl) opens_i64
  obtain ⟨c, hc, vc⟩ := open_field hu h 2 rfl (o := 2) (k := 1) rfl rfl (by kernel_rfl) opens_i64
  exact ⟨⟨a, b, c⟩, ⟨ha, hb, hc⟩, vals_field va (vals_field vb (vals_field vc (vals_last hl) rfl) rfl) rfl⟩
theorem opens_aces : Opens enc Try.prog w 23 (fun l => l.length ≤ maxLen ∧ ∀ a ∈ l, okAce a) (fun l => [acesL l]) :=
  opens_slice Try.underlying23 (by kernel_rfl) (by decide) aceL_len opens_ace
end
end Go.Proofs.Ytaeefaehpfjmlaa
