import Derived.Test.YteamlijbkldlhaaGreatLawS
import Derived.Test.YteamlijbkldlhaaGreatKRef
set_option linter.unusedSimpArgs false
set_option linter.unusedVariables false
namespace Go.Proofs.YteamlijbkldlhaaGreat
open Go.RowKit AclSpec
section
variable {H : Type} {enc : TypeId × Value → H} {w : World}
def inW (n : Int) : Prop := (Lit.int .i64 n).wf = true
theorem opens_i64 : Opens enc Tryz.prog w 3 inW (fun n => [intL n]) := opens_int Tryz.underlying3
theorem opens_ints : Opens enc Tryz.prog w 22 (fun l => l.length ≤ maxLen ∧ ∀ a ∈ l,inW a) (fun l => [intsL l]) :=
  opens_slice Tryz.underlying22 (by kernel_rfl) (by decide) (fun _ => rfl) opens_i64
end
end Go.Proofs.YteamlijbkldlhaaGreat
