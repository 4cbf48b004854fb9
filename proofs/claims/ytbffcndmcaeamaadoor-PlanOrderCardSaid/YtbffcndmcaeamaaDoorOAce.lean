import Derived.Test.YtbffcndmcaeamaaDoorLawP
import Derived.Test.YtbffcndmcaeamaaDoorKRef
set_option linter.unusedSimpArgs false
set_option linter.unusedVariables false
namespace Go.Proofs.YtbffcndmcaeamaaDoor
open Go.RowKit AclSpec
section
variable {H : Type} {enc : TypeId × Value → H} {w : World}
def inW (n : Int) : Prop := (Lit.int .i64 n).wf = true
theorem opens_i64 : Opens enc Tryd.prog w 3 inW (fun n => [intL n]) := opens_int Tryd.underlying3
theorem opens_ints : Opens enc Tryd.prog w 22 (fun l => l.length ≤ maxLen ∧ ∀ a ∈ l,inW a) (fun l => [intsL l]) :=
  opens_slice Tryd.underlying22 (by kernel_rfl) (by decide) (fun _ => rfl) opens_i64
end
end Go.Proofs.YtbffcndmcaeamaaDoor
