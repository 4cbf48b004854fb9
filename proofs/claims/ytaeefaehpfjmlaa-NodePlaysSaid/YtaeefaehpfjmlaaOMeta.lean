import Derived.Test.YtaeefaehpfjmlaaOpen
import Derived.Test.YtaeefaehpfjmlaaKAcl
import Derived.Test.YtaeefaehpfjmlaaKM1
section
set_option linter.unusedSimpArgs false
set_option linter.unusedVariables false
namespace Go.Proofs.Ytaeefaehpfjmlaa
open Go.RowKit AclSpec
section
variable {H : Type} {enc : TypeId × Value → H} {w : World}
def inW (n : Int) : Prop := (Lit.int .i64 n).wf = true
theorem opens_i64 : Opens enc Try.prog w 3 inW (fun n => [intL n]) := opens_int Try.underlying3
end
end Go.Proofs.Ytaeefaehpfjmlaa
end
section
set_option linter.unusedSimpArgs false
set_option linter.unusedVariables false
namespace Go.Proofs.Ytaeefaehpfjmlaa
open Go.RowKit AclSpec MetaSpec
section
variable {H : Type} {enc : TypeId × Value → H} {w : World}
theorem opens_str : Opens enc Try.prog w 9 (fun l : List UInt8 => l.length ≤ maxLen) (fun l => [strL l]) := opens_string Try.underlying9
theorem opens_i64' : Opens enc Try.prog w 2 inW (fun n => [intL n]) := opens_int Try.underlying2
end
end Go.Proofs.Ytaeefaehpfjmlaa
end
