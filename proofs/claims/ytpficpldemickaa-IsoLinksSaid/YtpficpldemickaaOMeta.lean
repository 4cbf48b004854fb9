import Derived.Test.YtpficpldemickaaOpen
import Derived.Test.YtpficpldemickaaKAcl
import Derived.Test.YtpficpldemickaaKM1
section
set_option linter.unusedSimpArgs false
set_option linter.unusedVariables false
namespace Go.Proofs.Ytpficpldemickaa
open Go.RowKit AclSpec
section
variable {H : Type} {enc : TypeId × Value → H} {w : World}
end
end Go.Proofs.Ytpficpldemickaa
end
section
set_option linter.unusedSimpArgs false
set_option linter.unusedVariables false
namespace Go.Proofs.Ytpficpldemickaa
open Go.RowKit AclSpec MetaSpec
section
variable {H : Type} {enc : TypeId × Value → H} {w : World}
end
end Go.Proofs.Ytpficpldemickaa
end
