import Derived.Test.YtpficpldemickaaASpec
import Derived.WalkKit
set_option linter.unusedSimpArgs false
set_option linter.unusedVariables false
namespace Go.Proofs.Ytpficpldemickaa.AclSpec

end Go.Proofs.Ytpficpldemickaa.AclSpec
