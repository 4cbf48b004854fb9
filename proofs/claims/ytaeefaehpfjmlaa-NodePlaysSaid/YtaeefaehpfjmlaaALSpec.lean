import Derived.Test.YtaeefaehpfjmlaaASpec
import Derived.WalkKit
set_option linter.unusedSimpArgs false
set_option linter.unusedVariables false
namespace Go.Proofs.Ytaeefaehpfjmlaa.AclSpec

end Go.Proofs.Ytaeefaehpfjmlaa.AclSpec
