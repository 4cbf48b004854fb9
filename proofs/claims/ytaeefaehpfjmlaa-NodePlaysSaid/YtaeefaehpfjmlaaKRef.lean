import Derived.Test.YtaeefaehpfjmlaaKEq
import Derived.Test.YtaeefaehpfjmlaaANSpec
set_option linter.unusedSimpArgs false
set_option linter.unusedVariables false
namespace Go.Proofs.Ytaeefaehpfjmlaa
open Go.RowKit AclSpec

end Go.Proofs.Ytaeefaehpfjmlaa
