import Derived.Test.YtaeefaehpfjmlaaKM2
set_option linter.unusedSimpArgs false
set_option linter.unusedVariables false
namespace Go.Proofs.Ytaeefaehpfjmlaa
open Go.RowKit AclSpec MetaSpec GSort

end Go.Proofs.Ytaeefaehpfjmlaa
