import Derived.Test.YtaeefaehpfjmlaaKN9
import Derived.Test.YtaeefaehpfjmlaaNRead
set_option linter.unusedSimpArgs false
set_option linter.unusedVariables false
namespace Go.Proofs.Ytaeefaehpfjmlaa
open AclSpec MetaSpec NodeSpec GSort Flo Ext

theorem mayZ : mayM zm = true := by decide +kernel
end Go.Proofs.Ytaeefaehpfjmlaa
