import Derived.Test.YtpficpldemickaaKN2
import Derived.Test.YtpficpldemickaaKM2
set_option linter.unusedSimpArgs false
set_option linter.unusedVariables false
namespace Go.Proofs.Ytpficpldemickaa
open Go.RowKit Go.Proofs AclSpec MetaSpec NodeSpec GSort Flo Ext

end Go.Proofs.Ytpficpldemickaa
