import Derived.Test.YtpficpldemickaaKTA
set_option linter.unusedSimpArgs false
set_option linter.unusedVariables false
namespace Go.Proofs.Ytpficpldemickaa
open Go.RowKit Go.Proofs PathSpec

end Go.Proofs.Ytpficpldemickaa
