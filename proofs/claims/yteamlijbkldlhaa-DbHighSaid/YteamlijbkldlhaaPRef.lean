import Derived.Test.YteamlijbkldlhaaPSpec
import Derived.Test.YteamlijbkldlhaaRBare
set_option linter.unusedSimpArgs false
set_option linter.unusedVariables false
namespace Go.Proofs.Yteamlijbkldlhaa.PageSpec
open AclSpec MetaSpec NodeSpec RecSpec PathSpec

end Go.Proofs.Yteamlijbkldlhaa.PageSpec
