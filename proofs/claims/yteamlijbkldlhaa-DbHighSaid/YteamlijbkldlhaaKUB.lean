import Derived.Test.YteamlijbkldlhaaKUA
import Derived.Test.YteamlijbkldlhaaRBare
set_option linter.unusedSimpArgs false
set_option linter.unusedVariables false
namespace Go.Proofs.Yteamlijbkldlhaa
open Go.RowKit Go.Proofs AclSpec MetaSpec NodeSpec RecSpec PathSpec

end Go.Proofs.Yteamlijbkldlhaa
