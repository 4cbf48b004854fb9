import Derived.Test.YteamlijbkldlhaaKUF
import Derived.Test.YteamlijbkldlhaaRBare
import Derived.Test.YteamlijbkldlhaaKNF
section
set_option linter.unusedSimpArgs false
set_option linter.unusedVariables false
namespace Go.Proofs.Yteamlijbkldlhaa
open Go.RowKit Go.Proofs AclSpec MetaSpec NodeSpec RecSpec PathSpec

end Go.Proofs.Yteamlijbkldlhaa
end
section
set_option linter.unusedSimpArgs false
set_option linter.unusedVariables false
namespace Go.Proofs.Yteamlijbkldlhaa
open Go.RowKit Go.Proofs AclSpec MetaSpec NodeSpec RecSpec PathSpec

end Go.Proofs.Yteamlijbkldlhaa
end
