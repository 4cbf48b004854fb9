import Derived.Test.YteamlijbkldlhaaRBare
set_option linter.unusedSimpArgs false
set_option linter.unusedVariables false
namespace Go.Proofs.Yteamlijbkldlhaa.NodeSpec
open GSort AclSpec MetaSpec Ext

end Go.Proofs.Yteamlijbkldlhaa.NodeSpec
