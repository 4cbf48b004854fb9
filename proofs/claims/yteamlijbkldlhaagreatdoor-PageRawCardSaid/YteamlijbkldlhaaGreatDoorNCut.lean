import Derived.Test.YteamlijbkldlhaaGreatDoorRBare
set_option linter.unusedSimpArgs false
set_option linter.unusedVariables false
namespace Go.Proofs.YteamlijbkldlhaaGreatDoor.NodeSpec
open GSort AclSpec MetaSpec Ext

end Go.Proofs.YteamlijbkldlhaaGreatDoor.NodeSpec
