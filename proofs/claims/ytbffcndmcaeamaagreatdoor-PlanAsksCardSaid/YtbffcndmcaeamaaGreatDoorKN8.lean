import Derived.Test.YtbffcndmcaeamaaGreatDoorKN7
import Derived.Test.YtbffcndmcaeamaaGreatDoorNRead
set_option linter.unusedSimpArgs false
set_option linter.unusedVariables false
namespace Go.Proofs.YtbffcndmcaeamaaGreatDoor
open Go.RowKit Go.Proofs AclSpec MetaSpec NodeSpec GSort Flo Ext

end Go.Proofs.YtbffcndmcaeamaaGreatDoor
