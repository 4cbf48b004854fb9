import Derived.Test.YtbffcndmcaeamaaDoorKN5
set_option linter.unusedSimpArgs false
set_option linter.unusedVariables false
namespace Go.Proofs.YtbffcndmcaeamaaDoor
open Go.RowKit Go.Proofs AclSpec MetaSpec NodeSpec GSort Flo Ext

end Go.Proofs.YtbffcndmcaeamaaDoor
