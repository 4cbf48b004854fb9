import Derived.Test.YtbffcndmcaeamaaDoorKN6
import Derived.Test.YtbffcndmcaeamaaDoorNRead
set_option linter.unusedSimpArgs false
set_option linter.unusedVariables false
namespace Go.Proofs.YtbffcndmcaeamaaDoor
open Go.RowKit Go.Proofs AclSpec MetaSpec NodeSpec GSort Flo Ext

def zeroNode : List LV := [intL 0,intL 0,intL 0,intL 0,intL 0,.sl 0 [] .nil,.sl 0 [] .nil,intL 0,.sl 0 [] .nil,strL [],intL 0,intL 0]
end Go.Proofs.YtbffcndmcaeamaaDoor
