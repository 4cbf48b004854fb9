import Derived.Test.YtbffcndmcaeamaaDoorLK
import Derived.Test.YtbffcndmcaeamaaDoorL11
import Derived.Shelf.SlSortCmp.WholeK
import Derived.Shelf.SlSortCmp.Whole1
section
set_option linter.unusedSimpArgs false
set_option linter.unusedVariables false
namespace Go.Proofs.YtbffcndmcaeamaaDoor
open Go.RowKit Go.Sort Go.Proofs

section
variable {α : Type} [Inhabited α] {enc : α → List Value} {k : Nat}
variable {P : Program} {N : Nat} {w0 : World} {S0 : Ent}
end
end Go.Proofs.YtbffcndmcaeamaaDoor
end
section
set_option linter.unusedSimpArgs false
set_option linter.unusedVariables false
namespace Go.Proofs.YtbffcndmcaeamaaDoor
open Go.RowKit Go.Sort Go.Proofs
section
variable {α : Type} [Inhabited α] {enc : α → List Value} {k : Nat}
variable {P : Program} {N : Nat} {w0 : World} {S0 : Ent}
end
section
variable {α : Type} [Inhabited α] (e1 : α → Value)
end
end Go.Proofs.YtbffcndmcaeamaaDoor
end
