import Derived.Test.YteamlijbkldlhaaGreatKP2
import Derived.Test.YteamlijbkldlhaaGreatDTab
import Derived.Test.YteamlijbkldlhaaGreatKR4
import Derived.Test.YteamlijbkldlhaaGreatKP5
import Derived.Test.YteamlijbkldlhaaGreatL27
section
set_option linter.unusedSimpArgs false
set_option linter.unusedVariables false
namespace Go.Proofs.YteamlijbkldlhaaGreat
open Go.RowKit Go.Proofs AclSpec MetaSpec NodeSpec RecSpec PathSpec PageSpec

end Go.Proofs.YteamlijbkldlhaaGreat
end
section
set_option linter.unusedSimpArgs false
set_option linter.unusedVariables false
namespace Go.Proofs.YteamlijbkldlhaaGreat
open Go.RowKit Go.Proofs AclSpec MetaSpec NodeSpec RecSpec PathSpec PageSpec

end Go.Proofs.YteamlijbkldlhaaGreat
end
section
set_option linter.unusedSimpArgs false
set_option linter.unusedVariables false
namespace Go.Proofs.YteamlijbkldlhaaGreat
open Go.RowKit Go.Proofs AclSpec MetaSpec NodeSpec RecSpec PathSpec PageSpec

theorem okLen_of_small {n : FNode} (h : small n) : okLen n := ⟨by have := h.1;unfold maxLen;omega,by have := h.2.1;unfold maxLen;omega,by have := h.2.2.1;unfold maxLen;omega⟩
end Go.Proofs.YteamlijbkldlhaaGreat
end
