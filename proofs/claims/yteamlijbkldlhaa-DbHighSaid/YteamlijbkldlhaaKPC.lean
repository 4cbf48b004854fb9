import Derived.Test.YteamlijbkldlhaaKP2
import Derived.Test.YteamlijbkldlhaaPRef
import Derived.Test.YteamlijbkldlhaaKR4
import Derived.Test.YteamlijbkldlhaaKP5
import Derived.Test.YteamlijbkldlhaaL27
section
set_option linter.unusedSimpArgs false
set_option linter.unusedVariables false
namespace Go.Proofs.Yteamlijbkldlhaa
open Go.RowKit Go.Proofs AclSpec MetaSpec NodeSpec RecSpec PathSpec PageSpec

end Go.Proofs.Yteamlijbkldlhaa
end
section
set_option linter.unusedSimpArgs false
set_option linter.unusedVariables false
namespace Go.Proofs.Yteamlijbkldlhaa
open Go.RowKit Go.Proofs AclSpec MetaSpec NodeSpec RecSpec PathSpec PageSpec

end Go.Proofs.Yteamlijbkldlhaa
end
section
set_option linter.unusedSimpArgs false
set_option linter.unusedVariables false
namespace Go.Proofs.Yteamlijbkldlhaa
open Go.RowKit Go.Proofs AclSpec MetaSpec NodeSpec RecSpec PathSpec PageSpec

theorem okLen_of_small {n : FNode} (h : small n) : okLen n := ⟨by have := h.1;unfold maxLen;omega,by have := h.2.1;unfold maxLen;omega,by have := h.2.2.1;unfold maxLen;omega⟩
end Go.Proofs.Yteamlijbkldlhaa
end
