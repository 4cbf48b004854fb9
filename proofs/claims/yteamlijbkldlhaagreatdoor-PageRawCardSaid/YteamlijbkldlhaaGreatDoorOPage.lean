import Derived.Test.YteamlijbkldlhaaGreatDoorORec
import Derived.Test.YteamlijbkldlhaaGreatDoorKP6
set_option linter.unusedSimpArgs false
set_option linter.unusedVariables false
namespace Go.Proofs.YteamlijbkldlhaaGreatDoor
open Go.ChangeShapes Go.WideShapes Go.ChangeAt Go.RowKit AclSpec MetaSpec NodeSpec RecSpec PageSpec
section
variable {H : Type} {enc : TypeId × Value → H} {w : World}
def okPgI (p : Pg) : Prop := (p.recs.length ≤ maxLen ∧ ∀ r ∈ p.recs,okRec r) ∧ p.keys.length ≤ maxLen ∧ p.pages.length ≤ maxLen
theorem okPgI.okPg {p : Pg} (h : okPgI p) : okPg p := ⟨h.1.1,h.2.1,h.2.2,fun r hr => (h.1.2 r hr).1.1⟩
theorem okPgI.time {p : Pg} (h : okPgI p) : okTime p := fun r hr => (h.1.2 r hr).2.1
end
end Go.Proofs.YteamlijbkldlhaaGreatDoor
