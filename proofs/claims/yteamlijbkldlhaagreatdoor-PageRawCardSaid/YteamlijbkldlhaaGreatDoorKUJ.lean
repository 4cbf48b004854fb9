import Derived.Test.YteamlijbkldlhaaGreatDoorKUH
set_option linter.unusedSimpArgs false
set_option linter.unusedVariables false
namespace Go.Proofs.YteamlijbkldlhaaGreatDoor
open Go.RowKit Go.Proofs AclSpec MetaSpec NodeSpec RecSpec PathSpec

theorem recL_len (r : Rec) : (recL r).length = 15 := rfl
theorem drop_rec {l : List Rec} {i : Nat} {r : Rec} (h : l[i]? = some r) : (l.flatMap recL).drop (i * 15) = recL r ++ (l.drop (i + 1)).flatMap recL := drop_flat recL 15 recL_len h
theorem recL_strip (l : List Rec) : (l.flatMap recL).map strip1 = l.flatMap recL := strip1_enc (fun _ => rfl) l
theorem recL_flen (l : List Rec) : (l.flatMap recL).length = l.length * 15 := len_flat recL 15 recL_len l
end Go.Proofs.YteamlijbkldlhaaGreatDoor
