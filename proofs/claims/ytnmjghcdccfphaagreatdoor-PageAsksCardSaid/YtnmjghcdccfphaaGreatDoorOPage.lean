import Derived.Test.YtnmjghcdccfphaaGreatDoorORec
import Derived.Test.YtnmjghcdccfphaaGreatDoorKP6
set_option linter.unusedSimpArgs false
set_option linter.unusedVariables false
namespace Go.Proofs.YtnmjghcdccfphaaGreatDoor
open Go.ChangeShapes Go.WideShapes Go.ChangeAt Go.RowKit AclSpec MetaSpec NodeSpec RecSpec PageSpec
section
variable {H : Type} {enc : TypeId × Value → H} {w : World}
theorem opens_strs : Opens enc Tryz.prog w 23 (fun l => l.length ≤ maxLen ∧ ∀ a ∈ l,a.length ≤ maxLen) (fun l => [strsL l]) :=
 opens_slice Tryz.underlying23 (k := 1) (by kernel_rfl) (by decide) (fun _ => rfl) opens_str
def okPgI (p : Pg) : Prop := (p.recs.length ≤ maxLen ∧ ∀ r ∈ p.recs,okRec r) ∧ p.keys.length ≤ maxLen ∧ p.pages.length ≤ maxLen
theorem okPgI.okPg {p : Pg} (h : okPgI p) : okPg p := ⟨h.1.1,h.2.1,h.2.2,fun r hr => (h.1.2 r hr).1.1⟩
theorem okPgI.time {p : Pg} (h : okPgI p) : okTime p := fun r hr => (h.1.2 r hr).2.1
theorem opens_page : Opens enc Tryz.prog w 26 okPgI pgL := by
 intro fuel cs x h
 have hu := Tryz.underlying26
 have hl := struct_len hu h (k := 4) (by kernel_rfl)
 obtain ⟨a,ha,va⟩ := open_field hu h 0 rfl (o := 0) (k := 1) rfl rfl (by kernel_rfl) (opens_bool Tryz.underlying4)
 obtain ⟨b,hb,vb⟩ := open_field hu h 1 rfl (o := 1) (k := 1) rfl rfl (by kernel_rfl) opens_recs
 obtain ⟨c,hc,vc⟩ := open_field hu h 2 rfl (o := 2) (k := 1) rfl rfl (by kernel_rfl) opens_strs
 obtain ⟨d,hd,vd⟩ := open_field hu h 3 rfl (o := 3) (k := 1) rfl rfl (by kernel_rfl) opens_ints
 exact ⟨⟨a,b,c,d⟩,⟨hb,hc.1,hd.1⟩,vals_field va (vals_field vb (vals_field vc (vals_field vd (vals_last hl) rfl) rfl) rfl) rfl⟩
end
end Go.Proofs.YtnmjghcdccfphaaGreatDoor
