/-
  MORE STEPS: a slot that is known for less.
-/
import Derived.Test.YtmchdjpgceiloaaDoorL13
set_option linter.unusedSimpArgs false
set_option linter.unusedVariables false
namespace Go.Proofs.YtmchdjpgceiloaaDoor
open Go.RowKit

section
variable {P : Program} {N : Nat} {w0 : World} {S0 : Nat → Nat → Prop} {Q : Exit → LSt → Prop} {st : LSt}
theorem LW_weak {c : Code} (k : Nat) {x : LV} (hx : ∀ w g v, Rep P w g (st.env k) v → Rep P w g x v) (h : LW P N w0 S0 c Q (st.put (some k) x)) : LW P N w0 S0 c Q st := by
  intro a w hr
  refine h a w ?_
  obtain ⟨g, hR⟩ := hr
  refine ⟨g, ⟨hR.defers, hR.size, fun j => ?_, hR.below, hR.s0, hR.wf, hR.own, hR.inj, hR.box, hR.row, hR.dis, hR.arr, hR.dia, ⟨hR.ex.glob, hR.ex.wf0, fun j v' hj => by
    simp only [LSt.put, upd] at hj
    split at hj
    · cases hj
    · exact hR.ex.vals j v' hj⟩⟩⟩
  simp only [LSt.put, upd]
  split
  · rename_i hj
    rw [hj]; exact hx _ _ _ (hR.env k)
  · exact hR.env j
/-- A slice that is read alone from here on. -/
theorem LW_plain {c : Code} (k : Nat) {n : Nat} {cs : List LV} {t : Tok} (hk : st.env k = .sl n cs t) (h : LW P N w0 S0 c Q (st.put (some k) (.sl n cs .no))) : LW P N w0 S0 c Q st :=
  LW_weak k (fun w g v hv => by rw [hk] at hv; exact hv.no_of rfl) h
end
end Go.Proofs.YtmchdjpgceiloaaDoor
