/-
  MORE STEPS: a slot that is known for less.
-/
import Derived.Test.YtmchdjpgceiloaaLK
import Derived.Test.YtmchdjpgceiloaaL11
set_option linter.unusedSimpArgs false
set_option linter.unusedVariables false
namespace Go.Proofs.Ytmchdjpgceiloaa
open Go.RowKit

section
variable {P : Program} {N : Nat} {w0 : World} {S0 : Ent} {Q : Exit → LSt → Prop} {st : LSt}
theorem LW_weak {c : Code} (k : Nat) {x : LV} (hx : ∀ w g v, Rep P w g (st.env k) v → Rep P w g x v) (h : LW P N w0 S0 c Q (st.put (some k) x)) : LW P N w0 S0 c Q st := by
  intro a w hr
  refine h a w ?_
  obtain ⟨g, hR⟩ := hr
  refine ⟨g, ⟨hR.defers, hR.size, fun j => ?_, hR.below, hR.s0, hR.wf, hR.own, hR.inj, hR.box, hR.row, hR.dis, hR.arr, hR.dia, ⟨hR.ex.glob, hR.ex.wf0, fun j v' hj => by
    simp only [LSt.put, upd] at hj
    split at hj
    · cases hj
    · exact hR.ex.vals j v' hj⟩, hR.keep⟩⟩
  simp only [LSt.put, upd]
  split
  · rename_i hj
    rw [hj]; exact hx _ _ _ (hR.env k)
  · exact hR.env j
/-- A slice that is read alone from here on. -/
theorem LW_plain {c : Code} (k : Nat) {n : Nat} {cs : List LV} {t : Tok} (hk : st.env k = .sl n cs t) (h : LW P N w0 S0 c Q (st.put (some k) (.sl n cs .no))) : LW P N w0 S0 c Q st :=
  LW_weak k (fun w g v hv => by rw [hk] at hv; exact hv.no_of rfl) h
/-- Ways that meet again. -/
theorem LW_join {c : Code} {Q : Exit → LSt → Prop} {K : LSt → Prop} {st : LSt} (M : LSt → Prop) (h1 : LW P N w0 S0 c (thenL M Q) st) (h2 : ∀ st', M st' → K st') : LW P N w0 S0 c (thenL K Q) st :=
  h1.mono fun e st' h => by cases e <;> first | exact h2 _ h | exact h
theorem LW_joinB {id : Nat} {c : Code} {Q : Exit → LSt → Prop} {K : LSt → Prop} {st : LSt} (M : LSt → Prop) (h1 : LW P N w0 S0 c (inBlockL id (thenL M Q)) st) (h2 : ∀ st', M st' → K st') : LW P N w0 S0 c (inBlockL id (thenL K Q)) st :=
  h1.mono fun e st' h => by
    cases e with
    | exit i =>
      simp only [inBlockL] at h ⊢
      split
      · rename_i hi; rw [if_pos hi] at h; exact h2 _ h
      · rename_i hi; rw [if_neg hi] at h; exact h
    | normal => exact h2 _ h
    | _ => exact h
/-- A region whose operations are written in parts. -/
theorem LW_regionA {Q : Exit → LSt → Prop} {st : LSt} {id : Nat} {ops : Array Oper} {l : List Oper} {dr : Bool} (hl : ops.toList = l) (h : LW P N w0 S0 (.region id l.toArray dr) Q st) : LW P N w0 S0 (.region id ops dr) Q st := by
  subst hl; simpa using h
end
end Go.Proofs.Ytmchdjpgceiloaa
