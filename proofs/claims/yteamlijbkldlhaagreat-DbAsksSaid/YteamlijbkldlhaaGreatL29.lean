import Derived.Test.YteamlijbkldlhaaGreatL27
import Derived.StillTail
section
set_option linter.unusedSimpArgs false
set_option linter.unusedVariables false
namespace Go.Proofs.YteamlijbkldlhaaGreat
open Go.RowKit

section
variable {P : Program} {N : Nat} {w0 : World} {S0 : Ent} {Q : Exit → LSt → Prop} {st : LSt}
def SegL (P : Program) (N : Nat) (w0 : World) (S0 : Ent) (ops : Array Oper) (Q : Exit → LSt → Prop) (l : List Oper) (st : LSt) : Prop :=
  ∀ a w,Rel P N w0 S0 st a w → wpList P ops (fun e a' w' => ∃ st',Rel P N w0 S0 st' a' w' ∧ Q e st') l a w
theorem LW_seg {id : Nat} {l : List Oper} (h : SegL P N w0 S0 l.toArray Q l st) : LW P N w0 S0 (.region id l.toArray false) Q st := fun a w hr => wp_region_lit (h a w hr)
theorem seg_nil {ops : Array Oper} (h : Q .normal st) : SegL P N w0 S0 ops Q [] st := fun a w hr => wpList_nil ⟨st,hr,h⟩
theorem seg_ops {ops : Array Oper} (n : Nat) {l : List Oper} (h : ∀ K : LSt → Prop,(∀ st',SegL P N w0 S0 ops Q (l.drop n) st' → K st') → lops P N ops (l.take n) K st) : SegL P N w0 S0 ops Q l st := by
  intro a w hr
  have := lops_then (Q' := fun e a' w' => ∃ st',Rel P N w0 S0 st' a' w' ∧ Q e st') (rest := l.drop n) (l.take n) _ st a w hr (h _ fun _ h => h) (fun st' a' w' h1 h2 => h2 a' w' h1)
  rwa [List.take_append_drop] at this
end
end Go.Proofs.YteamlijbkldlhaaGreat
end
section
set_option linter.unusedSimpArgs false
set_option linter.unusedVariables false
namespace Go.Proofs.YteamlijbkldlhaaGreat
open Go.RowKit

section
variable {P : Program} {N : Nat} {w0 : World} {S0 : Ent} {Q : Exit → LSt → Prop} {st : LSt}
theorem seg_weak {ops : Array Oper} {l : List Oper} (k : Nat) {x : LV} (hx : ∀ w g v,Rep P w g (st.env k) v → Rep P w g x v) (h : SegL P N w0 S0 ops Q l (st.put (some k) x)) : SegL P N w0 S0 ops Q l st := by
  intro a w hr
  refine h a w ?_
  obtain ⟨g,hR⟩ := hr
  refine ⟨g,⟨hR.defers,hR.size,fun j => ?_,hR.below,hR.s0,hR.wf,hR.own,hR.inj,hR.box,hR.row,hR.dis,hR.arr,hR.dia,⟨hR.ex.glob,hR.ex.wf0,fun j v' hj => by
    simp only [LSt.put,upd] at hj
    split at hj
    · cases hj
    · exact hR.ex.vals j v' hj⟩,hR.keep⟩⟩
  simp only [LSt.put,upd]
  split
  · rename_i hj;rw [hj];exact hx _ _ _ (hR.env k)
  · exact hR.env j
def okB : LV → Bool
  | .lit _ => true
  | .sl _ _ .no => true
  | .sl _ _ .nil => true
  | .any => true
  | _ => false
theorem Rep.unbare {w : World} {g : Gh} {x : LV} {v : Value} (h : Rep P w g.bare x v) (hx : okB x = true) : Rep P w g x v := by
  cases x with
  | lit u => rw [h.inv_lit];exact .lit _ _
  | any => exact .any _ _
  | sl n cs t =>
    cases t with
    | no =>
      rcases h.inv_no with ⟨p,cap,rfl,rfl,rfl⟩ | ⟨b,off,cap,rfl,hcap,hc⟩
      · exact .empty _ _ _
      · exact CellsAt.rep_sl (g := g) hc hcap
    | nil => obtain ⟨rfl,rfl,rfl⟩ := h.inv_nil;exact .nil _
    | row => cases hx
    | sub => cases hx
  | _ => cases hx
def LSt.asBox (st : LSt) (d : Nat) (cs : List LV) : LSt := { st with arr := upd st.arr d none,box := upd st.box d (some cs) }
theorem LW_arrBox {c : Code} (d : Nat) {cs : List LV} (ha : st.arr d = some cs) (hne : cs ≠ []) (ho : cs.all okB = true) (h : ∀ m,LW P N w0 S0 c Q (st.asBox d (cs ++ List.replicate m .any))) : LW P N w0 S0 c Q st := by
  intro a w hr
  obtain ⟨g,hR⟩ := hr
  rcases hR.arr d cs ha with h0 | ⟨b,vals,T,k1,k2,k3,k4,k5⟩
  · exact absurd h0 hne
  refine h (vals.size - cs.length) a w ⟨g,hR.defers,hR.size,hR.env,hR.below,hR.s0,hR.wf,hR.own,hR.inj,fun k cs' hk => ?_,hR.row,fun k cs' hk => ?_,fun k cs' hk => ?_,fun k cs' hk => ?_,hR.ex,hR.keep⟩
  · simp only [LSt.asBox,upd] at hk
    split at hk
    · rename_i hkd
      cases hk
      subst hkd
      refine ⟨b,vals,T,k1,k2,by rw [List.length_append,List.length_replicate];omega,fun i x u hx hu => ?_,k5⟩
      by_cases hi : i < cs.length
      · rw [List.getElem?_append_left hi] at hx
        exact (k4 i x u hx hu).unbare (List.all_eq_true.1 ho x (List.mem_of_getElem? hx))
      · rw [List.getElem?_append_right (by omega)] at hx
        rw [List.eq_of_mem_replicate (List.mem_of_getElem? hx)]
        exact .any _ _
    · exact hR.box k cs' hk
  · simp only [LSt.asBox,upd] at hk
    split at hk
    · rename_i hkd;subst hkd;exact (hR.dia k cs ha).1
    · exact hR.dis k cs' hk
  · simp only [LSt.asBox,upd] at hk
    split at hk
    · cases hk
    · exact hR.arr k cs' hk
  · simp only [LSt.asBox,upd] at hk
    split at hk
    · cases hk
    · rename_i hkd
      refine ⟨(hR.dia k cs' hk).1,?_⟩
      simp only [LSt.asBox,upd_ne _ _ hkd]
      exact (hR.dia k cs' hk).2
def LSt.asArr (st : LSt) (d : Nat) (cs : List LV) : LSt := { st with box := upd st.box d none,arr := upd st.arr d (some cs) }
theorem LW_boxArr {c : Code} (d n : Nat) {cs : List LV} (hb : st.box d = some cs) (h : LW P N w0 S0 c Q (st.asArr d ((cs.take n).map strip1))) : LW P N w0 S0 c Q st := by
  intro a w hr
  obtain ⟨g,hR⟩ := hr
  obtain ⟨b,vals,T,k1,k2,k3,k4,k5⟩ := hR.box d cs hb
  refine h a w ⟨g,hR.defers,hR.size,hR.env,hR.below,hR.s0,hR.wf,hR.own,hR.inj,fun k cs' hk => ?_,hR.row,fun k cs' hk => ?_,fun k cs' hk => ?_,fun k cs' hk => ?_,hR.ex,hR.keep⟩
  · simp only [LSt.asArr,upd] at hk
    split at hk
    · cases hk
    · exact hR.box k cs' hk
  · simp only [LSt.asArr,upd] at hk
    split at hk
    · cases hk
    · exact hR.dis k cs' hk
  · simp only [LSt.asArr,upd] at hk
    split at hk
    · rename_i hkd
      cases hk
      subst hkd
      refine .inr ⟨b,vals,T,k1,k2,by rw [List.length_map];exact Nat.le_trans (List.length_take_le' _ _) (by omega),fun i x u hx hu => ?_,k5⟩
      obtain ⟨c',hc',rfl⟩ := map_get hx
      rw [List.getElem?_take] at hc'
      split at hc'
      · exact (k4 i c' u hc' hu).strip1 (g' := g.bare) rfl
      · cases hc'
    · exact hR.arr k cs' hk
  · simp only [LSt.asArr,upd] at hk
    split at hk
    · rename_i hkd
      subst hkd
      exact ⟨hR.dis k cs hb,by simp [LSt.asArr,upd]⟩
    · rename_i hkd
      refine ⟨(hR.dia k cs' hk).1,?_⟩
      simp only [LSt.asArr,upd_ne _ _ hkd]
      exact (hR.dia k cs' hk).2
end
end Go.Proofs.YteamlijbkldlhaaGreat
end
