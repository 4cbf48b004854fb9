/-
  A DRAWN REGION WITH APPENDS AND THE LIKE: what only moves values may come ahead of them or behind.
-/
import Derived.Test.YtmchdjpgceiloaaDoorL15
set_option linter.unusedSimpArgs false
set_option linter.unusedVariables false
namespace Go.Proofs.YtmchdjpgceiloaaDoor
open Go.RowKit

/-- Nothing of it is forgotten. -/
def plainL : LV → Bool
  | .lit _ => true
  | .sl _ _ .no => true
  | .sl _ _ .nil => true
  | .ref _ => true
  | _ => false
theorem plain_forget {x : LV} (d : Nat) (h : plainL x = true) : Go.Proofs.YtmchdjpgceiloaaDoor.forget d x = x := by
  unfold plainL at h
  split at h
  · rfl
  · rfl
  · rfl
  · rfl
  · cases h
theorem forget_put {st : LSt} {k : Nat} {v : LV} (d : Nat) (h : plainL v = true) : (st.put (some k) v).forget d = (st.forget d).put (some k) v := by
  unfold LSt.forget LSt.put
  simp only
  congr 1
  funext j
  simp only [upd]
  split
  · exact plain_forget d h
  · rfl
theorem setBox_put {st : LSt} {k d : Nat} {v : LV} {cs : List LV} : (st.put (some k) v).setBox d cs = (st.setBox d cs).put (some k) v := rfl
theorem setArr_put {st : LSt} {k d : Nat} {v : LV} {cs : List LV} : (st.put (some k) v).setArr d cs = (st.setArr d cs).put (some k) v := rfl
theorem setRow_put {st : LSt} {k d n : Nat} {v : LV} {e : TypeId} : (st.put (some k) v).setRow d e n = (st.setRow d e n).put (some k) v := rfl
theorem plain_toLV {v : Value} : plainL (toLV v) = true := by
  unfold toLV
  split <;> rfl
/-- An operation that only moves a value, or cuts a slice. -/
def moves (o : Oper) : Bool :=
  match o.op, o.guard with
  | .move _, none => true
  | .slice _ _ _ _ none, none => true
  | _, _ => false
def plainOp (st : LSt) (o : Oper) : Prop := ∀ y ∈ o.op.operands, plainL (evL st.env y) = true
section
variable {P : Program} {N : Nat} {w0 : World} {S0 : Nat → Nat → Prop} {ops : Array Oper} {md : Region.Mode}
theorem moves_val {o : Oper} {st : LSt} {v : LV} (hm : moves o = true) (h : YieldsL P ops o v st) : pv P (evL st.env) st.box st.arr o.op = some v := by
  obtain ⟨dst, op, type, pos, after, guard⟩ := o
  unfold moves at hm
  rcases h with ⟨_, h⟩ | ⟨h, _⟩
  · rcases h with h | ⟨f, args, r, h, _⟩ | ⟨c, h, _⟩
    · exact h
    · exfalso; simp only at hm h; split at hm <;> first | (cases h; done) | (cases hm; done)
    · exfalso; simp only at hm h; split at hm <;> first | (cases h; done) | (cases hm; done)
  · exfalso
    simp only at hm
    split at hm
    · simp [wantL] at h
    · simp [wantL] at h
    · cases hm
theorem moves_plain {o : Oper} {st : LSt} {v : LV} (hm : moves o = true) (hp : plainOp st o) (h : YieldsL P ops o v st) : plainL v = true := by
  have hv := moves_val hm h
  obtain ⟨dst, op, type, pos, after, guard⟩ := o
  unfold moves at hm
  simp only at hm hv
  split at hm
  · rename_i y
    simp only [pv] at hv
    cases hv
    exact hp y (by simp [Op.operands])
  · rename_i t y lo hi
    simp only [pv] at hv
    unfold sliceL at hv
    split at hv
    · split at hv
      · split at hv
        · cases hv; rfl
        · cases hv
      · cases hv
    · split at hv
      · split at hv
        · cases hv; rfl
        · cases hv
      · cases hv
    · cases hv
  · cases hm
theorem moves_yields {o : Oper} {st st' : LSt} {v : LV} (hm : moves o = true) (h : YieldsL P ops o v st) (he : ∀ y ∈ o.op.operands, evL st'.env y = evL st.env y) : YieldsL P ops o v st' := by
  have hv := moves_val hm h
  obtain ⟨dst, op, type, pos, after, guard⟩ := o
  unfold moves at hm
  simp only at hm hv he
  refine .inl ⟨?_, .inl ?_⟩
  · split at hm
    · rfl
    · rfl
    · cases hm
  · rw [← hv]
    split at hm
    · simp only [pv]; exact congrArg some (he _ (by simp [Op.operands]))
    · show pv P (evL st'.env) st'.box st'.arr _ = pv P (evL st.env) st.box st.arr _
      rw [pv_congr (P := P) (ρ := evL st'.env) (ρ' := evL st.env) he]
      rfl
    · cases hm
/-- What an effect leaves alone. -/
theorem effE_env {st st' : LSt} {dst : Option Tmp} {op : Op} {c : Prop} (h : effE P st dst op = some (c, st')) {t : Nat} (ht : dst ≠ some t) (hp : plainL (st.env t) = true) : st'.env t = st.env t := by
  unfold effE at h
  split at h
  · rename_i d e x
    unfold boxE at h
    split at h
    · cases h
      have hd : t ≠ d := fun e => ht (by rw [e])
      simp only [LSt.put, LSt.setBox, LSt.forget, upd_ne _ _ hd]
      exact plain_forget _ hp
    · cases h
  · rename_i d e
    unfold boxE at h
    split at h
    · cases h
      have hd : t ≠ d := fun e => ht (by rw [e])
      simp only [LSt.put, LSt.setBox, LSt.forget, upd_ne _ _ hd]
      exact plain_forget _ hp
    · cases h
  · unfold storeE storeTo storeArr at h
    split at h
    · split at h
      · cases h; rfl
      · cases h
    · split at h
      · cases h; rfl
      · cases h
    · cases h
  · rename_i d t' n parts
    have hd : t ≠ d := fun e => ht (by rw [e])
    unfold buildSliceE buildSliceE1 at h
    split at h
    · split at h
      · cases h
        cases st.mode d
        · simp only [cond_false, LSt.put, upd_ne _ _ hd]
        · simp only [cond_true]
          split
          · simp only [LSt.put, LSt.setRow, LSt.forget, upd_ne _ _ hd]; exact plain_forget _ hp
          · simp only [LSt.put, LSt.setArr, LSt.forget, upd_ne _ _ hd]; exact plain_forget _ hp
      · cases h
    · cases h
  · rename_i d args ts
    have hd : t ≠ d := fun e => ht (by rw [e])
    unfold appendE2 at h
    split at h
    · split at h
      · unfold appendE at h
        split at h
        · unfold appendE1 at h
          split at h
          · cases h
            cases st.mode d
            · simp only [cond_false, LSt.put, LSt.setRow, LSt.forget, upd_ne _ _ hd]; exact plain_forget _ hp
            · simp only [cond_true, LSt.put, LSt.setArr, LSt.forget, upd_ne _ _ hd]; exact plain_forget _ hp
          · cases h
            simp only [LSt.put, LSt.setRow, LSt.forget, upd_ne _ _ hd]; exact plain_forget _ hp
          · cases h
        · unfold appendA at h
          split at h
          · cases h
            simp only [LSt.put, LSt.setArr, LSt.forget, upd_ne _ _ hd]; exact plain_forget _ hp
          · cases h
        · cases h
      · cases h
    · cases h
  · cases h
theorem effE_mode {st st' : LSt} {dst : Option Tmp} {op : Op} {c : Prop} (h : effE P st dst op = some (c, st')) : st'.mode = st.mode := by
  unfold effE at h
  split at h
  · unfold boxE at h; split at h <;> cases h; rfl
  · unfold boxE at h; split at h <;> cases h; rfl
  · unfold storeE storeTo storeArr at h
    repeat' split at h
    all_goals first | (cases h; rfl) | (cases h; done)
  · rename_i d t' n parts
    unfold buildSliceE buildSliceE1 at h
    repeat' split at h
    all_goals first | (cases h; done) | (cases h; cases st.mode d <;> simp only [cond_false, cond_true] <;> first | rfl | (split <;> rfl))
  · rename_i d args ts
    unfold appendE2 appendE appendE1 appendA at h
    repeat' split at h
    all_goals first | (cases h; done) | (cases h; rfl) | (cases h; cases st.mode d <;> rfl)
  · cases h
/-- A slot that an effect does not look at may be set behind it. -/
theorem effE_put {st st1 : LSt} {dst : Option Tmp} {op : Op} {c : Prop} {k : Nat} {v : LV} (hv : plainL v = true) (hk : .tmp k ∉ op.operands) (hd : dst ≠ some k) (h : effE P (st.put (some k) v) dst op = some (c, st1)) :
    ∃ st2, effE P st dst op = some (c, st2) ∧ st1 = st2.put (some k) v := by
  have hev : ∀ y ∈ op.operands, evL (st.put (some k) v).env y = evL st.env y := by
    intro y hy
    cases y with
    | tmp t => exact put_env_ne (fun e => by cases e; exact hk hy)
    | _ => rfl
  have pc : ∀ (s : LSt) (d : Nat) (x : LV), d ≠ k → (s.put (some k) v).put (some d) x = (s.put (some d) x).put (some k) v := fun s d x hne => put_comm v x (fun e he => by cases he; intro h; cases h; exact hne rfl)
  unfold effE at h ⊢
  split at h
  · rename_i d e x
    have hdk : d ≠ k := fun e => hd (by rw [e])
    rw [hev x (by simp [Op.operands])] at h
    unfold boxE at h ⊢
    split at h
    · rename_i cs hcs
      cases h
      refine ⟨_, rfl, ?_⟩
      rw [forget_put d hv]; (first | rw [setBox_put] | rw [setArr_put] | rw [setRow_put]); exact pc _ d _ hdk
    · cases h
  · rename_i d e
    have hdk : d ≠ k := fun e => hd (by rw [e])
    unfold boxE at h ⊢
    split at h
    · rename_i cs hcs
      cases h
      refine ⟨_, rfl, ?_⟩
      rw [forget_put d hv]; (first | rw [setBox_put] | rw [setArr_put] | rw [setRow_put]); exact pc _ d _ hdk
    · cases h
  · rename_i t p x
    rw [hev x (by simp [Op.operands]), hev p (by simp [Op.operands])] at h
    unfold storeE storeTo storeArr at h ⊢
    simp only [put_box, put_arr] at h
    split at h
    · rename_i d o xs hp hx
      split at h
      · rename_i cs hcs; cases h; exact ⟨_, rfl, rfl⟩
      · cases h
    · rename_i d o xs hp hx
      split at h
      · rename_i cs hcs; cases h; exact ⟨_, rfl, rfl⟩
      · cases h
    · cases h
  · rename_i d t n parts
    have hdk : d ≠ k := fun e => hd (by rw [e])
    have hparts : (parts.toList.map fun q => (q.1, evL (st.put (some k) v).env q.2)) = parts.toList.map fun q => (q.1, evL st.env q.2) := by
      apply List.map_congr_left
      intro q hq
      rw [hev q.2 (by simp only [Op.operands]; simpa using ⟨q.1, by simpa using hq⟩)]
    rw [hparts] at h
    unfold buildSliceE buildSliceE1 at h ⊢
    split at h
    · rename_i e kk hek
      split at h
      · rename_i cs hcs
        cases h
        refine ⟨_, rfl, ?_⟩
        rw [put_mode]
        cases st.mode d
        · simp only [cond_false]; exact pc _ d _ hdk
        · simp only [cond_true]
          split
          · rw [forget_put d hv]; (first | rw [setBox_put] | rw [setArr_put] | rw [setRow_put]); exact pc _ d _ hdk
          · rw [forget_put d hv]; (first | rw [setBox_put] | rw [setArr_put] | rw [setRow_put]); exact pc _ d _ hdk
      · cases h
    · cases h
  · rename_i d args ts
    have hdk : d ≠ k := fun e => hd (by rw [e])
    have hargs : ∀ y ∈ args.toList, evL (st.put (some k) v).env y = evL st.env y := fun y hy => hev y (by simp only [Op.operands, Call.operands]; simpa using hy)
    generalize args.toList = al at *
    unfold appendE2 at h ⊢
    split at h
    · rename_i x y t t' hts
      rw [hargs x (by simp), hargs y (by simp), put_arr] at h
      split at h
      · rename_i htt
        rw [if_pos htt]
        unfold appendE at h ⊢
        split at h
        · rename_i e kk n cs tk m ds h1 h2 h3
          unfold appendE1 at h ⊢
          split at h
          · cases h
            refine ⟨_, rfl, ?_⟩
            rw [put_mode]
            cases st.mode d
            · simp only [cond_false]; rw [forget_put d hv]; (first | rw [setBox_put] | rw [setArr_put] | rw [setRow_put]); exact pc _ d _ hdk
            · simp only [cond_true]; rw [forget_put d hv]; (first | rw [setBox_put] | rw [setArr_put] | rw [setRow_put]); exact pc _ d _ hdk
          · cases h
            refine ⟨_, rfl, ?_⟩
            rw [forget_put _ hv]; (first | rw [setArr_put] | rw [setRow_put]); exact pc _ d _ hdk
          · cases h
        · rename_i e kk q n e' m ds h1 h2 h3
          rw [put_arr] at h
          unfold appendA at h ⊢
          split at h
          · rename_i cs hcs
            cases h
            refine ⟨_, rfl, ?_⟩
            rw [forget_put _ hv]; (first | rw [setArr_put] | rw [setRow_put]); exact pc _ d _ hdk
          · cases h
        · cases h
      · cases h
    · cases h
  · cases h
end
end Go.Proofs.YtmchdjpgceiloaaDoor
