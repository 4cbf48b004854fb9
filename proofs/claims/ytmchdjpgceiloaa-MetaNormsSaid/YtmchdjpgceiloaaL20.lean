/-
  A DRAWN REGION WITH EFFECTS: from some orders of its operations to all; what an effect does not turn may be read ahead of it or behind.
-/
import Derived.Test.YtmchdjpgceiloaaL16b
import Derived.Test.YtmchdjpgceiloaaL19
set_option linter.unusedSimpArgs false
set_option linter.unusedVariables false
namespace Go.Proofs.Ytmchdjpgceiloaa
open Go.RowKit

section
variable {P : Program} {N : Nat} {w0 : World} {S0 : Ent} {ops : Array Oper} {md : Region.Mode}
theorem disjL_spec {l r : List Nat} (h : disjL l r = true) : ∀ a ∈ r, memL l a = false := by
  induction r with
  | nil => intro a ha; cases ha
  | cons b r ih =>
    unfold disjL at h
    rw [Bool.and_eq_true] at h
    intro a ha
    rcases List.mem_cons.1 ha with rfl | ha
    · simpa using h.1
    · exact ih h.2 a ha
theorem disjL_mem {l r : List Nat} (h : disjL l r = true) {q : Nat} (hq : memL l q = true) : memL r q = false := by
  cases hm : memL r q with
  | false => rfl
  | true =>
    have := disjL_spec h q ((memL_iff r q).1 hm)
    rw [hq] at this; cases this
theorem disjL_append {l a b : List Nat} (h : disjL l (a ++ b) = true) : disjL l a = true ∧ disjL l b = true := by
  induction a with
  | nil => exact ⟨rfl, h⟩
  | cons x a ih =>
    simp only [List.cons_append, disjL, Bool.and_eq_true] at h ⊢
    exact ⟨⟨h.1, (ih h.2).1⟩, (ih h.2).2⟩
theorem stab_forget1 {SB : List Nat} {d : Nat} {x : LV} (h : stab1 SB x = true) (hd : memL SB d = false) : forget1 d x = x := by
  have ne : ∀ q, memL SB q = true → q ≠ d := fun q hq e => by rw [e, hd] at hq; cases hq
  unfold stab1 at h
  split at h
  · rfl
  · rfl
  · rfl
  · rename_i q; simp only [forget1, if_neg (ne q h)]
  · rename_i n cs t hnr
    cases t with
    | no => rfl
    | nil => rfl
    | row q => exact absurd rfl (hnr q)
  · rename_i q o; simp only [forget1, if_neg (ne q h)]
  · rename_i q n e; simp only [forget1, if_neg (ne q h)]
  · rename_i q o; simp only [forget1, if_neg (ne q h)]
  · cases h
theorem stab_fgF1 {SB F : List Nat} {x : LV} (h : stab1 SB x = true) (hd : ∀ q, memL SB q = true → memL F q = false) : fgF1 F x = x := by
  unfold stab1 at h
  split at h
  · rfl
  · rfl
  · rfl
  · rename_i q; simp only [fgF1, hd q h, Bool.false_eq_true, if_false]
  · rename_i n cs t hnr
    cases t with
    | no => rfl
    | nil => rfl
    | row q => exact absurd rfl (hnr q)
  · rename_i q o; simp only [fgF1, hd q h, Bool.false_eq_true, if_false]
  · rename_i q n e; simp only [fgF1, hd q h, Bool.false_eq_true, if_false]
  · rename_i q o; simp only [fgF1, hd q h, Bool.false_eq_true, if_false]
  · cases h
theorem map_stab {SB : List Nat} {cs : List LV} {f : LV → LV} (h : cs.all (stab1 SB) = true) (hf : ∀ x, stab1 SB x = true → f x = x) : cs.map f = cs := by
  rw [List.all_eq_true] at h
  conv => rhs; rw [← List.map_id cs]
  exact List.map_congr_left fun x hx => hf x (h x hx)
theorem lift_stab2 {SB : List Nat} {x : LV} {f1 f2 : LV → LV} (h : stab2 SB x = true) (hf : ∀ x, stab1 SB x = true → f1 x = x) (ha : ∀ cs, f2 (.agg cs) = .agg (cs.map f1)) (hn : ∀ x, (∀ cs, x ≠ .agg cs) → f2 x = f1 x) : f2 x = x := by
  cases x with
  | agg cs => rw [ha, map_stab h hf]
  | _ => rw [hn _ (fun cs e => by cases e)]; exact hf _ h
theorem stab_forget {SB : List Nat} {d : Nat} {x : LV} (h : stab SB x = true) (hd : memL SB d = false) : Go.Proofs.Ytmchdjpgceiloaa.forget d x = x := by
  have h2 : ∀ x, stab2 SB x = true → forget2 d x = x := fun x hx => lift_stab2 hx (fun x hx => stab_forget1 hx hd) (fun _ => rfl) (fun x hx => by cases x <;> first | rfl | exact absurd rfl (hx _))
  cases x with
  | tup cs =>
    show LV.tup (cs.map (forget2 d)) = _
    unfold stab at h
    rw [List.all_eq_true] at h
    congr 1
    conv => rhs; rw [← List.map_id cs]
    exact List.map_congr_left fun x hx => h2 x (h x hx)
  | any => exact h2 .any h
  | lit u => exact h2 (.lit u) h
  | agg cs => exact h2 (.agg cs) h
  | sl n cs t => exact h2 (.sl n cs t) h
  | ref cs => exact h2 (.ref cs) h
  | ptr q o => exact h2 (.ptr q o) h
  | bsl q n e => exact h2 (.bsl q n e) h
  | aptr q o => exact h2 (.aptr q o) h
theorem stab_fgF {SB F : List Nat} {x : LV} (h : stab SB x = true) (hd : ∀ q, memL SB q = true → memL F q = false) : fgF F x = x := by
  have h2 : ∀ x, stab2 SB x = true → fgF2 F x = x := fun x hx => lift_stab2 hx (fun x hx => stab_fgF1 hx hd) (fun _ => rfl) (fun x hx => by cases x <;> first | rfl | exact absurd rfl (hx _))
  cases x with
  | tup cs =>
    show LV.tup (cs.map (fgF2 F)) = _
    unfold stab at h
    rw [List.all_eq_true] at h
    congr 1
    conv => rhs; rw [← List.map_id cs]
    exact List.map_congr_left fun x hx => h2 x (h x hx)
  | any => exact h2 .any h
  | lit u => exact h2 (.lit u) h
  | agg cs => exact h2 (.agg cs) h
  | sl n cs t => exact h2 (.sl n cs t) h
  | ref cs => exact h2 (.ref cs) h
  | ptr q o => exact h2 (.ptr q o) h
  | bsl q n e => exact h2 (.bsl q n e) h
  | aptr q o => exact h2 (.aptr q o) h
/-- What an effect leaves alone, of a state. -/
structure Calm (SB : List Nat) (dst : Option Tmp) (st st' : LSt) : Prop where
  env : ∀ t, dst ≠ some t → stab SB (st.env t) = true → st'.env t = st.env t
  box : ∀ e, memL SB e = true → (∀ cs, st.box e = some cs → cs.all (stab1 SB) = true) → st'.box e = st.box e
  arr : ∀ e, memL SB e = true → st'.arr e = st.arr e
  mode : st'.mode = st.mode
theorem Calm.refl {SB : List Nat} {dst : Option Tmp} {st : LSt} : Calm SB dst st st := ⟨fun _ _ _ => rfl, fun _ _ _ => rfl, fun _ _ => rfl, rfl⟩
theorem Calm.put {SB : List Nat} {d : Nat} {st st' : LSt} {x : LV} (h : Calm SB (some d) st st') : Calm SB (some d) st (st'.put (some d) x) :=
  ⟨fun t ht hs => by rw [put_env_ne ht]; exact h.env t ht hs, fun e h1 h2 => by rw [put_box]; exact h.box e h1 h2, fun e he => by rw [put_arr]; exact h.arr e he, by rw [put_mode]; exact h.mode⟩
theorem Calm.forget {SB : List Nat} {dst : Option Tmp} {st : LSt} {d : Nat} (hd : memL SB d = false) : Calm SB dst st (st.forget d) := by
  have ne : ∀ q, memL SB q = true → q ≠ d := fun q hq e => by rw [e, hd] at hq; cases hq
  refine ⟨fun t _ hs => stab_forget hs hd, fun e he hs => ?_, fun e he => ?_, rfl⟩
  · simp only [LSt.forget, if_neg (ne e he)]
    cases hb : st.box e with
    | none => rfl
    | some cs => rw [Option.map_some, map_stab (hs cs hb) fun x hx => stab_forget1 hx hd]
  · simp only [LSt.forget, upd_ne _ _ (ne e he)]
theorem Calm.setBox {SB : List Nat} {dst : Option Tmp} {st st' : LSt} {d : Nat} {cs : List LV} (h : Calm SB dst st st') (hd : memL SB d = false) : Calm SB dst st (st'.setBox d cs) := by
  have ne : ∀ q, memL SB q = true → q ≠ d := fun q hq e => by rw [e, hd] at hq; cases hq
  exact ⟨h.env, fun e he hs => by simp only [LSt.setBox, upd_ne _ _ (ne e he)]; exact h.box e he hs, h.arr, h.mode⟩
theorem Calm.setArr {SB : List Nat} {dst : Option Tmp} {st st' : LSt} {d : Nat} {cs : List LV} (h : Calm SB dst st st') (hd : memL SB d = false) : Calm SB dst st (st'.setArr d cs) := by
  have ne : ∀ q, memL SB q = true → q ≠ d := fun q hq e => by rw [e, hd] at hq; cases hq
  exact ⟨h.env, h.box, fun e he => by simp only [LSt.setArr, upd_ne _ _ (ne e he)]; exact h.arr e he, h.mode⟩
theorem Calm.setRow {SB : List Nat} {dst : Option Tmp} {st st' : LSt} {d n : Nat} {e : TypeId} (h : Calm SB dst st st') : Calm SB dst st (st'.setRow d e n) := ⟨h.env, h.box, h.arr, h.mode⟩
/-- How an effect goes where a slot that it does not look at is set ahead of it. -/
theorem touch_some (st : LSt) (d : Nat) (op : Op) : ∃ r, touch st (some d) op = d :: r := by
  unfold touch
  split
  · rename_i h; cases h; exact ⟨_, rfl⟩
  · rename_i h _; cases h; exact ⟨_, rfl⟩
  · rename_i h; cases h
  · rename_i h _; cases h
theorem touch_d {st : LSt} {SB : List Nat} {d : Nat} {op : Op} (h : disjL SB (touch st (some d) op) = true) : memL SB d = false := by
  obtain ⟨r, hr⟩ := touch_some st d op
  rw [hr] at h
  exact disjL_spec h d (by simp)
theorem setBox_putS {st : LSt} {k d : Nat} {v : LV} {cs : List LV} : (st.put (some k) v).setBox d cs = (st.setBox d cs).put (some k) v := rfl
theorem setArr_putS {st : LSt} {k d : Nat} {v : LV} {cs : List LV} : (st.put (some k) v).setArr d cs = (st.setArr d cs).put (some k) v := rfl
theorem setRow_putS {st : LSt} {k d n : Nat} {v : LV} {e : TypeId} : (st.put (some k) v).setRow d e n = (st.setRow d e n).put (some k) v := rfl
theorem effE_calm {SB : List Nat} {st st' : LSt} {dst : Option Tmp} {op : Op} {c : Prop} (h : effE P st dst op = some (c, st')) (ht : disjL SB (touch st dst op) = true) : Calm SB dst st st' := by
  unfold effE at h
  split at h
  · rename_i d e x
    have hd := touch_d ht
    unfold boxE at h
    split at h
    · cases h; exact ((Calm.forget hd).setBox hd).put
    · cases h
  · rename_i d e
    have hd := touch_d ht
    unfold boxE at h
    split at h
    · cases h; exact ((Calm.forget hd).setBox hd).put
    · cases h
  · rename_i t p x
    unfold storeE at h
    split at h
    · rename_i d o xs hp hx
      have hd : memL SB d = false := disjL_spec ht d (by simp [touch, hp, idsOf])
      unfold storeTo at h
      split at h
      · cases h; exact Calm.refl.setBox hd
      · cases h
    · rename_i d o xs hp hx
      have hd : memL SB d = false := disjL_spec ht d (by simp [touch, hp, idsOf])
      unfold storeArr at h
      split at h
      · cases h; exact Calm.refl.setArr hd
      · cases h
    · cases h
  · rename_i d t n parts
    have hd := touch_d ht
    unfold buildSliceE at h
    split at h
    · unfold buildSliceE1 at h
      split at h
      · cases h
        cases st.mode d
        · exact Calm.refl.put
        · simp only [cond_true]
          split
          · exact (Calm.setRow (Calm.forget hd)).put
          · exact ((Calm.forget hd).setArr hd).put
      · cases h
    · cases h
  · rename_i d args ts
    have hd := touch_d ht
    obtain ⟨args⟩ := args
    simp only at h
    unfold appendE2 at h
    split at h
    · rename_i x y t t' _ _
      split at h
      · unfold appendE at h
        split at h
        · rename_i e k n cs tk m ds _ hx _
          unfold appendE1 at h
          split at h
          · cases h
            cases st.mode d
            · exact (Calm.setRow (Calm.forget hd)).put
            · exact ((Calm.forget hd).setArr hd).put
          · rename_i q
            cases h
            have hq : memL SB q = false := disjL_spec ht q (by simp [touch, hx, idsOf])
            exact (Calm.setRow (Calm.forget hq)).put
          · cases h
        · rename_i e k q n e' m ds _ hx _
          have hq : memL SB q = false := disjL_spec ht q (by simp [touch, hx, idsOf])
          unfold appendA at h
          split at h
          · cases h; exact ((Calm.forget hq).setArr hq).put
          · cases h
        · cases h
      · cases h
    · cases h
  · cases h
theorem ocNext_calm {SB : List Nat} {st : LSt} {d : Nat} {C : OCD P} (h : disjL SB (firsts C.ha ++ seconds C.ba) = true) : Calm SB (some d) st (ocNext st d C) := by
  have hF : ∀ q, memL SB q = true → memL (firsts C.ha ++ seconds C.ba) q = false := fun q hq => disjL_mem h hq
  have hb : ∀ q, memL SB q = true → bkL C.ba q = none := fun q hq => by
    cases hc : bkL C.ba q with
    | none => rfl
    | some c =>
      have := hF q hq
      rw [seconds_eq] at this
      have h2 : memL (firsts C.ha ++ C.ba.map (·.2)) q = true := (memL_iff _ _).2 (List.mem_append_right _ (List.mem_map.2 ⟨_, bkL_mem hc, rfl⟩))
      rw [this] at h2; cases h2
  refine Calm.put ⟨fun t _ hs => stab_fgF hs hF, fun e he hs => ?_, fun e he => ?_, rfl⟩
  · simp only [LSt.ocall, hb e he, hF e he, Bool.false_eq_true, if_false]
    cases hbx : st.box e with
    | none => rfl
    | some cs => rw [Option.map_some, map_stab (hs cs hbx) fun x hx => stab_fgF1 hx hF]
  · simp only [LSt.ocall, hb e he, hF e he, Bool.false_eq_true, if_false]
/-- An effect: of memory, or of a call that takes over and gives back. -/
def effX (oc : List (Nat × OCD P)) (st : LSt) (dst : Option Tmp) (op : Op) : Option (Prop × LSt) :=
  match ocAt oc dst op with
  | some q => some (ocOk st q.1.1 q.1.2 q.2.2, ocNext st q.2.1 q.2.2)
  | none => effE P st dst op
def touchX (oc : List (Nat × OCD P)) (st : LSt) (dst : Option Tmp) (op : Op) : List Nat :=
  match ocAt oc dst op with
  | some q => (firsts q.2.2.ha ++ seconds q.2.2.ba) ++ [q.2.1]
  | none => touch st dst op
theorem effX_calm {oc : List (Nat × OCD P)} {SB : List Nat} {st st' : LSt} {dst : Option Tmp} {op : Op} {c : Prop} (h : effX oc st dst op = some (c, st')) (ht : disjL SB (touchX oc st dst op) = true) : Calm SB dst st st' := by
  unfold effX at h
  unfold touchX at ht
  cases hq : ocAt oc dst op with
  | some q =>
    rw [hq] at h ht
    cases h
    obtain ⟨h1, _, _⟩ := ocAt_spec hq
    subst h1
    exact ocNext_calm (disjL_append ht).1
  | none => rw [hq] at h ht; exact effE_calm h ht
theorem forget_put_stab {st : LSt} {SB : List Nat} {k d : Nat} {v : LV} (h : stab SB v = true) (hd : memL SB d = false) : (st.put (some k) v).forget d = (st.forget d).put (some k) v := by
  unfold LSt.forget LSt.put
  simp only
  congr 1
  funext j
  simp only [upd]
  split
  · exact stab_forget h hd
  · rfl
theorem evL_put_ne {st : LSt} {k : Nat} {v : LV} {y : Operand} (h : y ≠ .tmp k) : evL (st.put (some k) v).env y = evL st.env y := by
  cases y with
  | tmp t => exact put_env_ne (fun e => h (by cases e; rfl))
  | _ => rfl
theorem touch_put {st : LSt} {k : Nat} {v : LV} {dst : Option Tmp} {op : Op} (hk : .tmp k ∉ op.operands) : touch (st.put (some k) v) dst op = touch st dst op := by
  unfold touch
  split
  · rename_i d x r ts
    rw [evL_put_ne (fun e => hk (by rw [← e]; simp [Op.operands, Call.operands]))]
  · rfl
  · rename_i t p x
    rw [evL_put_ne (fun e => hk (by rw [← e]; simp [Op.operands]))]
  · rfl
theorem effE_putS {SB : List Nat} {st st1 : LSt} {dst : Option Tmp} {op : Op} {c : Prop} {k : Nat} {v : LV} (hv : stab SB v = true) (hk : .tmp k ∉ op.operands) (hd : dst ≠ some k) (ht : disjL SB (touch (st.put (some k) v) dst op) = true) (h : effE P (st.put (some k) v) dst op = some (c, st1)) :
    ∃ st2, effE P st dst op = some (c, st2) ∧ st1 = st2.put (some k) v := by
  have hev : ∀ y ∈ op.operands, evL (st.put (some k) v).env y = evL st.env y := fun y hy => evL_put_ne (fun e => hk (e ▸ hy))
  have pc : ∀ (s : LSt) (d : Nat) (x : LV), d ≠ k → (s.put (some k) v).put (some d) x = (s.put (some d) x).put (some k) v := fun s d x hne => put_comm v x (fun e he => by cases he; intro h; cases h; exact hne rfl)
  unfold effE at h ⊢
  split at h
  · rename_i d e x
    have hd2 := touch_d ht
    have hdk : d ≠ k := fun e => hd (by rw [e])
    rw [hev x (by simp [Op.operands])] at h
    unfold boxE at h ⊢
    split at h
    · rename_i cs hcs
      cases h
      refine ⟨_, rfl, ?_⟩
      rw [forget_put_stab hv hd2, setBox_putS]; exact pc _ d _ hdk
    · cases h
  · rename_i d e
    have hd2 := touch_d ht
    have hdk : d ≠ k := fun e => hd (by rw [e])
    unfold boxE at h ⊢
    split at h
    · rename_i cs hcs
      cases h
      refine ⟨_, rfl, ?_⟩
      rw [forget_put_stab hv hd2, setBox_putS]; exact pc _ d _ hdk
    · cases h
  · rename_i t p x
    rw [hev x (by simp [Op.operands]), hev p (by simp [Op.operands])] at h
    unfold storeE storeTo storeArr at h ⊢
    simp only [put_box, put_arr] at h
    split at h
    · rename_i d o xs hp hx
      split at h
      · rename_i cs hcs; cases h; exact ⟨_, rfl, rfl⟩
      · cases h
    · rename_i d o xs hp hx
      split at h
      · rename_i cs hcs; cases h; exact ⟨_, rfl, rfl⟩
      · cases h
    · cases h
  · rename_i d t n parts
    have hd2 := touch_d ht
    have hdk : d ≠ k := fun e => hd (by rw [e])
    have hparts : (parts.toList.map fun q => (q.1, evL (st.put (some k) v).env q.2)) = parts.toList.map fun q => (q.1, evL st.env q.2) := by
      apply List.map_congr_left
      intro q hq
      rw [hev q.2 (by simp only [Op.operands]; simpa using ⟨q.1, by simpa using hq⟩)]
    rw [hparts] at h
    unfold buildSliceE buildSliceE1 at h ⊢
    split at h
    · rename_i e kk hek
      split at h
      · rename_i cs hcs
        cases h
        refine ⟨_, rfl, ?_⟩
        rw [put_mode]
        cases st.mode d
        · simp only [cond_false]; exact pc _ d _ hdk
        · simp only [cond_true]
          split
          · rw [forget_put_stab hv hd2, setRow_putS]; exact pc _ d _ hdk
          · rw [forget_put_stab hv hd2, setArr_putS]; exact pc _ d _ hdk
      · cases h
    · cases h
  · rename_i d args ts
    have hd2 := touch_d ht
    have hdk : d ≠ k := fun e => hd (by rw [e])
    have hargs : ∀ y ∈ args.toList, evL (st.put (some k) v).env y = evL st.env y := fun y hy => hev y (by simp only [Op.operands, Call.operands]; simpa using hy)
    obtain ⟨al⟩ := args
    simp only at hargs h ⊢
    have htt2 : ∀ x r, al = x :: r → ∀ q ∈ idsOf (evL st.env x), memL SB q = false := by
      rintro x r rfl q hq
      have := disjL_spec ht q
      simp only [touch, hargs x (by simp), List.mem_cons] at this
      exact this (.inr hq)
    unfold appendE2 at h ⊢
    split at h
    · rename_i x y t t' hts
      rw [hargs x (by simp), hargs y (by simp), put_arr] at h
      split at h
      · rename_i htt
        rw [if_pos htt]
        unfold appendE at h ⊢
        split at h
        · rename_i e kk n cs tk m ds h1 h2 h3
          unfold appendE1 at h ⊢
          split at h
          · cases h
            refine ⟨_, rfl, ?_⟩
            rw [put_mode]
            cases st.mode d
            · simp only [cond_false]; rw [forget_put_stab hv hd2, setRow_putS]; exact pc _ d _ hdk
            · simp only [cond_true]; rw [forget_put_stab hv hd2, setArr_putS]; exact pc _ d _ hdk
          · rename_i q
            cases h
            refine ⟨_, rfl, ?_⟩
            rw [forget_put_stab hv (htt2 x _ rfl q (by rw [h2]; simp [idsOf])), setRow_putS]; exact pc _ d _ hdk
          · cases h
        · rename_i e kk q n e' m ds h1 h2 h3
          rw [put_arr] at h
          unfold appendA at h ⊢
          split at h
          · rename_i cs hcs
            cases h
            refine ⟨_, rfl, ?_⟩
            rw [forget_put_stab hv (htt2 x _ rfl q (by rw [h2]; simp [idsOf])), setArr_putS]; exact pc _ d _ hdk
          · cases h
        · cases h
      · cases h
    · cases h
  · cases h
theorem effX_putS {oc : List (Nat × OCD P)} {SB : List Nat} {st st1 : LSt} {dst : Option Tmp} {op : Op} {c : Prop} {k : Nat} {v : LV} (hv : stab SB v = true) (hk : .tmp k ∉ op.operands) (hd : dst ≠ some k) (ht : disjL SB (touchX oc (st.put (some k) v) dst op) = true) (h : effX oc (st.put (some k) v) dst op = some (c, st1)) :
    ∃ st2, effX oc st dst op = some (c, st2) ∧ st1 = st2.put (some k) v := by
  unfold effX at h ⊢
  unfold touchX at ht
  cases hq : ocAt oc dst op with
  | none => rw [hq] at h ht; exact effE_putS hv hk hd ht h
  | some q =>
    rw [hq] at h ht
    simp only [Option.some.injEq, Prod.mk.injEq] at h
    obtain ⟨rfl, rfl⟩ := h
    obtain ⟨h1, h2, _⟩ := ocAt_spec hq
    obtain ⟨⟨f, args⟩, d, C⟩ := q
    simp only at h1 h2 ht ⊢
    subst h1
    have hdk : d ≠ k := fun e => hd (by rw [e])
    obtain ⟨ts, rfl⟩ := callOf_ops h2
    have ha : args.map (evL (st.put (some k) v).env) = args.map (evL st.env) := List.map_congr_left fun y hy => evL_put_ne fun e => hk (by rw [← e]; simp [Op.operands, Call.operands, hy])
    have hF : ∀ q, memL SB q = true → memL (firsts C.ha ++ seconds C.ba) q = false := fun q hq => disjL_mem (disjL_append ht).1 hq
    have e : ocOk st f args C = ocOk (st.put (some k) v) f args C := by
      unfold ocOk
      rw [ha]
      rfl
    refine ⟨ocNext st d C, by rw [e], ?_⟩
    · unfold ocNext
      have : (st.put (some k) v).ocall (firsts C.ha ++ seconds C.ba) C.ba C.R = (st.ocall (firsts C.ha ++ seconds C.ba) C.ba C.R).put (some k) v := by
        unfold LSt.ocall LSt.put
        simp only
        congr 1
        funext j
        simp only [upd]
        split
        · exact stab_fgF hv hF
        · rfl
      rw [this]
      exact put_comm v _ (fun e he => by cases he; intro h; cases h; exact hdk rfl)
theorem touchX_put {oc : List (Nat × OCD P)} {st : LSt} {k : Nat} {v : LV} {dst : Option Tmp} {op : Op} (hk : .tmp k ∉ op.operands) : touchX oc (st.put (some k) v) dst op = touchX oc st dst op := by
  unfold touchX
  split
  · rfl
  · exact touch_put hk
/-- What is read is the same behind an effect. -/
theorem bx_calm {SB : List Nat} {dst : Option Tmp} {st st' : LSt} {x : LV} (hc : Calm SB dst st st') (hx : stab SB x = true) (hb : bxStab SB st.box x = true) : bxStab SB st'.box x = true := by
  unfold bxStab at hb ⊢
  split
  · rename_i e o
    simp only at hb
    rw [hc.box e hx fun cs hcs => by rw [hcs] at hb; exact hb]; exact hb
  · rfl
theorem pv_calm {SB : List Nat} {dst : Option Tmp} {st st' : LSt} {op : Op} {v : LV} (hc : Calm SB dst st st') (hs : opsStab SB st op = true) (hρ : ∀ y ∈ op.operands, evL st'.env y = evL st.env y) (h : pv P (evL st.env) st.box st.arr op = some v) : pv P (evL st'.env) st'.box st'.arr op = some v := by
  rw [pv_congr (P := P) (ρ := evL st'.env) (ρ' := evL st.env) hρ]
  cases op <;> first | exact h | skip
  case load t p =>
    simp only [pv] at h ⊢
    have h1 := (List.all_eq_true.1 hs) p (by simp [Op.operands])
    rw [Bool.and_eq_true] at h1
    unfold loadAtL at h ⊢
    split at h
    · exact h
    · rename_i d o hp
      rw [hp] at h1
      split at h
      · rename_i cs hb
        have h2 := h1.2
        simp only [bxStab, hb] at h2
        rw [hc.box d h1.1 fun cs' hcs' => by rw [hb] at hcs'; cases hcs'; exact h2, hb]; exact h
      · cases h
    · rename_i d o hp
      rw [hp] at h1
      rw [hc.arr d h1.1]; exact h
    · cases h
  case call c =>
    obtain ⟨callee, args, ts⟩ := c
    cases callee <;> exact h
  case slice t x lo hi mx => cases mx <;> exact h
theorem want_calm {SB : List Nat} {dst : Option Tmp} {st st' : LSt} {o : Oper} {b : Bool} (hc : Calm SB dst st st') (ha : ∀ t, dst = some t → t ∉ o.looksAt ops) (hb : wantL ops o st.env = some b) : wantL ops o st'.env = some b := by
  unfold wantL at hb ⊢
  cases hg : o.guard with
  | none => rw [hg] at hb; exact hb
  | some jw =>
    obtain ⟨j, want⟩ := jw
    rw [hg] at hb
    simp only at hb ⊢
    cases hj : (ops[j]?).bind (·.dst) with
    | none => rw [hj] at hb; exact hb
    | some t =>
      rw [hj] at hb
      simp only at hb ⊢
      have hn : dst ≠ some t := fun e => ha t e (by simp [Oper.looksAt, hg, hj])
      have hl : ∀ u, st.env t = .lit u → st'.env t = .lit u := fun u hu => by rw [hc.env t hn (by rw [hu]; rfl)]; exact hu
      split at hb
      · rename_i c hcc; rw [hl _ hcc]; exact hb
      · rename_i vs hcc; rw [hl _ hcc]; exact hb
      · cases hb
theorem yields_calm {SB : List Nat} {dst : Option Tmp} {st st' : LSt} {o : Oper} {v : LV} (hc : Calm SB dst st st') (hs : opsStab SB st o.op = true ∨ wantL ops o st.env = some false) (ha : ∀ t, dst = some t → t ∉ o.looksAt ops) (h : YieldsL P ops o v st) : YieldsL P ops o v st' := by
  rcases h with ⟨h1, h2⟩ | ⟨h1, h2⟩
  · rcases hs with hs | hs
    rotate_left
    · rw [hs] at h1; cases h1
    have hρ : ∀ y ∈ o.op.operands, evL st'.env y = evL st.env y := fun y hy => by
      cases y with
      | tmp t =>
        have h1 := (List.all_eq_true.1 hs) (.tmp t) (by simpa using hy)
        rw [Bool.and_eq_true] at h1
        exact hc.env t (fun e => ha t e (List.mem_append_left _ (List.mem_filterMap.2 ⟨.tmp t, by simpa using hy, rfl⟩))) h1.1
      | _ => rfl
    refine .inl ⟨want_calm hc ha h1, ?_⟩
    rcases h2 with h2 | ⟨f, args, r, h2, h3, h4⟩ | ⟨c, h2, h3⟩
    · exact .inl (pv_calm hc hs hρ h2)
    · refine .inr (.inl ⟨f, args, r, h2, ?_, h4⟩)
      obtain ⟨ts, e⟩ := callOf_ops h2
      have : args.map (evL st'.env) = args.map (evL st.env) := List.map_congr_left fun y hy => hρ y (by rw [e]; simp [Op.operands, Call.operands, hy])
      rw [this]; exact h3
    · exact .inr (.inr ⟨c, by rw [buildV_congr hρ]; exact h2, h3⟩)
  · exact .inr ⟨want_calm hc ha h1, h2⟩
theorem opsStab_calm {SB : List Nat} {dst : Option Tmp} {st st' : LSt} {op : Op} (hc : Calm SB dst st st') (hd : ∀ t, dst = some t → .tmp t ∉ op.operands) (hs : opsStab SB st op = true) : opsStab SB st' op = true := by
  unfold opsStab at hs ⊢
  rw [List.all_eq_true] at hs ⊢
  intro y hy
  have h1 := hs y hy
  rw [Bool.and_eq_true] at h1 ⊢
  have hy' : y ∈ op.operands := by simpa using hy
  have he : evL st'.env y = evL st.env y := by
    cases y with
    | tmp t => exact hc.env t (fun e => hd t e hy') h1.1
    | _ => rfl
  rw [he]
  exact ⟨h1.1, bx_calm hc h1.1 h1.2⟩
end
end Go.Proofs.Ytmchdjpgceiloaa
