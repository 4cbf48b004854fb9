/-
  A DRAWN REGION WITH EFFECTS: the orders.
-/
import Derived.Test.YtmchdjpgceiloaaL20
set_option linter.unusedSimpArgs false
set_option linter.unusedVariables false
namespace Go.Proofs.Ytmchdjpgceiloaa
open Go.RowKit

def effB2 (ocd : List Nat) (mo : Nat → Bool) (o : Oper) : Bool := (match o.dst with | some d => memL ocd d | none => false) || !(pureB o && bmode mo o)
def alookD (l : List (Nat × List Nat)) (i : Nat) : List Nat := (alook l i).getD []
section
variable {P : Program} {N : Nat} {w0 : World} {S0 : Ent} {ops : Array Oper} {md : Region.Mode} {mo : Nat → Bool} {ml : List (Nat × List Nat)} {oc : List (Nat × OCD P)} {ocd : List Nat}
def mx2Op (oc : List (Nat × OCD P)) (ocd : List Nat) (mo : Nat → Bool) (ml : List (Nat × List Nat)) (ops : Array Oper) (i : Nat) (K : LSt → Prop) (st : LSt) : Prop :=
  match ops[i]? with
  | none => K st
  | some o => (∃ x, YieldsL P ops o x st ∧ K (st.put o.dst x)) ∨ (o.guard = none ∧ effB2 ocd mo o = true ∧ ∃ c st', effX oc st o.dst o.op = some (c, st') ∧ c ∧ disjL (alookD ml i) (touchX oc st o.dst o.op) = true ∧ K st')
def mx2L (oc : List (Nat × OCD P)) (ocd : List Nat) (mo : Nat → Bool) (ml : List (Nat × List Nat)) (md : Region.Mode) (ops : Array Oper) (Q : LSt → Prop) : Nat → Array Bool → LSt → Prop
  | 0, listed, st => Region.ready md ops listed = [] ∧ Q st
  | fuel + 1, listed, st => (Region.ready md ops listed = [] → Q st) ∧ ∀ i ∈ Region.ready md ops listed, mx2Op oc ocd mo ml ops i (mx2L oc ocd mo ml md ops Q fuel (listed.setIfInBounds i true)) st
theorem wpAny_of_mx2L {Q : LSt → Prop} {Q' : Exit → Act → World → Prop} (hd : ∀ (i : Nat) (o : Oper), ops[i]? = some o → dstOk N o.dst = true) (hQ : ∀ st a w, Rel P N w0 S0 st a w → Q st → Q' .normal a w) :
    ∀ (fuel : Nat) (listed : Array Bool) (st : LSt) (a : Act) (w : World), Rel P N w0 S0 st a w → mx2L oc ocd mo ml md ops Q fuel listed st → wpAny P md ops Q' fuel listed a w
  | 0, _, _, _, _, hr, h => ⟨h.1, hQ _ _ _ hr h.2⟩
  | fuel + 1, _, st, a, w, hr, h => by
    refine ⟨fun h0 => hQ _ _ _ hr (h.1 h0), fun i hi => ?_⟩
    have h1 := h.2 i hi
    unfold mx2Op at h1
    unfold wpOp
    split
    · rename_i ho; simp only [ho] at h1; exact wpAny_of_mx2L hd hQ fuel _ st a w hr h1
    · rename_i o ho
      simp only [ho] at h1
      obtain ⟨g, hg⟩ := hr
      rcases h1 with ⟨x, hy, hK⟩ | ⟨hgd, _, c, st', he, hc, _, hK⟩
      · rcases hy with ⟨hw, hv⟩ | ⟨hw, rfl⟩
        · rw [wantL_run hg.env hw, if_pos rfl]
          exact .inl (hv.wp hg (dstOk_spec (hd i o ho)) fun a' w' hr' => wpAny_of_mx2L hd hQ fuel _ _ a' w' hr' hK)
        · rw [wantL_run hg.env hw, if_neg (by simp)]
          exact wpAny_of_mx2L hd hQ fuel _ _ _ _ ⟨g, hg.put (dstOk_spec (hd i o ho)) (.lit _ _)⟩ hK
      · have hw : wantL ops o st.env = some true := by simp [wantL, hgd]
        rw [wantL_run hg.env hw, if_pos rfl]
        unfold effX at he
        cases hq : ocAt oc o.dst o.op with
        | none =>
          rw [hq] at he
          exact .inl (effE_wp hg (dstOk_spec (hd i o ho)) he hc fun a' w' hr' => wpAny_of_mx2L hd hQ fuel _ _ a' w' hr' hK)
        | some q =>
          rw [hq] at he
          simp only [Option.some.injEq, Prod.mk.injEq] at he
          obtain ⟨rfl, rfl⟩ := he
          exact .inl (oc_wp ⟨g, hg⟩ (hd i o ho) hq hc fun a' w' hr' => wpAny_of_mx2L hd hQ fuel _ _ a' w' hr' hK)
def subL (a b : List Nat) : Bool := a.all fun x => memL b x
theorem disj_sub {SB l r : List Nat} (h : subL SB l = true) (hd : disjL l r = true) : disjL SB r = true := by
  induction r with
  | nil => rfl
  | cons a r ih =>
    unfold disjL at hd ⊢
    rw [Bool.and_eq_true] at hd ⊢
    refine ⟨?_, ih hd.2⟩
    cases hm : memL SB a with
    | false => rfl
    | true =>
      have := List.all_eq_true.1 h a ((memL_iff _ _).1 hm)
      rw [this] at hd; cases hd.1
/-- What only reads may come first: before effects that wait for it, or that turn nothing of what it looks at. -/
theorem mx2L_first {Q : LSt → Prop} {i : Nat} {oi : Oper} {v : LV} (hi : ops[i]? = some oi) :
    ∀ (fuel : Nat) (listed : Array Bool) (st : LSt), Closed md ops listed →
      (∀ j oj, ops[j]? = some oj → j ≠ i → listed.getD j true = false → (∀ e ∈ oj.after, Region.binds md e = true → e.on ≠ i) → oi.apart ops oj = true) →
      ((∃ SB, (opsStab SB st oi.op = true ∨ wantL ops oi st.env = some false) ∧ stab SB v = true ∧ ∀ j oj, ops[j]? = some oj → j ≠ i → listed.getD j true = false → effB2 ocd mo oj = true → waitsB md ops ops.size j i = true ∨ subL SB (alookD ml j) = true) ∨ ∀ j oj, ops[j]? = some oj → j ≠ i → listed.getD j true = false → effB2 ocd mo oj = true → waitsB md ops ops.size j i = true) →
      i ∈ Region.ready md ops listed → YieldsL P ops oi v st →
      mx2L oc ocd mo ml md ops Q fuel (listed.setIfInBounds i true) (st.put oi.dst v) → mx2L oc ocd mo ml md ops Q (fuel + 1) listed st := by
  intro fuel
  have self : ∀ {st : LSt} {K : LSt → Prop}, YieldsL P ops oi v st → K (st.put oi.dst v) → mx2Op oc ocd mo ml ops i K st := by
    intro st K hy hK
    unfold mx2Op; simp only [hi]; exact .inl ⟨v, hy, hK⟩
  induction fuel with
  | zero =>
    intro listed st _ _ _ hr hy H
    refine ⟨fun h => (by rw [h] at hr; cases hr), fun j hj => ?_⟩
    by_cases hji : j = i
    · subst hji; exact self hy H
    · have := ready_mono hj hji
      rw [H.1] at this
      cases this
  | succ fuel ih =>
    intro listed st hcl hfree hcase hr hy H
    refine ⟨fun h => (by rw [h] at hr; cases hr), fun j hj => ?_⟩
    by_cases hji : j = i
    · subst hji; exact self hy H
    · have h1 := H.2 j (ready_mono hj hji)
      obtain ⟨hjun, oj, hoj, hall⟩ := mem_ready.1 hj
      have hiun := (mem_ready.1 hr).1
      have hnot : ∀ e ∈ oj.after, Region.binds md e = true → e.on ≠ i := fun e he hb heq => by
        have h1 := hall e he hb
        rw [heq, getD_both hiun] at h1; cases h1
      have hap := hfree j oj hoj hji hjun hnot
      obtain ⟨a1, a2, a3⟩ := Oper.apart_spec hap
      have hun' : ∀ k, (listed.setIfInBounds j true).getD k true = false → listed.getD k true = false := fun k hun => by
        by_cases hjk : j = k
        · subst hjk; exact hjun
        · rw [getD_set_ne true hjk] at hun; exact hun
      have hfree' : ∀ k ok, ops[k]? = some ok → k ≠ i → (listed.setIfInBounds j true).getD k true = false →
          (∀ e ∈ ok.after, Region.binds md e = true → e.on ≠ i) → oi.apart ops ok = true := fun k ok hk hki hun hno => hfree k ok hk hki (hun' k hun) hno
      have hr' := ready_mono hr (Ne.symm hji)
      have hswap := Array.setIfInBounds_comm true true (xs := listed) hji
      have nodst : ∀ t, oj.dst = some t → .tmp t ∉ oi.op.operands := fun t ht hm => a3 t ht (List.mem_append_left _ (List.mem_filterMap.2 ⟨.tmp t, by simpa using hm, rfl⟩))
      unfold mx2Op at h1 ⊢
      simp only [hoj] at h1 ⊢
      rcases h1 with ⟨u, hu, hn⟩ | ⟨hgd, heff, c, st1, he, hc, htc, hn⟩
      · have hu' := (YieldsL.put v a1).1 hu
        refine .inl ⟨u, hu', ih _ _ (hcl.set hj) hfree' ?_ hr' ((YieldsL.put u a3).2 hy) ?_⟩
        · rcases hcase with ⟨SB, h1, h2, h3⟩ | h
          · refine .inl ⟨SB, ?_, h2, fun k ok hk hki hun he => h3 k ok hk hki (hun' k hun) he⟩
            have hcm : Calm SB oj.dst st (st.put oj.dst u) := ⟨fun t ht _ => put_env_ne ht, fun e _ _ => by rw [put_box], fun e _ => by rw [put_arr], put_mode _ _ _⟩
            exact h1.imp (opsStab_calm hcm nodst) (want_calm hcm a3)
          · exact .inr fun k ok hk hki hun he => h k ok hk hki (hun' k hun) he
        · rw [← put_comm v u a2, hswap]
          exact hn
      · rcases hcase with ⟨SB, hs1, hs2, hs3⟩ | hne
        · rcases hs3 j oj hoj hji hjun heff with hw | hsub
          · rw [needs_not hcl (getD_both hiun) _ j oj hoj hall] at hw; cases hw
          · have htS := disj_sub hsub htc
            have key : ∃ st2, effX oc st oj.dst oj.op = some (c, st2) ∧ st1 = st2.put oi.dst v ∧ disjL (alookD ml j) (touchX oc st oj.dst oj.op) = true := by
              cases hd : oi.dst with
              | none => rw [hd] at he htc; exact ⟨st1, he, rfl, htc⟩
              | some k =>
                rw [hd] at he htS htc
                have hk : .tmp k ∉ oj.op.operands := fun hk => a1 k hd (List.mem_append_left _ (List.mem_filterMap.2 ⟨.tmp k, by simpa using hk, rfl⟩))
                obtain ⟨st2, e1, e2⟩ := effX_putS hs2 hk (a2 k hd) htS he
                exact ⟨st2, e1, e2, by rw [touchX_put hk] at htc; exact htc⟩
            obtain ⟨st2, he2, rfl, htc2⟩ := key
            have hcalm := effX_calm he2 (disj_sub hsub htc2)
            refine .inr ⟨hgd, heff, c, st2, he2, hc, htc2, ih _ _ (hcl.set hj) hfree' (.inl ⟨SB, hs1.imp (opsStab_calm hcalm nodst) (want_calm hcalm a3), hs2, fun k ok hk hki hun he => hs3 k ok hk hki (hun' k hun) he⟩) hr' (yields_calm hcalm hs1 a3 hy) ?_⟩
            rw [hswap]
            exact hn
        · have h2 := hne j oj hoj hji hjun heff
          rw [needs_not hcl (getD_both hiun) _ j oj hoj hall] at h2; cases h2
/-- May k come first? -/
def okFirst2 (md : Region.Mode) (ops : Array Oper) (ocd : List Nat) (mo : Nat → Bool) (ml : List (Nat × List Nat)) (listed : Array Bool) (k : Nat) : Bool :=
  (Region.ready md ops listed).contains k && Region.free md ops listed k && (match ops[k]? with | some o => !effB2 ocd mo o | none => false) &&
  ((List.range ops.size).all fun j => j == k || listed.getD j true || (match ops[j]? with | some oj => !effB2 ocd mo oj | none => true) || waitsB md ops ops.size j k || (match alook ml k with | some SB => subL SB (alookD ml j) | none => false))
def preB2 (md : Region.Mode) (ops : Array Oper) (ocd : List Nat) (mo : Nat → Bool) (ml : List (Nat × List Nat)) : List Nat → Array Bool → Option (Array Bool)
  | [], listed => some listed
  | k :: r, listed => if okFirst2 md ops ocd mo ml listed k then preB2 md ops ocd mo ml r (listed.setIfInBounds k true) else none
def getM (ops : Array Oper) (ml : List (Nat × List Nat)) : List Nat → List (Option (List Nat) × Oper)
  | [] => []
  | i :: r => match ops[i]? with | some o => (alook ml i, o) :: getM ops ml r | none => getM ops ml r
theorem ocAt_none (hocd : ocd = oc.map (·.1)) {o : Oper} (h : effB2 ocd mo o = false) : ocAt oc o.dst o.op = none := by
  unfold effB2 at h
  rw [Bool.or_eq_false_iff] at h
  cases hq : ocAt oc o.dst o.op with
  | none => rfl
  | some q =>
    obtain ⟨h1, _, h3⟩ := ocAt_spec hq
    rw [h1] at h
    have h2 := h.1
    simp only at h2
    have : memL ocd q.2.1 = true := by
      rw [memL_iff, hocd]; exact List.mem_map.2 ⟨_, alook_mem h3, rfl⟩
    rw [this] at h2; cases h2
theorem lopX_pure {m : Option (List Nat)} {o : Oper} {st : LSt} {K : LSt → Prop} (hq : ocAt oc o.dst o.op = none) (hp : pureB o = true) (hmd : bmode st.mode o = true) (h : lopX P oc m o st K) : ∃ x, LVal P (evL st.env) st.box st.arr o.op x ∧ (∀ SB, m = some SB → stOk SB st o.op x = true) ∧ K (st.put o.dst x) := by
  unfold lopX at h
  rw [hq] at h
  simp only at h
  cases hx : pv P (evL st.env) st.box st.arr o.op with
  | some x => rw [hx] at h; exact ⟨x, .inl hx, fun SB e => by have := h.1; rw [e] at this; exact this, h.2⟩
  | none =>
    rw [hx, pvK_none] at h
    cases hc : callOf o.op with
    | some fa =>
      obtain ⟨f, args⟩ := fa
      rw [hc] at h
      obtain ⟨r, hr, hK⟩ := h
      exact ⟨strip r, .inr (.inl ⟨f, args, r, hc, hr, rfl⟩), fun SB e => by have := hK.1; rw [e] at this; exact this, hK.2⟩
    | none =>
      rw [hc, callK_none] at h
      obtain ⟨dst, op, type, pos, after, guard⟩ := o
      simp only at h
      cases he : effE P st dst op with
      | none => rw [he] at h; exact h.elim
      | some cs =>
        rw [he] at h
        unfold effE at he
        split at he
        · cases hp
        · cases hp
        · cases hp
        · rename_i d t n parts
          have hm : st.mode d = false := by simpa [bmode] using hmd
          cases hek : elemL P t with
          | none => rw [hek] at he; cases he
          | some ek =>
            obtain ⟨e, k⟩ := ek
            rw [hek] at he
            simp only [buildSliceE] at he
            cases hcs : partsL k 0 (parts.toList.map fun q => (q.1, evL st.env q.2)) with
            | none => rw [hcs] at he; cases he
            | some xs =>
              rw [hcs] at he
              cases he
              obtain ⟨⟨h1, h2, h3, h4⟩, hm2, hK⟩ := h
              rw [hm, cond_false, cond_false] at hK
              rw [List.length_map] at h2
              have hbv : buildV P (evL st.env) (.buildSlice t n parts) = some ((0 < k ∧ parts.toList.length = n ∧ n * k ≤ 16777216 ∧ zeroOk P e = true), .sl n xs .no) := by simp only [buildV, hek, hcs, Option.map_some]
              refine ⟨.sl n xs .no, .inr (.inr ⟨_, hbv, h1, h2, h3, h4⟩), fun SB e => ?_, hK⟩
              rw [e] at hm2
              simp only [mOk, effOk, hm, cond_false] at hm2
              unfold stOk
              rw [hm2]; rfl
        · cases hp
        · cases he
theorem mx2L_pre (hocd : ocd = oc.map (·.1)) {Q T : LSt → Prop} {g : Nat} {listed' : Array Bool} : ∀ (pre : List Nat) (listed : Array Bool) (st : LSt), preB2 md ops ocd mo ml pre listed = some listed' → Closed md ops listed → st.mode = mo →
    (∀ st', T st' → st'.mode = mo → mx2L oc ocd mo ml md ops Q g listed' st') → lopsX P N oc ops (getM ops ml pre) T st → mx2L oc ocd mo ml md ops Q (pre.length + g) listed st
  | [], listed, st, hB, hcl, hmo, hT, h => by
    cases hB
    rw [List.length_nil, Nat.zero_add]
    exact hT st h hmo
  | k :: r, listed, st, hB, hcl, hmo, hT, h => by
    unfold preB2 at hB
    split at hB
    · rename_i hok
      unfold okFirst2 at hok
      simp only [Bool.and_eq_true] at hok
      obtain ⟨⟨⟨hr, hf⟩, hef⟩, hcase⟩ := hok
      have hr' : k ∈ Region.ready md ops listed := by simpa using hr
      obtain ⟨_, o, ho, _⟩ := mem_ready.1 hr'
      rw [ho] at hef
      simp only [Bool.not_eq_true'] at hef
      have hq := ocAt_none (oc := oc) hocd hef
      have hef2 : pureB o = true ∧ bmode mo o = true := by
        unfold effB2 at hef
        rw [Bool.or_eq_false_iff] at hef
        have := hef.2
        simpa using this
      have hget : getM ops ml (k :: r) = (alook ml k, o) :: getM ops ml r := by simp only [getM, ho]
      rw [hget] at h
      obtain ⟨_, h⟩ := h
      have hst : ∃ v, YieldsL P ops o v st ∧ (∀ SB, alook ml k = some SB → (opsStab SB st o.op = true ∨ wantL ops o st.env = some false) ∧ stab SB v = true) ∧ lopsX P N oc ops (getM ops ml r) T (st.put o.dst v) := by
        cases hg : guardL ops o st.env with
        | some wb =>
          obtain ⟨want, b⟩ := wb
          rw [hg] at h
          have hw := guardL_want hg
          cases hc : wantB b want
          · rw [hc] at hw; exact ⟨.lit undef, .inr ⟨hw, rfl⟩, fun SB e => ⟨.inr hw, rfl⟩, h.2 hc⟩
          · rw [hc] at hw
            obtain ⟨x, h1, hs, h2⟩ := lopX_pure hq hef2.1 (by rw [hmo]; exact hef2.2) (h.1 hc)
            refine ⟨x, .inl ⟨hw, h1⟩, fun SB e => ?_, h2⟩
            have := hs SB e
            unfold stOk at this
            rw [Bool.and_eq_true] at this
            exact ⟨.inl this.1, this.2⟩
        | none => rw [hg] at h; exact h.elim
      rw [List.all_eq_true] at hcase
      have hcj : ∀ j oj, ops[j]? = some oj → j ≠ k → listed.getD j true = false → effB2 ocd mo oj = true → waitsB md ops ops.size j k = true ∨ ∃ SB, alook ml k = some SB ∧ subL SB (alookD ml j) = true := fun j oj hj hjk hun he => by
        have h1 := hcase j (List.mem_range.2 (Array.getElem?_eq_some_iff.1 hj).1)
        simp only [hj, hun, he, Bool.or_false, Bool.not_true, Bool.or_eq_true, beq_iff_eq] at h1
        rcases h1 with (h1 | h1) | h1
        · exact absurd h1 hjk
        · exact .inl h1
        · cases hs : alook ml k with
          | none => rw [hs] at h1; cases h1
          | some SB => rw [hs] at h1; exact .inr ⟨SB, rfl, h1⟩
      rw [List.length_cons, show r.length + 1 + g = (r.length + g) + 1 by omega]
      obtain ⟨v, hy, hs, hK⟩ := hst
      have := mx2L_pre hocd r (listed.setIfInBounds k true) (st.put o.dst v) hB (hcl.set hr') (by rw [put_mode]; exact hmo) hT hK
      refine mx2L_first ho _ listed st hcl (Region.free_spec ho hf) ?_ hr' hy this
      cases hm : alook ml k with
      | some SB =>
        refine .inl ⟨SB, (hs SB hm).1, (hs SB hm).2, fun j oj hj hjk hun he => ?_⟩
        rcases hcj j oj hj hjk hun he with h | ⟨SB', e1, e2⟩
        · exact .inl h
        · rw [hm] at e1; cases e1; exact .inr e2
      | none =>
        refine .inr fun j oj hj hjk hun he => ?_
        rcases hcj j oj hj hjk hun he with h | ⟨SB', e1, e2⟩
        · exact h
        · rw [hm] at e1; cases e1
    · cases hB
/-- All orders of what is left: not guarded, no calls but those that take over or give back. -/
def ordB2 (md : Region.Mode) (ops : Array Oper) (ocd : List Nat) (mo : Nat → Bool) (ml : List (Nat × List Nat)) : Nat → Array Bool → Bool
  | 0, listed => (Region.ready md ops listed).isEmpty
  | f + 1, listed => (Region.ready md ops listed).all fun i => (match ops[i]? with | some o => o.guard.isNone && ((callOf o.op).isSome == (match o.dst with | some d => memL ocd d | none => false)) | none => false) && ordB2 md ops ocd mo ml f (listed.setIfInBounds i true)
theorem lopX_all {m : Option (List Nat)} {o : Oper} {st : LSt} {α : Type} {ps : List α} {F : α → LSt → Prop} (hc : (callOf o.op).isNone = true ∨ (ocAt oc o.dst o.op).isSome = true) (hne : ps ≠ []) (h : ∀ p ∈ ps, lopX P oc m o st (F p)) : lopX P oc m o st (fun st' => ∀ p ∈ ps, F p st') := by
  obtain ⟨p0, hp0⟩ := List.exists_mem_of_ne_nil _ hne
  unfold lopX at h ⊢
  cases hq : ocAt oc o.dst o.op with
  | some q =>
    rw [hq] at h
    exact ⟨(h p0 hp0).1, fun p hp => (h p hp).2⟩
  | none =>
    have hcn : callOf o.op = none := by
      rcases hc with h | h
      · simpa using h
      · rw [hq] at h; cases h
    rw [hq] at h
    simp only at h ⊢
    cases hx : pv P (evL st.env) st.box st.arr o.op with
    | some x => rw [hx] at h; exact ⟨(h p0 hp0).1, fun p hp => (h p hp).2⟩
    | none =>
      rw [hx, hcn] at h
      rw [hcn]
      cases hs : effE P st o.dst o.op with
      | none =>
        have := h p0 hp0
        rw [hs] at this
        exact this
      | some cs =>
        obtain ⟨c, st'⟩ := cs
        rw [hs] at h
        have h0 := h p0 hp0
        exact ⟨h0.1, h0.2.1, fun p hp => (h p hp).2.2⟩
theorem calm_mode {SB : List Nat} {dst : Option Tmp} {st st' : LSt} (h : Calm SB dst st st') : st'.mode = st.mode := h.mode
theorem effX_mode {st st' : LSt} {dst : Option Tmp} {op : Op} {c : Prop} (h : effX oc st dst op = some (c, st')) : st'.mode = st.mode := by
  refine (effX_calm (SB := []) h ?_).mode
  generalize touchX oc st dst op = l
  induction l with
  | nil => rfl
  | cons a l ih => simp [disjL, memL, ih]
theorem ocAt_some (hocd : ocd = oc.map (·.1)) {o : Oper} {d : Nat} (h1 : o.dst = some d) (h2 : memL ocd d = true) (h3 : (callOf o.op).isSome = true) : (ocAt oc o.dst o.op).isSome = true := by
  rw [h1]
  unfold ocAt
  simp only
  have h4 : ∃ C, alook oc d = some C := by
    rw [hocd, memL_iff] at h2
    clear hocd
    induction oc with
    | nil => simp at h2
    | cons x r ih =>
      obtain ⟨c, C⟩ := x
      unfold alook
      by_cases hc : d = c
      · exact ⟨C, if_pos hc⟩
      · rw [if_neg hc]
        rw [List.map_cons, List.mem_cons] at h2
        exact ih (h2.resolve_left hc)
  obtain ⟨C, hC⟩ := h4
  rw [hC]
  simpa using h3
theorem disj_oc {SB a : List Nat} {d : Nat} (h : (disjL SB a && disjL SB [d]) = true) : disjL SB (a ++ [d]) = true := by
  rw [Bool.and_eq_true] at h
  induction a with
  | nil => exact h.2
  | cons x a ih =>
    have h1 := h.1
    simp only [disjL, Bool.and_eq_true, List.cons_append] at h1 ⊢
    exact ⟨h1.1, ih ⟨h1.2, h.2⟩⟩
theorem disj_nil : ∀ l : List Nat, disjL [] l = true
  | [] => rfl
  | a :: l => by simp [disjL, memL, disj_nil l]
theorem mOk_look {i : Nat} {f : List Nat → Bool} (h : mOk (alook ml i) f = true) (h0 : f [] = true) : f (alookD ml i) = true := by
  unfold alookD
  cases hm : alook ml i with
  | none => exact h0
  | some l => rw [hm] at h; exact h
theorem effOk_eff {st : LSt} {o : Oper} (hef : (pureB o && bmode st.mode o) = false) (SB : List Nat) : effOk SB st o.dst o.op = disjL SB (touch st o.dst o.op) := by
  obtain ⟨dst, op, type, pos, after, guard⟩ := o
  cases op <;> try rfl
  case buildSlice t n ps =>
    cases dst with
    | none => rfl
    | some d =>
      simp only [pureB, bmode, Bool.true_and, Bool.not_eq_false'] at hef
      simp only [effOk, hef, cond_true, touch]
theorem mx2L_orders (hocd : ocd = oc.map (·.1)) {Q : LSt → Prop} : ∀ (f : Nat) (listed : Array Bool) (st : LSt), ordB2 md ops ocd mo ml f listed = true → st.mode = mo → (∀ p ∈ orders md ops f listed, lopsX P N oc ops (getM ops ml p) Q st) → mx2L oc ocd mo ml md ops Q f listed st
  | 0, listed, st, hB, _, h => by
    refine ⟨by simpa [ordB2] using hB, ?_⟩
    exact h [] (by simp [orders])
  | f + 1, listed, st, hB, hmo, h => by
    refine ⟨fun h0 => h [] (by simp [orders, h0]), fun i hi => ?_⟩
    unfold ordB2 at hB
    rw [List.all_eq_true] at hB
    have hBi := hB i hi
    rw [Bool.and_eq_true] at hBi
    obtain ⟨_, o, ho, _⟩ := mem_ready.1 hi
    rw [ho] at hBi
    simp only [Bool.and_eq_true] at hBi
    obtain ⟨⟨hgd, hcn⟩, hB'⟩ := hBi
    have hgd' : o.guard = none := by simpa using hgd
    have hne0 : (Region.ready md ops listed).isEmpty = false := by
      rw [List.isEmpty_eq_false_iff]; exact List.ne_nil_of_mem hi
    have hps : ∀ p ∈ orders md ops f (listed.setIfInBounds i true), lopsX P N oc ops ((alook ml i, o) :: getM ops ml p) Q st := fun p hp => by
      have := h (i :: p) (by
        unfold orders
        rw [hne0]
        simp only [Bool.false_eq_true, if_false]
        exact List.mem_flatMap.2 ⟨i, hi, List.mem_map.2 ⟨p, hp, rfl⟩⟩)
      have hget : getM ops ml (i :: p) = (alook ml i, o) :: getM ops ml p := by simp only [getM, ho]
      rwa [hget] at this
    have hgl : guardL ops o st.env = some (true, true) := by simp [guardL, hgd']
    have hw : wantL ops o st.env = some true := by simp [wantL, hgd']
    rw [beq_iff_eq] at hcn
    have hcc : (callOf o.op).isNone = true ∨ (ocAt oc o.dst o.op).isSome = true := by
      cases hco : callOf o.op with
      | none => exact .inl rfl
      | some fa =>
        rw [hco] at hcn
        cases hd : o.dst with
        | none => rw [hd] at hcn; cases hcn
        | some d =>
          rw [hd] at hcn
          exact .inr (by have := ocAt_some (oc := oc) hocd hd hcn.symm (by rw [hco]; rfl); rwa [hd] at this)
    have hlop : lopX P oc (alook ml i) o st (fun st' => ∀ p ∈ orders md ops f (listed.setIfInBounds i true), lopsX P N oc ops (getM ops ml p) Q st') :=
      lopX_all hcc (orders_ne _ _) fun p hp => by
        obtain ⟨_, h2⟩ := hps p hp
        rw [hgl] at h2
        exact h2.1 rfl
    unfold mx2Op
    simp only [ho]
    cases he : effB2 ocd mo o
    · have hq := ocAt_none (oc := oc) hocd he
      have hef2 : pureB o = true ∧ bmode mo o = true := by
        unfold effB2 at he
        rw [Bool.or_eq_false_iff] at he
        simpa using he.2
      obtain ⟨x, h1, _, h2⟩ := lopX_pure hq hef2.1 (by rw [hmo]; exact hef2.2) hlop
      exact .inl ⟨x, .inl ⟨hw, h1⟩, mx2L_orders hocd f _ _ hB' (by rw [put_mode]; exact hmo) h2⟩
    · unfold lopX at hlop
      cases hq : ocAt oc o.dst o.op with
      | some q =>
        rw [hq] at hlop
        obtain ⟨⟨hok, htc⟩, hK⟩ := hlop
        have he2 : effX oc st o.dst o.op = some (ocOk st q.1.1 q.1.2 q.2.2, ocNext st q.2.1 q.2.2) := by unfold effX; rw [hq]
        refine .inr ⟨hgd', rfl, _, _, he2, hok, ?_, mx2L_orders hocd f _ _ hB' (by rw [effX_mode he2]; exact hmo) hK⟩
        unfold touchX
        rw [hq]
        exact disj_oc (mOk_look (f := fun SB => disjL SB (firsts q.2.2.ha ++ seconds q.2.2.ba) && disjL SB [q.2.1]) htc (by simp [disj_nil]))
      | none =>
        rw [hq] at hlop
        have hcn' : callOf o.op = none := by
          rcases hcc with h | h
          · simpa using h
          · rw [hq] at h; cases h
        simp only at hlop
        cases hx : pv P (evL st.env) st.box st.arr o.op with
        | some x =>
          rw [hx] at hlop
          exact .inl ⟨x, .inl ⟨hw, .inl hx⟩, mx2L_orders hocd f _ _ hB' (by rw [put_mode]; exact hmo) hlop.2⟩
        | none =>
          rw [hx, hcn'] at hlop
          cases hs : effE P st o.dst o.op with
          | none => rw [hs] at hlop; exact hlop.elim
          | some cs =>
            obtain ⟨c, st'⟩ := cs
            rw [hs] at hlop
            obtain ⟨hc, htc, hK⟩ := hlop
            have he2 : effX oc st o.dst o.op = some (c, st') := by unfold effX; rw [hq]; exact hs
            refine .inr ⟨hgd', rfl, c, st', he2, hc, ?_, mx2L_orders hocd f _ _ hB' (by rw [effX_mode he2]; exact hmo) hK⟩
            unfold touchX
            rw [hq]
            have hef : (pureB o && bmode mo o) = false := by
              unfold effB2 at he
              rw [hcn'] at hcn
              rw [← hcn] at he
              simp only [Option.isSome_none, Bool.false_or, Bool.not_eq_true'] at he
              exact he
            have key : ∀ SB, effOk SB st o.dst o.op = disjL SB (touch st o.dst o.op) := effOk_eff (by rw [hmo]; exact hef)
            simp only [key] at htc
            exact mOk_look (f := fun SB => disjL SB (touch st o.dst o.op)) htc (disj_nil _)
/-- The orders of what is left behind these. -/
def mixB2 (md : Region.Mode) (ops : Array Oper) (ocd : List Nat) (mo : Nat → Bool) (ml : List (Nat × List Nat)) (pre : List Nat) (sufs : List (List Nat)) : Bool :=
  match preB2 md ops ocd mo ml pre (Array.replicate ops.size false) with
    | some listed => decide (pre.length ≤ ops.size) && ordB2 md ops ocd mo ml (ops.size - pre.length) listed && (orders md ops (ops.size - pre.length) listed == sufs)
    | none => false
theorem LW_mix2 {Q : Exit → LSt → Prop} {st : LSt} {id : Nat} {l : List Oper} (oc : List (Nat × OCD P)) (ocd : List Nat) (mo : Nat → Bool) (ml : List (Nat × List Nat)) (pre : List Nat) (sufs : List (List Nat)) (hocd : ocd = oc.map (·.1)) (hm : P.follows .mixedOrders = true) (hB : mixB2 .any l.toArray ocd mo ml pre sufs = true) (hd : l.all (fun o => dstOk N o.dst) = true) (hmo : st.mode = mo)
    (h : ∀ K : LSt → Prop, (∀ st', Q .normal st' → K st') → lopsX P N oc l.toArray (getM l.toArray ml pre) (fun st' => AllL (fun p => lopsX P N oc l.toArray (getM l.toArray ml p) K st') sufs) st) : LW P N w0 S0 (.region id l.toArray true) Q st := by
  intro a w hr
  unfold mixB2 at hB
  split at hB
  · rename_i listed hpre
    simp only [Bool.and_eq_true, decide_eq_true_eq, beq_iff_eq] at hB
    obtain ⟨⟨hle, hord⟩, hsu⟩ := hB
    have hp2 : ∀ (i : Nat) (o : Oper), l.toArray[i]? = some o → dstOk N o.dst = true := fun i o ho => by
      have : o ∈ l := by rw [List.getElem?_toArray] at ho; exact List.mem_of_getElem? ho
      exact List.all_eq_true.1 hd o this
    refine wp_region_any hm (wpAny_of_mx2L (oc := oc) (ocd := ocd) (mo := mo) (ml := ml) hp2 (Q := fun st' => Q .normal st') (fun st' a' w' h1 h2 => ⟨st', h1, h2⟩) _ _ _ _ _ hr.drew ?_)
    have hc0 : Closed .any l.toArray (Array.replicate l.toArray.size false) := fun j oj _ hl => by rw [getD_replicate_false] at hl; cases hl
    have := mx2L_pre (md := .any) (mo := mo) (ml := ml) (oc := oc) (P := P) (N := N) hocd (Q := fun st' => Q .normal st') (g := l.toArray.size - pre.length) pre _ st hpre hc0 hmo (fun st' hT hm' => mx2L_orders hocd _ _ _ hord hm' (by rw [hsu]; exact hT)) (lopsX_mono (fun _ h => AllL.spec h) _ _ (h _ fun _ h => h))
    rwa [show pre.length + (l.toArray.size - pre.length) = l.toArray.size by omega] at this
  · cases hB
end
end Go.Proofs.Ytmchdjpgceiloaa
