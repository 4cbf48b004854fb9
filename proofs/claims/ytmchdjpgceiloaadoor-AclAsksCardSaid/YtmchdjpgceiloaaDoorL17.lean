/-
  A DRAWN REGION WITH APPENDS AND THE LIKE: from some orders of its operations to all.
-/
import Derived.Test.YtmchdjpgceiloaaDoorL16
set_option linter.unusedSimpArgs false
set_option linter.unusedVariables false
namespace Go.Proofs.YtmchdjpgceiloaaDoor
open Go.RowKit

/-- It makes or writes memory of the call's own. -/
def effB (mo : Nat → Bool) (o : Oper) : Bool := !(pureB o && bmode mo o)
def mxOp (P : Program) (mo : Nat → Bool) (ops : Array Oper) (i : Nat) (K : LSt → Prop) (st : LSt) : Prop :=
  match ops[i]? with
  | none => K st
  | some o => (∃ x, YieldsL P ops o x st ∧ K (st.put o.dst x)) ∨ (o.guard = none ∧ effB mo o = true ∧ ∃ c st', effE P st o.dst o.op = some (c, st') ∧ c ∧ K st')
def mxL (P : Program) (mo : Nat → Bool) (md : Region.Mode) (ops : Array Oper) (Q : LSt → Prop) : Nat → Array Bool → LSt → Prop
  | 0, listed, st => Region.ready md ops listed = [] ∧ Q st
  | fuel + 1, listed, st => (Region.ready md ops listed = [] → Q st) ∧ ∀ i ∈ Region.ready md ops listed, mxOp P mo ops i (mxL P mo md ops Q fuel (listed.setIfInBounds i true)) st
/-- j comes behind i. -/
def waitsB (md : Region.Mode) (ops : Array Oper) : Nat → Nat → Nat → Bool
  | 0, _, _ => false
  | f + 1, j, i =>
    match ops[j]? with
    | some oj => oj.after.toList.any fun e => Region.binds md e && (e.on == i || waitsB md ops f e.on i)
    | none => false
def Closed (md : Region.Mode) (ops : Array Oper) (listed : Array Bool) : Prop := ∀ j oj, ops[j]? = some oj → listed.getD j false = true → ∀ e ∈ oj.after, Region.binds md e = true → listed.getD e.on false = true
def slotsOf (o : Oper) : List Nat := o.op.operands.toList.filterMap fun | .tmp t => some t | _ => none
/-- Where the operations that only move values look: at S, or at what such ones ahead of them wrote; nothing else writes there before they are done. -/
def flB (md : Region.Mode) (ops : Array Oper) (fl S : List Nat) : Bool :=
  (List.range ops.size).all fun i => match ops[i]? with
    | some o => if fl.contains i then moves o && (slotsOf o).all (fun t => S.contains t || fl.any fun k => (match ops[k]? with | some ok => ok.dst == some t | none => false) && waitsB md ops ops.size i k)
      else (match o.dst with | some d => fl.all (fun k => (match ops[k]? with | some ok => !(slotsOf ok).contains d | none => true) || waitsB md ops ops.size i k) | none => true)
    | none => true
def PL (md : Region.Mode) (ops : Array Oper) (fl : List Nat) (listed : Array Bool) (st : LSt) : Prop :=
  ∀ i oi, fl.contains i = true → ops[i]? = some oi → listed.getD i true = false → ∀ t, Operand.tmp t ∈ oi.op.operands →
    plainL (st.env t) = true ∨ ∃ k ok, ops[k]? = some ok ∧ listed.getD k true = false ∧ ok.dst = some t ∧ waitsB md ops ops.size i k = true
section
variable {P : Program} {N : Nat} {w0 : World} {S0 : Nat → Nat → Prop} {ops : Array Oper} {md : Region.Mode} {mo : Nat → Bool} {fl S : List Nat}
theorem mxOp_mono {i : Nat} {st : LSt} {K K' : LSt → Prop} (h : ∀ st, K st → K' st) (hh : mxOp P mo ops i K st) : mxOp P mo ops i K' st := by
  unfold mxOp at *
  split
  · rename_i ho; simp only [ho] at hh; exact h _ hh
  · rename_i o ho
    simp only [ho] at hh
    rcases hh with ⟨x, h1, h2⟩ | ⟨hg, he, c, st', h1, h2, h3⟩
    · exact .inl ⟨x, h1, h _ h2⟩
    · exact .inr ⟨hg, he, c, st', h1, h2, h _ h3⟩
theorem wpAny_of_mxL {Q : LSt → Prop} {Q' : Exit → Act → World → Prop} (hd : ∀ (i : Nat) (o : Oper), ops[i]? = some o → dstOk N o.dst = true) (hQ : ∀ st a w, Rel P N w0 S0 st a w → Q st → Q' .normal a w) :
    ∀ (fuel : Nat) (listed : Array Bool) (st : LSt) (a : Act) (w : World), Rel P N w0 S0 st a w → mxL P mo md ops Q fuel listed st → wpAny P md ops Q' fuel listed a w
  | 0, _, _, _, _, hr, h => ⟨h.1, hQ _ _ _ hr h.2⟩
  | fuel + 1, _, st, a, w, hr, h => by
    refine ⟨fun h0 => hQ _ _ _ hr (h.1 h0), fun i hi => ?_⟩
    have h1 := h.2 i hi
    unfold mxOp at h1
    unfold wpOp
    split
    · rename_i ho; simp only [ho] at h1; exact wpAny_of_mxL hd hQ fuel _ st a w hr h1
    · rename_i o ho
      simp only [ho] at h1
      obtain ⟨g, hg⟩ := hr
      rcases h1 with ⟨x, hy, hK⟩ | ⟨hgd, _, c, st', he, hc, hK⟩
      · rcases hy with ⟨hw, hv⟩ | ⟨hw, rfl⟩
        · rw [wantL_run hg.env hw, if_pos rfl]
          exact .inl (hv.wp hg (dstOk_spec (hd i o ho)) fun a' w' hr' => wpAny_of_mxL hd hQ fuel _ _ a' w' hr' hK)
        · rw [wantL_run hg.env hw, if_neg (by simp)]
          exact wpAny_of_mxL hd hQ fuel _ _ _ _ ⟨g, hg.put (dstOk_spec (hd i o ho)) (.lit _ _)⟩ hK
      · have hw : wantL ops o st.env = some true := by simp [wantL, hgd]
        rw [wantL_run hg.env hw, if_pos rfl]
        exact .inl (effE_wp hg (dstOk_spec (hd i o ho)) he hc fun a' w' hr' => wpAny_of_mxL hd hQ fuel _ _ a' w' hr' hK)
theorem needs_not {listed : Array Bool} (hc : Closed md ops listed) {i : Nat} (hi : listed.getD i false = false) : ∀ (f j : Nat) (oj : Oper), ops[j]? = some oj → (∀ e ∈ oj.after, Region.binds md e = true → listed.getD e.on false = true) → waitsB md ops f j i = false
  | 0, _, _, _, _ => rfl
  | f + 1, j, oj, hj, hall => by
    unfold waitsB
    simp only [hj]
    rw [List.any_eq_false]
    intro e he h
    rw [Bool.and_eq_true, Bool.or_eq_true] at h
    have hl := hall e (by simpa using he) h.1
    rcases h.2 with h2 | h2
    · rw [beq_iff_eq] at h2
      rw [h2, hi] at hl; cases hl
    · cases ho : ops[e.on]? with
      | none =>
        cases f with
        | zero => simp [waitsB] at h2
        | succ f => simp [waitsB, ho] at h2
      | some oe =>
        rw [needs_not hc hi f e.on oe ho (hc e.on oe ho hl)] at h2; cases h2
theorem Closed.set {i : Nat} {listed : Array Bool} (inv : Closed md ops listed) (hi : i ∈ Region.ready md ops listed) : Closed md ops (listed.setIfInBounds i true) := by
  obtain ⟨_, oi, hoi, hall⟩ := mem_ready.1 hi
  intro j oj hj hl e he hb
  by_cases hij : i = j
  · subst hij
    have : oj = oi := Option.some.inj (hj.symm.trans hoi)
    subst this
    exact getD_set_true (hall e he hb)
  · rw [getD_set_ne false hij] at hl
    exact getD_set_true (inv j oj hj hl e he hb)
theorem mem_slots {o : Oper} {t : Nat} : t ∈ slotsOf o ↔ Operand.tmp t ∈ o.op.operands := by
  unfold slotsOf
  rw [List.mem_filterMap]
  constructor
  · rintro ⟨y, hy, h⟩
    split at h
    · cases h; simpa using hy
    · cases h
  · intro h; exact ⟨Operand.tmp t, by simpa using h, rfl⟩
theorem flB_spec (h : flB md ops fl S = true) {i : Nat} {o : Oper} (ho : ops[i]? = some o) :
    (fl.contains i = true → moves o = true ∧ ∀ t, Operand.tmp t ∈ o.op.operands → t ∈ S ∨ ∃ k ok, ops[k]? = some ok ∧ ok.dst = some t ∧ waitsB md ops ops.size i k = true) ∧
    (fl.contains i = false → ∀ d, o.dst = some d → ∀ k ok, fl.contains k = true → ops[k]? = some ok → Operand.tmp d ∈ ok.op.operands → waitsB md ops ops.size i k = true) := by
  unfold flB at h
  rw [List.all_eq_true] at h
  have h1 := h i (List.mem_range.2 (Array.getElem?_eq_some_iff.1 ho).1)
  simp only [ho] at h1
  constructor
  · intro hf
    rw [if_pos hf, Bool.and_eq_true, List.all_eq_true] at h1
    refine ⟨h1.1, fun t ht => ?_⟩
    have h2 := h1.2 t (mem_slots.2 ht)
    rw [Bool.or_eq_true] at h2
    rcases h2 with h2 | h2
    · left; simpa using h2
    · right
      rw [List.any_eq_true] at h2
      obtain ⟨k, _, h3⟩ := h2
      rw [Bool.and_eq_true] at h3
      cases hk : ops[k]? with
      | none => rw [hk] at h3; simp at h3
      | some ok => rw [hk] at h3; exact ⟨k, ok, hk, by simpa using h3.1, h3.2⟩
  · intro hf d hd k ok hk hok ht
    rw [if_neg (by rw [hf]; exact Bool.false_ne_true), hd] at h1
    simp only [List.all_eq_true] at h1
    have h2 := h1 k (by simpa using hk)
    rw [hok] at h2
    simp only [Bool.or_eq_true, Bool.not_eq_true'] at h2
    rcases h2 with h2 | h2
    · have := mem_slots.2 ht
      rw [← List.contains_iff_mem, h2] at this
      cases this
    · exact h2
theorem plainOp_of {listed : Array Bool} (hcl : Closed md ops listed) {i : Nat} {o : Oper} (ho : ops[i]? = some o) (hf : fl.contains i = true) (hr : i ∈ Region.ready md ops listed) {st : LSt} (hp : PL md ops fl listed st) : plainOp st o := by
  obtain ⟨hun, o', ho', hall⟩ := mem_ready.1 hr
  have : o' = o := Option.some.inj (ho'.symm.trans ho)
  subst this
  intro y hy
  cases y with
  | tmp t =>
    rcases hp i o' hf ho hun t hy with h | ⟨k, ok, hk, hku, _, hn⟩
    · exact h
    · rw [needs_not hcl (getD_both hku) _ i o' ho hall] at hn; cases hn
  | const v => exact plain_toLV
  | global g => rfl
  | func f => rfl
theorem un_set {listed : Array Bool} {j k : Nat} (hun : (listed.setIfInBounds j true).getD k true = false) : k ≠ j ∧ listed.getD k true = false := by
  by_cases hjk : j = k
  · subst hjk
    exfalso
    rcases Nat.lt_or_ge j listed.size with h | h
    · simp [h] at hun
    · simp [h] at hun
  · rw [getD_set_ne true hjk] at hun; exact ⟨fun e => hjk e.symm, hun⟩
theorem PL_step (h : flB md ops fl S = true) {listed : Array Bool} (hcl : Closed md ops listed) {j : Nat} {oj : Oper} (hoj : ops[j]? = some oj) (hr : j ∈ Region.ready md ops listed) {st st' : LSt} (hp : PL md ops fl listed st)
    (h1 : ∀ d, oj.dst = some d → fl.contains j = true → plainL (st'.env d) = true) (h2 : ∀ t, oj.dst ≠ some t → plainL (st.env t) = true → plainL (st'.env t) = true) : PL md ops fl (listed.setIfInBounds j true) st' := by
  obtain ⟨hjun, o', ho', hall⟩ := mem_ready.1 hr
  have : o' = oj := Option.some.inj (ho'.symm.trans hoj)
  subst this
  intro i oi hf hoi hun t ht
  obtain ⟨hij, hun0⟩ := un_set hun
  by_cases hd : o'.dst = some t
  · cases hfj : fl.contains j
    · have hn := (flB_spec h hoj).2 hfj t hd i oi hf hoi ht
      rw [needs_not hcl (getD_both hun0) _ j o' hoj hall] at hn; cases hn
    · exact .inl (h1 t hd hfj)
  · rcases hp i oi hf hoi hun0 t ht with hpl | ⟨k, ok, hk, hku, hkd, hn⟩
    · exact .inl (h2 t hd hpl)
    · by_cases hkj : k = j
      · subst hkj
        have : ok = o' := Option.some.inj (hk.symm.trans hoj)
        subst this
        exact absurd hkd hd
      · exact .inr ⟨k, ok, hk, by rw [getD_set_ne true (Ne.symm hkj)]; exact hku, hkd, hn⟩
theorem PL_put (h : flB md ops fl S = true) {listed : Array Bool} (hcl : Closed md ops listed) {i : Nat} {o : Oper} (ho : ops[i]? = some o) (hr : i ∈ Region.ready md ops listed) {st : LSt} {v : LV} (hp : PL md ops fl listed st) (hy : YieldsL P ops o v st) : PL md ops fl (listed.setIfInBounds i true) (st.put o.dst v) := by
  refine PL_step h hcl ho hr hp (fun d hd hf => ?_) (fun t ht hpl => ?_)
  · rw [hd]
    simp only [LSt.put, upd, if_true]
    exact moves_plain ((flB_spec h ho).1 hf).1 (plainOp_of hcl ho hf hr hp) hy
  · rw [put_env_ne ht]; exact hpl
theorem eff_notfl (h : flB md ops fl S = true) {i : Nat} {o : Oper} (ho : ops[i]? = some o) (he : effB mo o = true) : fl.contains i = false := by
  cases hf : fl.contains i
  · rfl
  · exfalso
    have hm := ((flB_spec h ho).1 hf).1
    obtain ⟨dst, op, type, pos, after, guard⟩ := o
    unfold moves at hm
    unfold effB pureB bmode at he
    simp only at hm he
    split at hm
    · simp at he
    · simp at he
    · cases hm
theorem PL_eff (h : flB md ops fl S = true) {listed : Array Bool} (hcl : Closed md ops listed) {i : Nat} {o : Oper} (ho : ops[i]? = some o) (hr : i ∈ Region.ready md ops listed) (he : effB mo o = true) {st st' : LSt} {c : Prop} (hp : PL md ops fl listed st) (hs : effE P st o.dst o.op = some (c, st')) : PL md ops fl (listed.setIfInBounds i true) st' := by
  refine PL_step h hcl ho hr hp (fun d hd hf => ?_) (fun t ht hpl => ?_)
  · rw [eff_notfl h ho he] at hf; cases hf
  · rw [effE_env hs ht hpl]; exact hpl
/-- What only reads, or only moves values, may come first. -/
theorem mxL_first {Q : LSt → Prop} {i : Nat} {oi : Oper} {v : LV} (hi : ops[i]? = some oi) (hfl : flB md ops fl S = true) :
    ∀ (fuel : Nat) (listed : Array Bool) (st : LSt), Closed md ops listed → PL md ops fl listed st →
      (∀ j oj, ops[j]? = some oj → j ≠ i → listed.getD j true = false → (∀ e ∈ oj.after, Region.binds md e = true → e.on ≠ i) → oi.apart ops oj = true) →
      (fl.contains i = true ∨ ∀ j oj, ops[j]? = some oj → j ≠ i → listed.getD j true = false → effB mo oj = true → waitsB md ops ops.size j i = true) →
      i ∈ Region.ready md ops listed → YieldsL P ops oi v st →
      mxL P mo md ops Q fuel (listed.setIfInBounds i true) (st.put oi.dst v) → mxL P mo md ops Q (fuel + 1) listed st := by
  intro fuel
  have self : ∀ {st : LSt} {K : LSt → Prop}, YieldsL P ops oi v st → K (st.put oi.dst v) → mxOp P mo ops i K st := by
    intro st K hy hK
    unfold mxOp; simp only [hi]; exact .inl ⟨v, hy, hK⟩
  induction fuel with
  | zero =>
    intro listed st _ _ _ _ hr hy H
    refine ⟨fun h => (by rw [h] at hr; cases hr), fun j hj => ?_⟩
    by_cases hji : j = i
    · subst hji; exact self hy H
    · have := ready_mono hj hji
      rw [H.1] at this
      cases this
  | succ fuel ih =>
    intro listed st hcl hpl hfree hcase hr hy H
    refine ⟨fun h => (by rw [h] at hr; cases hr), fun j hj => ?_⟩
    by_cases hji : j = i
    · subst hji; exact self hy H
    · have h1 := H.2 j (ready_mono hj hji)
      obtain ⟨hjun, oj, hoj, hall⟩ := mem_ready.1 hj
      have hiun := (mem_ready.1 hr).1
      have hnot : ∀ e ∈ oj.after, Region.binds md e = true → e.on ≠ i := fun e he hb heq => by
        have h1 := hall e he hb
        rw [heq, getD_both hiun] at h1; cases h1
      have hap := hfree j oj hoj hji hjun hnot
      obtain ⟨a1, a2, a3⟩ := Oper.apart_spec hap
      have hun' : ∀ k, (listed.setIfInBounds j true).getD k true = false → listed.getD k true = false := fun k hun => by
        by_cases hjk : j = k
        · subst hjk; exact hjun
        · rw [getD_set_ne true hjk] at hun; exact hun
      have hfree' : ∀ k ok, ops[k]? = some ok → k ≠ i → (listed.setIfInBounds j true).getD k true = false →
          (∀ e ∈ ok.after, Region.binds md e = true → e.on ≠ i) → oi.apart ops ok = true := fun k ok hk hki hun hno => hfree k ok hk hki (hun' k hun) hno
      have hcase' : fl.contains i = true ∨ ∀ k ok, ops[k]? = some ok → k ≠ i → (listed.setIfInBounds j true).getD k true = false → effB mo ok = true → waitsB md ops ops.size k i = true := by
        rcases hcase with h | h
        · exact .inl h
        · exact .inr fun k ok hk hki hun he => h k ok hk hki (hun' k hun) he
      have hr' := ready_mono hr (Ne.symm hji)
      have hswap := Array.setIfInBounds_comm true true (xs := listed) hji
      unfold mxOp at h1 ⊢
      simp only [hoj] at h1 ⊢
      rcases h1 with ⟨u, hu, hn⟩ | ⟨hgd, heff, c, st1, he, hc, hn⟩
      · have hu' := (YieldsL.put v a1).1 hu
        refine .inl ⟨u, hu', ih _ _ (hcl.set hj) (PL_put hfl hcl hoj hj hpl hu') hfree' hcase' hr' ((YieldsL.put u a3).2 hy) ?_⟩
        rw [← put_comm v u a2, hswap]
        exact hn
      · rcases hcase with hf | hne
        · have hmv := ((flB_spec hfl hi).1 hf).1
          have hpo := plainOp_of hcl hi hf hr hpl
          have hvp := moves_plain hmv hpo hy
          have key : ∃ st2, effE P st oj.dst oj.op = some (c, st2) ∧ st1 = st2.put oi.dst v := by
            cases hd : oi.dst with
            | none => rw [hd] at he; exact ⟨st1, he, rfl⟩
            | some k =>
              rw [hd] at he
              exact effE_put hvp (fun hk => a1 k hd (List.mem_append_left _ (List.mem_filterMap.2 ⟨.tmp k, by simpa using hk, rfl⟩))) (a2 k hd) he
          obtain ⟨st2, he2, rfl⟩ := key
          have hy2 : YieldsL P ops oi v st2 := moves_yields hmv hy fun y hyo => by
            cases y with
            | tmp t => exact effE_env he2 (fun e => a3 t e (List.mem_append_left _ (List.mem_filterMap.2 ⟨.tmp t, by simpa using hyo, rfl⟩))) (hpo (.tmp t) hyo)
            | _ => rfl
          refine .inr ⟨hgd, heff, c, st2, he2, hc, ih _ _ (hcl.set hj) (PL_eff hfl hcl hoj hj heff hpl he2) hfree' hcase' hr' hy2 ?_⟩
          rw [hswap]
          exact hn
        · have h2 := hne j oj hoj hji hjun heff
          rw [needs_not hcl (getD_both hiun) _ j oj hoj hall] at h2; cases h2
/-- May k come first? -/
def okFirst (md : Region.Mode) (ops : Array Oper) (mo : Nat → Bool) (fl : List Nat) (listed : Array Bool) (k : Nat) : Bool :=
  (Region.ready md ops listed).contains k && Region.free md ops listed k && (match ops[k]? with | some o => !effB mo o | none => false) &&
  (fl.contains k || (List.range ops.size).all fun j => j == k || listed.getD j true || (match ops[j]? with | some oj => !effB mo oj | none => true) || waitsB md ops ops.size j k)
def preB (md : Region.Mode) (ops : Array Oper) (mo : Nat → Bool) (fl : List Nat) : List Nat → Array Bool → Option (Array Bool)
  | [], listed => some listed
  | k :: r, listed => if okFirst md ops mo fl listed k then preB md ops mo fl r (listed.setIfInBounds k true) else none
def getOps (ops : Array Oper) (p : List Nat) : List Oper := p.filterMap fun i => ops[i]?
theorem mxL_pre (hfl : flB md ops fl S = true) {Q T : LSt → Prop} {g : Nat} {listed' : Array Bool} : ∀ (pre : List Nat) (listed : Array Bool) (st : LSt), preB md ops mo fl pre listed = some listed' → Closed md ops listed → PL md ops fl listed st → st.mode = mo →
    (∀ st', T st' → st'.mode = mo → mxL P mo md ops Q g listed' st') → lops P N ops (getOps ops pre) T st → mxL P mo md ops Q (pre.length + g) listed st
  | [], listed, st, hB, hcl, hpl, hmo, hT, h => by
    cases hB
    rw [List.length_nil, Nat.zero_add]
    exact hT st h hmo
  | k :: r, listed, st, hB, hcl, hpl, hmo, hT, h => by
    unfold preB at hB
    split at hB
    · rename_i hok
      unfold okFirst at hok
      simp only [Bool.and_eq_true] at hok
      obtain ⟨⟨⟨hr, hf⟩, hef⟩, hcase⟩ := hok
      have hr' : k ∈ Region.ready md ops listed := by simpa using hr
      obtain ⟨_, o, ho, _⟩ := mem_ready.1 hr'
      rw [ho] at hef
      simp only [effB, Bool.not_not, Bool.and_eq_true] at hef
      have hget : getOps ops (k :: r) = o :: getOps ops r := by simp [getOps, ho]
      rw [hget] at h
      obtain ⟨_, h⟩ := h
      have hst : ∃ v, YieldsL P ops o v st ∧ lops P N ops (getOps ops r) T (st.put o.dst v) := by
        cases hg : guardL ops o st.env with
        | some wb =>
          obtain ⟨want, b⟩ := wb
          rw [hg] at h
          have hw := guardL_want hg
          cases hc : wantB b want
          · rw [hc] at hw; exact ⟨_, .inr ⟨hw, rfl⟩, h.2 hc⟩
          · rw [hc] at hw
            obtain ⟨x, h1, h2⟩ := lop_pure hef.1 (by rw [hmo]; exact hef.2) (h.1 hc)
            exact ⟨x, .inl ⟨hw, h1⟩, h2⟩
        | none => rw [hg] at h; exact h.elim
      obtain ⟨v, hy, hK⟩ := hst
      have := mxL_pre hfl r (listed.setIfInBounds k true) (st.put o.dst v) hB (hcl.set hr') (PL_put hfl hcl ho hr' hpl hy) (by rw [put_mode]; exact hmo) hT hK
      rw [List.length_cons, show r.length + 1 + g = (r.length + g) + 1 by omega]
      refine mxL_first ho hfl _ listed st hcl hpl (Region.free_spec ho hf) ?_ hr' hy this
      rw [Bool.or_eq_true] at hcase
      rcases hcase with h | h
      · exact .inl h
      · refine .inr fun j oj hj hjk hun he => ?_
        rw [List.all_eq_true] at h
        have h1 := h j (List.mem_range.2 (Array.getElem?_eq_some_iff.1 hj).1)
        simp only [hj, hun, he, Bool.or_false, Bool.not_true, Bool.or_eq_true, beq_iff_eq] at h1
        rcases h1 with h1 | h1
        · exact absurd h1 hjk
        · exact h1
    · cases hB
/-- All orders of what is left: neither guarded nor calls. -/
def ordB (md : Region.Mode) (ops : Array Oper) : Nat → Array Bool → Bool
  | 0, listed => (Region.ready md ops listed).isEmpty
  | f + 1, listed => (Region.ready md ops listed).all fun i => (match ops[i]? with | some o => o.guard.isNone && (callOf o.op).isNone | none => false) && ordB md ops f (listed.setIfInBounds i true)
def orders (md : Region.Mode) (ops : Array Oper) : Nat → Array Bool → List (List Nat)
  | 0, _ => [[]]
  | f + 1, listed => if (Region.ready md ops listed).isEmpty then [[]] else (Region.ready md ops listed).flatMap fun i => (orders md ops f (listed.setIfInBounds i true)).map (i :: ·)
theorem orders_ne : ∀ (f : Nat) (listed : Array Bool), orders md ops f listed ≠ []
  | 0, _ => by simp [orders]
  | f + 1, listed => by
    unfold orders
    split
    · simp
    · rename_i h
      intro he
      rw [List.flatMap_eq_nil_iff] at he
      cases hr : Region.ready md ops listed with
      | nil => rw [hr] at h; simp at h
      | cons i r =>
        have := he i (by rw [hr]; simp)
        rw [List.map_eq_nil_iff] at this
        exact orders_ne f _ this
theorem lop_all {o : Oper} {st : LSt} {α : Type} {ps : List α} {F : α → LSt → Prop} (hc : (callOf o.op).isNone = true) (hne : ps ≠ []) (h : ∀ p ∈ ps, lop P o st (F p)) : lop P o st (fun st' => ∀ p ∈ ps, F p st') := by
  obtain ⟨p0, hp0⟩ := List.exists_mem_of_ne_nil _ hne
  have hcn : callOf o.op = none := by simpa using hc
  unfold lop at h ⊢
  cases hx : pv P (evL st.env) st.box st.arr o.op with
  | some x =>
    intro p hp
    have := h p hp
    rw [hx] at this
    exact this
  | none =>
    rw [hcn]
    cases hs : effE P st o.dst o.op with
    | none =>
      have := h p0 hp0
      rw [hx, hcn, hs] at this
      exact this
    | some cs =>
      obtain ⟨c, st'⟩ := cs
      have h0 := h p0 hp0
      rw [hx, hcn, hs] at h0
      refine ⟨h0.1, fun p hp => ?_⟩
      have := h p hp
      rw [hx, hcn, hs] at this
      exact this.2
theorem mxL_orders {Q : LSt → Prop} : ∀ (f : Nat) (listed : Array Bool) (st : LSt), ordB md ops f listed = true → st.mode = mo → (∀ p ∈ orders md ops f listed, lops P N ops (getOps ops p) Q st) → mxL P mo md ops Q f listed st
  | 0, listed, st, hB, _, h => by
    refine ⟨by simpa [ordB] using hB, ?_⟩
    exact h [] (by simp [orders])
  | f + 1, listed, st, hB, hmo, h => by
    refine ⟨fun h0 => h [] (by simp [orders, h0]), fun i hi => ?_⟩
    unfold ordB at hB
    rw [List.all_eq_true] at hB
    have hBi := hB i hi
    rw [Bool.and_eq_true] at hBi
    obtain ⟨_, o, ho, _⟩ := mem_ready.1 hi
    rw [ho] at hBi
    simp only [Bool.and_eq_true] at hBi
    obtain ⟨⟨hgd, hcn⟩, hB'⟩ := hBi
    have hgd' : o.guard = none := by simpa using hgd
    have hne0 : (Region.ready md ops listed).isEmpty = false := by
      rw [List.isEmpty_eq_false_iff]; exact List.ne_nil_of_mem hi
    have hps : ∀ p ∈ orders md ops f (listed.setIfInBounds i true), lops P N ops (o :: getOps ops p) Q st := fun p hp => by
      have := h (i :: p) (by
        unfold orders
        rw [hne0]
        simp only [Bool.false_eq_true, if_false]
        exact List.mem_flatMap.2 ⟨i, hi, List.mem_map.2 ⟨p, hp, rfl⟩⟩)
      have hget : getOps ops (i :: p) = o :: getOps ops p := by simp [getOps, ho]
      rwa [hget] at this
    have hgl : guardL ops o st.env = some (true, true) := by simp [guardL, hgd']
    have hw : wantL ops o st.env = some true := by simp [wantL, hgd']
    have hlop : lop P o st (fun st' => ∀ p ∈ orders md ops f (listed.setIfInBounds i true), lops P N ops (getOps ops p) Q st') :=
      lop_all hcn (orders_ne _ _) fun p hp => by
        obtain ⟨_, h2⟩ := hps p hp
        rw [hgl] at h2
        exact h2.1 rfl
    unfold mxOp
    simp only [ho]
    cases he : effB mo o
    · simp only [effB, Bool.not_eq_false', Bool.and_eq_true] at he
      obtain ⟨x, h1, h2⟩ := lop_pure he.1 (by rw [hmo]; exact he.2) hlop
      exact .inl ⟨x, .inl ⟨hw, h1⟩, mxL_orders f _ _ hB' (by rw [put_mode]; exact hmo) h2⟩
    · have hcn' : callOf o.op = none := by simpa using hcn
      unfold lop at hlop
      cases hx : pv P (evL st.env) st.box st.arr o.op with
      | some x =>
        rw [hx] at hlop
        exact .inl ⟨x, .inl ⟨hw, .inl hx⟩, mxL_orders f _ _ hB' (by rw [put_mode]; exact hmo) hlop⟩
      | none =>
        rw [hx, hcn'] at hlop
        cases hs : effE P st o.dst o.op with
        | none => rw [hs] at hlop; exact hlop.elim
        | some cs =>
          obtain ⟨c, st'⟩ := cs
          rw [hs] at hlop
          exact .inr ⟨hgd', rfl, c, st', rfl, hlop.1, mxL_orders f _ _ hB' (by rw [effE_mode hs]; exact hmo) hlop.2⟩
/-- The orders of what is left behind these. -/
def mixB (md : Region.Mode) (ops : Array Oper) (mo : Nat → Bool) (fl S pre : List Nat) (sufs : List (List Nat)) : Bool :=
  flB md ops fl S && match preB md ops mo fl pre (Array.replicate ops.size false) with
    | some listed => decide (pre.length ≤ ops.size) && ordB md ops (ops.size - pre.length) listed && (orders md ops (ops.size - pre.length) listed == sufs)
    | none => false
def AllL {α : Type} (F : α → Prop) : List α → Prop
  | [] => True
  | [a] => F a
  | a :: b :: r => F a ∧ AllL F (b :: r)
theorem AllL.spec {α : Type} {F : α → Prop} : ∀ {l : List α}, AllL F l → ∀ p ∈ l, F p
  | [], _, p, hp => by cases hp
  | [a], h, p, hp => by rw [List.mem_singleton] at hp; subst hp; exact h
  | a :: b :: r, h, p, hp => by
    rcases List.mem_cons.1 hp with rfl | hp
    · exact h.1
    · exact AllL.spec h.2 p hp
theorem lops_mono {K K' : LSt → Prop} (hK : ∀ st, K st → K' st) : ∀ (l : List Oper) (st : LSt), lops P N ops l K st → lops P N ops l K' st
  | [], st, h => hK st h
  | o :: l, st, h => by
    obtain ⟨hd, h⟩ := h
    refine ⟨hd, ?_⟩
    cases hg : guardL ops o st.env with
    | none => rw [hg] at h; exact h.elim
    | some wb =>
      obtain ⟨want, b⟩ := wb
      rw [hg] at h
      exact ⟨fun hc => lop_mono (fun st' => lops_mono hK l st') (h.1 hc), fun hc => lops_mono hK l _ (h.2 hc)⟩
theorem getOps_nil : getOps ops [] = [] := rfl
theorem getOps_cons {i : Nat} {r : List Nat} {o : Oper} (h : ops[i]? = some o) : getOps ops (i :: r) = o :: getOps ops r := by simp [getOps, h]
theorem LW_mix {Q : Exit → LSt → Prop} {st : LSt} {id : Nat} {l : List Oper} (mo : Nat → Bool) (fl S pre : List Nat) (sufs : List (List Nat)) (hm : P.follows .mixedOrders = true) (hB : mixB .any l.toArray mo fl S pre sufs = true) (hd : l.all (fun o => dstOk N o.dst) = true) (hmo : st.mode = mo) (hS : S.all (fun k => plainL (st.env k)) = true)
    (h : ∀ K : LSt → Prop, (∀ st', Q .normal st' → K st') → lops P N l.toArray (getOps l.toArray pre) (fun st' => AllL (fun p => lops P N l.toArray (getOps l.toArray p) K st') sufs) st) : LW P N w0 S0 (.region id l.toArray true) Q st := by
  intro a w hr
  unfold mixB at hB
  rw [Bool.and_eq_true] at hB
  obtain ⟨hfl, hB⟩ := hB
  split at hB
  · rename_i listed hpre
    simp only [Bool.and_eq_true, decide_eq_true_eq, beq_iff_eq] at hB
    obtain ⟨⟨hle, hord⟩, hsu⟩ := hB
    have hp2 : ∀ (i : Nat) (o : Oper), l.toArray[i]? = some o → dstOk N o.dst = true := fun i o ho => by
      have : o ∈ l := by rw [List.getElem?_toArray] at ho; exact List.mem_of_getElem? ho
      exact List.all_eq_true.1 hd o this
    refine wp_region_any hm (wpAny_of_mxL (mo := mo) hp2 (Q := fun st' => Q .normal st') (fun st' a' w' h1 h2 => ⟨st', h1, h2⟩) _ _ _ _ _ hr.drew ?_)
    have hc0 : Closed .any l.toArray (Array.replicate l.toArray.size false) := fun j oj _ hl => by rw [getD_replicate_false] at hl; cases hl
    have hpl : PL .any l.toArray fl (Array.replicate l.toArray.size false) st := fun i oi hf hoi hun t ht => by
      rcases ((flB_spec hfl hoi).1 hf).2 t ht with h | ⟨k, ok, hk, hkd, hn⟩
      · exact .inl (List.all_eq_true.1 hS t h)
      · exact .inr ⟨k, ok, hk, getD_in (by simpa using (Array.getElem?_eq_some_iff.1 hk).1) (getD_replicate_false _ _), hkd, hn⟩
    have := mxL_pre (md := .any) (mo := mo) (P := P) (N := N) hfl (Q := fun st' => Q .normal st') (g := l.toArray.size - pre.length) pre _ st hpre hc0 hpl hmo (fun st' hT hm' => mxL_orders _ _ _ hord hm' (by rw [hsu]; exact hT)) (lops_mono (fun _ h => AllL.spec h) _ _ (h _ fun _ h => h))
    rwa [show pre.length + (l.toArray.size - pre.length) = l.toArray.size by omega] at this
  · cases hB
end
end Go.Proofs.YtmchdjpgceiloaaDoor
