import Derived.Test.YtaeefaehpfjmlaaL10
import Derived.StillTail
set_option linter.unusedSimpArgs false
set_option linter.unusedVariables false
namespace Go.Proofs.Ytaeefaehpfjmlaa
open Go.RowKit

section
variable {P : Program} {N : Nat} {w0 : World} {S0 : Ent} {ops : Array Oper} {md : Region.Mode}
theorem lops_append : ∀ (l1 l2 : List Oper) (K : LSt → Prop) (st : LSt), lops P N ops (l1 ++ l2) K st → lops P N ops l1 (lops P N ops l2 K) st
  | [], _, _, _, h => h
  | o :: l1, l2, K, st, h => by
    simp only [List.cons_append, lops] at h ⊢
    refine ⟨h.1, ?_⟩
    have h2 := h.2
    have e : ∀ st, lops P N ops (l1 ++ l2) K st → lops P N ops l1 (lops P N ops l2 K) st := fun st => lops_append l1 l2 K st
    cases hw : guardL ops o st.env with
    | none => rw [hw] at h2; exact h2.elim
    | some wb =>
      obtain ⟨want, b⟩ := wb
      rw [hw] at h2
      exact ⟨fun hc => lop_mono e (h2.1 hc), fun hc => e _ (h2.2 hc)⟩
def headL (P : Program) (md : Region.Mode) (ops : Array Oper) (n : Nat) (L : Array Bool → LSt → Prop) : Nat → Array Bool → LSt → Prop
  | 0, listed, st => L listed st
  | f + 1, listed, st => Region.ready md ops listed ≠ [] ∧ ∀ i ∈ Region.ready md ops listed, i < n ∧ lqOp P ops i (headL P md ops n L f (listed.setIfInBounds i true)) st
theorem wpAny_of_headL {n g : Nat} {L : Array Bool → LSt → Prop} {Q' : Exit → Act → World → Prop} (hd : ∀ (i : Nat) (o : Oper), ops[i]? = some o → dstOk N o.dst = true) (hL : ∀ listed st a w, Rel P N w0 S0 st a w → L listed st → wpAny P md ops Q' g listed a w) :
    ∀ (f : Nat) (listed : Array Bool) (st : LSt) (a : Act) (w : World), Rel P N w0 S0 st a w → headL P md ops n L f listed st → wpAny P md ops Q' (f + g) listed a w
  | 0, listed, st, a, w, hr, h => by rw [Nat.zero_add]; exact hL _ _ _ _ hr h
  | f + 1, listed, st, a, w, hr, h => by
    rw [show f + 1 + g = (f + g) + 1 by omega]
    refine ⟨fun h0 => absurd h0 h.1, fun i hi => ?_⟩
    have h1 := (h.2 i hi).2
    unfold lqOp at h1
    unfold wpOp
    split
    · rename_i ho; simp only [ho] at h1; exact wpAny_of_headL hd hL f _ st a w hr h1
    · rename_i o ho
      simp only [ho] at h1
      obtain ⟨x, hy, hK⟩ := h1
      obtain ⟨g', hg⟩ := hr
      rcases hy with ⟨hw, hv⟩ | ⟨hw, rfl⟩
      · rw [wantL_run hg.env hw, if_pos rfl]
        exact .inl (hv.wp hg (dstOk_spec (hd i o ho)) fun a' w' hr' => wpAny_of_headL hd hL f _ _ a' w' hr' hK)
      · rw [wantL_run hg.env hw, if_neg (by simp)]
        exact wpAny_of_headL hd hL f _ _ _ _ ⟨g', hg.put (dstOk_spec (hd i o ho)) (.lit _ _)⟩ hK
theorem headL_first {n i : Nat} {oi : Oper} {v : LV} {L : Array Bool → LSt → Prop} (hi : ops[i]? = some oi)
    (hs : Region.sinkB md ops n = true) (hc : Region.chainB md ops n = true) (hn : n < ops.size) (hin : i < n)
    (hdone : ∀ listed st, L listed st → ∀ j ∈ Region.ready md ops listed, n ≤ j) :
    ∀ (f : Nat) (listed : Array Bool) (st : LSt), HeadInv md ops n listed →
      (∀ j oj, ops[j]? = some oj → j ≠ i → listed.getD j true = false → (∀ e ∈ oj.after, Region.binds md e = true → e.on ≠ i) → oi.apart ops oj = true) →
      i ∈ Region.ready md ops listed → YieldsL P ops oi v st →
      headL P md ops n L f (listed.setIfInBounds i true) (st.put oi.dst v) → headL P md ops n L (f + 1) listed st := by
  intro f
  have self : ∀ {st : LSt} {K : LSt → Prop}, YieldsL P ops oi v st → K (st.put oi.dst v) → lqOp P ops i K st := by
    intro st K hy hK
    unfold lqOp; simp only [hi]; exact ⟨v, hy, hK⟩
  induction f with
  | zero =>
    intro listed st inv _ hr hy H
    have hun := (mem_ready.1 hr).1
    refine ⟨fun h => (by rw [h] at hr; cases hr), fun j hj => ?_⟩
    have hjn : j < n := by
      rcases Nat.lt_or_ge j n with h | h
      · exact h
      · exact absurd hj (tail_waits hs hc hn inv _ i rfl hin hun j h)
    refine ⟨hjn, ?_⟩
    by_cases hji : j = i
    · subst hji; exact self hy H
    · have := hdone _ _ H j (ready_mono hj hji)
      omega
  | succ f ih =>
    intro listed st inv hfree hr hy H
    have hun := (mem_ready.1 hr).1
    refine ⟨fun h => (by rw [h] at hr; cases hr), fun j hj => ?_⟩
    have hjn : j < n := by
      rcases Nat.lt_or_ge j n with h | h
      · exact h
      · exact absurd hj (tail_waits hs hc hn inv _ i rfl hin hun j h)
    refine ⟨hjn, ?_⟩
    by_cases hji : j = i
    · subst hji; exact self hy H
    · have h1 := (H.2 j (ready_mono hj hji)).2
      obtain ⟨hjun, oj, hoj, hall⟩ := mem_ready.1 hj
      have hnot : ∀ e ∈ oj.after, Region.binds md e = true → e.on ≠ i := fun e he hb heq => by
        have h1 := hall e he hb
        rw [heq, getD_both hun] at h1
        cases h1
      have h2 := lqOp_put hoj (hfree j oj hoj hji hjun hnot) hy h1
      have hfree' : ∀ k ok, ops[k]? = some ok → k ≠ i → (listed.setIfInBounds j true).getD k true = false →
          (∀ e ∈ ok.after, Region.binds md e = true → e.on ≠ i) → oi.apart ops ok = true := fun k ok hk hki hun hno => by
        refine hfree k ok hk hki ?_ hno
        by_cases hjk : j = k
        · subst hjk; exact hjun
        · rw [getD_set_ne true hjk] at hun; exact hun
      refine lqOp_mono (fun st' h3 => ih (listed.setIfInBounds j true) st' (inv.set hj hjn) hfree' (ready_mono hr (Ne.symm hji)) h3.1 ?_) h2
      rw [Array.setIfInBounds_comm _ _ hji]
      exact h3.2
theorem headL_lex {n g : Nat} {Lq : LSt → Prop} (hs : Region.sinkB md ops n = true) (hc : Region.chainB md ops n = true) (hn : n < ops.size) :
    ∀ (l : List Oper) (k : Nat) (listed : Array Bool) (st : LSt), (∀ j, j < l.length → l[j]? = ops[k + j]?) → k + l.length = n → HeadInv md ops n listed →
    Region.lexHead md ops g l.length k listed = true → l.all pureB = true → l.all (bmode st.mode) = true → lops P N ops l Lq st →
    headL P md ops n (fun listed' st' => Region.seqB md ops g n listed' = true ∧ Lq st') l.length listed st
  | [], k, listed, st, _, hk, _, hB, _, _, h => by
    have : k = n := by simpa using hk
    subst this
    exact ⟨by simpa [Region.lexHead] using hB, h⟩
  | o :: l, k, listed, st, hl, hk, inv, hB, hp, hmd, h => by
    have h0 : ops[k]? = some o := by simpa using (hl 0 (by simp)).symm
    simp only [List.length_cons, Region.lexHead, Bool.and_eq_true] at hB
    obtain ⟨⟨hr, hf⟩, hB'⟩ := hB
    rw [List.all_cons, Bool.and_eq_true] at hp hmd
    have hkn : k < n := by simp only [List.length_cons] at hk; omega
    have hr' : k ∈ Region.ready md ops listed := by simpa using hr
    obtain ⟨hd, h⟩ := h
    have hst : ∃ v, YieldsL P ops o v st ∧ lops P N ops l Lq (st.put o.dst v) := by
      cases hg : guardL ops o st.env with
      | some wb =>
        obtain ⟨want, b⟩ := wb
        rw [hg] at h
        have hw := guardL_want hg
        cases hc : wantB b want
        · rw [hc] at hw; exact ⟨_, .inr ⟨hw, rfl⟩, h.2 hc⟩
        · rw [hc] at hw
          obtain ⟨x, h1, h2⟩ := lop_pure hp.1 hmd.1 (h.1 hc)
          exact ⟨x, .inl ⟨hw, h1⟩, h2⟩
      | none => rw [hg] at h; exact h.elim
    obtain ⟨v, hy, hK⟩ := hst
    exact headL_first h0 hs hc hn hkn (fun listed' st' hL => seqB_ready hL.1) l.length listed st inv (Region.free_spec h0 hf) hr' hy
      (headL_lex hs hc hn l (k + 1) _ _ (fun j hj => by have := hl (j + 1) (by simp; omega); simpa [Nat.add_assoc, Nat.add_comm 1 j] using this) (by simp only [List.length_cons] at hk; omega) (inv.set hr' hkn) hB' hp.2 (by rw [put_mode]; exact hmd.2) hK)
theorem region_tail {id : Nat} {l : List Oper} {Q : LSt → Prop} {Q' : Exit → Act → World → Prop} {st : LSt} {a : Act} {w : World} (n : Nat) (hm : P.follows .mixedOrders = true) (hB : Region.lexTailB .any l.toArray n = true) (hp : ((l.take n).all pureB && l.all (fun o => dstOk N o.dst)) = true) (hmd : (l.take n).all (bmode st.mode) = true)
    (h : Rel P N w0 S0 st a w) (hl : lops P N l.toArray l Q st) (hQ : ∀ st a w, Rel P N w0 S0 st a w → Q st → Q' .normal a w) : (Code.region id l.toArray true).wp P Q' a w := by
  simp only [Region.lexTailB, Bool.and_eq_true, decide_eq_true_eq] at hB
  obtain ⟨⟨⟨⟨hsel, hn⟩, hs⟩, hc⟩, hlex⟩ := hB
  rw [Bool.and_eq_true] at hp
  have hn' : n < l.length := by simpa using hn
  have htl : (l.take n).length = n := by simp; omega
  have hdl : (l.drop n).length = l.toArray.size - n := by simp
  have inv0 : HeadInv .any l.toArray n (Array.replicate l.toArray.size false) :=
    ⟨by simp, fun j oj _ hl => (by rw [getD_replicate_false] at hl; cases hl), fun t _ ht => getD_in (by simpa using ht) (getD_replicate_false _ _)⟩
  have hl' : lops P N l.toArray (l.take n) (lops P N l.toArray (l.drop n) Q) st := lops_append _ _ _ _ (by rw [List.take_append_drop]; exact hl)
  have H := headL_lex (P := P) (N := N) (md := .any) (g := l.toArray.size - n) hs hc hn (l.take n) 0 _ st (fun j hj => by
    have hj' : j < n := by rw [htl] at hj; exact hj
    simp [hj']) (by simpa using htl) inv0 (by rw [htl]; exact hlex) hp.1 hmd hl'
  have hp2 : ∀ (i : Nat) (o : Oper), l.toArray[i]? = some o → dstOk N o.dst = true := fun i o ho => by
    have : o ∈ l := by rw [List.getElem?_toArray] at ho; exact List.mem_of_getElem? ho
    exact List.all_eq_true.1 hp.2 o this
  refine wp_region_any hm ?_
  have := wpAny_of_headL (Q' := Q') (g := l.toArray.size - n) hp2 (fun listed st' a' w' hr hL => by
    have := wpAny_of_seq (md := .any) (Q' := Q') (l.drop n) n listed a' w' (fun j => by simp [List.getElem?_drop]) (by rw [hdl]; exact hL.1) (lops_wp (l.drop n) Q st' a' w' hr hL.2 hQ)
    rwa [hdl] at this) _ _ _ _ _ h.drew H
  rw [htl, show n + (l.toArray.size - n) = l.toArray.size by omega] at this
  exact this
theorem LW_tail {Q : Exit → LSt → Prop} {st : LSt} {id : Nat} {l : List Oper} (n : Nat) (hm : P.follows .mixedOrders = true) (hB : Region.lexTailB .any l.toArray n = true) (hp : ((l.take n).all pureB && l.all (fun o => dstOk N o.dst)) = true) (hmd : (l.take n).all (bmode st.mode) = true)
    (h : ∀ K : LSt → Prop, (∀ st', Q .normal st' → K st') → lops P N l.toArray l K st) : LW P N w0 S0 (.region id l.toArray true) Q st := by
  intro a w hr
  exact region_tail n hm hB hp hmd hr (h _ fun _ h => h) fun st' a' w' h1 h2 => ⟨st', h1, h2⟩
end
section
variable {P : Program} {N : Nat} {w0 : World} {S0 : Ent}
theorem lops_then {ops : Array Oper} {rest : List Oper} {Q' : Exit → Act → World → Prop} : ∀ (l : List Oper) (K : LSt → Prop) (st : LSt) (a : Act) (w : World), Rel P N w0 S0 st a w → lops P N ops l K st → (∀ st a w, Rel P N w0 S0 st a w → K st → wpList P ops Q' rest a w) → wpList P ops Q' (l ++ rest) a w
  | [], K, st, a, w, h, hl, hQ => hQ _ _ _ h hl
  | o :: l, K, st, a, w, h, hl, hQ => by
    obtain ⟨hd, hl⟩ := hl
    rw [List.cons_append]
    unfold wpList
    obtain ⟨g, hg⟩ := h
    cases hgd : guardL ops o st.env with
    | some wb =>
      obtain ⟨want, b⟩ := wb
      rw [hgd] at hl
      have hw := guardL_want hgd
      cases hc : wantB b want
      · rw [hc] at hw
        rw [wantL_run hg.env hw, if_neg (by simp)]
        exact lops_then l K _ _ _ ⟨g, hg.put (dstOk_spec hd) (.lit _ _)⟩ (hl.2 hc) hQ
      · rw [hc] at hw
        rw [wantL_run hg.env hw, if_pos rfl]
        exact .inl (lop_wp ⟨g, hg⟩ hd (hl.1 hc) fun st' a' w' hr hk => lops_then l K st' a' w' hr hk hQ)
    | none => rw [hgd] at hl; exact hl.elim
def LastL (P : Program) (N : Nat) (w0 : World) (S0 : Ent) (o : Oper) (Kont : LSt → Prop) (st : LSt) : Prop :=
  ∀ a w (K : Act → World → Prop) (Q' : Exit → Act → World → Prop), Rel P N w0 S0 st a w → (∀ st' a' w', Rel P N w0 S0 st' a' w' → Kont st' → K a' w') → o.wp P a w K Q'
theorem LW_mid {Q : Exit → LSt → Prop} {st : LSt} {id : Nat} {l : List Oper} (n : Nat) {o : Oper} (ho : l[n]? = some o) (hg : o.guard = none)
    (h : ∀ K : LSt → Prop, (∀ st', LastL P N w0 S0 o (fun st'' => ∀ K' : LSt → Prop, (∀ st, Q .normal st → K' st) → lops P N l.toArray (l.drop (n + 1)) K' st'') st' → K st') → lops P N l.toArray (l.take n) K st) : LW P N w0 S0 (.region id l.toArray false) Q st := by
  intro a w hr
  have hn : n < l.length := (List.getElem?_eq_some_iff.1 ho).1
  have hl : l = l.take n ++ (o :: l.drop (n + 1)) := by
    have : o = l[n] := ((List.getElem?_eq_some_iff.1 ho).2).symm
    rw [this, ← List.drop_eq_getElem_cons hn, List.take_append_drop]
  refine wp_region_lit ?_
  have := lops_then (Q' := fun e a' w' => ∃ st', Rel P N w0 S0 st' a' w' ∧ Q e st') (rest := o :: l.drop (n + 1)) (l.take n) _ st a w hr (h _ fun st' h => h) (fun st' a' w' h1 h2 => by
    unfold wpList
    rw [if_pos (by simp [Region.wanted, hg])]
    refine .inl (h2 a' w' _ _ h1 fun st2 a2 w2 hr2 hk2 => ?_)
    exact lops_wp _ (Q .normal) st2 a2 w2 hr2 (hk2 _ fun _ h => h) fun st3 a3 w3 h3 h4 => ⟨st3, h3, h4⟩)
  rw [← hl] at this
  exact this
end
end Go.Proofs.Ytaeefaehpfjmlaa
