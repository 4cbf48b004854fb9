/-
  ALL OPERATIONS; A REGION IN THE ORDER OF THE TEXT.
-/
import Derived.Test.YtmchdjpgceiloaaL8
set_option linter.unusedSimpArgs false
set_option linter.unusedVariables false
namespace Go.Proofs.Ytmchdjpgceiloaa
open Go.RowKit

section
variable {P : Program} {N : Nat} {w0 : World} {S0 : Ent}
/-- An append's run. -/
theorem append_step {g : Gh} {a : Act} {w : World} {d : Tmp} {x y : Operand} {t e type : TypeId} {pos : String} {after : Array Edge} {guard : Option (Nat × Bool)} {K : Act → World → Prop} {Q : Exit → Act → World → Prop} {i : TypeInfo} {id n m : Nat} {ds : List LV} {src : Option Addr} {c' : Nat} {news : List Value}
    (hd : ∀ d', some d = some d' → d' < N) (hu : P.underlying t = some (.slice e)) (hi : P.info? e = some i) (hk : 0 < i.size) (hone : ds.all oneL = true) (hzo : zeroOk P e = true) (hby : (n + m) * bytesL P e ≤ 140737488355328) (hmax : n + m ≤ maxLen)
    (hown : OwnAt P w g id e n (a.eval x)) (hds : ds.length = m * i.size) (hyv : a.eval y = .slice src m c') (hnv : Vals P w g ds news) (hnc : ∀ (j : Nat) u, news[j]? = some u → ∃ ad : Addr, src = some ad ∧ w.cell? (ad.add j) = some u)
    (hK : ∀ v' w', Appended P e i.size n m (a.eval x) news w v' w' → (m = 0 → v' = a.eval x) → K (a.put (some d) v') w') :
    (⟨some d, .call ⟨.builtin .append, ⟨[x, y]⟩, ⟨[t, t]⟩⟩, type, pos, after, guard⟩ : Oper).wp P a w K Q := by
  obtain ⟨z, hz, hzs⟩ : ∃ z, i.zero = some z ∧ z.cells.size = i.size := by
    unfold zeroOk at hzo
    rw [hi] at hzo
    simp only at hzo
    split at hzo
    · rename_i z hz; exact ⟨z, hz, by simpa using hzo⟩
    · cases hzo
  rw [show bytesL P e = i.bytes by simp [bytesL, hi]] at hby
  have hnl : news.length = m * i.size := by rw [← hnv.1]; exact hds
  have h1c : ∀ u ∈ news, u.oneCell' = true := by
    intro u hu
    obtain ⟨j, hj⟩ := List.getElem?_of_mem hu
    have hjl : j < ds.length := by rw [hnv.1]; exact (List.getElem?_eq_some_iff.1 hj).1
    exact oneL_rep (hnv.2 j ds[j] u (List.getElem?_eq_getElem hjl) hj) (List.all_eq_true.1 hone ds[j] (List.getElem_mem hjl))
  obtain ⟨v', w', hrun, hA, hm⟩ := append_run (ty := type) (c := c') hu hi hz hzs hk hown hnl hnc h1c hmax hby
  unfold Oper.wp
  have hr' : (execOp a.eval ⟨some d, .call ⟨.builtin .append, ⟨[x, y]⟩, ⟨[t, t]⟩⟩, type, pos, after, guard⟩).run P w = .ok (.value v') w' := by
    have : (do pure (Next.value (← Builtin.append_ #[t, t] type #[a.eval x, .slice src m c'])) : Sem Next).run P w = .ok (.value v') w' := by rw [Sem.run_bind, hrun]; rfl
    rw [← hyv] at this
    simpa [execOp, resolve, invoke, builtin] using this
  rw [hr']
  exact hK _ _ hA hm
theorem bslK_spec {q n m : Nat} {e : TypeId} {ds : List LV} (h : bslK P m ds.length (.bsl q n e)) : ∃ i, P.info? e = some i ∧ ds.length = m * i.size ∧ 0 < i.size := by
  obtain ⟨h1, h2, h3⟩ := h
  obtain ⟨i, hi⟩ := Option.isSome_iff_exists.1 h1
  rw [show sizeL P e = i.size by simp [sizeL, hi]] at h2 h3
  exact ⟨i, hi, h2, h3⟩
theorem effE_wp {g : Gh} {st st' : LSt} {a : Act} {w : World} {o : Oper} {c : Prop} {K : Act → World → Prop} {Q : Exit → Act → World → Prop} (h : RelG P N w0 S0 g st a w) (hd : ∀ d, o.dst = some d → d < N) (he : effE P st o.dst o.op = some (c, st')) (hc : c)
    (hK : ∀ a' w', Rel P N w0 S0 st' a' w' → K a' w') : o.wp P a w K Q := by
  obtain ⟨dst, op, type, pos, after, guard⟩ := o
  simp only at he hd
  unfold effE at he
  split at he
  · -- a variable
    rename_i d e x
    cases hcx : cellsL (evL st.env x) with
    | none => rw [hcx] at he; cases he
    | some cs =>
      rw [hcx] at he
      cases he
      obtain ⟨hl, hr⟩ := cellsL_rep (h.ev x) hcx
      unfold Oper.wp
      have hrun : (execOp a.eval ⟨some d, .box e x, type, pos, after, guard⟩).run P w = .ok (.value (.pointer (some ⟨w.heap.size, 0, none⟩))) (w.alloc (.cells (a.eval x).cells e)) := rfl
      rw [hrun]
      exact hK _ _ (h.newBox (hd d rfl) hl hr)
  · rename_i d e
    cases hz : zeroL P e with
    | none => rw [hz] at he; cases he
    | some cs =>
      rw [hz] at he
      cases he
      unfold zeroL at hz
      split at hz
      · rename_i i hi
        obtain ⟨z, hz', rfl⟩ := Option.map_eq_some_iff.1 hz
        unfold Oper.wp
        have hrun : (execOp a.eval ⟨some d, .alloc e, type, pos, after, guard⟩).run P w = .ok (.value (.pointer (some ⟨w.heap.size, 0, none⟩))) (w.alloc (.cells z.cells e)) := by
          have : (zeroValue e).run P w = .ok z w := by simp [zeroValue, typeInfo, hi, hz']
          simp only [execOp, Instr.alloc, Sem.run_bind, this, Result.andThen]
          rfl
        rw [hrun]
        refine hK _ _ (h.newBox (hd d rfl) (by simp) (fun j c u hc hu => ?_))
        rw [List.getElem?_map, Option.map_eq_some_iff] at hc
        obtain ⟨u', hu', rfl⟩ := hc
        rw [Array.getElem?_toList, hu] at hu'
        cases hu'
        exact rep_toLV u
      · cases hz
  · -- a store
    rename_i t p x
    unfold storeE storeTo storeArr at he
    split at he
    · rename_i d off xs hp hx
      cases hbox : st.box d with
      | some cs =>
        rw [hbox] at he
        cases he
        obtain ⟨hok, hsz, hle, hone⟩ := hc
        obtain ⟨i, hi⟩ := Option.isSome_iff_exists.1 hok
        rw [show sizeL P t = i.size by simp [sizeL, hi]] at hsz
        have hpv := h.ev p
        rw [hp] at hpv
        obtain ⟨b, hv, hb⟩ := hpv.inv_ptr
        obtain ⟨b', vals, T, h1, h2, h3, h4, h5⟩ := h.box d cs hbox
        rw [hb] at h1; cases h1
        obtain ⟨hl, hr⟩ := cellsL_rep (h.ev x) hx
        have h1c : ∀ u ∈ (a.eval x).cells.toList, u.oneCell' = true := by
          intro u hu
          obtain ⟨j, hj⟩ := List.getElem?_of_mem hu
          have hjl : j < xs.length := by
            have := (List.getElem?_eq_some_iff.1 hj).1; rw [Array.length_toList, hl] at this; exact this
          have hone' := List.all_eq_true.1 hone xs[j] (List.getElem_mem hjl)
          exact oneL_rep (hr j xs[j] u (List.getElem?_eq_getElem hjl) (by rw [← Array.getElem?_toList]; exact hj)) hone'
        have hll : (a.eval x).cells.toList.length = xs.length := by rw [Array.length_toList, hl]
        have hst := run_storeCells_at P b off T (a.eval x).cells.toList 0 vals w h2 (by rw [hll, h3]; omega) h1c
        simp only [Nat.add_zero] at hst
        have hrun : (execOp a.eval ⟨none, .store t p x, type, pos, after, guard⟩).run P w = .ok .skip (w.setRow b (vals.toList.take off ++ (a.eval x).cells.toList ++ vals.toList.drop (off + (a.eval x).cells.toList.length)).toArray) := by
          have hs : (Go.sizeOf t).run P w = .ok i.size w := by simp [Go.sizeOf, typeInfo, hi]
          have hne : ¬ (a.eval x).cells.size ≠ i.size := by rw [hl, hsz]; simp
          simp only [execOp, Instr.storeAt, hv, Instr.sureAddr, storeVar, Sem.run_bind, Sem.run_pure, Result.andThen, hs]
          rw [if_neg hne]
          simp only [Sem.run_bind, Sem.run_pure, Result.andThen, hst]
        unfold Oper.wp
        rw [hrun]
        exact hK _ _ ⟨g, h.storeBox hbox hb h2 hll hle (fun j c u hc hu => hr j c u hc (by rw [← Array.getElem?_toList]; exact hu))⟩
      | none => rw [hbox] at he; cases he
    · rename_i d off xs hp hx
      cases hbox : st.arr d with
      | some cs =>
        rw [hbox] at he
        cases he
        obtain ⟨hok, hsz, hle, hone, hpos⟩ := hc
        obtain ⟨i, hi⟩ := Option.isSome_iff_exists.1 hok
        rw [show sizeL P t = i.size by simp [sizeL, hi]] at hsz
        have hpv := h.ev p
        rw [hp] at hpv
        obtain ⟨b, hv, hb⟩ := hpv.inv_aptr
        rcases h.arr d cs hbox with rfl | ⟨b', vals, T, h1, h2, h3, h4, h5⟩
        · rw [List.length_nil] at hle; omega
        rw [hb] at h1; cases h1
        obtain ⟨hl, hr⟩ := cellsL_rep (h.ev x) hx
        have h1c : ∀ u ∈ (a.eval x).cells.toList, u.oneCell' = true := by
          intro u hu
          obtain ⟨j, hj⟩ := List.getElem?_of_mem hu
          have hjl : j < xs.length := by
            have := (List.getElem?_eq_some_iff.1 hj).1; rw [Array.length_toList, hl] at this; exact this
          have hone' := List.all_eq_true.1 hone xs[j] (List.getElem_mem hjl)
          exact oneL_rep (hr j xs[j] u (List.getElem?_eq_getElem hjl) (by rw [← Array.getElem?_toList]; exact hj)) hone'
        have hll : (a.eval x).cells.toList.length = xs.length := by rw [Array.length_toList, hl]
        have hst := run_storeCells_at P b off T (a.eval x).cells.toList 0 vals w h2 (by rw [hll]; omega) h1c
        simp only [Nat.add_zero] at hst
        have hrun : (execOp a.eval ⟨none, .store t p x, type, pos, after, guard⟩).run P w = .ok .skip (w.setRow b (vals.toList.take off ++ (a.eval x).cells.toList ++ vals.toList.drop (off + (a.eval x).cells.toList.length)).toArray) := by
          have hs : (Go.sizeOf t).run P w = .ok i.size w := by simp [Go.sizeOf, typeInfo, hi]
          have hne : ¬ (a.eval x).cells.size ≠ i.size := by rw [hl, hsz]; simp
          simp only [execOp, Instr.storeAt, hv, Instr.sureAddr, storeVar, Sem.run_bind, Sem.run_pure, Result.andThen, hs]
          rw [if_neg hne]
          simp only [Sem.run_bind, Sem.run_pure, Result.andThen, hst]
        unfold Oper.wp
        rw [hrun]
        have hv' := Vals.of_cells (h.ev x) hx
        have := h.storeArr (o := off) (xs := xs.map strip1) hbox hb h2 h3 h4 h5 (by rw [hll, List.length_map]) (by rw [List.length_map]; exact hle) hv'.2
        rw [List.length_map] at this
        exact hK _ _ ⟨g, this⟩
      | none => rw [hbox] at he; cases he
    · cases he
  · -- a slice made
    rename_i d t n parts
    cases hek : elemL P t with
    | none => rw [hek] at he; cases he
    | some ek =>
      obtain ⟨e, k⟩ := ek
      rw [hek] at he
      simp only [buildSliceE, buildSliceE1] at he
      cases hcs : partsL k 0 (parts.toList.map fun q => (q.1, evL st.env q.2)) with
      | none => rw [hcs] at he; cases he
      | some cs =>
        rw [hcs] at he
        cases he
        obtain ⟨hk, hpn, hbig, hzo⟩ := hc
        rw [List.length_map] at hpn
        have hbv : buildV P (evL st.env) (.buildSlice t n parts) = some ((0 < k ∧ parts.toList.length = n ∧ n * k ≤ 16777216 ∧ zeroOk P e = true), .sl n cs .no) := by simp only [buildV, hek, hcs, Option.map_some]
        cases hm : st.mode d with
        | false =>
          refine LVal.wp h (.inr (.inr ⟨_, hbv, hk, hpn, hbig, hzo⟩)) hd fun a' w' hr => hK _ _ ?_
          rw [hm, cond_false, cond_false]; exact hr
        | true =>
          obtain ⟨n', cs', vs, e', hte, hx, hvals, hvl, hk', hbig', hrun⟩ := build_run (o := ⟨some d, .buildSlice t n parts, type, pos, after, guard⟩) (a := a) (fun y => h.ev y) hbv ⟨hk, hpn, hbig, hzo⟩
          cases hx
          unfold Oper.wp
          rw [hrun]
          have hee : e' = e := hte t n parts e k rfl hek
          subst hee
          refine hK _ _ ?_
          rw [hm, cond_true, cond_true]
          have hml : n ≤ maxLen := by
            have : n ≤ n * sizeL P e' := Nat.le_mul_of_pos_right n hk'
            unfold maxLen; omega
          by_cases hn : n = 0
          · rw [if_pos hn, if_pos hn]
            exact h.newRow (hd d rfl) hk' hvl hvals hml
          · rw [if_neg hn, if_neg hn]
            exact h.newArr (hd d rfl) hk' hvl hvals hml (by omega)
  · -- an append
    rename_i d args ts
    obtain ⟨args⟩ := args
    obtain ⟨ts⟩ := ts
    simp only at he
    unfold appendE2 at he
    split at he
    · rename_i x y t t'
      split at he
      · rename_i htt
        subst htt
        unfold appendE at he
        have src : ∀ (m : Nat) (ds : List LV), newL st.arr (evL st.env y) = some (m, ds) → (∀ q n e, evL st.env y = .bsl q n e → ∃ i, P.info? e = some i ∧ ds.length = m * i.size ∧ 0 < i.size) → ∃ src c' news, a.eval y = .slice src m c' ∧ Vals P w g ds news ∧ ∀ (j : Nat) u, news[j]? = some u → ∃ ad : Addr, src = some ad ∧ w.cell? (ad.add j) = some u := by
          intro m ds hy hsize
          have hyr := h.ev y
          unfold newL at hy
          split at hy
          · rename_i m' ds' tk' hey
            cases hy
            rw [hey] at hyr
            rcases hyr.inv_sl with ⟨p, cap, hv, rfl, rfl⟩ | ⟨b, off, cap, hv, _, hc⟩
            · exact ⟨p, cap, [], hv, ⟨rfl, fun i c u hc => by cases hc⟩, fun j u hu => by cases hu⟩
            · obtain ⟨vs, hvs, hcell⟩ := hc.vals
              exact ⟨_, cap, vs, hv, hvs.strip, fun j u hu => ⟨_, rfl, by rw [Addr.add_lit]; exact hcell j u hu⟩⟩
          · rename_i q n e hey
            obtain ⟨cs, harr, heq⟩ := Option.map_eq_some_iff.1 hy
            cases heq
            obtain ⟨i, hi, hds, hk⟩ := hsize q m e hey
            rw [List.length_map] at hds
            have hsl : sizeL P e = i.size := by simp [sizeL, hi]
            rw [hey] at hyr
            rcases hyr.inv_bsl with ⟨hv, rfl⟩ | ⟨b, cap, cur, h1, hv, h3, h4, h5, h6, h7⟩
            · have : cs = [] := List.eq_nil_of_length_eq_zero (by rw [hds]; simp)
              subst this
              exact ⟨none, 0, [], hv, ⟨rfl, fun i c u hc => by cases hc⟩, fun j u hu => by cases hu⟩
            · refine ⟨_, cap, _, hv, (arr_vals (h.arr q cs harr) h1 h3 hds h4 (by rw [h6, hsl])).strip, fun j u hu => ⟨_, rfl, ?_⟩⟩
              rw [Addr.add_lit, Nat.zero_add, cell_of_heap h3]
              rw [List.getElem?_take] at hu
              split at hu
              · simpa using hu
              · cases hu
          · cases hy
        split at he
        · rename_i e k n cs tk m ds hek hx hy
          unfold elemL at hek
          split at hek
          · rename_i e' hu
            obtain ⟨i, hi, heq⟩ := Option.map_eq_some_iff.1 hek
            cases heq
            have hsl : sizeL P e = i.size := by simp [sizeL, hi]
            have hxr := h.ev x
            rw [hx] at hxr
            have step : ∀ id, cs.length = n * i.size → ds.length = m * i.size → 0 < i.size → ds.all oneL = true → zeroOk P e = true → (n + m) * bytesL P e ≤ 140737488355328 → n + m ≤ maxLen → (∀ q n e, evL st.env y = .bsl q n e → ∃ i, P.info? e = some i ∧ ds.length = m * i.size ∧ 0 < i.size) → OwnAt P w g id e n (a.eval x) → (∀ v' w' news, news.length = m * sizeL P e → Vals P w g ds news → Appended P e (sizeL P e) n m (a.eval x) news w v' w' → (m = 0 → v' = a.eval x) → Rel P N w0 S0 st' (a.put (some d) v') w') →
                (⟨some d, .call ⟨.builtin .append, ⟨[x, y]⟩, ⟨[t, t]⟩⟩, type, pos, after, guard⟩ : Oper).wp P a w K Q := by
              intro id hcs hds hk hone hzo hby hmax hsrc hown hfin
              obtain ⟨src, c', news, hyv, hnv, hnc⟩ := src m ds hy hsrc
              exact append_step (hd := hd) hu hi hk hone hzo hby hmax hown hds hyv hnv hnc fun v' w' hA hm => hK _ _ (hfin v' w' news (by rw [hsl, ← hnv.1]; exact hds) hnv (by rw [hsl]; exact hA) hm)
            unfold appendE1 at he
            split at he
            · cases he
              obtain ⟨hn0, hcs, hds, hk, hone, hzo, hby, hmax, hbs⟩ := hc
              obtain ⟨hv, _, hc0⟩ := hxr.inv_nil
              subst hn0
              refine step d hcs hds hk hone hzo hby hmax ?_ (.inl ⟨hv, rfl⟩) fun v' w' news hnl hnv hA hm => ?_
              · intro q n e hq
                rw [hq] at hbs
                exact bslK_spec hbs
              have hcs0 : cs = [] := List.eq_nil_of_length_eq_zero (by rw [hcs]; simp)
              subst hcs0
              cases hmd : st.mode d with
              | false =>
                rw [cond_false, cond_false]
                exact h.append (hd d rfl) (by rw [hsl]; exact hk) (hxr.no_of rfl) (.inl ⟨hv, rfl⟩) (by simp) hnl hnv hA
              | true =>
                rw [cond_true, cond_true]
                rw [hv] at hA hm
                refine h.appendB (hd d rfl) (by rw [hsl]; exact hk) (.inl ⟨rfl, rfl⟩) (fun _ _ h => absurd rfl h) (by simp) (fun _ => rfl) (fun h => absurd rfl h) hnl hnv hA ?_
                by_cases hm0 : m = 0
                · exact .inl (hm hm0)
                · exact .inr (by omega)
            · rename_i q
              cases he
              obtain ⟨hcs, hds, hk, hone, hzo, hby, hmax, hq, hbs⟩ := hc
              have hown := hxr.inv_row.2 e (by rw [h.row]; exact hq)
              refine step q hcs hds hk hone hzo hby hmax ?_ hown fun v' w' news hnl hnv hA hm => ?_
              · intro q n e hq
                rw [hq] at hbs
                exact bslK_spec hbs
              exact h.append (hd d rfl) (by rw [hsl]; exact hk) (hxr.no_of rfl) hown (by rw [hsl]; exact hcs) hnl hnv hA
            · cases he
          · cases hek
        · rename_i e k q n e' m ds hek hx hy
          unfold elemL at hek
          split at hek
          · rename_i e'' hu
            obtain ⟨i, hi, heq⟩ := Option.map_eq_some_iff.1 hek
            cases heq
            have hsl : sizeL P e = i.size := by simp [sizeL, hi]
            have hxr := h.ev x
            rw [hx] at hxr
            unfold appendA at he
            cases harr : st.arr q with
            | none => rw [harr] at he; cases he
            | some cs =>
              rw [harr] at he
              cases he
              obtain ⟨hee, hcs, hds, hk, hone, hzo, hby, hmax, hbs⟩ := hc
              subst hee
              have hb := hxr.inv_bsl
              have hfree : ∀ b, g.own q = some b → a.eval x ≠ .slice none 0 0 → ∀ i, ¬ g.S b i := by
                intro b hb' hne
                rcases hb with ⟨hv, _⟩ | ⟨b1, cap, cur, h1, hv, h3, h4, h5, h6, h7⟩
                · exact absurd hv hne
                · rcases h.arr q cs harr with h0 | ⟨b2, vals, T, k1, k2, k3, k4, k5⟩
                  · rw [h0, List.length_nil] at hcs
                    have := Nat.mul_pos h7 hk
                    omega
                  · rw [hb'] at k1; cases k1; exact k5
              have hown : OwnAt P w g q e n (a.eval x) := by
                rcases hb with hb | ⟨b1, cap, cur, h1, hv, h3, h4, h5, h6, h7⟩
                · exact .inl hb
                · exact .inr ⟨b1, cap, cur, h1, hv, h3, h4, h5, h6, fun i _ => hfree b1 h1 (by rw [hv]; simp) i⟩
              have hsrc : ∀ q n e, evL st.env y = .bsl q n e → ∃ i, P.info? e = some i ∧ ds.length = m * i.size ∧ 0 < i.size := by
                intro q n e hq
                rw [hq] at hbs
                exact bslK_spec hbs
              obtain ⟨src, c', news, hyv, hnv, hnc⟩ := src m ds hy hsrc
              have hnl : news.length = m * sizeL P e := by rw [hsl, ← hnv.1]; exact hds
              refine append_step (hd := hd) hu hi hk hone hzo hby hmax hown hds hyv hnv hnc fun v' w' hA hm => hK _ _ ?_
              rw [← hsl] at hA
              refine h.appendB (hd d rfl) (by rw [hsl]; exact hk) hb hfree (by rw [hsl]; exact hcs) (fun hv => ?_) (fun _ => h.arr q cs harr) hnl hnv hA ?_
              · rcases hb with ⟨_, hn⟩ | ⟨b1, cap, cur, h1, hv', h3⟩
                · exact List.eq_nil_of_length_eq_zero (by rw [hcs, hn]; simp)
                · rw [hv'] at hv; cases hv
              · by_cases hm0 : m = 0
                · exact .inl (hm hm0)
                · exact .inr (by omega)
          · cases hek
        · cases he
      · cases he
    · cases he
  · cases he
theorem lop_wp {st : LSt} {a : Act} {w : World} {o : Oper} {K' : LSt → Prop} {K : Act → World → Prop} {Q : Exit → Act → World → Prop} (h : Rel P N w0 S0 st a w) (hd : dstOk N o.dst = true) (he : lop P o st K')
    (hK : ∀ st' a' w', Rel P N w0 S0 st' a' w' → K' st' → K a' w') : o.wp P a w K Q := by
  obtain ⟨g, hg⟩ := h
  unfold lop at he
  cases hx : pv P (evL st.env) st.box st.arr o.op with
  | some x => rw [hx] at he; exact LVal.wp hg (.inl hx) (dstOk_spec hd) fun a' w' hr => hK _ _ _ hr he
  | none =>
    rw [hx, pvK_none] at he
    cases hc : callOf o.op with
    | some fa =>
      obtain ⟨f, args⟩ := fa
      rw [hc] at he
      obtain ⟨r, hr, hK'⟩ := he
      exact LVal.wp hg (.inr (.inl ⟨f, args, r, hc, hr, rfl⟩)) (dstOk_spec hd) fun a' w' hr => hK _ _ _ hr hK'
    | none =>
      rw [hc, callK_none] at he
      cases hs : effE P st o.dst o.op with
      | none => rw [hs] at he; exact he.elim
      | some cs =>
        obtain ⟨c, st'⟩ := cs
        rw [hs] at he
        exact effE_wp hg (dstOk_spec hd) hs he.1 fun a' w' hr => hK _ _ _ hr he.2
theorem lops_wp {ops : Array Oper} {Q' : Exit → Act → World → Prop} : ∀ (l : List Oper) (K : LSt → Prop) (st : LSt) (a : Act) (w : World), Rel P N w0 S0 st a w → lops P N ops l K st → (∀ st a w, Rel P N w0 S0 st a w → K st → Q' .normal a w) → wpList P ops Q' l a w
  | [], K, st, a, w, h, hl, hQ => hQ _ _ _ h hl
  | o :: rest, K, st, a, w, h, hl, hQ => by
    obtain ⟨hd, hl⟩ := hl
    unfold wpList
    obtain ⟨g, hg⟩ := h
    cases hgd : guardL ops o st.env with
    | some wb =>
      obtain ⟨want, b⟩ := wb
      rw [hgd] at hl
      have hw := guardL_want hgd
      cases hc : wantB b want
      · rw [hc] at hw
        rw [wantL_run hg.env hw, if_neg (by simp)]
        exact lops_wp rest K _ _ _ ⟨g, hg.put (dstOk_spec hd) (.lit _ _)⟩ (hl.2 hc) hQ
      · rw [hc] at hw
        rw [wantL_run hg.env hw, if_pos rfl]
        exact .inl (lop_wp ⟨g, hg⟩ hd (hl.1 hc) fun st' a' w' hr hk => lops_wp rest K st' a' w' hr hk hQ)
    | none => rw [hgd] at hl; exact hl.elim
end
end Go.Proofs.Ytmchdjpgceiloaa
