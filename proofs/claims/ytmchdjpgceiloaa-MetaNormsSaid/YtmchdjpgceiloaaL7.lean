/-
  OPERATIONS THAT MAKE OR WRITE MEMORY OF THE CALL's OWN, by what the slots stand for.
-/
import Derived.Test.YtmchdjpgceiloaaL6
set_option linter.unusedSimpArgs false
set_option linter.unusedVariables false
namespace Go.Proofs.Ytmchdjpgceiloaa
open Go.RowKit

section
variable {P : Program} {N : Nat} {w0 : World} {S0 : Ent}
/-- As Mono, but of the variable and the row d nothing is asked. -/
structure MonoX (P : Program) (d : Nat) (w : World) (g : Gh) (w' : World) (g' : Gh) : Prop where
  cell : ∀ b i v, g.S b i → w.cell? ⟨b, i, none⟩ = some v → g'.S b i ∧ w'.cell? ⟨b, i, none⟩ = some v
  ptr : ∀ k b, k ≠ d → g.own k = some b → g'.own k = some b
  own : ∀ q e n v, q ≠ d → g'.row q = some (e, n) → (∀ e', g.row q = some (e', n) → OwnAt P w g q e' n v) → OwnAt P w' g' q e n v
  shape : ∀ k b cur e, k ≠ d → g.own k = some b → w.heap[b]? = some (.cells cur e (0, 0)) → ∃ cur', w'.heap[b]? = some (.cells cur' e (0, 0)) ∧ cur'.size = cur.size
theorem rep_cells {w w' : World} {g g' : Gh} {b off : Nat} {cs : List LV} (h : CellsAt P w g b off cs) (m : ∀ b i v, g.S b i → w.cell? ⟨b, i, none⟩ = some v → g'.S b i ∧ w'.cell? ⟨b, i, none⟩ = some v) : CellsAt P w' g' b off cs := by
  obtain ⟨val, h1, h2⟩ := h
  exact ⟨val, fun i hi => m _ _ _ (h1 i hi).1 (h1 i hi).2, fun i c hc => (h2 i c hc).mono (.bare m)⟩
theorem rep_no {w w' : World} {g g' : Gh} {n : Nat} {cs : List LV} {t : Tok} {v : Value} (h : Rep P w g (.sl n cs t) v) (m : ∀ b i v, g.S b i → w.cell? ⟨b, i, none⟩ = some v → g'.S b i ∧ w'.cell? ⟨b, i, none⟩ = some v) : Rep P w' g' (.sl n cs .no) v := by
  rcases h.inv_sl with ⟨p, cap, rfl, rfl, rfl⟩ | ⟨b, off, cap, rfl, hcap, hc⟩
  · exact .empty _ _ _
  · exact (rep_cells hc m).rep_sl hcap
section
variable {w w' : World} {g g' : Gh} {v : Value} {d : Nat}
theorem Rep.forgetX1 {x : LV} (h : Rep P w g x v) (m : MonoX P d w g w' g') : Rep P w' g' (Go.Proofs.Ytmchdjpgceiloaa.forget1 d x) v := by
  cases x with
  | lit u => rw [h.inv_lit]; exact .lit _ _
  | sl n cs t =>
    cases t with
    | no => exact rep_no h m.cell
    | nil => obtain ⟨rfl, rfl, rfl⟩ := h.inv_nil; exact .nil _
    | row q =>
      simp only [Go.Proofs.Ytmchdjpgceiloaa.forget1]
      split
      · exact rep_no h m.cell
      · rename_i hq
        exact .row _ _ _ _ _ (rep_no h m.cell) fun e he => m.own q e n v hq he h.inv_row.2
  | ref cs =>
    obtain ⟨b, off, rfl, hc⟩ := h.inv_ref
    exact (rep_cells hc m.cell).rep_ref
  | ptr d' off =>
    obtain ⟨b, rfl, hb⟩ := h.inv_ptr
    simp only [Go.Proofs.Ytmchdjpgceiloaa.forget1]
    split
    · exact .any _ _
    · rename_i hq
      exact .ptr _ _ _ _ (m.ptr _ _ hq hb)
  | aptr d' off =>
    obtain ⟨b, rfl, hb⟩ := h.inv_aptr
    simp only [Go.Proofs.Ytmchdjpgceiloaa.forget1]
    split
    · exact .any _ _
    · rename_i hq
      exact .aptr _ _ _ _ (m.ptr _ _ hq hb)
  | bsl d' n e =>
    simp only [Go.Proofs.Ytmchdjpgceiloaa.forget1]
    split
    · exact .any _ _
    · rename_i hq
      exact .bsl _ _ _ _ _ (h.inv_bsl.mono (fun b hb => m.ptr _ _ hq hb) (fun b cur e hb hc => m.shape _ _ _ _ hq hb hc))
  | _ => exact .any _ _
theorem Rep.forgetX2 {x : LV} (h : Rep P w g x v) (m : MonoX P d w g w' g') : Rep P w' g' (Go.Proofs.Ytmchdjpgceiloaa.forget2 d x) v := by
  cases x with
  | agg cs =>
    obtain ⟨vs, rfl, hl, h⟩ := h.inv_agg
    refine .agg _ _ _ (by simpa using hl) fun i c u hc hu => ?_
    obtain ⟨c', hc', rfl⟩ := map_get hc
    exact (h i c' u hc' hu).forgetX1 m
  | lit u => exact h.forgetX1 m
  | sl n cs t => exact h.forgetX1 m
  | ref cs => exact h.forgetX1 m
  | ptr d' off => exact h.forgetX1 m
  | aptr d' off => exact h.forgetX1 m
  | bsl d' n e => exact h.forgetX1 m
  | _ => exact .any _ _
theorem Rep.forgetX {x : LV} (h : Rep P w g x v) (m : MonoX P d w g w' g') : Rep P w' g' (Go.Proofs.Ytmchdjpgceiloaa.forget d x) v := by
  cases x with
  | tup cs =>
    obtain ⟨vs, rfl, hl, h⟩ := h.inv_tup
    refine .tup _ _ _ (by simpa using hl) fun i c u hc hu => ?_
    obtain ⟨c', hc', rfl⟩ := map_get hc
    exact (h i c' u hc' hu).forgetX2 m
  | agg cs => exact h.forgetX2 m
  | lit u => exact h.forgetX1 m
  | sl n cs t => exact h.forgetX1 m
  | ref cs => exact h.forgetX1 m
  | ptr d' off => exact h.forgetX1 m
  | aptr d' off => exact h.forgetX1 m
  | bsl d' n e => exact h.forgetX1 m
  | _ => exact .any _ _
end
/-- A change of memory that concerns the variable or row d alone. -/
theorem RelG.change {g g' : Gh} {st st' : LSt} {a : Act} {w w' : World} {d : Nat} (h : RelG P N w0 S0 g st a w) (m : MonoX P d w g w' g') (hb : BelowH w0.heap.size S0.H w w')
    (hs : ∀ b i, b < w0.heap.size → ¬ S0.H b → (g'.S b i ↔ g.S b i)) (hwf : ∀ b i, g'.S b i → b < w'.heap.size) (hown : ∀ k b, g'.own k = some b → (w0.heap.size ≤ b ∨ S0.H b) ∧ b < w'.heap.size)
    (hinj : ∀ k k' b, g'.own k = some b → g'.own k' = some b → k = k') (hbx : ∀ k b, k ≠ d → g.own k = some b → (∀ i, ¬ g.S b i) → w'.heap[b]? = w.heap[b]? ∧ ∀ i, ¬ g'.S b i)
    (henv : st'.env = (st.forget d).env) (hbox : ∀ k cs, k ≠ d → st'.box k = some cs → (st.forget d).box k = some cs) (hboxd : ∀ cs, st'.box d = some cs → BoxAt P w' g' d cs ∧ st'.row d = none)
    (hrow : g'.row = st'.row) (hrk : ∀ k, k ≠ d → st'.row k = st.row k) (harr : ∀ k cs, k ≠ d → st'.arr k = some cs → st.arr k = some cs) (harrd : ∀ cs, st'.arr d = some cs → ArrAt P w' g' d cs ∧ st'.row d = none ∧ st'.box d = none) (hval : st'.val = st.val := by rfl) : RelG P N w0 S0 g' st' a w' := by
  refine ⟨h.defers, h.size, fun k => ?_, h.below.trans hb, fun b i hbb hH => (hs b i hbb hH).trans (h.s0 b i hbb hH), hwf, hown, hinj, fun k cs hk => ?_, hrow, fun k cs hk => ?_, fun k cs hk => ?_, fun k cs hk => ?_, by rw [hval]; exact h.ex, fun b i v hs hc => m.cell b i v (h.keep b i v hs hc).1 (h.keep b i v hs hc).2⟩
  · rw [henv]; exact (h.env k).forgetX m
  · by_cases hkd : k = d
    · subst hkd; exact (hboxd cs hk).1
    · have hb' := hbox k cs hkd hk
      simp only [LSt.forget, if_neg hkd] at hb'
      obtain ⟨cs', hcs', rfl⟩ := Option.map_eq_some_iff.1 hb'
      obtain ⟨b, vals, T, h1, h2, h3, h4, h5⟩ := h.box k cs' hcs'
      obtain ⟨e1, e2⟩ := hbx k b hkd h1 h5
      refine ⟨b, vals, T, m.ptr k b hkd h1, by rw [e1]; exact h2, by simpa using h3, fun i c u hc hu => ?_, e2⟩
      obtain ⟨c', hc', rfl⟩ := map_get hc
      exact (h4 i c' u hc' hu).forgetX1 m
  · by_cases hkd : k = d
    · subst hkd; exact (hboxd cs hk).2
    · have hb' := hbox k cs hkd hk
      simp only [LSt.forget, if_neg hkd] at hb'
      obtain ⟨cs', hcs', _⟩ := Option.map_eq_some_iff.1 hb'
      rw [hrk k hkd]; exact h.dis k cs' hcs'
  · by_cases hkd : k = d
    · subst hkd; exact (harrd cs hk).1
    · rcases h.arr k cs (harr k cs hkd hk) with h0 | ⟨b, vals, T, h1, h2, h3, h4, h5⟩
      · exact .inl h0
      · obtain ⟨e1, e2⟩ := hbx k b hkd h1 h5
        exact .inr ⟨b, vals, T, m.ptr k b hkd h1, by rw [e1]; exact h2, h3, fun i c u hc hu => (h4 i c u hc hu).mono (.bare m.cell), e2⟩
  · by_cases hkd : k = d
    · subst hkd; exact (harrd cs hk).2
    · have hd := h.dia k cs (harr k cs hkd hk)
      refine ⟨by rw [hrk k hkd]; exact hd.1, ?_⟩
      cases hb' : st'.box k with
      | none => rfl
      | some cs' =>
        have := hbox k cs' hkd hb'
        simp only [LSt.forget, if_neg hkd, hd.2] at this
        cases this
theorem oneL_rep {w : World} {g : Gh} {x : LV} {v : Value} (h : Rep P w g x v) (ho : oneL x = true) : v.oneCell' = true := by
  cases x with
  | any => cases ho
  | tup => cases ho
  | agg ds => cases ho
  | lit u => have := h.inv_lit; subst this; cases v <;> first | rfl | cases ho
  | sl n ds t => rcases h.inv_sl with ⟨p, cap, rfl, _, _⟩ | ⟨b, off, cap, rfl, _, _⟩ <;> rfl
  | ref ds => obtain ⟨b, off, rfl, _⟩ := h.inv_ref; rfl
  | ptr d o => obtain ⟨b, rfl, _⟩ := h.inv_ptr; rfl
  | aptr d o => obtain ⟨b, rfl, _⟩ := h.inv_aptr; rfl
  | bsl d n e => rcases h.inv_bsl with ⟨rfl, _⟩ | ⟨b, cap, cur, _, rfl, _⟩ <;> rfl

/-- A new variable of the call's own. -/
theorem RelG.newBox {g : Gh} {st : LSt} {a : Act} {w : World} {d : Nat} {cs : List LV} {v : Value} {T : TypeId} (h : RelG P N w0 S0 g st a w) (hd : d < N) (hl : v.cells.size = cs.length) (hr : ∀ (i : Nat) (c : LV) (u : Value), cs[i]? = some c → v.cells[i]? = some u → Rep P w g c u) :
    Rel P N w0 S0 (((st.forget d).setBox d (cs.map (forget1 d))).put (some d) (.ptr d 0)) (a.put (some d) (.pointer (some ⟨w.heap.size, 0, none⟩))) (w.alloc (.cells v.cells T)) := by
  let g' : Gh := ⟨g.S, upd g.own d (some w.heap.size), upd g.row d none⟩
  have hsz : w0.heap.size ≤ w.heap.size := h.below.size
  have hws : (w.alloc (.cells v.cells T)).heap.size = w.heap.size + 1 := by simp
  have m : MonoX P d w g (w.alloc (.cells v.cells T)) g' := by
    refine ⟨fun b i u hs hc => ⟨hs, ?_⟩, fun k b hk hb => by simp only [g', upd_ne _ _ hk]; exact hb, fun q e n u hq he ho => ?_, fun k b cur e hk hb hc => ⟨cur, by rw [Below.heap_alloc w _ b (h.own k b hb).2]; exact hc, rfl⟩⟩
    · rw [World.cell?_of_block (w := w) (a := ⟨b, i, none⟩) (Below.heap_alloc w _ b (h.wf b i hs))]; exact hc
    · simp only [g', upd_ne _ _ hq] at he
      rcases ho e he with ho | ⟨b, cap, cur, h1, h2, h3, h4⟩
      · exact .inl ho
      · exact .inr ⟨b, cap, cur, by simp only [g', upd_ne _ _ hq]; exact h1, h2, by rw [Below.heap_alloc w _ b (h.own q b h1).2]; exact h3, h4⟩
  have hB : BoxAt P (w.alloc (.cells v.cells T)) g' d (cs.map (forget1 d)) := by
    refine ⟨w.heap.size, v.cells, T, upd_eq _ _ _, heap_alloc_new w _, by simpa using hl, fun i c u hc hu => ?_, fun i hs => ?_⟩
    · obtain ⟨c', hc', rfl⟩ := map_get hc
      exact (hr i c' u hc' hu).forgetX1 m
    · have := h.wf _ _ hs; omega
  refine ⟨g', RelG.put (h.change (st' := (st.forget d).setBox d (cs.map (forget1 d))) m ⟨rfl, rfl, rfl, by omega, fun k hk _ => Below.heap_alloc w _ k (by omega)⟩ (fun _ _ _ _ => Iff.rfl) (fun b i hs => by have := h.wf b i hs; omega) ?_ ?_ ?_ rfl ?_ ?_ (by show upd g.row d none = upd st.row d none; rw [h.row]) ?_ ?_ ?_) (fun e he => by cases he; exact hd) (.ptr _ _ _ _ (upd_eq _ _ _))⟩
  · intro k b hk
    simp only [g', upd] at hk
    split at hk
    · cases hk; exact ⟨.inl hsz, by omega⟩
    · have := h.own k b hk; exact ⟨this.1, by omega⟩
  · intro k k' b hk hk'
    simp only [g', upd] at hk hk'
    split at hk <;> split at hk'
    · omega
    · cases hk; have := (h.own k' _ hk').2; omega
    · cases hk'; have := (h.own k _ hk).2; omega
    · exact h.inj k k' b hk hk'
  · intro k b hk hb hn
    exact ⟨Below.heap_alloc w _ b (h.own k b hb).2, hn⟩
  · intro k cs' hk hb
    simpa only [LSt.setBox, upd_ne _ _ hk] using hb
  · intro cs' hb
    simp only [LSt.setBox, upd_eq] at hb
    cases hb
    exact ⟨hB, upd_eq _ _ _⟩
  · intro k hk
    exact upd_ne _ _ hk
  · intro k cs' hk hb
    simpa only [LSt.setBox, LSt.forget, upd_ne _ _ hk] using hb
  · intro cs' hb
    simp [LSt.setBox, LSt.forget, upd] at hb
/-- A store into a variable of the call's own. -/
theorem RelG.storeBox {g : Gh} {st : LSt} {a : Act} {w : World} {d o : Nat} {cs xs : List LV} {vs : List Value} {b : Nat} {vals : Array Value} {T : TypeId} (h : RelG P N w0 S0 g st a w) (hbox : st.box d = some cs) (hown : g.own d = some b) (hh : w.heap[b]? = some (.cells vals T (0, 0)))
    (hl : vs.length = xs.length) (hle : o + xs.length ≤ cs.length) (hr : ∀ (i : Nat) (c : LV) (u : Value), xs[i]? = some c → vs[i]? = some u → Rep P w g c u) :
    RelG P N w0 S0 g (st.setBox d (cs.take o ++ xs ++ cs.drop (o + xs.length))) a (w.setRow b (vals.toList.take o ++ vs ++ vals.toList.drop (o + vs.length)).toArray) := by
  obtain ⟨b', vals', T', h1, h2, h3, h4, h5⟩ := h.box d cs hbox
  rw [hown] at h1; cases h1
  rw [hh] at h2; cases h2
  have hrd : g.row d = none := by rw [h.row]; exact h.dis d cs hbox
  have m : Mono P w g (w.setRow b (vals.toList.take o ++ vs ++ vals.toList.drop (o + vs.length)).toArray) g := by
    refine ⟨fun b' i u hs hc => ⟨hs, ?_⟩, fun _ _ h => h, fun q e n u hq ho => ?_, fun k b' cur e hk hc => ?_⟩
    · rw [cell_setRow_other _ _ _ _ (fun e => h5 i (by simpa [← e] using hs))]; exact hc
    · rcases ho e hq with ho | ⟨b', cap, cur, k1, k2, k3, k4⟩
      · exact .inl ho
      · have hne : b' ≠ b := by
          rintro rfl
          have := h.inj q d b' k1 hown
          subst this
          rw [hrd] at hq; cases hq
        exact .inr ⟨b', cap, cur, k1, k2, by rw [setRow_other _ _ _ _ hne]; exact k3, k4⟩
    · by_cases hbb : b' = b
      · subst hbb
        rw [hh] at hc
        cases hc
        refine ⟨_, setRow_heap _ _ _ _ _ _ hh, ?_⟩
        have h3' : vals.toList.length = cs.length := by simpa using h3
        simp only [List.size_toArray, List.length_append, List.length_take, List.length_drop, Array.length_toList] at *; omega
      · exact ⟨cur, by rw [setRow_other _ _ _ _ hbb]; exact hc, rfl⟩
  have hb0 := (h.own d b hown).1
  refine ⟨h.defers, h.size, fun k => (h.env k).mono m, (h.below.trans ⟨rfl, rfl, rfl, by simp, fun k hk hH => setRow_other _ _ _ _ (fun e => hb0.elim (by omega) (fun hx => hH (e ▸ hx)))⟩), h.s0, fun b' i hs => by simpa using h.wf b' i hs, fun k b' hk => by simpa using h.own k b' hk, h.inj, fun k cs' hk => ?_, h.row, fun k cs' hk => ?_, fun k cs' hk => ?_, fun k cs' hk => ?_, h.ex, fun b i v hs hc => m.cell b i v (h.keep b i v hs hc).1 (h.keep b i v hs hc).2⟩
  · by_cases hkd : k = d
    · subst hkd
      simp only [LSt.setBox, upd_eq] at hk
      cases hk
      have hsz : vals.toList.length = cs.length := by simpa using h3
      refine ⟨b, _, T, hown, setRow_heap _ _ _ _ _ _ hh, ?_, fun i c u hc hu => ?_, h5⟩
      · simp only [List.size_toArray, List.length_append, List.length_take, List.length_drop]; omega
      · rw [List.getElem?_toArray] at hu
        have ht : (vals.toList.take o).length = (cs.take o).length := by simp [h3]
        have hto : (cs.take o).length = o := by rw [List.length_take]; omega
        refine Rep.mono ?_ m
        by_cases i1 : i < o
        · rw [List.append_assoc, List.getElem?_append_left (by omega), List.getElem?_take_of_lt i1] at hc
          rw [List.append_assoc, List.getElem?_append_left (by omega), List.getElem?_take_of_lt i1] at hu
          exact h4 i c u hc (by rw [← Array.getElem?_toList]; exact hu)
        · by_cases i2 : i < o + xs.length
          · rw [List.append_assoc, List.getElem?_append_right (by omega), List.getElem?_append_left (by omega)] at hc
            rw [List.append_assoc, List.getElem?_append_right (by omega), List.getElem?_append_left (by omega)] at hu
            rw [hto] at hc
            rw [ht, hto] at hu
            exact hr (i - o) c u hc hu
          · rw [List.append_assoc, List.getElem?_append_right (by omega), List.getElem?_append_right (by omega), List.getElem?_drop] at hc
            rw [List.append_assoc, List.getElem?_append_right (by omega), List.getElem?_append_right (by omega), List.getElem?_drop] at hu
            rw [hto] at hc
            rw [ht, hto, hl] at hu
            rw [show o + xs.length + (i - o - xs.length) = i by omega] at hc hu
            exact h4 i c u hc (by rw [← Array.getElem?_toList]; exact hu)
    · simp only [LSt.setBox, upd_ne _ _ hkd] at hk
      refine (h.box k cs' hk).mono m (fun b' hb' => ?_) (fun _ _ _ h => h)
      exact setRow_other _ _ _ _ (fun e => hkd (by subst e; exact h.inj k d _ hb' hown))
  · by_cases hkd : k = d
    · subst hkd; exact h.dis k cs hbox
    · simp only [LSt.setBox, upd_ne _ _ hkd] at hk; exact h.dis k cs' hk
  · have hkd : k ≠ d := by
      rintro rfl
      have := (h.dia k cs' hk).2
      rw [hbox] at this; cases this
    refine (h.arr k cs' hk).mono m (fun b' hb' => ?_) (fun _ _ _ h => h)
    exact setRow_other _ _ _ _ (fun e => hkd (by subst e; exact h.inj k d _ hb' hown))
  · have hkd : k ≠ d := by
      rintro rfl
      have := (h.dia k cs' hk).2
      rw [hbox] at this; cases this
    have := h.dia k cs' hk
    exact ⟨this.1, by simp only [LSt.setBox, upd_ne _ _ hkd]; exact this.2⟩
/-- A store into an array of the call's own. -/
theorem RelG.storeArr {g : Gh} {st : LSt} {a : Act} {w : World} {d o : Nat} {cs xs : List LV} {vs : List Value} {b : Nat} {vals : Array Value} {T : TypeId} (h : RelG P N w0 S0 g st a w) (harr : st.arr d = some cs) (hown : g.own d = some b) (hh : w.heap[b]? = some (.cells vals T (0, 0)))
    (h3 : cs.length ≤ vals.size) (h4 : ∀ (i : Nat) (c : LV) (u : Value), cs[i]? = some c → vals[i]? = some u → Rep P w g.bare c u) (h5 : ∀ i, ¬ g.S b i)
    (hl : vs.length = xs.length) (hle : o + xs.length ≤ cs.length) (hr : ∀ (i : Nat) (c : LV) (u : Value), xs[i]? = some c → vs[i]? = some u → Rep P w g.bare c u) :
    RelG P N w0 S0 g (st.setArr d (cs.take o ++ xs ++ cs.drop (o + xs.length))) a (w.setRow b (vals.toList.take o ++ vs ++ vals.toList.drop (o + vs.length)).toArray) := by
  have hrd : g.row d = none := by rw [h.row]; exact (h.dia d cs harr).1
  have hsz : (vals.toList.take o ++ vs ++ vals.toList.drop (o + vs.length)).toArray.size = vals.size := by
    simp only [List.size_toArray, List.length_append, List.length_take, List.length_drop, Array.length_toList]; omega
  have m : Mono P w g (w.setRow b (vals.toList.take o ++ vs ++ vals.toList.drop (o + vs.length)).toArray) g := by
    refine ⟨fun b' i u hs hc => ⟨hs, ?_⟩, fun _ _ h => h, fun q e n u hq ho => ?_, fun k b' cur e hk hc => ?_⟩
    · rw [cell_setRow_other _ _ _ _ (fun e => h5 i (by simpa [← e] using hs))]; exact hc
    · rcases ho e hq with ho | ⟨b', cap, cur, k1, k2, k3, k4⟩
      · exact .inl ho
      · have hne : b' ≠ b := by
          rintro rfl
          have := h.inj q d b' k1 hown
          subst this
          rw [hrd] at hq; cases hq
        exact .inr ⟨b', cap, cur, k1, k2, by rw [setRow_other _ _ _ _ hne]; exact k3, k4⟩
    · by_cases hbb : b' = b
      · subst hbb
        rw [hh] at hc
        cases hc
        exact ⟨_, setRow_heap _ _ _ _ _ _ hh, hsz⟩
      · exact ⟨cur, by rw [setRow_other _ _ _ _ hbb]; exact hc, rfl⟩
  have hb0 := (h.own d b hown).1
  refine ⟨h.defers, h.size, fun k => (h.env k).mono m, (h.below.trans ⟨rfl, rfl, rfl, by simp, fun k hk hH => setRow_other _ _ _ _ (fun e => hb0.elim (by omega) (fun hx => hH (e ▸ hx)))⟩), h.s0, fun b' i hs => by simpa using h.wf b' i hs, fun k b' hk => by simpa using h.own k b' hk, h.inj, fun k cs' hk => ?_, h.row, h.dis, fun k cs' hk => ?_, fun k cs' hk => ?_, h.ex, fun b i v hs hc => m.cell b i v (h.keep b i v hs hc).1 (h.keep b i v hs hc).2⟩
  · have hkd : k ≠ d := by
      rintro rfl
      have := (h.dia k cs harr).2
      rw [show st.box k = some cs' from hk] at this; cases this
    refine (h.box k cs' hk).mono m (fun b' hb' => ?_) (fun _ _ _ h => h)
    exact setRow_other _ _ _ _ (fun e => hkd (by subst e; exact h.inj k d _ hb' hown))
  · by_cases hkd : k = d
    · subst hkd
      simp only [LSt.setArr, upd_eq] at hk
      cases hk
      refine .inr ⟨b, _, T, hown, setRow_heap _ _ _ _ _ _ hh, ?_, fun i c u hc hu => ?_, h5⟩
      · rw [hsz]; simp only [List.length_append, List.length_take, List.length_drop]; omega
      · rw [List.getElem?_toArray] at hu
        have hto : (cs.take o).length = o := by rw [List.length_take]; omega
        have ht : (vals.toList.take o).length = o := by rw [List.length_take, Array.length_toList]; omega
        refine Rep.mono ?_ (.bare m.cell)
        by_cases i1 : i < o
        · rw [List.append_assoc, List.getElem?_append_left (by omega), List.getElem?_take_of_lt i1] at hc hu
          exact h4 i c u hc (by rw [← Array.getElem?_toList]; exact hu)
        · by_cases i2 : i < o + xs.length
          · rw [List.append_assoc, List.getElem?_append_right (by omega), List.getElem?_append_left (by omega)] at hc hu
            rw [hto] at hc
            rw [ht] at hu
            exact hr (i - o) c u hc hu
          · rw [List.append_assoc, List.getElem?_append_right (by omega), List.getElem?_append_right (by omega), List.getElem?_drop] at hc hu
            rw [hto] at hc
            rw [ht, hl] at hu
            rw [show o + xs.length + (i - o - xs.length) = i by omega] at hc hu
            exact h4 i c u hc (by rw [← Array.getElem?_toList]; exact hu)
    · simp only [LSt.setArr, upd_ne _ _ hkd] at hk
      refine (h.arr k cs' hk).mono m (fun b' hb' => ?_) (fun _ _ _ h => h)
      exact setRow_other _ _ _ _ (fun e => hkd (by subst e; exact h.inj k d _ hb' hown))
  · by_cases hkd : k = d
    · subst hkd; exact h.dia k cs harr
    · simp only [LSt.setArr, upd_ne _ _ hkd] at hk; exact h.dia k cs' hk
/-- One block more. -/
def Grew (w w' : World) (o : Obj) : Prop := w'.os = w.os ∧ w'.tape = w.tape ∧ w'.output = w.output ∧ w'.heap = w.heap.push o
/-- The ways of an append at a row of the call's own. -/
def Appended (P : Program) (e : TypeId) (k n m : Nat) (v : Value) (news : List Value) (w : World) (v' : Value) (w' : World) : Prop :=
  (v' = v ∧ w' = w ∧ m = 0) ∨
  (∃ b cap cur, v = .slice (some ⟨b, 0, none⟩) n cap ∧ w.heap[b]? = some (.cells cur e (0, 0)) ∧ n + m ≤ cap ∧ v' = .slice (some ⟨b, 0, none⟩) (n + m) cap ∧ w' = w.setRow b (cur.toList.take (n * k) ++ news ++ cur.toList.drop (n * k + news.length)).toArray) ∨
  (∃ cap olds rest, v' = .slice (some ⟨w.heap.size, 0, none⟩) (n + m) cap ∧ n + m ≤ cap ∧ cap ≤ maxLen ∧ olds.length = n * k ∧ (olds ++ news ++ rest).length = cap * k ∧ Grew w w' (.cells (olds ++ news ++ rest).toArray e) ∧
    (v = .slice none 0 0 ∨ ∃ b c cur, v = .slice (some ⟨b, 0, none⟩) n c ∧ w.heap[b]? = some (.cells cur e (0, 0)) ∧ olds = cur.toList.take (n * k)))
theorem append_run {g : Gh} {w : World} {t e ty : TypeId} {i : TypeInfo} {z v : Value} {q n m : Nat} {src : Option Addr} {c : Nat} {news : List Value} (ht : P.underlying t = some (.slice e)) (hi : P.info? e = some i) (hz : i.zero = some z) (hzs : z.cells.size = i.size)
    (hk : 0 < i.size) (hv : OwnAt P w g q e n v) (hl : news.length = m * i.size) (hnews : ∀ (j : Nat) u, news[j]? = some u → ∃ a, src = some a ∧ w.cell? (a.add j) = some u) (h1 : ∀ u ∈ news, u.oneCell' = true) (h63 : n + m ≤ maxLen) (hby : (n + m) * i.bytes ≤ 140737488355328) :
    ∃ v' w', (Builtin.append_ #[t, t] ty #[v, .slice src m c]).run P w = .ok v' w' ∧ Appended P e i.size n m v news w v' w' ∧ (m = 0 → v' = v) := by
  have hsz : sizeL P e = i.size := by simp [sizeL, hi]
  have hle : n + m ≤ 9223372036854775807 := by unfold maxLen at h63; omega
  by_cases hm : m = 0
  · subst hm
    refine ⟨v, w, ?_, .inl ⟨rfl, rfl, rfl⟩, fun _ => rfl⟩
    have hf : (Builtin.firstCells i.size 0 (.slice src 0 c)).run P w = .ok #[] w := by
      cases src <;> simp [Builtin.firstCells, loadCells, loadCellsFrom]
    rcases hv with ⟨rfl, rfl⟩ | ⟨b, cap, cur, h2, rfl, h3, h4, h5, h6, h7⟩
    · simp [Builtin.append_, run_underlying ht, Go.sizeOf, typeInfo, hi, Builtin.lenOf, hf]
    · simp [Builtin.append_, run_underlying ht, Go.sizeOf, typeInfo, hi, Builtin.lenOf, hf, h4, storeCells]
  · have hpos : 0 < news.length := by rw [hl]; exact Nat.mul_pos (by omega) hk
    obtain ⟨a, rfl, _⟩ := hnews 0 news[0] (List.getElem?_eq_getElem hpos)
    have hn' : ∀ (j : Nat) u, news[j]? = some u → w.cell? (a.add j) = some u := fun j u hu => by
      obtain ⟨a', ha', h⟩ := hnews j u hu; cases ha'; exact h
    rcases hv with ⟨rfl, rfl⟩ | ⟨b, cap, cur, h2, rfl, h3, h4, h5, h6, h7⟩
    · rw [Nat.zero_add] at *
      have hr := run_append_nil (P := P) w t ty e i z ht hi hz a m c news hl hn' (by omega) (by omega) (by omega)
      refine ⟨_, _, hr, .inr (.inr ⟨grownCap w m 0 e, [], (Builtin.zeroCells z.cells (grownCap w m 0 e - m)).toList, by rw [Nat.zero_add], by rw [Nat.zero_add]; exact grownCap_ge _ _ _ _, grownCap_le_maxLen _ _ _ _ h63, by simp, ?_, ?_, .inl rfl⟩), fun h => absurd h hm⟩
      · have := grownCap_ge w m 0 e
        simp only [List.nil_append, List.length_append, hl, Array.length_toList, size_zeroCells, hzs, ← Nat.add_mul]
        congr 1; omega
      · refine ⟨rfl, rfl, rfl, ?_⟩
        show w.heap.push _ = _
        congr 2
        apply Array.ext'
        simp
    · rw [hsz] at h6 h7
      by_cases hroom : n + m ≤ cap
      · have hfit : n * i.size + news.length ≤ cur.size := by rw [hl, h6, ← Nat.add_mul]; exact Nat.mul_le_mul_right _ hroom
        have hr := run_append_room (P := P) w t ty e i ht hi b n cap cur h3 a m c news hl hn' h1 hroom hfit
        exact ⟨_, _, hr, .inr (.inl ⟨b, cap, cur, rfl, h3, hroom, rfl, rfl⟩), fun h => absurd h hm⟩
      · have hlo : (cur.toList.take (n * i.size)).length = n * i.size := by
          rw [List.length_take, Array.length_toList, h6]; exact Nat.min_eq_left (Nat.mul_le_mul_right _ h4)
        have holds : ∀ (j : Nat) u, (cur.toList.take (n * i.size))[j]? = some u → w.cell? ((⟨b, 0, none⟩ : Addr).add j) = some u := fun j u hu => by
          rw [Addr.add_lit, Nat.zero_add, cell_of_heap h3]
          rw [List.getElem?_take] at hu
          split at hu
          · simpa using hu
          · cases hu
        have hr := run_append_grow (P := P) w t ty e i z ht hi hz ⟨b, 0, none⟩ n cap _ hlo holds a m c news hl hn' (by omega) (by omega) (growslice_fits (by omega) hby)
        refine ⟨_, _, hr, .inr (.inr ⟨grownCap w (n + m) cap e, cur.toList.take (n * i.size), (Builtin.zeroCells z.cells (grownCap w (n + m) cap e - (n + m))).toList, rfl, grownCap_ge _ _ _ _, grownCap_le_maxLen _ _ _ _ h63, hlo, ?_, ?_, .inr ⟨b, cap, cur, rfl, h3, rfl⟩⟩), fun h => absurd h hm⟩
        · have := grownCap_ge w (n + m) cap e
          simp only [List.length_append, hl, hlo, Array.length_toList, size_zeroCells, hzs, ← Nat.add_mul]
          congr 1; omega
        · refine ⟨rfl, rfl, rfl, ?_⟩
          show w.heap.push _ = _
          congr 2
          apply Array.ext'
          simp
end
end Go.Proofs.Ytmchdjpgceiloaa
