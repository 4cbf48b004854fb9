/-
  APPENDS AND SLICES MADE, by what the slots stand for; a region in the order of the text.
-/
import Derived.Test.YtmchdjpgceiloaaL7
set_option linter.unusedSimpArgs false
set_option linter.unusedVariables false
namespace Go.Proofs.Ytmchdjpgceiloaa
open Go.RowKit

section
variable {P : Program} {N : Nat} {w0 : World} {S0 : Ent}
/-- The row that an own slice shows. -/
theorem own_vals {w : World} {g : Gh} {n k cap b : Nat} {cs : List LV} {cur : Array Value} {e : TypeId} (h : Rep P w g (.sl n cs .no) (.slice (some ⟨b, 0, none⟩) n cap)) (hh : w.heap[b]? = some (.cells cur e (0, 0))) (hcs : cs.length = n * k) (hle : n * k ≤ cur.size) :
    Vals P w g cs (cur.toList.take (n * k)) := by
  have hl2 : (cur.toList.take (n * k)).length = n * k := by rw [List.length_take, Array.length_toList]; omega
  refine ⟨by rw [hl2]; exact hcs, fun i c u hc hu => ?_⟩
  rcases h.inv_no with ⟨p, cap', hv, rfl, rfl⟩ | ⟨b', off', cap', hv, _, val, h1, h2⟩
  · cases hc
  · cases hv
    have hi := (List.getElem?_eq_some_iff.1 hc).1
    have h3 := (h1 i hi).2
    rw [Nat.zero_add, cell_of_heap hh] at h3
    rw [List.getElem?_take_of_lt (by omega), Array.getElem?_toList, h3] at hu
    cases hu
    exact h2 i c hc
/-- Behind an append: the row id with n + m elements. -/
theorem RelG.append {g : Gh} {st : LSt} {a : Act} {w w' : World} {id d n m : Nat} {e : TypeId} {v v' : Value} {cs ds : List LV} {news : List Value} (h : RelG P N w0 S0 g st a w) (hd : d < N) (hk : 0 < sizeL P e) (hv : Rep P w g (.sl n cs .no) v) (ho : OwnAt P w g id e n v)
    (hcs : cs.length = n * sizeL P e) (hds : news.length = m * sizeL P e) (hn : Vals P w g ds news) (hA : Appended P e (sizeL P e) n m v news w v' w') :
    Rel P N w0 S0 (((st.forget id).setRow id e (n + m)).put (some d) (.sl (n + m) (cs ++ ds) (.row id))) (a.put (some d) v') w' := by
  have hsz : w0.heap.size ≤ w.heap.size := h.below.size
  have hrow : ∀ r, upd g.row id r = upd st.row id r := fun r => by rw [h.row]
  have fin : ∀ (g' : Gh), MonoX P id w g w' g' → BelowH w0.heap.size S0.H w w' → (∀ b i, b < w0.heap.size → ¬ S0.H b → (g'.S b i ↔ g.S b i)) → (∀ b i, g'.S b i → b < w'.heap.size) → (∀ k b, g'.own k = some b → (w0.heap.size ≤ b ∨ S0.H b) ∧ b < w'.heap.size) →
      (∀ k k' b, g'.own k = some b → g'.own k' = some b → k = k') → (∀ k b, k ≠ id → g.own k = some b → (∀ i, ¬ g.S b i) → w'.heap[b]? = w.heap[b]? ∧ ∀ i, ¬ g'.S b i) → g'.row = upd g.row id (some (e, n + m)) →
      Rep P w' g' (.sl (n + m) (cs ++ ds) .no) v' → OwnAt P w' g' id e (n + m) v' →
      Rel P N w0 S0 (((st.forget id).setRow id e (n + m)).put (some d) (.sl (n + m) (cs ++ ds) (.row id))) (a.put (some d) v') w' := by
    intro g' m1 hb hs hwf hown hinj hbx hr hrep hown'
    refine ⟨g', RelG.put (h.change (st' := (st.forget id).setRow id e (n + m)) m1 hb hs hwf hown hinj hbx rfl ?_ ?_ ?_ ?_ ?_ ?_) (fun _ he => by cases he; exact hd) (.row _ _ _ _ _ hrep fun e' he' => ?_)⟩
    · intro k cs' hk' hb'; exact hb'
    · intro cs' hb'
      simp [LSt.setRow, LSt.forget] at hb'
    · rw [hr, h.row]
      funext k
      simp only [LSt.setRow, LSt.forget, upd]
      split <;> rfl
    · intro k hk'
      simp only [LSt.setRow, LSt.forget, upd_ne _ _ hk']
    · intro k cs' hk' hb'
      simpa only [LSt.setRow, LSt.forget, upd_ne _ _ hk'] using hb'
    · intro cs' hb'
      simp [LSt.setRow, LSt.forget, upd] at hb'
    · rw [hr, upd_eq] at he'
      cases he'
      exact hown'
  rcases hA with ⟨hv', hw', rfl⟩ | ⟨b, cap, cur, rfl, hh, hcap, rfl, rfl⟩ | ⟨cap, olds, rest, rfl, hcap, hmax, hol, hlen, ⟨ho1, ho2, ho3, hheap⟩, hor⟩
  · -- nothing is appended
    subst hv'
    subst hw'
    have hds0 : ds = [] := List.eq_nil_of_length_eq_zero (by rw [hn.1, hds]; simp)
    subst hds0
    have hself : ∀ q e' n' u, q ≠ id → upd g.row id (some (e, n + 0)) q = some (e', n') → (∀ e'', g.row q = some (e'', n') → OwnAt P w' g q e'' n' u) → OwnAt P w' ⟨g.S, g.own, upd g.row id (some (e, n + 0))⟩ q e' n' u := by
      intro q e' n' u hq he' hx
      rw [upd_ne _ _ hq] at he'
      exact hx e' he'
    refine fin ⟨g.S, g.own, upd g.row id (some (e, n + 0))⟩ ⟨fun b i u hs hc => ⟨hs, hc⟩, fun k b _ hb => hb, hself, fun k b cur e _ _ hc => ⟨cur, hc, rfl⟩⟩ (.refl _ _ _) (fun _ _ _ _ => Iff.rfl) h.wf h.own h.inj (fun k b _ _ hn => ⟨rfl, hn⟩) rfl ?_ ?_
    · rw [List.append_nil, Nat.add_zero]; exact hv.no_of rfl
    · rw [Nat.add_zero]; exact ho
  · -- in place
    rcases ho with ⟨hx, _⟩ | ⟨b', cap', cur', hb', hv', hh', hle, hmax, hcsz, hfree⟩
    · cases hx
    cases hv'
    rw [hh] at hh'; cases hh'
    have hb0 := (h.own id b hb').1
    have hbw := (h.own id b hb').2
    have hnk : n * sizeL P e ≤ cur.size := by rw [hcsz]; exact Nat.mul_le_mul_right _ hle
    have hfit : n * sizeL P e + news.length ≤ cur.size := by rw [hds, hcsz, ← Nat.add_mul]; exact Nat.mul_le_mul_right _ hcap
    let S' : Nat → Nat → Prop := fun b1 i => g.S b1 i ∨ (b1 = b ∧ i < (n + m) * sizeL P e)
    let row := (cur.toList.take (n * sizeL P e) ++ news ++ cur.toList.drop (n * sizeL P e + news.length)).toArray
    have hlo : (cur.toList.take (n * sizeL P e)).length = n * sizeL P e := by rw [List.length_take, Array.length_toList]; omega
    have hrs : row.size = cur.size := by
      simp only [row, List.size_toArray, List.length_append, hlo, List.length_drop, Array.length_toList]; omega
    have hnew := setRow_heap w b cur row e (0, 0) hh
    have hcell : ∀ b1 i u, g.S b1 i → w.cell? ⟨b1, i, none⟩ = some u → S' b1 i ∧ (w.setRow b row).cell? ⟨b1, i, none⟩ = some u := by
      intro b1 i u hs hc
      refine ⟨.inl hs, ?_⟩
      by_cases hb1 : b1 = b
      · subst hb1
        have hi : i < n * sizeL P e := by
          rcases Nat.lt_or_ge i (n * sizeL P e) with h1 | h1
          · exact h1
          · exact absurd hs (hfree i h1)
        rw [cell_of_heap hh] at hc
        rw [cell_of_heap hnew]
        simp only [row, List.getElem?_toArray]
        rw [List.append_assoc, List.getElem?_append_left (by omega), List.getElem?_take_of_lt hi, Array.getElem?_toList]
        exact hc
      · rw [cell_setRow_other _ _ _ _ hb1]; exact hc
    refine fin ⟨S', g.own, upd g.row id (some (e, n + m))⟩ ⟨hcell, fun k b _ hb => hb, ?_, fun k b1 cur1 e1 hk1 hb1 hc1 => ⟨cur1, by rw [setRow_other _ _ _ _ (fun e => hk1 (by subst e; exact h.inj k id b1 hb1 hb'))]; exact hc1, rfl⟩⟩ ⟨rfl, rfl, rfl, by simp, fun k hk' hH => setRow_other _ _ _ _ (fun e => hb0.elim (by omega) (fun hx => hH (e ▸ hx)))⟩ ?_ ?_ ?_ h.inj ?_ rfl ?_ ?_
    · intro q e' n' u hq he' hx
      simp only [upd_ne _ _ hq] at he'
      rcases hx e' he' with hx | ⟨b1, cap1, cur1, k1, k2, k3, k4, k5, k6, k7⟩
      · exact .inl hx
      · have hne : b1 ≠ b := fun e => hq (by subst e; exact h.inj q id b1 k1 hb')
        refine .inr ⟨b1, cap1, cur1, k1, k2, by rw [setRow_other _ _ _ _ hne]; exact k3, k4, k5, k6, fun i hi hs => ?_⟩
        rcases hs with hs | ⟨hs, _⟩
        · exact k7 i hi hs
        · exact hne hs
    · intro b1 i hb1 hH
      constructor
      · rintro (hs | ⟨hs, _⟩)
        · exact hs
        · exact (hb0.elim (fun h => by omega) (fun hx => hH (hs ▸ hx)) : False).elim
      · exact fun hs => .inl hs
    · rintro b1 i (hs | ⟨hs, _⟩)
      · simpa using h.wf b1 i hs
      · simpa [hs] using hbw
    · intro k b1 hk'; simpa using h.own k b1 hk'
    · intro k b1 hk' hb1 hno
      have hne : b1 ≠ b := fun e => hk' (by subst e; exact h.inj k id b1 hb1 hb')
      refine ⟨setRow_other _ _ _ _ hne, fun i hs => ?_⟩
      rcases hs with hs | ⟨hs, _⟩
      · exact hno i hs
      · exact hne hs
    · have hvals := ((own_vals hv hh hcs hnk).append hn).mono (g' := ⟨S', g.own, upd g.row id (some (e, n + m))⟩) hcell
      refine CellsAt.rep_sl ?_ hcap
      refine hvals.cells (g := ⟨S', g.own, upd g.row id (some (e, n + m))⟩) (off := 0) fun i u hu => ?_
      have hi : i < n * sizeL P e + news.length := by
        have := (List.getElem?_eq_some_iff.1 hu).1
        rw [List.length_append, hlo] at this; exact this
      refine ⟨.inr ⟨rfl, by rw [Nat.zero_add, Nat.add_mul, ← hds]; exact hi⟩, ?_⟩
      rw [Nat.zero_add, cell_of_heap hnew]
      simp only [row, List.getElem?_toArray]
      rw [List.getElem?_append_left (by rw [List.length_append, hlo]; exact hi)]
      exact hu
    · refine .inr ⟨b, cap, row, hb', rfl, hnew, hcap, hmax, by rw [hrs]; exact hcsz, fun i hi hs => ?_⟩
      rcases hs with hs | ⟨_, hs⟩
      · exact hfree i (Nat.le_trans (Nat.mul_le_mul_right _ (Nat.le_add_right _ _)) hi) hs
      · omega
  · -- a new block
    let S' : Nat → Nat → Prop := fun b1 i => g.S b1 i ∨ (b1 = w.heap.size ∧ i < (n + m) * sizeL P e)
    have hws : w'.heap.size = w.heap.size + 1 := by rw [hheap]; simp
    have hold : ∀ b1, b1 < w.heap.size → w'.heap[b1]? = w.heap[b1]? := fun b1 hb1 => by rw [hheap, Array.getElem?_push, if_neg (by omega)]
    have hnew : w'.heap[w.heap.size]? = some (Obj.cells (olds ++ news ++ rest).toArray e) := by rw [hheap]; simp
    have hcell : ∀ b1 i u, g.S b1 i → w.cell? ⟨b1, i, none⟩ = some u → S' b1 i ∧ w'.cell? ⟨b1, i, none⟩ = some u := by
      intro b1 i u hs hc
      refine ⟨.inl hs, ?_⟩
      rw [World.cell?_of_block (w := w) (a := ⟨b1, i, none⟩) (hold b1 (h.wf b1 i hs))]; exact hc
    have hvo : Vals P w g cs olds := by
      rcases hor with rfl | ⟨b, c, cur, rfl, hh, rfl⟩
      · rcases hv.inv_no with ⟨p, cap', hv', rfl, rfl⟩ | ⟨b', off', cap', hv', _⟩
        · rw [Nat.zero_mul] at hol
          rw [List.eq_nil_of_length_eq_zero hol]
          exact ⟨rfl, fun i c u hc => by cases hc⟩
        · cases hv'
      · have : n * sizeL P e ≤ cur.size := by rw [List.length_take, Array.length_toList] at hol; omega
        exact own_vals hv hh hcs this
    refine fin ⟨S', upd g.own id (some w.heap.size), upd g.row id (some (e, n + m))⟩ ⟨hcell, fun k b hk' hb => by simp only [upd_ne _ _ hk']; exact hb, ?_, fun k b1 cur1 e1 hk1 hb1 hc1 => ⟨cur1, by rw [hold b1 (h.own k b1 hb1).2]; exact hc1, rfl⟩⟩ ⟨ho1, ho2, ho3, by omega, fun k hk' _ => hold k (by omega)⟩ ?_ ?_ ?_ ?_ ?_ rfl ?_ ?_
    · intro q e' n' u hq he' hx
      simp only [upd_ne _ _ hq] at he'
      rcases hx e' he' with hx | ⟨b1, cap1, cur1, k1, k2, k3, k4, k5, k6, k7⟩
      · exact .inl hx
      · have hb1 := (h.own q b1 k1).2
        refine .inr ⟨b1, cap1, cur1, by simp only [upd_ne _ _ hq]; exact k1, k2, by rw [hold b1 hb1]; exact k3, k4, k5, k6, fun i hi hs => ?_⟩
        rcases hs with hs | ⟨hs, _⟩
        · exact k7 i hi hs
        · omega
    · intro b1 i hb1 hH
      constructor
      · rintro (hs | ⟨hs, _⟩)
        · exact hs
        · omega
      · exact fun hs => .inl hs
    · rintro b1 i (hs | ⟨hs, _⟩)
      · have := h.wf b1 i hs; omega
      · omega
    · intro k b1 hk'
      simp only [upd] at hk'
      split at hk'
      · cases hk'; exact ⟨.inl hsz, by omega⟩
      · have := h.own k b1 hk'; exact ⟨this.1, by omega⟩
    · intro k k' b1 hk' hk''
      simp only [upd] at hk' hk''
      split at hk' <;> split at hk''
      · omega
      · cases hk'; have := (h.own k' _ hk'').2; omega
      · cases hk''; have := (h.own k _ hk').2; omega
      · exact h.inj k k' b1 hk' hk''
    · intro k b1 hk' hb1 hno
      have hlt := (h.own k b1 hb1).2
      refine ⟨hold b1 hlt, fun i hs => ?_⟩
      rcases hs with hs | ⟨hs, _⟩
      · exact hno i hs
      · omega
    · have hvals := (hvo.append hn).mono (g' := ⟨S', upd g.own id (some w.heap.size), upd g.row id (some (e, n + m))⟩) hcell
      refine CellsAt.rep_sl ?_ hcap
      refine hvals.cells (g := ⟨S', upd g.own id (some w.heap.size), upd g.row id (some (e, n + m))⟩) (off := 0) fun i u hu => ?_
      have hi : i < (n + m) * sizeL P e := by
        have := (List.getElem?_eq_some_iff.1 hu).1
        rw [List.length_append, hol, hds, ← Nat.add_mul] at this; exact this
      refine ⟨.inr ⟨rfl, by rw [Nat.zero_add]; exact hi⟩, ?_⟩
      rw [Nat.zero_add, cell_of_heap hnew, List.getElem?_toArray, List.getElem?_append_left (by rw [List.length_append, hol, hds, ← Nat.add_mul]; exact hi)]
      exact hu
    · refine .inr ⟨w.heap.size, cap, _, upd_eq _ _ _, rfl, hnew, hcap, hmax, by simpa using hlen, fun i hi hs => ?_⟩
      rcases hs with hs | ⟨_, hs⟩
      · have := h.wf _ _ hs; omega
      · omega
/-- The row that a private slice shows. -/
theorem arr_vals {w : World} {g : Gh} {d n k b cap : Nat} {cs : List LV} {cur : Array Value} {e : TypeId} (h : ArrAt P w g d cs) (hb : g.own d = some b) (hh : w.heap[b]? = some (.cells cur e (0, 0))) (hcs : cs.length = n * k) (hle : n ≤ cap) (hsz : cur.size = cap * k) :
    Vals P w g cs (cur.toList.take (n * k)) := by
  have hnk : n * k ≤ cur.size := by rw [hsz]; exact Nat.mul_le_mul_right _ hle
  have hl2 : (cur.toList.take (n*k)).length = n*k := by rw [List.length_take, Array.length_toList]; omega
  refine ⟨by rw [hl2]; exact hcs, fun i c u hc hu => ?_⟩
  rcases h with rfl | ⟨b', vals, T, h1, h2, h3, h4, h5⟩
  · cases hc
  · rw [hb] at h1; cases h1
    rw [hh] at h2; cases h2
    have hi := (List.getElem?_eq_some_iff.1 hc).1
    rw [List.getElem?_take_of_lt (by omega), Array.getElem?_toList] at hu
    exact h4 i c u hc hu
/-- Behind an append to a private slice: the array id with n + m elements. -/
theorem RelG.appendB {g : Gh} {st : LSt} {a : Act} {w w' : World} {id d n m : Nat} {e : TypeId} {v v' : Value} {cs ds : List LV} {news : List Value} (h : RelG P N w0 S0 g st a w) (hd : d < N) (hk : 0 < sizeL P e) (ho : BslAt P w g id n e v) (hfree : ∀ b, g.own id = some b → v ≠ .slice none 0 0 → ∀ i, ¬ g.S b i)
    (hcs : cs.length = n * sizeL P e) (ha : v = .slice none 0 0 → cs = []) (hav : v ≠ .slice none 0 0 → ArrAt P w g id cs) (hds : news.length = m * sizeL P e) (hn : Vals P w g ds news) (hA : Appended P e (sizeL P e) n m v news w v' w') (hp : v' = v ∨ 0 < n + m) :
    Rel P N w0 S0 (((st.forget id).setArr id (cs ++ ds)).put (some d) (.bsl id (n + m) e)) (a.put (some d) v') w' := by
  have hsz : w0.heap.size ≤ w.heap.size := h.below.size
  have fin : ∀ (g' : Gh), MonoX P id w g w' g' → BelowH w0.heap.size S0.H w w' → (∀ b i, b < w0.heap.size → ¬ S0.H b → (g'.S b i ↔ g.S b i)) → (∀ b i, g'.S b i → b < w'.heap.size) → (∀ k b, g'.own k = some b → (w0.heap.size ≤ b ∨ S0.H b) ∧ b < w'.heap.size) →
      (∀ k k' b, g'.own k = some b → g'.own k' = some b → k = k') → (∀ k b, k ≠ id → g.own k = some b → (∀ i, ¬ g.S b i) → w'.heap[b]? = w.heap[b]? ∧ ∀ i, ¬ g'.S b i) → g'.row = upd g.row id none →
      ArrAt P w' g' id (cs ++ ds) → BslAt P w' g' id (n + m) e v' →
      Rel P N w0 S0 (((st.forget id).setArr id (cs ++ ds)).put (some d) (.bsl id (n + m) e)) (a.put (some d) v') w' := by
    intro g' m1 hb hs hwf hown hinj hbx hr harr hbsl
    refine ⟨g', RelG.put (h.change (st' := (st.forget id).setArr id (cs ++ ds)) m1 hb hs hwf hown hinj hbx rfl ?_ ?_ ?_ ?_ ?_ ?_) (fun _ he => by cases he; exact hd) (.bsl _ _ _ _ _ hbsl)⟩
    · intro k cs' hk' hb'; exact hb'
    · intro cs' hb'
      simp [LSt.setArr, LSt.forget] at hb'
    · rw [hr, h.row]; rfl
    · intro k hk'
      simp only [LSt.setArr, LSt.forget, upd_ne _ _ hk']
    · intro k cs' hk' hb'
      simpa only [LSt.setArr, LSt.forget, upd_ne _ _ hk'] using hb'
    · intro cs' hb'
      simp only [LSt.setArr, upd_eq] at hb'
      cases hb'
      exact ⟨harr, by simp [LSt.setArr, LSt.forget, upd], by simp [LSt.setArr, LSt.forget]⟩
  have hself : ∀ q e' n' u, q ≠ id → upd g.row id none q = some (e', n') → (∀ e'', g.row q = some (e'', n') → OwnAt P w g q e'' n' u) → g.row q = some (e', n') ∧ OwnAt P w g q e' n' u := by
    intro q e' n' u hq he' hx
    rw [upd_ne _ _ hq] at he'
    exact ⟨he', hx e' he'⟩
  rcases hA with ⟨hv', hw', rfl⟩ | ⟨b, cap, cur, rfl, hh, hcap, rfl, rfl⟩ | ⟨cap, olds, rest, rfl, hcap, hmax, hol, hlen, ⟨ho1, ho2, ho3, hheap⟩, hor⟩
  · subst hv'
    subst hw'
    have hds0 : ds = [] := List.eq_nil_of_length_eq_zero (by rw [hn.1, hds]; simp)
    subst hds0
    refine fin ⟨g.S, g.own, upd g.row id none⟩ ⟨fun b i u hs hc => ⟨hs, hc⟩, fun k b _ hb => hb, fun q e' n' u hq he hx => (hself q e' n' u hq he hx).2, fun k b cur e _ _ hc => ⟨cur, hc, rfl⟩⟩ (.refl _ _ _) (fun _ _ _ _ => Iff.rfl) h.wf h.own h.inj (fun k b _ _ hn => ⟨rfl, hn⟩) rfl ?_ ?_
    · rw [List.append_nil]
      by_cases hv : v' = .slice none 0 0
      · exact .inl (ha hv)
      · exact hav hv
    · rw [Nat.add_zero]; exact ho
  · rcases ho with ⟨hx, _⟩ | ⟨b', cap', cur', hb', hv', hh', hle, hmax, hcsz, hn0⟩
    · cases hx
    cases hv'
    rw [hh] at hh'; cases hh'
    have hb0 := (h.own id b hb').1
    have hbw := (h.own id b hb').2
    have hns := hfree b hb' (by simp)
    have hnk : n * sizeL P e ≤ cur.size := by rw [hcsz]; exact Nat.mul_le_mul_right _ hle
    have hfit : n * sizeL P e + news.length ≤ cur.size := by rw [hds, hcsz, ← Nat.add_mul]; exact Nat.mul_le_mul_right _ hcap
    have hlo : (cur.toList.take (n * sizeL P e)).length = n * sizeL P e := by rw [List.length_take, Array.length_toList]; omega
    have hrs : (cur.toList.take (n * sizeL P e) ++ news ++ cur.toList.drop (n * sizeL P e + news.length)).toArray.size = cur.size := by
      simp only [List.size_toArray, List.length_append, hlo, List.length_drop, Array.length_toList]; omega
    have hnew := setRow_heap w b cur (cur.toList.take (n * sizeL P e) ++ news ++ cur.toList.drop (n * sizeL P e + news.length)).toArray e (0, 0) hh
    have hcell : ∀ b1 i u, g.S b1 i → w.cell? ⟨b1, i, none⟩ = some u → g.S b1 i ∧ (w.setRow b (cur.toList.take (n * sizeL P e) ++ news ++ cur.toList.drop (n * sizeL P e + news.length)).toArray).cell? ⟨b1, i, none⟩ = some u := by
      intro b1 i u hs hc
      refine ⟨hs, ?_⟩
      rw [cell_setRow_other _ _ _ _ (fun e => hns i (by simpa [← e] using hs))]; exact hc
    refine fin ⟨g.S, g.own, upd g.row id none⟩ ⟨hcell, fun k b _ hb => hb, ?_, fun k b1 cur1 e1 hk1 hb1 hc1 => ⟨cur1, by rw [setRow_other _ _ _ _ (fun e => hk1 (by subst e; exact h.inj k id b1 hb1 hb'))]; exact hc1, rfl⟩⟩ ⟨rfl, rfl, rfl, by simp, fun k hk' hH => setRow_other _ _ _ _ (fun e => hb0.elim (by omega) (fun hx => hH (e ▸ hx)))⟩ (fun _ _ _ _ => Iff.rfl) (fun b1 i hs => by simpa using h.wf b1 i hs) (fun k b1 hk' => by simpa using h.own k b1 hk') h.inj ?_ rfl ?_ ?_
    · intro q e' n' u hq he' hx
      rcases (hself q e' n' u hq he' hx).2 with hx | ⟨b1, cap1, cur1, k1, k2, k3, k4⟩
      · exact .inl hx
      · have hne : b1 ≠ b := fun e => hq (by subst e; exact h.inj q id b1 k1 hb')
        exact .inr ⟨b1, cap1, cur1, k1, k2, by rw [setRow_other _ _ _ _ hne]; exact k3, k4⟩
    · intro k b1 hk' hb1 hno
      have hne : b1 ≠ b := fun e => hk' (by subst e; exact h.inj k id b1 hb1 hb')
      exact ⟨setRow_other _ _ _ _ hne, hno⟩
    · have hvals := ((arr_vals (hav (by simp)) hb' hh hcs hle hcsz).append hn).mono (g' := ⟨g.S, g.own, upd g.row id none⟩) hcell
      refine .inr ⟨b, _, e, hb', hnew, ?_, fun i c u hc hu => ?_, hns⟩
      · rw [hrs, List.length_append, hcs, hn.1]; exact hfit
      · have hi : i < n * sizeL P e + news.length := by
          have := (List.getElem?_eq_some_iff.1 hc).1
          rw [List.length_append, hcs, hn.1] at this; exact this
        refine hvals.2 i c u hc ?_
        rw [List.getElem?_toArray, List.getElem?_append_left (by rw [List.length_append, hlo]; exact hi)] at hu
        exact hu
    · exact .inr ⟨b, cap, _, hb', rfl, hnew, hcap, hmax, by rw [hrs]; exact hcsz, by omega⟩
  · have hws : w'.heap.size = w.heap.size + 1 := by rw [hheap]; simp
    have hold : ∀ b1, b1 < w.heap.size → w'.heap[b1]? = w.heap[b1]? := fun b1 hb1 => by rw [hheap, Array.getElem?_push, if_neg (by omega)]
    have hnew : w'.heap[w.heap.size]? = some (Obj.cells (olds ++ news ++ rest).toArray e) := by rw [hheap]; simp
    have hcell : ∀ b1 i u, g.S b1 i → w.cell? ⟨b1, i, none⟩ = some u → g.S b1 i ∧ w'.cell? ⟨b1, i, none⟩ = some u := by
      intro b1 i u hs hc
      refine ⟨hs, ?_⟩
      rw [World.cell?_of_block (w := w) (a := ⟨b1, i, none⟩) (hold b1 (h.wf b1 i hs))]; exact hc
    have hvo : Vals P w g cs olds := by
      rcases hor with rfl | ⟨b, c, cur, rfl, hh, rfl⟩
      · have := ha rfl
        subst this
        rw [← hcs] at hol
        rw [List.eq_nil_of_length_eq_zero hol]
        exact ⟨rfl, fun i c u hc => by cases hc⟩
      · rcases ho with ⟨hx, _⟩ | ⟨b', cap', cur', hb', hv', hh', hle, _, hcsz, _⟩
        · cases hx
        cases hv'
        rw [hh] at hh'; cases hh'
        exact arr_vals (hav (by simp)) hb' hh hcs hle hcsz
    refine fin ⟨g.S, upd g.own id (some w.heap.size), upd g.row id none⟩ ⟨hcell, fun k b hk' hb => by simp only [upd_ne _ _ hk']; exact hb, ?_, fun k b1 cur1 e1 hk1 hb1 hc1 => ⟨cur1, by rw [hold b1 (h.own k b1 hb1).2]; exact hc1, rfl⟩⟩ ⟨ho1, ho2, ho3, by omega, fun k hk' _ => hold k (by omega)⟩ (fun _ _ _ _ => Iff.rfl) (fun b1 i hs => by have := h.wf b1 i hs; omega) ?_ ?_ ?_ rfl ?_ ?_
    · intro q e' n' u hq he' hx
      rcases (hself q e' n' u hq he' hx).2 with hx | ⟨b1, cap1, cur1, k1, k2, k3, k4⟩
      · exact .inl hx
      · have hb1 := (h.own q b1 k1).2
        exact .inr ⟨b1, cap1, cur1, by simp only [upd_ne _ _ hq]; exact k1, k2, by rw [hold b1 hb1]; exact k3, k4⟩
    · intro k b1 hk'
      simp only [upd] at hk'
      split at hk'
      · cases hk'; exact ⟨.inl hsz, by omega⟩
      · have := h.own k b1 hk'; exact ⟨this.1, by omega⟩
    · intro k k' b1 hk' hk''
      simp only [upd] at hk' hk''
      split at hk' <;> split at hk''
      · omega
      · cases hk'; have := (h.own k' _ hk'').2; omega
      · cases hk''; have := (h.own k _ hk').2; omega
      · exact h.inj k k' b1 hk' hk''
    · intro k b1 hk' hb1 hno
      exact ⟨hold b1 (h.own k b1 hb1).2, hno⟩
    · have hvals := (hvo.append hn).mono (g' := ⟨g.S, upd g.own id (some w.heap.size), upd g.row id none⟩) hcell
      refine .inr ⟨w.heap.size, _, e, upd_eq _ _ _, hnew, ?_, fun i c u hc hu => ?_, fun i hs => by have := h.wf _ _ hs; omega⟩
      · simp only [List.size_toArray, List.length_append, hvals.1]; omega
      · have hi : i < (olds ++ news).length := by rw [← hvals.1]; exact (List.getElem?_eq_some_iff.1 hc).1
        refine hvals.2 i c u hc ?_
        rw [List.getElem?_toArray, List.getElem?_append_left hi] at hu
        exact hu
    · refine .inr ⟨w.heap.size, cap, _, upd_eq _ _ _, rfl, hnew, hcap, hmax, by simpa using hlen, ?_⟩
      rcases hp with hp | hp
      · rcases ho with ⟨hx, _⟩ | ⟨b', cap', cur', hb', hv', hh', hle, _, hcsz, hpos⟩
        · rw [hx] at hp; cases hp
        · omega
      · exact hp
/-- A new private slice. -/
theorem RelG.newArr {g : Gh} {st : LSt} {a : Act} {w : World} {d n : Nat} {e : TypeId} {cs : List LV} {vs : List Value} (h : RelG P N w0 S0 g st a w) (hd : d < N) (hk : 0 < sizeL P e) (hvl : vs.length = n * sizeL P e) (hv : Vals P w g cs vs) (hmax : n ≤ maxLen) (hpos : 0 < n) :
    Rel P N w0 S0 (((st.forget d).setArr d cs).put (some d) (.bsl d n e)) (a.put (some d) (.slice (some ⟨w.heap.size, 0, none⟩) n n)) (w.alloc (.cells vs.toArray e)) := by
  have := h.appendB (id := d) (d := d) (n := 0) (m := n) (e := e) (v := .slice none 0 0) (v' := .slice (some ⟨w.heap.size, 0, none⟩) n n) (w' := w.alloc (.cells vs.toArray e)) (cs := []) (ds := cs) (news := vs) hd hk (.inl ⟨rfl, rfl⟩) (fun _ _ h => absurd rfl h) (by simp) (fun _ => rfl) (fun h => absurd rfl h) hvl hv
    (.inr (.inr ⟨n, [], [], by rw [Nat.zero_add], by omega, hmax, by simp, by simpa using hvl, ⟨rfl, rfl, rfl, by show w.heap.push _ = _; simp⟩, .inl rfl⟩)) (.inr (by omega))
  rw [Nat.zero_add, List.nil_append] at this
  exact this
/-- A new row of the call's own. -/
theorem RelG.newRow {g : Gh} {st : LSt} {a : Act} {w : World} {d n : Nat} {e : TypeId} {cs : List LV} {vs : List Value} (h : RelG P N w0 S0 g st a w) (hd : d < N) (hk : 0 < sizeL P e) (hvl : vs.length = n * sizeL P e) (hv : Vals P w g cs vs) (hmax : n ≤ maxLen) :
    Rel P N w0 S0 (((st.forget d).setRow d e n).put (some d) (.sl n cs (.row d))) (a.put (some d) (.slice (some ⟨w.heap.size, 0, none⟩) n n)) (w.alloc (.cells vs.toArray e)) := by
  have := h.append (id := d) (d := d) (n := 0) (m := n) (e := e) (v := .slice none 0 0) (v' := .slice (some ⟨w.heap.size, 0, none⟩) n n) (w' := w.alloc (.cells vs.toArray e)) (cs := []) (ds := cs) (news := vs) hd hk (.empty _ _ _) (.inl ⟨rfl, rfl⟩) (by simp) hvl hv
    (.inr (.inr ⟨n, [], [], by rw [Nat.zero_add], by omega, hmax, by simp, by simpa using hvl, ⟨rfl, rfl, rfl, by show w.heap.push _ = _; simp⟩, .inl rfl⟩))
  rw [Nat.zero_add, List.nil_append] at this
  exact this
end
end Go.Proofs.Ytmchdjpgceiloaa
