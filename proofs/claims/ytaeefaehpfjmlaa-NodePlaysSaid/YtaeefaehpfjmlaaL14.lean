import Derived.Test.YtaeefaehpfjmlaaL12
import Derived.Shelf.SlSortCmp.Whole1
set_option linter.unusedSimpArgs false
set_option linter.unusedVariables false
namespace Go.Proofs.Ytaeefaehpfjmlaa
open Go.RowKit Go.Sort Go.Proofs
section
variable {α : Type} [Inhabited α] {enc : α → List Value} {k : Nat}
variable {P : Program} {N : Nat} {w0 : World} {S0 : Ent}
def SortsAt (P : Program) (F gf : FuncId) (enc : α → List Value) (k : Nat) (cf : α → α → Int) : Prop :=
  ∀ (blk cap : Nat) (d : Array α) (w : World), HoldsK enc k w blk 0 d → blk < w.heap.size → d.size < 4611686018427387904 →
    Calls P F #[.slice (some ⟨blk, 0, none⟩) d.size cap, .func (.func gf) #[] #[]] w fun e w' => e = .returned (.tuple #[]) ∧ ∃ d' n os, PermIn 0 d.size d d' ∧ SortedIn (ltOf cf) 0 d.size d' ∧ w' = sortWorldK enc k w blk 0 n d' os
theorem sort_at {Kont : LSt → Prop} {st : LSt} {F gf : FuncId} {cf : α → α → Int} {l : List α} {d : Nat} {e : TypeId} {x : Operand} {r : Tmp} {type : TypeId} {pos : String} {after : Array Edge} {ts : Array TypeId}
    (hk : ∀ x, (enc x).length = k) (hk0 : 0 < k) (hent : ∀ (vs : Array Value) (w : World), (callFunc F vs).run P w = .ok (.enter F vs) w) (hS : SortsAt P F gf enc k cf) (hN : SortsNone P F gf)
    (hx : evL st.env x = .bsl d l.length e) (harr : st.arr d = some (litsL (l.flatMap enc))) (he : sizeL P e = k) (hl : l.length < 4611686018427387904) (hr : r < N)
    (hQ : ∀ l' : List α, l'.Perm l → l'.Pairwise (fun a b => ¬ cf b a < 0) → Kont ((st.setArr d (litsL (l'.flatMap enc))).put (some r) (.tup []))) :
    LastL P N w0 S0 ⟨some r, .call ⟨.value (.func F), #[x, .func gf], ts⟩, type, pos, after, none⟩ Kont st := by
  rintro a w K Q' ⟨g, h⟩ hK
  have hrun : (execOp a.eval ⟨some r, .call ⟨.value (.func F), #[x, .func gf], ts⟩, type, pos, after, none⟩).run P w = .ok (.enter F #[a.eval x, .func (.func gf) #[] #[]]) w := by
    have := hent #[a.eval x, .func (.func gf) #[] #[]] w
    simpa [execOp, resolve, Deferred.ofValue, Act.eval, invoke] using this
  unfold Oper.wp
  rw [hrun]
  have hv := h.ev x
  rw [hx] at hv
  rcases hv.inv_bsl with ⟨hv, hn⟩ | ⟨b, cap, cur, h1, hv, h3, h4, h5, h6, h7⟩
  · rw [hv]
    refine Calls.mono (hN w) ?_
    rintro e' w' ⟨rfl, rfl⟩
    have hl0 : l = [] := List.eq_nil_of_length_eq_zero hn
    subst hl0
    have := hQ [] (.refl _) .nil
    refine hK _ _ _ ⟨g, h.put (fun d' hd' => by cases hd'; exact hr) (.tup _ [] #[] rfl fun i c u hc => by cases hc)⟩ ?_
    have e0 : st.setArr d (litsL (([] : List α).flatMap enc)) = st := by
      unfold LSt.setArr
      rw [show upd st.arr d (some (litsL (([] : List α).flatMap enc))) = st.arr by
        funext j; unfold upd; split
        · rename_i hj; rw [hj, harr]
        · rfl]
    rwa [e0] at this
  · rw [hv]
    have hfl : (l.flatMap enc).length = l.length * k := flat_len enc k hk l
    rcases h.arr d _ harr with h0 | ⟨b', vals, T, k1, k2, k3, k4, k5⟩
    · have : (litsL (l.flatMap enc)).length = 0 := by rw [h0]; rfl
      unfold litsL at this
      rw [List.length_map, hfl] at this
      have := Nat.mul_pos h7 hk0
      omega
    rw [h1] at k1; cases k1
    rw [h3] at k2; cases k2
    have hcl : (litsL (l.flatMap enc)).length = l.length * k := by unfold litsL; rw [List.length_map, hfl]
    rw [hcl] at k3
    have hH : HoldsK enc k w b 0 l.toArray := by
      intro j hj
      have hj' : j < l.length * k := by simpa using hj
      refine ⟨?_, by simp [World.frozen?, h3]⟩
      have hjc : j < cur.size := by omega
      have hF : (flatK enc k l.toArray)[j]! = (l.flatMap enc)[j]'(by rw [hfl]; exact hj') := by
        have := flatK_list hk hk0 l.toArray
        rw [getElem!_pos _ j hj, ← Array.getElem_toList]
        simp only [this]
      rw [Nat.zero_add, cell_of_heap h3, Array.getElem?_eq_getElem hjc, hF]
      have := k4 j (.lit ((l.flatMap enc)[j]'(by rw [hfl]; exact hj'))) cur[j] (by
        unfold litsL; rw [List.getElem?_map, List.getElem?_eq_getElem (by rw [hfl]; exact hj')]; rfl) (Array.getElem?_eq_getElem hjc)
      rw [this.inv_lit]; rfl
    have hb : b < w.heap.size := (h.own d b h1).2
    have hcall := hS b cap l.toArray w hH hb (by simpa using hl)
    rw [List.size_toArray] at hcall
    refine Calls.mono hcall ?_
    rintro e' w' ⟨rfl, d', n, os, hp, hs, rfl⟩
    have hsz : d'.size = l.length := by simpa using hp.1
    have hperm : d'.toList.Perm l := by
      have h2 := hp.2.2
      have e1 : d'.extract 0 l.length = d' := by rw [← hsz]; simp
      have e2 : l.toArray.extract 0 l.length = l.toArray := by simp
      rw [e1, e2] at h2
      exact h2
    have hsorted : d'.toList.Pairwise (fun a b => ¬ cf b a < 0) := by
      rw [List.pairwise_iff_getElem]
      intro i j hi hj hij
      have hj' : j < d'.size := by simpa using hj
      have hi' : i < d'.size := by omega
      have := hs i j (Nat.zero_le _) hij (by omega)
      rw [getElem!_pos d' i hi', getElem!_pos d' j hj'] at this
      simpa [ltOf] using this
    have hfl' : (d'.toList.flatMap enc).length = l.length * k := by rw [flat_len enc k hk, Array.length_toList, hsz]
    have hst := h.storeArr (o := 0) (xs := litsL (d'.toList.flatMap enc)) (vs := d'.toList.flatMap enc) harr h1 h3 (by rw [hcl]; exact k3) k4 k5 (by simp [litsL]) (by rw [hcl]; unfold litsL; rw [List.length_map, hfl']; omega) (fun i c u hc hu => by
      obtain ⟨v, e1, rfl⟩ := litsL_get hc
      rw [e1] at hu; cases hu; exact .lit _ _)
    have hfull : (litsL (l.flatMap enc)).take 0 ++ litsL (d'.toList.flatMap enc) ++ (litsL (l.flatMap enc)).drop (0 + (litsL (d'.toList.flatMap enc)).length) = litsL (d'.toList.flatMap enc) := by
      rw [List.take_zero, List.nil_append, List.drop_eq_nil_of_le (by rw [hcl, Nat.zero_add]; unfold litsL; rw [List.length_map, hfl']; omega), List.append_nil]
    rw [hfull, List.take_zero, List.nil_append, Nat.zero_add] at hst
    have hgl : G (w.setRow b (d'.toList.flatMap enc ++ cur.toList.drop (d'.toList.flatMap enc).length).toArray) (sortWorldK enc k w b 0 n d' os) := by
      have hnew : (putRowK enc k (Sort.ahead w n) b 0 d').heap[b]? = some (.cells (d'.toList.flatMap enc ++ cur.toList.drop (d'.toList.flatMap enc).length).toArray e (0, 0)) := by
        simp only [putRowK, putRow, mapBlock, Sort.ahead, Array.getElem?_modify, if_true, h3, Option.map_some, onCells]
        rw [putCells_flat _ _ (by rw [size_flatK, hsz]; exact k3), flatK_list hk hk0, size_flatK, hsz, hfl']
      refine ⟨rfl, rfl, rfl, ?_, fun i hi => ?_⟩
      · simp [sortWorldK, grow, putRowK, putRow, mapBlock, Sort.ahead]
      · have hi' : i < w.heap.size := by simpa using hi
        show ((putRowK enc k (Sort.ahead w n) b 0 d').heap ++ os)[i]? = _
        rw [Array.getElem?_append_left (by simp [putRowK, putRow, mapBlock, Sort.ahead]; omega)]
        by_cases hib : i = b
        · subst hib
          rw [hnew, setRow_heap w i cur _ e (0, 0) h3]
        · rw [setRow_other _ _ _ _ hib]
          simp only [putRowK, putRow, mapBlock, Sort.ahead, Array.getElem?_modify]
          rw [if_neg (fun e => hib e.symm)]
    have hR := hst.grow hgl (fun _ _ _ => Iff.rfl) (fun b' i hs' => Nat.lt_of_lt_of_le (hst.wf b' i hs') (Below.size hgl))
    exact hK _ _ _ ⟨_, hR.put (fun d' hd' => by cases hd'; exact hr) (.tup _ [] #[] rfl fun i c u hc => by cases hc)⟩ (hQ _ hperm hsorted)
end
section
variable {α : Type} [Inhabited α] (e1 : α → Value)
theorem flatK_one (d : Array α) : flatK (fun x => [e1 x]) 1 d = d.map e1 := by
  apply Array.ext'
  rw [flatK_list (enc := fun x => [e1 x]) (k := 1) (fun _ => rfl) (by decide), Array.toList_map]
  induction d.toList with
  | nil => rfl
  | cons x r ih => rw [List.flatMap_cons, ih]; rfl
theorem putRowK_one (w : World) (blk off : Nat) (d : Array α) : putRowK (fun x => [e1 x]) 1 w blk off d = putRow e1 w blk off d := by
  unfold putRowK putRow
  rw [flatK_one]
  congr 1
  funext vals
  apply Array.ext'
  apply List.ext_getElem?
  intro i
  simp only [putCells, Array.toList_mapIdx, List.getElem?_mapIdx, Array.getElem?_toList, Array.size_map]
  cases hv : vals[i]? with
  | none => rfl
  | some v =>
    simp only [Option.map_some]
    by_cases h : off ≤ i ∧ i < off + d.size
    · rw [if_pos h, if_pos h, getElem!_pos _ _ (by simp; omega), getElem!_pos d (i - off) (by omega)]; simp
    · rw [if_neg h, if_neg h]
theorem sortWorldK_one (w : World) (blk off n : Nat) (d : Array α) (os : Array Obj) : sortWorldK (fun x => [e1 x]) 1 w blk off n d os = sortWorld e1 w blk off n d os := by
  unfold sortWorldK sortWorld
  rw [putRowK_one]
theorem holdsK_one {w : World} {blk off : Nat} {d : Array α} (h : HoldsK (fun x => [e1 x]) 1 w blk off d) : Holds e1 w blk off d := by
  intro i hi
  have := h i (by rw [size_flatK]; omega)
  rw [flatK_one, getElem!_pos _ _ (by simpa using hi)] at this
  rw [getElem!_pos d i hi]
  simpa using this
end
end Go.Proofs.Ytaeefaehpfjmlaa
