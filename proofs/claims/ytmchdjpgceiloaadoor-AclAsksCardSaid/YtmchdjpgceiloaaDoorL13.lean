/-
  THE LIBRARY's DECIMAL NUMERAL BEHIND A PRIVATE ROW OF BYTES; bytes to text.
-/
import Derived.Test.YtmchdjpgceiloaaDoorL12
import Derived.Shelf.Strconv.AppendIntPublic10
import Derived.Laws.IdiomStrings
set_option linter.unusedSimpArgs false
set_option linter.unusedVariables false
namespace Go.Proofs.YtmchdjpgceiloaaDoor
open Go.RowKit Go.Proofs

def litOnly : LV → LV
  | .lit v => .lit v
  | _ => .any
theorem lo_lit (v : Value) : litOnly (.lit v) = .lit v := rfl
/-- What is left where a callee may have written any row of bytes of the call's own: values without memory; the arguments that are kept; the private row. -/
def LSt.wipe (st : LSt) (keep : Nat → Option LV) (d : Nat) (cs : List LV) : LSt :=
  ⟨fun k => (keep k).getD (litOnly (st.env k)), fun _ => none, fun _ => none, upd (fun _ => none) d (some cs), st.mode, st.val⟩
section
variable {P : Program} {N : Nat} {w0 : World} {S0 : Nat → Nat → Prop}
/-- What the library's contract says. -/
def AppendsInt (P : Program) (F : FuncId) (e : TypeId) : Prop :=
  ∀ (B n : Nat) (i : Int), -9223372036854775808 ≤ i → i ≤ 9223372036854775807 → ∀ (sv : Value) (xs : List Value) (w : World), w.ownsRow B e 1 sv n xs → B ≤ w.heap.size → n + 21 ≤ 140737488355328 →
    Lib.TabBelow P B w "internal/strconv.uint64pow10" .u64 Lib.pow10Tab →
    Calls P F #[sv, .int .i64 i, .int .i64 10] w fun e' w' => ∃ v', e' = .returned v' ∧ w'.ownsRow B e 1 v' (n + (Lib.itoa i).length) (xs ++ Lib.byteCells (Lib.itoa i)) ∧ Below B w w'
theorem itoa_pos (i : Int) : 0 < (Lib.itoa i).length := by
  unfold Lib.itoa
  split
  · simp
  · rw [Lib.decDigits_length]
    unfold Lib.nDigits
    split <;> omega
theorem appendInt_mid {Kont : LSt → Prop} {st : LSt} {F : FuncId} {xs : List Value} {d n : Nat} {i : Int} {e : TypeId} {x y : Operand} {r : Tmp} {type : TypeId} {pos : String} {after : Array Edge} {ts : Array TypeId} (keep : Nat → Option LV)
    (hF : AppendsInt P F e) (hent : ∀ (vs : Array Value) (w : World), (callFunc F vs).run P w = .ok (.enter F vs) w) (hgn : (P.globalNamed "internal/strconv.uint64pow10").isSome = true)
    (hkeep : ∀ k z, keep k = some z → ∃ v, st.val k = some v ∧ Rep P w0 (bareGh S0) z v)
    (hx : evL st.env x = .bsl d n e) (harr : st.arr d = some (litsL xs)) (hxs : xs.length = n) (hy : evL st.env y = .lit (.int .i64 i)) (h0 : -9223372036854775808 ≤ i) (h1 : i ≤ 9223372036854775807) (he : sizeL P e = 1) (hn : n + 21 ≤ 140737488355328) (hr : r < N)
    (hQ : Kont ((st.wipe keep d (litsL (xs ++ Lib.byteCells (Lib.itoa i)))).put (some r) (.bsl d (n + (Lib.itoa i).length) e))) :
    LastL P N w0 S0 ⟨some r, .call ⟨.value (.func F), #[x, y, .const (.int .i64 10)], ts⟩, type, pos, after, none⟩ Kont st := by
  rintro a w K Q' ⟨g, h⟩ hK
  have hyv : a.eval y = .int .i64 i := by have := h.ev y; rw [hy] at this; exact this.inv_lit
  have hrun : (execOp a.eval ⟨some r, .call ⟨.value (.func F), #[x, y, .const (.int .i64 10)], ts⟩, type, pos, after, none⟩).run P w = .ok (.enter F #[a.eval x, .int .i64 i, .int .i64 10]) w := by
    have := hent #[a.eval x, .int .i64 i, .int .i64 10] w
    rw [← hyv] at this ⊢
    simpa [execOp, resolve, Deferred.ofValue, Act.eval, invoke] using this
  unfold Oper.wp
  rw [hrun]
  have hv := h.ev x
  rw [hx] at hv
  have hown : w.ownsRow w0.heap.size e 1 (a.eval x) n xs := by
    refine ⟨by omega, ?_⟩
    rcases hv.inv_bsl with hb | ⟨b, cap, cur, k1, k2, k3, k4, k5, k6, k7⟩
    · exact .inl hb
    · rw [he] at k6
      have hva := arr_vals (h.arr d _ harr) k1 k3 (by unfold litsL; rw [List.length_map, hxs, Nat.mul_one]) k4 k6
      refine .inr ⟨b, cap, cur, k2, (h.own d b k1).1, k3, k4, k5, k6, ?_⟩
      apply List.ext_getElem?
      intro j
      have hlen := hva.1
      unfold litsL at hlen
      rw [List.length_map] at hlen
      by_cases hj : j < xs.length
      · have hj2 : j < (cur.toList.take (n * 1)).length := by omega
        have := hva.2 j (.lit xs[j]) _ (by unfold litsL; rw [List.getElem?_map, List.getElem?_eq_getElem hj]; rfl) (List.getElem?_eq_getElem hj2)
        rw [List.getElem?_eq_getElem hj2, List.getElem?_eq_getElem hj, this.inv_lit]
      · rw [List.getElem?_eq_none (by omega), List.getElem?_eq_none (by omega)]
  have htab : Lib.TabBelow P w0.heap.size w "internal/strconv.uint64pow10" .u64 Lib.pow10Tab := (Lib.tabBelow_of_tabIs (h.ex.glob hgn)).on h.below
  refine Calls.mono (hF w0.heap.size n i h0 h1 _ xs w hown h.below.size hn htab) ?_
  rintro e' w' ⟨v', rfl, hown', hb⟩
  have hbel : Below w0.heap.size w0 w' := h.below.trans hb
  have hpos := itoa_pos i
  rcases hown'.2 with ⟨_, hn0⟩ | ⟨b, cap, cur, k2, kb, k3, k4, k5, k6, k7⟩
  · omega
  have hbw : b < w'.heap.size := (Array.getElem?_eq_some_iff.1 k3).1
  let g' : Gh := ⟨S0, upd (fun _ => none) d (some b), fun _ => none⟩
  have hm : Mono P w0 (bareGh S0) w' g' := ⟨fun b' j u hs hc => ⟨hs, by rw [hbel.cell (p := ⟨b', j, none⟩) (h.ex.wf0 b' j hs)]; exact hc⟩, (fun _ _ hh => by cases hh), (fun _ _ _ _ hh => by cases hh), (fun _ _ _ _ hh => by cases hh)⟩
  have hlen2 : (xs ++ Lib.byteCells (Lib.itoa i)).length = n + (Lib.itoa i).length := by rw [List.length_append, hxs, Lib.byteCells_length]
  have hR : RelG P N w0 S0 g' (st.wipe keep d (litsL (xs ++ Lib.byteCells (Lib.itoa i)))) a w' := by
    refine ⟨h.defers, h.size, fun k => ?_, hbel, fun _ _ _ => Iff.rfl, fun b' j hs => ?_, fun k b' hk => ?_, fun k k' b' hk hk' => ?_, (fun k cs hk => by cases hk), rfl, (fun k cs hk => by cases hk), fun k cs hk => ?_, (fun k cs hk => ⟨rfl, rfl⟩), h.ex⟩
    · show Rep P w' g' ((keep k).getD (litOnly (st.env k))) _
      cases hkk : keep k with
      | some z =>
        obtain ⟨v, hv1, hv2⟩ := hkeep k z hkk
        rw [Option.getD_some, h.ex.vals k v hv1]
        exact hv2.mono hm
      | none =>
        rw [Option.getD_none]
        have hek := h.env k
        cases hst : st.env k with
        | lit v => rw [hst] at hek; rw [lo_lit, hek.inv_lit]; exact .lit _ _
        | _ => exact .any _ _
    · have := h.ex.wf0 b' j hs; have := hbel.size; omega
    · simp only [g', upd] at hk
      split at hk
      · cases hk; exact ⟨kb, hbw⟩
      · cases hk
    · simp only [g', upd] at hk hk'
      split at hk <;> split at hk' <;> first | (cases hk; done) | (cases hk'; done) | (rename_i e1 e2; exact e1.trans e2.symm)
    · simp only [LSt.wipe, upd] at hk
      split at hk
      · rename_i hkd
        subst hkd
        cases hk
        refine .inr ⟨b, cur, e, by simp [g', upd], k3, ?_, fun j c u hc hu => ?_, fun j hs => ?_⟩
        · unfold litsL; rw [List.length_map, hlen2]; rw [Nat.mul_one] at k6; omega
        · obtain ⟨v, e1, rfl⟩ := litsL_get hc
          have hj : j < n + (Lib.itoa i).length := by have := (List.getElem?_eq_some_iff.1 e1).1; omega
          rw [← k7, List.getElem?_take_of_lt (by omega), Array.getElem?_toList, hu] at e1
          cases e1
          exact .lit _ _
        · have := h.ex.wf0 b j hs; omega
      · cases hk
  refine hK _ _ _ ⟨g', hR.put (fun d' hd' => by cases hd'; exact hr) (.bsl _ _ _ _ _ (.inr ⟨b, cap, cur, by simp [g', upd], k2, k3, k4, k5, by rw [he]; exact k6, by omega⟩))⟩ hQ
/-- Bytes of a private row as a text. -/
theorem bytes_mid {Kont : LSt → Prop} {st : LSt} {l : List UInt8} {d : Nat} {e s t : TypeId} {x : Operand} {r : Tmp} {type : TypeId} {pos : String} {after : Array Edge}
    (hs : P.underlying s = some (.slice e)) (heu : P.underlying e = some (.int .u8)) (ht : P.underlying t = some .string)
    (hx : evL st.env x = .bsl d l.length e) (harr : st.arr d = some (litsL (Lib.byteCells l))) (he : sizeL P e = 1) (hr : r < N) (hQ : Kont (st.put (some r) (strL l))) :
    LastL P N w0 S0 ⟨some r, .convert s t x, type, pos, after, none⟩ Kont st := by
  rintro a w K Q' ⟨g, h⟩ hK
  have hv := h.ev x
  rw [hx] at hv
  have hrun : (convert s t (a.eval x)).run P w = .ok (.string ⟨l.toArray⟩) w := by
    rcases hv.inv_bsl with ⟨hb, hn⟩ | ⟨b, cap, cur, k1, k2, k3, k4, k5, k6, k7⟩
    · have : l = [] := List.eq_nil_of_length_eq_zero hn
      subst this
      rw [hb, run_convert_bytes_string w s t e none 0 0 hs heu ht]
      rfl
    · rw [he] at k6
      have hva := arr_vals (h.arr d _ harr) k1 k3 (by unfold litsL; rw [List.length_map, Lib.byteCells_length, Nat.mul_one]) k4 k6
      rw [k2]
      refine run_convert_bytes_back w s t e ⟨b, 0, none⟩ cap l hs heu ht fun j hj => ?_
      rw [Addr.add_lit, Nat.zero_add, cell_of_heap k3]
      have hj3 : j < cur.size := by rw [k6]; omega
      have := hva.2 j (.lit (.int .u8 (l[j].toNat : Int))) cur[j] (by
        unfold litsL Lib.byteCells; rw [List.getElem?_map, List.getElem?_map, List.getElem?_eq_getElem hj]; rfl) (by
        rw [List.getElem?_take_of_lt (by omega), Array.getElem?_toList, Array.getElem?_eq_getElem hj3])
      rw [Array.getElem?_eq_getElem hj3, this.inv_lit]
  unfold Oper.wp
  have hrun2 : (execOp a.eval ⟨some r, .convert s t x, type, pos, after, none⟩).run P w = .ok (.value (.string ⟨l.toArray⟩)) w := by
    have : (do pure (Next.value (← convert s t (a.eval x))) : Sem Next).run P w = .ok (.value (.string ⟨l.toArray⟩)) w := by rw [Sem.run_bind, hrun]; rfl
    simpa [execOp] using this
  rw [hrun2]
  exact hK _ _ _ ⟨g, h.put (fun d' hd' => by cases hd'; exact hr) (.lit _ _)⟩ hQ
/-- Ways that meet again. -/
theorem LW_join {c : Code} {Q : Exit → LSt → Prop} {K : LSt → Prop} {st : LSt} (M : LSt → Prop) (h1 : LW P N w0 S0 c (thenL M Q) st) (h2 : ∀ st', M st' → K st') : LW P N w0 S0 c (thenL K Q) st :=
  h1.mono fun e st' h => by cases e <;> first | exact h2 _ h | exact h
theorem LW_joinB {id : Nat} {c : Code} {Q : Exit → LSt → Prop} {K : LSt → Prop} {st : LSt} (M : LSt → Prop) (h1 : LW P N w0 S0 c (inBlockL id (thenL M Q)) st) (h2 : ∀ st', M st' → K st') : LW P N w0 S0 c (inBlockL id (thenL K Q)) st :=
  h1.mono fun e st' h => by
    cases e with
    | exit i =>
      simp only [inBlockL] at h ⊢
      split
      · rename_i hi; rw [if_pos hi] at h; exact h2 _ h
      · rename_i hi; rw [if_neg hi] at h; exact h
    | normal => exact h2 _ h
    | _ => exact h
/-- A region whose operations are written in parts. -/
theorem LW_regionA {Q : Exit → LSt → Prop} {st : LSt} {id : Nat} {ops : Array Oper} {l : List Oper} {dr : Bool} (hl : ops.toList = l) (h : LW P N w0 S0 (.region id l.toArray dr) Q st) : LW P N w0 S0 (.region id ops dr) Q st := by
  subst hl; simpa using h
theorem bytes_snoc (l : List UInt8) (b : UInt8) : litsL (Lib.byteCells (l ++ [b])) = litsL (Lib.byteCells l) ++ [.lit (.int .u8 b.toNat)] := by simp [litsL, Lib.byteCells]
theorem bytes_app (l m : List UInt8) : Lib.byteCells l ++ Lib.byteCells m = Lib.byteCells (l ++ m) := by simp [Lib.byteCells]
theorem bytes_len (l : List UInt8) : (litsL (Lib.byteCells l)).length = l.length := by simp [litsL, Lib.byteCells]
end
end Go.Proofs.YtmchdjpgceiloaaDoor
