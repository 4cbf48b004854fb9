/-
  acl.Show, by what it returns.
-/
import Derived.Test.YtmchdjpgceiloaaDoorKNorm
import Derived.Test.YtmchdjpgceiloaaDoorL13
import Derived.Test.YtmchdjpgceiloaaDoorShelf
import Derived.Lib.ItoaLen
set_option linter.unusedSimpArgs false
set_option linter.unusedVariables false
namespace Go.Proofs.YtmchdjpgceiloaaDoor
open Go.RowKit AclSpec Go.Proofs

def letterB (a : Ace) : UInt8 := if a.kind = 1 then 117 else if a.kind = 2 then 103 else if a.kind = 3 then 109 else 63
def sepB (out : List UInt8) (i : Nat) : List UInt8 := if 0 < i then out ++ [32] else out
def stepB (out : List UInt8) (i : Nat) (a : Ace) : List UInt8 := sepB out i ++ [letterB a] ++ Lib.itoa a.id ++ [58] ++ Lib.itoa a.perm
def showN (l : List Ace) : Nat → List UInt8
  | 0 => []
  | i + 1 => match l[i]? with
    | some a => stepB (showN l i) i a
    | none => showN l i
def showB (l : List Ace) : List UInt8 := showN l l.length
def inI (x : Int) : Prop := -9223372036854775808 ≤ x ∧ x ≤ 9223372036854775807
theorem showN_succ {l : List Ace} {i : Nat} {a : Ace} (h : l[i]? = some a) : showN l (i + 1) = stepB (showN l i) i a := by simp [showN, h]
theorem showN_len (l : List Ace) (h : ∀ a ∈ l, inI a.id ∧ inI a.perm) : ∀ i, (showN l i).length ≤ 46 * i
  | 0 => by simp [showN]
  | i + 1 => by
    have ih := showN_len l h i
    simp only [showN]
    split
    · rename_i a ha
      obtain ⟨⟨h1, h2⟩, h3, h4⟩ := h a (List.mem_of_getElem? ha)
      have e1 := Lib.itoa_length_le a.id h1 h2
      have e2 := Lib.itoa_length_le a.perm h3 h4
      unfold stepB sepB
      split <;> simp only [List.length_append, List.length_cons, List.length_nil] <;> omega
    · omega
def shInv (l : List Ace) (i : Nat) (va : Value) (o : List UInt8) (st : LSt) : Prop :=
  st.env 0 = acesL l ∧ st.env 3 = .bsl 3 o.length 5 ∧ st.env 4 = intL i ∧ st.arr 3 = some (litsL (Lib.byteCells o)) ∧ st.val 0 = some va ∧ st.mode = (fun _ => false)
theorem appInt_contract : AppendsInt Tryd.prog 27 5 := by
  intro B n i h0 h1 sv xs w hown hBw hlim htab
  exact (Tryd.strconv_AppendInt_10 B n i h0 h1 sv xs w hown hBw hlim htab).mono fun e w' ⟨v', a, b, c, _⟩ => ⟨v', a, b, c⟩
theorem appInt_enters : ∀ (vs : Array Value) (w : World), (callFunc 27 vs).run Tryd.prog w = .ok (.enter 27 vs) w :=
  enters_of Tryd.func27 (by kernel_rfl) rfl

set_option maxRecDepth 100000 in
set_option maxHeartbeats 1000000 in
theorem show_L (l : List Ace) (hl : l.length ≤ 1000000) (hin : ∀ a ∈ l, inI a.id ∧ inI a.perm) : LCalls Tryd.prog 15 [acesL l] (strL (showB l)) := by
  refine LCalls.of (fun _ => false) Tryd.func15 rfl (by decide) Tryd.ntmps15 Tryd.results15 (by simp) ?_
  intro w0 S0 vs hgl hwf0 hsz hvs
  have hsz1 : vs.size = 1 := hsz
  obtain ⟨va, hva⟩ : ∃ va, vs[0]? = some va := ⟨vs[0], Array.getElem?_eq_getElem (by omega)⟩
  have hrep : Rep Tryd.prog w0 (bareGh S0) (acesL l) va := hvs 0 _ _ rfl hva
  clear hvs hsz hsz1 hgl hwf0
  (repeat (first | (refine LW_seq ?_) | (refine LW_region ?_; intro K hK; simp only [LSa, LSy, LSd, forall_const, implies_true, false_implies, undef, reduceCtorEq, reduceIte, Nat.reduceAdd, Nat.reduceMul, Nat.reduceSub, Nat.reduceLT, Nat.reduceLeDiff, Nat.reduceEqDiff, Int.reduceAdd, Int.reduceSub, Int.reduceMul, Int.reduceLT, Int.reduceLE, Int.reduceEq, Int.reduceNeg, Int.reduceToNat, Nat.reduceBEq, acesL]; refine hK _ ?_; clear hK K; try simp only [thenL, inBlockL, jumpsL, reduceIte, Nat.reduceEqDiff]) | (refine LW_label ?_; try simp only [thenL, inBlockL, jumpsL, reduceIte, Nat.reduceEqDiff]) | (refine LW_skip ?_; try simp only [thenL, inBlockL, jumpsL, reduceIte, Nat.reduceEqDiff]) | (refine LW_block ?_)))
  refine LW_lab1 (fun n st => ∃ (i : Nat) (out : List UInt8), n + i = l.length ∧ out = showN l i ∧ st.env 0 = acesL l ∧ st.env 3 = .bsl 3 out.length 5 ∧ st.env 4 = intL i ∧ st.arr 3 = some (litsL (Lib.byteCells out)) ∧ st.val 0 = some va ∧ st.mode = (fun _ => false)) rfl ?_ ?_
  · intro hJ
    (repeat (first | (refine LW_seq ?_; refine LW_region ?_; intro K hK; simp only [LSa, LSy, LSd, forall_const, implies_true, false_implies, undef, reduceCtorEq, reduceIte, Nat.reduceAdd, Nat.reduceMul, Nat.reduceSub, Nat.reduceLT, Nat.reduceLeDiff, Nat.reduceEqDiff, Int.reduceAdd, Int.reduceSub, Int.reduceMul, Int.reduceLT, Int.reduceLE, Int.reduceEq, Int.reduceNeg, Int.reduceToNat, Nat.reduceBEq, acesL]; refine hK _ ?_; clear hK K; try simp only [thenL, inBlockL, jumpsL, reduceIte, Nat.reduceEqDiff]) | (refine LW_region ?_; intro K hK; simp only [LSa, LSy, LSd, forall_const, implies_true, false_implies, undef, reduceCtorEq, reduceIte, Nat.reduceAdd, Nat.reduceMul, Nat.reduceSub, Nat.reduceLT, Nat.reduceLeDiff, Nat.reduceEqDiff, Int.reduceAdd, Int.reduceSub, Int.reduceMul, Int.reduceLT, Int.reduceLE, Int.reduceEq, Int.reduceNeg, Int.reduceToNat, Nat.reduceBEq, acesL]; refine hK _ ?_; clear hK K; try simp only [thenL, inBlockL, jumpsL, reduceIte, Nat.reduceEqDiff]) | (refine LW_skip ?_; simp only [thenL, inBlockL, jumpsL, reduceIte, Nat.reduceEqDiff]))); refine LW_seq ?_; refine LW_label ?_; simp only [thenL, inBlockL, jumpsL, reduceIte, Nat.reduceEqDiff]
    refine LW_nilB (k := 3) (q := 3) (e := 5) rfl ?_
    exact hJ.out l.length _ ⟨0, [], by omega, rfl, rfl, rfl, rfl, rfl, hva, rfl⟩
  · rintro n st ⟨i, out, hn, hout, h0, h3, h4, ha, hv0, hmd⟩
    have hol : out.length ≤ 46 * i := by rw [hout]; exact showN_len l hin i
    (repeat (first | (refine LW_seq ?_) | (refine LW_region ?_; intro K hK; simp only [LSa, LSy, LSd, forall_const, implies_true, false_implies, undef, reduceCtorEq, reduceIte, Nat.reduceAdd, Nat.reduceMul, Nat.reduceSub, Nat.reduceLT, Nat.reduceLeDiff, Nat.reduceEqDiff, Int.reduceAdd, Int.reduceSub, Int.reduceMul, Int.reduceLT, Int.reduceLE, Int.reduceEq, Int.reduceNeg, Int.reduceToNat, Nat.reduceBEq, h0, h4, acesL]; refine hK _ ?_; clear hK K; try simp only [thenL, inBlockL, jumpsL, reduceIte, Nat.reduceEqDiff]) | (refine LW_label ?_; try simp only [thenL, inBlockL, jumpsL, reduceIte, Nat.reduceEqDiff]) | (refine LW_skip ?_; try simp only [thenL, inBlockL, jumpsL, reduceIte, Nat.reduceEqDiff]) | (refine LW_block ?_)))
    by_cases hlt : i < l.length
    · obtain ⟨a, hai⟩ := get_of_lt hlt
      obtain ⟨⟨hid1, hid2⟩, hpm1, hpm2⟩ := hin a (List.mem_of_getElem? hai)
      have hd := drop_flat aceL 3 aceL_len hai
      have hw := w64s (n := i) (by omega)
      refine LW_if ?_; intro X Y hX hY; simp only [LSa, LSy, LSd, forall_const, implies_true, false_implies, undef, reduceCtorEq, reduceIte, Nat.reduceAdd, Nat.reduceMul, Nat.reduceSub, Nat.reduceLT, Nat.reduceLeDiff, Nat.reduceEqDiff, Int.reduceAdd, Int.reduceSub, Int.reduceMul, Int.reduceLT, Int.reduceLE, Int.reduceEq, Int.reduceNeg, Int.reduceToNat, Nat.reduceBEq, hlt]; refine hX ?_; clear hX hY X Y; try simp only [thenL, inBlockL, jumpsL, reduceIte, Nat.reduceEqDiff]
      (repeat (first | (refine LW_seq ?_) | (refine LW_region ?_; intro K hK; simp only [LSa, LSy, LSd, forall_const, implies_true, false_implies, undef, reduceCtorEq, reduceIte, Nat.reduceAdd, Nat.reduceMul, Nat.reduceSub, Nat.reduceLT, Nat.reduceLeDiff, Nat.reduceEqDiff, Int.reduceAdd, Int.reduceSub, Int.reduceMul, Int.reduceLT, Int.reduceLE, Int.reduceEq, Int.reduceNeg, Int.reduceToNat, Nat.reduceBEq, h4, acesL]; refine hK _ ?_; clear hK K; try simp only [thenL, inBlockL, jumpsL, reduceIte, Nat.reduceEqDiff]) | (refine LW_label ?_; try simp only [thenL, inBlockL, jumpsL, reduceIte, Nat.reduceEqDiff]) | (refine LW_skip ?_; try simp only [thenL, inBlockL, jumpsL, reduceIte, Nat.reduceEqDiff]) | (refine LW_block ?_)))
      have hsl : (sepB out i).length ≤ out.length + 1 := by unfold sepB; split <;> simp
      refine LW_join (fun st => st.env 0 = acesL l ∧ st.env 3 = .bsl 3 (sepB out i).length 5 ∧ st.env 4 = intL i ∧ st.arr 3 = some (litsL (Lib.byteCells (sepB out i))) ∧ st.val 0 = some va ∧ st.mode = (fun _ => false)) ?_ ?_
      · by_cases hi0 : (0 : Int) < i
        · have hsep : sepB out i = out ++ [32] := by unfold sepB; rw [if_pos (by omega)]
          have hbl := bytes_len out
          refine LW_if ?_; intro X Y hX hY; simp only [LSa, LSy, LSd, forall_const, implies_true, false_implies, undef, reduceCtorEq, reduceIte, Nat.reduceAdd, Nat.reduceMul, Nat.reduceSub, Nat.reduceLT, Nat.reduceLeDiff, Nat.reduceEqDiff, Int.reduceAdd, Int.reduceSub, Int.reduceMul, Int.reduceLT, Int.reduceLE, Int.reduceEq, Int.reduceNeg, Int.reduceToNat, Nat.reduceBEq, hi0]; refine hX ?_; clear hX hY X Y; try simp only [thenL, inBlockL, jumpsL, reduceIte, Nat.reduceEqDiff]
          (repeat (first | (refine LW_seq ?_) | (refine LW_skip ?_; simp only [thenL, inBlockL, jumpsL, reduceIte, Nat.reduceEqDiff]) | (refine LW_block ?_))); refine LW_region ?_; intro K hK; simp only [LSa, LSy, LSd, forall_const, implies_true, false_implies, undef, reduceCtorEq, reduceIte, Nat.reduceAdd, Nat.reduceMul, Nat.reduceSub, Nat.reduceLT, Nat.reduceLeDiff, Nat.reduceEqDiff, Int.reduceAdd, Int.reduceSub, Int.reduceMul, Int.reduceLT, Int.reduceLE, Int.reduceEq, Int.reduceNeg, Int.reduceToNat, Nat.reduceBEq, h3, ha, hmd, hbl]
          refine ⟨⟨by omega, by unfold maxLen; omega⟩, ?_⟩
          refine hK _ ?_; clear hK K; try simp only [thenL, inBlockL, jumpsL, reduceIte, Nat.reduceEqDiff]
          rw [hsep, bytes_snoc]
          exact ⟨by simp only [LSa, LSy, LSd, forall_const, implies_true, false_implies, undef, reduceCtorEq, reduceIte, Nat.reduceAdd, Nat.reduceMul, Nat.reduceSub, Nat.reduceLT, Nat.reduceLeDiff, Nat.reduceEqDiff, Int.reduceAdd, Int.reduceSub, Int.reduceMul, Int.reduceLT, Int.reduceLE, Int.reduceEq, Int.reduceNeg, Int.reduceToNat, Nat.reduceBEq, h0, acesL], by rw [List.length_append]; rfl, by simp only [LSa, LSy, LSd, forall_const, implies_true, false_implies, undef, reduceCtorEq, reduceIte, Nat.reduceAdd, Nat.reduceMul, Nat.reduceSub, Nat.reduceLT, Nat.reduceLeDiff, Nat.reduceEqDiff, Int.reduceAdd, Int.reduceSub, Int.reduceMul, Int.reduceLT, Int.reduceLE, Int.reduceEq, Int.reduceNeg, Int.reduceToNat, Nat.reduceBEq, h4], rfl, hv0, trivial⟩
        · have hsep : sepB out i = out := by unfold sepB; rw [if_neg (by omega)]
          refine LW_if ?_; intro X Y hX hY; simp only [LSa, LSy, LSd, forall_const, implies_true, false_implies, undef, reduceCtorEq, reduceIte, Nat.reduceAdd, Nat.reduceMul, Nat.reduceSub, Nat.reduceLT, Nat.reduceLeDiff, Nat.reduceEqDiff, Int.reduceAdd, Int.reduceSub, Int.reduceMul, Int.reduceLT, Int.reduceLE, Int.reduceEq, Int.reduceNeg, Int.reduceToNat, Nat.reduceBEq, hi0]; refine hY ?_; clear hX hY X Y; (try simp only [thenL, inBlockL, jumpsL, reduceIte, Nat.reduceEqDiff]); (try (refine LW_skip ?_; simp only [thenL, inBlockL, jumpsL, reduceIte, Nat.reduceEqDiff]))
          rw [hsep]
          exact ⟨h0, h3, h4, ha, hv0, hmd⟩
      · clear h0 h3 h4 ha hv0 hmd
        rintro st ⟨h0, h3, h4, ha, hv0, hmd⟩
        generalize hO : sepB out i = o2 at *
        (repeat (first | (refine LW_seq ?_) | (refine LW_region ?_; intro K hK; simp only [LSa, LSy, LSd, forall_const, implies_true, false_implies, undef, reduceCtorEq, reduceIte, Nat.reduceAdd, Nat.reduceMul, Nat.reduceSub, Nat.reduceLT, Nat.reduceLeDiff, Nat.reduceEqDiff, Int.reduceAdd, Int.reduceSub, Int.reduceMul, Int.reduceLT, Int.reduceLE, Int.reduceEq, Int.reduceNeg, Int.reduceToNat, Nat.reduceBEq, h0, h4, acesL, hlt, hd, aceL]; refine hK _ ?_; clear hK K; try simp only [thenL, inBlockL, jumpsL, reduceIte, Nat.reduceEqDiff]) | (refine LW_label ?_; try simp only [thenL, inBlockL, jumpsL, reduceIte, Nat.reduceEqDiff]) | (refine LW_skip ?_; try simp only [thenL, inBlockL, jumpsL, reduceIte, Nat.reduceEqDiff]) | (refine LW_block ?_)))
        refine LW_joinB (fun st => st.env 0 = acesL l ∧ st.env 3 = .bsl 3 o2.length 5 ∧ st.env 4 = intL i ∧ st.env 5 = .lit (.int .u8 (letterB a).toNat) ∧ st.arr 3 = some (litsL (Lib.byteCells o2)) ∧ st.val 0 = some va ∧ st.mode = (fun _ => false)) ?_ ?_
        · by_cases hk1 : a.kind = 1
          · refine LW_if ?_; intro X Y hX hY; simp only [LSa, LSy, LSd, forall_const, implies_true, false_implies, undef, reduceCtorEq, reduceIte, Nat.reduceAdd, Nat.reduceMul, Nat.reduceSub, Nat.reduceLT, Nat.reduceLeDiff, Nat.reduceEqDiff, Int.reduceAdd, Int.reduceSub, Int.reduceMul, Int.reduceLT, Int.reduceLE, Int.reduceEq, Int.reduceNeg, Int.reduceToNat, Nat.reduceBEq, hk1]; refine hX ?_; clear hX hY X Y; try simp only [thenL, inBlockL, jumpsL, reduceIte, Nat.reduceEqDiff]
            (repeat (first | (refine LW_seq ?_) | (refine LW_region ?_; intro K hK; simp only [LSa, LSy, LSd, forall_const, implies_true, false_implies, undef, reduceCtorEq, reduceIte, Nat.reduceAdd, Nat.reduceMul, Nat.reduceSub, Nat.reduceLT, Nat.reduceLeDiff, Nat.reduceEqDiff, Int.reduceAdd, Int.reduceSub, Int.reduceMul, Int.reduceLT, Int.reduceLE, Int.reduceEq, Int.reduceNeg, Int.reduceToNat, Nat.reduceBEq]; refine hK _ ?_; clear hK K; try simp only [thenL, inBlockL, jumpsL, reduceIte, Nat.reduceEqDiff]) | (refine LW_label ?_; try simp only [thenL, inBlockL, jumpsL, reduceIte, Nat.reduceEqDiff]) | (refine LW_skip ?_; try simp only [thenL, inBlockL, jumpsL, reduceIte, Nat.reduceEqDiff]) | (refine LW_block ?_)))
            exact ⟨h0, h3, h4, by unfold letterB; rw [if_pos hk1]; rfl, ha, hv0, hmd⟩
          · refine LW_if ?_; intro X Y hX hY; simp only [LSa, LSy, LSd, forall_const, implies_true, false_implies, undef, reduceCtorEq, reduceIte, Nat.reduceAdd, Nat.reduceMul, Nat.reduceSub, Nat.reduceLT, Nat.reduceLeDiff, Nat.reduceEqDiff, Int.reduceAdd, Int.reduceSub, Int.reduceMul, Int.reduceLT, Int.reduceLE, Int.reduceEq, Int.reduceNeg, Int.reduceToNat, Nat.reduceBEq, hk1]; refine hY ?_; clear hX hY X Y; (try simp only [thenL, inBlockL, jumpsL, reduceIte, Nat.reduceEqDiff]); (try (refine LW_skip ?_; simp only [thenL, inBlockL, jumpsL, reduceIte, Nat.reduceEqDiff]))
            (repeat (first | (refine LW_seq ?_) | (refine LW_region ?_; intro K hK; simp only [LSa, LSy, LSd, forall_const, implies_true, false_implies, undef, reduceCtorEq, reduceIte, Nat.reduceAdd, Nat.reduceMul, Nat.reduceSub, Nat.reduceLT, Nat.reduceLeDiff, Nat.reduceEqDiff, Int.reduceAdd, Int.reduceSub, Int.reduceMul, Int.reduceLT, Int.reduceLE, Int.reduceEq, Int.reduceNeg, Int.reduceToNat, Nat.reduceBEq]; refine hK _ ?_; clear hK K; try simp only [thenL, inBlockL, jumpsL, reduceIte, Nat.reduceEqDiff]) | (refine LW_label ?_; try simp only [thenL, inBlockL, jumpsL, reduceIte, Nat.reduceEqDiff]) | (refine LW_skip ?_; try simp only [thenL, inBlockL, jumpsL, reduceIte, Nat.reduceEqDiff]) | (refine LW_block ?_)))
            by_cases hk2 : a.kind = 2
            · refine LW_if ?_; intro X Y hX hY; simp only [LSa, LSy, LSd, forall_const, implies_true, false_implies, undef, reduceCtorEq, reduceIte, Nat.reduceAdd, Nat.reduceMul, Nat.reduceSub, Nat.reduceLT, Nat.reduceLeDiff, Nat.reduceEqDiff, Int.reduceAdd, Int.reduceSub, Int.reduceMul, Int.reduceLT, Int.reduceLE, Int.reduceEq, Int.reduceNeg, Int.reduceToNat, Nat.reduceBEq, hk2]; refine hX ?_; clear hX hY X Y; try simp only [thenL, inBlockL, jumpsL, reduceIte, Nat.reduceEqDiff]
              (repeat (first | (refine LW_seq ?_) | (refine LW_region ?_; intro K hK; simp only [LSa, LSy, LSd, forall_const, implies_true, false_implies, undef, reduceCtorEq, reduceIte, Nat.reduceAdd, Nat.reduceMul, Nat.reduceSub, Nat.reduceLT, Nat.reduceLeDiff, Nat.reduceEqDiff, Int.reduceAdd, Int.reduceSub, Int.reduceMul, Int.reduceLT, Int.reduceLE, Int.reduceEq, Int.reduceNeg, Int.reduceToNat, Nat.reduceBEq]; refine hK _ ?_; clear hK K; try simp only [thenL, inBlockL, jumpsL, reduceIte, Nat.reduceEqDiff]) | (refine LW_label ?_; try simp only [thenL, inBlockL, jumpsL, reduceIte, Nat.reduceEqDiff]) | (refine LW_skip ?_; try simp only [thenL, inBlockL, jumpsL, reduceIte, Nat.reduceEqDiff]) | (refine LW_block ?_)))
              exact ⟨h0, h3, h4, by unfold letterB; rw [if_neg hk1, if_pos hk2]; rfl, ha, hv0, hmd⟩
            · refine LW_if ?_; intro X Y hX hY; simp only [LSa, LSy, LSd, forall_const, implies_true, false_implies, undef, reduceCtorEq, reduceIte, Nat.reduceAdd, Nat.reduceMul, Nat.reduceSub, Nat.reduceLT, Nat.reduceLeDiff, Nat.reduceEqDiff, Int.reduceAdd, Int.reduceSub, Int.reduceMul, Int.reduceLT, Int.reduceLE, Int.reduceEq, Int.reduceNeg, Int.reduceToNat, Nat.reduceBEq, hk2]; refine hY ?_; clear hX hY X Y; (try simp only [thenL, inBlockL, jumpsL, reduceIte, Nat.reduceEqDiff]); (try (refine LW_skip ?_; simp only [thenL, inBlockL, jumpsL, reduceIte, Nat.reduceEqDiff]))
              (repeat (first | (refine LW_seq ?_) | (refine LW_region ?_; intro K hK; simp only [LSa, LSy, LSd, forall_const, implies_true, false_implies, undef, reduceCtorEq, reduceIte, Nat.reduceAdd, Nat.reduceMul, Nat.reduceSub, Nat.reduceLT, Nat.reduceLeDiff, Nat.reduceEqDiff, Int.reduceAdd, Int.reduceSub, Int.reduceMul, Int.reduceLT, Int.reduceLE, Int.reduceEq, Int.reduceNeg, Int.reduceToNat, Nat.reduceBEq]; refine hK _ ?_; clear hK K; try simp only [thenL, inBlockL, jumpsL, reduceIte, Nat.reduceEqDiff]) | (refine LW_label ?_; try simp only [thenL, inBlockL, jumpsL, reduceIte, Nat.reduceEqDiff]) | (refine LW_skip ?_; try simp only [thenL, inBlockL, jumpsL, reduceIte, Nat.reduceEqDiff]) | (refine LW_block ?_)))
              by_cases hk3 : a.kind = 3
              · refine LW_if ?_; intro X Y hX hY; simp only [LSa, LSy, LSd, forall_const, implies_true, false_implies, undef, reduceCtorEq, reduceIte, Nat.reduceAdd, Nat.reduceMul, Nat.reduceSub, Nat.reduceLT, Nat.reduceLeDiff, Nat.reduceEqDiff, Int.reduceAdd, Int.reduceSub, Int.reduceMul, Int.reduceLT, Int.reduceLE, Int.reduceEq, Int.reduceNeg, Int.reduceToNat, Nat.reduceBEq, hk3]; refine hX ?_; clear hX hY X Y; try simp only [thenL, inBlockL, jumpsL, reduceIte, Nat.reduceEqDiff]
                (repeat (first | (refine LW_seq ?_) | (refine LW_region ?_; intro K hK; simp only [LSa, LSy, LSd, forall_const, implies_true, false_implies, undef, reduceCtorEq, reduceIte, Nat.reduceAdd, Nat.reduceMul, Nat.reduceSub, Nat.reduceLT, Nat.reduceLeDiff, Nat.reduceEqDiff, Int.reduceAdd, Int.reduceSub, Int.reduceMul, Int.reduceLT, Int.reduceLE, Int.reduceEq, Int.reduceNeg, Int.reduceToNat, Nat.reduceBEq]; refine hK _ ?_; clear hK K; try simp only [thenL, inBlockL, jumpsL, reduceIte, Nat.reduceEqDiff]) | (refine LW_label ?_; try simp only [thenL, inBlockL, jumpsL, reduceIte, Nat.reduceEqDiff]) | (refine LW_skip ?_; try simp only [thenL, inBlockL, jumpsL, reduceIte, Nat.reduceEqDiff]) | (refine LW_block ?_)))
                exact ⟨h0, h3, h4, by unfold letterB; rw [if_neg hk1, if_neg hk2, if_pos hk3]; rfl, ha, hv0, hmd⟩
              · refine LW_if ?_; intro X Y hX hY; simp only [LSa, LSy, LSd, forall_const, implies_true, false_implies, undef, reduceCtorEq, reduceIte, Nat.reduceAdd, Nat.reduceMul, Nat.reduceSub, Nat.reduceLT, Nat.reduceLeDiff, Nat.reduceEqDiff, Int.reduceAdd, Int.reduceSub, Int.reduceMul, Int.reduceLT, Int.reduceLE, Int.reduceEq, Int.reduceNeg, Int.reduceToNat, Nat.reduceBEq, hk3]; refine hY ?_; clear hX hY X Y; (try simp only [thenL, inBlockL, jumpsL, reduceIte, Nat.reduceEqDiff]); (try (refine LW_skip ?_; simp only [thenL, inBlockL, jumpsL, reduceIte, Nat.reduceEqDiff]))
                exact ⟨h0, h3, h4, by unfold letterB; rw [if_neg hk1, if_neg hk2, if_neg hk3]; rfl, ha, hv0, hmd⟩
        · clear h0 h3 h4 ha hv0 hmd
          rintro st ⟨h0, h3, h4, h5, ha, hv0, hmd⟩
          have hbl := bytes_len o2
          have hi1 := Lib.itoa_length_le a.id hid1 hid2
          have hi2 := Lib.itoa_length_le a.perm hpm1 hpm2
          (repeat refine LW_seq ?_)
          refine LW_join (shInv l i va (o2 ++ [letterB a])) ?_ ?_
          · (repeat (first | (refine LW_seq ?_) | (refine LW_skip ?_; simp only [thenL, inBlockL, jumpsL, reduceIte, Nat.reduceEqDiff]) | (refine LW_block ?_))); refine LW_region ?_; intro K hK; simp only [LSa, LSy, LSd, forall_const, implies_true, false_implies, undef, reduceCtorEq, reduceIte, Nat.reduceAdd, Nat.reduceMul, Nat.reduceSub, Nat.reduceLT, Nat.reduceLeDiff, Nat.reduceEqDiff, Int.reduceAdd, Int.reduceSub, Int.reduceMul, Int.reduceLT, Int.reduceLE, Int.reduceEq, Int.reduceNeg, Int.reduceToNat, Nat.reduceBEq, h3, h5, ha, hmd, hbl]
            refine ⟨⟨by omega, by unfold maxLen; omega⟩, ?_⟩
            refine hK _ ?_; clear hK K; try simp only [thenL, inBlockL, jumpsL, reduceIte, Nat.reduceEqDiff]
            exact ⟨by simp only [LSa, LSy, LSd, forall_const, implies_true, false_implies, undef, reduceCtorEq, reduceIte, Nat.reduceAdd, Nat.reduceMul, Nat.reduceSub, Nat.reduceLT, Nat.reduceLeDiff, Nat.reduceEqDiff, Int.reduceAdd, Int.reduceSub, Int.reduceMul, Int.reduceLT, Int.reduceLE, Int.reduceEq, Int.reduceNeg, Int.reduceToNat, Nat.reduceBEq, h0, acesL], by rw [List.length_append]; rfl, by simp only [LSa, LSy, LSd, forall_const, implies_true, false_implies, undef, reduceCtorEq, reduceIte, Nat.reduceAdd, Nat.reduceMul, Nat.reduceSub, Nat.reduceLT, Nat.reduceLeDiff, Nat.reduceEqDiff, Int.reduceAdd, Int.reduceSub, Int.reduceMul, Int.reduceLT, Int.reduceLE, Int.reduceEq, Int.reduceNeg, Int.reduceToNat, Nat.reduceBEq, h4], by rw [bytes_snoc]; rfl, hv0, rfl⟩
          clear h0 h3 h4 h5 ha hv0 hmd hbl
          have hl3 : (o2 ++ [letterB a]).length = o2.length + 1 := by rw [List.length_append]; rfl
          generalize hO3 : o2 ++ [letterB a] = o3 at *
          rintro st ⟨h0, h3, h4, ha, hv0, hmd⟩
          (repeat refine LW_seq ?_)
          refine LW_join (shInv l i va (o3 ++ Lib.itoa a.id)) ?_ ?_
          · (repeat (first | (refine LW_seq ?_) | (refine LW_skip ?_; simp only [thenL, inBlockL, jumpsL, reduceIte, Nat.reduceEqDiff]) | (refine LW_block ?_))); refine LW_mid 6 rfl rfl ?_; intro K hK; simp only [LSa, LSy, LSd, forall_const, implies_true, false_implies, undef, reduceCtorEq, reduceIte, Nat.reduceAdd, Nat.reduceMul, Nat.reduceSub, Nat.reduceLT, Nat.reduceLeDiff, Nat.reduceEqDiff, Int.reduceAdd, Int.reduceSub, Int.reduceMul, Int.reduceLT, Int.reduceLE, Int.reduceEq, Int.reduceNeg, Int.reduceToNat, Nat.reduceBEq, h0, h3, h4, ha, acesL, hlt, hd, aceL]; refine hK _ ?_; clear hK K
            refine appendInt_mid (fun k => if k = 0 then some (acesL l) else none) (xs := Lib.byteCells o3) (d := 3) (n := o3.length) (i := a.id) appInt_contract appInt_enters (by kernel_rfl) ?_ rfl ?_ (Lib.byteCells_length _) rfl hid1 hid2 rfl (by omega) (by decide) ?_
            · intro k z hk
              split at hk
              · rename_i hk0; subst hk0; cases hk; exact ⟨va, by simp only [LSa, LSy, LSd, forall_const, implies_true, false_implies, undef, reduceCtorEq, reduceIte, Nat.reduceAdd, Nat.reduceMul, Nat.reduceSub, Nat.reduceLT, Nat.reduceLeDiff, Nat.reduceEqDiff, Int.reduceAdd, Int.reduceSub, Int.reduceMul, Int.reduceLT, Int.reduceLE, Int.reduceEq, Int.reduceNeg, Int.reduceToNat, Nat.reduceBEq, hv0], hrep⟩
              · cases hk
            · exact ha
            intro K hK
            simp only [LSa, LSy, LSd, forall_const, implies_true, false_implies, undef, reduceCtorEq, reduceIte, Nat.reduceAdd, Nat.reduceMul, Nat.reduceSub, Nat.reduceLT, Nat.reduceLeDiff, Nat.reduceEqDiff, Int.reduceAdd, Int.reduceSub, Int.reduceMul, Int.reduceLT, Int.reduceLE, Int.reduceEq, Int.reduceNeg, Int.reduceToNat, Nat.reduceBEq, LSt.wipe, lo_lit, h4, bytes_app]
            refine hK _ ?_; clear hK K; try simp only [thenL, inBlockL, jumpsL, reduceIte, Nat.reduceEqDiff]
            exact ⟨rfl, by rw [List.length_append]; rfl, by simp only [LSa, LSy, LSd, forall_const, implies_true, false_implies, undef, reduceCtorEq, reduceIte, Nat.reduceAdd, Nat.reduceMul, Nat.reduceSub, Nat.reduceLT, Nat.reduceLeDiff, Nat.reduceEqDiff, Int.reduceAdd, Int.reduceSub, Int.reduceMul, Int.reduceLT, Int.reduceLE, Int.reduceEq, Int.reduceNeg, Int.reduceToNat, Nat.reduceBEq, lo_lit, h4], rfl, hv0, hmd⟩
          clear h0 h3 h4 ha hv0 hmd
          have hl4 : (o3 ++ Lib.itoa a.id).length = o3.length + (Lib.itoa a.id).length := List.length_append
          generalize hO4 : o3 ++ Lib.itoa a.id = o4 at *
          rintro st ⟨h0, h3, h4, ha, hv0, hmd⟩
          have hbl := bytes_len o4
          (repeat refine LW_seq ?_)
          refine LW_join (shInv l i va (o4 ++ [58])) ?_ ?_
          · (repeat (first | (refine LW_seq ?_) | (refine LW_skip ?_; simp only [thenL, inBlockL, jumpsL, reduceIte, Nat.reduceEqDiff]) | (refine LW_block ?_))); refine LW_region ?_; intro K hK; simp only [LSa, LSy, LSd, forall_const, implies_true, false_implies, undef, reduceCtorEq, reduceIte, Nat.reduceAdd, Nat.reduceMul, Nat.reduceSub, Nat.reduceLT, Nat.reduceLeDiff, Nat.reduceEqDiff, Int.reduceAdd, Int.reduceSub, Int.reduceMul, Int.reduceLT, Int.reduceLE, Int.reduceEq, Int.reduceNeg, Int.reduceToNat, Nat.reduceBEq, h3, ha, hmd, hbl]
            refine ⟨⟨by omega, by unfold maxLen; omega⟩, ?_⟩
            refine hK _ ?_; clear hK K; try simp only [thenL, inBlockL, jumpsL, reduceIte, Nat.reduceEqDiff]
            exact ⟨by simp only [LSa, LSy, LSd, forall_const, implies_true, false_implies, undef, reduceCtorEq, reduceIte, Nat.reduceAdd, Nat.reduceMul, Nat.reduceSub, Nat.reduceLT, Nat.reduceLeDiff, Nat.reduceEqDiff, Int.reduceAdd, Int.reduceSub, Int.reduceMul, Int.reduceLT, Int.reduceLE, Int.reduceEq, Int.reduceNeg, Int.reduceToNat, Nat.reduceBEq, h0, acesL], by rw [List.length_append]; rfl, by simp only [LSa, LSy, LSd, forall_const, implies_true, false_implies, undef, reduceCtorEq, reduceIte, Nat.reduceAdd, Nat.reduceMul, Nat.reduceSub, Nat.reduceLT, Nat.reduceLeDiff, Nat.reduceEqDiff, Int.reduceAdd, Int.reduceSub, Int.reduceMul, Int.reduceLT, Int.reduceLE, Int.reduceEq, Int.reduceNeg, Int.reduceToNat, Nat.reduceBEq, h4], by rw [bytes_snoc]; rfl, hv0, rfl⟩
          clear h0 h3 h4 ha hv0 hmd hbl
          have hl5 : (o4 ++ [58]).length = o4.length + 1 := by rw [List.length_append]; rfl
          generalize hO5 : o4 ++ [58] = o5 at *
          rintro st ⟨h0, h3, h4, ha, hv0, hmd⟩
          (repeat refine LW_seq ?_)
          refine LW_join (shInv l i va (o5 ++ Lib.itoa a.perm)) ?_ ?_
          · (repeat (first | (refine LW_seq ?_) | (refine LW_skip ?_; simp only [thenL, inBlockL, jumpsL, reduceIte, Nat.reduceEqDiff]) | (refine LW_block ?_))); refine LW_mid 6 rfl rfl ?_; intro K hK; simp only [LSa, LSy, LSd, forall_const, implies_true, false_implies, undef, reduceCtorEq, reduceIte, Nat.reduceAdd, Nat.reduceMul, Nat.reduceSub, Nat.reduceLT, Nat.reduceLeDiff, Nat.reduceEqDiff, Int.reduceAdd, Int.reduceSub, Int.reduceMul, Int.reduceLT, Int.reduceLE, Int.reduceEq, Int.reduceNeg, Int.reduceToNat, Nat.reduceBEq, h0, h3, h4, ha, acesL, hlt, hd, aceL]; refine hK _ ?_; clear hK K
            refine appendInt_mid (fun k => if k = 0 then some (acesL l) else none) (xs := Lib.byteCells o5) (d := 3) (n := o5.length) (i := a.perm) appInt_contract appInt_enters (by kernel_rfl) ?_ rfl ?_ (Lib.byteCells_length _) rfl hpm1 hpm2 rfl (by omega) (by decide) ?_
            · intro k z hk
              split at hk
              · rename_i hk0; subst hk0; cases hk; exact ⟨va, by simp only [LSa, LSy, LSd, forall_const, implies_true, false_implies, undef, reduceCtorEq, reduceIte, Nat.reduceAdd, Nat.reduceMul, Nat.reduceSub, Nat.reduceLT, Nat.reduceLeDiff, Nat.reduceEqDiff, Int.reduceAdd, Int.reduceSub, Int.reduceMul, Int.reduceLT, Int.reduceLE, Int.reduceEq, Int.reduceNeg, Int.reduceToNat, Nat.reduceBEq, hv0], hrep⟩
              · cases hk
            · exact ha
            intro K hK
            simp only [LSa, LSy, LSd, forall_const, implies_true, false_implies, undef, reduceCtorEq, reduceIte, Nat.reduceAdd, Nat.reduceMul, Nat.reduceSub, Nat.reduceLT, Nat.reduceLeDiff, Nat.reduceEqDiff, Int.reduceAdd, Int.reduceSub, Int.reduceMul, Int.reduceLT, Int.reduceLE, Int.reduceEq, Int.reduceNeg, Int.reduceToNat, Nat.reduceBEq, LSt.wipe, lo_lit, h4, bytes_app]
            refine hK _ ?_; clear hK K; try simp only [thenL, inBlockL, jumpsL, reduceIte, Nat.reduceEqDiff]
            exact ⟨rfl, by rw [List.length_append]; rfl, by simp only [LSa, LSy, LSd, forall_const, implies_true, false_implies, undef, reduceCtorEq, reduceIte, Nat.reduceAdd, Nat.reduceMul, Nat.reduceSub, Nat.reduceLT, Nat.reduceLeDiff, Nat.reduceEqDiff, Int.reduceAdd, Int.reduceSub, Int.reduceMul, Int.reduceLT, Int.reduceLE, Int.reduceEq, Int.reduceNeg, Int.reduceToNat, Nat.reduceBEq, lo_lit, h4], rfl, hv0, hmd⟩
          clear h0 h3 h4 ha hv0 hmd
          rintro st ⟨h0, h3, h4, ha, hv0, hmd⟩
          (repeat (first | (refine LW_seq ?_) | (refine LW_region ?_; intro K hK; simp only [LSa, LSy, LSd, forall_const, implies_true, false_implies, undef, reduceCtorEq, reduceIte, Nat.reduceAdd, Nat.reduceMul, Nat.reduceSub, Nat.reduceLT, Nat.reduceLeDiff, Nat.reduceEqDiff, Int.reduceAdd, Int.reduceSub, Int.reduceMul, Int.reduceLT, Int.reduceLE, Int.reduceEq, Int.reduceNeg, Int.reduceToNat, Nat.reduceBEq, h4, hw]; refine hK _ ?_; clear hK K; try simp only [thenL, inBlockL, jumpsL, reduceIte, Nat.reduceEqDiff]) | (refine LW_label ?_; try simp only [thenL, inBlockL, jumpsL, reduceIte, Nat.reduceEqDiff]) | (refine LW_skip ?_; try simp only [thenL, inBlockL, jumpsL, reduceIte, Nat.reduceEqDiff]) | (refine LW_block ?_)))
          refine LW_goto ?_; simp only [thenL, jumpsL, inBlockL, twoL, true_and]
          refine ⟨n - 1, by omega, i + 1, o5 ++ Lib.itoa a.perm, by omega, ?_, h0, h3, rfl, ha, hv0, hmd⟩
          rw [showN_succ hai, ← hout]
          unfold stepB
          rw [hO, hO3, hO4, hO5]
    · refine LW_if ?_; intro X Y hX hY; simp only [LSa, LSy, LSd, forall_const, implies_true, false_implies, undef, reduceCtorEq, reduceIte, Nat.reduceAdd, Nat.reduceMul, Nat.reduceSub, Nat.reduceLT, Nat.reduceLeDiff, Nat.reduceEqDiff, Int.reduceAdd, Int.reduceSub, Int.reduceMul, Int.reduceLT, Int.reduceLE, Int.reduceEq, Int.reduceNeg, Int.reduceToNat, Nat.reduceBEq, hlt]; refine hY ?_; clear hX hY X Y; (try simp only [thenL, inBlockL, jumpsL, reduceIte, Nat.reduceEqDiff]); (try (refine LW_skip ?_; simp only [thenL, inBlockL, jumpsL, reduceIte, Nat.reduceEqDiff]))
      have hie : i = l.length := by omega
      (repeat refine LW_seq ?_)
      (repeat (first | (refine LW_seq ?_) | (refine LW_skip ?_; simp only [thenL, inBlockL, jumpsL, reduceIte, Nat.reduceEqDiff]) | (refine LW_block ?_))); refine LW_mid 1 rfl rfl ?_; intro K hK; simp only [LSa, LSy, LSd, forall_const, implies_true, false_implies, undef, reduceCtorEq, reduceIte, Nat.reduceAdd, Nat.reduceMul, Nat.reduceSub, Nat.reduceLT, Nat.reduceLeDiff, Nat.reduceEqDiff, Int.reduceAdd, Int.reduceSub, Int.reduceMul, Int.reduceLT, Int.reduceLE, Int.reduceEq, Int.reduceNeg, Int.reduceToNat, Nat.reduceBEq, h3]; refine hK _ ?_; clear hK K
      refine bytes_mid (l := out) (d := 3) (e := 5) Tryd.underlying44 Tryd.underlying5 Tryd.underlying9 rfl ?_ rfl (by decide) ?_
      · exact ha
      intro K hK
      simp only [LSa, LSy, LSd, forall_const, implies_true, false_implies, undef, reduceCtorEq, reduceIte, Nat.reduceAdd, Nat.reduceMul, Nat.reduceSub, Nat.reduceLT, Nat.reduceLeDiff, Nat.reduceEqDiff, Int.reduceAdd, Int.reduceSub, Int.reduceMul, Int.reduceLT, Int.reduceLE, Int.reduceEq, Int.reduceNeg, Int.reduceToNat, Nat.reduceBEq]
      refine hK _ ?_; clear hK K; try simp only [thenL, inBlockL, jumpsL, reduceIte, Nat.reduceEqDiff]
      refine LW_ret ?_; simp only [thenL, jumpsL, inBlockL, twoL, bodyQ, LV.lit.injEq, LV.tup.injEq, LV.agg.injEq, LV.sl.injEq, List.cons.injEq, Value.int.injEq, Value.bool.injEq, Value.string.injEq, ByteArray.mk.injEq, exists_eq_left', exists_eq_left, exists_eq_right, LSa, LSy, LSd, forall_const, implies_true, false_implies, undef, reduceCtorEq, reduceIte, Nat.reduceAdd, Nat.reduceMul, Nat.reduceSub, Nat.reduceLT, Nat.reduceLeDiff, Nat.reduceEqDiff, Int.reduceAdd, Int.reduceSub, Int.reduceMul, Int.reduceLT, Int.reduceLE, Int.reduceEq, Int.reduceNeg, Int.reduceToNat, Nat.reduceBEq]
      rw [hout, hie]
      rfl
end Go.Proofs.YtmchdjpgceiloaaDoor
