/-
  steamerlaw4.told, by what it returns.
-/
import Derived.Test.YtmchdjpgceiloaaKM3
set_option linter.unusedSimpArgs false
set_option linter.unusedVariables false
namespace Go.Proofs.Ytmchdjpgceiloaa
open Go.RowKit AclSpec MetaSpec GSort

def ta : Attr := ⟨[97], [49]⟩
def tb : Attr := ⟨[98], []⟩
theorem tt_norm : normT [tb, ta] = ([ta, tb], 0) := by
  unfold normT
  rw [normG_rest bl_lo (l' := [ta, tb]) (by decide +kernel) (List.Perm.swap _ _ _) (by unfold SortedG; simp [ta, tb]; decide +kernel) (fun i a b h1 h2 => ?_)]
  · rfl
  · match i with
    | 0 => simp at h1 h2; subst h1; subst h2; decide
    | i + 1 => simp at h2
theorem tt_norm2 : normT [⟨[97], []⟩, ⟨[97], []⟩] = ([], 6) := by
  unfold normT
  exact normG_dup (l' := [⟨[97], []⟩, ⟨[97], []⟩]) (by decide +kernel) (.refl _) (i := 0) rfl rfl rfl
theorem tt_norm3 : normT [⟨[], []⟩] = ([], 1) := by
  unfold normT
  exact normG_bad (i := 0) rfl (by decide +kernel)
def tm : Meta := ⟨420, 0, 0, 0, [ta, tb], []⟩
def tn : Meta := ⟨420, 0, 0, 5, [ta, tb], []⟩
def t4 : Meta := ⟨4096, 0, 0, 0, [], []⟩
def t5 : Meta := ⟨0, 0, 0, -1, [], []⟩
theorem tt_may : mayM tm = true := by decide +kernel
theorem tt_may4 : mayM t4 = false := by decide +kernel
theorem tt_may5 : mayM t5 = false := by decide +kernel

set_option maxRecDepth 100000 in
set_option maxHeartbeats 2000000 in
theorem told_L : LCalls Try.prog 8 [] (boolL true) := by
  have n1 := mnorm_L [tb, ta] (by decide)
  rw [tt_norm] at n1
  have n2 := mnorm_L [⟨[97], []⟩, ⟨[97], []⟩] (by decide)
  rw [tt_norm2] at n2
  have n3 := mnorm_L [⟨[], []⟩] (by decide)
  rw [tt_norm3] at n3
  have m1 := mmay_L tm (by decide)
  rw [tt_may] at m1
  have m2 := mmay_L t4 (by decide)
  rw [tt_may4] at m2
  have m3 := mmay_L t5 (by decide)
  rw [tt_may5] at m3
  have k1 := copy_L tm (by decide) (by decide)
  have s1 := msame_L tm tm (by decide) (by decide) (by decide) (by decide)
  rw [decide_eq_true rfl] at s1
  have s2 := msame_L tm tn (by decide) (by decide) (by decide) (by decide)
  rw [show decide (tm = tn) = false by decide] at s2
  have d1 := diff_L tm tn (by decide) (by decide) (by decide) (by decide)
  rw [show diffM tm tn = [116, 105, 109, 101] by decide] at d1
  have d2 := diff_L tm tm (by decide) (by decide) (by decide) (by decide)
  rw [show diffM tm tm = [] by decide] at d2
  simp only [metaL, attrsL, acesL, rowL, attrL, tm, tn, t4, t5, ta, tb, intL, boolL, strL, List.flatMap_cons, List.flatMap_nil, List.cons_append, List.nil_append, List.append_nil, List.length_cons, List.length_nil, Nat.reduceAdd] at n1 n2 n3 m1 m2 m3 k1 s1 s2 d1 d2
  refine LCalls.of (fun _ => false) Try.func8 rfl (by decide) Try.ntmps8 Try.results8 (by simp) ?_
  intro w0 S0 vs hgl hwf0 hsz hvs; clear hsz hvs hwf0 hgl
  (repeat (first | (refine LW_seq ?_) | (refine LW_region ?_; intro K hK; simp only [LSa, LSy, LSd, forall_const, implies_true, false_implies, undef, reduceCtorEq, reduceIte, Nat.reduceAdd, Nat.reduceMul, Nat.reduceSub, Nat.reduceLT, Nat.reduceLeDiff, Nat.reduceEqDiff, Int.reduceAdd, Int.reduceSub, Int.reduceMul, Int.reduceLT, Int.reduceLE, Int.reduceEq, Int.reduceNeg, Int.reduceToNat, Nat.reduceBEq]; refine hK _ ?_; clear hK K; try simp only [thenL, inBlockL, jumpsL, reduceIte, Nat.reduceEqDiff]) | (refine LW_label ?_; try simp only [thenL, inBlockL, jumpsL, reduceIte, Nat.reduceEqDiff]) | (refine LW_skip ?_; try simp only [thenL, inBlockL, jumpsL, reduceIte, Nat.reduceEqDiff]) | (refine LW_block ?_)))
  (repeat (first | (refine LW_seq ?_) | (refine LW_skip ?_; simp only [thenL, inBlockL, jumpsL, reduceIte, Nat.reduceEqDiff]) | (refine LW_block ?_))); refine LW_region ?_; intro K hK; simp only [LSa, LSy, LSd, forall_const, implies_true, false_implies, undef, reduceCtorEq, reduceIte, Nat.reduceAdd, Nat.reduceMul, Nat.reduceSub, Nat.reduceLT, Nat.reduceLeDiff, Nat.reduceEqDiff, Int.reduceAdd, Int.reduceSub, Int.reduceMul, Int.reduceLT, Int.reduceLE, Int.reduceEq, Int.reduceNeg, Int.reduceToNat, Nat.reduceBEq]
  refine cop_intro ?ha (n1) ?_; (case ha => (simp only [LSa, LSy, LSd, forall_const, implies_true, false_implies, undef, reduceCtorEq, reduceIte, Nat.reduceAdd, Nat.reduceMul, Nat.reduceSub, Nat.reduceLT, Nat.reduceLeDiff, Nat.reduceEqDiff, Int.reduceAdd, Int.reduceSub, Int.reduceMul, Int.reduceLT, Int.reduceLE, Int.reduceEq, Int.reduceNeg, Int.reduceToNat, Nat.reduceBEq]) <;> rfl); simp only [LSa, LSy, LSd, forall_const, implies_true, false_implies, undef, reduceCtorEq, reduceIte, Nat.reduceAdd, Nat.reduceMul, Nat.reduceSub, Nat.reduceLT, Nat.reduceLeDiff, Nat.reduceEqDiff, Int.reduceAdd, Int.reduceSub, Int.reduceMul, Int.reduceLT, Int.reduceLE, Int.reduceEq, Int.reduceNeg, Int.reduceToNat, Nat.reduceBEq]
  refine hK _ ?_; clear hK K; try simp only [thenL, inBlockL, jumpsL, reduceIte, Nat.reduceEqDiff]
  (repeat (first | (refine LW_seq ?_) | (refine LW_skip ?_; simp only [thenL, inBlockL, jumpsL, reduceIte, Nat.reduceEqDiff]) | (refine LW_block ?_))); refine LW_region ?_; intro K hK; simp only [LSa, LSy, LSd, forall_const, implies_true, false_implies, undef, reduceCtorEq, reduceIte, Nat.reduceAdd, Nat.reduceMul, Nat.reduceSub, Nat.reduceLT, Nat.reduceLeDiff, Nat.reduceEqDiff, Int.reduceAdd, Int.reduceSub, Int.reduceMul, Int.reduceLT, Int.reduceLE, Int.reduceEq, Int.reduceNeg, Int.reduceToNat, Nat.reduceBEq]
  refine cop_intro ?ha (n2) ?_; (case ha => (simp only [LSa, LSy, LSd, forall_const, implies_true, false_implies, undef, reduceCtorEq, reduceIte, Nat.reduceAdd, Nat.reduceMul, Nat.reduceSub, Nat.reduceLT, Nat.reduceLeDiff, Nat.reduceEqDiff, Int.reduceAdd, Int.reduceSub, Int.reduceMul, Int.reduceLT, Int.reduceLE, Int.reduceEq, Int.reduceNeg, Int.reduceToNat, Nat.reduceBEq]) <;> rfl); simp only [LSa, LSy, LSd, forall_const, implies_true, false_implies, undef, reduceCtorEq, reduceIte, Nat.reduceAdd, Nat.reduceMul, Nat.reduceSub, Nat.reduceLT, Nat.reduceLeDiff, Nat.reduceEqDiff, Int.reduceAdd, Int.reduceSub, Int.reduceMul, Int.reduceLT, Int.reduceLE, Int.reduceEq, Int.reduceNeg, Int.reduceToNat, Nat.reduceBEq]
  refine hK _ ?_; clear hK K; try simp only [thenL, inBlockL, jumpsL, reduceIte, Nat.reduceEqDiff]
  (repeat (first | (refine LW_seq ?_) | (refine LW_skip ?_; simp only [thenL, inBlockL, jumpsL, reduceIte, Nat.reduceEqDiff]) | (refine LW_block ?_))); refine LW_region ?_; intro K hK; simp only [LSa, LSy, LSd, forall_const, implies_true, false_implies, undef, reduceCtorEq, reduceIte, Nat.reduceAdd, Nat.reduceMul, Nat.reduceSub, Nat.reduceLT, Nat.reduceLeDiff, Nat.reduceEqDiff, Int.reduceAdd, Int.reduceSub, Int.reduceMul, Int.reduceLT, Int.reduceLE, Int.reduceEq, Int.reduceNeg, Int.reduceToNat, Nat.reduceBEq]
  refine cop_intro ?ha (n3) ?_; (case ha => (simp only [LSa, LSy, LSd, forall_const, implies_true, false_implies, undef, reduceCtorEq, reduceIte, Nat.reduceAdd, Nat.reduceMul, Nat.reduceSub, Nat.reduceLT, Nat.reduceLeDiff, Nat.reduceEqDiff, Int.reduceAdd, Int.reduceSub, Int.reduceMul, Int.reduceLT, Int.reduceLE, Int.reduceEq, Int.reduceNeg, Int.reduceToNat, Nat.reduceBEq]) <;> rfl); simp only [LSa, LSy, LSd, forall_const, implies_true, false_implies, undef, reduceCtorEq, reduceIte, Nat.reduceAdd, Nat.reduceMul, Nat.reduceSub, Nat.reduceLT, Nat.reduceLeDiff, Nat.reduceEqDiff, Int.reduceAdd, Int.reduceSub, Int.reduceMul, Int.reduceLT, Int.reduceLE, Int.reduceEq, Int.reduceNeg, Int.reduceToNat, Nat.reduceBEq]
  refine hK _ ?_; clear hK K; try simp only [thenL, inBlockL, jumpsL, reduceIte, Nat.reduceEqDiff]
  (repeat (first | (refine LW_seq ?_) | (refine LW_region ?_; intro K hK; simp only [LSa, LSy, LSd, forall_const, implies_true, false_implies, undef, reduceCtorEq, reduceIte, Nat.reduceAdd, Nat.reduceMul, Nat.reduceSub, Nat.reduceLT, Nat.reduceLeDiff, Nat.reduceEqDiff, Int.reduceAdd, Int.reduceSub, Int.reduceMul, Int.reduceLT, Int.reduceLE, Int.reduceEq, Int.reduceNeg, Int.reduceToNat, Nat.reduceBEq]; refine hK _ ?_; clear hK K; try simp only [thenL, inBlockL, jumpsL, reduceIte, Nat.reduceEqDiff]) | (refine LW_label ?_; try simp only [thenL, inBlockL, jumpsL, reduceIte, Nat.reduceEqDiff]) | (refine LW_skip ?_; try simp only [thenL, inBlockL, jumpsL, reduceIte, Nat.reduceEqDiff]) | (refine LW_block ?_)))
  (repeat refine LW_seq ?_)
  refine LW_regionA (l := ?l) ?hl ?_
  case hl => (first | simp only [Array.append_eq_append, List.append_toArray, List.append_eq, List.cons_append, List.nil_append] | skip); exact rfl
  (repeat (first | (refine LW_seq ?_) | (refine LW_skip ?_; simp only [thenL, inBlockL, jumpsL, reduceIte, Nat.reduceEqDiff]) | (refine LW_block ?_))); refine LW_any (by kernel_rfl) (by kernel_rfl) (by kernel_rfl) (by first | exact rfl | (rw [hmd]; exact rfl)) ?_; intro K hK; simp only [LSa, LSy, LSd, forall_const, implies_true, false_implies, undef, reduceCtorEq, reduceIte, Nat.reduceAdd, Nat.reduceMul, Nat.reduceSub, Nat.reduceLT, Nat.reduceLeDiff, Nat.reduceEqDiff, Int.reduceAdd, Int.reduceSub, Int.reduceMul, Int.reduceLT, Int.reduceLE, Int.reduceEq, Int.reduceNeg, Int.reduceToNat, Nat.reduceBEq]
  refine cop_intro ?ha (m1) ?_; (case ha => (simp only [LSa, LSy, LSd, forall_const, implies_true, false_implies, undef, reduceCtorEq, reduceIte, Nat.reduceAdd, Nat.reduceMul, Nat.reduceSub, Nat.reduceLT, Nat.reduceLeDiff, Nat.reduceEqDiff, Int.reduceAdd, Int.reduceSub, Int.reduceMul, Int.reduceLT, Int.reduceLE, Int.reduceEq, Int.reduceNeg, Int.reduceToNat, Nat.reduceBEq]) <;> rfl); simp only [LSa, LSy, LSd, forall_const, implies_true, false_implies, undef, reduceCtorEq, reduceIte, Nat.reduceAdd, Nat.reduceMul, Nat.reduceSub, Nat.reduceLT, Nat.reduceLeDiff, Nat.reduceEqDiff, Int.reduceAdd, Int.reduceSub, Int.reduceMul, Int.reduceLT, Int.reduceLE, Int.reduceEq, Int.reduceNeg, Int.reduceToNat, Nat.reduceBEq]
  refine cop_intro ?ha (m2) ?_; (case ha => (simp only [LSa, LSy, LSd, forall_const, implies_true, false_implies, undef, reduceCtorEq, reduceIte, Nat.reduceAdd, Nat.reduceMul, Nat.reduceSub, Nat.reduceLT, Nat.reduceLeDiff, Nat.reduceEqDiff, Int.reduceAdd, Int.reduceSub, Int.reduceMul, Int.reduceLT, Int.reduceLE, Int.reduceEq, Int.reduceNeg, Int.reduceToNat, Nat.reduceBEq]) <;> rfl); simp only [LSa, LSy, LSd, forall_const, implies_true, false_implies, undef, reduceCtorEq, reduceIte, Nat.reduceAdd, Nat.reduceMul, Nat.reduceSub, Nat.reduceLT, Nat.reduceLeDiff, Nat.reduceEqDiff, Int.reduceAdd, Int.reduceSub, Int.reduceMul, Int.reduceLT, Int.reduceLE, Int.reduceEq, Int.reduceNeg, Int.reduceToNat, Nat.reduceBEq]
  refine cop_intro ?ha (m3) ?_; (case ha => (simp only [LSa, LSy, LSd, forall_const, implies_true, false_implies, undef, reduceCtorEq, reduceIte, Nat.reduceAdd, Nat.reduceMul, Nat.reduceSub, Nat.reduceLT, Nat.reduceLeDiff, Nat.reduceEqDiff, Int.reduceAdd, Int.reduceSub, Int.reduceMul, Int.reduceLT, Int.reduceLE, Int.reduceEq, Int.reduceNeg, Int.reduceToNat, Nat.reduceBEq]) <;> rfl); simp only [LSa, LSy, LSd, forall_const, implies_true, false_implies, undef, reduceCtorEq, reduceIte, Nat.reduceAdd, Nat.reduceMul, Nat.reduceSub, Nat.reduceLT, Nat.reduceLeDiff, Nat.reduceEqDiff, Int.reduceAdd, Int.reduceSub, Int.reduceMul, Int.reduceLT, Int.reduceLE, Int.reduceEq, Int.reduceNeg, Int.reduceToNat, Nat.reduceBEq]
  refine cop_intro ?ha (k1) ?_; (case ha => (simp only [LSa, LSy, LSd, forall_const, implies_true, false_implies, undef, reduceCtorEq, reduceIte, Nat.reduceAdd, Nat.reduceMul, Nat.reduceSub, Nat.reduceLT, Nat.reduceLeDiff, Nat.reduceEqDiff, Int.reduceAdd, Int.reduceSub, Int.reduceMul, Int.reduceLT, Int.reduceLE, Int.reduceEq, Int.reduceNeg, Int.reduceToNat, Nat.reduceBEq]) <;> rfl); simp only [LSa, LSy, LSd, forall_const, implies_true, false_implies, undef, reduceCtorEq, reduceIte, Nat.reduceAdd, Nat.reduceMul, Nat.reduceSub, Nat.reduceLT, Nat.reduceLeDiff, Nat.reduceEqDiff, Int.reduceAdd, Int.reduceSub, Int.reduceMul, Int.reduceLT, Int.reduceLE, Int.reduceEq, Int.reduceNeg, Int.reduceToNat, Nat.reduceBEq]
  refine cop_intro ?ha (s1) ?_; (case ha => (simp only [LSa, LSy, LSd, forall_const, implies_true, false_implies, undef, reduceCtorEq, reduceIte, Nat.reduceAdd, Nat.reduceMul, Nat.reduceSub, Nat.reduceLT, Nat.reduceLeDiff, Nat.reduceEqDiff, Int.reduceAdd, Int.reduceSub, Int.reduceMul, Int.reduceLT, Int.reduceLE, Int.reduceEq, Int.reduceNeg, Int.reduceToNat, Nat.reduceBEq]) <;> rfl); simp only [LSa, LSy, LSd, forall_const, implies_true, false_implies, undef, reduceCtorEq, reduceIte, Nat.reduceAdd, Nat.reduceMul, Nat.reduceSub, Nat.reduceLT, Nat.reduceLeDiff, Nat.reduceEqDiff, Int.reduceAdd, Int.reduceSub, Int.reduceMul, Int.reduceLT, Int.reduceLE, Int.reduceEq, Int.reduceNeg, Int.reduceToNat, Nat.reduceBEq]
  refine cop_intro ?ha (s2) ?_; (case ha => (simp only [LSa, LSy, LSd, forall_const, implies_true, false_implies, undef, reduceCtorEq, reduceIte, Nat.reduceAdd, Nat.reduceMul, Nat.reduceSub, Nat.reduceLT, Nat.reduceLeDiff, Nat.reduceEqDiff, Int.reduceAdd, Int.reduceSub, Int.reduceMul, Int.reduceLT, Int.reduceLE, Int.reduceEq, Int.reduceNeg, Int.reduceToNat, Nat.reduceBEq]) <;> rfl); simp only [LSa, LSy, LSd, forall_const, implies_true, false_implies, undef, reduceCtorEq, reduceIte, Nat.reduceAdd, Nat.reduceMul, Nat.reduceSub, Nat.reduceLT, Nat.reduceLeDiff, Nat.reduceEqDiff, Int.reduceAdd, Int.reduceSub, Int.reduceMul, Int.reduceLT, Int.reduceLE, Int.reduceEq, Int.reduceNeg, Int.reduceToNat, Nat.reduceBEq]
  refine cop_intro ?ha (d1) ?_; (case ha => (simp only [LSa, LSy, LSd, forall_const, implies_true, false_implies, undef, reduceCtorEq, reduceIte, Nat.reduceAdd, Nat.reduceMul, Nat.reduceSub, Nat.reduceLT, Nat.reduceLeDiff, Nat.reduceEqDiff, Int.reduceAdd, Int.reduceSub, Int.reduceMul, Int.reduceLT, Int.reduceLE, Int.reduceEq, Int.reduceNeg, Int.reduceToNat, Nat.reduceBEq]) <;> rfl); simp only [LSa, LSy, LSd, forall_const, implies_true, false_implies, undef, reduceCtorEq, reduceIte, Nat.reduceAdd, Nat.reduceMul, Nat.reduceSub, Nat.reduceLT, Nat.reduceLeDiff, Nat.reduceEqDiff, Int.reduceAdd, Int.reduceSub, Int.reduceMul, Int.reduceLT, Int.reduceLE, Int.reduceEq, Int.reduceNeg, Int.reduceToNat, Nat.reduceBEq]
  refine cop_intro ?ha (d2) ?_; (case ha => (simp only [LSa, LSy, LSd, forall_const, implies_true, false_implies, undef, reduceCtorEq, reduceIte, Nat.reduceAdd, Nat.reduceMul, Nat.reduceSub, Nat.reduceLT, Nat.reduceLeDiff, Nat.reduceEqDiff, Int.reduceAdd, Int.reduceSub, Int.reduceMul, Int.reduceLT, Int.reduceLE, Int.reduceEq, Int.reduceNeg, Int.reduceToNat, Nat.reduceBEq]) <;> rfl); simp only [LSa, LSy, LSd, forall_const, implies_true, false_implies, undef, reduceCtorEq, reduceIte, Nat.reduceAdd, Nat.reduceMul, Nat.reduceSub, Nat.reduceLT, Nat.reduceLeDiff, Nat.reduceEqDiff, Int.reduceAdd, Int.reduceSub, Int.reduceMul, Int.reduceLT, Int.reduceLE, Int.reduceEq, Int.reduceNeg, Int.reduceToNat, Nat.reduceBEq]
  refine hK _ ?_; clear hK K; try simp only [thenL, inBlockL, jumpsL, reduceIte, Nat.reduceEqDiff]
  refine LW_ret ?_; simp only [thenL, jumpsL, inBlockL, twoL, bodyQ, LV.lit.injEq, LV.tup.injEq, LV.agg.injEq, LV.sl.injEq, List.cons.injEq, Value.int.injEq, Value.bool.injEq, Value.string.injEq, ByteArray.mk.injEq, exists_eq_left', exists_eq_left, exists_eq_right, LSa, LSy, LSd, forall_const, implies_true, false_implies, undef, reduceCtorEq, reduceIte, Nat.reduceAdd, Nat.reduceMul, Nat.reduceSub, Nat.reduceLT, Nat.reduceLeDiff, Nat.reduceEqDiff, Int.reduceAdd, Int.reduceSub, Int.reduceMul, Int.reduceLT, Int.reduceLE, Int.reduceEq, Int.reduceNeg, Int.reduceToNat, Nat.reduceBEq]
end Go.Proofs.Ytmchdjpgceiloaa
