/-
  meta.Copy as what it gives back: private arrays.
-/
import Derived.Test.YtmchdjpgceiloaaKMT
import Derived.Test.YtmchdjpgceiloaaL22
set_option linter.unusedSimpArgs false
set_option linter.unusedVariables false
namespace Go.Proofs.Ytmchdjpgceiloaa
open Go.RowKit AclSpec MetaSpec GSort

set_option maxRecDepth 100000 in
theorem copy_O (m : Meta) (h1 : m.attrs.length ≤ 1000000) (h2 : m.acl.length ≤ 1000000) : OCalls Try.prog 17 [.agg (metaL m)] ⟨[], [], []⟩
    (.agg [intL m.mode, intL m.uid, intL m.gid, intL m.time, .bsl 2000 m.attrs.length 36, .bsl 2001 m.acl.length 38]) ⟨[], [(2000, m.attrs.flatMap attrL), (2001, m.acl.flatMap aceL)], []⟩ := by
  have a1 := attrL_strip m.attrs
  have a2 := attrL_one m.attrs
  have a3 := attrL_flen m.attrs
  have b1 := aceL_strip m.acl
  have b2 := aceL_one m.acl
  have b3 := aceL_flen m.acl
  refine OCalls.of (fun d => d == 5 || d == 9) Try.func17 rfl (by decide) Try.ntmps17 Try.results17 (by simp) ?_
  intro w0 S0 vs
  (repeat (first | (refine LW_seq ?_) | (refine LW_region ?_; intro K hK; simp only [LSx, Op.operands, Call.operands, LSa, LSy, LSd, forall_const, implies_true, false_implies, undef, reduceCtorEq, reduceIte, Nat.reduceAdd, Nat.reduceMul, Nat.reduceSub, Nat.reduceLT, Nat.reduceLeDiff, Nat.reduceEqDiff, Int.reduceAdd, Int.reduceSub, Int.reduceMul, Int.reduceLT, Int.reduceLE, Int.reduceEq, Int.reduceNeg, Int.reduceToNat, Nat.reduceBEq, metaL, attrsL, acesL]; refine hK _ ?_; clear hK K; try simp only [thenL, inBlockL, jumpsL, reduceIte, Nat.reduceEqDiff]) | (refine LW_label ?_; try simp only [thenL, inBlockL, jumpsL, reduceIte, Nat.reduceEqDiff]) | (refine LW_skip ?_; try simp only [thenL, inBlockL, jumpsL, reduceIte, Nat.reduceEqDiff]) | (refine LW_block ?_)))
  (repeat (first | (refine LW_seq ?_) | (refine LW_skip ?_; simp only [thenL, inBlockL, jumpsL, reduceIte, Nat.reduceEqDiff]) | (refine LW_block ?_))); refine LW_region ?_; intro K hK; simp only [LSx, Op.operands, Call.operands, LSa, LSy, LSd, forall_const, implies_true, false_implies, undef, reduceCtorEq, reduceIte, Nat.reduceAdd, Nat.reduceMul, Nat.reduceSub, Nat.reduceLT, Nat.reduceLeDiff, Nat.reduceEqDiff, Int.reduceAdd, Int.reduceSub, Int.reduceMul, Int.reduceLT, Int.reduceLE, Int.reduceEq, Int.reduceNeg, Int.reduceToNat, Nat.reduceBEq, a1, a2, a3]
  refine ⟨by (repeat' apply And.intro) <;> first | omega | (unfold maxLen; omega) | (intro _; omega) | decide, ?_⟩
  refine hK _ ?_; clear hK K; try simp only [thenL, inBlockL, jumpsL, reduceIte, Nat.reduceEqDiff]
  (repeat (first | (refine LW_seq ?_) | (refine LW_skip ?_; simp only [thenL, inBlockL, jumpsL, reduceIte, Nat.reduceEqDiff]) | (refine LW_block ?_))); refine LW_region ?_; intro K hK; simp only [LSx, Op.operands, Call.operands, LSa, LSy, LSd, forall_const, implies_true, false_implies, undef, reduceCtorEq, reduceIte, Nat.reduceAdd, Nat.reduceMul, Nat.reduceSub, Nat.reduceLT, Nat.reduceLeDiff, Nat.reduceEqDiff, Int.reduceAdd, Int.reduceSub, Int.reduceMul, Int.reduceLT, Int.reduceLE, Int.reduceEq, Int.reduceNeg, Int.reduceToNat, Nat.reduceBEq, b1, b2, b3]
  refine ⟨by (repeat' apply And.intro) <;> first | omega | (unfold maxLen; omega) | (intro _; omega) | decide, ?_⟩
  refine hK _ ?_; clear hK K; try simp only [thenL, inBlockL, jumpsL, reduceIte, Nat.reduceEqDiff]
  (repeat (first | (refine LW_seq ?_) | (refine LW_region ?_; intro K hK; simp only [LSx, Op.operands, Call.operands, LSa, LSy, LSd, forall_const, implies_true, false_implies, undef, reduceCtorEq, reduceIte, Nat.reduceAdd, Nat.reduceMul, Nat.reduceSub, Nat.reduceLT, Nat.reduceLeDiff, Nat.reduceEqDiff, Int.reduceAdd, Int.reduceSub, Int.reduceMul, Int.reduceLT, Int.reduceLE, Int.reduceEq, Int.reduceNeg, Int.reduceToNat, Nat.reduceBEq]; refine hK _ ?_; clear hK K; try simp only [thenL, inBlockL, jumpsL, reduceIte, Nat.reduceEqDiff]) | (refine LW_label ?_; try simp only [thenL, inBlockL, jumpsL, reduceIte, Nat.reduceEqDiff]) | (refine LW_skip ?_; try simp only [thenL, inBlockL, jumpsL, reduceIte, Nat.reduceEqDiff]) | (refine LW_block ?_)))
  refine LW_ret ?_; simp only [thenL, jumpsL, inBlockL, twoL, bodyO]; refine ⟨[(5, 2000), (9, 2001)], rfl, ?_⟩; simp only [thenL, jumpsL, inBlockL, twoL, bodyQ, LV.lit.injEq, LV.tup.injEq, LV.agg.injEq, LV.sl.injEq, List.cons.injEq, Value.int.injEq, Value.bool.injEq, Value.string.injEq, ByteArray.mk.injEq, exists_eq_left', exists_eq_left, exists_eq_right, LSx, Op.operands, Call.operands, LSa, LSy, LSd, forall_const, implies_true, false_implies, undef, reduceCtorEq, reduceIte, Nat.reduceAdd, Nat.reduceMul, Nat.reduceSub, Nat.reduceLT, Nat.reduceLeDiff, Nat.reduceEqDiff, Int.reduceAdd, Int.reduceSub, Int.reduceMul, Int.reduceLT, Int.reduceLE, Int.reduceEq, Int.reduceNeg, Int.reduceToNat, Nat.reduceBEq]
end Go.Proofs.Ytmchdjpgceiloaa
