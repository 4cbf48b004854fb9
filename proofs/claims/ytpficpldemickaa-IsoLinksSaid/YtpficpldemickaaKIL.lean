/-
  steamerlaw26.IsoLinks, by what it returns.
-/
import Derived.Test.YtpficpldemickaaKIT
import Derived.Test.YtpficpldemickaaKR5
import Derived.Test.YtpficpldemickaaNCuts
import Derived.Test.YtpficpldemickaaKMU
set_option linter.unusedSimpArgs false
set_option linter.unusedVariables false
namespace Go.Proofs.Ytpficpldemickaa
open Go.RowKit Go.Proofs AclSpec MetaSpec NodeSpec PathSpec TreeSpec

theorem nm_len (i : Nat) : (nm i).length = 1 := rfl
theorem nm_drop (i : Nat) (h : i < 4) : List.drop i [LV.lit (.string ⟨#[97]⟩), .lit (.string ⟨#[98]⟩), .lit (.string ⟨#[99]⟩), .lit (.string ⟨#[100]⟩)] = LV.lit (.string ⟨(nm i).toArray⟩) :: List.drop (i + 1) [LV.lit (.string ⟨#[97]⟩), .lit (.string ⟨#[98]⟩), .lit (.string ⟨#[99]⟩), .lit (.string ⟨#[100]⟩)] := by
  match i, h with
  | 0, _ => rfl
  | 1, _ => rfl
  | 2, _ => rfl
  | 3, _ => rfl
theorem nm_less : ∀ i j : Nat, i < 4 → j < 4 → Op.bytesLess (nm i) (nm j) = decide (i < j) := by
  intro i j h1 h2
  have : ∀ a : Fin 4, ∀ b : Fin 4, Op.bytesLess (nm a) (nm b) = decide ((a : Nat) < b) := by decide +kernel
  exact this ⟨i, h1⟩ ⟨j, h2⟩
theorem small_two {n : FNode} {x y : List UInt8} (hn : small n ∧ n.target.length ≤ maxLen) (hx : x.length < 1000000) (hy : y.length < 1000000) : SmallT (oneT x y n) ∧ SmallT (twoT x y n) := by
  have hd : small xd ∧ xd.target.length ≤ maxLen := ⟨⟨by decide, by decide, by decide, fun p hp => by cases hp⟩, by decide⟩
  refine ⟨⟨by show 3 ≤ _; omega, by show 2 ≤ _; omega, fun e he => ?_, fun m hm => ?_⟩, ⟨by show 3 ≤ _; omega, by show 3 ≤ _; omega, fun e he => ?_, fun m hm => ?_⟩⟩
  · simp only [oneT, List.mem_cons, List.not_mem_nil, or_false] at he
    rcases he with rfl | rfl | rfl
    · exact (by decide : (0 : Nat) < 1000000)
    · exact hx
    · exact hy
  · simp only [oneT, List.mem_cons, List.not_mem_nil, or_false] at hm
    rcases hm with rfl | rfl
    · exact hd
    · exact hn
  · simp only [twoT, List.mem_cons, List.not_mem_nil, or_false] at he
    rcases he with rfl | rfl | rfl
    · exact (by decide : (0 : Nat) < 1000000)
    · exact hx
    · exact hy
  · simp only [twoT, List.mem_cons, List.not_mem_nil, or_false] at hm
    rcases hm with rfl | rfl | rfl
    · exact hd
    · exact hn
    · exact hn

set_option maxRecDepth 100000 in
set_option maxHeartbeats 8000000 in
theorem isoLinks_L (s : List UInt8) (a b : Int) : LCalls Try.prog 7 [strL s, intL a, intL b] (boolL true) := by
  have t0 := itold_L
  simp only [boolL] at t0
  obtain ⟨i, hi, hirem⟩ := remU a 4 (by decide)
  rw [show ((4 : Nat) : Int) = 4 from rfl] at hirem
  obtain ⟨j, hj, hjrem⟩ := remU b 4 (by decide)
  rw [show ((4 : Nat) : Int) = 4 from rfl] at hjrem
  have hdi := nm_drop i hi
  have hdj := nm_drop j hj
  have hip : (0 : Int) ≤ (i : Int) := by omega
  have hjp : (0 : Int) ≤ (j : Int) := by omega
  have hi4 : (i : Int) < 4 := by omega
  have hj4 : (j : Int) < 4 := by omega
  have hmd : (fun _ : Nat => false) = fun _ : Nat => false := rfl
  have hless := nm_less i j hi hj
  have htwo := two_of i j
  have hxl := nm_len i
  have hyl := nm_len j
  generalize nm i = x at *
  generalize nm j = y at *
  refine LCalls.of (fun _ => false) Try.func7 rfl (by decide) Try.ntmps7 Try.results7 (by simp) ?_
  intro w0 S0 vs hgl hwf0 hsz hvs; clear hsz hvs hwf0 hgl
  (repeat (first | (refine LW_seq ?_) | (refine LW_region ?_; intro K hK; simp only [LSx, Op.operands, Call.operands, LSa, LSy, LSd, forall_const, implies_true, false_implies, undef, reduceCtorEq, reduceIte, Nat.reduceAdd, Nat.reduceMul, Nat.reduceSub, Nat.reduceLT, Nat.reduceLeDiff, Nat.reduceEqDiff, Int.reduceAdd, Int.reduceSub, Int.reduceMul, Int.reduceLT, Int.reduceLE, Int.reduceEq, Int.reduceNeg, Int.reduceToNat, Nat.reduceBEq]; refine hK _ ?_; clear hK K; try simp only [thenL, inBlockL, jumpsL, reduceIte, Nat.reduceEqDiff]) | (refine LW_label ?_; try simp only [thenL, inBlockL, jumpsL, reduceIte, Nat.reduceEqDiff]) | (refine LW_skip ?_; try simp only [thenL, inBlockL, jumpsL, reduceIte, Nat.reduceEqDiff]) | (refine LW_block ?_)))
  (repeat refine LW_seq ?_)
  (repeat (first | (refine LW_seq ?_) | (refine LW_skip ?_; simp only [thenL, inBlockL, jumpsL, reduceIte, Nat.reduceEqDiff]) | (refine LW_block ?_))); refine LW_any (by kernel_rfl) (by kernel_rfl) (by kernel_rfl) (by first | exact rfl | (rw [hmd]; exact rfl)) ?_; intro K hK; simp only [LSx, Op.operands, Call.operands, LSa, LSy, LSd, forall_const, implies_true, false_implies, undef, reduceCtorEq, reduceIte, Nat.reduceAdd, Nat.reduceMul, Nat.reduceSub, Nat.reduceLT, Nat.reduceLeDiff, Nat.reduceEqDiff, Int.reduceAdd, Int.reduceSub, Int.reduceMul, Int.reduceLT, Int.reduceLE, Int.reduceEq, Int.reduceNeg, Int.reduceToNat, Nat.reduceBEq, hirem, hjrem, hi4, hj4, hip, hjp, hdi, hdj]
  refine hK _ ?_; clear hK K; try simp only [thenL, inBlockL, jumpsL, reduceIte, Nat.reduceEqDiff]
  by_cases hij : i < j
  rotate_left
  · rw [decide_eq_false hij] at hless
    (repeat (first | (refine LW_seq ?_) | (refine LW_region ?_; intro K hK; simp only [LSx, Op.operands, Call.operands, LSa, LSy, LSd, forall_const, implies_true, false_implies, undef, reduceCtorEq, reduceIte, Nat.reduceAdd, Nat.reduceMul, Nat.reduceSub, Nat.reduceLT, Nat.reduceLeDiff, Nat.reduceEqDiff, Int.reduceAdd, Int.reduceSub, Int.reduceMul, Int.reduceLT, Int.reduceLE, Int.reduceEq, Int.reduceNeg, Int.reduceToNat, Nat.reduceBEq, hless]; refine hK _ ?_; clear hK K; try simp only [thenL, inBlockL, jumpsL, reduceIte, Nat.reduceEqDiff]) | (refine LW_label ?_; try simp only [thenL, inBlockL, jumpsL, reduceIte, Nat.reduceEqDiff]) | (refine LW_skip ?_; try simp only [thenL, inBlockL, jumpsL, reduceIte, Nat.reduceEqDiff]) | (refine LW_block ?_)))
    refine LW_if ?_; intro X Y hX hY; simp only [LSx, Op.operands, Call.operands, LSa, LSy, LSd, forall_const, implies_true, false_implies, undef, reduceCtorEq, reduceIte, Nat.reduceAdd, Nat.reduceMul, Nat.reduceSub, Nat.reduceLT, Nat.reduceLeDiff, Nat.reduceEqDiff, Int.reduceAdd, Int.reduceSub, Int.reduceMul, Int.reduceLT, Int.reduceLE, Int.reduceEq, Int.reduceNeg, Int.reduceToNat, Nat.reduceBEq]; refine hX ?_; clear hX hY X Y; try simp only [thenL, inBlockL, jumpsL, reduceIte, Nat.reduceEqDiff]
    (repeat (first | (refine LW_seq ?_) | (refine LW_skip ?_; simp only [thenL, inBlockL, jumpsL, reduceIte, Nat.reduceEqDiff]) | (refine LW_block ?_))); refine LW_region ?_; intro K hK; simp only [LSx, Op.operands, Call.operands, LSa, LSy, LSd, forall_const, implies_true, false_implies, undef, reduceCtorEq, reduceIte, Nat.reduceAdd, Nat.reduceMul, Nat.reduceSub, Nat.reduceLT, Nat.reduceLeDiff, Nat.reduceEqDiff, Int.reduceAdd, Int.reduceSub, Int.reduceMul, Int.reduceLT, Int.reduceLE, Int.reduceEq, Int.reduceNeg, Int.reduceToNat, Nat.reduceBEq]
    refine cop_intro ?ha (t0) ?_; (case ha => (simp only [LSx, Op.operands, Call.operands, LSa, LSy, LSd, forall_const, implies_true, false_implies, undef, reduceCtorEq, reduceIte, Nat.reduceAdd, Nat.reduceMul, Nat.reduceSub, Nat.reduceLT, Nat.reduceLeDiff, Nat.reduceEqDiff, Int.reduceAdd, Int.reduceSub, Int.reduceMul, Int.reduceLT, Int.reduceLE, Int.reduceEq, Int.reduceNeg, Int.reduceToNat, Nat.reduceBEq]) <;> rfl); simp only [LSx, Op.operands, Call.operands, LSa, LSy, LSd, forall_const, implies_true, false_implies, undef, reduceCtorEq, reduceIte, Nat.reduceAdd, Nat.reduceMul, Nat.reduceSub, Nat.reduceLT, Nat.reduceLeDiff, Nat.reduceEqDiff, Int.reduceAdd, Int.reduceSub, Int.reduceMul, Int.reduceLT, Int.reduceLE, Int.reduceEq, Int.reduceNeg, Int.reduceToNat, Nat.reduceBEq]
    refine hK _ ?_; clear hK K; try simp only [thenL, inBlockL, jumpsL, reduceIte, Nat.reduceEqDiff]
    refine LW_ret ?_; simp only [thenL, jumpsL, inBlockL, twoL, bodyQ, LV.lit.injEq, LV.tup.injEq, LV.agg.injEq, LV.sl.injEq, List.cons.injEq, Value.int.injEq, Value.bool.injEq, Value.string.injEq, ByteArray.mk.injEq, exists_eq_left', exists_eq_left, exists_eq_right, LSx, Op.operands, Call.operands, LSa, LSy, LSd, forall_const, implies_true, false_implies, undef, reduceCtorEq, reduceIte, Nat.reduceAdd, Nat.reduceMul, Nat.reduceSub, Nat.reduceLT, Nat.reduceLeDiff, Nat.reduceEqDiff, Int.reduceAdd, Int.reduceSub, Int.reduceMul, Int.reduceLT, Int.reduceLE, Int.reduceEq, Int.reduceNeg, Int.reduceToNat, Nat.reduceBEq]
  rw [decide_eq_true hij] at hless
  by_cases hlen : (50 : Int) < s.length
  · (repeat (first | (refine LW_seq ?_) | (refine LW_region ?_; intro K hK; simp only [LSx, Op.operands, Call.operands, LSa, LSy, LSd, forall_const, implies_true, false_implies, undef, reduceCtorEq, reduceIte, Nat.reduceAdd, Nat.reduceMul, Nat.reduceSub, Nat.reduceLT, Nat.reduceLeDiff, Nat.reduceEqDiff, Int.reduceAdd, Int.reduceSub, Int.reduceMul, Int.reduceLT, Int.reduceLE, Int.reduceEq, Int.reduceNeg, Int.reduceToNat, Nat.reduceBEq, hless, hlen]; refine hK _ ?_; clear hK K; try simp only [thenL, inBlockL, jumpsL, reduceIte, Nat.reduceEqDiff]) | (refine LW_label ?_; try simp only [thenL, inBlockL, jumpsL, reduceIte, Nat.reduceEqDiff]) | (refine LW_skip ?_; try simp only [thenL, inBlockL, jumpsL, reduceIte, Nat.reduceEqDiff]) | (refine LW_block ?_)))
    refine LW_if ?_; intro X Y hX hY; simp only [LSx, Op.operands, Call.operands, LSa, LSy, LSd, forall_const, implies_true, false_implies, undef, reduceCtorEq, reduceIte, Nat.reduceAdd, Nat.reduceMul, Nat.reduceSub, Nat.reduceLT, Nat.reduceLeDiff, Nat.reduceEqDiff, Int.reduceAdd, Int.reduceSub, Int.reduceMul, Int.reduceLT, Int.reduceLE, Int.reduceEq, Int.reduceNeg, Int.reduceToNat, Nat.reduceBEq]; refine hX ?_; clear hX hY X Y; try simp only [thenL, inBlockL, jumpsL, reduceIte, Nat.reduceEqDiff]
    (repeat (first | (refine LW_seq ?_) | (refine LW_skip ?_; simp only [thenL, inBlockL, jumpsL, reduceIte, Nat.reduceEqDiff]) | (refine LW_block ?_))); refine LW_region ?_; intro K hK; simp only [LSx, Op.operands, Call.operands, LSa, LSy, LSd, forall_const, implies_true, false_implies, undef, reduceCtorEq, reduceIte, Nat.reduceAdd, Nat.reduceMul, Nat.reduceSub, Nat.reduceLT, Nat.reduceLeDiff, Nat.reduceEqDiff, Int.reduceAdd, Int.reduceSub, Int.reduceMul, Int.reduceLT, Int.reduceLE, Int.reduceEq, Int.reduceNeg, Int.reduceToNat, Nat.reduceBEq]
    refine cop_intro ?ha (t0) ?_; (case ha => (simp only [LSx, Op.operands, Call.operands, LSa, LSy, LSd, forall_const, implies_true, false_implies, undef, reduceCtorEq, reduceIte, Nat.reduceAdd, Nat.reduceMul, Nat.reduceSub, Nat.reduceLT, Nat.reduceLeDiff, Nat.reduceEqDiff, Int.reduceAdd, Int.reduceSub, Int.reduceMul, Int.reduceLT, Int.reduceLE, Int.reduceEq, Int.reduceNeg, Int.reduceToNat, Nat.reduceBEq]) <;> rfl); simp only [LSx, Op.operands, Call.operands, LSa, LSy, LSd, forall_const, implies_true, false_implies, undef, reduceCtorEq, reduceIte, Nat.reduceAdd, Nat.reduceMul, Nat.reduceSub, Nat.reduceLT, Nat.reduceLeDiff, Nat.reduceEqDiff, Int.reduceAdd, Int.reduceSub, Int.reduceMul, Int.reduceLT, Int.reduceLE, Int.reduceEq, Int.reduceNeg, Int.reduceToNat, Nat.reduceBEq]
    refine hK _ ?_; clear hK K; try simp only [thenL, inBlockL, jumpsL, reduceIte, Nat.reduceEqDiff]
    refine LW_ret ?_; simp only [thenL, jumpsL, inBlockL, twoL, bodyQ, LV.lit.injEq, LV.tup.injEq, LV.agg.injEq, LV.sl.injEq, List.cons.injEq, Value.int.injEq, Value.bool.injEq, Value.string.injEq, ByteArray.mk.injEq, exists_eq_left', exists_eq_left, exists_eq_right, LSx, Op.operands, Call.operands, LSa, LSy, LSd, forall_const, implies_true, false_implies, undef, reduceCtorEq, reduceIte, Nat.reduceAdd, Nat.reduceMul, Nat.reduceSub, Nat.reduceLT, Nat.reduceLeDiff, Nat.reduceEqDiff, Int.reduceAdd, Int.reduceSub, Int.reduceMul, Int.reduceLT, Int.reduceLE, Int.reduceEq, Int.reduceNeg, Int.reduceToNat, Nat.reduceBEq]
  have h := htwo hij hj
  have hl : s.length ≤ 200 := by omega
  have c1 := rwrite_L k0 (small_of rfl (by decide) (by decide)) (by decide) 0 s (by omega)
  rw [write_P hl] at c1
  have hn : small (fileP s.length s) ∧ (fileP s.length s).target.length ≤ maxLen := ⟨small_P (by omega), by show 0 ≤ _; omega⟩
  have hm := may_P (t := s) (Nat.le_refl _) (by omega)
  have hk : (fileP s.length s).kind = 2 := rfl
  have hnl := nodeL_P s.length s
  generalize fileP s.length s = n at *
  obtain ⟨sa, sb⟩ := small_two hn (by omega) (by omega) (x := x) (y := y)
  have c2 := inodes_L _ _ sa sb
  rw [n12 h hm hk] at c2
  have c3 := isame_L _ _ sa sa
  rw [s11 h hm hk] at c3
  have c4 := isame_L _ _ sb sb
  rw [s22 h hm hk] at c4
  have c5 := isame_L _ _ sa sb
  rw [s12 h hm hk] at c5
  have c6 := ilinks_L _ _ sa sb
  rw [l12 h hm hk] at c6
  have c7 := ilinks_L _ _ sb sa
  rw [l21 h hm hk] at c7
  have c8 := ipaths_L _ _ sa sb
  rw [p12 h hm hk] at c8
  have hdl : nodeL xd = [intL 1, intL 0, intL 0, intL 0, intL 0, .sl 0 [] .no, .sl 0 [] .no, intL 0, .sl 0 [] .no, strL [], intL 0, intL 0] := rfl
  simp only [oneT, twoT, treeL, tentL, hdl, hnl, piecesL, rowL, List.flatMap_cons, List.flatMap_nil, List.cons_append, List.nil_append, List.append_nil, List.length_cons, List.length_nil, Nat.reduceAdd] at c2 c3 c4 c5 c6 c7 c8
  rw [hnl] at c1
  simp only [k0, zm, nodeL, attrsL, acesL, piecesL, rowL, List.flatMap_nil, List.length_nil] at c1
  (repeat (first | (refine LW_seq ?_) | (refine LW_region ?_; intro K hK; simp only [LSx, Op.operands, Call.operands, LSa, LSy, LSd, forall_const, implies_true, false_implies, undef, reduceCtorEq, reduceIte, Nat.reduceAdd, Nat.reduceMul, Nat.reduceSub, Nat.reduceLT, Nat.reduceLeDiff, Nat.reduceEqDiff, Int.reduceAdd, Int.reduceSub, Int.reduceMul, Int.reduceLT, Int.reduceLE, Int.reduceEq, Int.reduceNeg, Int.reduceToNat, Nat.reduceBEq, hless, hlen]; refine hK _ ?_; clear hK K; try simp only [thenL, inBlockL, jumpsL, reduceIte, Nat.reduceEqDiff]) | (refine LW_label ?_; try simp only [thenL, inBlockL, jumpsL, reduceIte, Nat.reduceEqDiff]) | (refine LW_skip ?_; try simp only [thenL, inBlockL, jumpsL, reduceIte, Nat.reduceEqDiff]) | (refine LW_block ?_)))
  refine LW_if ?_; intro X Y hX hY; simp only [LSx, Op.operands, Call.operands, LSa, LSy, LSd, forall_const, implies_true, false_implies, undef, reduceCtorEq, reduceIte, Nat.reduceAdd, Nat.reduceMul, Nat.reduceSub, Nat.reduceLT, Nat.reduceLeDiff, Nat.reduceEqDiff, Int.reduceAdd, Int.reduceSub, Int.reduceMul, Int.reduceLT, Int.reduceLE, Int.reduceEq, Int.reduceNeg, Int.reduceToNat, Nat.reduceBEq]; refine hY ?_; clear hX hY X Y; (try simp only [thenL, inBlockL, jumpsL, reduceIte, Nat.reduceEqDiff]); (try (refine LW_skip ?_; simp only [thenL, inBlockL, jumpsL, reduceIte, Nat.reduceEqDiff]))
  (repeat (first | (refine LW_seq ?_) | (refine LW_skip ?_; simp only [thenL, inBlockL, jumpsL, reduceIte, Nat.reduceEqDiff]) | (refine LW_block ?_))); refine LW_region ?_; intro K hK; simp only [LSx, Op.operands, Call.operands, LSa, LSy, LSd, forall_const, implies_true, false_implies, undef, reduceCtorEq, reduceIte, Nat.reduceAdd, Nat.reduceMul, Nat.reduceSub, Nat.reduceLT, Nat.reduceLeDiff, Nat.reduceEqDiff, Int.reduceAdd, Int.reduceSub, Int.reduceMul, Int.reduceLT, Int.reduceLE, Int.reduceEq, Int.reduceNeg, Int.reduceToNat, Nat.reduceBEq]
  refine cop_intro ?ha (c1) ?_; (case ha => (simp only [LSx, Op.operands, Call.operands, LSa, LSy, LSd, forall_const, implies_true, false_implies, undef, reduceCtorEq, reduceIte, Nat.reduceAdd, Nat.reduceMul, Nat.reduceSub, Nat.reduceLT, Nat.reduceLeDiff, Nat.reduceEqDiff, Int.reduceAdd, Int.reduceSub, Int.reduceMul, Int.reduceLT, Int.reduceLE, Int.reduceEq, Int.reduceNeg, Int.reduceToNat, Nat.reduceBEq]) <;> rfl); simp only [LSx, Op.operands, Call.operands, LSa, LSy, LSd, forall_const, implies_true, false_implies, undef, reduceCtorEq, reduceIte, Nat.reduceAdd, Nat.reduceMul, Nat.reduceSub, Nat.reduceLT, Nat.reduceLeDiff, Nat.reduceEqDiff, Int.reduceAdd, Int.reduceSub, Int.reduceMul, Int.reduceLT, Int.reduceLE, Int.reduceEq, Int.reduceNeg, Int.reduceToNat, Nat.reduceBEq]
  refine hK _ ?_; clear hK K; try simp only [thenL, inBlockL, jumpsL, reduceIte, Nat.reduceEqDiff]
  (repeat (first | (refine LW_seq ?_) | (refine LW_region ?_; intro K hK; simp only [LSx, Op.operands, Call.operands, LSa, LSy, LSd, forall_const, implies_true, false_implies, undef, reduceCtorEq, reduceIte, Nat.reduceAdd, Nat.reduceMul, Nat.reduceSub, Nat.reduceLT, Nat.reduceLeDiff, Nat.reduceEqDiff, Int.reduceAdd, Int.reduceSub, Int.reduceMul, Int.reduceLT, Int.reduceLE, Int.reduceEq, Int.reduceNeg, Int.reduceToNat, Nat.reduceBEq]; refine hK _ ?_; clear hK K; try simp only [thenL, inBlockL, jumpsL, reduceIte, Nat.reduceEqDiff]) | (refine LW_label ?_; try simp only [thenL, inBlockL, jumpsL, reduceIte, Nat.reduceEqDiff]) | (refine LW_skip ?_; try simp only [thenL, inBlockL, jumpsL, reduceIte, Nat.reduceEqDiff]) | (refine LW_block ?_)))
  (repeat (first | (refine LW_seq ?_) | (refine LW_skip ?_; simp only [thenL, inBlockL, jumpsL, reduceIte, Nat.reduceEqDiff]) | (refine LW_block ?_))); refine LW_region ?_; intro K hK; simp only [LSx, Op.operands, Call.operands, LSa, LSy, LSd, forall_const, implies_true, false_implies, undef, reduceCtorEq, reduceIte, Nat.reduceAdd, Nat.reduceMul, Nat.reduceSub, Nat.reduceLT, Nat.reduceLeDiff, Nat.reduceEqDiff, Int.reduceAdd, Int.reduceSub, Int.reduceMul, Int.reduceLT, Int.reduceLE, Int.reduceEq, Int.reduceNeg, Int.reduceToNat, Nat.reduceBEq]
  refine cop_intro ?ha (c2) ?_; (case ha => (simp only [LSx, Op.operands, Call.operands, LSa, LSy, LSd, forall_const, implies_true, false_implies, undef, reduceCtorEq, reduceIte, Nat.reduceAdd, Nat.reduceMul, Nat.reduceSub, Nat.reduceLT, Nat.reduceLeDiff, Nat.reduceEqDiff, Int.reduceAdd, Int.reduceSub, Int.reduceMul, Int.reduceLT, Int.reduceLE, Int.reduceEq, Int.reduceNeg, Int.reduceToNat, Nat.reduceBEq]) <;> rfl); simp only [LSx, Op.operands, Call.operands, LSa, LSy, LSd, forall_const, implies_true, false_implies, undef, reduceCtorEq, reduceIte, Nat.reduceAdd, Nat.reduceMul, Nat.reduceSub, Nat.reduceLT, Nat.reduceLeDiff, Nat.reduceEqDiff, Int.reduceAdd, Int.reduceSub, Int.reduceMul, Int.reduceLT, Int.reduceLE, Int.reduceEq, Int.reduceNeg, Int.reduceToNat, Nat.reduceBEq]
  refine hK _ ?_; clear hK K; try simp only [thenL, inBlockL, jumpsL, reduceIte, Nat.reduceEqDiff]
  (repeat refine LW_seq ?_)
  refine LW_regionA (l := ?l) ?hl ?_
  case hl => (first | simp only [Array.append_eq_append, List.append_toArray, List.append_eq, List.cons_append, List.nil_append] | skip); exact rfl
  (repeat (first | (refine LW_seq ?_) | (refine LW_skip ?_; simp only [thenL, inBlockL, jumpsL, reduceIte, Nat.reduceEqDiff]) | (refine LW_block ?_))); refine LW_region ?_; intro K hK; simp only [LSx, Op.operands, Call.operands, LSa, LSy, LSd, forall_const, implies_true, false_implies, undef, reduceCtorEq, reduceIte, Nat.reduceAdd, Nat.reduceMul, Nat.reduceSub, Nat.reduceLT, Nat.reduceLeDiff, Nat.reduceEqDiff, Int.reduceAdd, Int.reduceSub, Int.reduceMul, Int.reduceLT, Int.reduceLE, Int.reduceEq, Int.reduceNeg, Int.reduceToNat, Nat.reduceBEq]
  refine cop_intro ?ha (t0) ?_; (case ha => (simp only [LSx, Op.operands, Call.operands, LSa, LSy, LSd, forall_const, implies_true, false_implies, undef, reduceCtorEq, reduceIte, Nat.reduceAdd, Nat.reduceMul, Nat.reduceSub, Nat.reduceLT, Nat.reduceLeDiff, Nat.reduceEqDiff, Int.reduceAdd, Int.reduceSub, Int.reduceMul, Int.reduceLT, Int.reduceLE, Int.reduceEq, Int.reduceNeg, Int.reduceToNat, Nat.reduceBEq]) <;> rfl); simp only [LSx, Op.operands, Call.operands, LSa, LSy, LSd, forall_const, implies_true, false_implies, undef, reduceCtorEq, reduceIte, Nat.reduceAdd, Nat.reduceMul, Nat.reduceSub, Nat.reduceLT, Nat.reduceLeDiff, Nat.reduceEqDiff, Int.reduceAdd, Int.reduceSub, Int.reduceMul, Int.reduceLT, Int.reduceLE, Int.reduceEq, Int.reduceNeg, Int.reduceToNat, Nat.reduceBEq]
  refine cop_intro ?ha (c3) ?_; (case ha => (simp only [LSx, Op.operands, Call.operands, LSa, LSy, LSd, forall_const, implies_true, false_implies, undef, reduceCtorEq, reduceIte, Nat.reduceAdd, Nat.reduceMul, Nat.reduceSub, Nat.reduceLT, Nat.reduceLeDiff, Nat.reduceEqDiff, Int.reduceAdd, Int.reduceSub, Int.reduceMul, Int.reduceLT, Int.reduceLE, Int.reduceEq, Int.reduceNeg, Int.reduceToNat, Nat.reduceBEq]) <;> rfl); simp only [LSx, Op.operands, Call.operands, LSa, LSy, LSd, forall_const, implies_true, false_implies, undef, reduceCtorEq, reduceIte, Nat.reduceAdd, Nat.reduceMul, Nat.reduceSub, Nat.reduceLT, Nat.reduceLeDiff, Nat.reduceEqDiff, Int.reduceAdd, Int.reduceSub, Int.reduceMul, Int.reduceLT, Int.reduceLE, Int.reduceEq, Int.reduceNeg, Int.reduceToNat, Nat.reduceBEq]
  refine cop_intro ?ha (c4) ?_; (case ha => (simp only [LSx, Op.operands, Call.operands, LSa, LSy, LSd, forall_const, implies_true, false_implies, undef, reduceCtorEq, reduceIte, Nat.reduceAdd, Nat.reduceMul, Nat.reduceSub, Nat.reduceLT, Nat.reduceLeDiff, Nat.reduceEqDiff, Int.reduceAdd, Int.reduceSub, Int.reduceMul, Int.reduceLT, Int.reduceLE, Int.reduceEq, Int.reduceNeg, Int.reduceToNat, Nat.reduceBEq]) <;> rfl); simp only [LSx, Op.operands, Call.operands, LSa, LSy, LSd, forall_const, implies_true, false_implies, undef, reduceCtorEq, reduceIte, Nat.reduceAdd, Nat.reduceMul, Nat.reduceSub, Nat.reduceLT, Nat.reduceLeDiff, Nat.reduceEqDiff, Int.reduceAdd, Int.reduceSub, Int.reduceMul, Int.reduceLT, Int.reduceLE, Int.reduceEq, Int.reduceNeg, Int.reduceToNat, Nat.reduceBEq]
  refine cop_intro ?ha (c5) ?_; (case ha => (simp only [LSx, Op.operands, Call.operands, LSa, LSy, LSd, forall_const, implies_true, false_implies, undef, reduceCtorEq, reduceIte, Nat.reduceAdd, Nat.reduceMul, Nat.reduceSub, Nat.reduceLT, Nat.reduceLeDiff, Nat.reduceEqDiff, Int.reduceAdd, Int.reduceSub, Int.reduceMul, Int.reduceLT, Int.reduceLE, Int.reduceEq, Int.reduceNeg, Int.reduceToNat, Nat.reduceBEq]) <;> rfl); simp only [LSx, Op.operands, Call.operands, LSa, LSy, LSd, forall_const, implies_true, false_implies, undef, reduceCtorEq, reduceIte, Nat.reduceAdd, Nat.reduceMul, Nat.reduceSub, Nat.reduceLT, Nat.reduceLeDiff, Nat.reduceEqDiff, Int.reduceAdd, Int.reduceSub, Int.reduceMul, Int.reduceLT, Int.reduceLE, Int.reduceEq, Int.reduceNeg, Int.reduceToNat, Nat.reduceBEq]
  refine cop_intro ?ha (c6) ?_; (case ha => (simp only [LSx, Op.operands, Call.operands, LSa, LSy, LSd, forall_const, implies_true, false_implies, undef, reduceCtorEq, reduceIte, Nat.reduceAdd, Nat.reduceMul, Nat.reduceSub, Nat.reduceLT, Nat.reduceLeDiff, Nat.reduceEqDiff, Int.reduceAdd, Int.reduceSub, Int.reduceMul, Int.reduceLT, Int.reduceLE, Int.reduceEq, Int.reduceNeg, Int.reduceToNat, Nat.reduceBEq]) <;> rfl); simp only [LSx, Op.operands, Call.operands, LSa, LSy, LSd, forall_const, implies_true, false_implies, undef, reduceCtorEq, reduceIte, Nat.reduceAdd, Nat.reduceMul, Nat.reduceSub, Nat.reduceLT, Nat.reduceLeDiff, Nat.reduceEqDiff, Int.reduceAdd, Int.reduceSub, Int.reduceMul, Int.reduceLT, Int.reduceLE, Int.reduceEq, Int.reduceNeg, Int.reduceToNat, Nat.reduceBEq]
  refine cop_intro ?ha (c7) ?_; (case ha => (simp only [LSx, Op.operands, Call.operands, LSa, LSy, LSd, forall_const, implies_true, false_implies, undef, reduceCtorEq, reduceIte, Nat.reduceAdd, Nat.reduceMul, Nat.reduceSub, Nat.reduceLT, Nat.reduceLeDiff, Nat.reduceEqDiff, Int.reduceAdd, Int.reduceSub, Int.reduceMul, Int.reduceLT, Int.reduceLE, Int.reduceEq, Int.reduceNeg, Int.reduceToNat, Nat.reduceBEq]) <;> rfl); simp only [LSx, Op.operands, Call.operands, LSa, LSy, LSd, forall_const, implies_true, false_implies, undef, reduceCtorEq, reduceIte, Nat.reduceAdd, Nat.reduceMul, Nat.reduceSub, Nat.reduceLT, Nat.reduceLeDiff, Nat.reduceEqDiff, Int.reduceAdd, Int.reduceSub, Int.reduceMul, Int.reduceLT, Int.reduceLE, Int.reduceEq, Int.reduceNeg, Int.reduceToNat, Nat.reduceBEq]
  refine cop_intro ?ha (c8) ?_; (case ha => (simp only [LSx, Op.operands, Call.operands, LSa, LSy, LSd, forall_const, implies_true, false_implies, undef, reduceCtorEq, reduceIte, Nat.reduceAdd, Nat.reduceMul, Nat.reduceSub, Nat.reduceLT, Nat.reduceLeDiff, Nat.reduceEqDiff, Int.reduceAdd, Int.reduceSub, Int.reduceMul, Int.reduceLT, Int.reduceLE, Int.reduceEq, Int.reduceNeg, Int.reduceToNat, Nat.reduceBEq]) <;> rfl); simp only [LSx, Op.operands, Call.operands, LSa, LSy, LSd, forall_const, implies_true, false_implies, undef, reduceCtorEq, reduceIte, Nat.reduceAdd, Nat.reduceMul, Nat.reduceSub, Nat.reduceLT, Nat.reduceLeDiff, Nat.reduceEqDiff, Int.reduceAdd, Int.reduceSub, Int.reduceMul, Int.reduceLT, Int.reduceLE, Int.reduceEq, Int.reduceNeg, Int.reduceToNat, Nat.reduceBEq]
  refine hK _ ?_; clear hK K; try simp only [thenL, inBlockL, jumpsL, reduceIte, Nat.reduceEqDiff]
  refine LW_ret ?_; simp only [thenL, jumpsL, inBlockL, twoL, bodyQ, LV.lit.injEq, LV.tup.injEq, LV.agg.injEq, LV.sl.injEq, List.cons.injEq, Value.int.injEq, Value.bool.injEq, Value.string.injEq, ByteArray.mk.injEq, exists_eq_left', exists_eq_left, exists_eq_right, LSx, Op.operands, Call.operands, LSa, LSy, LSd, forall_const, implies_true, false_implies, undef, reduceCtorEq, reduceIte, Nat.reduceAdd, Nat.reduceMul, Nat.reduceSub, Nat.reduceLT, Nat.reduceLeDiff, Nat.reduceEqDiff, Int.reduceAdd, Int.reduceSub, Int.reduceMul, Int.reduceLT, Int.reduceLE, Int.reduceEq, Int.reduceNeg, Int.reduceToNat, Nat.reduceBEq]
end Go.Proofs.Ytpficpldemickaa
