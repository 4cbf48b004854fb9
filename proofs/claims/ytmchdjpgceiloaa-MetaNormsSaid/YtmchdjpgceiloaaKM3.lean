/-
  The comparator of attributes at values; meta.Norm, by what it returns.
-/
import Derived.Test.YtmchdjpgceiloaaKM2
import Derived.Test.YtmchdjpgceiloaaL12
import Derived.Test.YtmchdjpgceiloaaShelfG
import Derived.Test.YtmchdjpgceiloaaAGood
import Derived.Shelf.SlSortCmp.NoneTotal
set_option linter.unusedSimpArgs false
set_option linter.unusedVariables false
namespace Go.Proofs.Ytmchdjpgceiloaa
open Go.RowKit AclSpec MetaSpec GSort Go.Sort

def cmpS (x y : List UInt8) : Int := if Op.bytesLess x y then -1 else if !(Op.bytesLess x y || decide (x = y)) then 1 else 0
def cmpT (a b : Attr) : Int := cmpS a.name b.name
theorem cmpT_lt (a b : Attr) : cmpT a b < 0 ↔ Op.bytesLess a.name b.name = true := by
  unfold cmpT cmpS
  cases Op.bytesLess a.name b.name
  · simp; split <;> simp
  · simp
def attrCells (a : Attr) : List Value := [.string ⟨a.name.toArray⟩, .string ⟨a.value.toArray⟩]
set_option maxRecDepth 100000 in
theorem isNaNS_any (x : List UInt8) (w : World) : Calls Try.prog 31 #[.string ⟨x.toArray⟩] w fun e w' => e = .returned (.bool false) ∧ w' = w := by
  have hc : ((⟨x.toArray⟩ : ByteArray).toList == (⟨x.toArray⟩ : ByteArray).toList) = true := by simp
  go_enter Try.func31, Try.ntmps31
  go_wp2_with fail
  go_ret
  refine ⟨?_, rfl⟩
  simp [hc]
set_option maxRecDepth 100000 in
theorem cmpSt_any (x y : List UInt8) (w : World) : Calls Try.prog 21 #[.string ⟨x.toArray⟩, .string ⟨y.toArray⟩] w fun e w' => e = .returned (.int .i64 (cmpS x y)) ∧ w' = w := by
  have en : ∀ (vs : Array Value) (w : World), (callFunc 31 vs).run Try.prog w = .ok (.enter 31 vs) w := enters_of Try.func31 (by kernel_rfl) rfl
  have h1 := isNaNS_any x w
  have h2 := isNaNS_any y w
  have ex : (⟨x.toArray⟩ : ByteArray).toList = x := by rw [toList_eq]
  have ey : (⟨y.toArray⟩ : ByteArray).toList = y := by rw [toList_eq]
  unfold cmpS
  cases hl : Op.bytesLess x y
  · cases he : decide (x = y)
    · have g1 : (Op.bytesLess (⟨x.toArray⟩ : ByteArray).toList (⟨y.toArray⟩ : ByteArray).toList) = false := by rw [ex, ey]; exact hl
      have g2 : ((⟨x.toArray⟩ : ByteArray).toList == (⟨y.toArray⟩ : ByteArray).toList) = false := by rw [ex, ey, dec_beq]; exact he
      have g3 : (!(Op.bytesLess (⟨x.toArray⟩ : ByteArray).toList (⟨y.toArray⟩ : ByteArray).toList || (⟨x.toArray⟩ : ByteArray).toList == (⟨y.toArray⟩ : ByteArray).toList)) = true := by rw [g1, g2]; rfl
      clear g2
      go_enter Try.func21, Try.ntmps21
      go_wp2_with (first | (refine h1.mono ?_; rintro e w' ⟨rfl, rfl⟩) | (refine h2.mono ?_; rintro e w' ⟨rfl, rfl⟩))
      all_goals first | (go_ret; exact ⟨rfl, rfl⟩) | (exfalso; simp_all)
    · have g1 : (Op.bytesLess (⟨x.toArray⟩ : ByteArray).toList (⟨y.toArray⟩ : ByteArray).toList) = false := by rw [ex, ey]; exact hl
      have g2 : ((⟨x.toArray⟩ : ByteArray).toList == (⟨y.toArray⟩ : ByteArray).toList) = true := by rw [ex, ey, dec_beq]; exact he
      have g3 : (!(Op.bytesLess (⟨x.toArray⟩ : ByteArray).toList (⟨y.toArray⟩ : ByteArray).toList || (⟨x.toArray⟩ : ByteArray).toList == (⟨y.toArray⟩ : ByteArray).toList)) = false := by rw [g1, g2]; rfl
      clear g2
      go_enter Try.func21, Try.ntmps21
      go_wp2_with (first | (refine h1.mono ?_; rintro e w' ⟨rfl, rfl⟩) | (refine h2.mono ?_; rintro e w' ⟨rfl, rfl⟩))
      all_goals first | (go_ret; exact ⟨rfl, rfl⟩) | (exfalso; simp_all)
  · have g1 : (Op.bytesLess (⟨x.toArray⟩ : ByteArray).toList (⟨y.toArray⟩ : ByteArray).toList) = true := by rw [ex, ey]; exact hl
    go_enter Try.func21, Try.ntmps21
    go_wp2_with (first | (refine h1.mono ?_; rintro e w' ⟨rfl, rfl⟩) | (refine h2.mono ?_; rintro e w' ⟨rfl, rfl⟩))
    go_ret
    exact ⟨rfl, rfl⟩
set_option maxRecDepth 100000 in
theorem cmpT_any (a b : Attr) (w : World) : Calls Try.prog 20 #[.agg #[.string ⟨a.name.toArray⟩, .string ⟨a.value.toArray⟩], .agg #[.string ⟨b.name.toArray⟩, .string ⟨b.value.toArray⟩]] w fun e w' => e = .returned (.int .i64 (cmpT a b)) ∧ Grw w w' := by
  have en : ∀ (vs : Array Value) (w : World), (callFunc 21 vs).run Try.prog w = .ok (.enter 21 vs) w := enters_of Try.func21 (by kernel_rfl) rfl
  unfold cmpT
  go_enter Try.func20, Try.ntmps20
  go_wp2_with (refine (cmpSt_any a.name b.name _).mono ?_; rintro e w' ⟨rfl, rfl⟩)
  go_ret
  exact ⟨rfl, ((Grw.refl w).alloc _).alloc _⟩
theorem swoT : SWO (ltOf cmpT) where
  irrefl x := by simp only [ltOf, cmpT_lt, decide_eq_false_iff_not, bl_irr]; simp
  trans x y z h1 h2 := by
    simp only [ltOf, cmpT_lt, decide_eq_true_eq] at *; exact bl_trans h1 h2
  ntrans x y z h1 h2 := by
    simp only [ltOf, cmpT_lt, decide_eq_false_iff_not, Bool.not_eq_true] at *; exact bl_lo.ntrans h2 h1
theorem isAggAttr (w : World) : (isAgg 36).run Try.prog w = .ok true w := by kernel_rfl
theorem sizeAttr (w : World) : (Go.sizeOf 36).run Try.prog w = .ok 2 w := by kernel_rfl
theorem sortAttr_enters : ∀ (vs : Array Value) (w : World), (callFunc 19 vs).run Try.prog w = .ok (.enter 19 vs) w :=
  enters_of Try.func19 (by kernel_rfl) rfl
theorem sortAttr_by : SortsBy Try.prog 19 20 attrCells 2 cmpT := by
  intro blk cap d w hc hH hb hl
  exact AnyQ.slices_SortFunc Try.sortAttr 2 isAggAttr sizeAttr attrCells (fun _ => rfl) (fun x v hv => by simp [attrCells] at hv; rcases hv with rfl | rfl <;> rfl) cmpT swoT 20 #[] blk 0 cap d w (enters_of Try.func20 (by kernel_rfl) rfl) hc hH hb hl
theorem sortAttr_none : SortsNone Try.prog 19 20 := fun w =>
  AnyF.slices_SortFunc_none Try.sortAttr none 0 _ w
theorem attrsV_lits (l : List Attr) : litsL (l.flatMap attrCells) = l.flatMap attrL := by
  unfold litsL
  rw [List.map_flatMap]; rfl

set_option maxRecDepth 100000 in
set_option maxHeartbeats 1000000 in
theorem mnorm_L (l : List Attr) (hl : l.length ≤ 1000000) : LCalls Try.prog 9 [attrsL l] (.tup [attrsL (normT l).1, intL (normT l).2]) := by
  refine LCalls.of (fun d => d == 19) Try.func9 rfl (by decide) Try.ntmps9 Try.results9 (by simp) ?_
  intro w0 S0 vs hgl hwf0 hsz hvs; clear hsz hvs hwf0 hgl
  generalize hR : normT l = R
  unfold normT at hR
  (repeat (first | (refine LW_seq ?_) | (refine LW_region ?_; intro K hK; simp only [LSa, LSy, LSd, forall_const, implies_true, false_implies, undef, reduceCtorEq, reduceIte, Nat.reduceAdd, Nat.reduceMul, Nat.reduceSub, Nat.reduceLT, Nat.reduceLeDiff, Nat.reduceEqDiff, Int.reduceAdd, Int.reduceSub, Int.reduceMul, Int.reduceLT, Int.reduceLE, Int.reduceEq, Int.reduceNeg, Int.reduceToNat, Nat.reduceBEq, attrsL]; refine hK _ ?_; clear hK K; try simp only [thenL, inBlockL, jumpsL, reduceIte, Nat.reduceEqDiff]) | (refine LW_label ?_; try simp only [thenL, inBlockL, jumpsL, reduceIte, Nat.reduceEqDiff]) | (refine LW_skip ?_; try simp only [thenL, inBlockL, jumpsL, reduceIte, Nat.reduceEqDiff]) | (refine LW_block ?_)))
  refine LW_lab2
    (fun n st => ∃ i : Nat, n + i = 2 * l.length + 3 ∧ i ≤ l.length ∧ st.env 0 = attrsL l ∧ st.env 4 = intL i ∧ (l.take i).all goodT = true ∧ st.mode = (fun d => d == 19))
    (fun n st => ∃ (i : Nat) (l' : List Attr), n + i = l.length + 1 ∧ 1 ≤ i ∧ st.env 4 = intL i ∧ st.env 5 = attrsL l' ∧ l.all goodT = true ∧ l'.Perm l ∧ SortedG Attr.name Op.bytesLess l' ∧ apartTo Attr.name l' i) rfl rfl ?_ ?_ ?_
  · intro hJ0 hJ1
    (repeat (first | (refine LW_seq ?_; refine LW_region ?_; intro K hK; simp only [LSa, LSy, LSd, forall_const, implies_true, false_implies, undef, reduceCtorEq, reduceIte, Nat.reduceAdd, Nat.reduceMul, Nat.reduceSub, Nat.reduceLT, Nat.reduceLeDiff, Nat.reduceEqDiff, Int.reduceAdd, Int.reduceSub, Int.reduceMul, Int.reduceLT, Int.reduceLE, Int.reduceEq, Int.reduceNeg, Int.reduceToNat, Nat.reduceBEq, attrsL]; refine hK _ ?_; clear hK K; try simp only [thenL, inBlockL, jumpsL, reduceIte, Nat.reduceEqDiff]) | (refine LW_region ?_; intro K hK; simp only [LSa, LSy, LSd, forall_const, implies_true, false_implies, undef, reduceCtorEq, reduceIte, Nat.reduceAdd, Nat.reduceMul, Nat.reduceSub, Nat.reduceLT, Nat.reduceLeDiff, Nat.reduceEqDiff, Int.reduceAdd, Int.reduceSub, Int.reduceMul, Int.reduceLT, Int.reduceLE, Int.reduceEq, Int.reduceNeg, Int.reduceToNat, Nat.reduceBEq, attrsL]; refine hK _ ?_; clear hK K; try simp only [thenL, inBlockL, jumpsL, reduceIte, Nat.reduceEqDiff]) | (refine LW_skip ?_; simp only [thenL, inBlockL, jumpsL, reduceIte, Nat.reduceEqDiff]))); refine LW_seq ?_; refine LW_label ?_; simp only [thenL, inBlockL, jumpsL, reduceIte, Nat.reduceEqDiff]
    exact hJ0.out (2 * l.length + 3) _ ⟨0, by omega, by omega, rfl, rfl, rfl, rfl⟩
  · rintro n st ⟨i, hn, hi, h0, h4, hg, hmd⟩ hJ1
    (repeat (first | (refine LW_seq ?_) | (refine LW_region ?_; intro K hK; simp only [LSa, LSy, LSd, forall_const, implies_true, false_implies, undef, reduceCtorEq, reduceIte, Nat.reduceAdd, Nat.reduceMul, Nat.reduceSub, Nat.reduceLT, Nat.reduceLeDiff, Nat.reduceEqDiff, Int.reduceAdd, Int.reduceSub, Int.reduceMul, Int.reduceLT, Int.reduceLE, Int.reduceEq, Int.reduceNeg, Int.reduceToNat, Nat.reduceBEq, h0, h4, attrsL]; refine hK _ ?_; clear hK K; try simp only [thenL, inBlockL, jumpsL, reduceIte, Nat.reduceEqDiff]) | (refine LW_label ?_; try simp only [thenL, inBlockL, jumpsL, reduceIte, Nat.reduceEqDiff]) | (refine LW_skip ?_; try simp only [thenL, inBlockL, jumpsL, reduceIte, Nat.reduceEqDiff]) | (refine LW_block ?_)))
    by_cases hlt : i < l.length
    · obtain ⟨a, ha⟩ := get_of_lt hlt
      have hd := drop_attr ha
      have hw := w64s (n := i) (by omega)
      refine LW_if ?_; intro X Y hX hY; simp only [LSa, LSy, LSd, forall_const, implies_true, false_implies, undef, reduceCtorEq, reduceIte, Nat.reduceAdd, Nat.reduceMul, Nat.reduceSub, Nat.reduceLT, Nat.reduceLeDiff, Nat.reduceEqDiff, Int.reduceAdd, Int.reduceSub, Int.reduceMul, Int.reduceLT, Int.reduceLE, Int.reduceEq, Int.reduceNeg, Int.reduceToNat, Nat.reduceBEq, hlt]; refine hX ?_; clear hX hY X Y; try simp only [thenL, inBlockL, jumpsL, reduceIte, Nat.reduceEqDiff]
      cases hgd : goodT a
      · (repeat (first | (refine LW_seq ?_) | (refine LW_skip ?_; simp only [thenL, inBlockL, jumpsL, reduceIte, Nat.reduceEqDiff]) | (refine LW_block ?_))); refine LW_region ?_; intro K hK; simp only [LSa, LSy, LSd, forall_const, implies_true, false_implies, undef, reduceCtorEq, reduceIte, Nat.reduceAdd, Nat.reduceMul, Nat.reduceSub, Nat.reduceLT, Nat.reduceLeDiff, Nat.reduceEqDiff, Int.reduceAdd, Int.reduceSub, Int.reduceMul, Int.reduceLT, Int.reduceLE, Int.reduceEq, Int.reduceNeg, Int.reduceToNat, Nat.reduceBEq, h0, h4, attrsL, hlt, hd]
        refine cop_intro ?ha (mgood_L a) ?_; (case ha => (simp only [LSa, LSy, LSd, forall_const, implies_true, false_implies, undef, reduceCtorEq, reduceIte, Nat.reduceAdd, Nat.reduceMul, Nat.reduceSub, Nat.reduceLT, Nat.reduceLeDiff, Nat.reduceEqDiff, Int.reduceAdd, Int.reduceSub, Int.reduceMul, Int.reduceLT, Int.reduceLE, Int.reduceEq, Int.reduceNeg, Int.reduceToNat, Nat.reduceBEq, attrL, hgd]) <;> rfl); simp only [LSa, LSy, LSd, forall_const, implies_true, false_implies, undef, reduceCtorEq, reduceIte, Nat.reduceAdd, Nat.reduceMul, Nat.reduceSub, Nat.reduceLT, Nat.reduceLeDiff, Nat.reduceEqDiff, Int.reduceAdd, Int.reduceSub, Int.reduceMul, Int.reduceLT, Int.reduceLE, Int.reduceEq, Int.reduceNeg, Int.reduceToNat, Nat.reduceBEq, attrL, hgd]
        refine hK _ ?_; clear hK K; try simp only [thenL, inBlockL, jumpsL, reduceIte, Nat.reduceEqDiff]
        refine LW_if ?_; intro X Y hX hY; simp only [LSa, LSy, LSd, forall_const, implies_true, false_implies, undef, reduceCtorEq, reduceIte, Nat.reduceAdd, Nat.reduceMul, Nat.reduceSub, Nat.reduceLT, Nat.reduceLeDiff, Nat.reduceEqDiff, Int.reduceAdd, Int.reduceSub, Int.reduceMul, Int.reduceLT, Int.reduceLE, Int.reduceEq, Int.reduceNeg, Int.reduceToNat, Nat.reduceBEq]; refine hX ?_; clear hX hY X Y; try simp only [thenL, inBlockL, jumpsL, reduceIte, Nat.reduceEqDiff]
        (repeat (first | (refine LW_seq ?_) | (refine LW_region ?_; intro K hK; simp only [LSa, LSy, LSd, forall_const, implies_true, false_implies, undef, reduceCtorEq, reduceIte, Nat.reduceAdd, Nat.reduceMul, Nat.reduceSub, Nat.reduceLT, Nat.reduceLeDiff, Nat.reduceEqDiff, Int.reduceAdd, Int.reduceSub, Int.reduceMul, Int.reduceLT, Int.reduceLE, Int.reduceEq, Int.reduceNeg, Int.reduceToNat, Nat.reduceBEq]; refine hK _ ?_; clear hK K; try simp only [thenL, inBlockL, jumpsL, reduceIte, Nat.reduceEqDiff]) | (refine LW_label ?_; try simp only [thenL, inBlockL, jumpsL, reduceIte, Nat.reduceEqDiff]) | (refine LW_skip ?_; try simp only [thenL, inBlockL, jumpsL, reduceIte, Nat.reduceEqDiff]) | (refine LW_block ?_)))
        refine LW_ret ?_; simp only [thenL, jumpsL, inBlockL, twoL, bodyQ, LV.lit.injEq, LV.tup.injEq, LV.agg.injEq, LV.sl.injEq, List.cons.injEq, Value.int.injEq, Value.bool.injEq, Value.string.injEq, ByteArray.mk.injEq, exists_eq_left', exists_eq_left, exists_eq_right, LSa, LSy, LSd, forall_const, implies_true, false_implies, undef, reduceCtorEq, reduceIte, Nat.reduceAdd, Nat.reduceMul, Nat.reduceSub, Nat.reduceLT, Nat.reduceLeDiff, Nat.reduceEqDiff, Int.reduceAdd, Int.reduceSub, Int.reduceMul, Int.reduceLT, Int.reduceLE, Int.reduceEq, Int.reduceNeg, Int.reduceToNat, Nat.reduceBEq]
        rw [← hR, normG_bad ha hgd]; exact ⟨rfl, rfl⟩
      · (repeat (first | (refine LW_seq ?_) | (refine LW_skip ?_; simp only [thenL, inBlockL, jumpsL, reduceIte, Nat.reduceEqDiff]) | (refine LW_block ?_))); refine LW_region ?_; intro K hK; simp only [LSa, LSy, LSd, forall_const, implies_true, false_implies, undef, reduceCtorEq, reduceIte, Nat.reduceAdd, Nat.reduceMul, Nat.reduceSub, Nat.reduceLT, Nat.reduceLeDiff, Nat.reduceEqDiff, Int.reduceAdd, Int.reduceSub, Int.reduceMul, Int.reduceLT, Int.reduceLE, Int.reduceEq, Int.reduceNeg, Int.reduceToNat, Nat.reduceBEq, h0, h4, attrsL, hlt, hd]
        refine cop_intro ?ha (mgood_L a) ?_; (case ha => (simp only [LSa, LSy, LSd, forall_const, implies_true, false_implies, undef, reduceCtorEq, reduceIte, Nat.reduceAdd, Nat.reduceMul, Nat.reduceSub, Nat.reduceLT, Nat.reduceLeDiff, Nat.reduceEqDiff, Int.reduceAdd, Int.reduceSub, Int.reduceMul, Int.reduceLT, Int.reduceLE, Int.reduceEq, Int.reduceNeg, Int.reduceToNat, Nat.reduceBEq, attrL, hgd]) <;> rfl); simp only [LSa, LSy, LSd, forall_const, implies_true, false_implies, undef, reduceCtorEq, reduceIte, Nat.reduceAdd, Nat.reduceMul, Nat.reduceSub, Nat.reduceLT, Nat.reduceLeDiff, Nat.reduceEqDiff, Int.reduceAdd, Int.reduceSub, Int.reduceMul, Int.reduceLT, Int.reduceLE, Int.reduceEq, Int.reduceNeg, Int.reduceToNat, Nat.reduceBEq, attrL, hgd]
        refine hK _ ?_; clear hK K; try simp only [thenL, inBlockL, jumpsL, reduceIte, Nat.reduceEqDiff]
        refine LW_if ?_; intro X Y hX hY; simp only [LSa, LSy, LSd, forall_const, implies_true, false_implies, undef, reduceCtorEq, reduceIte, Nat.reduceAdd, Nat.reduceMul, Nat.reduceSub, Nat.reduceLT, Nat.reduceLeDiff, Nat.reduceEqDiff, Int.reduceAdd, Int.reduceSub, Int.reduceMul, Int.reduceLT, Int.reduceLE, Int.reduceEq, Int.reduceNeg, Int.reduceToNat, Nat.reduceBEq]; refine hY ?_; clear hX hY X Y; (try simp only [thenL, inBlockL, jumpsL, reduceIte, Nat.reduceEqDiff]); (try (refine LW_skip ?_; simp only [thenL, inBlockL, jumpsL, reduceIte, Nat.reduceEqDiff]))
        (repeat (first | (refine LW_seq ?_) | (refine LW_region ?_; intro K hK; simp only [LSa, LSy, LSd, forall_const, implies_true, false_implies, undef, reduceCtorEq, reduceIte, Nat.reduceAdd, Nat.reduceMul, Nat.reduceSub, Nat.reduceLT, Nat.reduceLeDiff, Nat.reduceEqDiff, Int.reduceAdd, Int.reduceSub, Int.reduceMul, Int.reduceLT, Int.reduceLE, Int.reduceEq, Int.reduceNeg, Int.reduceToNat, Nat.reduceBEq, h4, hw]; refine hK _ ?_; clear hK K; try simp only [thenL, inBlockL, jumpsL, reduceIte, Nat.reduceEqDiff]) | (refine LW_label ?_; try simp only [thenL, inBlockL, jumpsL, reduceIte, Nat.reduceEqDiff]) | (refine LW_skip ?_; try simp only [thenL, inBlockL, jumpsL, reduceIte, Nat.reduceEqDiff]) | (refine LW_block ?_)))
        refine LW_goto ?_; simp only [thenL, jumpsL, inBlockL, twoL, true_and]
        exact ⟨n - 1, by omega, i + 1, by omega, by omega, (by first | exact rfl | assumption | (simp only [LSa, LSy, LSd, forall_const, implies_true, false_implies, undef, reduceCtorEq, reduceIte, Nat.reduceAdd, Nat.reduceMul, Nat.reduceSub, Nat.reduceLT, Nat.reduceLeDiff, Nat.reduceEqDiff, Int.reduceAdd, Int.reduceSub, Int.reduceMul, Int.reduceLT, Int.reduceLE, Int.reduceEq, Int.reduceNeg, Int.reduceToNat, Nat.reduceBEq, h0]; done) | (simp only [LSa, LSy, LSd, forall_const, implies_true, false_implies, undef, reduceCtorEq, reduceIte, Nat.reduceAdd, Nat.reduceMul, Nat.reduceSub, Nat.reduceLT, Nat.reduceLeDiff, Nat.reduceEqDiff, Int.reduceAdd, Int.reduceSub, Int.reduceMul, Int.reduceLT, Int.reduceLE, Int.reduceEq, Int.reduceNeg, Int.reduceToNat, Nat.reduceBEq, h0]; exact rfl)), (by first | exact rfl | assumption | (simp only [LSa, LSy, LSd, forall_const, implies_true, false_implies, undef, reduceCtorEq, reduceIte, Nat.reduceAdd, Nat.reduceMul, Nat.reduceSub, Nat.reduceLT, Nat.reduceLeDiff, Nat.reduceEqDiff, Int.reduceAdd, Int.reduceSub, Int.reduceMul, Int.reduceLT, Int.reduceLE, Int.reduceEq, Int.reduceNeg, Int.reduceToNat, Nat.reduceBEq]; done) | (simp only [LSa, LSy, LSd, forall_const, implies_true, false_implies, undef, reduceCtorEq, reduceIte, Nat.reduceAdd, Nat.reduceMul, Nat.reduceSub, Nat.reduceLT, Nat.reduceLeDiff, Nat.reduceEqDiff, Int.reduceAdd, Int.reduceSub, Int.reduceMul, Int.reduceLT, Int.reduceLE, Int.reduceEq, Int.reduceNeg, Int.reduceToNat, Nat.reduceBEq]; exact rfl)), all_succ ha hgd hg, (by first | exact rfl | assumption | (simp only [LSa, LSy, LSd, forall_const, implies_true, false_implies, undef, reduceCtorEq, reduceIte, Nat.reduceAdd, Nat.reduceMul, Nat.reduceSub, Nat.reduceLT, Nat.reduceLeDiff, Nat.reduceEqDiff, Int.reduceAdd, Int.reduceSub, Int.reduceMul, Int.reduceLT, Int.reduceLE, Int.reduceEq, Int.reduceNeg, Int.reduceToNat, Nat.reduceBEq, hmd]; done) | (simp only [LSa, LSy, LSd, forall_const, implies_true, false_implies, undef, reduceCtorEq, reduceIte, Nat.reduceAdd, Nat.reduceMul, Nat.reduceSub, Nat.reduceLT, Nat.reduceLeDiff, Nat.reduceEqDiff, Int.reduceAdd, Int.reduceSub, Int.reduceMul, Int.reduceLT, Int.reduceLE, Int.reduceEq, Int.reduceNeg, Int.reduceToNat, Nat.reduceBEq, hmd]; exact rfl))⟩
    · refine LW_if ?_; intro X Y hX hY; simp only [LSa, LSy, LSd, forall_const, implies_true, false_implies, undef, reduceCtorEq, reduceIte, Nat.reduceAdd, Nat.reduceMul, Nat.reduceSub, Nat.reduceLT, Nat.reduceLeDiff, Nat.reduceEqDiff, Int.reduceAdd, Int.reduceSub, Int.reduceMul, Int.reduceLT, Int.reduceLE, Int.reduceEq, Int.reduceNeg, Int.reduceToNat, Nat.reduceBEq, hlt]; refine hY ?_; clear hX hY X Y; (try simp only [thenL, inBlockL, jumpsL, reduceIte, Nat.reduceEqDiff]); (try (refine LW_skip ?_; simp only [thenL, inBlockL, jumpsL, reduceIte, Nat.reduceEqDiff]))
      have hone := attrL_one l
      have hfl := attrL_flen l
      have hst := attrL_strip l
      (repeat (first | (refine LW_seq ?_) | (refine LW_skip ?_; simp only [thenL, inBlockL, jumpsL, reduceIte, Nat.reduceEqDiff]) | (refine LW_block ?_))); refine LW_region ?_; intro K hK; simp only [LSa, LSy, LSd, forall_const, implies_true, false_implies, undef, reduceCtorEq, reduceIte, Nat.reduceAdd, Nat.reduceMul, Nat.reduceSub, Nat.reduceLT, Nat.reduceLeDiff, Nat.reduceEqDiff, Int.reduceAdd, Int.reduceSub, Int.reduceMul, Int.reduceLT, Int.reduceLE, Int.reduceEq, Int.reduceNeg, Int.reduceToNat, Nat.reduceBEq, h0, attrsL, hst, hone, hfl, hmd]
      refine ⟨by (repeat' apply And.intro) <;> first | omega | (unfold maxLen; omega) | (intro _; omega) | decide, ?_⟩
      refine hK _ ?_; clear hK K; try simp only [thenL, inBlockL, jumpsL, reduceIte, Nat.reduceEqDiff]
      (repeat (first | (refine LW_seq ?_) | (refine LW_skip ?_; simp only [thenL, inBlockL, jumpsL, reduceIte, Nat.reduceEqDiff]) | (refine LW_block ?_))); refine LW_mid 1 rfl rfl ?_; intro K hK; simp only [LSa, LSy, LSd, forall_const, implies_true, false_implies, undef, reduceCtorEq, reduceIte, Nat.reduceAdd, Nat.reduceMul, Nat.reduceSub, Nat.reduceLT, Nat.reduceLeDiff, Nat.reduceEqDiff, Int.reduceAdd, Int.reduceSub, Int.reduceMul, Int.reduceLT, Int.reduceLE, Int.reduceEq, Int.reduceNeg, Int.reduceToNat, Nat.reduceBEq, attrsL]; refine hK _ ?_; clear hK K
      refine sort_last (enc := attrCells) (k := 2) (l := l) (d := 19) (e := 36) (cf := cmpT) (fun _ => rfl) (by decide) sortAttr_enters sortAttr_by sortAttr_none (fun _ _ _ _ _ _ _ x y => cmpT_any x y _) rfl ?_ rfl (by omega) (by decide) ?_
      · rw [attrsV_lits]; simp only [LSa, LSy, LSd, forall_const, implies_true, false_implies, undef, reduceCtorEq, reduceIte, Nat.reduceAdd, Nat.reduceMul, Nat.reduceSub, Nat.reduceLT, Nat.reduceLeDiff, Nat.reduceEqDiff, Int.reduceAdd, Int.reduceSub, Int.reduceMul, Int.reduceLT, Int.reduceLE, Int.reduceEq, Int.reduceNeg, Int.reduceToNat, Nat.reduceBEq]
      intro l' hp hs K hK
      have hll := hp.length_eq
      rw [attrsV_lits]
      simp only [LSa, LSy, LSd, forall_const, implies_true, false_implies, undef, reduceCtorEq, reduceIte, Nat.reduceAdd, Nat.reduceMul, Nat.reduceSub, Nat.reduceLT, Nat.reduceLeDiff, Nat.reduceEqDiff, Int.reduceAdd, Int.reduceSub, Int.reduceMul, Int.reduceLT, Int.reduceLE, Int.reduceEq, Int.reduceNeg, Int.reduceToNat, Nat.reduceBEq]
      refine hK _ ?_; clear hK K; try simp only [thenL, inBlockL, jumpsL, reduceIte, Nat.reduceEqDiff]
      refine LW_publish 5 (d := 19) (n := l.length) (e := 36) (cs := l'.flatMap attrL) rfl (by simp only [LSa, LSy, LSd, forall_const, implies_true, false_implies, undef, reduceCtorEq, reduceIte, Nat.reduceAdd, Nat.reduceMul, Nat.reduceSub, Nat.reduceLT, Nat.reduceLeDiff, Nat.reduceEqDiff, Int.reduceAdd, Int.reduceSub, Int.reduceMul, Int.reduceLT, Int.reduceLE, Int.reduceEq, Int.reduceNeg, Int.reduceToNat, Nat.reduceBEq]) (by rw [attrL_flen, hll]; rfl) ?_
      have hgA : l.all goodT = true := by
        have : l.take i = l := List.take_of_length_le (by omega)
        rwa [this] at hg
      have hs' : SortedG Attr.name Op.bytesLess l' := hs.imp (fun h => by rw [cmpT_lt, Bool.not_eq_true] at h; exact h)
      (repeat (first | (refine LW_seq ?_; refine LW_region ?_; intro K hK; simp only [LSa, LSy, LSd, forall_const, implies_true, false_implies, undef, reduceCtorEq, reduceIte, Nat.reduceAdd, Nat.reduceMul, Nat.reduceSub, Nat.reduceLT, Nat.reduceLeDiff, Nat.reduceEqDiff, Int.reduceAdd, Int.reduceSub, Int.reduceMul, Int.reduceLT, Int.reduceLE, Int.reduceEq, Int.reduceNeg, Int.reduceToNat, Nat.reduceBEq, attrsL]; refine hK _ ?_; clear hK K; try simp only [thenL, inBlockL, jumpsL, reduceIte, Nat.reduceEqDiff]) | (refine LW_region ?_; intro K hK; simp only [LSa, LSy, LSd, forall_const, implies_true, false_implies, undef, reduceCtorEq, reduceIte, Nat.reduceAdd, Nat.reduceMul, Nat.reduceSub, Nat.reduceLT, Nat.reduceLeDiff, Nat.reduceEqDiff, Int.reduceAdd, Int.reduceSub, Int.reduceMul, Int.reduceLT, Int.reduceLE, Int.reduceEq, Int.reduceNeg, Int.reduceToNat, Nat.reduceBEq, attrsL]; refine hK _ ?_; clear hK K; try simp only [thenL, inBlockL, jumpsL, reduceIte, Nat.reduceEqDiff]) | (refine LW_skip ?_; simp only [thenL, inBlockL, jumpsL, reduceIte, Nat.reduceEqDiff]))); refine LW_seq ?_; refine LW_label ?_; simp only [thenL, inBlockL, jumpsL, reduceIte, Nat.reduceEqDiff]
      exact hJ1.out l.length _ (by omega) ⟨1, l', by omega, by omega, rfl, by unfold attrsL rowL; rw [hll]; rfl, hgA, hp, hs', fun j a b hj => by omega⟩
  · rintro n st ⟨i, l', hn, h1, h4, h5, hg, hp, hs, hA⟩ hJ0
    have hll := hp.length_eq
    (repeat (first | (refine LW_seq ?_) | (refine LW_region ?_; intro K hK; simp only [LSa, LSy, LSd, forall_const, implies_true, false_implies, undef, reduceCtorEq, reduceIte, Nat.reduceAdd, Nat.reduceMul, Nat.reduceSub, Nat.reduceLT, Nat.reduceLeDiff, Nat.reduceEqDiff, Int.reduceAdd, Int.reduceSub, Int.reduceMul, Int.reduceLT, Int.reduceLE, Int.reduceEq, Int.reduceNeg, Int.reduceToNat, Nat.reduceBEq, h4, h5, attrsL]; refine hK _ ?_; clear hK K; try simp only [thenL, inBlockL, jumpsL, reduceIte, Nat.reduceEqDiff]) | (refine LW_label ?_; try simp only [thenL, inBlockL, jumpsL, reduceIte, Nat.reduceEqDiff]) | (refine LW_skip ?_; try simp only [thenL, inBlockL, jumpsL, reduceIte, Nat.reduceEqDiff]) | (refine LW_block ?_)))
    by_cases hlt : i < l'.length
    · obtain ⟨a, ha⟩ := get_of_lt hlt
      obtain ⟨b, hb⟩ := get_of_lt (l := l') (i := i - 1) (by omega)
      have hd := drop_attr ha
      have hdb := drop_attr hb
      have hw := w64s (n := i) (by omega)
      have hwp := w64p (n := i) (by omega) (by omega)
      have hi1 : i - 1 < l'.length := by omega
      refine LW_if ?_; intro X Y hX hY; simp only [LSa, LSy, LSd, forall_const, implies_true, false_implies, undef, reduceCtorEq, reduceIte, Nat.reduceAdd, Nat.reduceMul, Nat.reduceSub, Nat.reduceLT, Nat.reduceLeDiff, Nat.reduceEqDiff, Int.reduceAdd, Int.reduceSub, Int.reduceMul, Int.reduceLT, Int.reduceLE, Int.reduceEq, Int.reduceNeg, Int.reduceToNat, Nat.reduceBEq, hlt]; refine hX ?_; clear hX hY X Y; try simp only [thenL, inBlockL, jumpsL, reduceIte, Nat.reduceEqDiff]
      (repeat (first | (refine LW_seq ?_) | (refine LW_skip ?_; simp only [thenL, inBlockL, jumpsL, reduceIte, Nat.reduceEqDiff]) | (refine LW_block ?_))); refine LW_any (by kernel_rfl) (by kernel_rfl) (by kernel_rfl) (by first | exact rfl | (rw [hmd]; exact rfl)) ?_; intro K hK; simp only [LSa, LSy, LSd, forall_const, implies_true, false_implies, undef, reduceCtorEq, reduceIte, Nat.reduceAdd, Nat.reduceMul, Nat.reduceSub, Nat.reduceLT, Nat.reduceLeDiff, Nat.reduceEqDiff, Int.reduceAdd, Int.reduceSub, Int.reduceMul, Int.reduceLT, Int.reduceLE, Int.reduceEq, Int.reduceNeg, Int.reduceToNat, Nat.reduceBEq, h4, h5, attrsL, hlt, hd, hwp, hi1, hdb]
      refine hK _ ?_; clear hK K; try simp only [thenL, inBlockL, jumpsL, reduceIte, Nat.reduceEqDiff]
      by_cases hc : b.name = a.name
      · refine LW_if ?_; intro X Y hX hY; simp only [LSa, LSy, LSd, forall_const, implies_true, false_implies, undef, reduceCtorEq, reduceIte, Nat.reduceAdd, Nat.reduceMul, Nat.reduceSub, Nat.reduceLT, Nat.reduceLeDiff, Nat.reduceEqDiff, Int.reduceAdd, Int.reduceSub, Int.reduceMul, Int.reduceLT, Int.reduceLE, Int.reduceEq, Int.reduceNeg, Int.reduceToNat, Nat.reduceBEq, hc]; refine hX ?_; clear hX hY X Y; try simp only [thenL, inBlockL, jumpsL, reduceIte, Nat.reduceEqDiff]
        (repeat (first | (refine LW_seq ?_) | (refine LW_region ?_; intro K hK; simp only [LSa, LSy, LSd, forall_const, implies_true, false_implies, undef, reduceCtorEq, reduceIte, Nat.reduceAdd, Nat.reduceMul, Nat.reduceSub, Nat.reduceLT, Nat.reduceLeDiff, Nat.reduceEqDiff, Int.reduceAdd, Int.reduceSub, Int.reduceMul, Int.reduceLT, Int.reduceLE, Int.reduceEq, Int.reduceNeg, Int.reduceToNat, Nat.reduceBEq]; refine hK _ ?_; clear hK K; try simp only [thenL, inBlockL, jumpsL, reduceIte, Nat.reduceEqDiff]) | (refine LW_label ?_; try simp only [thenL, inBlockL, jumpsL, reduceIte, Nat.reduceEqDiff]) | (refine LW_skip ?_; try simp only [thenL, inBlockL, jumpsL, reduceIte, Nat.reduceEqDiff]) | (refine LW_block ?_)))
        refine LW_ret ?_; simp only [thenL, jumpsL, inBlockL, twoL, bodyQ, LV.lit.injEq, LV.tup.injEq, LV.agg.injEq, LV.sl.injEq, List.cons.injEq, Value.int.injEq, Value.bool.injEq, Value.string.injEq, ByteArray.mk.injEq, exists_eq_left', exists_eq_left, exists_eq_right, LSa, LSy, LSd, forall_const, implies_true, false_implies, undef, reduceCtorEq, reduceIte, Nat.reduceAdd, Nat.reduceMul, Nat.reduceSub, Nat.reduceLT, Nat.reduceLeDiff, Nat.reduceEqDiff, Int.reduceAdd, Int.reduceSub, Int.reduceMul, Int.reduceLT, Int.reduceLE, Int.reduceEq, Int.reduceNeg, Int.reduceToNat, Nat.reduceBEq]
        rw [← hR, normG_dup hg hp hb (by rw [show i - 1 + 1 = i by omega]; exact ha) hc]; exact ⟨rfl, rfl⟩
      · refine LW_if ?_; intro X Y hX hY; simp only [LSa, LSy, LSd, forall_const, implies_true, false_implies, undef, reduceCtorEq, reduceIte, Nat.reduceAdd, Nat.reduceMul, Nat.reduceSub, Nat.reduceLT, Nat.reduceLeDiff, Nat.reduceEqDiff, Int.reduceAdd, Int.reduceSub, Int.reduceMul, Int.reduceLT, Int.reduceLE, Int.reduceEq, Int.reduceNeg, Int.reduceToNat, Nat.reduceBEq, hc]; refine hY ?_; clear hX hY X Y; (try simp only [thenL, inBlockL, jumpsL, reduceIte, Nat.reduceEqDiff]); (try (refine LW_skip ?_; simp only [thenL, inBlockL, jumpsL, reduceIte, Nat.reduceEqDiff]))
        (repeat (first | (refine LW_seq ?_) | (refine LW_region ?_; intro K hK; simp only [LSa, LSy, LSd, forall_const, implies_true, false_implies, undef, reduceCtorEq, reduceIte, Nat.reduceAdd, Nat.reduceMul, Nat.reduceSub, Nat.reduceLT, Nat.reduceLeDiff, Nat.reduceEqDiff, Int.reduceAdd, Int.reduceSub, Int.reduceMul, Int.reduceLT, Int.reduceLE, Int.reduceEq, Int.reduceNeg, Int.reduceToNat, Nat.reduceBEq, h4, hw]; refine hK _ ?_; clear hK K; try simp only [thenL, inBlockL, jumpsL, reduceIte, Nat.reduceEqDiff]) | (refine LW_label ?_; try simp only [thenL, inBlockL, jumpsL, reduceIte, Nat.reduceEqDiff]) | (refine LW_skip ?_; try simp only [thenL, inBlockL, jumpsL, reduceIte, Nat.reduceEqDiff]) | (refine LW_block ?_)))
        refine LW_goto ?_; simp only [thenL, jumpsL, inBlockL, twoL, true_and]
        exact ⟨n - 1, by omega, i + 1, l', by omega, by omega, (by first | exact rfl | assumption | (simp only [LSa, LSy, LSd, forall_const, implies_true, false_implies, undef, reduceCtorEq, reduceIte, Nat.reduceAdd, Nat.reduceMul, Nat.reduceSub, Nat.reduceLT, Nat.reduceLeDiff, Nat.reduceEqDiff, Int.reduceAdd, Int.reduceSub, Int.reduceMul, Int.reduceLT, Int.reduceLE, Int.reduceEq, Int.reduceNeg, Int.reduceToNat, Nat.reduceBEq]; done) | (simp only [LSa, LSy, LSd, forall_const, implies_true, false_implies, undef, reduceCtorEq, reduceIte, Nat.reduceAdd, Nat.reduceMul, Nat.reduceSub, Nat.reduceLT, Nat.reduceLeDiff, Nat.reduceEqDiff, Int.reduceAdd, Int.reduceSub, Int.reduceMul, Int.reduceLT, Int.reduceLE, Int.reduceEq, Int.reduceNeg, Int.reduceToNat, Nat.reduceBEq]; exact rfl)), (by first | exact rfl | assumption | (simp only [LSa, LSy, LSd, forall_const, implies_true, false_implies, undef, reduceCtorEq, reduceIte, Nat.reduceAdd, Nat.reduceMul, Nat.reduceSub, Nat.reduceLT, Nat.reduceLeDiff, Nat.reduceEqDiff, Int.reduceAdd, Int.reduceSub, Int.reduceMul, Int.reduceLT, Int.reduceLE, Int.reduceEq, Int.reduceNeg, Int.reduceToNat, Nat.reduceBEq, h5]; done) | (simp only [LSa, LSy, LSd, forall_const, implies_true, false_implies, undef, reduceCtorEq, reduceIte, Nat.reduceAdd, Nat.reduceMul, Nat.reduceSub, Nat.reduceLT, Nat.reduceLeDiff, Nat.reduceEqDiff, Int.reduceAdd, Int.reduceSub, Int.reduceMul, Int.reduceLT, Int.reduceLE, Int.reduceEq, Int.reduceNeg, Int.reduceToNat, Nat.reduceBEq, h5]; exact rfl)), hg, hp, hs, apartTo_succ h1 hb ha hc hA⟩
    · have hrest := normG_rest bl_lo (mx := 8) hg hp hs (apartTo_all (by omega) hA)
      rw [hrest] at hR
      refine LW_if ?_; intro X Y hX hY; simp only [LSa, LSy, LSd, forall_const, implies_true, false_implies, undef, reduceCtorEq, reduceIte, Nat.reduceAdd, Nat.reduceMul, Nat.reduceSub, Nat.reduceLT, Nat.reduceLeDiff, Nat.reduceEqDiff, Int.reduceAdd, Int.reduceSub, Int.reduceMul, Int.reduceLT, Int.reduceLE, Int.reduceEq, Int.reduceNeg, Int.reduceToNat, Nat.reduceBEq, hlt]; refine hY ?_; clear hX hY X Y; (try simp only [thenL, inBlockL, jumpsL, reduceIte, Nat.reduceEqDiff]); (try (refine LW_skip ?_; simp only [thenL, inBlockL, jumpsL, reduceIte, Nat.reduceEqDiff]))
      (repeat (first | (refine LW_seq ?_) | (refine LW_region ?_; intro K hK; simp only [LSa, LSy, LSd, forall_const, implies_true, false_implies, undef, reduceCtorEq, reduceIte, Nat.reduceAdd, Nat.reduceMul, Nat.reduceSub, Nat.reduceLT, Nat.reduceLeDiff, Nat.reduceEqDiff, Int.reduceAdd, Int.reduceSub, Int.reduceMul, Int.reduceLT, Int.reduceLE, Int.reduceEq, Int.reduceNeg, Int.reduceToNat, Nat.reduceBEq, h5, attrsL]; refine hK _ ?_; clear hK K; try simp only [thenL, inBlockL, jumpsL, reduceIte, Nat.reduceEqDiff]) | (refine LW_label ?_; try simp only [thenL, inBlockL, jumpsL, reduceIte, Nat.reduceEqDiff]) | (refine LW_skip ?_; try simp only [thenL, inBlockL, jumpsL, reduceIte, Nat.reduceEqDiff]) | (refine LW_block ?_)))
      by_cases h8 : (8 : Int) < l'.length
      · refine LW_if ?_; intro X Y hX hY; simp only [LSa, LSy, LSd, forall_const, implies_true, false_implies, undef, reduceCtorEq, reduceIte, Nat.reduceAdd, Nat.reduceMul, Nat.reduceSub, Nat.reduceLT, Nat.reduceLeDiff, Nat.reduceEqDiff, Int.reduceAdd, Int.reduceSub, Int.reduceMul, Int.reduceLT, Int.reduceLE, Int.reduceEq, Int.reduceNeg, Int.reduceToNat, Nat.reduceBEq, h8]; refine hX ?_; clear hX hY X Y; try simp only [thenL, inBlockL, jumpsL, reduceIte, Nat.reduceEqDiff]
        (repeat (first | (refine LW_seq ?_) | (refine LW_region ?_; intro K hK; simp only [LSa, LSy, LSd, forall_const, implies_true, false_implies, undef, reduceCtorEq, reduceIte, Nat.reduceAdd, Nat.reduceMul, Nat.reduceSub, Nat.reduceLT, Nat.reduceLeDiff, Nat.reduceEqDiff, Int.reduceAdd, Int.reduceSub, Int.reduceMul, Int.reduceLT, Int.reduceLE, Int.reduceEq, Int.reduceNeg, Int.reduceToNat, Nat.reduceBEq]; refine hK _ ?_; clear hK K; try simp only [thenL, inBlockL, jumpsL, reduceIte, Nat.reduceEqDiff]) | (refine LW_label ?_; try simp only [thenL, inBlockL, jumpsL, reduceIte, Nat.reduceEqDiff]) | (refine LW_skip ?_; try simp only [thenL, inBlockL, jumpsL, reduceIte, Nat.reduceEqDiff]) | (refine LW_block ?_)))
        refine LW_ret ?_; simp only [thenL, jumpsL, inBlockL, twoL, bodyQ, LV.lit.injEq, LV.tup.injEq, LV.agg.injEq, LV.sl.injEq, List.cons.injEq, Value.int.injEq, Value.bool.injEq, Value.string.injEq, ByteArray.mk.injEq, exists_eq_left', exists_eq_left, exists_eq_right, LSa, LSy, LSd, forall_const, implies_true, false_implies, undef, reduceCtorEq, reduceIte, Nat.reduceAdd, Nat.reduceMul, Nat.reduceSub, Nat.reduceLT, Nat.reduceLeDiff, Nat.reduceEqDiff, Int.reduceAdd, Int.reduceSub, Int.reduceMul, Int.reduceLT, Int.reduceLE, Int.reduceEq, Int.reduceNeg, Int.reduceToNat, Nat.reduceBEq]
        rw [← hR, if_pos (by omega)]; exact ⟨rfl, rfl⟩
      · refine LW_if ?_; intro X Y hX hY; simp only [LSa, LSy, LSd, forall_const, implies_true, false_implies, undef, reduceCtorEq, reduceIte, Nat.reduceAdd, Nat.reduceMul, Nat.reduceSub, Nat.reduceLT, Nat.reduceLeDiff, Nat.reduceEqDiff, Int.reduceAdd, Int.reduceSub, Int.reduceMul, Int.reduceLT, Int.reduceLE, Int.reduceEq, Int.reduceNeg, Int.reduceToNat, Nat.reduceBEq, h8]; refine hY ?_; clear hX hY X Y; (try simp only [thenL, inBlockL, jumpsL, reduceIte, Nat.reduceEqDiff]); (try (refine LW_skip ?_; simp only [thenL, inBlockL, jumpsL, reduceIte, Nat.reduceEqDiff]))
        (repeat (first | (refine LW_seq ?_) | (refine LW_region ?_; intro K hK; simp only [LSa, LSy, LSd, forall_const, implies_true, false_implies, undef, reduceCtorEq, reduceIte, Nat.reduceAdd, Nat.reduceMul, Nat.reduceSub, Nat.reduceLT, Nat.reduceLeDiff, Nat.reduceEqDiff, Int.reduceAdd, Int.reduceSub, Int.reduceMul, Int.reduceLT, Int.reduceLE, Int.reduceEq, Int.reduceNeg, Int.reduceToNat, Nat.reduceBEq, h5, attrsL]; refine hK _ ?_; clear hK K; try simp only [thenL, inBlockL, jumpsL, reduceIte, Nat.reduceEqDiff]) | (refine LW_label ?_; try simp only [thenL, inBlockL, jumpsL, reduceIte, Nat.reduceEqDiff]) | (refine LW_skip ?_; try simp only [thenL, inBlockL, jumpsL, reduceIte, Nat.reduceEqDiff]) | (refine LW_block ?_)))
        refine LW_ret ?_; simp only [thenL, jumpsL, inBlockL, twoL, bodyQ, LV.lit.injEq, LV.tup.injEq, LV.agg.injEq, LV.sl.injEq, List.cons.injEq, Value.int.injEq, Value.bool.injEq, Value.string.injEq, ByteArray.mk.injEq, exists_eq_left', exists_eq_left, exists_eq_right, LSa, LSy, LSd, forall_const, implies_true, false_implies, undef, reduceCtorEq, reduceIte, Nat.reduceAdd, Nat.reduceMul, Nat.reduceSub, Nat.reduceLT, Nat.reduceLeDiff, Nat.reduceEqDiff, Int.reduceAdd, Int.reduceSub, Int.reduceMul, Int.reduceLT, Int.reduceLE, Int.reduceEq, Int.reduceNeg, Int.reduceToNat, Nat.reduceBEq]
        rw [← hR, if_neg (by omega)]; exact ⟨rfl, rfl⟩
end Go.Proofs.Ytmchdjpgceiloaa
