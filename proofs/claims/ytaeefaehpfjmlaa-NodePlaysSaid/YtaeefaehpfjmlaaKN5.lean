import Derived.Test.YtaeefaehpfjmlaaKN4
set_option linter.unusedSimpArgs false
set_option linter.unusedVariables false
namespace Go.Proofs.Ytaeefaehpfjmlaa
open Nat renaming reduceAdd → zz1, reduceMul → zz2, reduceSub → zz3, reduceLT → zz4, reduceLeDiff → zz5, reduceEqDiff → zz6, reduceBEq → zzf
open Int renaming reduceAdd → zz7, reduceSub → zz8, reduceMul → zz9, reduceLT → zza, reduceLE → zzb, reduceEq → zzc, reduceNeg → zzd, reduceToNat → zze
open Op renaming operands → zo
open Call renaming operands → zc
open Go.RowKit Go.Proofs AclSpec MetaSpec NodeSpec GSort Flo Ext

set_option maxRecDepth 100000 in
theorem isFile_L (n : FNode) (h : small n) : LCalls Try.prog 29 [.agg (nodeL n)] (boolL (isFileN n)) := by
  have cm := nmay_L n h
  simp only [nodeL, attrsL, acesL, piecesL, rowL] at cm
  refine LCalls.of (fun _ => false) Try.func29 rfl (by decide) Try.ntmps29 Try.results29 (by simp) ?_
  intro w0 S0 vs hgl hwf0 hsz hvs; clear hsz hvs hwf0 hgl
  (repeat (first | refine LW_seq ?_ | ((first | (refine LW_region ?_; intro K hK; simp only [LZ, zo, zc, reduceCtorEq, reduceIte, zz1, zz2, zz3, zz4, zz5, zz6, zz7, zz8, zz9, zza, zzb, zzc, zzd, zze, zzf, nodeL, piecesL, attrsL, acesL]; refine hK _ ?_; clear hK K) | refine LW_label ?_ | refine LW_skip ?_); try simp only [LSj, reduceIte, zze]) | refine LW_block ?_))
  by_cases g1 : n.kind = 2
  · simp only [g1] at cm
    (repeat (first | refine LW_seq ?_ | (refine LW_skip ?_; simp only [LSj, reduceIte, zze]) | refine LW_block ?_)); refine LW_region ?_; intro K hK; simp only [LZ, zo, zc, reduceCtorEq, reduceIte, zz1, zz2, zz3, zz4, zz5, zz6, zz7, zz8, zz9, zza, zzb, zzc, zzd, zze, zzf, g1]
    refine cop_intro ?ha (cm) ?_; (case ha => (simp only [LZ, zo, zc, reduceCtorEq, reduceIte, zz1, zz2, zz3, zz4, zz5, zz6, zz7, zz8, zz9, zza, zzb, zzc, zzd, zze, zzf]) <;> rfl); simp only [LZ, zo, zc, reduceCtorEq, reduceIte, zz1, zz2, zz3, zz4, zz5, zz6, zz7, zz8, zz9, zza, zzb, zzc, zzd, zze, zzf]
    refine hK _ ?_; clear hK K; try simp only [LSj, reduceIte, zze]
    refine LW_ret ?_; simp only [thenL, jumpsL, inBlockL, twoL, bodyQ, LV.lit.injEq, LV.tup.injEq, LV.agg.injEq, LV.sl.injEq, List.cons.injEq, Value.int.injEq, Value.bool.injEq, Value.string.injEq, ByteArray.mk.injEq, exists_eq_left', exists_eq_left, exists_eq_right, LZ, zo, zc, reduceCtorEq, reduceIte, zz1, zz2, zz3, zz4, zz5, zz6, zz7, zz8, zz9, zza, zzb, zzc, zzd, zze, zzf]
    simp [isFileN, g1]
  · (repeat (first | refine LW_seq ?_ | (refine LW_skip ?_; simp only [LSj, reduceIte, zze]) | refine LW_block ?_)); refine LW_region ?_; intro K hK; simp only [LZ, zo, zc, reduceCtorEq, reduceIte, zz1, zz2, zz3, zz4, zz5, zz6, zz7, zz8, zz9, zza, zzb, zzc, zzd, zze, zzf, g1]
    refine hK _ ?_; clear hK K; try simp only [LSj, reduceIte, zze]
    refine LW_ret ?_; simp only [thenL, jumpsL, inBlockL, twoL, bodyQ, LV.lit.injEq, LV.tup.injEq, LV.agg.injEq, LV.sl.injEq, List.cons.injEq, Value.int.injEq, Value.bool.injEq, Value.string.injEq, ByteArray.mk.injEq, exists_eq_left', exists_eq_left, exists_eq_right, LZ, zo, zc, reduceCtorEq, reduceIte, zz1, zz2, zz3, zz4, zz5, zz6, zz7, zz8, zz9, zza, zzb, zzc, zzd, zze, zzf]
    simp [isFileN, g1]

set_option maxRecDepth 100000 in
theorem nsame_L (a b : FNode) (ha : okLen a) (hb : okLen b) : LCalls Try.prog 21 [.agg (nodeL a), .agg (nodeL b)] (boolL (decide (a = b))) := by
  have c := ndiff_L a b ha hb
  simp only [nodeL, attrsL, acesL, piecesL, rowL] at c
  refine LCalls.of (fun _ => false) Try.func21 rfl (by decide) Try.ntmps21 Try.results21 (by simp) ?_
  intro w0 S0 vs hgl hwf0 hsz hvs; clear hsz hvs hwf0 hgl
  (repeat (first | refine LW_seq ?_ | ((first | (refine LW_region ?_; intro K hK; simp only [LZ, zo, zc, reduceCtorEq, reduceIte, zz1, zz2, zz3, zz4, zz5, zz6, zz7, zz8, zz9, zza, zzb, zzc, zzd, zze, zzf, nodeL, piecesL, attrsL, acesL]; refine hK _ ?_; clear hK K) | refine LW_label ?_ | refine LW_skip ?_); try simp only [LSj, reduceIte, zze]) | refine LW_block ?_))
  (repeat (first | refine LW_seq ?_ | (refine LW_skip ?_; simp only [LSj, reduceIte, zze]) | refine LW_block ?_)); refine LW_region ?_; intro K hK; simp only [LZ, zo, zc, reduceCtorEq, reduceIte, zz1, zz2, zz3, zz4, zz5, zz6, zz7, zz8, zz9, zza, zzb, zzc, zzd, zze, zzf]
  refine cop_intro ?ha (c) ?_; (case ha => (simp only [LZ, zo, zc, reduceCtorEq, reduceIte, zz1, zz2, zz3, zz4, zz5, zz6, zz7, zz8, zz9, zza, zzb, zzc, zzd, zze, zzf]) <;> rfl); simp only [LZ, zo, zc, reduceCtorEq, reduceIte, zz1, zz2, zz3, zz4, zz5, zz6, zz7, zz8, zz9, zza, zzb, zzc, zzd, zze, zzf]
  refine hK _ ?_; clear hK K; try simp only [LSj, reduceIte, zze]
  refine LW_ret ?_; simp only [thenL, jumpsL, inBlockL, twoL, bodyQ, LV.lit.injEq, LV.tup.injEq, LV.agg.injEq, LV.sl.injEq, List.cons.injEq, Value.int.injEq, Value.bool.injEq, Value.string.injEq, ByteArray.mk.injEq, exists_eq_left', exists_eq_left, exists_eq_right, LZ, zo, zc, reduceCtorEq, reduceIte, zz1, zz2, zz3, zz4, zz5, zz6, zz7, zz8, zz9, zza, zzb, zzc, zzd, zze, zzf]
  rw [Bool.eq_iff_iff, decide_eq_true_eq, decide_eq_true_eq, diffN_nil]

set_option maxRecDepth 100000 in
theorem copyOf_L (n : FNode) (h : small n) : LCalls Try.prog 30 [.agg (nodeL n)] (.agg (nodeL n)) := by
  have hd := h.2.2.1
  have a1 := pieceL_strip n.dat
  have a2 := pieceL_one n.dat
  have a3 := pieceL_flen n.dat
  have cm := copy_L n.mt h.1 h.2.1
  simp only [metaL, attrsL, acesL, rowL] at cm
  refine LCalls.of (fun _ => false) Try.func30 rfl (by decide) Try.ntmps30 Try.results30 (by simp) ?_
  intro w0 S0 vs hgl hwf0 hsz hvs; clear hsz hvs hwf0 hgl
  (repeat (first | refine LW_seq ?_ | ((first | (refine LW_region ?_; intro K hK; simp only [LZ, zo, zc, reduceCtorEq, reduceIte, zz1, zz2, zz3, zz4, zz5, zz6, zz7, zz8, zz9, zza, zzb, zzc, zzd, zze, zzf, nodeL, piecesL, attrsL, acesL]; refine hK _ ?_; clear hK K) | refine LW_label ?_ | refine LW_skip ?_); try simp only [LSj, reduceIte, zze]) | refine LW_block ?_))
  (repeat (first | refine LW_seq ?_ | (refine LW_skip ?_; simp only [LSj, reduceIte, zze]) | refine LW_block ?_)); refine LW_region ?_; intro K hK; simp only [LZ, zo, zc, reduceCtorEq, reduceIte, zz1, zz2, zz3, zz4, zz5, zz6, zz7, zz8, zz9, zza, zzb, zzc, zzd, zze, zzf]
  refine cop_intro ?ha (cm) ?_; (case ha => (simp only [LZ, zo, zc, reduceCtorEq, reduceIte, zz1, zz2, zz3, zz4, zz5, zz6, zz7, zz8, zz9, zza, zzb, zzc, zzd, zze, zzf]) <;> rfl); simp only [LZ, zo, zc, reduceCtorEq, reduceIte, zz1, zz2, zz3, zz4, zz5, zz6, zz7, zz8, zz9, zza, zzb, zzc, zzd, zze, zzf]
  refine hK _ ?_; clear hK K; try simp only [LSj, reduceIte, zze]
  (repeat (first | refine LW_seq ?_ | (refine LW_skip ?_; simp only [LSj, reduceIte, zze]) | refine LW_block ?_)); refine LW_region ?_; intro K hK; simp only [LZ, zo, zc, reduceCtorEq, reduceIte, zz1, zz2, zz3, zz4, zz5, zz6, zz7, zz8, zz9, zza, zzb, zzc, zzd, zze, zzf, a1, a2, a3]
  refine ⟨by (repeat' apply And.intro) <;> first | omega | (unfold maxLen; omega) | (intro _; omega) | decide, ?_⟩
  refine hK _ ?_; clear hK K; try simp only [LSj, reduceIte, zze]
  (repeat (first | refine LW_seq ?_ | ((first | (refine LW_region ?_; intro K hK; simp only [LZ, zo, zc, reduceCtorEq, reduceIte, zz1, zz2, zz3, zz4, zz5, zz6, zz7, zz8, zz9, zza, zzb, zzc, zzd, zze, zzf]; refine hK _ ?_; clear hK K) | refine LW_label ?_ | refine LW_skip ?_); try simp only [LSj, reduceIte, zze]) | refine LW_block ?_))
  refine LW_ret ?_; simp only [thenL, jumpsL, inBlockL, twoL, bodyQ, LV.lit.injEq, LV.tup.injEq, LV.agg.injEq, LV.sl.injEq, List.cons.injEq, Value.int.injEq, Value.bool.injEq, Value.string.injEq, ByteArray.mk.injEq, exists_eq_left', exists_eq_left, exists_eq_right, LZ, zo, zc, reduceCtorEq, reduceIte, zz1, zz2, zz3, zz4, zz5, zz6, zz7, zz8, zz9, zza, zzb, zzc, zzd, zze, zzf, nodeL, piecesL, attrsL, acesL]

set_option maxRecDepth 100000 in
theorem copyOf_O (n : FNode) (h : small n) : OCalls Try.prog 30 [.agg (nodeL n)] ⟨[], [], []⟩
    (.agg [intL n.kind, intL n.mt.mode, intL n.mt.uid, intL n.mt.gid, intL n.mt.time, attrsL n.mt.attrs, acesL n.mt.acl, intL n.size, .sl n.dat.length (n.dat.flatMap pieceL) (.row 2000), strL n.target, intL n.major, intL n.minor]) ⟨[(2000, (55, n.dat.length))], [], []⟩ := by
  have hd := h.2.2.1
  have a1 := pieceL_strip n.dat
  have a2 := pieceL_one n.dat
  have a3 := pieceL_flen n.dat
  have cm := copy_L n.mt h.1 h.2.1
  simp only [metaL, attrsL, acesL, rowL] at cm
  refine OCalls.of (fun _ => false) Try.func30 rfl (by decide) Try.ntmps30 Try.results30 (by simp) ?_
  intro w0 S0 vs
  (repeat (first | refine LW_seq ?_ | ((first | (refine LW_region ?_; intro K hK; simp only [LZ, zo, zc, reduceCtorEq, reduceIte, zz1, zz2, zz3, zz4, zz5, zz6, zz7, zz8, zz9, zza, zzb, zzc, zzd, zze, zzf, nodeL, piecesL, attrsL, acesL]; refine hK _ ?_; clear hK K) | refine LW_label ?_ | refine LW_skip ?_); try simp only [LSj, reduceIte, zze]) | refine LW_block ?_))
  (repeat (first | refine LW_seq ?_ | (refine LW_skip ?_; simp only [LSj, reduceIte, zze]) | refine LW_block ?_)); refine LW_region ?_; intro K hK; simp only [LZ, zo, zc, reduceCtorEq, reduceIte, zz1, zz2, zz3, zz4, zz5, zz6, zz7, zz8, zz9, zza, zzb, zzc, zzd, zze, zzf]
  refine cop_intro ?ha (cm) ?_; (case ha => (simp only [LZ, zo, zc, reduceCtorEq, reduceIte, zz1, zz2, zz3, zz4, zz5, zz6, zz7, zz8, zz9, zza, zzb, zzc, zzd, zze, zzf]) <;> rfl); simp only [LZ, zo, zc, reduceCtorEq, reduceIte, zz1, zz2, zz3, zz4, zz5, zz6, zz7, zz8, zz9, zza, zzb, zzc, zzd, zze, zzf]
  refine hK _ ?_; clear hK K; try simp only [LSj, reduceIte, zze]
  (repeat (first | refine LW_seq ?_ | (refine LW_skip ?_; simp only [LSj, reduceIte, zze]) | refine LW_block ?_)); refine LW_region ?_; intro K hK; simp only [LZ, zo, zc, reduceCtorEq, reduceIte, zz1, zz2, zz3, zz4, zz5, zz6, zz7, zz8, zz9, zza, zzb, zzc, zzd, zze, zzf, a1, a2, a3]
  refine ⟨by (repeat' apply And.intro) <;> first | omega | (unfold maxLen; omega) | (intro _; omega) | decide, ?_⟩
  refine hK _ ?_; clear hK K; try simp only [LSj, reduceIte, zze]
  (repeat (first | refine LW_seq ?_ | ((first | (refine LW_region ?_; intro K hK; simp only [LZ, zo, zc, reduceCtorEq, reduceIte, zz1, zz2, zz3, zz4, zz5, zz6, zz7, zz8, zz9, zza, zzb, zzc, zzd, zze, zzf]; refine hK _ ?_; clear hK K) | refine LW_label ?_ | refine LW_skip ?_); try simp only [LSj, reduceIte, zze]) | refine LW_block ?_))
  refine LW_ret ?_; simp only [thenL, jumpsL, inBlockL, twoL, bodyO]; refine ⟨[(9, 2000)], rfl, ?_⟩; simp only [thenL, jumpsL, inBlockL, twoL, bodyQ, LV.lit.injEq, LV.tup.injEq, LV.agg.injEq, LV.sl.injEq, List.cons.injEq, Value.int.injEq, Value.bool.injEq, Value.string.injEq, ByteArray.mk.injEq, exists_eq_left', exists_eq_left, exists_eq_right, LZ, zo, zc, reduceCtorEq, reduceIte, zz1, zz2, zz3, zz4, zz5, zz6, zz7, zz8, zz9, zza, zzb, zzc, zzd, zze, zzf, nodeL, piecesL, attrsL, acesL]
end Go.Proofs.Ytaeefaehpfjmlaa
