import Derived.Test.YtaeefaehpfjmlaaKN9
import Derived.Test.YtaeefaehpfjmlaaKNF
import Derived.Test.YtaeefaehpfjmlaaKES
import Derived.Test.YtaeefaehpfjmlaaKR5
import Derived.Test.YtaeefaehpfjmlaaKR6
set_option linter.unusedSimpArgs false
set_option linter.unusedVariables false
namespace Go.Proofs.Ytaeefaehpfjmlaa
open Nat renaming reduceAdd → zz1, reduceMul → zz2, reduceSub → zz3, reduceLT → zz4, reduceLeDiff → zz5, reduceEqDiff → zz6, reduceBEq → zzf
open Int renaming reduceAdd → zz7, reduceSub → zz8, reduceMul → zz9, reduceLT → zza, reduceLE → zzb, reduceEq → zzc, reduceNeg → zzd, reduceToNat → zze
open Op renaming operands → zo
open Call renaming operands → zc
open Go.RowKit Go.Proofs AclSpec MetaSpec NodeSpec GSort Flo Ext

theorem write_okLen {n : FNode} {a : Int} {s : List UInt8} (h : okLen n) : okLen (writeN n a s).1 := by
  unfold writeN
  split
  · exact h
  · split
    · exact h
    · split
      · exact h
      · split
        · exact h
        · rename_i hh
          refine ⟨h.1, h.2.1, ?_⟩
          simp only [List.length_map]
          unfold maxLen; omega
theorem cut_okLen {n : FNode} {s : Int} (h : okLen n) : okLen (cutN n s).1 := by
  unfold cutN
  split
  · exact h
  · refine ⟨h.1, h.2.1, ?_⟩
    have h2 := h.2.2
    have : (cutP n.dat s).length ≤ n.dat.length := by
      unfold cutP; rw [List.length_map]; exact (List.takeWhile_sublist _).length_le
    show (cutP n.dat s).length ≤ maxLen
    omega
set_option maxRecDepth 100000 in
set_option maxHeartbeats 16000000 in
theorem nodeAsks_L (a b : FNode) (at' : Int) (s : List UInt8) (long : Int) (ha : okLen a) (hb : okLen b) : LCalls Try.prog 3 [.agg (nodeL a), .agg (nodeL b), intL at', strL s, intL long] (boolL true) := by
  have t0 := ntold_L
  have cfa := nfew_L a ha
  have cfb := nfew_L b hb
  simp only [boolL] at t0
  simp only [nodeL, attrsL, acesL, piecesL, rowL] at cfa cfb
  refine LCalls.of (fun _ => false) Try.func3 rfl (by decide) Try.ntmps3 Try.results3 (by simp) ?_
  intro w0 S0 vs hgl hwf0 hsz hvs; clear hsz hvs hwf0 hgl
  (repeat (first | refine LW_seq ?_ | ((first | (refine LW_region ?_; intro K hK; simp only [LZ, zo, zc, reduceCtorEq, reduceIte, zz1, zz2, zz3, zz4, zz5, zz6, zz7, zz8, zz9, zza, zzb, zzc, zzd, zze, zzf, nodeL, attrsL, acesL, piecesL]; refine hK _ ?_; clear hK K) | refine LW_label ?_ | refine LW_skip ?_); try simp only [LSj, reduceIte, zze]) | refine LW_block ?_))
  cases hfa : fewN a
  · rw [hfa] at cfa
    (repeat (first | refine LW_seq ?_ | (refine LW_skip ?_; simp only [LSj, reduceIte, zze]) | refine LW_block ?_)); refine LW_region ?_; intro K hK; simp only [LZ, zo, zc, reduceCtorEq, reduceIte, zz1, zz2, zz3, zz4, zz5, zz6, zz7, zz8, zz9, zza, zzb, zzc, zzd, zze, zzf]
    refine cop_intro ?ha (cfa) ?_; (case ha => (simp only [LZ, zo, zc, reduceCtorEq, reduceIte, zz1, zz2, zz3, zz4, zz5, zz6, zz7, zz8, zz9, zza, zzb, zzc, zzd, zze, zzf]) <;> rfl); simp only [LZ, zo, zc, reduceCtorEq, reduceIte, zz1, zz2, zz3, zz4, zz5, zz6, zz7, zz8, zz9, zza, zzb, zzc, zzd, zze, zzf]
    refine hK _ ?_; clear hK K; try simp only [LSj, reduceIte, zze]
    refine LW_if ?_; intro X Y hX hY; simp only [LZ, zo, zc, reduceCtorEq, reduceIte, zz1, zz2, zz3, zz4, zz5, zz6, zz7, zz8, zz9, zza, zzb, zzc, zzd, zze, zzf]; refine hX ?_; clear hX hY X Y; try simp only [LSj, reduceIte, zze]
    (repeat (first | refine LW_seq ?_ | (refine LW_skip ?_; simp only [LSj, reduceIte, zze]) | refine LW_block ?_)); refine LW_region ?_; intro K hK; simp only [LZ, zo, zc, reduceCtorEq, reduceIte, zz1, zz2, zz3, zz4, zz5, zz6, zz7, zz8, zz9, zza, zzb, zzc, zzd, zze, zzf]
    refine cop_intro ?ha (t0) ?_; (case ha => (simp only [LZ, zo, zc, reduceCtorEq, reduceIte, zz1, zz2, zz3, zz4, zz5, zz6, zz7, zz8, zz9, zza, zzb, zzc, zzd, zze, zzf]) <;> rfl); simp only [LZ, zo, zc, reduceCtorEq, reduceIte, zz1, zz2, zz3, zz4, zz5, zz6, zz7, zz8, zz9, zza, zzb, zzc, zzd, zze, zzf]
    refine hK _ ?_; clear hK K; try simp only [LSj, reduceIte, zze]
    refine LW_ret ?_; simp only [thenL, jumpsL, inBlockL, twoL, bodyQ, LV.lit.injEq, LV.tup.injEq, LV.agg.injEq, LV.sl.injEq, List.cons.injEq, Value.int.injEq, Value.bool.injEq, Value.string.injEq, ByteArray.mk.injEq, exists_eq_left', exists_eq_left, exists_eq_right, LZ, zo, zc, reduceCtorEq, reduceIte, zz1, zz2, zz3, zz4, zz5, zz6, zz7, zz8, zz9, zza, zzb, zzc, zzd, zze, zzf]
  rw [hfa] at cfa
  cases hfb : fewN b
  · rw [hfb] at cfb
    (repeat (first | refine LW_seq ?_ | (refine LW_skip ?_; simp only [LSj, reduceIte, zze]) | refine LW_block ?_)); refine LW_region ?_; intro K hK; simp only [LZ, zo, zc, reduceCtorEq, reduceIte, zz1, zz2, zz3, zz4, zz5, zz6, zz7, zz8, zz9, zza, zzb, zzc, zzd, zze, zzf]
    refine cop_intro ?ha (cfa) ?_; (case ha => (simp only [LZ, zo, zc, reduceCtorEq, reduceIte, zz1, zz2, zz3, zz4, zz5, zz6, zz7, zz8, zz9, zza, zzb, zzc, zzd, zze, zzf]) <;> rfl); simp only [LZ, zo, zc, reduceCtorEq, reduceIte, zz1, zz2, zz3, zz4, zz5, zz6, zz7, zz8, zz9, zza, zzb, zzc, zzd, zze, zzf]
    refine cop_intro ?ha (cfb) ?_; (case ha => (simp only [LZ, zo, zc, reduceCtorEq, reduceIte, zz1, zz2, zz3, zz4, zz5, zz6, zz7, zz8, zz9, zza, zzb, zzc, zzd, zze, zzf]) <;> rfl); simp only [LZ, zo, zc, reduceCtorEq, reduceIte, zz1, zz2, zz3, zz4, zz5, zz6, zz7, zz8, zz9, zza, zzb, zzc, zzd, zze, zzf]
    refine hK _ ?_; clear hK K; try simp only [LSj, reduceIte, zze]
    refine LW_if ?_; intro X Y hX hY; simp only [LZ, zo, zc, reduceCtorEq, reduceIte, zz1, zz2, zz3, zz4, zz5, zz6, zz7, zz8, zz9, zza, zzb, zzc, zzd, zze, zzf]; refine hX ?_; clear hX hY X Y; try simp only [LSj, reduceIte, zze]
    (repeat (first | refine LW_seq ?_ | (refine LW_skip ?_; simp only [LSj, reduceIte, zze]) | refine LW_block ?_)); refine LW_region ?_; intro K hK; simp only [LZ, zo, zc, reduceCtorEq, reduceIte, zz1, zz2, zz3, zz4, zz5, zz6, zz7, zz8, zz9, zza, zzb, zzc, zzd, zze, zzf]
    refine cop_intro ?ha (t0) ?_; (case ha => (simp only [LZ, zo, zc, reduceCtorEq, reduceIte, zz1, zz2, zz3, zz4, zz5, zz6, zz7, zz8, zz9, zza, zzb, zzc, zzd, zze, zzf]) <;> rfl); simp only [LZ, zo, zc, reduceCtorEq, reduceIte, zz1, zz2, zz3, zz4, zz5, zz6, zz7, zz8, zz9, zza, zzb, zzc, zzd, zze, zzf]
    refine hK _ ?_; clear hK K; try simp only [LSj, reduceIte, zze]
    refine LW_ret ?_; simp only [thenL, jumpsL, inBlockL, twoL, bodyQ, LV.lit.injEq, LV.tup.injEq, LV.agg.injEq, LV.sl.injEq, List.cons.injEq, Value.int.injEq, Value.bool.injEq, Value.string.injEq, ByteArray.mk.injEq, exists_eq_left', exists_eq_left, exists_eq_right, LZ, zo, zc, reduceCtorEq, reduceIte, zz1, zz2, zz3, zz4, zz5, zz6, zz7, zz8, zz9, zza, zzb, zzc, zzd, zze, zzf]
  rw [hfb] at cfb
  by_cases hs : (300 : Int) < s.length
  · (repeat (first | refine LW_seq ?_ | (refine LW_skip ?_; simp only [LSj, reduceIte, zze]) | refine LW_block ?_)); refine LW_region ?_; intro K hK; simp only [LZ, zo, zc, reduceCtorEq, reduceIte, zz1, zz2, zz3, zz4, zz5, zz6, zz7, zz8, zz9, zza, zzb, zzc, zzd, zze, zzf, hs]
    refine cop_intro ?ha (cfa) ?_; (case ha => (simp only [LZ, zo, zc, reduceCtorEq, reduceIte, zz1, zz2, zz3, zz4, zz5, zz6, zz7, zz8, zz9, zza, zzb, zzc, zzd, zze, zzf, hs]) <;> rfl); simp only [LZ, zo, zc, reduceCtorEq, reduceIte, zz1, zz2, zz3, zz4, zz5, zz6, zz7, zz8, zz9, zza, zzb, zzc, zzd, zze, zzf, hs]
    refine cop_intro ?ha (cfb) ?_; (case ha => (simp only [LZ, zo, zc, reduceCtorEq, reduceIte, zz1, zz2, zz3, zz4, zz5, zz6, zz7, zz8, zz9, zza, zzb, zzc, zzd, zze, zzf, hs]) <;> rfl); simp only [LZ, zo, zc, reduceCtorEq, reduceIte, zz1, zz2, zz3, zz4, zz5, zz6, zz7, zz8, zz9, zza, zzb, zzc, zzd, zze, zzf, hs]
    refine hK _ ?_; clear hK K; try simp only [LSj, reduceIte, zze]
    refine LW_if ?_; intro X Y hX hY; simp only [LZ, zo, zc, reduceCtorEq, reduceIte, zz1, zz2, zz3, zz4, zz5, zz6, zz7, zz8, zz9, zza, zzb, zzc, zzd, zze, zzf, hs]; refine hX ?_; clear hX hY X Y; try simp only [LSj, reduceIte, zze]
    (repeat (first | refine LW_seq ?_ | (refine LW_skip ?_; simp only [LSj, reduceIte, zze]) | refine LW_block ?_)); refine LW_region ?_; intro K hK; simp only [LZ, zo, zc, reduceCtorEq, reduceIte, zz1, zz2, zz3, zz4, zz5, zz6, zz7, zz8, zz9, zza, zzb, zzc, zzd, zze, zzf]
    refine cop_intro ?ha (t0) ?_; (case ha => (simp only [LZ, zo, zc, reduceCtorEq, reduceIte, zz1, zz2, zz3, zz4, zz5, zz6, zz7, zz8, zz9, zza, zzb, zzc, zzd, zze, zzf]) <;> rfl); simp only [LZ, zo, zc, reduceCtorEq, reduceIte, zz1, zz2, zz3, zz4, zz5, zz6, zz7, zz8, zz9, zza, zzb, zzc, zzd, zze, zzf]
    refine hK _ ?_; clear hK K; try simp only [LSj, reduceIte, zze]
    refine LW_ret ?_; simp only [thenL, jumpsL, inBlockL, twoL, bodyQ, LV.lit.injEq, LV.tup.injEq, LV.agg.injEq, LV.sl.injEq, List.cons.injEq, Value.int.injEq, Value.bool.injEq, Value.string.injEq, ByteArray.mk.injEq, exists_eq_left', exists_eq_left, exists_eq_right, LZ, zo, zc, reduceCtorEq, reduceIte, zz1, zz2, zz3, zz4, zz5, zz6, zz7, zz8, zz9, zza, zzb, zzc, zzd, zze, zzf]
  obtain ⟨sa, _, _, ta, _⟩ := fewN_small hfa
  have hta : a.target.length ≤ maxLen := by unfold maxLen; omega
  have hs2 : s.length ≤ 300 := by omega
  obtain ⟨L, hL⟩ : ∃ L : Int, (if (1000 : Int) < long then 1000 else long) = L := ⟨_, rfl⟩
  (repeat (first | refine LW_seq ?_ | (refine LW_skip ?_; simp only [LSj, reduceIte, zze]) | refine LW_block ?_)); refine LW_region ?_; intro K hK; simp only [LZ, zo, zc, reduceCtorEq, reduceIte, zz1, zz2, zz3, zz4, zz5, zz6, zz7, zz8, zz9, zza, zzb, zzc, zzd, zze, zzf, hs]
  refine cop_intro ?ha (cfa) ?_; (case ha => (simp only [LZ, zo, zc, reduceCtorEq, reduceIte, zz1, zz2, zz3, zz4, zz5, zz6, zz7, zz8, zz9, zza, zzb, zzc, zzd, zze, zzf, hs]) <;> rfl); simp only [LZ, zo, zc, reduceCtorEq, reduceIte, zz1, zz2, zz3, zz4, zz5, zz6, zz7, zz8, zz9, zza, zzb, zzc, zzd, zze, zzf, hs]
  refine cop_intro ?ha (cfb) ?_; (case ha => (simp only [LZ, zo, zc, reduceCtorEq, reduceIte, zz1, zz2, zz3, zz4, zz5, zz6, zz7, zz8, zz9, zza, zzb, zzc, zzd, zze, zzf, hs]) <;> rfl); simp only [LZ, zo, zc, reduceCtorEq, reduceIte, zz1, zz2, zz3, zz4, zz5, zz6, zz7, zz8, zz9, zza, zzb, zzc, zzd, zze, zzf, hs]
  refine hK _ ?_; clear hK K; try simp only [LSj, reduceIte, zze]
  refine LW_if ?_; intro X Y hX hY; simp only [LZ, zo, zc, reduceCtorEq, reduceIte, zz1, zz2, zz3, zz4, zz5, zz6, zz7, zz8, zz9, zza, zzb, zzc, zzd, zze, zzf, hs]; refine hY ?_; clear hX hY X Y; (try simp only [LSj, reduceIte, zze]); (try (refine LW_skip ?_; simp only [LSj, reduceIte, zze]))
  (repeat (first | refine LW_seq ?_ | ((first | (refine LW_region ?_; intro K hK; simp only [LZ, zo, zc, reduceCtorEq, reduceIte, zz1, zz2, zz3, zz4, zz5, zz6, zz7, zz8, zz9, zza, zzb, zzc, zzd, zze, zzf, hL]; refine hK _ ?_; clear hK K) | refine LW_label ?_ | refine LW_skip ?_); try simp only [LSj, reduceIte, zze]) | refine LW_block ?_))
  refine LW_slim (fun st => st.env 2 = intL at' ∧ st.env 3 = strL s ∧ st.env 5 = .ptr 5 0 ∧ st.box 5 = some (nodeL a) ∧ st.env 6 = .ptr 6 0 ∧ st.box 6 = some (nodeL b) ∧ st.env 11 = intL L ∧ st.mode = fun _ => false) ⟨(by first | exact rfl | assumption | (simp only [LZ, zo, zc, reduceCtorEq, reduceIte, zz1, zz2, zz3, zz4, zz5, zz6, zz7, zz8, zz9, zza, zzb, zzc, zzd, zze, zzf] <;> exact rfl)), (by first | exact rfl | assumption | (simp only [LZ, zo, zc, reduceCtorEq, reduceIte, zz1, zz2, zz3, zz4, zz5, zz6, zz7, zz8, zz9, zza, zzb, zzc, zzd, zze, zzf] <;> exact rfl)), (by first | exact rfl | assumption | (simp only [LZ, zo, zc, reduceCtorEq, reduceIte, zz1, zz2, zz3, zz4, zz5, zz6, zz7, zz8, zz9, zza, zzb, zzc, zzd, zze, zzf] <;> exact rfl)), (by first | exact rfl | assumption | (simp only [LZ, zo, zc, reduceCtorEq, reduceIte, zz1, zz2, zz3, zz4, zz5, zz6, zz7, zz8, zz9, zza, zzb, zzc, zzd, zze, zzf, nodeL, attrsL, acesL, piecesL] <;> exact rfl)), (by first | exact rfl | assumption | (simp only [LZ, zo, zc, reduceCtorEq, reduceIte, zz1, zz2, zz3, zz4, zz5, zz6, zz7, zz8, zz9, zza, zzb, zzc, zzd, zze, zzf] <;> exact rfl)), (by first | exact rfl | assumption | (simp only [LZ, zo, zc, reduceCtorEq, reduceIte, zz1, zz2, zz3, zz4, zz5, zz6, zz7, zz8, zz9, zza, zzb, zzc, zzd, zze, zzf, nodeL, attrsL, acesL, piecesL] <;> exact rfl)), (by first | exact rfl | assumption | (simp only [LZ, zo, zc, reduceCtorEq, reduceIte, zz1, zz2, zz3, zz4, zz5, zz6, zz7, zz8, zz9, zza, zzb, zzc, zzd, zze, zzf] <;> exact rfl)), (by first | exact rfl | assumption | (simp only [LZ, zo, zc, reduceCtorEq, reduceIte, zz1, zz2, zz3, zz4, zz5, zz6, zz7, zz8, zz9, zza, zzb, zzc, zzd, zze, zzf] <;> exact rfl))⟩ ?_
  rintro st ⟨e2, e3, e5, b5, e6, b6, e11, hmd⟩
  clear cfa cfb hfa hfb hs
  have c1 := nwrite_L a sa at' s (by omega)
  have c2 := rwrite_L a sa hta at' s (by omega)
  have c3 := ncut_L a sa at'
  have c4 := rcut_L a sa hta at'
  have c5 := nread_L a sa at' L
  have c6 := rread_L a sa hta at' L
  have d1 := nmay_L a sa
  have d2 := rmayNode_L a sa hta
  have kw := write_okLen (a := at') (s := s) ha
  have kc := cut_okLen (s := at') ha
  generalize writeN a at' s = W at *
  generalize cutN a at' = C at *
  generalize readN a at' L = R at *
  obtain ⟨W, w⟩ := W
  obtain ⟨C, c⟩ := C
  obtain ⟨R, r⟩ := R
  have d3 := rsameNode_L W W kw kw
  have d4 := rsameNode_L C C kc kc
  have d5 := ndiff_L a b ha hb
  have d6 := rdiffNode_L a b ha hb
  have d7 := nsame_L a b ha hb
  have d8 := rsameNode_L a b ha hb
  have d9 := nbytes_L a sa
  have d10 := rbytes_L a sa
  have d11 := nextents_L a sa
  have d12 := rextents_L a sa
  have d13 := esame_L (extN a) (extN a) (extN_ok a) (extN_ok a) (by rw [extN_len]; exact sa.2.2.1)
  rw [decide_eq_true rfl] at d3 d4 d13
  generalize mayN a = B at *
  generalize diffN a b = D at *
  generalize decide (a = b) = E at *
  simp only [nodeL, attrsL, acesL, piecesL, rowL] at c1 c2 c3 c4 c5 c6 d1 d2 d3 d4 d5 d6 d7 d8 d9 d10 d11 d12 b5 b6
  (repeat (first | refine LW_seq ?_ | (refine LW_skip ?_; simp only [LSj, reduceIte, zze]) | refine LW_block ?_)); refine LW_region ?_; intro K hK; simp only [LZ, zo, zc, reduceCtorEq, reduceIte, zz1, zz2, zz3, zz4, zz5, zz6, zz7, zz8, zz9, zza, zzb, zzc, zzd, zze, zzf, e2, e3, e5, b5]
  refine cop_intro ?ha (c1) ?_; (case ha => (simp only [LZ, zo, zc, reduceCtorEq, reduceIte, zz1, zz2, zz3, zz4, zz5, zz6, zz7, zz8, zz9, zza, zzb, zzc, zzd, zze, zzf, e2, e3, e5, b5]) <;> rfl); simp only [LZ, zo, zc, reduceCtorEq, reduceIte, zz1, zz2, zz3, zz4, zz5, zz6, zz7, zz8, zz9, zza, zzb, zzc, zzd, zze, zzf, e2, e3, e5, b5]
  refine hK _ ?_; clear hK K; try simp only [LSj, reduceIte, zze]
  (repeat (first | refine LW_seq ?_ | (refine LW_skip ?_; simp only [LSj, reduceIte, zze]) | refine LW_block ?_)); refine LW_region ?_; intro K hK; simp only [LZ, zo, zc, reduceCtorEq, reduceIte, zz1, zz2, zz3, zz4, zz5, zz6, zz7, zz8, zz9, zza, zzb, zzc, zzd, zze, zzf, e2, e3, e5, b5]
  refine cop_intro ?ha (c2) ?_; (case ha => (simp only [LZ, zo, zc, reduceCtorEq, reduceIte, zz1, zz2, zz3, zz4, zz5, zz6, zz7, zz8, zz9, zza, zzb, zzc, zzd, zze, zzf, e2, e3, e5, b5]) <;> rfl); simp only [LZ, zo, zc, reduceCtorEq, reduceIte, zz1, zz2, zz3, zz4, zz5, zz6, zz7, zz8, zz9, zza, zzb, zzc, zzd, zze, zzf, e2, e3, e5, b5]
  refine hK _ ?_; clear hK K; try simp only [LSj, reduceIte, zze]
  (repeat (first | refine LW_seq ?_ | (refine LW_skip ?_; simp only [LSj, reduceIte, zze]) | refine LW_block ?_)); refine LW_region ?_; intro K hK; simp only [LZ, zo, zc, reduceCtorEq, reduceIte, zz1, zz2, zz3, zz4, zz5, zz6, zz7, zz8, zz9, zza, zzb, zzc, zzd, zze, zzf, e2, e3, e5, b5]
  refine cop_intro ?ha (c3) ?_; (case ha => (simp only [LZ, zo, zc, reduceCtorEq, reduceIte, zz1, zz2, zz3, zz4, zz5, zz6, zz7, zz8, zz9, zza, zzb, zzc, zzd, zze, zzf, e2, e3, e5, b5]) <;> rfl); simp only [LZ, zo, zc, reduceCtorEq, reduceIte, zz1, zz2, zz3, zz4, zz5, zz6, zz7, zz8, zz9, zza, zzb, zzc, zzd, zze, zzf, e2, e3, e5, b5]
  refine hK _ ?_; clear hK K; try simp only [LSj, reduceIte, zze]
  (repeat (first | refine LW_seq ?_ | (refine LW_skip ?_; simp only [LSj, reduceIte, zze]) | refine LW_block ?_)); refine LW_region ?_; intro K hK; simp only [LZ, zo, zc, reduceCtorEq, reduceIte, zz1, zz2, zz3, zz4, zz5, zz6, zz7, zz8, zz9, zza, zzb, zzc, zzd, zze, zzf, e2, e3, e5, b5]
  refine cop_intro ?ha (c4) ?_; (case ha => (simp only [LZ, zo, zc, reduceCtorEq, reduceIte, zz1, zz2, zz3, zz4, zz5, zz6, zz7, zz8, zz9, zza, zzb, zzc, zzd, zze, zzf, e2, e3, e5, b5]) <;> rfl); simp only [LZ, zo, zc, reduceCtorEq, reduceIte, zz1, zz2, zz3, zz4, zz5, zz6, zz7, zz8, zz9, zza, zzb, zzc, zzd, zze, zzf, e2, e3, e5, b5]
  refine hK _ ?_; clear hK K; try simp only [LSj, reduceIte, zze]
  (repeat (first | refine LW_seq ?_ | (refine LW_skip ?_; simp only [LSj, reduceIte, zze]) | refine LW_block ?_)); refine LW_region ?_; intro K hK; simp only [LZ, zo, zc, reduceCtorEq, reduceIte, zz1, zz2, zz3, zz4, zz5, zz6, zz7, zz8, zz9, zza, zzb, zzc, zzd, zze, zzf, e2, e3, e5, b5, e11]
  refine cop_intro ?ha (c5) ?_; (case ha => (simp only [LZ, zo, zc, reduceCtorEq, reduceIte, zz1, zz2, zz3, zz4, zz5, zz6, zz7, zz8, zz9, zza, zzb, zzc, zzd, zze, zzf, e2, e3, e5, b5]) <;> rfl); simp only [LZ, zo, zc, reduceCtorEq, reduceIte, zz1, zz2, zz3, zz4, zz5, zz6, zz7, zz8, zz9, zza, zzb, zzc, zzd, zze, zzf, e2, e3, e5, b5]
  refine hK _ ?_; clear hK K; try simp only [LSj, reduceIte, zze]
  (repeat (first | refine LW_seq ?_ | (refine LW_skip ?_; simp only [LSj, reduceIte, zze]) | refine LW_block ?_)); refine LW_region ?_; intro K hK; simp only [LZ, zo, zc, reduceCtorEq, reduceIte, zz1, zz2, zz3, zz4, zz5, zz6, zz7, zz8, zz9, zza, zzb, zzc, zzd, zze, zzf, e2, e3, e5, b5, e11]
  refine cop_intro ?ha (c6) ?_; (case ha => (simp only [LZ, zo, zc, reduceCtorEq, reduceIte, zz1, zz2, zz3, zz4, zz5, zz6, zz7, zz8, zz9, zza, zzb, zzc, zzd, zze, zzf, e2, e3, e5, b5]) <;> rfl); simp only [LZ, zo, zc, reduceCtorEq, reduceIte, zz1, zz2, zz3, zz4, zz5, zz6, zz7, zz8, zz9, zza, zzb, zzc, zzd, zze, zzf, e2, e3, e5, b5]
  refine hK _ ?_; clear hK K; try simp only [LSj, reduceIte, zze]
  refine LW_slim (fun st => st.env 5 = .ptr 5 0 ∧ st.box 5 = some (nodeL a) ∧ st.env 6 = .ptr 6 0 ∧ st.box 6 = some (nodeL b) ∧ st.env 12 = .ptr 12 0 ∧ st.box 12 = some (nodeL W) ∧ st.env 13 = intL w ∧ st.env 14 = .ptr 14 0 ∧ st.box 14 = some (nodeL W) ∧ st.env 15 = intL w ∧ st.env 16 = .ptr 16 0 ∧ st.box 16 = some (nodeL C) ∧ st.env 17 = intL c ∧ st.env 18 = .ptr 18 0 ∧ st.box 18 = some (nodeL C) ∧ st.env 19 = intL c ∧ st.env 20 = strL R ∧ st.env 21 = intL r ∧ st.env 22 = strL R ∧ st.env 23 = intL r ∧ st.mode = fun _ => false) ⟨(by first | exact rfl | assumption | (simp only [LZ, zo, zc, reduceCtorEq, reduceIte, zz1, zz2, zz3, zz4, zz5, zz6, zz7, zz8, zz9, zza, zzb, zzc, zzd, zze, zzf, e5] <;> exact rfl)), (by first | exact rfl | assumption | (simp only [LZ, zo, zc, reduceCtorEq, reduceIte, zz1, zz2, zz3, zz4, zz5, zz6, zz7, zz8, zz9, zza, zzb, zzc, zzd, zze, zzf, b5, nodeL, attrsL, acesL, piecesL] <;> exact rfl)), (by first | exact rfl | assumption | (simp only [LZ, zo, zc, reduceCtorEq, reduceIte, zz1, zz2, zz3, zz4, zz5, zz6, zz7, zz8, zz9, zza, zzb, zzc, zzd, zze, zzf, e6] <;> exact rfl)), (by first | exact rfl | assumption | (simp only [LZ, zo, zc, reduceCtorEq, reduceIte, zz1, zz2, zz3, zz4, zz5, zz6, zz7, zz8, zz9, zza, zzb, zzc, zzd, zze, zzf, b6, nodeL, attrsL, acesL, piecesL] <;> exact rfl)), (by first | exact rfl | assumption | (simp only [LZ, zo, zc, reduceCtorEq, reduceIte, zz1, zz2, zz3, zz4, zz5, zz6, zz7, zz8, zz9, zza, zzb, zzc, zzd, zze, zzf] <;> exact rfl)), (by first | exact rfl | assumption | (simp only [LZ, zo, zc, reduceCtorEq, reduceIte, zz1, zz2, zz3, zz4, zz5, zz6, zz7, zz8, zz9, zza, zzb, zzc, zzd, zze, zzf, nodeL, attrsL, acesL, piecesL] <;> exact rfl)), (by first | exact rfl | assumption | (simp only [LZ, zo, zc, reduceCtorEq, reduceIte, zz1, zz2, zz3, zz4, zz5, zz6, zz7, zz8, zz9, zza, zzb, zzc, zzd, zze, zzf] <;> exact rfl)), (by first | exact rfl | assumption | (simp only [LZ, zo, zc, reduceCtorEq, reduceIte, zz1, zz2, zz3, zz4, zz5, zz6, zz7, zz8, zz9, zza, zzb, zzc, zzd, zze, zzf] <;> exact rfl)), (by first | exact rfl | assumption | (simp only [LZ, zo, zc, reduceCtorEq, reduceIte, zz1, zz2, zz3, zz4, zz5, zz6, zz7, zz8, zz9, zza, zzb, zzc, zzd, zze, zzf, nodeL, attrsL, acesL, piecesL] <;> exact rfl)), (by first | exact rfl | assumption | (simp only [LZ, zo, zc, reduceCtorEq, reduceIte, zz1, zz2, zz3, zz4, zz5, zz6, zz7, zz8, zz9, zza, zzb, zzc, zzd, zze, zzf] <;> exact rfl)), (by first | exact rfl | assumption | (simp only [LZ, zo, zc, reduceCtorEq, reduceIte, zz1, zz2, zz3, zz4, zz5, zz6, zz7, zz8, zz9, zza, zzb, zzc, zzd, zze, zzf] <;> exact rfl)), (by first | exact rfl | assumption | (simp only [LZ, zo, zc, reduceCtorEq, reduceIte, zz1, zz2, zz3, zz4, zz5, zz6, zz7, zz8, zz9, zza, zzb, zzc, zzd, zze, zzf, nodeL, attrsL, acesL, piecesL] <;> exact rfl)), (by first | exact rfl | assumption | (simp only [LZ, zo, zc, reduceCtorEq, reduceIte, zz1, zz2, zz3, zz4, zz5, zz6, zz7, zz8, zz9, zza, zzb, zzc, zzd, zze, zzf] <;> exact rfl)), (by first | exact rfl | assumption | (simp only [LZ, zo, zc, reduceCtorEq, reduceIte, zz1, zz2, zz3, zz4, zz5, zz6, zz7, zz8, zz9, zza, zzb, zzc, zzd, zze, zzf] <;> exact rfl)), (by first | exact rfl | assumption | (simp only [LZ, zo, zc, reduceCtorEq, reduceIte, zz1, zz2, zz3, zz4, zz5, zz6, zz7, zz8, zz9, zza, zzb, zzc, zzd, zze, zzf, nodeL, attrsL, acesL, piecesL] <;> exact rfl)), (by first | exact rfl | assumption | (simp only [LZ, zo, zc, reduceCtorEq, reduceIte, zz1, zz2, zz3, zz4, zz5, zz6, zz7, zz8, zz9, zza, zzb, zzc, zzd, zze, zzf] <;> exact rfl)), (by first | exact rfl | assumption | (simp only [LZ, zo, zc, reduceCtorEq, reduceIte, zz1, zz2, zz3, zz4, zz5, zz6, zz7, zz8, zz9, zza, zzb, zzc, zzd, zze, zzf] <;> exact rfl)), (by first | exact rfl | assumption | (simp only [LZ, zo, zc, reduceCtorEq, reduceIte, zz1, zz2, zz3, zz4, zz5, zz6, zz7, zz8, zz9, zza, zzb, zzc, zzd, zze, zzf] <;> exact rfl)), (by first | exact rfl | assumption | (simp only [LZ, zo, zc, reduceCtorEq, reduceIte, zz1, zz2, zz3, zz4, zz5, zz6, zz7, zz8, zz9, zza, zzb, zzc, zzd, zze, zzf] <;> exact rfl)), (by first | exact rfl | assumption | (simp only [LZ, zo, zc, reduceCtorEq, reduceIte, zz1, zz2, zz3, zz4, zz5, zz6, zz7, zz8, zz9, zza, zzb, zzc, zzd, zze, zzf] <;> exact rfl)), (by first | exact rfl | assumption | (simp only [LZ, zo, zc, reduceCtorEq, reduceIte, zz1, zz2, zz3, zz4, zz5, zz6, zz7, zz8, zz9, zza, zzb, zzc, zzd, zze, zzf, hmd] <;> exact rfl))⟩ ?_
  clear e2 e3 e5 b5 e6 b6 e11 hmd c1 c2 c3 c4 c5 c6 st
  rintro st ⟨e5, b5, e6, b6, e12, b12, e13, e14, b14, e15, e16, b16, e17, e18, b18, e19, e20, e21, e22, e23, hmd⟩
  simp only [nodeL, attrsL, acesL, piecesL, rowL] at b5 b6 b12 b14 b16 b18
  (repeat refine LW_seq ?_)
  refine LW_regionA (l := ?l) ?hl ?_
  case hl => (first | simp only [Array.append_eq_append, List.append_toArray, List.append_eq, List.cons_append, List.nil_append] | skip); exact rfl
  have hbb : (B == B) = true := by cases B <;> rfl
  have hee : (E == E) = true := by cases E <;> rfl
  (repeat (first | refine LW_seq ?_ | (refine LW_skip ?_; simp only [LSj, reduceIte, zze]) | refine LW_block ?_)); refine LW_any (by kernel_rfl) (by kernel_rfl) (by kernel_rfl) (by first | exact rfl | (rw [hmd]; exact rfl)) ?_; intro K hK; simp only [LZ, zo, zc, reduceCtorEq, reduceIte, zz1, zz2, zz3, zz4, zz5, zz6, zz7, zz8, zz9, zza, zzb, zzc, zzd, zze, zzf, hmd]
  refine cop_intro ?ha (t0) ?_; (case ha => (simp only [LZ, zo, zc, reduceCtorEq, reduceIte, zz1, zz2, zz3, zz4, zz5, zz6, zz7, zz8, zz9, zza, zzb, zzc, zzd, zze, zzf, e5, b5]) <;> rfl); simp only [LZ, zo, zc, reduceCtorEq, reduceIte, zz1, zz2, zz3, zz4, zz5, zz6, zz7, zz8, zz9, zza, zzb, zzc, zzd, zze, zzf, e5, b5]
  refine cop_intro ?ha (d1) ?_; (case ha => (simp only [LZ, zo, zc, reduceCtorEq, reduceIte, zz1, zz2, zz3, zz4, zz5, zz6, zz7, zz8, zz9, zza, zzb, zzc, zzd, zze, zzf, e5, b5]) <;> rfl); simp only [LZ, zo, zc, reduceCtorEq, reduceIte, zz1, zz2, zz3, zz4, zz5, zz6, zz7, zz8, zz9, zza, zzb, zzc, zzd, zze, zzf, e5, b5]
  refine cop_intro ?ha (d2) ?_; (case ha => (simp only [LZ, zo, zc, reduceCtorEq, reduceIte, zz1, zz2, zz3, zz4, zz5, zz6, zz7, zz8, zz9, zza, zzb, zzc, zzd, zze, zzf, hbb, e13, e15, e12, b12, e14, b14]) <;> rfl); simp only [LZ, zo, zc, reduceCtorEq, reduceIte, zz1, zz2, zz3, zz4, zz5, zz6, zz7, zz8, zz9, zza, zzb, zzc, zzd, zze, zzf, hbb, e13, e15, e12, b12, e14, b14]
  refine cop_intro ?ha (d3) ?_; (case ha => (simp only [LZ, zo, zc, reduceCtorEq, reduceIte, zz1, zz2, zz3, zz4, zz5, zz6, zz7, zz8, zz9, zza, zzb, zzc, zzd, zze, zzf, e17, e19, e16, b16, e18, b18]) <;> rfl); simp only [LZ, zo, zc, reduceCtorEq, reduceIte, zz1, zz2, zz3, zz4, zz5, zz6, zz7, zz8, zz9, zza, zzb, zzc, zzd, zze, zzf, e17, e19, e16, b16, e18, b18]
  refine cop_intro ?ha (d4) ?_; (case ha => (simp only [LZ, zo, zc, reduceCtorEq, reduceIte, zz1, zz2, zz3, zz4, zz5, zz6, zz7, zz8, zz9, zza, zzb, zzc, zzd, zze, zzf, e21, e23, e20, e22, e5, b5, e6, b6]) <;> rfl); simp only [LZ, zo, zc, reduceCtorEq, reduceIte, zz1, zz2, zz3, zz4, zz5, zz6, zz7, zz8, zz9, zza, zzb, zzc, zzd, zze, zzf, e21, e23, e20, e22, e5, b5, e6, b6]
  refine cop_intro ?ha (d5) ?_; (case ha => (simp only [LZ, zo, zc, reduceCtorEq, reduceIte, zz1, zz2, zz3, zz4, zz5, zz6, zz7, zz8, zz9, zza, zzb, zzc, zzd, zze, zzf, e5, b5, e6, b6]) <;> rfl); simp only [LZ, zo, zc, reduceCtorEq, reduceIte, zz1, zz2, zz3, zz4, zz5, zz6, zz7, zz8, zz9, zza, zzb, zzc, zzd, zze, zzf, e5, b5, e6, b6]
  refine cop_intro ?ha (d6) ?_; (case ha => (simp only [LZ, zo, zc, reduceCtorEq, reduceIte, zz1, zz2, zz3, zz4, zz5, zz6, zz7, zz8, zz9, zza, zzb, zzc, zzd, zze, zzf, e5, b5, e6, b6]) <;> rfl); simp only [LZ, zo, zc, reduceCtorEq, reduceIte, zz1, zz2, zz3, zz4, zz5, zz6, zz7, zz8, zz9, zza, zzb, zzc, zzd, zze, zzf, e5, b5, e6, b6]
  refine cop_intro ?ha (d7) ?_; (case ha => (simp only [LZ, zo, zc, reduceCtorEq, reduceIte, zz1, zz2, zz3, zz4, zz5, zz6, zz7, zz8, zz9, zza, zzb, zzc, zzd, zze, zzf, e5, b5, e6, b6]) <;> rfl); simp only [LZ, zo, zc, reduceCtorEq, reduceIte, zz1, zz2, zz3, zz4, zz5, zz6, zz7, zz8, zz9, zza, zzb, zzc, zzd, zze, zzf, e5, b5, e6, b6]
  refine cop_intro ?ha (d8) ?_; (case ha => (simp only [LZ, zo, zc, reduceCtorEq, reduceIte, zz1, zz2, zz3, zz4, zz5, zz6, zz7, zz8, zz9, zza, zzb, zzc, zzd, zze, zzf, hee, e5, b5]) <;> rfl); simp only [LZ, zo, zc, reduceCtorEq, reduceIte, zz1, zz2, zz3, zz4, zz5, zz6, zz7, zz8, zz9, zza, zzb, zzc, zzd, zze, zzf, hee, e5, b5]
  refine cop_intro ?ha (d9) ?_; (case ha => (simp only [LZ, zo, zc, reduceCtorEq, reduceIte, zz1, zz2, zz3, zz4, zz5, zz6, zz7, zz8, zz9, zza, zzb, zzc, zzd, zze, zzf, e5, b5]) <;> rfl); simp only [LZ, zo, zc, reduceCtorEq, reduceIte, zz1, zz2, zz3, zz4, zz5, zz6, zz7, zz8, zz9, zza, zzb, zzc, zzd, zze, zzf, e5, b5]
  refine cop_intro ?ha (d10) ?_; (case ha => (simp only [LZ, zo, zc, reduceCtorEq, reduceIte, zz1, zz2, zz3, zz4, zz5, zz6, zz7, zz8, zz9, zza, zzb, zzc, zzd, zze, zzf, e5, b5]) <;> rfl); simp only [LZ, zo, zc, reduceCtorEq, reduceIte, zz1, zz2, zz3, zz4, zz5, zz6, zz7, zz8, zz9, zza, zzb, zzc, zzd, zze, zzf, e5, b5]
  refine cop_intro ?ha (d11) ?_; (case ha => (simp only [LZ, zo, zc, reduceCtorEq, reduceIte, zz1, zz2, zz3, zz4, zz5, zz6, zz7, zz8, zz9, zza, zzb, zzc, zzd, zze, zzf, e5, b5]) <;> rfl); simp only [LZ, zo, zc, reduceCtorEq, reduceIte, zz1, zz2, zz3, zz4, zz5, zz6, zz7, zz8, zz9, zza, zzb, zzc, zzd, zze, zzf, e5, b5]
  refine cop_intro ?ha (d12) ?_; (case ha => (simp only [LZ, zo, zc, reduceCtorEq, reduceIte, zz1, zz2, zz3, zz4, zz5, zz6, zz7, zz8, zz9, zza, zzb, zzc, zzd, zze, zzf, eL]) <;> rfl); simp only [LZ, zo, zc, reduceCtorEq, reduceIte, zz1, zz2, zz3, zz4, zz5, zz6, zz7, zz8, zz9, zza, zzb, zzc, zzd, zze, zzf, eL]
  refine cop_intro ?ha (d13) ?_; (case ha => (simp only [LZ, zo, zc, reduceCtorEq, reduceIte, zz1, zz2, zz3, zz4, zz5, zz6, zz7, zz8, zz9, zza, zzb, zzc, zzd, zze, zzf]) <;> rfl); simp only [LZ, zo, zc, reduceCtorEq, reduceIte, zz1, zz2, zz3, zz4, zz5, zz6, zz7, zz8, zz9, zza, zzb, zzc, zzd, zze, zzf]
  refine hK _ ?_; clear hK K; try simp only [LSj, reduceIte, zze]
  refine LW_ret ?_; simp only [thenL, jumpsL, inBlockL, twoL, bodyQ, LV.lit.injEq, LV.tup.injEq, LV.agg.injEq, LV.sl.injEq, List.cons.injEq, Value.int.injEq, Value.bool.injEq, Value.string.injEq, ByteArray.mk.injEq, exists_eq_left', exists_eq_left, exists_eq_right, LZ, zo, zc, reduceCtorEq, reduceIte, zz1, zz2, zz3, zz4, zz5, zz6, zz7, zz8, zz9, zza, zzb, zzc, zzd, zze, zzf]
end Go.Proofs.Ytaeefaehpfjmlaa
