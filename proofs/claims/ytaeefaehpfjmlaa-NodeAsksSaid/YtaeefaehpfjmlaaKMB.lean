import Derived.Test.YtaeefaehpfjmlaaKM2
set_option linter.unusedSimpArgs false
set_option linter.unusedVariables false
namespace Go.Proofs.Ytaeefaehpfjmlaa
open Nat renaming reduceAdd → zz1, reduceMul → zz2, reduceSub → zz3, reduceLT → zz4, reduceLeDiff → zz5, reduceEqDiff → zz6, reduceBEq → zzf
open Int renaming reduceAdd → zz7, reduceSub → zz8, reduceMul → zz9, reduceLT → zza, reduceLE → zzb, reduceEq → zzc, reduceNeg → zzd, reduceToNat → zze
open Go.RowKit AclSpec MetaSpec GSort

set_option maxRecDepth 100000 in
theorem rsameT_L (l m : List Attr) (hl : l.length ≤ maxLen) (hm : m.length ≤ maxLen) : LCalls Try.prog 68 [attrsL l, attrsL m] (boolL (decide (l = m))) := by
  unfold maxLen at hl hm
  refine LCalls.of (fun _ => false) Try.func68 rfl (by decide) Try.ntmps68 Try.results68 (by simp) ?_
  intro w0 S0 vs hgl hwf0 hsz hvs; clear hsz hvs hwf0 hgl
  (repeat (first | refine LW_seq ?_ | ((first | (refine LW_region ?_; intro K hK; simp only [LY, reduceCtorEq, reduceIte, zz1, zz2, zz3, zz4, zz5, zz6, zz7, zz8, zz9, zza, zzb, zzc, zzd, zze, zzf, attrsL]; refine hK _ ?_; clear hK K) | refine LW_label ?_ | refine LW_skip ?_); try simp only [LSj, reduceIte, zze]) | refine LW_block ?_))
  by_cases hlen : (l.length : Int) = m.length
  · refine LW_if ?_; intro X Y hX hY; simp only [LY, reduceCtorEq, reduceIte, zz1, zz2, zz3, zz4, zz5, zz6, zz7, zz8, zz9, zza, zzb, zzc, zzd, zze, zzf, hlen]; refine hY ?_; clear hX hY X Y; (try simp only [LSj, reduceIte, zze]); (try (refine LW_skip ?_; simp only [LSj, reduceIte, zze]))
    (repeat (first | refine LW_seq ?_ | ((first | (refine LW_region ?_; intro K hK; simp only [LY, reduceCtorEq, reduceIte, zz1, zz2, zz3, zz4, zz5, zz6, zz7, zz8, zz9, zza, zzb, zzc, zzd, zze, zzf, attrsL]; refine hK _ ?_; clear hK K) | refine LW_label ?_ | refine LW_skip ?_); try simp only [LSj, reduceIte, zze]) | refine LW_block ?_))
    refine LW_loop (fun n st => ∃ i : Nat, n + i = l.length ∧ st.env 0 = attrsL l ∧ st.env 1 = attrsL m ∧ st.env 5 = intL i ∧ l.take i = m.take i) l.length ⟨0, by omega, rfl, rfl, rfl, rfl⟩ ?_
    rintro n st ⟨i, hn, h0, h1, h5, ht⟩
    (repeat (first | refine LW_seq ?_ | ((first | (refine LW_region ?_; intro K hK; simp only [LY, reduceCtorEq, reduceIte, zz1, zz2, zz3, zz4, zz5, zz6, zz7, zz8, zz9, zza, zzb, zzc, zzd, zze, zzf, h0, h5, attrsL]; refine hK _ ?_; clear hK K) | refine LW_label ?_ | refine LW_skip ?_); try simp only [LSj, reduceIte, zze]) | refine LW_block ?_))
    by_cases hlt : i < l.length
    · obtain ⟨a, ha⟩ := get_of_lt hlt
      obtain ⟨b, hb⟩ := get_of_lt (l := m) (i := i) (by omega)
      have hda := drop_attr ha
      have hdb := drop_attr hb
      have hltm : i < m.length := by omega
      have hw := w64s (n := i) (by omega)
      refine LW_if ?_; intro X Y hX hY; simp only [LY, reduceCtorEq, reduceIte, zz1, zz2, zz3, zz4, zz5, zz6, zz7, zz8, zz9, zza, zzb, zzc, zzd, zze, zzf, hlt]; refine hX ?_; clear hX hY X Y; try simp only [LSj, reduceIte, zze]
      (repeat (first | refine LW_seq ?_ | (refine LW_skip ?_; simp only [LSj, reduceIte, zze]) | refine LW_block ?_)); refine LW_any (by kernel_rfl) (by kernel_rfl) (by kernel_rfl) (by first | exact rfl | (rw [hmd]; exact rfl)) ?_; intro K hK; simp only [LY, reduceCtorEq, reduceIte, zz1, zz2, zz3, zz4, zz5, zz6, zz7, zz8, zz9, zza, zzb, zzc, zzd, zze, zzf, h0, h1, h5, attrsL, hlt, hltm, hda, hdb]
      refine hK _ ?_; clear hK K; try simp only [LSj, reduceIte, zze]
      by_cases he : a = b
      · have e1 : a.name = b.name := by rw [he]
        have e2 : a.value = b.value := by rw [he]
        refine LW_if ?_; intro X Y hX hY; simp only [LY, reduceCtorEq, reduceIte, zz1, zz2, zz3, zz4, zz5, zz6, zz7, zz8, zz9, zza, zzb, zzc, zzd, zze, zzf, e1, e2]; refine hY ?_; clear hX hY X Y; (try simp only [LSj, reduceIte, zze]); (try (refine LW_skip ?_; simp only [LSj, reduceIte, zze]))
        (repeat (first | refine LW_seq ?_ | ((first | (refine LW_region ?_; intro K hK; simp only [LY, reduceCtorEq, reduceIte, zz1, zz2, zz3, zz4, zz5, zz6, zz7, zz8, zz9, zza, zzb, zzc, zzd, zze, zzf, h5, hw]; refine hK _ ?_; clear hK K) | refine LW_label ?_ | refine LW_skip ?_); try simp only [LSj, reduceIte, zze]) | refine LW_block ?_))
        exact ⟨n - 1, by omega, i + 1, by omega, (by first | exact rfl | assumption | (simp only [LY, reduceCtorEq, reduceIte, zz1, zz2, zz3, zz4, zz5, zz6, zz7, zz8, zz9, zza, zzb, zzc, zzd, zze, zzf, h0] <;> exact rfl)), (by first | exact rfl | assumption | (simp only [LY, reduceCtorEq, reduceIte, zz1, zz2, zz3, zz4, zz5, zz6, zz7, zz8, zz9, zza, zzb, zzc, zzd, zze, zzf, h1] <;> exact rfl)), (by first | exact rfl | assumption | (simp only [LY, reduceCtorEq, reduceIte, zz1, zz2, zz3, zz4, zz5, zz6, zz7, zz8, zz9, zza, zzb, zzc, zzd, zze, zzf] <;> exact rfl)), take_succ_eq ht ha hb he⟩
      · have hne : (decide (a.name = b.name) && decide (a.value = b.value)) = false := by
          rw [Bool.eq_false_iff]; intro h; simp at h; exact he (by cases a; cases b; simp_all)
        refine LW_if ?_; intro X Y hX hY; simp only [LY, reduceCtorEq, reduceIte, zz1, zz2, zz3, zz4, zz5, zz6, zz7, zz8, zz9, zza, zzb, zzc, zzd, zze, zzf, hne]; refine hX ?_; clear hX hY X Y; try simp only [LSj, reduceIte, zze]
        (repeat (first | refine LW_seq ?_ | ((first | (refine LW_region ?_; intro K hK; simp only [LY, reduceCtorEq, reduceIte, zz1, zz2, zz3, zz4, zz5, zz6, zz7, zz8, zz9, zza, zzb, zzc, zzd, zze, zzf]; refine hK _ ?_; clear hK K) | refine LW_label ?_ | refine LW_skip ?_); try simp only [LSj, reduceIte, zze]) | refine LW_block ?_))
        refine LW_ret ?_; simp only [thenL, jumpsL, inBlockL, twoL, bodyQ, LV.lit.injEq, LV.tup.injEq, LV.agg.injEq, LV.sl.injEq, List.cons.injEq, Value.int.injEq, Value.bool.injEq, Value.string.injEq, ByteArray.mk.injEq, exists_eq_left', exists_eq_left, exists_eq_right, LY, reduceCtorEq, reduceIte, zz1, zz2, zz3, zz4, zz5, zz6, zz7, zz8, zz9, zza, zzb, zzc, zzd, zze, zzf]
        simp [ne_of_get ha hb he]
    · refine LW_if ?_; intro X Y hX hY; simp only [LY, reduceCtorEq, reduceIte, zz1, zz2, zz3, zz4, zz5, zz6, zz7, zz8, zz9, zza, zzb, zzc, zzd, zze, zzf, hlt]; refine hY ?_; clear hX hY X Y; (try simp only [LSj, reduceIte, zze]); (try (refine LW_skip ?_; simp only [LSj, reduceIte, zze]))
      refine LW_exit ?_; simp only [thenL, jumpsL, inBlockL, twoL, reduceIte, Nat.reduceEqDiff]
      (repeat (first | refine LW_seq ?_ | ((first | (refine LW_region ?_; intro K hK; simp only [LY, reduceCtorEq, reduceIte, zz1, zz2, zz3, zz4, zz5, zz6, zz7, zz8, zz9, zza, zzb, zzc, zzd, zze, zzf]; refine hK _ ?_; clear hK K) | refine LW_label ?_ | refine LW_skip ?_); try simp only [LSj, reduceIte, zze]) | refine LW_block ?_))
      refine LW_ret ?_; simp only [thenL, jumpsL, inBlockL, twoL, bodyQ, LV.lit.injEq, LV.tup.injEq, LV.agg.injEq, LV.sl.injEq, List.cons.injEq, Value.int.injEq, Value.bool.injEq, Value.string.injEq, ByteArray.mk.injEq, exists_eq_left', exists_eq_left, exists_eq_right, LY, reduceCtorEq, reduceIte, zz1, zz2, zz3, zz4, zz5, zz6, zz7, zz8, zz9, zza, zzb, zzc, zzd, zze, zzf]
      rw [List.take_of_length_le (by omega), List.take_of_length_le (by omega)] at ht
      simp [ht]
  · refine LW_if ?_; intro X Y hX hY; simp only [LY, reduceCtorEq, reduceIte, zz1, zz2, zz3, zz4, zz5, zz6, zz7, zz8, zz9, zza, zzb, zzc, zzd, zze, zzf, hlen]; refine hX ?_; clear hX hY X Y; try simp only [LSj, reduceIte, zze]
    (repeat (first | refine LW_seq ?_ | ((first | (refine LW_region ?_; intro K hK; simp only [LY, reduceCtorEq, reduceIte, zz1, zz2, zz3, zz4, zz5, zz6, zz7, zz8, zz9, zza, zzb, zzc, zzd, zze, zzf]; refine hK _ ?_; clear hK K) | refine LW_label ?_ | refine LW_skip ?_); try simp only [LSj, reduceIte, zze]) | refine LW_block ?_))
    refine LW_ret ?_; simp only [thenL, jumpsL, inBlockL, twoL, bodyQ, LV.lit.injEq, LV.tup.injEq, LV.agg.injEq, LV.sl.injEq, List.cons.injEq, Value.int.injEq, Value.bool.injEq, Value.string.injEq, ByteArray.mk.injEq, exists_eq_left', exists_eq_left, exists_eq_right, LY, reduceCtorEq, reduceIte, zz1, zz2, zz3, zz4, zz5, zz6, zz7, zz8, zz9, zza, zzb, zzc, zzd, zze, zzf]
    simp; rintro rfl; exact hlen rfl

set_option maxRecDepth 100000 in
set_option maxHeartbeats 2000000 in
theorem rdiff_L (a b : FMeta) (h1 : a.attrs.length ≤ maxLen) (h2 : b.attrs.length ≤ maxLen) (h3 : a.acl.length ≤ maxLen) (h4 : b.acl.length ≤ maxLen) : LCalls Try.prog 45 [.agg (metaL a), .agg (metaL b)] (strL (diffM a b)) := by
  have c1 := rsameT_L a.attrs b.attrs h1 h2
  have c2 := rsame_L a.acl b.acl h3 h4
  simp only [attrsL] at c1
  simp only [acesL] at c2
  refine LCalls.of (fun _ => false) Try.func45 rfl (by decide) Try.ntmps45 Try.results45 (by simp) ?_
  intro w0 S0 vs hgl hwf0 hsz hvs; clear hsz hvs hwf0 hgl
  generalize hR : diffM a b = R
  unfold diffM at hR
  (repeat (first | refine LW_seq ?_ | ((first | (refine LW_region ?_; intro K hK; simp only [LY, reduceCtorEq, reduceIte, zz1, zz2, zz3, zz4, zz5, zz6, zz7, zz8, zz9, zza, zzb, zzc, zzd, zze, zzf, metaL, attrsL, acesL]; refine hK _ ?_; clear hK K) | refine LW_label ?_ | refine LW_skip ?_); try simp only [LSj, reduceIte, zze]) | refine LW_block ?_))
  by_cases g1 : a.mode = b.mode
  · rw [if_neg (not_not_intro g1)] at hR
    refine LW_if ?_; intro X Y hX hY; simp only [LY, reduceCtorEq, reduceIte, zz1, zz2, zz3, zz4, zz5, zz6, zz7, zz8, zz9, zza, zzb, zzc, zzd, zze, zzf, g1]; refine hY ?_; clear hX hY X Y; (try simp only [LSj, reduceIte, zze]); (try (refine LW_skip ?_; simp only [LSj, reduceIte, zze]))
    (repeat (first | refine LW_seq ?_ | ((first | (refine LW_region ?_; intro K hK; simp only [LY, reduceCtorEq, reduceIte, zz1, zz2, zz3, zz4, zz5, zz6, zz7, zz8, zz9, zza, zzb, zzc, zzd, zze, zzf]; refine hK _ ?_; clear hK K) | refine LW_label ?_ | refine LW_skip ?_); try simp only [LSj, reduceIte, zze]) | refine LW_block ?_))
    by_cases g2 : a.uid = b.uid
    · rw [if_neg (not_not_intro g2)] at hR
      refine LW_if ?_; intro X Y hX hY; simp only [LY, reduceCtorEq, reduceIte, zz1, zz2, zz3, zz4, zz5, zz6, zz7, zz8, zz9, zza, zzb, zzc, zzd, zze, zzf, g2]; refine hY ?_; clear hX hY X Y; (try simp only [LSj, reduceIte, zze]); (try (refine LW_skip ?_; simp only [LSj, reduceIte, zze]))
      (repeat (first | refine LW_seq ?_ | ((first | (refine LW_region ?_; intro K hK; simp only [LY, reduceCtorEq, reduceIte, zz1, zz2, zz3, zz4, zz5, zz6, zz7, zz8, zz9, zza, zzb, zzc, zzd, zze, zzf]; refine hK _ ?_; clear hK K) | refine LW_label ?_ | refine LW_skip ?_); try simp only [LSj, reduceIte, zze]) | refine LW_block ?_))
      by_cases g3 : a.gid = b.gid
      · rw [if_neg (not_not_intro g3)] at hR
        refine LW_if ?_; intro X Y hX hY; simp only [LY, reduceCtorEq, reduceIte, zz1, zz2, zz3, zz4, zz5, zz6, zz7, zz8, zz9, zza, zzb, zzc, zzd, zze, zzf, g3]; refine hY ?_; clear hX hY X Y; (try simp only [LSj, reduceIte, zze]); (try (refine LW_skip ?_; simp only [LSj, reduceIte, zze]))
        (repeat (first | refine LW_seq ?_ | ((first | (refine LW_region ?_; intro K hK; simp only [LY, reduceCtorEq, reduceIte, zz1, zz2, zz3, zz4, zz5, zz6, zz7, zz8, zz9, zza, zzb, zzc, zzd, zze, zzf]; refine hK _ ?_; clear hK K) | refine LW_label ?_ | refine LW_skip ?_); try simp only [LSj, reduceIte, zze]) | refine LW_block ?_))
        by_cases g4 : a.time = b.time
        · rw [if_neg (not_not_intro g4)] at hR
          refine LW_if ?_; intro X Y hX hY; simp only [LY, reduceCtorEq, reduceIte, zz1, zz2, zz3, zz4, zz5, zz6, zz7, zz8, zz9, zza, zzb, zzc, zzd, zze, zzf, g4]; refine hY ?_; clear hX hY X Y; (try simp only [LSj, reduceIte, zze]); (try (refine LW_skip ?_; simp only [LSj, reduceIte, zze]))
          (repeat (first | refine LW_seq ?_ | (refine LW_skip ?_; simp only [LSj, reduceIte, zze]) | refine LW_block ?_)); refine LW_region ?_; intro K hK; simp only [LY, reduceCtorEq, reduceIte, zz1, zz2, zz3, zz4, zz5, zz6, zz7, zz8, zz9, zza, zzb, zzc, zzd, zze, zzf]
          refine cop_intro ?ha (c1) ?_; (case ha => (simp only [LY, reduceCtorEq, reduceIte, zz1, zz2, zz3, zz4, zz5, zz6, zz7, zz8, zz9, zza, zzb, zzc, zzd, zze, zzf]) <;> rfl); simp only [LY, reduceCtorEq, reduceIte, zz1, zz2, zz3, zz4, zz5, zz6, zz7, zz8, zz9, zza, zzb, zzc, zzd, zze, zzf]
          refine hK _ ?_; clear hK K; try simp only [LSj, reduceIte, zze]
          by_cases g5 : a.attrs = b.attrs
          · rw [if_neg (not_not_intro g5)] at hR
            refine LW_if ?_; intro X Y hX hY; simp only [LY, reduceCtorEq, reduceIte, zz1, zz2, zz3, zz4, zz5, zz6, zz7, zz8, zz9, zza, zzb, zzc, zzd, zze, zzf, g5]; refine hY ?_; clear hX hY X Y; (try simp only [LSj, reduceIte, zze]); (try (refine LW_skip ?_; simp only [LSj, reduceIte, zze]))
            (repeat (first | refine LW_seq ?_ | (refine LW_skip ?_; simp only [LSj, reduceIte, zze]) | refine LW_block ?_)); refine LW_region ?_; intro K hK; simp only [LY, reduceCtorEq, reduceIte, zz1, zz2, zz3, zz4, zz5, zz6, zz7, zz8, zz9, zza, zzb, zzc, zzd, zze, zzf]
            refine cop_intro ?ha (c2) ?_; (case ha => (simp only [LY, reduceCtorEq, reduceIte, zz1, zz2, zz3, zz4, zz5, zz6, zz7, zz8, zz9, zza, zzb, zzc, zzd, zze, zzf]) <;> rfl); simp only [LY, reduceCtorEq, reduceIte, zz1, zz2, zz3, zz4, zz5, zz6, zz7, zz8, zz9, zza, zzb, zzc, zzd, zze, zzf]
            refine hK _ ?_; clear hK K; try simp only [LSj, reduceIte, zze]
            by_cases g6 : a.acl = b.acl
            · rw [if_neg (not_not_intro g6)] at hR
              refine LW_if ?_; intro X Y hX hY; simp only [LY, reduceCtorEq, reduceIte, zz1, zz2, zz3, zz4, zz5, zz6, zz7, zz8, zz9, zza, zzb, zzc, zzd, zze, zzf, g6]; refine hY ?_; clear hX hY X Y; (try simp only [LSj, reduceIte, zze]); (try (refine LW_skip ?_; simp only [LSj, reduceIte, zze]))
              (repeat (first | refine LW_seq ?_ | ((first | (refine LW_region ?_; intro K hK; simp only [LY, reduceCtorEq, reduceIte, zz1, zz2, zz3, zz4, zz5, zz6, zz7, zz8, zz9, zza, zzb, zzc, zzd, zze, zzf]; refine hK _ ?_; clear hK K) | refine LW_label ?_ | refine LW_skip ?_); try simp only [LSj, reduceIte, zze]) | refine LW_block ?_))
              refine LW_ret ?_; simp only [thenL, jumpsL, inBlockL, twoL, bodyQ, LV.lit.injEq, LV.tup.injEq, LV.agg.injEq, LV.sl.injEq, List.cons.injEq, Value.int.injEq, Value.bool.injEq, Value.string.injEq, ByteArray.mk.injEq, exists_eq_left', exists_eq_left, exists_eq_right, LY, reduceCtorEq, reduceIte, zz1, zz2, zz3, zz4, zz5, zz6, zz7, zz8, zz9, zza, zzb, zzc, zzd, zze, zzf]
              rw [← hR]
            · rw [if_pos g6] at hR
              refine LW_if ?_; intro X Y hX hY; simp only [LY, reduceCtorEq, reduceIte, zz1, zz2, zz3, zz4, zz5, zz6, zz7, zz8, zz9, zza, zzb, zzc, zzd, zze, zzf, g6]; refine hX ?_; clear hX hY X Y; try simp only [LSj, reduceIte, zze]
              (repeat (first | refine LW_seq ?_ | ((first | (refine LW_region ?_; intro K hK; simp only [LY, reduceCtorEq, reduceIte, zz1, zz2, zz3, zz4, zz5, zz6, zz7, zz8, zz9, zza, zzb, zzc, zzd, zze, zzf]; refine hK _ ?_; clear hK K) | refine LW_label ?_ | refine LW_skip ?_); try simp only [LSj, reduceIte, zze]) | refine LW_block ?_))
              refine LW_ret ?_; simp only [thenL, jumpsL, inBlockL, twoL, bodyQ, LV.lit.injEq, LV.tup.injEq, LV.agg.injEq, LV.sl.injEq, List.cons.injEq, Value.int.injEq, Value.bool.injEq, Value.string.injEq, ByteArray.mk.injEq, exists_eq_left', exists_eq_left, exists_eq_right, LY, reduceCtorEq, reduceIte, zz1, zz2, zz3, zz4, zz5, zz6, zz7, zz8, zz9, zza, zzb, zzc, zzd, zze, zzf]
              rw [← hR]
          · rw [if_pos g5] at hR
            refine LW_if ?_; intro X Y hX hY; simp only [LY, reduceCtorEq, reduceIte, zz1, zz2, zz3, zz4, zz5, zz6, zz7, zz8, zz9, zza, zzb, zzc, zzd, zze, zzf, g5]; refine hX ?_; clear hX hY X Y; try simp only [LSj, reduceIte, zze]
            (repeat (first | refine LW_seq ?_ | ((first | (refine LW_region ?_; intro K hK; simp only [LY, reduceCtorEq, reduceIte, zz1, zz2, zz3, zz4, zz5, zz6, zz7, zz8, zz9, zza, zzb, zzc, zzd, zze, zzf]; refine hK _ ?_; clear hK K) | refine LW_label ?_ | refine LW_skip ?_); try simp only [LSj, reduceIte, zze]) | refine LW_block ?_))
            refine LW_ret ?_; simp only [thenL, jumpsL, inBlockL, twoL, bodyQ, LV.lit.injEq, LV.tup.injEq, LV.agg.injEq, LV.sl.injEq, List.cons.injEq, Value.int.injEq, Value.bool.injEq, Value.string.injEq, ByteArray.mk.injEq, exists_eq_left', exists_eq_left, exists_eq_right, LY, reduceCtorEq, reduceIte, zz1, zz2, zz3, zz4, zz5, zz6, zz7, zz8, zz9, zza, zzb, zzc, zzd, zze, zzf]
            rw [← hR]
        · rw [if_pos g4] at hR
          refine LW_if ?_; intro X Y hX hY; simp only [LY, reduceCtorEq, reduceIte, zz1, zz2, zz3, zz4, zz5, zz6, zz7, zz8, zz9, zza, zzb, zzc, zzd, zze, zzf, g4]; refine hX ?_; clear hX hY X Y; try simp only [LSj, reduceIte, zze]
          (repeat (first | refine LW_seq ?_ | ((first | (refine LW_region ?_; intro K hK; simp only [LY, reduceCtorEq, reduceIte, zz1, zz2, zz3, zz4, zz5, zz6, zz7, zz8, zz9, zza, zzb, zzc, zzd, zze, zzf]; refine hK _ ?_; clear hK K) | refine LW_label ?_ | refine LW_skip ?_); try simp only [LSj, reduceIte, zze]) | refine LW_block ?_))
          refine LW_ret ?_; simp only [thenL, jumpsL, inBlockL, twoL, bodyQ, LV.lit.injEq, LV.tup.injEq, LV.agg.injEq, LV.sl.injEq, List.cons.injEq, Value.int.injEq, Value.bool.injEq, Value.string.injEq, ByteArray.mk.injEq, exists_eq_left', exists_eq_left, exists_eq_right, LY, reduceCtorEq, reduceIte, zz1, zz2, zz3, zz4, zz5, zz6, zz7, zz8, zz9, zza, zzb, zzc, zzd, zze, zzf]
          rw [← hR]
      · rw [if_pos g3] at hR
        refine LW_if ?_; intro X Y hX hY; simp only [LY, reduceCtorEq, reduceIte, zz1, zz2, zz3, zz4, zz5, zz6, zz7, zz8, zz9, zza, zzb, zzc, zzd, zze, zzf, g3]; refine hX ?_; clear hX hY X Y; try simp only [LSj, reduceIte, zze]
        (repeat (first | refine LW_seq ?_ | ((first | (refine LW_region ?_; intro K hK; simp only [LY, reduceCtorEq, reduceIte, zz1, zz2, zz3, zz4, zz5, zz6, zz7, zz8, zz9, zza, zzb, zzc, zzd, zze, zzf]; refine hK _ ?_; clear hK K) | refine LW_label ?_ | refine LW_skip ?_); try simp only [LSj, reduceIte, zze]) | refine LW_block ?_))
        refine LW_ret ?_; simp only [thenL, jumpsL, inBlockL, twoL, bodyQ, LV.lit.injEq, LV.tup.injEq, LV.agg.injEq, LV.sl.injEq, List.cons.injEq, Value.int.injEq, Value.bool.injEq, Value.string.injEq, ByteArray.mk.injEq, exists_eq_left', exists_eq_left, exists_eq_right, LY, reduceCtorEq, reduceIte, zz1, zz2, zz3, zz4, zz5, zz6, zz7, zz8, zz9, zza, zzb, zzc, zzd, zze, zzf]
        rw [← hR]
    · rw [if_pos g2] at hR
      refine LW_if ?_; intro X Y hX hY; simp only [LY, reduceCtorEq, reduceIte, zz1, zz2, zz3, zz4, zz5, zz6, zz7, zz8, zz9, zza, zzb, zzc, zzd, zze, zzf, g2]; refine hX ?_; clear hX hY X Y; try simp only [LSj, reduceIte, zze]
      (repeat (first | refine LW_seq ?_ | ((first | (refine LW_region ?_; intro K hK; simp only [LY, reduceCtorEq, reduceIte, zz1, zz2, zz3, zz4, zz5, zz6, zz7, zz8, zz9, zza, zzb, zzc, zzd, zze, zzf]; refine hK _ ?_; clear hK K) | refine LW_label ?_ | refine LW_skip ?_); try simp only [LSj, reduceIte, zze]) | refine LW_block ?_))
      refine LW_ret ?_; simp only [thenL, jumpsL, inBlockL, twoL, bodyQ, LV.lit.injEq, LV.tup.injEq, LV.agg.injEq, LV.sl.injEq, List.cons.injEq, Value.int.injEq, Value.bool.injEq, Value.string.injEq, ByteArray.mk.injEq, exists_eq_left', exists_eq_left, exists_eq_right, LY, reduceCtorEq, reduceIte, zz1, zz2, zz3, zz4, zz5, zz6, zz7, zz8, zz9, zza, zzb, zzc, zzd, zze, zzf]
      rw [← hR]
  · rw [if_pos g1] at hR
    refine LW_if ?_; intro X Y hX hY; simp only [LY, reduceCtorEq, reduceIte, zz1, zz2, zz3, zz4, zz5, zz6, zz7, zz8, zz9, zza, zzb, zzc, zzd, zze, zzf, g1]; refine hX ?_; clear hX hY X Y; try simp only [LSj, reduceIte, zze]
    (repeat (first | refine LW_seq ?_ | ((first | (refine LW_region ?_; intro K hK; simp only [LY, reduceCtorEq, reduceIte, zz1, zz2, zz3, zz4, zz5, zz6, zz7, zz8, zz9, zza, zzb, zzc, zzd, zze, zzf]; refine hK _ ?_; clear hK K) | refine LW_label ?_ | refine LW_skip ?_); try simp only [LSj, reduceIte, zze]) | refine LW_block ?_))
    refine LW_ret ?_; simp only [thenL, jumpsL, inBlockL, twoL, bodyQ, LV.lit.injEq, LV.tup.injEq, LV.agg.injEq, LV.sl.injEq, List.cons.injEq, Value.int.injEq, Value.bool.injEq, Value.string.injEq, ByteArray.mk.injEq, exists_eq_left', exists_eq_left, exists_eq_right, LY, reduceCtorEq, reduceIte, zz1, zz2, zz3, zz4, zz5, zz6, zz7, zz8, zz9, zza, zzb, zzc, zzd, zze, zzf]
    rw [← hR]


theorem bl_geq {x y : List UInt8} : (Op.bytesLess x y || decide (x = y)) = !Op.bytesLess y x := by
  rcases bl_tri x y with h | h | h
  · rw [h, bl_asym h]; rfl
  · subst h; rw [bl_irr]; simp
  · rw [bl_asym h, h]
    have : ¬ x = y := fun e => by rw [e, bl_irr] at h; cases h
    simp [this]
set_option maxRecDepth 100000 in
set_option maxHeartbeats 4000000 in
theorem rmmay_L (m : FMeta) (hl : m.acl.length ≤ maxLen) (hla : m.attrs.length ≤ maxLen) : LCalls Try.prog 41 [.agg (metaL m)] (boolL (mayM m)) := by
  unfold maxLen at hla
  refine LCalls.of (fun _ => false) Try.func41 rfl (by decide) Try.ntmps41 Try.results41 (by simp) ?_
  intro w0 S0 vs hgl hwf0 hsz hvs; clear hsz hvs hwf0 hgl
  generalize hR : mayM m = R
  unfold mayM at hR
  have ca := rmay_L m.acl hl
  simp only [acesL] at ca
  (repeat (first | refine LW_seq ?_ | ((first | (refine LW_region ?_; intro K hK; simp only [LY, reduceCtorEq, reduceIte, zz1, zz2, zz3, zz4, zz5, zz6, zz7, zz8, zz9, zza, zzb, zzc, zzd, zze, zzf, metaL, attrsL, acesL]; refine hK _ ?_; clear hK K) | refine LW_label ?_ | refine LW_skip ?_); try simp only [LSj, reduceIte, zze]) | refine LW_block ?_))
  refine LW_loop (fun n st => ∃ i : Nat, n + i = m.attrs.length ∧ st.env 1 = .ptr 1 0 ∧ st.box 1 = some (metaL m) ∧ st.env 3 = intL i ∧ chkT m.attrs i = chkT m.attrs 0) m.attrs.length ⟨0, by omega, rfl, rfl, rfl, rfl⟩ ?_
  rintro n st ⟨i, hn, e1, b1, e3, hr⟩
  (repeat (first | refine LW_seq ?_ | ((first | (refine LW_region ?_; intro K hK; simp only [LY, reduceCtorEq, reduceIte, zz1, zz2, zz3, zz4, zz5, zz6, zz7, zz8, zz9, zza, zzb, zzc, zzd, zze, zzf, e1, b1, e3, metaL, attrsL]; refine hK _ ?_; clear hK K) | refine LW_label ?_ | refine LW_skip ?_); try simp only [LSj, reduceIte, zze]) | refine LW_block ?_))
  by_cases hlt : i < m.attrs.length
  · obtain ⟨a, ha⟩ := get_of_lt hlt
    have hd := drop_attr ha
    have hw := w64s (n := i) (by omega)
    refine LW_if ?_; intro X Y hX hY; simp only [LY, reduceCtorEq, reduceIte, zz1, zz2, zz3, zz4, zz5, zz6, zz7, zz8, zz9, zza, zzb, zzc, zzd, zze, zzf, hlt]; refine hX ?_; clear hX hY X Y; try simp only [LSj, reduceIte, zze]
    cases hg : goodT a
    · (repeat (first | refine LW_seq ?_ | (refine LW_skip ?_; simp only [LSj, reduceIte, zze]) | refine LW_block ?_)); refine LW_any (by kernel_rfl) (by kernel_rfl) (by kernel_rfl) (by first | exact rfl | (rw [hmd]; exact rfl)) ?_; intro K hK; simp only [LY, reduceCtorEq, reduceIte, zz1, zz2, zz3, zz4, zz5, zz6, zz7, zz8, zz9, zza, zzb, zzc, zzd, zze, zzf, e1, b1, e3, metaL, attrsL, hlt, hd]
      refine cop_intro ?ha (rattr_L a) ?_; (case ha => (simp only [LY, reduceCtorEq, reduceIte, zz1, zz2, zz3, zz4, zz5, zz6, zz7, zz8, zz9, zza, zzb, zzc, zzd, zze, zzf, attrL, hg]) <;> rfl); simp only [LY, reduceCtorEq, reduceIte, zz1, zz2, zz3, zz4, zz5, zz6, zz7, zz8, zz9, zza, zzb, zzc, zzd, zze, zzf, attrL, hg]
      refine hK _ ?_; clear hK K; try simp only [LSj, reduceIte, zze]
      refine LW_if ?_; intro X Y hX hY; simp only [LY, reduceCtorEq, reduceIte, zz1, zz2, zz3, zz4, zz5, zz6, zz7, zz8, zz9, zza, zzb, zzc, zzd, zze, zzf]; refine hX ?_; clear hX hY X Y; try simp only [LSj, reduceIte, zze]
      (repeat (first | refine LW_seq ?_ | ((first | (refine LW_region ?_; intro K hK; simp only [LY, reduceCtorEq, reduceIte, zz1, zz2, zz3, zz4, zz5, zz6, zz7, zz8, zz9, zza, zzb, zzc, zzd, zze, zzf]; refine hK _ ?_; clear hK K) | refine LW_label ?_ | refine LW_skip ?_); try simp only [LSj, reduceIte, zze]) | refine LW_block ?_))
      refine LW_ret ?_; simp only [thenL, jumpsL, inBlockL, twoL, bodyQ, LV.lit.injEq, LV.tup.injEq, LV.agg.injEq, LV.sl.injEq, List.cons.injEq, Value.int.injEq, Value.bool.injEq, Value.string.injEq, ByteArray.mk.injEq, exists_eq_left', exists_eq_left, exists_eq_right, LY, reduceCtorEq, reduceIte, zz1, zz2, zz3, zz4, zz5, zz6, zz7, zz8, zz9, zza, zzb, zzc, zzd, zze, zzf]
      have hf : chkT m.attrs 0 = false := by rw [← hr]; unfold chkT; exact chkGAt_bad ha hg
      rw [← hR, hf]; simp
    · by_cases h0 : (0 : Int) < i
      · obtain ⟨b, hb⟩ := get_of_lt (l := m.attrs) (i := i - 1) (by omega)
        have hdb := drop_attr hb
        have hi1 : i - 1 < m.attrs.length := by omega
        have hwp := w64p (n := i) (by omega) (by omega)
        have hat := chkGAt_at (key := Attr.name) (lt := Op.bytesLess) (by omega) ha hb hg
        (repeat (first | refine LW_seq ?_ | (refine LW_skip ?_; simp only [LSj, reduceIte, zze]) | refine LW_block ?_)); refine LW_any (by kernel_rfl) (by kernel_rfl) (by kernel_rfl) (by first | exact rfl | (rw [hmd]; exact rfl)) ?_; intro K hK; simp only [LY, reduceCtorEq, reduceIte, zz1, zz2, zz3, zz4, zz5, zz6, zz7, zz8, zz9, zza, zzb, zzc, zzd, zze, zzf, e1, b1, e3, metaL, attrsL, hlt, hd]
        refine cop_intro ?ha (rattr_L a) ?_; (case ha => (simp only [LY, reduceCtorEq, reduceIte, zz1, zz2, zz3, zz4, zz5, zz6, zz7, zz8, zz9, zza, zzb, zzc, zzd, zze, zzf, attrL, hg, e1, b1, e3, h0, hi1, hwp, hdb, hlt, hd, metaL, attrsL]) <;> rfl); simp only [LY, reduceCtorEq, reduceIte, zz1, zz2, zz3, zz4, zz5, zz6, zz7, zz8, zz9, zza, zzb, zzc, zzd, zze, zzf, attrL, hg, e1, b1, e3, h0, hi1, hwp, hdb, hlt, hd, metaL, attrsL]
        refine hK _ ?_; clear hK K; try simp only [LSj, reduceIte, zze]
        cases hc : Op.bytesLess b.name a.name
        · refine LW_if ?_; intro X Y hX hY; simp only [LY, reduceCtorEq, reduceIte, zz1, zz2, zz3, zz4, zz5, zz6, zz7, zz8, zz9, zza, zzb, zzc, zzd, zze, zzf, bl_geq, hc]; refine hX ?_; clear hX hY X Y; try simp only [LSj, reduceIte, zze]
          (repeat (first | refine LW_seq ?_ | ((first | (refine LW_region ?_; intro K hK; simp only [LY, reduceCtorEq, reduceIte, zz1, zz2, zz3, zz4, zz5, zz6, zz7, zz8, zz9, zza, zzb, zzc, zzd, zze, zzf]; refine hK _ ?_; clear hK K) | refine LW_label ?_ | refine LW_skip ?_); try simp only [LSj, reduceIte, zze]) | refine LW_block ?_))
          refine LW_ret ?_; simp only [thenL, jumpsL, inBlockL, twoL, bodyQ, LV.lit.injEq, LV.tup.injEq, LV.agg.injEq, LV.sl.injEq, List.cons.injEq, Value.int.injEq, Value.bool.injEq, Value.string.injEq, ByteArray.mk.injEq, exists_eq_left', exists_eq_left, exists_eq_right, LY, reduceCtorEq, reduceIte, zz1, zz2, zz3, zz4, zz5, zz6, zz7, zz8, zz9, zza, zzb, zzc, zzd, zze, zzf]
          have hf : chkT m.attrs 0 = false := by rw [← hr]; unfold chkT; rw [hat, hc]; rfl
          rw [← hR, hf]; simp
        · refine LW_if ?_; intro X Y hX hY; simp only [LY, reduceCtorEq, reduceIte, zz1, zz2, zz3, zz4, zz5, zz6, zz7, zz8, zz9, zza, zzb, zzc, zzd, zze, zzf, bl_geq, hc]; refine hY ?_; clear hX hY X Y; (try simp only [LSj, reduceIte, zze]); (try (refine LW_skip ?_; simp only [LSj, reduceIte, zze]))
          (repeat (first | refine LW_seq ?_ | ((first | (refine LW_region ?_; intro K hK; simp only [LY, reduceCtorEq, reduceIte, zz1, zz2, zz3, zz4, zz5, zz6, zz7, zz8, zz9, zza, zzb, zzc, zzd, zze, zzf, e3, hw]; refine hK _ ?_; clear hK K) | refine LW_label ?_ | refine LW_skip ?_); try simp only [LSj, reduceIte, zze]) | refine LW_block ?_))
          refine ⟨n - 1, by omega, i + 1, by omega, (by first | exact rfl | assumption | (simp only [LY, reduceCtorEq, reduceIte, zz1, zz2, zz3, zz4, zz5, zz6, zz7, zz8, zz9, zza, zzb, zzc, zzd, zze, zzf, e1] <;> exact rfl)), (by first | exact rfl | assumption | (simp only [LY, reduceCtorEq, reduceIte, zz1, zz2, zz3, zz4, zz5, zz6, zz7, zz8, zz9, zza, zzb, zzc, zzd, zze, zzf, b1] <;> exact rfl)), (by first | exact rfl | assumption | (simp only [LY, reduceCtorEq, reduceIte, zz1, zz2, zz3, zz4, zz5, zz6, zz7, zz8, zz9, zza, zzb, zzc, zzd, zze, zzf] <;> exact rfl)), ?_⟩
          rw [← hr]; unfold chkT; rw [hat, hc, Bool.true_and]
      · have hi0 : i = 0 := by omega
        have hf := chkGAt_first (key := Attr.name) (lt := Op.bytesLess) (by rw [hi0] at ha; exact ha) hg
        (repeat (first | refine LW_seq ?_ | (refine LW_skip ?_; simp only [LSj, reduceIte, zze]) | refine LW_block ?_)); refine LW_any (by kernel_rfl) (by kernel_rfl) (by kernel_rfl) (by first | exact rfl | (rw [hmd]; exact rfl)) ?_; intro K hK; simp only [LY, reduceCtorEq, reduceIte, zz1, zz2, zz3, zz4, zz5, zz6, zz7, zz8, zz9, zza, zzb, zzc, zzd, zze, zzf, e1, b1, e3, metaL, attrsL, hlt, hd]
        refine cop_intro ?ha (rattr_L a) ?_; (case ha => (simp only [LY, reduceCtorEq, reduceIte, zz1, zz2, zz3, zz4, zz5, zz6, zz7, zz8, zz9, zza, zzb, zzc, zzd, zze, zzf, attrL, hg, e1, b1, e3, h0, metaL, attrsL]) <;> rfl); simp only [LY, reduceCtorEq, reduceIte, zz1, zz2, zz3, zz4, zz5, zz6, zz7, zz8, zz9, zza, zzb, zzc, zzd, zze, zzf, attrL, hg, e1, b1, e3, h0, metaL, attrsL]
        refine hK _ ?_; clear hK K; try simp only [LSj, reduceIte, zze]
        refine LW_if ?_; intro X Y hX hY; simp only [LY, reduceCtorEq, reduceIte, zz1, zz2, zz3, zz4, zz5, zz6, zz7, zz8, zz9, zza, zzb, zzc, zzd, zze, zzf]; refine hY ?_; clear hX hY X Y; (try simp only [LSj, reduceIte, zze]); (try (refine LW_skip ?_; simp only [LSj, reduceIte, zze]))
        (repeat (first | refine LW_seq ?_ | ((first | (refine LW_region ?_; intro K hK; simp only [LY, reduceCtorEq, reduceIte, zz1, zz2, zz3, zz4, zz5, zz6, zz7, zz8, zz9, zza, zzb, zzc, zzd, zze, zzf, e3, hw]; refine hK _ ?_; clear hK K) | refine LW_label ?_ | refine LW_skip ?_); try simp only [LSj, reduceIte, zze]) | refine LW_block ?_))
        refine ⟨n - 1, by omega, i + 1, by omega, (by first | exact rfl | assumption | (simp only [LY, reduceCtorEq, reduceIte, zz1, zz2, zz3, zz4, zz5, zz6, zz7, zz8, zz9, zza, zzb, zzc, zzd, zze, zzf, e1] <;> exact rfl)), (by first | exact rfl | assumption | (simp only [LY, reduceCtorEq, reduceIte, zz1, zz2, zz3, zz4, zz5, zz6, zz7, zz8, zz9, zza, zzb, zzc, zzd, zze, zzf, b1] <;> exact rfl)), (by first | exact rfl | assumption | (simp only [LY, reduceCtorEq, reduceIte, zz1, zz2, zz3, zz4, zz5, zz6, zz7, zz8, zz9, zza, zzb, zzc, zzd, zze, zzf] <;> exact rfl)), ?_⟩
        rw [← hr]; unfold chkT; rw [hi0, hf]
  · refine LW_if ?_; intro X Y hX hY; simp only [LY, reduceCtorEq, reduceIte, zz1, zz2, zz3, zz4, zz5, zz6, zz7, zz8, zz9, zza, zzb, zzc, zzd, zze, zzf, hlt]; refine hY ?_; clear hX hY X Y; (try simp only [LSj, reduceIte, zze]); (try (refine LW_skip ?_; simp only [LSj, reduceIte, zze]))
    refine LW_exit ?_; simp only [thenL, jumpsL, inBlockL, twoL, reduceIte, Nat.reduceEqDiff]
    have hcT : chkT m.attrs 0 = true := by rw [← hr]; unfold chkT; exact chkGAt_end (by omega)
    rw [hcT, Bool.and_true] at hR
    simp only [metaL, attrsL, acesL] at b1
    unfold idB at hR
    by_cases g1 : 0 ≤ m.mode
    · by_cases g2 : m.mode ≤ 4095
      · by_cases g3 : 0 ≤ m.uid
        · by_cases g4 : m.uid ≤ 2147483647
          · by_cases g5 : 0 ≤ m.gid
            · by_cases g6 : m.gid ≤ 2147483647
              · by_cases g7 : 0 ≤ m.time
                · by_cases g8 : (m.attrs.length : Int) ≤ 8
                  · have g8' : m.attrs.length ≤ 8 := by omega
                    (repeat (first | refine LW_seq ?_ | (refine LW_skip ?_; simp only [LSj, reduceIte, zze]) | refine LW_block ?_)); refine LW_region ?_; intro K hK; simp only [LY, reduceCtorEq, reduceIte, zz1, zz2, zz3, zz4, zz5, zz6, zz7, zz8, zz9, zza, zzb, zzc, zzd, zze, zzf, e1, b1, g1, g2, g3, g4, g5, g6, g7, g8]
                    refine cop_intro ?ha (ca) ?_; (case ha => (simp only [LY, reduceCtorEq, reduceIte, zz1, zz2, zz3, zz4, zz5, zz6, zz7, zz8, zz9, zza, zzb, zzc, zzd, zze, zzf]) <;> rfl); simp only [LY, reduceCtorEq, reduceIte, zz1, zz2, zz3, zz4, zz5, zz6, zz7, zz8, zz9, zza, zzb, zzc, zzd, zze, zzf]
                    refine hK _ ?_; clear hK K; try simp only [LSj, reduceIte, zze]
                    refine LW_ret ?_; simp only [thenL, jumpsL, inBlockL, twoL, bodyQ, LV.lit.injEq, LV.tup.injEq, LV.agg.injEq, LV.sl.injEq, List.cons.injEq, Value.int.injEq, Value.bool.injEq, Value.string.injEq, ByteArray.mk.injEq, exists_eq_left', exists_eq_left, exists_eq_right, LY, reduceCtorEq, reduceIte, zz1, zz2, zz3, zz4, zz5, zz6, zz7, zz8, zz9, zza, zzb, zzc, zzd, zze, zzf]
                    rw [← hR]; simp [g1, g2, g3, g4, g5, g6, g7, g8']
                  · have g8' : ¬ m.attrs.length ≤ 8 := by omega
                    (repeat (first | refine LW_seq ?_ | ((first | (refine LW_region ?_; intro K hK; simp only [LY, reduceCtorEq, reduceIte, zz1, zz2, zz3, zz4, zz5, zz6, zz7, zz8, zz9, zza, zzb, zzc, zzd, zze, zzf, e1, b1, g1, g2, g3, g4, g5, g6, g7, g8]; refine hK _ ?_; clear hK K) | refine LW_label ?_ | refine LW_skip ?_); try simp only [LSj, reduceIte, zze]) | refine LW_block ?_))
                    refine LW_ret ?_; simp only [thenL, jumpsL, inBlockL, twoL, bodyQ, LV.lit.injEq, LV.tup.injEq, LV.agg.injEq, LV.sl.injEq, List.cons.injEq, Value.int.injEq, Value.bool.injEq, Value.string.injEq, ByteArray.mk.injEq, exists_eq_left', exists_eq_left, exists_eq_right, LY, reduceCtorEq, reduceIte, zz1, zz2, zz3, zz4, zz5, zz6, zz7, zz8, zz9, zza, zzb, zzc, zzd, zze, zzf]
                    rw [← hR]; simp [g8']
                · (repeat (first | refine LW_seq ?_ | ((first | (refine LW_region ?_; intro K hK; simp only [LY, reduceCtorEq, reduceIte, zz1, zz2, zz3, zz4, zz5, zz6, zz7, zz8, zz9, zza, zzb, zzc, zzd, zze, zzf, e1, b1, g1, g2, g3, g4, g5, g6, g7]; refine hK _ ?_; clear hK K) | refine LW_label ?_ | refine LW_skip ?_); try simp only [LSj, reduceIte, zze]) | refine LW_block ?_))
                  refine LW_ret ?_; simp only [thenL, jumpsL, inBlockL, twoL, bodyQ, LV.lit.injEq, LV.tup.injEq, LV.agg.injEq, LV.sl.injEq, List.cons.injEq, Value.int.injEq, Value.bool.injEq, Value.string.injEq, ByteArray.mk.injEq, exists_eq_left', exists_eq_left, exists_eq_right, LY, reduceCtorEq, reduceIte, zz1, zz2, zz3, zz4, zz5, zz6, zz7, zz8, zz9, zza, zzb, zzc, zzd, zze, zzf]
                  rw [← hR]; simp [g7]
              · (repeat (first | refine LW_seq ?_ | ((first | (refine LW_region ?_; intro K hK; simp only [LY, reduceCtorEq, reduceIte, zz1, zz2, zz3, zz4, zz5, zz6, zz7, zz8, zz9, zza, zzb, zzc, zzd, zze, zzf, e1, b1, g1, g2, g3, g4, g5, g6]; refine hK _ ?_; clear hK K) | refine LW_label ?_ | refine LW_skip ?_); try simp only [LSj, reduceIte, zze]) | refine LW_block ?_))
                refine LW_ret ?_; simp only [thenL, jumpsL, inBlockL, twoL, bodyQ, LV.lit.injEq, LV.tup.injEq, LV.agg.injEq, LV.sl.injEq, List.cons.injEq, Value.int.injEq, Value.bool.injEq, Value.string.injEq, ByteArray.mk.injEq, exists_eq_left', exists_eq_left, exists_eq_right, LY, reduceCtorEq, reduceIte, zz1, zz2, zz3, zz4, zz5, zz6, zz7, zz8, zz9, zza, zzb, zzc, zzd, zze, zzf]
                rw [← hR]; simp [g6]
            · (repeat (first | refine LW_seq ?_ | ((first | (refine LW_region ?_; intro K hK; simp only [LY, reduceCtorEq, reduceIte, zz1, zz2, zz3, zz4, zz5, zz6, zz7, zz8, zz9, zza, zzb, zzc, zzd, zze, zzf, e1, b1, g1, g2, g3, g4, g5]; refine hK _ ?_; clear hK K) | refine LW_label ?_ | refine LW_skip ?_); try simp only [LSj, reduceIte, zze]) | refine LW_block ?_))
              refine LW_ret ?_; simp only [thenL, jumpsL, inBlockL, twoL, bodyQ, LV.lit.injEq, LV.tup.injEq, LV.agg.injEq, LV.sl.injEq, List.cons.injEq, Value.int.injEq, Value.bool.injEq, Value.string.injEq, ByteArray.mk.injEq, exists_eq_left', exists_eq_left, exists_eq_right, LY, reduceCtorEq, reduceIte, zz1, zz2, zz3, zz4, zz5, zz6, zz7, zz8, zz9, zza, zzb, zzc, zzd, zze, zzf]
              rw [← hR]; simp [g5]
          · (repeat (first | refine LW_seq ?_ | ((first | (refine LW_region ?_; intro K hK; simp only [LY, reduceCtorEq, reduceIte, zz1, zz2, zz3, zz4, zz5, zz6, zz7, zz8, zz9, zza, zzb, zzc, zzd, zze, zzf, e1, b1, g1, g2, g3, g4]; refine hK _ ?_; clear hK K) | refine LW_label ?_ | refine LW_skip ?_); try simp only [LSj, reduceIte, zze]) | refine LW_block ?_))
            refine LW_ret ?_; simp only [thenL, jumpsL, inBlockL, twoL, bodyQ, LV.lit.injEq, LV.tup.injEq, LV.agg.injEq, LV.sl.injEq, List.cons.injEq, Value.int.injEq, Value.bool.injEq, Value.string.injEq, ByteArray.mk.injEq, exists_eq_left', exists_eq_left, exists_eq_right, LY, reduceCtorEq, reduceIte, zz1, zz2, zz3, zz4, zz5, zz6, zz7, zz8, zz9, zza, zzb, zzc, zzd, zze, zzf]
            rw [← hR]; simp [g4]
        · (repeat (first | refine LW_seq ?_ | ((first | (refine LW_region ?_; intro K hK; simp only [LY, reduceCtorEq, reduceIte, zz1, zz2, zz3, zz4, zz5, zz6, zz7, zz8, zz9, zza, zzb, zzc, zzd, zze, zzf, e1, b1, g1, g2, g3]; refine hK _ ?_; clear hK K) | refine LW_label ?_ | refine LW_skip ?_); try simp only [LSj, reduceIte, zze]) | refine LW_block ?_))
          refine LW_ret ?_; simp only [thenL, jumpsL, inBlockL, twoL, bodyQ, LV.lit.injEq, LV.tup.injEq, LV.agg.injEq, LV.sl.injEq, List.cons.injEq, Value.int.injEq, Value.bool.injEq, Value.string.injEq, ByteArray.mk.injEq, exists_eq_left', exists_eq_left, exists_eq_right, LY, reduceCtorEq, reduceIte, zz1, zz2, zz3, zz4, zz5, zz6, zz7, zz8, zz9, zza, zzb, zzc, zzd, zze, zzf]
          rw [← hR]; simp [g3]
      · (repeat (first | refine LW_seq ?_ | ((first | (refine LW_region ?_; intro K hK; simp only [LY, reduceCtorEq, reduceIte, zz1, zz2, zz3, zz4, zz5, zz6, zz7, zz8, zz9, zza, zzb, zzc, zzd, zze, zzf, e1, b1, g1, g2]; refine hK _ ?_; clear hK K) | refine LW_label ?_ | refine LW_skip ?_); try simp only [LSj, reduceIte, zze]) | refine LW_block ?_))
        refine LW_ret ?_; simp only [thenL, jumpsL, inBlockL, twoL, bodyQ, LV.lit.injEq, LV.tup.injEq, LV.agg.injEq, LV.sl.injEq, List.cons.injEq, Value.int.injEq, Value.bool.injEq, Value.string.injEq, ByteArray.mk.injEq, exists_eq_left', exists_eq_left, exists_eq_right, LY, reduceCtorEq, reduceIte, zz1, zz2, zz3, zz4, zz5, zz6, zz7, zz8, zz9, zza, zzb, zzc, zzd, zze, zzf]
        rw [← hR]; simp [g2]
    · (repeat (first | refine LW_seq ?_ | ((first | (refine LW_region ?_; intro K hK; simp only [LY, reduceCtorEq, reduceIte, zz1, zz2, zz3, zz4, zz5, zz6, zz7, zz8, zz9, zza, zzb, zzc, zzd, zze, zzf, e1, b1, g1]; refine hK _ ?_; clear hK K) | refine LW_label ?_ | refine LW_skip ?_); try simp only [LSj, reduceIte, zze]) | refine LW_block ?_))
      refine LW_ret ?_; simp only [thenL, jumpsL, inBlockL, twoL, bodyQ, LV.lit.injEq, LV.tup.injEq, LV.agg.injEq, LV.sl.injEq, List.cons.injEq, Value.int.injEq, Value.bool.injEq, Value.string.injEq, ByteArray.mk.injEq, exists_eq_left', exists_eq_left, exists_eq_right, LY, reduceCtorEq, reduceIte, zz1, zz2, zz3, zz4, zz5, zz6, zz7, zz8, zz9, zza, zzb, zzc, zzd, zze, zzf]
      rw [← hR]; simp [g1]
end Go.Proofs.Ytaeefaehpfjmlaa
