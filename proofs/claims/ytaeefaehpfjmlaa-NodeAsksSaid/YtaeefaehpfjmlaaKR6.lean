import Derived.Test.YtaeefaehpfjmlaaKR4
import Derived.Test.YtaeefaehpfjmlaaKN6
set_option linter.unusedSimpArgs false
set_option linter.unusedVariables false
namespace Go.Proofs.Ytaeefaehpfjmlaa
open Nat renaming reduceAdd → zz1, reduceMul → zz2, reduceSub → zz3, reduceLT → zz4, reduceLeDiff → zz5, reduceEqDiff → zz6, reduceBEq → zzf
open Int renaming reduceAdd → zz7, reduceSub → zz8, reduceMul → zz9, reduceLT → zza, reduceLE → zzb, reduceEq → zzc, reduceNeg → zzd, reduceToNat → zze
open Op renaming operands → zo
open Call renaming operands → zc
open Go.RowKit Go.Proofs AclSpec MetaSpec NodeSpec GSort Flo Ext

theorem LW_joinBB {P : Program} {N : Nat} {w0 : World} {S0 : Ent} {id id2 : Nat} {c : Code} {Q : Exit → LSt → Prop} {K : LSt → Prop} {st : LSt} (M : LSt → Prop) (h1 : LW P N w0 S0 c (inBlockL id (inBlockL id2 (thenL M Q))) st) (h2 : ∀ st', M st' → K st') : LW P N w0 S0 c (inBlockL id (inBlockL id2 (thenL K Q))) st :=
  h1.mono fun e st' h => by
    cases e with
    | exit i =>
      simp only [inBlockL] at h ⊢
      split
      · rename_i hi; rw [if_pos hi] at h; exact h2 _ h
      · rename_i hi
        rw [if_neg hi] at h
        split
        · rename_i hi2; rw [if_pos hi2] at h; exact h2 _ h
        · rename_i hi2; rw [if_neg hi2] at h; exact h
    | normal => exact h2 _ h
    | _ => exact h
set_option maxRecDepth 100000 in
set_option maxHeartbeats 8000000 in
theorem rread_L (n : FNode) (h : small n) (htl : n.target.length ≤ maxLen) (a long : Int) : LCalls Try.prog 15 [.agg (nodeL n), intL a, intL long] (.tup [strL (readN n a long).1, intL (readN n a long).2]) := by
  have cm := rmayNode_L n h htl
  simp only [nodeL, attrsL, acesL, piecesL, rowL] at cm
  refine LCalls.of (fun _ => false) Try.func15 rfl (by decide) Try.ntmps15 Try.results15 (by simp) ?_
  intro w0 S0 vs hgl hwf0 hsz hvs; clear hsz hvs hwf0 hgl
  generalize hR : readN n a long = R
  unfold readN isFileN at hR
  (repeat (first | refine LW_seq ?_ | ((first | (refine LW_region ?_; intro K hK; simp only [LZ, zo, zc, reduceCtorEq, reduceIte, zz1, zz2, zz3, zz4, zz5, zz6, zz7, zz8, zz9, zza, zzb, zzc, zzd, zze, zzf, nodeL, piecesL, attrsL, acesL]; refine hK _ ?_; clear hK K) | refine LW_label ?_ | refine LW_skip ?_); try simp only [LSj, reduceIte, zze]) | refine LW_block ?_))
  cases g1 : mayN n
  · rw [g1] at cm hR
    (repeat (first | refine LW_seq ?_ | (refine LW_skip ?_; simp only [LSj, reduceIte, zze]) | refine LW_block ?_)); refine LW_region ?_; intro K hK; simp only [LZ, zo, zc, reduceCtorEq, reduceIte, zz1, zz2, zz3, zz4, zz5, zz6, zz7, zz8, zz9, zza, zzb, zzc, zzd, zze, zzf]
    refine cop_intro ?ha (cm) ?_; (case ha => (simp only [LZ, zo, zc, reduceCtorEq, reduceIte, zz1, zz2, zz3, zz4, zz5, zz6, zz7, zz8, zz9, zza, zzb, zzc, zzd, zze, zzf]) <;> rfl); simp only [LZ, zo, zc, reduceCtorEq, reduceIte, zz1, zz2, zz3, zz4, zz5, zz6, zz7, zz8, zz9, zza, zzb, zzc, zzd, zze, zzf]
    refine hK _ ?_; clear hK K; try simp only [LSj, reduceIte, zze]
    refine LW_if ?_; intro X Y hX hY; simp only [LZ, zo, zc, reduceCtorEq, reduceIte, zz1, zz2, zz3, zz4, zz5, zz6, zz7, zz8, zz9, zza, zzb, zzc, zzd, zze, zzf]; refine hX ?_; clear hX hY X Y; try simp only [LSj, reduceIte, zze]
    (repeat (first | refine LW_seq ?_ | ((first | (refine LW_region ?_; intro K hK; simp only [LZ, zo, zc, reduceCtorEq, reduceIte, zz1, zz2, zz3, zz4, zz5, zz6, zz7, zz8, zz9, zza, zzb, zzc, zzd, zze, zzf]; refine hK _ ?_; clear hK K) | refine LW_label ?_ | refine LW_skip ?_); try simp only [LSj, reduceIte, zze]) | refine LW_block ?_))
    refine LW_ret ?_; simp only [thenL, jumpsL, inBlockL, twoL, bodyQ, LV.lit.injEq, LV.tup.injEq, LV.agg.injEq, LV.sl.injEq, List.cons.injEq, Value.int.injEq, Value.bool.injEq, Value.string.injEq, ByteArray.mk.injEq, exists_eq_left', exists_eq_left, exists_eq_right, LZ, zo, zc, reduceCtorEq, reduceIte, zz1, zz2, zz3, zz4, zz5, zz6, zz7, zz8, zz9, zza, zzb, zzc, zzd, zze, zzf]
    rw [← hR]; simp
  rw [g1] at cm hR
  by_cases g0 : n.kind = 2
  rotate_left
  · (repeat (first | refine LW_seq ?_ | (refine LW_skip ?_; simp only [LSj, reduceIte, zze]) | refine LW_block ?_)); refine LW_region ?_; intro K hK; simp only [LZ, zo, zc, reduceCtorEq, reduceIte, zz1, zz2, zz3, zz4, zz5, zz6, zz7, zz8, zz9, zza, zzb, zzc, zzd, zze, zzf]
    refine cop_intro ?ha (cm) ?_; (case ha => (simp only [LZ, zo, zc, reduceCtorEq, reduceIte, zz1, zz2, zz3, zz4, zz5, zz6, zz7, zz8, zz9, zza, zzb, zzc, zzd, zze, zzf, g0]) <;> rfl); simp only [LZ, zo, zc, reduceCtorEq, reduceIte, zz1, zz2, zz3, zz4, zz5, zz6, zz7, zz8, zz9, zza, zzb, zzc, zzd, zze, zzf, g0]
    refine hK _ ?_; clear hK K; try simp only [LSj, reduceIte, zze]
    refine LW_if ?_; intro X Y hX hY; simp only [LZ, zo, zc, reduceCtorEq, reduceIte, zz1, zz2, zz3, zz4, zz5, zz6, zz7, zz8, zz9, zza, zzb, zzc, zzd, zze, zzf]; refine hX ?_; clear hX hY X Y; try simp only [LSj, reduceIte, zze]
    (repeat (first | refine LW_seq ?_ | ((first | (refine LW_region ?_; intro K hK; simp only [LZ, zo, zc, reduceCtorEq, reduceIte, zz1, zz2, zz3, zz4, zz5, zz6, zz7, zz8, zz9, zza, zzb, zzc, zzd, zze, zzf]; refine hK _ ?_; clear hK K) | refine LW_label ?_ | refine LW_skip ?_); try simp only [LSj, reduceIte, zze]) | refine LW_block ?_))
    refine LW_ret ?_; simp only [thenL, jumpsL, inBlockL, twoL, bodyQ, LV.lit.injEq, LV.tup.injEq, LV.agg.injEq, LV.sl.injEq, List.cons.injEq, Value.int.injEq, Value.bool.injEq, Value.string.injEq, ByteArray.mk.injEq, exists_eq_left', exists_eq_left, exists_eq_right, LZ, zo, zc, reduceCtorEq, reduceIte, zz1, zz2, zz3, zz4, zz5, zz6, zz7, zz8, zz9, zza, zzb, zzc, zzd, zze, zzf]
    rw [← hR]; simp [g0]
  by_cases g2 : a < 0
  · (repeat (first | refine LW_seq ?_ | (refine LW_skip ?_; simp only [LSj, reduceIte, zze]) | refine LW_block ?_)); refine LW_region ?_; intro K hK; simp only [LZ, zo, zc, reduceCtorEq, reduceIte, zz1, zz2, zz3, zz4, zz5, zz6, zz7, zz8, zz9, zza, zzb, zzc, zzd, zze, zzf]
    refine cop_intro ?ha (cm) ?_; (case ha => (simp only [LZ, zo, zc, reduceCtorEq, reduceIte, zz1, zz2, zz3, zz4, zz5, zz6, zz7, zz8, zz9, zza, zzb, zzc, zzd, zze, zzf, g0, g2]) <;> rfl); simp only [LZ, zo, zc, reduceCtorEq, reduceIte, zz1, zz2, zz3, zz4, zz5, zz6, zz7, zz8, zz9, zza, zzb, zzc, zzd, zze, zzf, g0, g2]
    refine hK _ ?_; clear hK K; try simp only [LSj, reduceIte, zze]
    refine LW_if ?_; intro X Y hX hY; simp only [LZ, zo, zc, reduceCtorEq, reduceIte, zz1, zz2, zz3, zz4, zz5, zz6, zz7, zz8, zz9, zza, zzb, zzc, zzd, zze, zzf]; refine hX ?_; clear hX hY X Y; try simp only [LSj, reduceIte, zze]
    (repeat (first | refine LW_seq ?_ | ((first | (refine LW_region ?_; intro K hK; simp only [LZ, zo, zc, reduceCtorEq, reduceIte, zz1, zz2, zz3, zz4, zz5, zz6, zz7, zz8, zz9, zza, zzb, zzc, zzd, zze, zzf]; refine hK _ ?_; clear hK K) | refine LW_label ?_ | refine LW_skip ?_); try simp only [LSj, reduceIte, zze]) | refine LW_block ?_))
    refine LW_ret ?_; simp only [thenL, jumpsL, inBlockL, twoL, bodyQ, LV.lit.injEq, LV.tup.injEq, LV.agg.injEq, LV.sl.injEq, List.cons.injEq, Value.int.injEq, Value.bool.injEq, Value.string.injEq, ByteArray.mk.injEq, exists_eq_left', exists_eq_left, exists_eq_right, LZ, zo, zc, reduceCtorEq, reduceIte, zz1, zz2, zz3, zz4, zz5, zz6, zz7, zz8, zz9, zza, zzb, zzc, zzd, zze, zzf]
    rw [← hR]; simp [g2, g0]
  by_cases g3 : long < 0
  · (repeat (first | refine LW_seq ?_ | (refine LW_skip ?_; simp only [LSj, reduceIte, zze]) | refine LW_block ?_)); refine LW_region ?_; intro K hK; simp only [LZ, zo, zc, reduceCtorEq, reduceIte, zz1, zz2, zz3, zz4, zz5, zz6, zz7, zz8, zz9, zza, zzb, zzc, zzd, zze, zzf]
    refine cop_intro ?ha (cm) ?_; (case ha => (simp only [LZ, zo, zc, reduceCtorEq, reduceIte, zz1, zz2, zz3, zz4, zz5, zz6, zz7, zz8, zz9, zza, zzb, zzc, zzd, zze, zzf, g0, g2, g3]) <;> rfl); simp only [LZ, zo, zc, reduceCtorEq, reduceIte, zz1, zz2, zz3, zz4, zz5, zz6, zz7, zz8, zz9, zza, zzb, zzc, zzd, zze, zzf, g0, g2, g3]
    refine hK _ ?_; clear hK K; try simp only [LSj, reduceIte, zze]
    refine LW_if ?_; intro X Y hX hY; simp only [LZ, zo, zc, reduceCtorEq, reduceIte, zz1, zz2, zz3, zz4, zz5, zz6, zz7, zz8, zz9, zza, zzb, zzc, zzd, zze, zzf]; refine hX ?_; clear hX hY X Y; try simp only [LSj, reduceIte, zze]
    (repeat (first | refine LW_seq ?_ | ((first | (refine LW_region ?_; intro K hK; simp only [LZ, zo, zc, reduceCtorEq, reduceIte, zz1, zz2, zz3, zz4, zz5, zz6, zz7, zz8, zz9, zza, zzb, zzc, zzd, zze, zzf]; refine hK _ ?_; clear hK K) | refine LW_label ?_ | refine LW_skip ?_); try simp only [LSj, reduceIte, zze]) | refine LW_block ?_))
    refine LW_ret ?_; simp only [thenL, jumpsL, inBlockL, twoL, bodyQ, LV.lit.injEq, LV.tup.injEq, LV.agg.injEq, LV.sl.injEq, List.cons.injEq, Value.int.injEq, Value.bool.injEq, Value.string.injEq, ByteArray.mk.injEq, exists_eq_left', exists_eq_left, exists_eq_right, LZ, zo, zc, reduceCtorEq, reduceIte, zz1, zz2, zz3, zz4, zz5, zz6, zz7, zz8, zz9, zza, zzb, zzc, zzd, zze, zzf]
    rw [← hR]; simp [g3, g0]
  by_cases g4 : 4000 < long
  · (repeat (first | refine LW_seq ?_ | (refine LW_skip ?_; simp only [LSj, reduceIte, zze]) | refine LW_block ?_)); refine LW_region ?_; intro K hK; simp only [LZ, zo, zc, reduceCtorEq, reduceIte, zz1, zz2, zz3, zz4, zz5, zz6, zz7, zz8, zz9, zza, zzb, zzc, zzd, zze, zzf]
    refine cop_intro ?ha (cm) ?_; (case ha => (simp only [LZ, zo, zc, reduceCtorEq, reduceIte, zz1, zz2, zz3, zz4, zz5, zz6, zz7, zz8, zz9, zza, zzb, zzc, zzd, zze, zzf, g0, g2, g3, g4]) <;> rfl); simp only [LZ, zo, zc, reduceCtorEq, reduceIte, zz1, zz2, zz3, zz4, zz5, zz6, zz7, zz8, zz9, zza, zzb, zzc, zzd, zze, zzf, g0, g2, g3, g4]
    refine hK _ ?_; clear hK K; try simp only [LSj, reduceIte, zze]
    refine LW_if ?_; intro X Y hX hY; simp only [LZ, zo, zc, reduceCtorEq, reduceIte, zz1, zz2, zz3, zz4, zz5, zz6, zz7, zz8, zz9, zza, zzb, zzc, zzd, zze, zzf]; refine hX ?_; clear hX hY X Y; try simp only [LSj, reduceIte, zze]
    (repeat (first | refine LW_seq ?_ | ((first | (refine LW_region ?_; intro K hK; simp only [LZ, zo, zc, reduceCtorEq, reduceIte, zz1, zz2, zz3, zz4, zz5, zz6, zz7, zz8, zz9, zza, zzb, zzc, zzd, zze, zzf]; refine hK _ ?_; clear hK K) | refine LW_label ?_ | refine LW_skip ?_); try simp only [LSj, reduceIte, zze]) | refine LW_block ?_))
    refine LW_ret ?_; simp only [thenL, jumpsL, inBlockL, twoL, bodyQ, LV.lit.injEq, LV.tup.injEq, LV.agg.injEq, LV.sl.injEq, List.cons.injEq, Value.int.injEq, Value.bool.injEq, Value.string.injEq, ByteArray.mk.injEq, exists_eq_left', exists_eq_left, exists_eq_right, LZ, zo, zc, reduceCtorEq, reduceIte, zz1, zz2, zz3, zz4, zz5, zz6, zz7, zz8, zz9, zza, zzb, zzc, zzd, zze, zzf]
    rw [← hR]; simp [g4, g0]
  have hf : isFileN n = true := by unfold isFileN; rw [decide_eq_true g0, g1]; rfl
  rw [if_neg (by simp [g0, g2, g3, g4])] at hR
  have hsep := file_sep hf
  obtain ⟨_, z1, z2, z3, _⟩ := isFile_ok hf
  (repeat (first | refine LW_seq ?_ | (refine LW_skip ?_; simp only [LSj, reduceIte, zze]) | refine LW_block ?_)); refine LW_region ?_; intro K hK; simp only [LZ, zo, zc, reduceCtorEq, reduceIte, zz1, zz2, zz3, zz4, zz5, zz6, zz7, zz8, zz9, zza, zzb, zzc, zzd, zze, zzf]
  refine cop_intro ?ha (cm) ?_; (case ha => (simp only [LZ, zo, zc, reduceCtorEq, reduceIte, zz1, zz2, zz3, zz4, zz5, zz6, zz7, zz8, zz9, zza, zzb, zzc, zzd, zze, zzf, g0, g2, g3, g4]) <;> rfl); simp only [LZ, zo, zc, reduceCtorEq, reduceIte, zz1, zz2, zz3, zz4, zz5, zz6, zz7, zz8, zz9, zza, zzb, zzc, zzd, zze, zzf, g0, g2, g3, g4]
  refine hK _ ?_; clear hK K; try simp only [LSj, reduceIte, zze]
  refine LW_if ?_; intro X Y hX hY; simp only [LZ, zo, zc, reduceCtorEq, reduceIte, zz1, zz2, zz3, zz4, zz5, zz6, zz7, zz8, zz9, zza, zzb, zzc, zzd, zze, zzf]; refine hY ?_; clear hX hY X Y; (try simp only [LSj, reduceIte, zze]); (try (refine LW_skip ?_; simp only [LSj, reduceIte, zze]))
  by_cases g5 : n.size ≤ a
  · rw [if_pos g5] at hR
    (repeat (first | refine LW_seq ?_ | ((first | (refine LW_region ?_; intro K hK; simp only [LZ, zo, zc, reduceCtorEq, reduceIte, zz1, zz2, zz3, zz4, zz5, zz6, zz7, zz8, zz9, zza, zzb, zzc, zzd, zze, zzf, g5]; refine hK _ ?_; clear hK K) | refine LW_label ?_ | refine LW_skip ?_); try simp only [LSj, reduceIte, zze]) | refine LW_block ?_))
    refine LW_if ?_; intro X Y hX hY; simp only [LZ, zo, zc, reduceCtorEq, reduceIte, zz1, zz2, zz3, zz4, zz5, zz6, zz7, zz8, zz9, zza, zzb, zzc, zzd, zze, zzf, g5]; refine hX ?_; clear hX hY X Y; try simp only [LSj, reduceIte, zze]
    (repeat (first | refine LW_seq ?_ | ((first | (refine LW_region ?_; intro K hK; simp only [LZ, zo, zc, reduceCtorEq, reduceIte, zz1, zz2, zz3, zz4, zz5, zz6, zz7, zz8, zz9, zza, zzb, zzc, zzd, zze, zzf]; refine hK _ ?_; clear hK K) | refine LW_label ?_ | refine LW_skip ?_); try simp only [LSj, reduceIte, zze]) | refine LW_block ?_))
    refine LW_ret ?_; simp only [thenL, jumpsL, inBlockL, twoL, bodyQ, LV.lit.injEq, LV.tup.injEq, LV.agg.injEq, LV.sl.injEq, List.cons.injEq, Value.int.injEq, Value.bool.injEq, Value.string.injEq, ByteArray.mk.injEq, exists_eq_left', exists_eq_left, exists_eq_right, LZ, zo, zc, reduceCtorEq, reduceIte, zz1, zz2, zz3, zz4, zz5, zz6, zz7, zz8, zz9, zza, zzb, zzc, zzd, zze, zzf]
    rw [← hR]; exact ⟨rfl, rfl⟩
  rw [if_neg g5] at hR
  (repeat (first | refine LW_seq ?_ | ((first | (refine LW_region ?_; intro K hK; simp only [LZ, zo, zc, reduceCtorEq, reduceIte, zz1, zz2, zz3, zz4, zz5, zz6, zz7, zz8, zz9, zza, zzb, zzc, zzd, zze, zzf, g5]; refine hK _ ?_; clear hK K) | refine LW_label ?_ | refine LW_skip ?_); try simp only [LSj, reduceIte, zze]) | refine LW_block ?_))
  refine LW_if ?_; intro X Y hX hY; simp only [LZ, zo, zc, reduceCtorEq, reduceIte, zz1, zz2, zz3, zz4, zz5, zz6, zz7, zz8, zz9, zza, zzb, zzc, zzd, zze, zzf, g5]; refine hY ?_; clear hX hY X Y; (try simp only [LSj, reduceIte, zze]); (try (refine LW_skip ?_; simp only [LSj, reduceIte, zze]))
  obtain ⟨k, hk, hk2⟩ : ∃ k : Nat, (if (n.size - a) < long then (n.size - a) else long) = (k : Int) ∧ (min long (n.size - a)).toNat = k := ⟨(min long (n.size - a)).toNat, by split <;> omega, rfl⟩
  rw [hk2] at hR
  have hw1 : IntKind.i64.wrap (n.size - a) = n.size - a := w64 (by omega)
  have hk4 : k ≤ 4000 := by split at hk <;> omega
  have hka : a + k ≤ n.size := by split at hk <;> omega
  have hw2 : IntKind.i64.wrap (a + (k : Int)) = a + k := w64 (by omega)
  have hby : k * 1 ≤ 281474976710656 := by omega
  have hmx : k ≤ maxLen := by unfold maxLen; omega
  have cc := rclip_L n.dat a (a + k) h.2.2.1 hsep.2
  have hcr := clip_read (a := a) (k := k) hsep
  obtain ⟨hcd, hce⟩ := clip_dis (lo := a) (hi := a + k) hsep.dis
  have hcl := clipP_len n.dat a (a + k)
  rw [← hcr] at hR
  clear cm hk2 hcr
  generalize hq : clipP n.dat a (a + k) = q at *
  simp only [piecesL, rowL] at cc
  by_cases hk0 : k = 0
  · subst hk0
    have hz : ((0 : Nat) : Int) = 0 := rfl
    have hq0 : q = [] := by
      rcases q with _ | ⟨p, r⟩
      · rfl
      · have h1 := hce p (by simp)
        have h2 := (hcd.2 p (by simp)).1
        have h3 := List.length_pos_iff.2 h2
        omega
    subst hq0
    have hr0 : roomR [] a 0 = [] := rfl
    rw [hr0] at hR
    rw [hz] at hk hw2 cc
    have ha0 : a + 0 = a := by omega
    rw [ha0] at hw2 cc
    simp only [List.flatMap_nil, List.length_nil] at cc
    have hb0 : bytesOf [] = some [] := rfl
    (repeat (first | refine LW_seq ?_ | ((first | (refine LW_region ?_; intro K hK; simp only [LZ, zo, zc, reduceCtorEq, reduceIte, zz1, zz2, zz3, zz4, zz5, zz6, zz7, zz8, zz9, zza, zzb, zzc, zzd, zze, zzf, hw1, hk]; refine hK _ ?_; clear hK K) | refine LW_label ?_ | refine LW_skip ?_); try simp only [LSj, reduceIte, zze]) | refine LW_block ?_))
    (repeat (first | refine LW_seq ?_ | (refine LW_skip ?_; simp only [LSj, reduceIte, zze]) | refine LW_block ?_)); refine LW_region ?_; intro K hK; simp only [LZ, zo, zc, reduceCtorEq, reduceIte, zz1, zz2, zz3, zz4, zz5, zz6, zz7, zz8, zz9, zza, zzb, zzc, zzd, zze, zzf, hw1, hk]
    refine ⟨by (repeat' apply And.intro) <;> first | rfl | omega | exact hmx | (unfold maxLen; omega), ?_⟩
    refine hK _ ?_; clear hK K; try simp only [LSj, reduceIte, zze]
    (repeat (first | refine LW_seq ?_ | (refine LW_skip ?_; simp only [LSj, reduceIte, zze]) | refine LW_block ?_)); refine LW_region ?_; intro K hK; simp only [LZ, zo, zc, reduceCtorEq, reduceIte, zz1, zz2, zz3, zz4, zz5, zz6, zz7, zz8, zz9, zza, zzb, zzc, zzd, zze, zzf, hw1, hk, ha0, hw2]
    refine cop_intro ?ha (cc) ?_; (case ha => (simp only [LZ, zo, zc, reduceCtorEq, reduceIte, zz1, zz2, zz3, zz4, zz5, zz6, zz7, zz8, zz9, zza, zzb, zzc, zzd, zze, zzf]) <;> rfl); simp only [LZ, zo, zc, reduceCtorEq, reduceIte, zz1, zz2, zz3, zz4, zz5, zz6, zz7, zz8, zz9, zza, zzb, zzc, zzd, zze, zzf]
    refine hK _ ?_; clear hK K; try simp only [LSj, reduceIte, zze]
    (repeat (first | refine LW_seq ?_ | ((first | (refine LW_region ?_; intro K hK; simp only [LZ, zo, zc, reduceCtorEq, reduceIte, zz1, zz2, zz3, zz4, zz5, zz6, zz7, zz8, zz9, zza, zzb, zzc, zzd, zze, zzf]; refine hK _ ?_; clear hK K) | refine LW_label ?_ | refine LW_skip ?_); try simp only [LSj, reduceIte, zze]) | refine LW_block ?_))
    refine LW_slim (fun st => st.env 9 = .sl 0 [] .no ∧ st.env 10 = .sl 0 [] .no ∧ st.env 11 = intL 0) ⟨(by first | exact rfl | assumption | (simp only [LZ, zo, zc, reduceCtorEq, reduceIte, zz1, zz2, zz3, zz4, zz5, zz6, zz7, zz8, zz9, zza, zzb, zzc, zzd, zze, zzf] <;> exact rfl)), (by first | exact rfl | assumption | (simp only [LZ, zo, zc, reduceCtorEq, reduceIte, zz1, zz2, zz3, zz4, zz5, zz6, zz7, zz8, zz9, zza, zzb, zzc, zzd, zze, zzf] <;> exact rfl)), (by first | exact rfl | assumption | (simp only [LZ, zo, zc, reduceCtorEq, reduceIte, zz1, zz2, zz3, zz4, zz5, zz6, zz7, zz8, zz9, zza, zzb, zzc, zzd, zze, zzf] <;> exact rfl))⟩ ?_
    rintro st ⟨e9, e10, e11⟩
    refine LW_joinB (fun st => st.env 9 = .sl 0 [] .no) ?_ ?_
    · refine LW_loop (fun m st => st.env 9 = .sl 0 [] .no ∧ st.env 10 = .sl 0 [] .no ∧ st.env 11 = intL 0) 0 ⟨e9, e10, e11⟩ ?_
      clear e9 e10 e11 st
      rintro m st ⟨e9, e10, e11⟩
      have g6 : ¬ (0 : Int) < 0 := by omega
      (repeat (first | refine LW_seq ?_ | ((first | (refine LW_region ?_; intro K hK; simp only [LZ, zo, zc, reduceCtorEq, reduceIte, zz1, zz2, zz3, zz4, zz5, zz6, zz7, zz8, zz9, zza, zzb, zzc, zzd, zze, zzf, e10, e11, g6]; refine hK _ ?_; clear hK K) | refine LW_label ?_ | refine LW_skip ?_); try simp only [LSj, reduceIte, zze]) | refine LW_block ?_))
      refine LW_if ?_; intro X Y hX hY; simp only [LZ, zo, zc, reduceCtorEq, reduceIte, zz1, zz2, zz3, zz4, zz5, zz6, zz7, zz8, zz9, zza, zzb, zzc, zzd, zze, zzf, g6]; refine hY ?_; clear hX hY X Y; (try simp only [LSj, reduceIte, zze]); (try (refine LW_skip ?_; simp only [LSj, reduceIte, zze]))
      refine LW_exit ?_; simp only [thenL, jumpsL, inBlockL, twoL, reduceIte, Nat.reduceEqDiff]
      exact (by first | exact rfl | assumption | (simp only [LZ, zo, zc, reduceCtorEq, reduceIte, zz1, zz2, zz3, zz4, zz5, zz6, zz7, zz8, zz9, zza, zzb, zzc, zzd, zze, zzf, e9] <;> exact rfl))
    · clear e9 e10 e11 st
      rintro st e9
      (repeat (first | refine LW_seq ?_ | ((first | (refine LW_region ?_; intro K hK; simp only [LZ, zo, zc, reduceCtorEq, reduceIte, zz1, zz2, zz3, zz4, zz5, zz6, zz7, zz8, zz9, zza, zzb, zzc, zzd, zze, zzf, e9, hb0]; refine hK _ ?_; clear hK K) | refine LW_label ?_ | refine LW_skip ?_); try simp only [LSj, reduceIte, zze]) | refine LW_block ?_))
      refine LW_ret ?_; simp only [thenL, jumpsL, inBlockL, twoL, bodyQ, LV.lit.injEq, LV.tup.injEq, LV.agg.injEq, LV.sl.injEq, List.cons.injEq, Value.int.injEq, Value.bool.injEq, Value.string.injEq, ByteArray.mk.injEq, exists_eq_left', exists_eq_left, exists_eq_right, LZ, zo, zc, reduceCtorEq, reduceIte, zz1, zz2, zz3, zz4, zz5, zz6, zz7, zz8, zz9, zza, zzb, zzc, zzd, zze, zzf]
      rw [← hR]; exact ⟨rfl, rfl⟩
  · (repeat (first | refine LW_seq ?_ | ((first | (refine LW_region ?_; intro K hK; simp only [LZ, zo, zc, reduceCtorEq, reduceIte, zz1, zz2, zz3, zz4, zz5, zz6, zz7, zz8, zz9, zza, zzb, zzc, zzd, zze, zzf, hw1, hk]; refine hK _ ?_; clear hK K) | refine LW_label ?_ | refine LW_skip ?_); try simp only [LSj, reduceIte, zze]) | refine LW_block ?_))
    (repeat (first | refine LW_seq ?_ | (refine LW_skip ?_; simp only [LSj, reduceIte, zze]) | refine LW_block ?_)); refine LW_region ?_; intro K hK; simp only [LZ, zo, zc, reduceCtorEq, reduceIte, zz1, zz2, zz3, zz4, zz5, zz6, zz7, zz8, zz9, zza, zzb, zzc, zzd, zze, zzf, hw1, hk, hk0, rep_bytes]
    refine ⟨by (repeat' apply And.intro) <;> first | omega | exact hmx, ?_⟩
    refine hK _ ?_; clear hK K; try simp only [LSj, reduceIte, zze]
    (repeat (first | refine LW_seq ?_ | (refine LW_skip ?_; simp only [LSj, reduceIte, zze]) | refine LW_block ?_)); refine LW_region ?_; intro K hK; simp only [LZ, zo, zc, reduceCtorEq, reduceIte, zz1, zz2, zz3, zz4, zz5, zz6, zz7, zz8, zz9, zza, zzb, zzc, zzd, zze, zzf, hw2]
    refine cop_intro ?ha (cc) ?_; (case ha => (simp only [LZ, zo, zc, reduceCtorEq, reduceIte, zz1, zz2, zz3, zz4, zz5, zz6, zz7, zz8, zz9, zza, zzb, zzc, zzd, zze, zzf]) <;> rfl); simp only [LZ, zo, zc, reduceCtorEq, reduceIte, zz1, zz2, zz3, zz4, zz5, zz6, zz7, zz8, zz9, zza, zzb, zzc, zzd, zze, zzf]
    refine hK _ ?_; clear hK K; try simp only [LSj, reduceIte, zze]
    (repeat (first | refine LW_seq ?_ | ((first | (refine LW_region ?_; intro K hK; simp only [LZ, zo, zc, reduceCtorEq, reduceIte, zz1, zz2, zz3, zz4, zz5, zz6, zz7, zz8, zz9, zza, zzb, zzc, zzd, zze, zzf]; refine hK _ ?_; clear hK K) | refine LW_label ?_ | refine LW_skip ?_); try simp only [LSj, reduceIte, zze]) | refine LW_block ?_))
    have hlen : ∀ i, (roomR (q.take i) a k).length = k := fun i => roomR_len fun p hp => (hce p (List.mem_of_mem_take hp)).2
    refine LW_slim (fun st => st.env 1 = intL a ∧ st.env 9 = .bsl 44 k 5 ∧ st.arr 44 = some (bL (List.replicate k 0)) ∧ st.env 10 = .sl q.length (q.flatMap pieceL) .no ∧ st.env 11 = intL (0 : Nat) ∧ st.mode = fun _ => false) ⟨(by first | exact rfl | assumption | (simp only [LZ, zo, zc, reduceCtorEq, reduceIte, zz1, zz2, zz3, zz4, zz5, zz6, zz7, zz8, zz9, zza, zzb, zzc, zzd, zze, zzf] <;> exact rfl)), (by first | exact rfl | assumption | (simp only [LZ, zo, zc, reduceCtorEq, reduceIte, zz1, zz2, zz3, zz4, zz5, zz6, zz7, zz8, zz9, zza, zzb, zzc, zzd, zze, zzf] <;> exact rfl)), (by first | exact rfl | assumption | (simp only [LZ, zo, zc, reduceCtorEq, reduceIte, zz1, zz2, zz3, zz4, zz5, zz6, zz7, zz8, zz9, zza, zzb, zzc, zzd, zze, zzf] <;> exact rfl)), (by first | exact rfl | assumption | (simp only [LZ, zo, zc, reduceCtorEq, reduceIte, zz1, zz2, zz3, zz4, zz5, zz6, zz7, zz8, zz9, zza, zzb, zzc, zzd, zze, zzf] <;> exact rfl)), (by first | exact rfl | assumption | (simp only [LZ, zo, zc, reduceCtorEq, reduceIte, zz1, zz2, zz3, zz4, zz5, zz6, zz7, zz8, zz9, zza, zzb, zzc, zzd, zze, zzf] <;> exact rfl)), (by first | exact rfl | assumption | (simp only [LZ, zo, zc, reduceCtorEq, reduceIte, zz1, zz2, zz3, zz4, zz5, zz6, zz7, zz8, zz9, zza, zzb, zzc, zzd, zze, zzf] <;> exact rfl))⟩ ?_
    rintro st ⟨e1, e9, a44, e10, e11, hmd⟩
    refine LW_joinB (fun st => st.env 9 = .bsl 44 k 5 ∧ st.arr 44 = some (bL (roomR q a k))) ?_ ?_
    · refine LW_loop (fun m st => ∃ i : Nat, m + i = q.length ∧ st.env 1 = intL a ∧ st.env 9 = .bsl 44 k 5 ∧ st.arr 44 = some (bL (roomR (q.take i) a k)) ∧ st.env 10 = .sl q.length (q.flatMap pieceL) .no ∧ st.env 11 = intL i ∧ st.mode = fun _ => false) q.length ⟨0, by omega, e1, e9, a44, e10, e11, hmd⟩ ?_
      clear e1 e9 a44 e10 e11 hmd st
      rintro m st ⟨i, hm, e1, e9, a44, e10, e11, hmd⟩
      by_cases hlt : i < q.length
      · obtain ⟨p, hp⟩ := get_of_lt hlt
        obtain ⟨hp0, hp1, hp2⟩ := hcd.2 p (List.mem_of_getElem? hp)
        have hpe := (hce p (List.mem_of_getElem? hp)).2
        have hd := drop_piece hp
        have hw := w64s (n := i) (by omega)
        have hrt := roomR_take a k hp
        have hrl := hlen i
        have hq1 : IntKind.i64.wrap (p.pos - a) = p.pos - a := w64 (by omega)
        generalize roomR (q.take i) a k = room at *
        obtain ⟨o, ho⟩ : ∃ o : Nat, p.pos - a = o := ⟨(p.pos - a).toNat, by omega⟩
        have ho2 : (p.pos - a).toNat = o := by omega
        rw [ho2] at hrt
        rw [ho] at hq1
        have hfit : o + p.dat.length ≤ room.length := by omega
        have hg1 : (i : Int) < q.length := by omega
        (repeat (first | refine LW_seq ?_ | ((first | (refine LW_region ?_; intro K hK; simp only [LZ, zo, zc, reduceCtorEq, reduceIte, zz1, zz2, zz3, zz4, zz5, zz6, zz7, zz8, zz9, zza, zzb, zzc, zzd, zze, zzf, e10, e11]; refine hK _ ?_; clear hK K) | refine LW_label ?_ | refine LW_skip ?_); try simp only [LSj, reduceIte, zze]) | refine LW_block ?_))
        refine LW_if ?_; intro X Y hX hY; simp only [LZ, zo, zc, reduceCtorEq, reduceIte, zz1, zz2, zz3, zz4, zz5, zz6, zz7, zz8, zz9, zza, zzb, zzc, zzd, zze, zzf, hlt]; refine hX ?_; clear hX hY X Y; try simp only [LSj, reduceIte, zze]
        (repeat (first | refine LW_seq ?_ | ((first | (refine LW_region ?_; intro K hK; simp only [LZ, zo, zc, reduceCtorEq, reduceIte, zz1, zz2, zz3, zz4, zz5, zz6, zz7, zz8, zz9, zza, zzb, zzc, zzd, zze, zzf]; refine hK _ ?_; clear hK K) | refine LW_label ?_ | refine LW_skip ?_); try simp only [LSj, reduceIte, zze]) | refine LW_block ?_))
        refine LW_slim (fun st => st.env 1 = intL a ∧ st.env 9 = .bsl 44 k 5 ∧ st.arr 44 = some (bL (overlay room o (p.dat.take 0))) ∧ st.env 10 = .sl q.length (q.flatMap pieceL) .no ∧ st.env 11 = intL i ∧ st.env 12 = intL (0 : Nat) ∧ st.mode = fun _ => false) ⟨(by first | exact rfl | assumption | (simp only [LZ, zo, zc, reduceCtorEq, reduceIte, zz1, zz2, zz3, zz4, zz5, zz6, zz7, zz8, zz9, zza, zzb, zzc, zzd, zze, zzf, e1] <;> exact rfl)), (by first | exact rfl | assumption | (simp only [LZ, zo, zc, reduceCtorEq, reduceIte, zz1, zz2, zz3, zz4, zz5, zz6, zz7, zz8, zz9, zza, zzb, zzc, zzd, zze, zzf, e9] <;> exact rfl)), by rw [List.take_zero, overlay_zero]; exact (by first | exact rfl | assumption | (simp only [LZ, zo, zc, reduceCtorEq, reduceIte, zz1, zz2, zz3, zz4, zz5, zz6, zz7, zz8, zz9, zza, zzb, zzc, zzd, zze, zzf, a44] <;> exact rfl)), (by first | exact rfl | assumption | (simp only [LZ, zo, zc, reduceCtorEq, reduceIte, zz1, zz2, zz3, zz4, zz5, zz6, zz7, zz8, zz9, zza, zzb, zzc, zzd, zze, zzf, e10] <;> exact rfl)), (by first | exact rfl | assumption | (simp only [LZ, zo, zc, reduceCtorEq, reduceIte, zz1, zz2, zz3, zz4, zz5, zz6, zz7, zz8, zz9, zza, zzb, zzc, zzd, zze, zzf, e11] <;> exact rfl)), (by first | exact rfl | assumption | (simp only [LZ, zo, zc, reduceCtorEq, reduceIte, zz1, zz2, zz3, zz4, zz5, zz6, zz7, zz8, zz9, zza, zzb, zzc, zzd, zze, zzf] <;> exact rfl)), (by first | exact rfl | assumption | (simp only [LZ, zo, zc, reduceCtorEq, reduceIte, zz1, zz2, zz3, zz4, zz5, zz6, zz7, zz8, zz9, zza, zzb, zzc, zzd, zze, zzf, hmd] <;> exact rfl))⟩ ?_
        clear e1 e9 a44 e10 e11 hmd st
        rintro st ⟨e1, e9, a44, e10, e11, e12, hmd⟩
        refine LW_joinBB (fun st => st.env 1 = intL a ∧ st.env 9 = .bsl 44 k 5 ∧ st.arr 44 = some (bL (overlay room o p.dat)) ∧ st.env 10 = .sl q.length (q.flatMap pieceL) .no ∧ st.env 11 = intL i ∧ st.mode = fun _ => false) ?_ ?_
        · refine LW_loop (fun m st => ∃ j : Nat, m + j = p.dat.length ∧ st.env 1 = intL a ∧ st.env 9 = .bsl 44 k 5 ∧ st.arr 44 = some (bL (overlay room o (p.dat.take j))) ∧ st.env 10 = .sl q.length (q.flatMap pieceL) .no ∧ st.env 11 = intL i ∧ st.env 12 = intL j ∧ st.mode = fun _ => false) p.dat.length ⟨0, by omega, e1, e9, a44, e10, e11, e12, hmd⟩ ?_
          clear e1 e9 a44 e10 e11 e12 hmd st
          rintro m' st ⟨j, hj, e1, e9, a44, e10, e11, e12, hmd⟩
          by_cases hjl : j < p.dat.length
          · obtain ⟨c, hc⟩ := get_of_lt hjl
            have hg2 : (j : Int) < p.dat.length := by omega
            have hwj := w64s (n := j) (by omega)
            have hwo : IntKind.i64.wrap ((o : Int) + (j : Int)) = ((o + j : Nat) : Int) := by rw [w64 (by omega)]; omega
            have hst := overlay_step hc hfit
            have hol : (overlay room o (p.dat.take j)).length = k := by rw [overlay_len, hrl]; rw [List.length_take]; omega
            have hoj : o + j < k := by omega
            have hoj2 : ((o + j : Nat) : Int) < (k : Int) := by omega
            have hj0 : (0 : Int) ≤ j := by omega
            have hoj0 : (0 : Int) ≤ ((o + j : Nat) : Int) := by omega
            (repeat (first | refine LW_seq ?_ | ((first | (refine LW_region ?_; intro K hK; simp only [LZ, zo, zc, reduceCtorEq, reduceIte, zz1, zz2, zz3, zz4, zz5, zz6, zz7, zz8, zz9, zza, zzb, zzc, zzd, zze, zzf, e10, e11, e12, hlt, hd]; refine hK _ ?_; clear hK K) | refine LW_label ?_ | refine LW_skip ?_); try simp only [LSj, reduceIte, zze]) | refine LW_block ?_))
            refine LW_if ?_; intro X Y hX hY; simp only [LZ, zo, zc, reduceCtorEq, reduceIte, zz1, zz2, zz3, zz4, zz5, zz6, zz7, zz8, zz9, zza, zzb, zzc, zzd, zze, zzf, hjl]; refine hX ?_; clear hX hY X Y; try simp only [LSj, reduceIte, zze]
            (repeat (first | refine LW_seq ?_ | (refine LW_skip ?_; simp only [LSj, reduceIte, zze]) | refine LW_block ?_)); refine LW_tail 18 (by kernel_rfl) (by kernel_rfl) (by kernel_rfl) (by first | exact rfl | (rw [hmd]; exact rfl)) ?_; intro K hK; simp only [LZ, zo, zc, reduceCtorEq, reduceIte, zz1, zz2, zz3, zz4, zz5, zz6, zz7, zz8, zz9, zza, zzb, zzc, zzd, zze, zzf, e1, e9, a44, e10, e11, e12, hlt, hd, hq1, hwo, hc, hj0, hoj, hoj0, ho, hmd]
            refine ⟨by (repeat' apply And.intro) <;> first | omega | (rw [bL_len]; omega) | rfl | kernel_rfl, ?_⟩
            refine hK _ ?_; clear hK K; try simp only [LSj, reduceIte, zze]
            (repeat (first | refine LW_seq ?_ | ((first | (refine LW_region ?_; intro K hK; simp only [LZ, zo, zc, reduceCtorEq, reduceIte, zz1, zz2, zz3, zz4, zz5, zz6, zz7, zz8, zz9, zza, zzb, zzc, zzd, zze, zzf, e12, hwj]; refine hK _ ?_; clear hK K) | refine LW_label ?_ | refine LW_skip ?_); try simp only [LSj, reduceIte, zze]) | refine LW_block ?_))
            refine ⟨m' - 1, by omega, j + 1, by omega, (by first | exact rfl | assumption | (simp only [LZ, zo, zc, reduceCtorEq, reduceIte, zz1, zz2, zz3, zz4, zz5, zz6, zz7, zz8, zz9, zza, zzb, zzc, zzd, zze, zzf, e1] <;> exact rfl)), (by first | exact rfl | assumption | (simp only [LZ, zo, zc, reduceCtorEq, reduceIte, zz1, zz2, zz3, zz4, zz5, zz6, zz7, zz8, zz9, zza, zzb, zzc, zzd, zze, zzf, e9] <;> exact rfl)), ?_, (by first | exact rfl | assumption | (simp only [LZ, zo, zc, reduceCtorEq, reduceIte, zz1, zz2, zz3, zz4, zz5, zz6, zz7, zz8, zz9, zza, zzb, zzc, zzd, zze, zzf, e10] <;> exact rfl)), (by first | exact rfl | assumption | (simp only [LZ, zo, zc, reduceCtorEq, reduceIte, zz1, zz2, zz3, zz4, zz5, zz6, zz7, zz8, zz9, zza, zzb, zzc, zzd, zze, zzf, e11] <;> exact rfl)), (by first | exact rfl | assumption | (simp only [LZ, zo, zc, reduceCtorEq, reduceIte, zz1, zz2, zz3, zz4, zz5, zz6, zz7, zz8, zz9, zza, zzb, zzc, zzd, zze, zzf] <;> exact rfl)), (by first | exact rfl | assumption | (simp only [LZ, zo, zc, reduceCtorEq, reduceIte, zz1, zz2, zz3, zz4, zz5, zz6, zz7, zz8, zz9, zza, zzb, zzc, zzd, zze, zzf, hmd] <;> exact rfl))⟩
            simp only [LZ, zo, zc, reduceCtorEq, reduceIte, zz1, zz2, zz3, zz4, zz5, zz6, zz7, zz8, zz9, zza, zzb, zzc, zzd, zze, zzf]
            rw [← hst]
            simp only [bL, List.map_append, List.map_take, List.map_drop, List.map_cons, List.map_nil]
          · have hg2 : ¬ (j : Int) < p.dat.length := by omega
            rw [List.take_of_length_le (by omega)] at a44
            (repeat (first | refine LW_seq ?_ | ((first | (refine LW_region ?_; intro K hK; simp only [LZ, zo, zc, reduceCtorEq, reduceIte, zz1, zz2, zz3, zz4, zz5, zz6, zz7, zz8, zz9, zza, zzb, zzc, zzd, zze, zzf, e10, e11, e12, hlt, hd]; refine hK _ ?_; clear hK K) | refine LW_label ?_ | refine LW_skip ?_); try simp only [LSj, reduceIte, zze]) | refine LW_block ?_))
            refine LW_if ?_; intro X Y hX hY; simp only [LZ, zo, zc, reduceCtorEq, reduceIte, zz1, zz2, zz3, zz4, zz5, zz6, zz7, zz8, zz9, zza, zzb, zzc, zzd, zze, zzf, hjl]; refine hY ?_; clear hX hY X Y; (try simp only [LSj, reduceIte, zze]); (try (refine LW_skip ?_; simp only [LSj, reduceIte, zze]))
            refine LW_exit ?_; simp only [thenL, jumpsL, inBlockL, twoL, reduceIte, Nat.reduceEqDiff]
            exact ⟨(by first | exact rfl | assumption | (simp only [LZ, zo, zc, reduceCtorEq, reduceIte, zz1, zz2, zz3, zz4, zz5, zz6, zz7, zz8, zz9, zza, zzb, zzc, zzd, zze, zzf, e1] <;> exact rfl)), (by first | exact rfl | assumption | (simp only [LZ, zo, zc, reduceCtorEq, reduceIte, zz1, zz2, zz3, zz4, zz5, zz6, zz7, zz8, zz9, zza, zzb, zzc, zzd, zze, zzf, e9] <;> exact rfl)), (by first | exact rfl | assumption | (simp only [LZ, zo, zc, reduceCtorEq, reduceIte, zz1, zz2, zz3, zz4, zz5, zz6, zz7, zz8, zz9, zza, zzb, zzc, zzd, zze, zzf, a44] <;> exact rfl)), (by first | exact rfl | assumption | (simp only [LZ, zo, zc, reduceCtorEq, reduceIte, zz1, zz2, zz3, zz4, zz5, zz6, zz7, zz8, zz9, zza, zzb, zzc, zzd, zze, zzf, e10] <;> exact rfl)), (by first | exact rfl | assumption | (simp only [LZ, zo, zc, reduceCtorEq, reduceIte, zz1, zz2, zz3, zz4, zz5, zz6, zz7, zz8, zz9, zza, zzb, zzc, zzd, zze, zzf, e11] <;> exact rfl)), (by first | exact rfl | assumption | (simp only [LZ, zo, zc, reduceCtorEq, reduceIte, zz1, zz2, zz3, zz4, zz5, zz6, zz7, zz8, zz9, zza, zzb, zzc, zzd, zze, zzf, hmd] <;> exact rfl))⟩
        · clear e1 e9 a44 e10 e11 e12 hmd st
          rintro st ⟨e1, e9, a44, e10, e11, hmd⟩
          (repeat (first | refine LW_seq ?_ | ((first | (refine LW_region ?_; intro K hK; simp only [LZ, zo, zc, reduceCtorEq, reduceIte, zz1, zz2, zz3, zz4, zz5, zz6, zz7, zz8, zz9, zza, zzb, zzc, zzd, zze, zzf, e11, hw]; refine hK _ ?_; clear hK K) | refine LW_label ?_ | refine LW_skip ?_); try simp only [LSj, reduceIte, zze]) | refine LW_block ?_))
          exact ⟨m - 1, by omega, i + 1, by omega, (by first | exact rfl | assumption | (simp only [LZ, zo, zc, reduceCtorEq, reduceIte, zz1, zz2, zz3, zz4, zz5, zz6, zz7, zz8, zz9, zza, zzb, zzc, zzd, zze, zzf, e1] <;> exact rfl)), (by first | exact rfl | assumption | (simp only [LZ, zo, zc, reduceCtorEq, reduceIte, zz1, zz2, zz3, zz4, zz5, zz6, zz7, zz8, zz9, zza, zzb, zzc, zzd, zze, zzf, e9] <;> exact rfl)), by rw [hrt]; exact (by first | exact rfl | assumption | (simp only [LZ, zo, zc, reduceCtorEq, reduceIte, zz1, zz2, zz3, zz4, zz5, zz6, zz7, zz8, zz9, zza, zzb, zzc, zzd, zze, zzf, a44] <;> exact rfl)), (by first | exact rfl | assumption | (simp only [LZ, zo, zc, reduceCtorEq, reduceIte, zz1, zz2, zz3, zz4, zz5, zz6, zz7, zz8, zz9, zza, zzb, zzc, zzd, zze, zzf, e10] <;> exact rfl)), (by first | exact rfl | assumption | (simp only [LZ, zo, zc, reduceCtorEq, reduceIte, zz1, zz2, zz3, zz4, zz5, zz6, zz7, zz8, zz9, zza, zzb, zzc, zzd, zze, zzf] <;> exact rfl)), (by first | exact rfl | assumption | (simp only [LZ, zo, zc, reduceCtorEq, reduceIte, zz1, zz2, zz3, zz4, zz5, zz6, zz7, zz8, zz9, zza, zzb, zzc, zzd, zze, zzf, hmd] <;> exact rfl))⟩
      · (repeat (first | refine LW_seq ?_ | ((first | (refine LW_region ?_; intro K hK; simp only [LZ, zo, zc, reduceCtorEq, reduceIte, zz1, zz2, zz3, zz4, zz5, zz6, zz7, zz8, zz9, zza, zzb, zzc, zzd, zze, zzf, e10, e11]; refine hK _ ?_; clear hK K) | refine LW_label ?_ | refine LW_skip ?_); try simp only [LSj, reduceIte, zze]) | refine LW_block ?_))
        refine LW_if ?_; intro X Y hX hY; simp only [LZ, zo, zc, reduceCtorEq, reduceIte, zz1, zz2, zz3, zz4, zz5, zz6, zz7, zz8, zz9, zza, zzb, zzc, zzd, zze, zzf, hlt]; refine hY ?_; clear hX hY X Y; (try simp only [LSj, reduceIte, zze]); (try (refine LW_skip ?_; simp only [LSj, reduceIte, zze]))
        refine LW_exit ?_; simp only [thenL, jumpsL, inBlockL, twoL, reduceIte, Nat.reduceEqDiff]
        rw [List.take_of_length_le (by omega)] at a44
        exact ⟨(by first | exact rfl | assumption | (simp only [LZ, zo, zc, reduceCtorEq, reduceIte, zz1, zz2, zz3, zz4, zz5, zz6, zz7, zz8, zz9, zza, zzb, zzc, zzd, zze, zzf, e9] <;> exact rfl)), (by first | exact rfl | assumption | (simp only [LZ, zo, zc, reduceCtorEq, reduceIte, zz1, zz2, zz3, zz4, zz5, zz6, zz7, zz8, zz9, zza, zzb, zzc, zzd, zze, zzf, a44] <;> exact rfl))⟩
    · clear e1 e9 a44 e10 e11 hmd st
      rintro st ⟨e9, a44⟩
      have hln := hlen q.length
      rw [List.take_length] at hln
      have hk1 : sizeL Try.prog 5 = 1 := by kernel_rfl
      (repeat (first | refine LW_seq ?_ | ((first | (refine LW_region ?_; intro K hK; simp only [LZ, zo, zc, reduceCtorEq, reduceIte, zz1, zz2, zz3, zz4, zz5, zz6, zz7, zz8, zz9, zza, zzb, zzc, zzd, zze, zzf, e9, a44, hln, hk1]; refine hK _ ?_; clear hK K) | refine LW_label ?_ | refine LW_skip ?_); try simp only [LSj, reduceIte, zze]) | refine LW_block ?_))
      refine LW_ret ?_; simp only [thenL, jumpsL, inBlockL, twoL, bodyQ, LV.lit.injEq, LV.tup.injEq, LV.agg.injEq, LV.sl.injEq, List.cons.injEq, Value.int.injEq, Value.bool.injEq, Value.string.injEq, ByteArray.mk.injEq, exists_eq_left', exists_eq_left, exists_eq_right, LZ, zo, zc, reduceCtorEq, reduceIte, zz1, zz2, zz3, zz4, zz5, zz6, zz7, zz8, zz9, zza, zzb, zzc, zzd, zze, zzf]
      rw [← hR]; exact ⟨rfl, rfl⟩
end Go.Proofs.Ytaeefaehpfjmlaa
