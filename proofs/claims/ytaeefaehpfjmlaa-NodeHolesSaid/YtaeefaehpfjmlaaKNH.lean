import Derived.Test.YtaeefaehpfjmlaaNHoles
import Derived.Test.YtaeefaehpfjmlaaKMU
set_option linter.unusedSimpArgs false
set_option linter.unusedVariables false
namespace Go.Proofs.Ytaeefaehpfjmlaa
open Nat renaming reduceAdd → zz1, reduceMul → zz2, reduceSub → zz3, reduceLT → zz4, reduceLeDiff → zz5, reduceEqDiff → zz6, reduceBEq → zzf
open Int renaming reduceAdd → zz7, reduceSub → zz8, reduceMul → zz9, reduceLT → zza, reduceLE → zzb, reduceEq → zzc, reduceNeg → zzd, reduceToNat → zze
open Op renaming operands → zo
open Call renaming operands → zc
open Go.RowKit Go.Proofs AclSpec MetaSpec NodeSpec GSort Flo Ext

set_option maxRecDepth 100000 in
set_option maxHeartbeats 4000000 in
theorem nodeHoles_L (gap long : Int) : LCalls Try.prog 6 [intL gap, intL long] (boolL true) := by
  have t0 := ntold_L
  simp only [boolL] at t0
  refine LCalls.of (fun _ => false) Try.func6 rfl (by decide) Try.ntmps6 Try.results6 (by simp) ?_
  intro w0 S0 vs hgl hwf0 hsz hvs; clear hsz hvs hwf0 hgl
  obtain ⟨g', hg', hgrem⟩ := remU gap 300 (by decide)
  rw [show ((300 : Nat) : Int) = 300 from rfl] at hgrem
  obtain ⟨k', hk', hkrem⟩ := remU long 50 (by decide)
  rw [show ((50 : Nat) : Int) = 50 from rfl] at hkrem
  obtain ⟨g, hg⟩ : ∃ g, g' + 1 = g := ⟨_, rfl⟩
  obtain ⟨k, hk⟩ : ∃ k, k' + 1 = k := ⟨_, rfl⟩
  have hgw : IntKind.i64.wrap (g' : Int) = g' := w64 (by omega)
  have hkw : IntKind.i64.wrap (k' : Int) = k' := w64 (by omega)
  have hgw1 : IntKind.i64.wrap (1 + (g' : Int)) = (g : Int) := by rw [w64 (by omega)]; omega
  have hkw1 : IntKind.i64.wrap (1 + (k' : Int)) = (k : Int) := by rw [w64 (by omega)]; omega
  have hk0 : 0 < k := by omega
  have hg0 : 0 < g := by omega
  have hk2 : k ≤ 50 := by omega
  have hg2 : g ≤ 300 := by omega
  have c1 := nwrite_L k0 (small_of rfl (by decide) (by decide)) 0 (xs k) (by rw [xs_len]; omega)
  rw [write_1 hk0 hk2] at c1
  have c2 := nwrite_L (fileP k (xs k)) (small_P (by rw [xs_len]; omega)) ((k : Int) + g) (xs k) (by rw [xs_len]; omega)
  rw [write_2 hk0 hg0 hk2 hg2] at c2
  have c3 := nread_L (fileH k g) (small_H hk2) k g
  rw [read_H hk0 hg0 hk2 hg2] at c3
  have c4 := nwrite_L (fileH k g) (small_H hk2) k (ys g) (by rw [ys_len]; omega)
  rw [write_3 hk0 hg0 hk2 hg2] at c4
  have c5 := nbytes_L (fileH k g) (small_H hk2)
  rw [show bytesN (fileH k g) = 2 * k from two_bytes k g] at c5
  have hx0 : xs k ≠ [] := ne_of_len (xs_len k) hk0
  have hd1 : nodeL (fileP k (xs k)) = [intL 2, intL 0, intL 0, intL 0, intL 0, .sl 0 [] .no, .sl 0 [] .no, intL k, .sl 1 [intL 0, strL (xs k)] .no, strL [], intL 0, intL 0] := by
    rw [nodeL_P]; unfold pcs; rw [if_neg hx0]; rfl
  have hd2 : nodeL (fileH k g) = [intL 2, intL 0, intL 0, intL 0, intL 0, .sl 0 [] .no, .sl 0 [] .no, intL (2 * (k : Int) + g), .sl 2 [intL 0, strL (xs k), intL ((k : Int) + g), strL (xs k)] .no, strL [], intL 0, intL 0] := rfl
  have hd3 : nodeL (fileF k g) = [intL 2, intL 0, intL 0, intL 0, intL 0, .sl 0 [] .no, .sl 0 [] .no, intL (2 * (k : Int) + g), .sl 1 [intL 0, strL (xs k ++ ys g ++ xs k)] .no, strL [], intL 0, intL 0] := rfl
  rw [hd1] at c1 c2
  rw [hd2] at c2 c3 c4 c5
  rw [hd3] at c4
  simp only [k0, zm, nodeL, attrsL, acesL, piecesL, rowL, List.flatMap_nil, List.length_nil] at c1
  have hmx : g ≤ maxLen := by unfold maxLen; omega
  have hby : g * 1 ≤ 281474976710656 := by omega
  have hg1 : (g = 0) = False := eq_false (by omega)
  have hw2 : IntKind.i64.wrap ((k : Int) + g) = (k : Int) + g := w64 (by omega)
  have hw3 : IntKind.i64.wrap (2 * (k : Int)) = 2 * (k : Int) := w64 (by omega)
  have hw4 : IntKind.i64.wrap (2 * (k : Int) + g) = 2 * (k : Int) + g := w64 (by omega)
  have hw5 : ((2 * k : Nat) : Int) = 2 * (k : Int) := by omega
  rw [hw5] at c5
  (repeat (first | refine LW_seq ?_ | ((first | (refine LW_region ?_; intro K hK; simp only [LZ, zo, zc, reduceCtorEq, reduceIte, zz1, zz2, zz3, zz4, zz5, zz6, zz7, zz8, zz9, zza, zzb, zzc, zzd, zze, zzf, hgrem, hkrem, hgw, hkw, hgw1, hkw1]; refine hK _ ?_; clear hK K) | refine LW_label ?_ | refine LW_skip ?_); try simp only [LSj, reduceIte, zze]) | refine LW_block ?_))
  refine LW_slim (fun st => st.env 5 = intL g ∧ st.env 6 = intL k ∧ st.env 7 = strL (xs 0) ∧ st.env 8 = intL (0 : Nat) ∧ st.mode = (fun _ => false)) ⟨(by first | exact rfl | assumption | (simp only [LZ, zo, zc, reduceCtorEq, reduceIte, zz1, zz2, zz3, zz4, zz5, zz6, zz7, zz8, zz9, zza, zzb, zzc, zzd, zze, zzf] <;> exact rfl)), (by first | exact rfl | assumption | (simp only [LZ, zo, zc, reduceCtorEq, reduceIte, zz1, zz2, zz3, zz4, zz5, zz6, zz7, zz8, zz9, zza, zzb, zzc, zzd, zze, zzf] <;> exact rfl)), (by first | exact rfl | assumption | (simp only [LZ, zo, zc, reduceCtorEq, reduceIte, zz1, zz2, zz3, zz4, zz5, zz6, zz7, zz8, zz9, zza, zzb, zzc, zzd, zze, zzf] <;> exact rfl)), (by first | exact rfl | assumption | (simp only [LZ, zo, zc, reduceCtorEq, reduceIte, zz1, zz2, zz3, zz4, zz5, zz6, zz7, zz8, zz9, zza, zzb, zzc, zzd, zze, zzf] <;> exact rfl)), (by first | exact rfl | assumption | (simp only [LZ, zo, zc, reduceCtorEq, reduceIte, zz1, zz2, zz3, zz4, zz5, zz6, zz7, zz8, zz9, zza, zzb, zzc, zzd, zze, zzf] <;> exact rfl))⟩ ?_
  rintro st ⟨e5, e6, e7, e8, hmd⟩
  refine LW_joinB (fun st => st.env 5 = intL g ∧ st.env 6 = intL k ∧ st.env 7 = strL (xs k) ∧ st.mode = (fun _ => false)) ?_ ?_
  · refine LW_loop (fun m st => ∃ i : Nat, m + i = k ∧ st.env 5 = intL g ∧ st.env 6 = intL k ∧ st.env 7 = strL (xs i) ∧ st.env 8 = intL i ∧ st.mode = (fun _ => false)) k ⟨0, by omega, e5, e6, e7, e8, hmd⟩ ?_
    clear e5 e6 e7 e8 hmd st
    rintro m st ⟨i, hm, e5, e6, e7, e8, hmd⟩
    by_cases hlt : i < k
    · have g1 : (i : Int) < k := by omega
      have hw := w64s (n := i) (by omega)
      have hlx : (xs i).length + 1 ≤ 9223372036854775807 := by rw [xs_len]; omega
      (repeat (first | refine LW_seq ?_ | ((first | (refine LW_region ?_; intro K hK; simp only [LZ, zo, zc, reduceCtorEq, reduceIte, zz1, zz2, zz3, zz4, zz5, zz6, zz7, zz8, zz9, zza, zzb, zzc, zzd, zze, zzf, e6, e8, g1]; refine hK _ ?_; clear hK K) | refine LW_label ?_ | refine LW_skip ?_); try simp only [LSj, reduceIte, zze]) | refine LW_block ?_))
      refine LW_if ?_; intro X Y hX hY; simp only [LZ, zo, zc, reduceCtorEq, reduceIte, zz1, zz2, zz3, zz4, zz5, zz6, zz7, zz8, zz9, zza, zzb, zzc, zzd, zze, zzf, g1]; refine hX ?_; clear hX hY X Y; try simp only [LSj, reduceIte, zze]
      (repeat (first | refine LW_seq ?_ | ((first | (refine LW_region ?_; intro K hK; simp only [LZ, zo, zc, reduceCtorEq, reduceIte, zz1, zz2, zz3, zz4, zz5, zz6, zz7, zz8, zz9, zza, zzb, zzc, zzd, zze, zzf, e7, e8, hw, hlx]; refine hK _ ?_; clear hK K) | refine LW_label ?_ | refine LW_skip ?_); try simp only [LSj, reduceIte, zze]) | refine LW_block ?_))
      refine ⟨m - 1, by omega, i + 1, by omega, (by first | exact rfl | assumption | (simp only [LZ, zo, zc, reduceCtorEq, reduceIte, zz1, zz2, zz3, zz4, zz5, zz6, zz7, zz8, zz9, zza, zzb, zzc, zzd, zze, zzf, e5] <;> exact rfl)), (by first | exact rfl | assumption | (simp only [LZ, zo, zc, reduceCtorEq, reduceIte, zz1, zz2, zz3, zz4, zz5, zz6, zz7, zz8, zz9, zza, zzb, zzc, zzd, zze, zzf, e6] <;> exact rfl)), ?_, (by first | exact rfl | assumption | (simp only [LZ, zo, zc, reduceCtorEq, reduceIte, zz1, zz2, zz3, zz4, zz5, zz6, zz7, zz8, zz9, zza, zzb, zzc, zzd, zze, zzf] <;> exact rfl)), (by first | exact rfl | assumption | (simp only [LZ, zo, zc, reduceCtorEq, reduceIte, zz1, zz2, zz3, zz4, zz5, zz6, zz7, zz8, zz9, zza, zzb, zzc, zzd, zze, zzf, hmd] <;> exact rfl))⟩
      simp only [LZ, zo, zc, reduceCtorEq, reduceIte, zz1, zz2, zz3, zz4, zz5, zz6, zz7, zz8, zz9, zza, zzb, zzc, zzd, zze, zzf, xs_step]
    · obtain rfl : i = k := by omega
      have g1 : ¬ (i : Int) < i := by omega
      (repeat (first | refine LW_seq ?_ | ((first | (refine LW_region ?_; intro K hK; simp only [LZ, zo, zc, reduceCtorEq, reduceIte, zz1, zz2, zz3, zz4, zz5, zz6, zz7, zz8, zz9, zza, zzb, zzc, zzd, zze, zzf, e6, e8, g1]; refine hK _ ?_; clear hK K) | refine LW_label ?_ | refine LW_skip ?_); try simp only [LSj, reduceIte, zze]) | refine LW_block ?_))
      refine LW_if ?_; intro X Y hX hY; simp only [LZ, zo, zc, reduceCtorEq, reduceIte, zz1, zz2, zz3, zz4, zz5, zz6, zz7, zz8, zz9, zza, zzb, zzc, zzd, zze, zzf, g1]; refine hY ?_; clear hX hY X Y; (try simp only [LSj, reduceIte, zze]); (try (refine LW_skip ?_; simp only [LSj, reduceIte, zze]))
      refine LW_exit ?_; simp only [thenL, jumpsL, inBlockL, twoL, reduceIte, Nat.reduceEqDiff]
      exact ⟨(by first | exact rfl | assumption | (simp only [LZ, zo, zc, reduceCtorEq, reduceIte, zz1, zz2, zz3, zz4, zz5, zz6, zz7, zz8, zz9, zza, zzb, zzc, zzd, zze, zzf, e5] <;> exact rfl)), (by first | exact rfl | assumption | (simp only [LZ, zo, zc, reduceCtorEq, reduceIte, zz1, zz2, zz3, zz4, zz5, zz6, zz7, zz8, zz9, zza, zzb, zzc, zzd, zze, zzf, e6] <;> exact rfl)), (by first | exact rfl | assumption | (simp only [LZ, zo, zc, reduceCtorEq, reduceIte, zz1, zz2, zz3, zz4, zz5, zz6, zz7, zz8, zz9, zza, zzb, zzc, zzd, zze, zzf, e7] <;> exact rfl)), (by first | exact rfl | assumption | (simp only [LZ, zo, zc, reduceCtorEq, reduceIte, zz1, zz2, zz3, zz4, zz5, zz6, zz7, zz8, zz9, zza, zzb, zzc, zzd, zze, zzf, hmd] <;> exact rfl))⟩
  clear e5 e6 e7 e8 hmd st
  rintro st ⟨e5, e6, e7, hmd⟩
  (repeat (first | refine LW_seq ?_ | (refine LW_skip ?_; simp only [LSj, reduceIte, zze]) | refine LW_block ?_)); refine LW_region ?_; intro K hK; simp only [LZ, zo, zc, reduceCtorEq, reduceIte, zz1, zz2, zz3, zz4, zz5, zz6, zz7, zz8, zz9, zza, zzb, zzc, zzd, zze, zzf, e7]
  refine cop_intro ?ha (c1) ?_; (case ha => (simp only [LZ, zo, zc, reduceCtorEq, reduceIte, zz1, zz2, zz3, zz4, zz5, zz6, zz7, zz8, zz9, zza, zzb, zzc, zzd, zze, zzf, e7]) <;> rfl); simp only [LZ, zo, zc, reduceCtorEq, reduceIte, zz1, zz2, zz3, zz4, zz5, zz6, zz7, zz8, zz9, zza, zzb, zzc, zzd, zze, zzf, e7]
  refine hK _ ?_; clear hK K; try simp only [LSj, reduceIte, zze]
  (repeat (first | refine LW_seq ?_ | (refine LW_skip ?_; simp only [LSj, reduceIte, zze]) | refine LW_block ?_)); refine LW_region ?_; intro K hK; simp only [LZ, zo, zc, reduceCtorEq, reduceIte, zz1, zz2, zz3, zz4, zz5, zz6, zz7, zz8, zz9, zza, zzb, zzc, zzd, zze, zzf, e5, e6, e7, hw2]
  refine cop_intro ?ha (c2) ?_; (case ha => (simp only [LZ, zo, zc, reduceCtorEq, reduceIte, zz1, zz2, zz3, zz4, zz5, zz6, zz7, zz8, zz9, zza, zzb, zzc, zzd, zze, zzf, e5, e6, e7, hw2]) <;> rfl); simp only [LZ, zo, zc, reduceCtorEq, reduceIte, zz1, zz2, zz3, zz4, zz5, zz6, zz7, zz8, zz9, zza, zzb, zzc, zzd, zze, zzf, e5, e6, e7, hw2]
  refine hK _ ?_; clear hK K; try simp only [LSj, reduceIte, zze]
  (repeat (first | refine LW_seq ?_ | (refine LW_skip ?_; simp only [LSj, reduceIte, zze]) | refine LW_block ?_)); refine LW_region ?_; intro K hK; simp only [LZ, zo, zc, reduceCtorEq, reduceIte, zz1, zz2, zz3, zz4, zz5, zz6, zz7, zz8, zz9, zza, zzb, zzc, zzd, zze, zzf, e5, e6]
  refine cop_intro ?ha (c3) ?_; (case ha => (simp only [LZ, zo, zc, reduceCtorEq, reduceIte, zz1, zz2, zz3, zz4, zz5, zz6, zz7, zz8, zz9, zza, zzb, zzc, zzd, zze, zzf, e5, e6]) <;> rfl); simp only [LZ, zo, zc, reduceCtorEq, reduceIte, zz1, zz2, zz3, zz4, zz5, zz6, zz7, zz8, zz9, zza, zzb, zzc, zzd, zze, zzf, e5, e6]
  refine hK _ ?_; clear hK K; try simp only [LSj, reduceIte, zze]
  (repeat (first | refine LW_seq ?_ | (refine LW_skip ?_; simp only [LSj, reduceIte, zze]) | refine LW_block ?_)); refine LW_region ?_; intro K hK; simp only [LZ, zo, zc, reduceCtorEq, reduceIte, zz1, zz2, zz3, zz4, zz5, zz6, zz7, zz8, zz9, zza, zzb, zzc, zzd, zze, zzf, e5, hg1, rep_bytes]
  refine ⟨by (repeat' apply And.intro) <;> first | omega | exact hmx, ?_⟩
  have hk1 : sizeL Try.prog 5 = 1 := by kernel_rfl
  simp only [LZ, zo, zc, reduceCtorEq, reduceIte, zz1, zz2, zz3, zz4, zz5, zz6, zz7, zz8, zz9, zza, zzb, zzc, zzd, zze, zzf, List.length_replicate, hk1]
  refine hK _ ?_; clear hK K; try simp only [LSj, reduceIte, zze]
  (repeat (first | refine LW_seq ?_ | ((first | (refine LW_region ?_; intro K hK; simp only [LZ, zo, zc, reduceCtorEq, reduceIte, zz1, zz2, zz3, zz4, zz5, zz6, zz7, zz8, zz9, zza, zzb, zzc, zzd, zze, zzf]; refine hK _ ?_; clear hK K) | refine LW_label ?_ | refine LW_skip ?_); try simp only [LSj, reduceIte, zze]) | refine LW_block ?_))
  refine LW_slim (fun st => st.env 5 = intL g ∧ st.env 6 = intL k ∧ st.env 7 = strL (xs k) ∧ st.env 10 = intL 0 ∧ st.env 12 = intL 0 ∧ st.env 14 = intL 0 ∧ st.env 13 = strL (List.replicate g 0) ∧ st.env 15 = strL (List.replicate g 0) ∧ st.env 11 = .ptr 11 0 ∧ st.box 11 = some (nodeL (fileH k g)) ∧ st.env 16 = strL (ys 0) ∧ st.env 17 = intL (0 : Nat) ∧ st.mode = (fun _ => false)) ⟨(by first | exact rfl | assumption | (simp only [LZ, zo, zc, reduceCtorEq, reduceIte, zz1, zz2, zz3, zz4, zz5, zz6, zz7, zz8, zz9, zza, zzb, zzc, zzd, zze, zzf, e5] <;> exact rfl)), (by first | exact rfl | assumption | (simp only [LZ, zo, zc, reduceCtorEq, reduceIte, zz1, zz2, zz3, zz4, zz5, zz6, zz7, zz8, zz9, zza, zzb, zzc, zzd, zze, zzf, e6] <;> exact rfl)), (by first | exact rfl | assumption | (simp only [LZ, zo, zc, reduceCtorEq, reduceIte, zz1, zz2, zz3, zz4, zz5, zz6, zz7, zz8, zz9, zza, zzb, zzc, zzd, zze, zzf, e7] <;> exact rfl)), (by first | exact rfl | assumption | (simp only [LZ, zo, zc, reduceCtorEq, reduceIte, zz1, zz2, zz3, zz4, zz5, zz6, zz7, zz8, zz9, zza, zzb, zzc, zzd, zze, zzf] <;> exact rfl)), (by first | exact rfl | assumption | (simp only [LZ, zo, zc, reduceCtorEq, reduceIte, zz1, zz2, zz3, zz4, zz5, zz6, zz7, zz8, zz9, zza, zzb, zzc, zzd, zze, zzf] <;> exact rfl)), (by first | exact rfl | assumption | (simp only [LZ, zo, zc, reduceCtorEq, reduceIte, zz1, zz2, zz3, zz4, zz5, zz6, zz7, zz8, zz9, zza, zzb, zzc, zzd, zze, zzf] <;> exact rfl)), (by first | exact rfl | assumption | (simp only [LZ, zo, zc, reduceCtorEq, reduceIte, zz1, zz2, zz3, zz4, zz5, zz6, zz7, zz8, zz9, zza, zzb, zzc, zzd, zze, zzf] <;> exact rfl)), (by first | exact rfl | assumption | (simp only [LZ, zo, zc, reduceCtorEq, reduceIte, zz1, zz2, zz3, zz4, zz5, zz6, zz7, zz8, zz9, zza, zzb, zzc, zzd, zze, zzf] <;> exact rfl)), (by first | exact rfl | assumption | (simp only [LZ, zo, zc, reduceCtorEq, reduceIte, zz1, zz2, zz3, zz4, zz5, zz6, zz7, zz8, zz9, zza, zzb, zzc, zzd, zze, zzf] <;> exact rfl)), (by first | exact rfl | assumption | (simp only [LZ, zo, zc, reduceCtorEq, reduceIte, zz1, zz2, zz3, zz4, zz5, zz6, zz7, zz8, zz9, zza, zzb, zzc, zzd, zze, zzf, hd2] <;> exact rfl)), (by first | exact rfl | assumption | (simp only [LZ, zo, zc, reduceCtorEq, reduceIte, zz1, zz2, zz3, zz4, zz5, zz6, zz7, zz8, zz9, zza, zzb, zzc, zzd, zze, zzf] <;> exact rfl)), (by first | exact rfl | assumption | (simp only [LZ, zo, zc, reduceCtorEq, reduceIte, zz1, zz2, zz3, zz4, zz5, zz6, zz7, zz8, zz9, zza, zzb, zzc, zzd, zze, zzf] <;> exact rfl)), (by first | exact rfl | assumption | (simp only [LZ, zo, zc, reduceCtorEq, reduceIte, zz1, zz2, zz3, zz4, zz5, zz6, zz7, zz8, zz9, zza, zzb, zzc, zzd, zze, zzf, hmd] <;> exact rfl))⟩ ?_
  clear e5 e6 e7 hmd st
  rintro st ⟨e5, e6, e7, e10, e12, e14, e13, e15, e11, b11, e16, e17, hmd⟩
  refine LW_joinB (fun st => st.env 5 = intL g ∧ st.env 6 = intL k ∧ st.env 7 = strL (xs k) ∧ st.env 10 = intL 0 ∧ st.env 12 = intL 0 ∧ st.env 14 = intL 0 ∧ st.env 13 = strL (List.replicate g 0) ∧ st.env 15 = strL (List.replicate g 0) ∧ st.env 11 = .ptr 11 0 ∧ st.box 11 = some (nodeL (fileH k g)) ∧ st.env 16 = strL (ys g) ∧ st.mode = (fun _ => false)) ?_ ?_
  · refine LW_loop (fun m st => ∃ i : Nat, m + i = g ∧ st.env 5 = intL g ∧ st.env 6 = intL k ∧ st.env 7 = strL (xs k) ∧ st.env 10 = intL 0 ∧ st.env 12 = intL 0 ∧ st.env 14 = intL 0 ∧ st.env 13 = strL (List.replicate g 0) ∧ st.env 15 = strL (List.replicate g 0) ∧ st.env 11 = .ptr 11 0 ∧ st.box 11 = some (nodeL (fileH k g)) ∧ st.env 16 = strL (ys i) ∧ st.env 17 = intL i ∧ st.mode = (fun _ => false)) g ⟨0, by omega, e5, e6, e7, e10, e12, e14, e13, e15, e11, b11, e16, e17, hmd⟩ ?_
    clear e5 e6 e7 e10 e12 e14 e13 e15 e11 b11 e16 e17 hmd st
    rintro m st ⟨i, hm, e5, e6, e7, e10, e12, e14, e13, e15, e11, b11, e16, e17, hmd⟩
    by_cases hlt : i < g
    · have g1 : (i : Int) < g := by omega
      have hw := w64s (n := i) (by omega)
      have hlx : (ys i).length + 1 ≤ 9223372036854775807 := by rw [ys_len]; omega
      (repeat (first | refine LW_seq ?_ | ((first | (refine LW_region ?_; intro K hK; simp only [LZ, zo, zc, reduceCtorEq, reduceIte, zz1, zz2, zz3, zz4, zz5, zz6, zz7, zz8, zz9, zza, zzb, zzc, zzd, zze, zzf, e5, e17, g1]; refine hK _ ?_; clear hK K) | refine LW_label ?_ | refine LW_skip ?_); try simp only [LSj, reduceIte, zze]) | refine LW_block ?_))
      refine LW_if ?_; intro X Y hX hY; simp only [LZ, zo, zc, reduceCtorEq, reduceIte, zz1, zz2, zz3, zz4, zz5, zz6, zz7, zz8, zz9, zza, zzb, zzc, zzd, zze, zzf, g1]; refine hX ?_; clear hX hY X Y; try simp only [LSj, reduceIte, zze]
      (repeat (first | refine LW_seq ?_ | ((first | (refine LW_region ?_; intro K hK; simp only [LZ, zo, zc, reduceCtorEq, reduceIte, zz1, zz2, zz3, zz4, zz5, zz6, zz7, zz8, zz9, zza, zzb, zzc, zzd, zze, zzf, e16, e17, hw, hlx]; refine hK _ ?_; clear hK K) | refine LW_label ?_ | refine LW_skip ?_); try simp only [LSj, reduceIte, zze]) | refine LW_block ?_))
      refine ⟨m - 1, by omega, i + 1, by omega, (by first | exact rfl | assumption | (simp only [LZ, zo, zc, reduceCtorEq, reduceIte, zz1, zz2, zz3, zz4, zz5, zz6, zz7, zz8, zz9, zza, zzb, zzc, zzd, zze, zzf, e5] <;> exact rfl)), (by first | exact rfl | assumption | (simp only [LZ, zo, zc, reduceCtorEq, reduceIte, zz1, zz2, zz3, zz4, zz5, zz6, zz7, zz8, zz9, zza, zzb, zzc, zzd, zze, zzf, e6] <;> exact rfl)), (by first | exact rfl | assumption | (simp only [LZ, zo, zc, reduceCtorEq, reduceIte, zz1, zz2, zz3, zz4, zz5, zz6, zz7, zz8, zz9, zza, zzb, zzc, zzd, zze, zzf, e7] <;> exact rfl)), (by first | exact rfl | assumption | (simp only [LZ, zo, zc, reduceCtorEq, reduceIte, zz1, zz2, zz3, zz4, zz5, zz6, zz7, zz8, zz9, zza, zzb, zzc, zzd, zze, zzf, e10] <;> exact rfl)), (by first | exact rfl | assumption | (simp only [LZ, zo, zc, reduceCtorEq, reduceIte, zz1, zz2, zz3, zz4, zz5, zz6, zz7, zz8, zz9, zza, zzb, zzc, zzd, zze, zzf, e12] <;> exact rfl)), (by first | exact rfl | assumption | (simp only [LZ, zo, zc, reduceCtorEq, reduceIte, zz1, zz2, zz3, zz4, zz5, zz6, zz7, zz8, zz9, zza, zzb, zzc, zzd, zze, zzf, e14] <;> exact rfl)), (by first | exact rfl | assumption | (simp only [LZ, zo, zc, reduceCtorEq, reduceIte, zz1, zz2, zz3, zz4, zz5, zz6, zz7, zz8, zz9, zza, zzb, zzc, zzd, zze, zzf, e13] <;> exact rfl)), (by first | exact rfl | assumption | (simp only [LZ, zo, zc, reduceCtorEq, reduceIte, zz1, zz2, zz3, zz4, zz5, zz6, zz7, zz8, zz9, zza, zzb, zzc, zzd, zze, zzf, e15] <;> exact rfl)), (by first | exact rfl | assumption | (simp only [LZ, zo, zc, reduceCtorEq, reduceIte, zz1, zz2, zz3, zz4, zz5, zz6, zz7, zz8, zz9, zza, zzb, zzc, zzd, zze, zzf, e11] <;> exact rfl)), (by first | exact rfl | assumption | (simp only [LZ, zo, zc, reduceCtorEq, reduceIte, zz1, zz2, zz3, zz4, zz5, zz6, zz7, zz8, zz9, zza, zzb, zzc, zzd, zze, zzf, b11] <;> exact rfl)), ?_, (by first | exact rfl | assumption | (simp only [LZ, zo, zc, reduceCtorEq, reduceIte, zz1, zz2, zz3, zz4, zz5, zz6, zz7, zz8, zz9, zza, zzb, zzc, zzd, zze, zzf] <;> exact rfl)), (by first | exact rfl | assumption | (simp only [LZ, zo, zc, reduceCtorEq, reduceIte, zz1, zz2, zz3, zz4, zz5, zz6, zz7, zz8, zz9, zza, zzb, zzc, zzd, zze, zzf, hmd] <;> exact rfl))⟩
      simp only [LZ, zo, zc, reduceCtorEq, reduceIte, zz1, zz2, zz3, zz4, zz5, zz6, zz7, zz8, zz9, zza, zzb, zzc, zzd, zze, zzf, ys_step]
    · obtain rfl : i = g := by omega
      have g1 : ¬ (i : Int) < i := by omega
      (repeat (first | refine LW_seq ?_ | ((first | (refine LW_region ?_; intro K hK; simp only [LZ, zo, zc, reduceCtorEq, reduceIte, zz1, zz2, zz3, zz4, zz5, zz6, zz7, zz8, zz9, zza, zzb, zzc, zzd, zze, zzf, e5, e17, g1]; refine hK _ ?_; clear hK K) | refine LW_label ?_ | refine LW_skip ?_); try simp only [LSj, reduceIte, zze]) | refine LW_block ?_))
      refine LW_if ?_; intro X Y hX hY; simp only [LZ, zo, zc, reduceCtorEq, reduceIte, zz1, zz2, zz3, zz4, zz5, zz6, zz7, zz8, zz9, zza, zzb, zzc, zzd, zze, zzf, g1]; refine hY ?_; clear hX hY X Y; (try simp only [LSj, reduceIte, zze]); (try (refine LW_skip ?_; simp only [LSj, reduceIte, zze]))
      refine LW_exit ?_; simp only [thenL, jumpsL, inBlockL, twoL, reduceIte, Nat.reduceEqDiff]
      exact ⟨(by first | exact rfl | assumption | (simp only [LZ, zo, zc, reduceCtorEq, reduceIte, zz1, zz2, zz3, zz4, zz5, zz6, zz7, zz8, zz9, zza, zzb, zzc, zzd, zze, zzf, e5] <;> exact rfl)), (by first | exact rfl | assumption | (simp only [LZ, zo, zc, reduceCtorEq, reduceIte, zz1, zz2, zz3, zz4, zz5, zz6, zz7, zz8, zz9, zza, zzb, zzc, zzd, zze, zzf, e6] <;> exact rfl)), (by first | exact rfl | assumption | (simp only [LZ, zo, zc, reduceCtorEq, reduceIte, zz1, zz2, zz3, zz4, zz5, zz6, zz7, zz8, zz9, zza, zzb, zzc, zzd, zze, zzf, e7] <;> exact rfl)), (by first | exact rfl | assumption | (simp only [LZ, zo, zc, reduceCtorEq, reduceIte, zz1, zz2, zz3, zz4, zz5, zz6, zz7, zz8, zz9, zza, zzb, zzc, zzd, zze, zzf, e10] <;> exact rfl)), (by first | exact rfl | assumption | (simp only [LZ, zo, zc, reduceCtorEq, reduceIte, zz1, zz2, zz3, zz4, zz5, zz6, zz7, zz8, zz9, zza, zzb, zzc, zzd, zze, zzf, e12] <;> exact rfl)), (by first | exact rfl | assumption | (simp only [LZ, zo, zc, reduceCtorEq, reduceIte, zz1, zz2, zz3, zz4, zz5, zz6, zz7, zz8, zz9, zza, zzb, zzc, zzd, zze, zzf, e14] <;> exact rfl)), (by first | exact rfl | assumption | (simp only [LZ, zo, zc, reduceCtorEq, reduceIte, zz1, zz2, zz3, zz4, zz5, zz6, zz7, zz8, zz9, zza, zzb, zzc, zzd, zze, zzf, e13] <;> exact rfl)), (by first | exact rfl | assumption | (simp only [LZ, zo, zc, reduceCtorEq, reduceIte, zz1, zz2, zz3, zz4, zz5, zz6, zz7, zz8, zz9, zza, zzb, zzc, zzd, zze, zzf, e15] <;> exact rfl)), (by first | exact rfl | assumption | (simp only [LZ, zo, zc, reduceCtorEq, reduceIte, zz1, zz2, zz3, zz4, zz5, zz6, zz7, zz8, zz9, zza, zzb, zzc, zzd, zze, zzf, e11] <;> exact rfl)), (by first | exact rfl | assumption | (simp only [LZ, zo, zc, reduceCtorEq, reduceIte, zz1, zz2, zz3, zz4, zz5, zz6, zz7, zz8, zz9, zza, zzb, zzc, zzd, zze, zzf, b11] <;> exact rfl)), (by first | exact rfl | assumption | (simp only [LZ, zo, zc, reduceCtorEq, reduceIte, zz1, zz2, zz3, zz4, zz5, zz6, zz7, zz8, zz9, zza, zzb, zzc, zzd, zze, zzf, e16] <;> exact rfl)), (by first | exact rfl | assumption | (simp only [LZ, zo, zc, reduceCtorEq, reduceIte, zz1, zz2, zz3, zz4, zz5, zz6, zz7, zz8, zz9, zza, zzb, zzc, zzd, zze, zzf, hmd] <;> exact rfl))⟩
  clear e5 e6 e7 e10 e12 e14 e13 e15 e11 b11 e16 e17 hmd st
  rintro st ⟨e5, e6, e7, e10, e12, e14, e13, e15, e11, b11, e16, hmd⟩
  rw [hd2] at b11
  (repeat (first | refine LW_seq ?_ | (refine LW_skip ?_; simp only [LSj, reduceIte, zze]) | refine LW_block ?_)); refine LW_region ?_; intro K hK; simp only [LZ, zo, zc, reduceCtorEq, reduceIte, zz1, zz2, zz3, zz4, zz5, zz6, zz7, zz8, zz9, zza, zzb, zzc, zzd, zze, zzf, e6, e11, b11, e16]
  refine cop_intro ?ha (c4) ?_; (case ha => (simp only [LZ, zo, zc, reduceCtorEq, reduceIte, zz1, zz2, zz3, zz4, zz5, zz6, zz7, zz8, zz9, zza, zzb, zzc, zzd, zze, zzf, e6, e11, b11, e16]) <;> rfl); simp only [LZ, zo, zc, reduceCtorEq, reduceIte, zz1, zz2, zz3, zz4, zz5, zz6, zz7, zz8, zz9, zza, zzb, zzc, zzd, zze, zzf, e6, e11, b11, e16]
  refine hK _ ?_; clear hK K; try simp only [LSj, reduceIte, zze]
  (repeat refine LW_seq ?_)
  refine LW_regionA (l := ?l) ?hl ?_
  case hl => (first | simp only [Array.append_eq_append, List.append_toArray, List.append_eq, List.cons_append, List.nil_append] | skip); exact rfl
  have h00 : IntKind.i64.wrap 0 = 0 := rfl
  have hl1 : (xs k).length + (ys g).length ≤ 9223372036854775807 := by rw [xs_len, ys_len]; omega
  have hl2 : (xs k).length + (ys g).length + (xs k).length ≤ 9223372036854775807 := by rw [xs_len, ys_len]; omega
  (repeat (first | refine LW_seq ?_ | (refine LW_skip ?_; simp only [LSj, reduceIte, zze]) | refine LW_block ?_)); refine LW_region ?_; intro K hK; simp only [LZ, zo, zc, reduceCtorEq, reduceIte, zz1, zz2, zz3, zz4, zz5, zz6, zz7, zz8, zz9, zza, zzb, zzc, zzd, zze, zzf, e5, e6, e7, e10, e12, e14, e13, e15, e11, b11, e16, h00, hw3, hw4, hl1, hl2]
  refine cop_intro ?ha (t0) ?_; (case ha => (simp only [LZ, zo, zc, reduceCtorEq, reduceIte, zz1, zz2, zz3, zz4, zz5, zz6, zz7, zz8, zz9, zza, zzb, zzc, zzd, zze, zzf, e5, e6, e7, e10, e12, e14, e13, e15, e11, b11, e16, h00, hw3, hw4, hl1, hl2]) <;> rfl); simp only [LZ, zo, zc, reduceCtorEq, reduceIte, zz1, zz2, zz3, zz4, zz5, zz6, zz7, zz8, zz9, zza, zzb, zzc, zzd, zze, zzf, e5, e6, e7, e10, e12, e14, e13, e15, e11, b11, e16, h00, hw3, hw4, hl1, hl2]
  refine cop_intro ?ha (c5) ?_; (case ha => (simp only [LZ, zo, zc, reduceCtorEq, reduceIte, zz1, zz2, zz3, zz4, zz5, zz6, zz7, zz8, zz9, zza, zzb, zzc, zzd, zze, zzf, e5, e6, e7, e10, e12, e14, e13, e15, e11, b11, e16, h00, hw3, hw4, hl1, hl2]) <;> rfl); simp only [LZ, zo, zc, reduceCtorEq, reduceIte, zz1, zz2, zz3, zz4, zz5, zz6, zz7, zz8, zz9, zza, zzb, zzc, zzd, zze, zzf, e5, e6, e7, e10, e12, e14, e13, e15, e11, b11, e16, h00, hw3, hw4, hl1, hl2]
  refine hK _ ?_; clear hK K; try simp only [LSj, reduceIte, zze]
  refine LW_ret ?_; simp only [thenL, jumpsL, inBlockL, twoL, bodyQ, LV.lit.injEq, LV.tup.injEq, LV.agg.injEq, LV.sl.injEq, List.cons.injEq, Value.int.injEq, Value.bool.injEq, Value.string.injEq, ByteArray.mk.injEq, exists_eq_left', exists_eq_left, exists_eq_right, LZ, zo, zc, reduceCtorEq, reduceIte, zz1, zz2, zz3, zz4, zz5, zz6, zz7, zz8, zz9, zza, zzb, zzc, zzd, zze, zzf]
end Go.Proofs.Ytaeefaehpfjmlaa
