import Derived.Test.YtaeefaehpfjmlaaKN8
set_option linter.unusedSimpArgs false
set_option linter.unusedVariables false
namespace Go.Proofs.Ytaeefaehpfjmlaa
open Nat renaming reduceAdd → zz1, reduceMul → zz2, reduceSub → zz3, reduceLT → zz4, reduceLeDiff → zz5, reduceEqDiff → zz6, reduceBEq → zzf
open Int renaming reduceAdd → zz7, reduceSub → zz8, reduceMul → zz9, reduceLT → zza, reduceLE → zzb, reduceEq → zzc, reduceNeg → zzd, reduceToNat → zze
open Op renaming operands → zo
open Call renaming operands → zc
open Go.RowKit Go.Proofs AclSpec MetaSpec NodeSpec GSort Flo Ext

theorem writeN_of {n : FNode} {a : Int} {s : List UInt8} {m : List E} (hm : mergedW (n.dat ++ [⟨a, s⟩]) = m) : writeN n a s = if !isFileN n || decide (a < 0) || decide (1099511627776 < a) then (n, 1)
  else if 1099511627776 < a + s.length then (n, 2)
  else if s = [] then (n, 0)
  else if 4000 < sumW m ∨ 16 < m.length then (n, 13)
  else ({ n with size := max n.size (a + s.length), dat := m.map fun z => ⟨z.1, roomW (n.dat ++ [⟨a, s⟩]) z⟩ }, 0) := by
  unfold writeN; rw [hm]
def zm : FMeta := ⟨0, 0, 0, 0, [], []⟩
def k0 : FNode := ⟨2, zm, 0, [], [], 0, 0⟩
def kd : FNode := ⟨1, zm, 0, [], [], 0, 0⟩
def kz : FNode := ⟨0, zm, 0, [], [], 0, 0⟩
def kA : FNode := ⟨2, zm, 5, [⟨3, [97, 98]⟩], [], 0, 0⟩
def kB : FNode := ⟨2, zm, 5, [⟨1, [120, 121, 122, 98]⟩], [], 0, 0⟩
def kC : FNode := ⟨2, zm, 2, [⟨1, [120]⟩], [], 0, 0⟩
def kD : FNode := ⟨2, zm, 9, [⟨1, [120, 121, 122, 98]⟩], [], 0, 0⟩
theorem m_A : mergedW (k0.dat ++ [⟨3, [97, 98]⟩]) = [(3, 2)] := by
  show normE big _ = _
  rw [← normE_of (B := big) (l := exts (k0.dat ++ [(⟨3, [97, 98]⟩ : Piece)])) (s := [(3, 2)])]
  · decide +kernel
  · rw [show keptE big (exts (k0.dat ++ [⟨3, [97, 98]⟩])) = [(3, 2)] by decide +kernel]
  · unfold SortedE; simp
theorem m_B : mergedW (kA.dat ++ [⟨1, [120, 121, 122]⟩]) = [(1, 4)] := by
  show normE big _ = _
  rw [← normE_of (B := big) (l := exts (kA.dat ++ [(⟨1, [120, 121, 122]⟩ : Piece)])) (s := [(1, 3), (3, 2)])]
  · decide +kernel
  · rw [show keptE big (exts (kA.dat ++ [⟨1, [120, 121, 122]⟩])) = [(3, 2), (1, 3)] by decide +kernel]
    exact List.Perm.swap _ _ _
  · unfold SortedE; simp
theorem w_A : writeN k0 3 [97, 98] = (kA, 0) := by rw [writeN_of m_A]; decide +kernel
theorem w_B : writeN kA 1 [120, 121, 122] = (kB, 0) := by rw [writeN_of m_B]; decide +kernel
theorem w_d : writeN kd 0 [97] = (kd, 1) := by
  unfold writeN; rw [if_pos (by decide +kernel)]
theorem w_m : writeN k0 1099511627776 [97] = (k0, 2) := by
  unfold writeN; rw [if_neg (by decide +kernel), if_pos (by decide +kernel)]
theorem c_C : cutN kB 2 = (kC, 0) := by decide +kernel
theorem c_D : cutN kB 9 = (kD, 0) := by decide +kernel
theorem r_B : readN kB 0 9 = ([0, 120, 121, 122, 98], 0) := by decide +kernel
theorem small_of {n : FNode} (h : n.mt = zm) (h2 : n.dat.length ≤ 16) (h3 : n.dat.all (fun p => decide (p.dat.length ≤ 16)) = true) : small n := by
  refine ⟨by rw [h]; decide, by rw [h]; decide, by omega, fun p hp => ?_⟩
  have := of_decide_eq_true (List.all_eq_true.1 h3 p hp)
  omega

set_option maxRecDepth 100000 in
set_option maxHeartbeats 8000000 in
theorem ntold_L : LCalls Try.prog 9 [] (boolL true) := by
  have s0 : small k0 := small_of rfl (by decide) (by decide)
  have sd : small kd := small_of rfl (by decide) (by decide)
  have sz : small kz := small_of rfl (by decide) (by decide)
  have sA : small kA := small_of rfl (by decide) (by decide)
  have sB : small kB := small_of rfl (by decide) (by decide)
  have sC : small kC := small_of rfl (by decide) (by decide)
  have c1 := nwrite_L k0 s0 3 [97, 98] (by decide)
  rw [w_A] at c1
  have c2 := nwrite_L kA sA 1 [120, 121, 122] (by decide)
  rw [w_B] at c2
  have c3 := ncut_L kB sB 2
  rw [c_C] at c3
  have c4 := nread_L kB sB 0 9
  rw [r_B] at c4
  have c5 := nwrite_L kd sd 0 [97] (by decide)
  rw [w_d] at c5
  have c6 := nwrite_L k0 s0 1099511627776 [97] (by decide)
  rw [w_m] at c6
  have c7 := ncut_L kB sB 9
  rw [c_D] at c7
  have c8 := nbytes_L kB sB
  rw [show bytesN kB = 4 by decide] at c8
  have c9 := nextents_L kB sB
  have c10 := ndiff_L kB kC (small.len sB) (small.len sC)
  rw [show diffN kB kC = [115, 105, 122, 101] by decide +kernel] at c10
  have c11 := nsame_L kB kB (small.len sB) (small.len sB)
  rw [decide_eq_true rfl] at c11
  have c12 := nmay_L kB sB
  rw [show mayN kB = true by decide +kernel] at c12
  have c13 := nmay_L kz sz
  rw [show mayN kz = false by decide +kernel] at c13
  simp only [k0, kd, kz, kA, kB, kC, kD, zm, nodeL, attrsL, acesL, piecesL, rowL, pieceL, extN, eL, List.map_cons, List.map_nil, List.flatMap_cons, List.flatMap_nil, List.cons_append, List.nil_append, List.append_nil, List.length_cons, List.length_nil, Nat.reduceAdd] at c1 c2 c3 c4 c5 c6 c7 c8 c9 c10 c11 c12 c13
  refine LCalls.of (fun _ => false) Try.func9 rfl (by decide) Try.ntmps9 Try.results9 (by simp) ?_
  intro w0 S0 vs hgl hwf0 hsz hvs; clear hsz hvs hwf0 hgl
  (repeat (first | refine LW_seq ?_ | ((first | (refine LW_region ?_; intro K hK; simp only [LZ, zo, zc, reduceCtorEq, reduceIte, zz1, zz2, zz3, zz4, zz5, zz6, zz7, zz8, zz9, zza, zzb, zzc, zzd, zze, zzf]; refine hK _ ?_; clear hK K) | refine LW_label ?_ | refine LW_skip ?_); try simp only [LSj, reduceIte, zze]) | refine LW_block ?_))
  (repeat (first | refine LW_seq ?_ | (refine LW_skip ?_; simp only [LSj, reduceIte, zze]) | refine LW_block ?_)); refine LW_region ?_; intro K hK; simp only [LZ, zo, zc, reduceCtorEq, reduceIte, zz1, zz2, zz3, zz4, zz5, zz6, zz7, zz8, zz9, zza, zzb, zzc, zzd, zze, zzf]
  refine cop_intro ?ha (c1) ?_; (case ha => (simp only [LZ, zo, zc, reduceCtorEq, reduceIte, zz1, zz2, zz3, zz4, zz5, zz6, zz7, zz8, zz9, zza, zzb, zzc, zzd, zze, zzf]) <;> rfl); simp only [LZ, zo, zc, reduceCtorEq, reduceIte, zz1, zz2, zz3, zz4, zz5, zz6, zz7, zz8, zz9, zza, zzb, zzc, zzd, zze, zzf]
  refine hK _ ?_; clear hK K; try simp only [LSj, reduceIte, zze]
  (repeat (first | refine LW_seq ?_ | (refine LW_skip ?_; simp only [LSj, reduceIte, zze]) | refine LW_block ?_)); refine LW_region ?_; intro K hK; simp only [LZ, zo, zc, reduceCtorEq, reduceIte, zz1, zz2, zz3, zz4, zz5, zz6, zz7, zz8, zz9, zza, zzb, zzc, zzd, zze, zzf]
  refine cop_intro ?ha (c2) ?_; (case ha => (simp only [LZ, zo, zc, reduceCtorEq, reduceIte, zz1, zz2, zz3, zz4, zz5, zz6, zz7, zz8, zz9, zza, zzb, zzc, zzd, zze, zzf]) <;> rfl); simp only [LZ, zo, zc, reduceCtorEq, reduceIte, zz1, zz2, zz3, zz4, zz5, zz6, zz7, zz8, zz9, zza, zzb, zzc, zzd, zze, zzf]
  refine hK _ ?_; clear hK K; try simp only [LSj, reduceIte, zze]
  (repeat (first | refine LW_seq ?_ | (refine LW_skip ?_; simp only [LSj, reduceIte, zze]) | refine LW_block ?_)); refine LW_region ?_; intro K hK; simp only [LZ, zo, zc, reduceCtorEq, reduceIte, zz1, zz2, zz3, zz4, zz5, zz6, zz7, zz8, zz9, zza, zzb, zzc, zzd, zze, zzf]
  refine cop_intro ?ha (c3) ?_; (case ha => (simp only [LZ, zo, zc, reduceCtorEq, reduceIte, zz1, zz2, zz3, zz4, zz5, zz6, zz7, zz8, zz9, zza, zzb, zzc, zzd, zze, zzf]) <;> rfl); simp only [LZ, zo, zc, reduceCtorEq, reduceIte, zz1, zz2, zz3, zz4, zz5, zz6, zz7, zz8, zz9, zza, zzb, zzc, zzd, zze, zzf]
  refine hK _ ?_; clear hK K; try simp only [LSj, reduceIte, zze]
  (repeat (first | refine LW_seq ?_ | (refine LW_skip ?_; simp only [LSj, reduceIte, zze]) | refine LW_block ?_)); refine LW_region ?_; intro K hK; simp only [LZ, zo, zc, reduceCtorEq, reduceIte, zz1, zz2, zz3, zz4, zz5, zz6, zz7, zz8, zz9, zza, zzb, zzc, zzd, zze, zzf]
  refine cop_intro ?ha (c4) ?_; (case ha => (simp only [LZ, zo, zc, reduceCtorEq, reduceIte, zz1, zz2, zz3, zz4, zz5, zz6, zz7, zz8, zz9, zza, zzb, zzc, zzd, zze, zzf]) <;> rfl); simp only [LZ, zo, zc, reduceCtorEq, reduceIte, zz1, zz2, zz3, zz4, zz5, zz6, zz7, zz8, zz9, zza, zzb, zzc, zzd, zze, zzf]
  refine hK _ ?_; clear hK K; try simp only [LSj, reduceIte, zze]
  (repeat (first | refine LW_seq ?_ | (refine LW_skip ?_; simp only [LSj, reduceIte, zze]) | refine LW_block ?_)); refine LW_region ?_; intro K hK; simp only [LZ, zo, zc, reduceCtorEq, reduceIte, zz1, zz2, zz3, zz4, zz5, zz6, zz7, zz8, zz9, zza, zzb, zzc, zzd, zze, zzf]
  refine cop_intro ?ha (c5) ?_; (case ha => (simp only [LZ, zo, zc, reduceCtorEq, reduceIte, zz1, zz2, zz3, zz4, zz5, zz6, zz7, zz8, zz9, zza, zzb, zzc, zzd, zze, zzf]) <;> rfl); simp only [LZ, zo, zc, reduceCtorEq, reduceIte, zz1, zz2, zz3, zz4, zz5, zz6, zz7, zz8, zz9, zza, zzb, zzc, zzd, zze, zzf]
  refine hK _ ?_; clear hK K; try simp only [LSj, reduceIte, zze]
  (repeat (first | refine LW_seq ?_ | (refine LW_skip ?_; simp only [LSj, reduceIte, zze]) | refine LW_block ?_)); refine LW_region ?_; intro K hK; simp only [LZ, zo, zc, reduceCtorEq, reduceIte, zz1, zz2, zz3, zz4, zz5, zz6, zz7, zz8, zz9, zza, zzb, zzc, zzd, zze, zzf]
  refine cop_intro ?ha (c6) ?_; (case ha => (simp only [LZ, zo, zc, reduceCtorEq, reduceIte, zz1, zz2, zz3, zz4, zz5, zz6, zz7, zz8, zz9, zza, zzb, zzc, zzd, zze, zzf]) <;> rfl); simp only [LZ, zo, zc, reduceCtorEq, reduceIte, zz1, zz2, zz3, zz4, zz5, zz6, zz7, zz8, zz9, zza, zzb, zzc, zzd, zze, zzf]
  refine hK _ ?_; clear hK K; try simp only [LSj, reduceIte, zze]
  (repeat (first | refine LW_seq ?_ | (refine LW_skip ?_; simp only [LSj, reduceIte, zze]) | refine LW_block ?_)); refine LW_region ?_; intro K hK; simp only [LZ, zo, zc, reduceCtorEq, reduceIte, zz1, zz2, zz3, zz4, zz5, zz6, zz7, zz8, zz9, zza, zzb, zzc, zzd, zze, zzf]
  refine cop_intro ?ha (c7) ?_; (case ha => (simp only [LZ, zo, zc, reduceCtorEq, reduceIte, zz1, zz2, zz3, zz4, zz5, zz6, zz7, zz8, zz9, zza, zzb, zzc, zzd, zze, zzf]) <;> rfl); simp only [LZ, zo, zc, reduceCtorEq, reduceIte, zz1, zz2, zz3, zz4, zz5, zz6, zz7, zz8, zz9, zza, zzb, zzc, zzd, zze, zzf]
  refine hK _ ?_; clear hK K; try simp only [LSj, reduceIte, zze]
  (repeat refine LW_seq ?_)
  refine LW_regionA (l := ?l) ?hl ?_
  case hl => (first | simp only [Array.append_eq_append, List.append_toArray, List.append_eq, List.cons_append, List.nil_append] | skip); exact rfl
  (repeat (first | refine LW_seq ?_ | (refine LW_skip ?_; simp only [LSj, reduceIte, zze]) | refine LW_block ?_)); refine LW_region ?_; intro K hK; simp only [LZ, zo, zc, reduceCtorEq, reduceIte, zz1, zz2, zz3, zz4, zz5, zz6, zz7, zz8, zz9, zza, zzb, zzc, zzd, zze, zzf]
  refine cop_intro ?ha (c8) ?_; (case ha => (simp only [LZ, zo, zc, reduceCtorEq, reduceIte, zz1, zz2, zz3, zz4, zz5, zz6, zz7, zz8, zz9, zza, zzb, zzc, zzd, zze, zzf]) <;> rfl); simp only [LZ, zo, zc, reduceCtorEq, reduceIte, zz1, zz2, zz3, zz4, zz5, zz6, zz7, zz8, zz9, zza, zzb, zzc, zzd, zze, zzf]
  refine cop_intro ?ha (c9) ?_; (case ha => (simp only [LZ, zo, zc, reduceCtorEq, reduceIte, zz1, zz2, zz3, zz4, zz5, zz6, zz7, zz8, zz9, zza, zzb, zzc, zzd, zze, zzf]) <;> rfl); simp only [LZ, zo, zc, reduceCtorEq, reduceIte, zz1, zz2, zz3, zz4, zz5, zz6, zz7, zz8, zz9, zza, zzb, zzc, zzd, zze, zzf]
  refine cop_intro ?ha (c10) ?_; (case ha => (simp only [LZ, zo, zc, reduceCtorEq, reduceIte, zz1, zz2, zz3, zz4, zz5, zz6, zz7, zz8, zz9, zza, zzb, zzc, zzd, zze, zzf]) <;> rfl); simp only [LZ, zo, zc, reduceCtorEq, reduceIte, zz1, zz2, zz3, zz4, zz5, zz6, zz7, zz8, zz9, zza, zzb, zzc, zzd, zze, zzf]
  refine cop_intro ?ha (c11) ?_; (case ha => (simp only [LZ, zo, zc, reduceCtorEq, reduceIte, zz1, zz2, zz3, zz4, zz5, zz6, zz7, zz8, zz9, zza, zzb, zzc, zzd, zze, zzf]) <;> rfl); simp only [LZ, zo, zc, reduceCtorEq, reduceIte, zz1, zz2, zz3, zz4, zz5, zz6, zz7, zz8, zz9, zza, zzb, zzc, zzd, zze, zzf]
  refine cop_intro ?ha (c12) ?_; (case ha => (simp only [LZ, zo, zc, reduceCtorEq, reduceIte, zz1, zz2, zz3, zz4, zz5, zz6, zz7, zz8, zz9, zza, zzb, zzc, zzd, zze, zzf]) <;> rfl); simp only [LZ, zo, zc, reduceCtorEq, reduceIte, zz1, zz2, zz3, zz4, zz5, zz6, zz7, zz8, zz9, zza, zzb, zzc, zzd, zze, zzf]
  refine cop_intro ?ha (c13) ?_; (case ha => (simp only [LZ, zo, zc, reduceCtorEq, reduceIte, zz1, zz2, zz3, zz4, zz5, zz6, zz7, zz8, zz9, zza, zzb, zzc, zzd, zze, zzf]) <;> rfl); simp only [LZ, zo, zc, reduceCtorEq, reduceIte, zz1, zz2, zz3, zz4, zz5, zz6, zz7, zz8, zz9, zza, zzb, zzc, zzd, zze, zzf]
  refine hK _ ?_; clear hK K; try simp only [LSj, reduceIte, zze]
  refine LW_ret ?_; simp only [thenL, jumpsL, inBlockL, twoL, bodyQ, LV.lit.injEq, LV.tup.injEq, LV.agg.injEq, LV.sl.injEq, List.cons.injEq, Value.int.injEq, Value.bool.injEq, Value.string.injEq, ByteArray.mk.injEq, exists_eq_left', exists_eq_left, exists_eq_right, LZ, zo, zc, reduceCtorEq, reduceIte, zz1, zz2, zz3, zz4, zz5, zz6, zz7, zz8, zz9, zza, zzb, zzc, zzd, zze, zzf]
end Go.Proofs.Ytaeefaehpfjmlaa
