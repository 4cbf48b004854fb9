import Derived.Test.YtaeefaehpfjmlaaKE0
import Derived.Test.YtaeefaehpfjmlaaELaw
set_option linter.unusedSimpArgs false
set_option linter.unusedVariables false
namespace Go.Proofs.Ytaeefaehpfjmlaa
open Nat renaming reduceAdd → zz1, reduceMul → zz2, reduceSub → zz3, reduceLT → zz4, reduceLeDiff → zz5, reduceEqDiff → zz6, reduceBEq → zzf
open Int renaming reduceAdd → zz7, reduceSub → zz8, reduceMul → zz9, reduceLT → zza, reduceLE → zzb, reduceEq → zzc, reduceNeg → zzd, reduceToNat → zze
open Go.RowKit Go.Proofs Flo Ext

def eE (z : Nat × Nat) : List LV := [.lit (eV z)]
def eL (l : List (Nat × Nat)) : LV := rowL eE l
theorem eE_len (z : Nat × Nat) : (eE z).length = 1 := rfl
def limI (v : Int) : Nat := (min (max v 0) 1099511627776).toNat
theorem limI_le (v : Int) : limI v ≤ big := by unfold limI big; omega
theorem limI_nat {n : Nat} (h : n ≤ big) : limI n = n := by unfold limI; unfold big at h; omega
def okE (z : Nat × Nat) : Prop := z.1 ≤ big ∧ z.2 ≤ big
set_option maxRecDepth 100000 in
theorem limit_L (v : Int) : LCalls Try.prog 56 [intL v] (intL (limI v)) := by
  refine LCalls.of (fun _ => false) Try.func56 rfl (by decide) Try.ntmps56 Try.results56 (by simp) ?_
  intro w0 S0 vs hgl hwf0 hsz hvs; clear hsz hvs hwf0 hgl
  have e : (limI v : Int) = if (1099511627776 : Int) < (if (0 : Int) > v then 0 else v) then 1099511627776 else (if (0 : Int) > v then 0 else v) := by
    unfold limI; split <;> split at * <;> omega
  rw [e]
  (repeat (first | refine LW_seq ?_ | ((first | (refine LW_region ?_; intro K hK; simp only [LY, reduceCtorEq, reduceIte, zz1, zz2, zz3, zz4, zz5, zz6, zz7, zz8, zz9, zza, zzb, zzc, zzd, zze, zzf, intL]; refine hK _ ?_; clear hK K) | refine LW_label ?_ | refine LW_skip ?_); try simp only [LSj, reduceIte, zze]) | refine LW_block ?_))
  refine LW_ret ?_; simp only [thenL, jumpsL, inBlockL, twoL, bodyQ, LV.lit.injEq, LV.tup.injEq, LV.agg.injEq, LV.sl.injEq, List.cons.injEq, Value.int.injEq, Value.bool.injEq, Value.string.injEq, ByteArray.mk.injEq, exists_eq_left', exists_eq_left, exists_eq_right, LY, reduceCtorEq, reduceIte, zz1, zz2, zz3, zz4, zz5, zz6, zz7, zz8, zz9, zza, zzb, zzc, zzd, zze, zzf]
set_option maxRecDepth 100000 in
theorem part_L (b : Nat) : LCalls Try.prog 57 [.lit (.float .f64 b)] (intL (partI b)) := by
  refine LCalls.of (fun _ => false) Try.func57 rfl (by decide) Try.ntmps57 Try.results57 (by simp) ?_
  intro w0 S0 vs hgl hwf0 hsz hvs; clear hsz hvs hwf0 hgl
  have hb : ((big : Nat) : Int) = 1099511627776 := rfl
  have h0 : ((0 : Nat) : Int) = 0 := rfl
  rcases part_cases b with ⟨h1, h2⟩ | ⟨h1, h2, h3, h4⟩ | ⟨h1, h2, h3⟩ | ⟨h1, h2, h3, h4⟩ | ⟨h1, h2, h3⟩ | ⟨h1, h2, h3⟩
  · have g1 : (FloatKind.f64.format.order b 4787326403894837248 == some Ordering.gt) = true := by rw [show FloatKind.f64.format.order b 4787326403894837248 = some .gt from h1]; rfl
    (repeat (first | refine LW_seq ?_ | ((first | (refine LW_region ?_; intro K hK; simp only [LY, reduceCtorEq, reduceIte, zz1, zz2, zz3, zz4, zz5, zz6, zz7, zz8, zz9, zza, zzb, zzc, zzd, zze, zzf, g1]; refine hK _ ?_; clear hK K) | refine LW_label ?_ | refine LW_skip ?_); try simp only [LSj, reduceIte, zze]) | refine LW_block ?_))
    refine LW_if ?_; intro X Y hX hY; simp only [LY, reduceCtorEq, reduceIte, zz1, zz2, zz3, zz4, zz5, zz6, zz7, zz8, zz9, zza, zzb, zzc, zzd, zze, zzf]; refine hX ?_; clear hX hY X Y; try simp only [LSj, reduceIte, zze]
    (repeat (first | refine LW_seq ?_ | ((first | (refine LW_region ?_; intro K hK; simp only [LY, reduceCtorEq, reduceIte, zz1, zz2, zz3, zz4, zz5, zz6, zz7, zz8, zz9, zza, zzb, zzc, zzd, zze, zzf]; refine hK _ ?_; clear hK K) | refine LW_label ?_ | refine LW_skip ?_); try simp only [LSj, reduceIte, zze]) | refine LW_block ?_))
    refine LW_ret ?_; simp only [thenL, jumpsL, inBlockL, twoL, bodyQ, LV.lit.injEq, LV.tup.injEq, LV.agg.injEq, LV.sl.injEq, List.cons.injEq, Value.int.injEq, Value.bool.injEq, Value.string.injEq, ByteArray.mk.injEq, exists_eq_left', exists_eq_left, exists_eq_right, LY, reduceCtorEq, reduceIte, zz1, zz2, zz3, zz4, zz5, zz6, zz7, zz8, zz9, zza, zzb, zzc, zzd, zze, zzf, h2, hb]
  · have g1 : (FloatKind.f64.format.order b 4787326403894837248 == some Ordering.gt) = false := by rw [show FloatKind.f64.format.order b 4787326403894837248 = some .eq from h1]; rfl
    have g2 : (FloatKind.f64.format.order b 0 == some Ordering.gt) = true := by rw [show FloatKind.f64.format.order b 0 = some .gt from h2]; rfl
    (repeat (first | refine LW_seq ?_ | ((first | (refine LW_region ?_; intro K hK; simp only [LY, reduceCtorEq, reduceIte, zz1, zz2, zz3, zz4, zz5, zz6, zz7, zz8, zz9, zza, zzb, zzc, zzd, zze, zzf, g1]; refine hK _ ?_; clear hK K) | refine LW_label ?_ | refine LW_skip ?_); try simp only [LSj, reduceIte, zze]) | refine LW_block ?_))
    refine LW_if ?_; intro X Y hX hY; simp only [LY, reduceCtorEq, reduceIte, zz1, zz2, zz3, zz4, zz5, zz6, zz7, zz8, zz9, zza, zzb, zzc, zzd, zze, zzf]; refine hY ?_; clear hX hY X Y; (try simp only [LSj, reduceIte, zze]); (try (refine LW_skip ?_; simp only [LSj, reduceIte, zze]))
    (repeat (first | refine LW_seq ?_ | ((first | (refine LW_region ?_; intro K hK; simp only [LY, reduceCtorEq, reduceIte, zz1, zz2, zz3, zz4, zz5, zz6, zz7, zz8, zz9, zza, zzb, zzc, zzd, zze, zzf, g2]; refine hK _ ?_; clear hK K) | refine LW_label ?_ | refine LW_skip ?_); try simp only [LSj, reduceIte, zze]) | refine LW_block ?_))
    refine LW_if ?_; intro X Y hX hY; simp only [LY, reduceCtorEq, reduceIte, zz1, zz2, zz3, zz4, zz5, zz6, zz7, zz8, zz9, zza, zzb, zzc, zzd, zze, zzf]; refine hX ?_; clear hX hY X Y; try simp only [LSj, reduceIte, zze]
    (repeat (first | refine LW_seq ?_ | ((first | (refine LW_region ?_; intro K hK; simp only [LY, reduceCtorEq, reduceIte, zz1, zz2, zz3, zz4, zz5, zz6, zz7, zz8, zz9, zza, zzb, zzc, zzd, zze, zzf, h4]; refine hK _ ?_; clear hK K) | refine LW_label ?_ | refine LW_skip ?_); try simp only [LSj, reduceIte, zze]) | refine LW_block ?_))
    refine LW_ret ?_; simp only [thenL, jumpsL, inBlockL, twoL, bodyQ, LV.lit.injEq, LV.tup.injEq, LV.agg.injEq, LV.sl.injEq, List.cons.injEq, Value.int.injEq, Value.bool.injEq, Value.string.injEq, ByteArray.mk.injEq, exists_eq_left', exists_eq_left, exists_eq_right, LY, reduceCtorEq, reduceIte, zz1, zz2, zz3, zz4, zz5, zz6, zz7, zz8, zz9, zza, zzb, zzc, zzd, zze, zzf, h3]
  · have g1 : (FloatKind.f64.format.order b 4787326403894837248 == some Ordering.gt) = false := by rw [show FloatKind.f64.format.order b 4787326403894837248 = some .lt from h1]; rfl
    have g2 : (FloatKind.f64.format.order b 0 == some Ordering.gt) = true := by rw [show FloatKind.f64.format.order b 0 = some .gt from h2]; rfl
    (repeat (first | refine LW_seq ?_ | ((first | (refine LW_region ?_; intro K hK; simp only [LY, reduceCtorEq, reduceIte, zz1, zz2, zz3, zz4, zz5, zz6, zz7, zz8, zz9, zza, zzb, zzc, zzd, zze, zzf, g1]; refine hK _ ?_; clear hK K) | refine LW_label ?_ | refine LW_skip ?_); try simp only [LSj, reduceIte, zze]) | refine LW_block ?_))
    refine LW_if ?_; intro X Y hX hY; simp only [LY, reduceCtorEq, reduceIte, zz1, zz2, zz3, zz4, zz5, zz6, zz7, zz8, zz9, zza, zzb, zzc, zzd, zze, zzf]; refine hY ?_; clear hX hY X Y; (try simp only [LSj, reduceIte, zze]); (try (refine LW_skip ?_; simp only [LSj, reduceIte, zze]))
    (repeat (first | refine LW_seq ?_ | ((first | (refine LW_region ?_; intro K hK; simp only [LY, reduceCtorEq, reduceIte, zz1, zz2, zz3, zz4, zz5, zz6, zz7, zz8, zz9, zza, zzb, zzc, zzd, zze, zzf, g2]; refine hK _ ?_; clear hK K) | refine LW_label ?_ | refine LW_skip ?_); try simp only [LSj, reduceIte, zze]) | refine LW_block ?_))
    refine LW_if ?_; intro X Y hX hY; simp only [LY, reduceCtorEq, reduceIte, zz1, zz2, zz3, zz4, zz5, zz6, zz7, zz8, zz9, zza, zzb, zzc, zzd, zze, zzf]; refine hX ?_; clear hX hY X Y; try simp only [LSj, reduceIte, zze]
    (repeat (first | refine LW_seq ?_ | ((first | (refine LW_region ?_; intro K hK; simp only [LY, reduceCtorEq, reduceIte, zz1, zz2, zz3, zz4, zz5, zz6, zz7, zz8, zz9, zza, zzb, zzc, zzd, zze, zzf, h3]; refine hK _ ?_; clear hK K) | refine LW_label ?_ | refine LW_skip ?_); try simp only [LSj, reduceIte, zze]) | refine LW_block ?_))
    refine LW_ret ?_; simp only [thenL, jumpsL, inBlockL, twoL, bodyQ, LV.lit.injEq, LV.tup.injEq, LV.agg.injEq, LV.sl.injEq, List.cons.injEq, Value.int.injEq, Value.bool.injEq, Value.string.injEq, ByteArray.mk.injEq, exists_eq_left', exists_eq_left, exists_eq_right, LY, reduceCtorEq, reduceIte, zz1, zz2, zz3, zz4, zz5, zz6, zz7, zz8, zz9, zza, zzb, zzc, zzd, zze, zzf]
  · have g1 : (FloatKind.f64.format.order b 4787326403894837248 == some Ordering.gt) = false := by rw [show FloatKind.f64.format.order b 4787326403894837248 = some .lt from h1]; rfl
    have g2 : (FloatKind.f64.format.order b 0 == some Ordering.gt) = false := by rw [show FloatKind.f64.format.order b 0 = some .eq from h2]; rfl
    (repeat (first | refine LW_seq ?_ | ((first | (refine LW_region ?_; intro K hK; simp only [LY, reduceCtorEq, reduceIte, zz1, zz2, zz3, zz4, zz5, zz6, zz7, zz8, zz9, zza, zzb, zzc, zzd, zze, zzf, g1]; refine hK _ ?_; clear hK K) | refine LW_label ?_ | refine LW_skip ?_); try simp only [LSj, reduceIte, zze]) | refine LW_block ?_))
    refine LW_if ?_; intro X Y hX hY; simp only [LY, reduceCtorEq, reduceIte, zz1, zz2, zz3, zz4, zz5, zz6, zz7, zz8, zz9, zza, zzb, zzc, zzd, zze, zzf]; refine hY ?_; clear hX hY X Y; (try simp only [LSj, reduceIte, zze]); (try (refine LW_skip ?_; simp only [LSj, reduceIte, zze]))
    (repeat (first | refine LW_seq ?_ | ((first | (refine LW_region ?_; intro K hK; simp only [LY, reduceCtorEq, reduceIte, zz1, zz2, zz3, zz4, zz5, zz6, zz7, zz8, zz9, zza, zzb, zzc, zzd, zze, zzf, g2]; refine hK _ ?_; clear hK K) | refine LW_label ?_ | refine LW_skip ?_); try simp only [LSj, reduceIte, zze]) | refine LW_block ?_))
    refine LW_if ?_; intro X Y hX hY; simp only [LY, reduceCtorEq, reduceIte, zz1, zz2, zz3, zz4, zz5, zz6, zz7, zz8, zz9, zza, zzb, zzc, zzd, zze, zzf]; refine hY ?_; clear hX hY X Y; (try simp only [LSj, reduceIte, zze]); (try (refine LW_skip ?_; simp only [LSj, reduceIte, zze]))
    (repeat (first | refine LW_seq ?_ | ((first | (refine LW_region ?_; intro K hK; simp only [LY, reduceCtorEq, reduceIte, zz1, zz2, zz3, zz4, zz5, zz6, zz7, zz8, zz9, zza, zzb, zzc, zzd, zze, zzf]; refine hK _ ?_; clear hK K) | refine LW_label ?_ | refine LW_skip ?_); try simp only [LSj, reduceIte, zze]) | refine LW_block ?_))
    refine LW_ret ?_; simp only [thenL, jumpsL, inBlockL, twoL, bodyQ, LV.lit.injEq, LV.tup.injEq, LV.agg.injEq, LV.sl.injEq, List.cons.injEq, Value.int.injEq, Value.bool.injEq, Value.string.injEq, ByteArray.mk.injEq, exists_eq_left', exists_eq_left, exists_eq_right, LY, reduceCtorEq, reduceIte, zz1, zz2, zz3, zz4, zz5, zz6, zz7, zz8, zz9, zza, zzb, zzc, zzd, zze, zzf, h4, h0]
  · have g1 : (FloatKind.f64.format.order b 4787326403894837248 == some Ordering.gt) = false := by rw [show FloatKind.f64.format.order b 4787326403894837248 = some .lt from h1]; rfl
    have g2 : (FloatKind.f64.format.order b 0 == some Ordering.gt) = false := by rw [show FloatKind.f64.format.order b 0 = some .lt from h2]; rfl
    (repeat (first | refine LW_seq ?_ | ((first | (refine LW_region ?_; intro K hK; simp only [LY, reduceCtorEq, reduceIte, zz1, zz2, zz3, zz4, zz5, zz6, zz7, zz8, zz9, zza, zzb, zzc, zzd, zze, zzf, g1]; refine hK _ ?_; clear hK K) | refine LW_label ?_ | refine LW_skip ?_); try simp only [LSj, reduceIte, zze]) | refine LW_block ?_))
    refine LW_if ?_; intro X Y hX hY; simp only [LY, reduceCtorEq, reduceIte, zz1, zz2, zz3, zz4, zz5, zz6, zz7, zz8, zz9, zza, zzb, zzc, zzd, zze, zzf]; refine hY ?_; clear hX hY X Y; (try simp only [LSj, reduceIte, zze]); (try (refine LW_skip ?_; simp only [LSj, reduceIte, zze]))
    (repeat (first | refine LW_seq ?_ | ((first | (refine LW_region ?_; intro K hK; simp only [LY, reduceCtorEq, reduceIte, zz1, zz2, zz3, zz4, zz5, zz6, zz7, zz8, zz9, zza, zzb, zzc, zzd, zze, zzf, g2]; refine hK _ ?_; clear hK K) | refine LW_label ?_ | refine LW_skip ?_); try simp only [LSj, reduceIte, zze]) | refine LW_block ?_))
    refine LW_if ?_; intro X Y hX hY; simp only [LY, reduceCtorEq, reduceIte, zz1, zz2, zz3, zz4, zz5, zz6, zz7, zz8, zz9, zza, zzb, zzc, zzd, zze, zzf]; refine hY ?_; clear hX hY X Y; (try simp only [LSj, reduceIte, zze]); (try (refine LW_skip ?_; simp only [LSj, reduceIte, zze]))
    (repeat (first | refine LW_seq ?_ | ((first | (refine LW_region ?_; intro K hK; simp only [LY, reduceCtorEq, reduceIte, zz1, zz2, zz3, zz4, zz5, zz6, zz7, zz8, zz9, zza, zzb, zzc, zzd, zze, zzf]; refine hK _ ?_; clear hK K) | refine LW_label ?_ | refine LW_skip ?_); try simp only [LSj, reduceIte, zze]) | refine LW_block ?_))
    refine LW_ret ?_; simp only [thenL, jumpsL, inBlockL, twoL, bodyQ, LV.lit.injEq, LV.tup.injEq, LV.agg.injEq, LV.sl.injEq, List.cons.injEq, Value.int.injEq, Value.bool.injEq, Value.string.injEq, ByteArray.mk.injEq, exists_eq_left', exists_eq_left, exists_eq_right, LY, reduceCtorEq, reduceIte, zz1, zz2, zz3, zz4, zz5, zz6, zz7, zz8, zz9, zza, zzb, zzc, zzd, zze, zzf, h3, h0]
  · have g1 : (FloatKind.f64.format.order b 4787326403894837248 == some Ordering.gt) = false := by rw [show FloatKind.f64.format.order b 4787326403894837248 = none from h1]; rfl
    have g2 : (FloatKind.f64.format.order b 0 == some Ordering.gt) = false := by rw [show FloatKind.f64.format.order b 0 = none from h2]; rfl
    (repeat (first | refine LW_seq ?_ | ((first | (refine LW_region ?_; intro K hK; simp only [LY, reduceCtorEq, reduceIte, zz1, zz2, zz3, zz4, zz5, zz6, zz7, zz8, zz9, zza, zzb, zzc, zzd, zze, zzf, g1]; refine hK _ ?_; clear hK K) | refine LW_label ?_ | refine LW_skip ?_); try simp only [LSj, reduceIte, zze]) | refine LW_block ?_))
    refine LW_if ?_; intro X Y hX hY; simp only [LY, reduceCtorEq, reduceIte, zz1, zz2, zz3, zz4, zz5, zz6, zz7, zz8, zz9, zza, zzb, zzc, zzd, zze, zzf]; refine hY ?_; clear hX hY X Y; (try simp only [LSj, reduceIte, zze]); (try (refine LW_skip ?_; simp only [LSj, reduceIte, zze]))
    (repeat (first | refine LW_seq ?_ | ((first | (refine LW_region ?_; intro K hK; simp only [LY, reduceCtorEq, reduceIte, zz1, zz2, zz3, zz4, zz5, zz6, zz7, zz8, zz9, zza, zzb, zzc, zzd, zze, zzf, g2]; refine hK _ ?_; clear hK K) | refine LW_label ?_ | refine LW_skip ?_); try simp only [LSj, reduceIte, zze]) | refine LW_block ?_))
    refine LW_if ?_; intro X Y hX hY; simp only [LY, reduceCtorEq, reduceIte, zz1, zz2, zz3, zz4, zz5, zz6, zz7, zz8, zz9, zza, zzb, zzc, zzd, zze, zzf]; refine hY ?_; clear hX hY X Y; (try simp only [LSj, reduceIte, zze]); (try (refine LW_skip ?_; simp only [LSj, reduceIte, zze]))
    (repeat (first | refine LW_seq ?_ | ((first | (refine LW_region ?_; intro K hK; simp only [LY, reduceCtorEq, reduceIte, zz1, zz2, zz3, zz4, zz5, zz6, zz7, zz8, zz9, zza, zzb, zzc, zzd, zze, zzf]; refine hK _ ?_; clear hK K) | refine LW_label ?_ | refine LW_skip ?_); try simp only [LSj, reduceIte, zze]) | refine LW_block ?_))
    refine LW_ret ?_; simp only [thenL, jumpsL, inBlockL, twoL, bodyQ, LV.lit.injEq, LV.tup.injEq, LV.agg.injEq, LV.sl.injEq, List.cons.injEq, Value.int.injEq, Value.bool.injEq, Value.string.injEq, ByteArray.mk.injEq, exists_eq_left', exists_eq_left, exists_eq_right, LY, reduceCtorEq, reduceIte, zz1, zz2, zz3, zz4, zz5, zz6, zz7, zz8, zz9, zza, zzb, zzc, zzd, zze, zzf, h3, h0]
theorem partE {n : Nat} (h : n ≤ big) : partI (fI (min n big)) = n := by rw [Nat.min_eq_left h, partI_fI h]
set_option maxRecDepth 100000 in
theorem at_L {z : Nat × Nat} (h : okE z) : LCalls Try.prog 34 [.lit (eV z)] (intL z.1) := by
  have c := part_L (fI (min z.1 big))
  rw [partE h.1] at c
  unfold eV
  refine LCalls.of (fun _ => false) Try.func34 rfl (by decide) Try.ntmps34 Try.results34 (by simp) ?_
  intro w0 S0 vs hgl hwf0 hsz hvs; clear hsz hvs hwf0 hgl
  (repeat (first | refine LW_seq ?_ | (refine LW_skip ?_; simp only [LSj, reduceIte, zze]) | refine LW_block ?_)); refine LW_region ?_; intro K hK; simp only [LY, reduceCtorEq, reduceIte, zz1, zz2, zz3, zz4, zz5, zz6, zz7, zz8, zz9, zza, zzb, zzc, zzd, zze, zzf]
  refine hK _ ?_; clear hK K; try simp only [LSj, reduceIte, zze]
  (repeat (first | refine LW_seq ?_ | (refine LW_skip ?_; simp only [LSj, reduceIte, zze]) | refine LW_block ?_)); refine LW_region ?_; intro K hK; simp only [LY, reduceCtorEq, reduceIte, zz1, zz2, zz3, zz4, zz5, zz6, zz7, zz8, zz9, zza, zzb, zzc, zzd, zze, zzf]
  refine cop_intro ?ha (c) ?_; (case ha => (simp only [LY, reduceCtorEq, reduceIte, zz1, zz2, zz3, zz4, zz5, zz6, zz7, zz8, zz9, zza, zzb, zzc, zzd, zze, zzf]) <;> rfl); simp only [LY, reduceCtorEq, reduceIte, zz1, zz2, zz3, zz4, zz5, zz6, zz7, zz8, zz9, zza, zzb, zzc, zzd, zze, zzf]
  refine hK _ ?_; clear hK K; try simp only [LSj, reduceIte, zze]
  refine LW_ret ?_; simp only [thenL, jumpsL, inBlockL, twoL, bodyQ, LV.lit.injEq, LV.tup.injEq, LV.agg.injEq, LV.sl.injEq, List.cons.injEq, Value.int.injEq, Value.bool.injEq, Value.string.injEq, ByteArray.mk.injEq, exists_eq_left', exists_eq_left, exists_eq_right, LY, reduceCtorEq, reduceIte, zz1, zz2, zz3, zz4, zz5, zz6, zz7, zz8, zz9, zza, zzb, zzc, zzd, zze, zzf]
set_option maxRecDepth 100000 in
theorem long_L {z : Nat × Nat} (h : okE z) : LCalls Try.prog 33 [.lit (eV z)] (intL z.2) := by
  have c := part_L (fI (min z.2 big))
  rw [partE h.2] at c
  unfold eV
  refine LCalls.of (fun _ => false) Try.func33 rfl (by decide) Try.ntmps33 Try.results33 (by simp) ?_
  intro w0 S0 vs hgl hwf0 hsz hvs; clear hsz hvs hwf0 hgl
  (repeat (first | refine LW_seq ?_ | (refine LW_skip ?_; simp only [LSj, reduceIte, zze]) | refine LW_block ?_)); refine LW_region ?_; intro K hK; simp only [LY, reduceCtorEq, reduceIte, zz1, zz2, zz3, zz4, zz5, zz6, zz7, zz8, zz9, zza, zzb, zzc, zzd, zze, zzf]
  refine hK _ ?_; clear hK K; try simp only [LSj, reduceIte, zze]
  (repeat (first | refine LW_seq ?_ | (refine LW_skip ?_; simp only [LSj, reduceIte, zze]) | refine LW_block ?_)); refine LW_region ?_; intro K hK; simp only [LY, reduceCtorEq, reduceIte, zz1, zz2, zz3, zz4, zz5, zz6, zz7, zz8, zz9, zza, zzb, zzc, zzd, zze, zzf]
  refine cop_intro ?ha (c) ?_; (case ha => (simp only [LY, reduceCtorEq, reduceIte, zz1, zz2, zz3, zz4, zz5, zz6, zz7, zz8, zz9, zza, zzb, zzc, zzd, zze, zzf]) <;> rfl); simp only [LY, reduceCtorEq, reduceIte, zz1, zz2, zz3, zz4, zz5, zz6, zz7, zz8, zz9, zza, zzb, zzc, zzd, zze, zzf]
  refine hK _ ?_; clear hK K; try simp only [LSj, reduceIte, zze]
  refine LW_ret ?_; simp only [thenL, jumpsL, inBlockL, twoL, bodyQ, LV.lit.injEq, LV.tup.injEq, LV.agg.injEq, LV.sl.injEq, List.cons.injEq, Value.int.injEq, Value.bool.injEq, Value.string.injEq, ByteArray.mk.injEq, exists_eq_left', exists_eq_left, exists_eq_right, LY, reduceCtorEq, reduceIte, zz1, zz2, zz3, zz4, zz5, zz6, zz7, zz8, zz9, zza, zzb, zzc, zzd, zze, zzf]
set_option maxRecDepth 100000 in
theorem end_L {z : Nat × Nat} (h : okE z) : LCalls Try.prog 55 [.lit (eV z)] (intL (fin z)) := by
  have hw : IntKind.i64.wrap ((z.1 : Int) + (z.2 : Int)) = (fin z : Int) := by
    obtain ⟨h1, h2⟩ := h
    unfold big at h1 h2
    rw [w64 (by omega)]; unfold fin; omega
  refine LCalls.of (fun _ => false) Try.func55 rfl (by decide) Try.ntmps55 Try.results55 (by simp) ?_
  intro w0 S0 vs hgl hwf0 hsz hvs; clear hsz hvs hwf0 hgl
  (repeat (first | refine LW_seq ?_ | (refine LW_skip ?_; simp only [LSj, reduceIte, zze]) | refine LW_block ?_)); refine LW_region ?_; intro K hK; simp only [LY, reduceCtorEq, reduceIte, zz1, zz2, zz3, zz4, zz5, zz6, zz7, zz8, zz9, zza, zzb, zzc, zzd, zze, zzf]
  refine hK _ ?_; clear hK K; try simp only [LSj, reduceIte, zze]
  (repeat (first | refine LW_seq ?_ | (refine LW_skip ?_; simp only [LSj, reduceIte, zze]) | refine LW_block ?_)); refine LW_region ?_; intro K hK; simp only [LY, reduceCtorEq, reduceIte, zz1, zz2, zz3, zz4, zz5, zz6, zz7, zz8, zz9, zza, zzb, zzc, zzd, zze, zzf]
  refine cop_intro ?ha (at_L h) ?_; (case ha => (simp only [LY, reduceCtorEq, reduceIte, zz1, zz2, zz3, zz4, zz5, zz6, zz7, zz8, zz9, zza, zzb, zzc, zzd, zze, zzf]) <;> rfl); simp only [LY, reduceCtorEq, reduceIte, zz1, zz2, zz3, zz4, zz5, zz6, zz7, zz8, zz9, zza, zzb, zzc, zzd, zze, zzf]
  refine cop_intro ?ha (long_L h) ?_; (case ha => (simp only [LY, reduceCtorEq, reduceIte, zz1, zz2, zz3, zz4, zz5, zz6, zz7, zz8, zz9, zza, zzb, zzc, zzd, zze, zzf, hw]) <;> rfl); simp only [LY, reduceCtorEq, reduceIte, zz1, zz2, zz3, zz4, zz5, zz6, zz7, zz8, zz9, zza, zzb, zzc, zzd, zze, zzf, hw]
  refine hK _ ?_; clear hK K; try simp only [LSj, reduceIte, zze]
  refine LW_ret ?_; simp only [thenL, jumpsL, inBlockL, twoL, bodyQ, LV.lit.injEq, LV.tup.injEq, LV.agg.injEq, LV.sl.injEq, List.cons.injEq, Value.int.injEq, Value.bool.injEq, Value.string.injEq, ByteArray.mk.injEq, exists_eq_left', exists_eq_left, exists_eq_right, LY, reduceCtorEq, reduceIte, zz1, zz2, zz3, zz4, zz5, zz6, zz7, zz8, zz9, zza, zzb, zzc, zzd, zze, zzf]
set_option maxRecDepth 100000 in
theorem of_L (a b : Int) : LCalls Try.prog 32 [intL a, intL b] (.lit (eV (limI a, limI b))) := by
  have e : eV (limI a, limI b) = .complex .f64 (floatOfInt .f64 (limI a : Int)) (floatOfInt .f64 (limI b : Int)) := by
    unfold eV fI; rw [Nat.min_eq_left (limI_le a), Nat.min_eq_left (limI_le b)]
  rw [e]
  refine LCalls.of (fun _ => false) Try.func32 rfl (by decide) Try.ntmps32 Try.results32 (by simp) ?_
  intro w0 S0 vs hgl hwf0 hsz hvs; clear hsz hvs hwf0 hgl
  (repeat (first | refine LW_seq ?_ | (refine LW_skip ?_; simp only [LSj, reduceIte, zze]) | refine LW_block ?_)); refine LW_region ?_; intro K hK; simp only [LY, reduceCtorEq, reduceIte, zz1, zz2, zz3, zz4, zz5, zz6, zz7, zz8, zz9, zza, zzb, zzc, zzd, zze, zzf]
  refine hK _ ?_; clear hK K; try simp only [LSj, reduceIte, zze]
  (repeat (first | refine LW_seq ?_ | (refine LW_skip ?_; simp only [LSj, reduceIte, zze]) | refine LW_block ?_)); refine LW_region ?_; intro K hK; simp only [LY, reduceCtorEq, reduceIte, zz1, zz2, zz3, zz4, zz5, zz6, zz7, zz8, zz9, zza, zzb, zzc, zzd, zze, zzf]
  refine cop_intro ?ha (limit_L a) ?_; (case ha => (simp only [LY, reduceCtorEq, reduceIte, zz1, zz2, zz3, zz4, zz5, zz6, zz7, zz8, zz9, zza, zzb, zzc, zzd, zze, zzf]) <;> rfl); simp only [LY, reduceCtorEq, reduceIte, zz1, zz2, zz3, zz4, zz5, zz6, zz7, zz8, zz9, zza, zzb, zzc, zzd, zze, zzf]
  refine cop_intro ?ha (limit_L b) ?_; (case ha => (simp only [LY, reduceCtorEq, reduceIte, zz1, zz2, zz3, zz4, zz5, zz6, zz7, zz8, zz9, zza, zzb, zzc, zzd, zze, zzf]) <;> rfl); simp only [LY, reduceCtorEq, reduceIte, zz1, zz2, zz3, zz4, zz5, zz6, zz7, zz8, zz9, zza, zzb, zzc, zzd, zze, zzf]
  refine hK _ ?_; clear hK K; try simp only [LSj, reduceIte, zze]
  refine LW_ret ?_; simp only [thenL, jumpsL, inBlockL, twoL, bodyQ, LV.lit.injEq, LV.tup.injEq, LV.agg.injEq, LV.sl.injEq, List.cons.injEq, Value.int.injEq, Value.bool.injEq, Value.string.injEq, ByteArray.mk.injEq, exists_eq_left', exists_eq_left, exists_eq_right, LY, reduceCtorEq, reduceIte, zz1, zz2, zz3, zz4, zz5, zz6, zz7, zz8, zz9, zza, zzb, zzc, zzd, zze, zzf]
end Go.Proofs.Ytaeefaehpfjmlaa
