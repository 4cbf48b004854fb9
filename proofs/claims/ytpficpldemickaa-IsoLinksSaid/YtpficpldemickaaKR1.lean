import Derived.Test.YtpficpldemickaaKN3
set_option linter.unusedSimpArgs false
set_option linter.unusedVariables false
namespace Go.Proofs.Ytpficpldemickaa
open Nat renaming reduceAdd → zz1,reduceMul → zz2,reduceSub → zz3,reduceLT → zz4,reduceLeDiff → zz5,reduceEqDiff → zz6,reduceBEq → zzf
open Int renaming reduceAdd → zz7,reduceSub → zz8,reduceMul → zz9,reduceLT → zza,reduceLE → zzb,reduceEq → zzc,reduceNeg → zzd,reduceToNat → zze
open Op renaming operands → zo
open Call renaming operands → zc
open Go.RowKit Go.Proofs AclSpec MetaSpec NodeSpec GSort Flo Ext

set_option maxRecDepth 100000 in
theorem rpart_L (b : Nat) : LCalls Try.prog 91 [.lit (.float .f64 b)] (intL (partI b)) := by
  refine LCalls.of (fun _ => false) Try.func91 rfl (by decide) Try.ntmps91 Try.results91 (by simp) ?_
  intro w0 S0 vs hgl hwf0 hsz hvs;clear hsz hvs hwf0 hgl
  have hb : ((big : Nat) : Int) = 1099511627776 := rfl
  have h0 : ((0 : Nat) : Int) = 0 := rfl
  rcases part_cases b with ⟨h1,h2⟩ | ⟨h1,h2,h3,h4⟩ | ⟨h1,h2,h3⟩ | ⟨h1,h2,h3,h4⟩ | ⟨h1,h2,h3⟩ | ⟨h1,h2,h3⟩
  · have g1 : (FloatKind.f64.format.order b 4787326403894837248 == some Ordering.gt || FloatKind.f64.format.order b 4787326403894837248 == some Ordering.eq) = true := by rw [show FloatKind.f64.format.order b 4787326403894837248 = some .gt from h1];rfl
    (repeat (first | refine LW_seq ?_ | ((first | (refine LW_region ?_;intro K hK;simp only [LZ,zo,zc,reduceCtorEq,reduceIte,zz1,zz2,zz3,zz4,zz5,zz6,zz7,zz8,zz9,zza,zzb,zzc,zzd,zze,zzf,g1];refine hK _ ?_;clear hK K) | refine LW_label ?_ | refine LW_skip ?_);try simp only [LSj,reduceIte,zze]) | refine LW_block ?_))
    refine LW_if ?_;intro X Y hX hY;simp only [LZ,zo,zc,reduceCtorEq,reduceIte,zz1,zz2,zz3,zz4,zz5,zz6,zz7,zz8,zz9,zza,zzb,zzc,zzd,zze,zzf];refine hX ?_;clear hX hY X Y;try simp only [LSj,reduceIte,zze]
    (repeat (first | refine LW_seq ?_ | ((first | (refine LW_region ?_;intro K hK;simp only [LZ,zo,zc,reduceCtorEq,reduceIte,zz1,zz2,zz3,zz4,zz5,zz6,zz7,zz8,zz9,zza,zzb,zzc,zzd,zze,zzf];refine hK _ ?_;clear hK K) | refine LW_label ?_ | refine LW_skip ?_);try simp only [LSj,reduceIte,zze]) | refine LW_block ?_))
    refine LW_ret ?_;simp only [thenL,jumpsL,inBlockL,twoL,bodyQ,LV.lit.injEq,LV.tup.injEq,LV.agg.injEq,LV.sl.injEq,List.cons.injEq,Value.int.injEq,Value.bool.injEq,Value.string.injEq,ByteArray.mk.injEq,exists_eq_left',exists_eq_left,exists_eq_right,LZ,zo,zc,reduceCtorEq,reduceIte,zz1,zz2,zz3,zz4,zz5,zz6,zz7,zz8,zz9,zza,zzb,zzc,zzd,zze,zzf,h2,hb]
  · have g1 : (FloatKind.f64.format.order b 4787326403894837248 == some Ordering.gt || FloatKind.f64.format.order b 4787326403894837248 == some Ordering.eq) = true := by rw [show FloatKind.f64.format.order b 4787326403894837248 = some .eq from h1];rfl
    (repeat (first | refine LW_seq ?_ | ((first | (refine LW_region ?_;intro K hK;simp only [LZ,zo,zc,reduceCtorEq,reduceIte,zz1,zz2,zz3,zz4,zz5,zz6,zz7,zz8,zz9,zza,zzb,zzc,zzd,zze,zzf,g1];refine hK _ ?_;clear hK K) | refine LW_label ?_ | refine LW_skip ?_);try simp only [LSj,reduceIte,zze]) | refine LW_block ?_))
    refine LW_if ?_;intro X Y hX hY;simp only [LZ,zo,zc,reduceCtorEq,reduceIte,zz1,zz2,zz3,zz4,zz5,zz6,zz7,zz8,zz9,zza,zzb,zzc,zzd,zze,zzf];refine hX ?_;clear hX hY X Y;try simp only [LSj,reduceIte,zze]
    (repeat (first | refine LW_seq ?_ | ((first | (refine LW_region ?_;intro K hK;simp only [LZ,zo,zc,reduceCtorEq,reduceIte,zz1,zz2,zz3,zz4,zz5,zz6,zz7,zz8,zz9,zza,zzb,zzc,zzd,zze,zzf];refine hK _ ?_;clear hK K) | refine LW_label ?_ | refine LW_skip ?_);try simp only [LSj,reduceIte,zze]) | refine LW_block ?_))
    refine LW_ret ?_;simp only [thenL,jumpsL,inBlockL,twoL,bodyQ,LV.lit.injEq,LV.tup.injEq,LV.agg.injEq,LV.sl.injEq,List.cons.injEq,Value.int.injEq,Value.bool.injEq,Value.string.injEq,ByteArray.mk.injEq,exists_eq_left',exists_eq_left,exists_eq_right,LZ,zo,zc,reduceCtorEq,reduceIte,zz1,zz2,zz3,zz4,zz5,zz6,zz7,zz8,zz9,zza,zzb,zzc,zzd,zze,zzf,h3,hb]
  · have g1 : (FloatKind.f64.format.order b 4787326403894837248 == some Ordering.gt || FloatKind.f64.format.order b 4787326403894837248 == some Ordering.eq) = false := by rw [show FloatKind.f64.format.order b 4787326403894837248 = some .lt from h1];rfl
    have g2 : (FloatKind.f64.format.order b 0 == some Ordering.gt || FloatKind.f64.format.order b 0 == some Ordering.eq) = true := by rw [show FloatKind.f64.format.order b 0 = some .gt from h2];rfl
    (repeat (first | refine LW_seq ?_ | ((first | (refine LW_region ?_;intro K hK;simp only [LZ,zo,zc,reduceCtorEq,reduceIte,zz1,zz2,zz3,zz4,zz5,zz6,zz7,zz8,zz9,zza,zzb,zzc,zzd,zze,zzf,g1];refine hK _ ?_;clear hK K) | refine LW_label ?_ | refine LW_skip ?_);try simp only [LSj,reduceIte,zze]) | refine LW_block ?_))
    refine LW_if ?_;intro X Y hX hY;simp only [LZ,zo,zc,reduceCtorEq,reduceIte,zz1,zz2,zz3,zz4,zz5,zz6,zz7,zz8,zz9,zza,zzb,zzc,zzd,zze,zzf];refine hY ?_;clear hX hY X Y;(try simp only [LSj,reduceIte,zze]);(try (refine LW_skip ?_;simp only [LSj,reduceIte,zze]))
    (repeat (first | refine LW_seq ?_ | ((first | (refine LW_region ?_;intro K hK;simp only [LZ,zo,zc,reduceCtorEq,reduceIte,zz1,zz2,zz3,zz4,zz5,zz6,zz7,zz8,zz9,zza,zzb,zzc,zzd,zze,zzf,g2];refine hK _ ?_;clear hK K) | refine LW_label ?_ | refine LW_skip ?_);try simp only [LSj,reduceIte,zze]) | refine LW_block ?_))
    refine LW_if ?_;intro X Y hX hY;simp only [LZ,zo,zc,reduceCtorEq,reduceIte,zz1,zz2,zz3,zz4,zz5,zz6,zz7,zz8,zz9,zza,zzb,zzc,zzd,zze,zzf];refine hX ?_;clear hX hY X Y;try simp only [LSj,reduceIte,zze]
    (repeat (first | refine LW_seq ?_ | ((first | (refine LW_region ?_;intro K hK;simp only [LZ,zo,zc,reduceCtorEq,reduceIte,zz1,zz2,zz3,zz4,zz5,zz6,zz7,zz8,zz9,zza,zzb,zzc,zzd,zze,zzf,h3];refine hK _ ?_;clear hK K) | refine LW_label ?_ | refine LW_skip ?_);try simp only [LSj,reduceIte,zze]) | refine LW_block ?_))
    refine LW_ret ?_;simp only [thenL,jumpsL,inBlockL,twoL,bodyQ,LV.lit.injEq,LV.tup.injEq,LV.agg.injEq,LV.sl.injEq,List.cons.injEq,Value.int.injEq,Value.bool.injEq,Value.string.injEq,ByteArray.mk.injEq,exists_eq_left',exists_eq_left,exists_eq_right,LZ,zo,zc,reduceCtorEq,reduceIte,zz1,zz2,zz3,zz4,zz5,zz6,zz7,zz8,zz9,zza,zzb,zzc,zzd,zze,zzf]
  · have g1 : (FloatKind.f64.format.order b 4787326403894837248 == some Ordering.gt || FloatKind.f64.format.order b 4787326403894837248 == some Ordering.eq) = false := by rw [show FloatKind.f64.format.order b 4787326403894837248 = some .lt from h1];rfl
    have g2 : (FloatKind.f64.format.order b 0 == some Ordering.gt || FloatKind.f64.format.order b 0 == some Ordering.eq) = true := by rw [show FloatKind.f64.format.order b 0 = some .eq from h2];rfl
    (repeat (first | refine LW_seq ?_ | ((first | (refine LW_region ?_;intro K hK;simp only [LZ,zo,zc,reduceCtorEq,reduceIte,zz1,zz2,zz3,zz4,zz5,zz6,zz7,zz8,zz9,zza,zzb,zzc,zzd,zze,zzf,g1];refine hK _ ?_;clear hK K) | refine LW_label ?_ | refine LW_skip ?_);try simp only [LSj,reduceIte,zze]) | refine LW_block ?_))
    refine LW_if ?_;intro X Y hX hY;simp only [LZ,zo,zc,reduceCtorEq,reduceIte,zz1,zz2,zz3,zz4,zz5,zz6,zz7,zz8,zz9,zza,zzb,zzc,zzd,zze,zzf];refine hY ?_;clear hX hY X Y;(try simp only [LSj,reduceIte,zze]);(try (refine LW_skip ?_;simp only [LSj,reduceIte,zze]))
    (repeat (first | refine LW_seq ?_ | ((first | (refine LW_region ?_;intro K hK;simp only [LZ,zo,zc,reduceCtorEq,reduceIte,zz1,zz2,zz3,zz4,zz5,zz6,zz7,zz8,zz9,zza,zzb,zzc,zzd,zze,zzf,g2];refine hK _ ?_;clear hK K) | refine LW_label ?_ | refine LW_skip ?_);try simp only [LSj,reduceIte,zze]) | refine LW_block ?_))
    refine LW_if ?_;intro X Y hX hY;simp only [LZ,zo,zc,reduceCtorEq,reduceIte,zz1,zz2,zz3,zz4,zz5,zz6,zz7,zz8,zz9,zza,zzb,zzc,zzd,zze,zzf];refine hX ?_;clear hX hY X Y;try simp only [LSj,reduceIte,zze]
    (repeat (first | refine LW_seq ?_ | ((first | (refine LW_region ?_;intro K hK;simp only [LZ,zo,zc,reduceCtorEq,reduceIte,zz1,zz2,zz3,zz4,zz5,zz6,zz7,zz8,zz9,zza,zzb,zzc,zzd,zze,zzf,h3];refine hK _ ?_;clear hK K) | refine LW_label ?_ | refine LW_skip ?_);try simp only [LSj,reduceIte,zze]) | refine LW_block ?_))
    refine LW_ret ?_;simp only [thenL,jumpsL,inBlockL,twoL,bodyQ,LV.lit.injEq,LV.tup.injEq,LV.agg.injEq,LV.sl.injEq,List.cons.injEq,Value.int.injEq,Value.bool.injEq,Value.string.injEq,ByteArray.mk.injEq,exists_eq_left',exists_eq_left,exists_eq_right,LZ,zo,zc,reduceCtorEq,reduceIte,zz1,zz2,zz3,zz4,zz5,zz6,zz7,zz8,zz9,zza,zzb,zzc,zzd,zze,zzf]
  · have g1 : (FloatKind.f64.format.order b 4787326403894837248 == some Ordering.gt || FloatKind.f64.format.order b 4787326403894837248 == some Ordering.eq) = false := by rw [show FloatKind.f64.format.order b 4787326403894837248 = some .lt from h1];rfl
    have g2 : (FloatKind.f64.format.order b 0 == some Ordering.gt || FloatKind.f64.format.order b 0 == some Ordering.eq) = false := by rw [show FloatKind.f64.format.order b 0 = some .lt from h2];rfl
    (repeat (first | refine LW_seq ?_ | ((first | (refine LW_region ?_;intro K hK;simp only [LZ,zo,zc,reduceCtorEq,reduceIte,zz1,zz2,zz3,zz4,zz5,zz6,zz7,zz8,zz9,zza,zzb,zzc,zzd,zze,zzf,g1];refine hK _ ?_;clear hK K) | refine LW_label ?_ | refine LW_skip ?_);try simp only [LSj,reduceIte,zze]) | refine LW_block ?_))
    refine LW_if ?_;intro X Y hX hY;simp only [LZ,zo,zc,reduceCtorEq,reduceIte,zz1,zz2,zz3,zz4,zz5,zz6,zz7,zz8,zz9,zza,zzb,zzc,zzd,zze,zzf];refine hY ?_;clear hX hY X Y;(try simp only [LSj,reduceIte,zze]);(try (refine LW_skip ?_;simp only [LSj,reduceIte,zze]))
    (repeat (first | refine LW_seq ?_ | ((first | (refine LW_region ?_;intro K hK;simp only [LZ,zo,zc,reduceCtorEq,reduceIte,zz1,zz2,zz3,zz4,zz5,zz6,zz7,zz8,zz9,zza,zzb,zzc,zzd,zze,zzf,g2];refine hK _ ?_;clear hK K) | refine LW_label ?_ | refine LW_skip ?_);try simp only [LSj,reduceIte,zze]) | refine LW_block ?_))
    refine LW_if ?_;intro X Y hX hY;simp only [LZ,zo,zc,reduceCtorEq,reduceIte,zz1,zz2,zz3,zz4,zz5,zz6,zz7,zz8,zz9,zza,zzb,zzc,zzd,zze,zzf];refine hY ?_;clear hX hY X Y;(try simp only [LSj,reduceIte,zze]);(try (refine LW_skip ?_;simp only [LSj,reduceIte,zze]))
    (repeat (first | refine LW_seq ?_ | ((first | (refine LW_region ?_;intro K hK;simp only [LZ,zo,zc,reduceCtorEq,reduceIte,zz1,zz2,zz3,zz4,zz5,zz6,zz7,zz8,zz9,zza,zzb,zzc,zzd,zze,zzf];refine hK _ ?_;clear hK K) | refine LW_label ?_ | refine LW_skip ?_);try simp only [LSj,reduceIte,zze]) | refine LW_block ?_))
    refine LW_ret ?_;simp only [thenL,jumpsL,inBlockL,twoL,bodyQ,LV.lit.injEq,LV.tup.injEq,LV.agg.injEq,LV.sl.injEq,List.cons.injEq,Value.int.injEq,Value.bool.injEq,Value.string.injEq,ByteArray.mk.injEq,exists_eq_left',exists_eq_left,exists_eq_right,LZ,zo,zc,reduceCtorEq,reduceIte,zz1,zz2,zz3,zz4,zz5,zz6,zz7,zz8,zz9,zza,zzb,zzc,zzd,zze,zzf,h3,h0]
  · have g1 : (FloatKind.f64.format.order b 4787326403894837248 == some Ordering.gt || FloatKind.f64.format.order b 4787326403894837248 == some Ordering.eq) = false := by rw [show FloatKind.f64.format.order b 4787326403894837248 = none from h1];rfl
    have g2 : (FloatKind.f64.format.order b 0 == some Ordering.gt || FloatKind.f64.format.order b 0 == some Ordering.eq) = false := by rw [show FloatKind.f64.format.order b 0 = none from h2];rfl
    (repeat (first | refine LW_seq ?_ | ((first | (refine LW_region ?_;intro K hK;simp only [LZ,zo,zc,reduceCtorEq,reduceIte,zz1,zz2,zz3,zz4,zz5,zz6,zz7,zz8,zz9,zza,zzb,zzc,zzd,zze,zzf,g1];refine hK _ ?_;clear hK K) | refine LW_label ?_ | refine LW_skip ?_);try simp only [LSj,reduceIte,zze]) | refine LW_block ?_))
    refine LW_if ?_;intro X Y hX hY;simp only [LZ,zo,zc,reduceCtorEq,reduceIte,zz1,zz2,zz3,zz4,zz5,zz6,zz7,zz8,zz9,zza,zzb,zzc,zzd,zze,zzf];refine hY ?_;clear hX hY X Y;(try simp only [LSj,reduceIte,zze]);(try (refine LW_skip ?_;simp only [LSj,reduceIte,zze]))
    (repeat (first | refine LW_seq ?_ | ((first | (refine LW_region ?_;intro K hK;simp only [LZ,zo,zc,reduceCtorEq,reduceIte,zz1,zz2,zz3,zz4,zz5,zz6,zz7,zz8,zz9,zza,zzb,zzc,zzd,zze,zzf,g2];refine hK _ ?_;clear hK K) | refine LW_label ?_ | refine LW_skip ?_);try simp only [LSj,reduceIte,zze]) | refine LW_block ?_))
    refine LW_if ?_;intro X Y hX hY;simp only [LZ,zo,zc,reduceCtorEq,reduceIte,zz1,zz2,zz3,zz4,zz5,zz6,zz7,zz8,zz9,zza,zzb,zzc,zzd,zze,zzf];refine hY ?_;clear hX hY X Y;(try simp only [LSj,reduceIte,zze]);(try (refine LW_skip ?_;simp only [LSj,reduceIte,zze]))
    (repeat (first | refine LW_seq ?_ | ((first | (refine LW_region ?_;intro K hK;simp only [LZ,zo,zc,reduceCtorEq,reduceIte,zz1,zz2,zz3,zz4,zz5,zz6,zz7,zz8,zz9,zza,zzb,zzc,zzd,zze,zzf];refine hK _ ?_;clear hK K) | refine LW_label ?_ | refine LW_skip ?_);try simp only [LSj,reduceIte,zze]) | refine LW_block ?_))
    refine LW_ret ?_;simp only [thenL,jumpsL,inBlockL,twoL,bodyQ,LV.lit.injEq,LV.tup.injEq,LV.agg.injEq,LV.sl.injEq,List.cons.injEq,Value.int.injEq,Value.bool.injEq,Value.string.injEq,ByteArray.mk.injEq,exists_eq_left',exists_eq_left,exists_eq_right,LZ,zo,zc,reduceCtorEq,reduceIte,zz1,zz2,zz3,zz4,zz5,zz6,zz7,zz8,zz9,zza,zzb,zzc,zzd,zze,zzf,h3,h0]
set_option maxRecDepth 100000 in
theorem rat_L {z : Nat × Nat} (h : okE z) : LCalls Try.prog 81 [.lit (eV z)] (intL z.1) := by
  have c := rpart_L (fI (min z.1 big))
  rw [partE h.1] at c
  unfold eV
  refine LCalls.of (fun _ => false) Try.func81 rfl (by decide) Try.ntmps81 Try.results81 (by simp) ?_
  intro w0 S0 vs hgl hwf0 hsz hvs;clear hsz hvs hwf0 hgl
  (repeat (first | refine LW_seq ?_ | (refine LW_skip ?_;simp only [LSj,reduceIte,zze]) | refine LW_block ?_));refine LW_region ?_;intro K hK;simp only [LZ,zo,zc,reduceCtorEq,reduceIte,zz1,zz2,zz3,zz4,zz5,zz6,zz7,zz8,zz9,zza,zzb,zzc,zzd,zze,zzf]
  refine hK _ ?_;clear hK K;try simp only [LSj,reduceIte,zze]
  (repeat (first | refine LW_seq ?_ | (refine LW_skip ?_;simp only [LSj,reduceIte,zze]) | refine LW_block ?_));refine LW_region ?_;intro K hK;simp only [LZ,zo,zc,reduceCtorEq,reduceIte,zz1,zz2,zz3,zz4,zz5,zz6,zz7,zz8,zz9,zza,zzb,zzc,zzd,zze,zzf]
  refine cop_intro ?ha (c) ?_;(case ha => (simp only [LZ,zo,zc,reduceCtorEq,reduceIte,zz1,zz2,zz3,zz4,zz5,zz6,zz7,zz8,zz9,zza,zzb,zzc,zzd,zze,zzf]) <;> rfl);simp only [LZ,zo,zc,reduceCtorEq,reduceIte,zz1,zz2,zz3,zz4,zz5,zz6,zz7,zz8,zz9,zza,zzb,zzc,zzd,zze,zzf]
  refine hK _ ?_;clear hK K;try simp only [LSj,reduceIte,zze]
  refine LW_ret ?_;simp only [thenL,jumpsL,inBlockL,twoL,bodyQ,LV.lit.injEq,LV.tup.injEq,LV.agg.injEq,LV.sl.injEq,List.cons.injEq,Value.int.injEq,Value.bool.injEq,Value.string.injEq,ByteArray.mk.injEq,exists_eq_left',exists_eq_left,exists_eq_right,LZ,zo,zc,reduceCtorEq,reduceIte,zz1,zz2,zz3,zz4,zz5,zz6,zz7,zz8,zz9,zza,zzb,zzc,zzd,zze,zzf]
set_option maxRecDepth 100000 in
theorem rlong_L {z : Nat × Nat} (h : okE z) : LCalls Try.prog 80 [.lit (eV z)] (intL z.2) := by
  have c := rpart_L (fI (min z.2 big))
  rw [partE h.2] at c
  unfold eV
  refine LCalls.of (fun _ => false) Try.func80 rfl (by decide) Try.ntmps80 Try.results80 (by simp) ?_
  intro w0 S0 vs hgl hwf0 hsz hvs;clear hsz hvs hwf0 hgl
  (repeat (first | refine LW_seq ?_ | (refine LW_skip ?_;simp only [LSj,reduceIte,zze]) | refine LW_block ?_));refine LW_region ?_;intro K hK;simp only [LZ,zo,zc,reduceCtorEq,reduceIte,zz1,zz2,zz3,zz4,zz5,zz6,zz7,zz8,zz9,zza,zzb,zzc,zzd,zze,zzf]
  refine hK _ ?_;clear hK K;try simp only [LSj,reduceIte,zze]
  (repeat (first | refine LW_seq ?_ | (refine LW_skip ?_;simp only [LSj,reduceIte,zze]) | refine LW_block ?_));refine LW_region ?_;intro K hK;simp only [LZ,zo,zc,reduceCtorEq,reduceIte,zz1,zz2,zz3,zz4,zz5,zz6,zz7,zz8,zz9,zza,zzb,zzc,zzd,zze,zzf]
  refine cop_intro ?ha (c) ?_;(case ha => (simp only [LZ,zo,zc,reduceCtorEq,reduceIte,zz1,zz2,zz3,zz4,zz5,zz6,zz7,zz8,zz9,zza,zzb,zzc,zzd,zze,zzf]) <;> rfl);simp only [LZ,zo,zc,reduceCtorEq,reduceIte,zz1,zz2,zz3,zz4,zz5,zz6,zz7,zz8,zz9,zza,zzb,zzc,zzd,zze,zzf]
  refine hK _ ?_;clear hK K;try simp only [LSj,reduceIte,zze]
  refine LW_ret ?_;simp only [thenL,jumpsL,inBlockL,twoL,bodyQ,LV.lit.injEq,LV.tup.injEq,LV.agg.injEq,LV.sl.injEq,List.cons.injEq,Value.int.injEq,Value.bool.injEq,Value.string.injEq,ByteArray.mk.injEq,exists_eq_left',exists_eq_left,exists_eq_right,LZ,zo,zc,reduceCtorEq,reduceIte,zz1,zz2,zz3,zz4,zz5,zz6,zz7,zz8,zz9,zza,zzb,zzc,zzd,zze,zzf]
set_option maxRecDepth 100000 in
theorem rbound_L (v : Int) : LCalls Try.prog 92 [intL v] (intL (limI v)) := by
  refine LCalls.of (fun _ => false) Try.func92 rfl (by decide) Try.ntmps92 Try.results92 (by simp) ?_
  intro w0 S0 vs hgl hwf0 hsz hvs;clear hsz hvs hwf0 hgl
  have e : (limI v : Int) = if (1099511627776 : Int) < (if (0 : Int) > v then 0 else v) then 1099511627776 else (if (0 : Int) > v then 0 else v) := by
    unfold limI;split <;> split at * <;> omega
  rw [e]
  (repeat (first | refine LW_seq ?_ | ((first | (refine LW_region ?_;intro K hK;simp only [LZ,zo,zc,reduceCtorEq,reduceIte,zz1,zz2,zz3,zz4,zz5,zz6,zz7,zz8,zz9,zza,zzb,zzc,zzd,zze,zzf,intL];refine hK _ ?_;clear hK K) | refine LW_label ?_ | refine LW_skip ?_);try simp only [LSj,reduceIte,zze]) | refine LW_block ?_))
  refine LW_ret ?_;simp only [thenL,jumpsL,inBlockL,twoL,bodyQ,LV.lit.injEq,LV.tup.injEq,LV.agg.injEq,LV.sl.injEq,List.cons.injEq,Value.int.injEq,Value.bool.injEq,Value.string.injEq,ByteArray.mk.injEq,exists_eq_left',exists_eq_left,exists_eq_right,LZ,zo,zc,reduceCtorEq,reduceIte,zz1,zz2,zz3,zz4,zz5,zz6,zz7,zz8,zz9,zza,zzb,zzc,zzd,zze,zzf]
set_option maxRecDepth 100000 in
theorem rof_L (a b : Int) : LCalls Try.prog 82 [intL a,intL b] (.lit (eV (limI a,limI b))) := by
  have e : eV (limI a,limI b) = .complex .f64 (floatOfInt .f64 (limI a : Int)) (floatOfInt .f64 (limI b : Int)) := by
    unfold eV fI;rw [Nat.min_eq_left (limI_le a),Nat.min_eq_left (limI_le b)]
  rw [e]
  refine LCalls.of (fun _ => false) Try.func82 rfl (by decide) Try.ntmps82 Try.results82 (by simp) ?_
  intro w0 S0 vs hgl hwf0 hsz hvs;clear hsz hvs hwf0 hgl
  (repeat (first | refine LW_seq ?_ | (refine LW_skip ?_;simp only [LSj,reduceIte,zze]) | refine LW_block ?_));refine LW_region ?_;intro K hK;simp only [LZ,zo,zc,reduceCtorEq,reduceIte,zz1,zz2,zz3,zz4,zz5,zz6,zz7,zz8,zz9,zza,zzb,zzc,zzd,zze,zzf]
  refine hK _ ?_;clear hK K;try simp only [LSj,reduceIte,zze]
  (repeat (first | refine LW_seq ?_ | (refine LW_skip ?_;simp only [LSj,reduceIte,zze]) | refine LW_block ?_));refine LW_region ?_;intro K hK;simp only [LZ,zo,zc,reduceCtorEq,reduceIte,zz1,zz2,zz3,zz4,zz5,zz6,zz7,zz8,zz9,zza,zzb,zzc,zzd,zze,zzf]
  refine cop_intro ?ha (rbound_L a) ?_;(case ha => (simp only [LZ,zo,zc,reduceCtorEq,reduceIte,zz1,zz2,zz3,zz4,zz5,zz6,zz7,zz8,zz9,zza,zzb,zzc,zzd,zze,zzf]) <;> rfl);simp only [LZ,zo,zc,reduceCtorEq,reduceIte,zz1,zz2,zz3,zz4,zz5,zz6,zz7,zz8,zz9,zza,zzb,zzc,zzd,zze,zzf]
  refine cop_intro ?ha (rbound_L b) ?_;(case ha => (simp only [LZ,zo,zc,reduceCtorEq,reduceIte,zz1,zz2,zz3,zz4,zz5,zz6,zz7,zz8,zz9,zza,zzb,zzc,zzd,zze,zzf]) <;> rfl);simp only [LZ,zo,zc,reduceCtorEq,reduceIte,zz1,zz2,zz3,zz4,zz5,zz6,zz7,zz8,zz9,zza,zzb,zzc,zzd,zze,zzf]
  refine hK _ ?_;clear hK K;try simp only [LSj,reduceIte,zze]
  refine LW_ret ?_;simp only [thenL,jumpsL,inBlockL,twoL,bodyQ,LV.lit.injEq,LV.tup.injEq,LV.agg.injEq,LV.sl.injEq,List.cons.injEq,Value.int.injEq,Value.bool.injEq,Value.string.injEq,ByteArray.mk.injEq,exists_eq_left',exists_eq_left,exists_eq_right,LZ,zo,zc,reduceCtorEq,reduceIte,zz1,zz2,zz3,zz4,zz5,zz6,zz7,zz8,zz9,zza,zzb,zzc,zzd,zze,zzf]
set_option maxRecDepth 100000 in
theorem rbytes_L (n : FNode) (h : small n) : LCalls Try.prog 44 [.agg (nodeL n)] (intL (bytesN n)) := by
  have hl := h.2.2.1
  have hb := bytesP_le h.2.2.2
  refine LCalls.of (fun _ => false) Try.func44 rfl (by decide) Try.ntmps44 Try.results44 (by simp) ?_
  intro w0 S0 vs hgl hwf0 hsz hvs;clear hsz hvs hwf0 hgl
  (repeat (first | refine LW_seq ?_ | ((first | (refine LW_region ?_;intro K hK;simp only [LZ,zo,zc,reduceCtorEq,reduceIte,zz1,zz2,zz3,zz4,zz5,zz6,zz7,zz8,zz9,zza,zzb,zzc,zzd,zze,zzf,nodeL,piecesL];refine hK _ ?_;clear hK K) | refine LW_label ?_ | refine LW_skip ?_);try simp only [LSj,reduceIte,zze]) | refine LW_block ?_))
  refine LW_loop (fun k st => ∃ i : Nat,k + i = n.dat.length ∧ st.env 3 = intL (bytesP (n.dat.take i)) ∧ st.env 1 = .ptr 1 0 ∧ st.box 1 = some (nodeL n) ∧ st.env 4 = intL i) n.dat.length ⟨0,by omega,rfl,rfl,rfl,rfl⟩ ?_
  rintro k st ⟨i,hk,e3,e1,b1,e4⟩
  simp only [nodeL,piecesL,rowL] at b1
  by_cases hlt : i < n.dat.length
  · obtain ⟨p,hp⟩ := get_of_lt hlt
    have hd := drop_piece hp
    have hw := w64s (n := i) (by omega)
    have ht := bytesP_take hp
    have hm := bytesP_mono (l := n.dat) (i + 1)
    have hs : IntKind.i64.wrap (((bytesP (n.dat.take i) : Nat) : Int) + p.dat.length) = ((bytesP (n.dat.take (i + 1)) : Nat) : Int) := by rw [w64 (by omega),ht];simp
    (repeat (first | refine LW_seq ?_ | ((first | (refine LW_region ?_;intro K hK;simp only [LZ,zo,zc,reduceCtorEq,reduceIte,zz1,zz2,zz3,zz4,zz5,zz6,zz7,zz8,zz9,zza,zzb,zzc,zzd,zze,zzf,e1,b1,e4];refine hK _ ?_;clear hK K) | refine LW_label ?_ | refine LW_skip ?_);try simp only [LSj,reduceIte,zze]) | refine LW_block ?_))
    refine LW_if ?_;intro X Y hX hY;simp only [LZ,zo,zc,reduceCtorEq,reduceIte,zz1,zz2,zz3,zz4,zz5,zz6,zz7,zz8,zz9,zza,zzb,zzc,zzd,zze,zzf,hlt];refine hX ?_;clear hX hY X Y;try simp only [LSj,reduceIte,zze]
    (repeat (first | refine LW_seq ?_ | ((first | (refine LW_region ?_;intro K hK;simp only [LZ,zo,zc,reduceCtorEq,reduceIte,zz1,zz2,zz3,zz4,zz5,zz6,zz7,zz8,zz9,zza,zzb,zzc,zzd,zze,zzf,e1,b1,e3,e4,hlt,hd,hs,hw];refine hK _ ?_;clear hK K) | refine LW_label ?_ | refine LW_skip ?_);try simp only [LSj,reduceIte,zze]) | refine LW_block ?_))
    exact ⟨k - 1,by omega,i + 1,by omega,(by first | exact rfl | assumption | (simp only [LZ,zo,zc,reduceCtorEq,reduceIte,zz1,zz2,zz3,zz4,zz5,zz6,zz7,zz8,zz9,zza,zzb,zzc,zzd,zze,zzf] <;> exact rfl)),(by first | exact rfl | assumption | (simp only [LZ,zo,zc,reduceCtorEq,reduceIte,zz1,zz2,zz3,zz4,zz5,zz6,zz7,zz8,zz9,zza,zzb,zzc,zzd,zze,zzf,e1] <;> exact rfl)),(by first | exact rfl | assumption | (simp only [LZ,zo,zc,reduceCtorEq,reduceIte,zz1,zz2,zz3,zz4,zz5,zz6,zz7,zz8,zz9,zza,zzb,zzc,zzd,zze,zzf,b1,nodeL,piecesL] <;> exact rfl)),(by first | exact rfl | assumption | (simp only [LZ,zo,zc,reduceCtorEq,reduceIte,zz1,zz2,zz3,zz4,zz5,zz6,zz7,zz8,zz9,zza,zzb,zzc,zzd,zze,zzf] <;> exact rfl))⟩
  · (repeat (first | refine LW_seq ?_ | ((first | (refine LW_region ?_;intro K hK;simp only [LZ,zo,zc,reduceCtorEq,reduceIte,zz1,zz2,zz3,zz4,zz5,zz6,zz7,zz8,zz9,zza,zzb,zzc,zzd,zze,zzf,e1,b1,e4];refine hK _ ?_;clear hK K) | refine LW_label ?_ | refine LW_skip ?_);try simp only [LSj,reduceIte,zze]) | refine LW_block ?_))
    refine LW_if ?_;intro X Y hX hY;simp only [LZ,zo,zc,reduceCtorEq,reduceIte,zz1,zz2,zz3,zz4,zz5,zz6,zz7,zz8,zz9,zza,zzb,zzc,zzd,zze,zzf,hlt];refine hY ?_;clear hX hY X Y;(try simp only [LSj,reduceIte,zze]);(try (refine LW_skip ?_;simp only [LSj,reduceIte,zze]))
    refine LW_exit ?_;simp only [thenL,jumpsL,inBlockL,twoL,reduceIte,Nat.reduceEqDiff]
    (repeat (first | refine LW_seq ?_ | ((first | (refine LW_region ?_;intro K hK;simp only [LZ,zo,zc,reduceCtorEq,reduceIte,zz1,zz2,zz3,zz4,zz5,zz6,zz7,zz8,zz9,zza,zzb,zzc,zzd,zze,zzf,e3];refine hK _ ?_;clear hK K) | refine LW_label ?_ | refine LW_skip ?_);try simp only [LSj,reduceIte,zze]) | refine LW_block ?_))
    refine LW_ret ?_;simp only [thenL,jumpsL,inBlockL,twoL,bodyQ,LV.lit.injEq,LV.tup.injEq,LV.agg.injEq,LV.sl.injEq,List.cons.injEq,Value.int.injEq,Value.bool.injEq,Value.string.injEq,ByteArray.mk.injEq,exists_eq_left',exists_eq_left,exists_eq_right,LZ,zo,zc,reduceCtorEq,reduceIte,zz1,zz2,zz3,zz4,zz5,zz6,zz7,zz8,zz9,zza,zzb,zzc,zzd,zze,zzf]
    rw [List.take_of_length_le (by omega)];rfl
set_option maxRecDepth 100000 in
set_option maxHeartbeats 2000000 in
theorem rextents_L (n : FNode) (h : small n) : LCalls Try.prog 72 [.agg (nodeL n)] (eL (extN n)) := by
  have hl := h.2.2.1
  refine LCalls.of (fun _ => false) Try.func72 rfl (by decide) Try.ntmps72 Try.results72 (by simp) ?_
  intro w0 S0 vs hgl hwf0 hsz hvs;clear hsz hvs hwf0 hgl
  (repeat (first | refine LW_seq ?_ | ((first | (refine LW_region ?_;intro K hK;simp only [LZ,zo,zc,reduceCtorEq,reduceIte,zz1,zz2,zz3,zz4,zz5,zz6,zz7,zz8,zz9,zza,zzb,zzc,zzd,zze,zzf,nodeL,piecesL];refine hK _ ?_;clear hK K) | refine LW_label ?_ | refine LW_skip ?_);try simp only [LSj,reduceIte,zze]) | refine LW_block ?_))
  refine LW_nil (k := 3) (q := 1000) (e := 99) rfl ?_
  refine LW_loop (fun k st => ∃ i : Nat,k + i = n.dat.length ∧ st.env 3 = .sl i (((n.dat.take i).map fun p => ((limN p.pos,limN p.dat.length) : E)).flatMap eE) (.row 1000) ∧ st.row 1000 = some (99,i) ∧ st.env 1 = .ptr 1 0 ∧ st.box 1 = some (nodeL n) ∧ st.env 4 = intL i ∧ st.mode = fun _ => false) n.dat.length ⟨0,by omega,rfl,rfl,rfl,rfl,rfl,rfl⟩ ?_
  rintro k st ⟨i,hk,e3,r3,e1,b1,e4,hmd⟩
  simp only [nodeL,piecesL,rowL] at b1
  by_cases hlt : i < n.dat.length
  · obtain ⟨p,hp⟩ := get_of_lt hlt
    have hd := drop_piece hp
    have hw := w64s (n := i) (by omega)
    have ht := extN_take hp
    have co : LCalls Try.prog 82 [intL p.pos,intL p.dat.length] (.lit (eV (limN p.pos,limN p.dat.length))) := rof_L p.pos p.dat.length
    have hfl : (((n.dat.take i).map fun p => ((limN p.pos,limN p.dat.length) : E)).flatMap eE).length = i * 1 := by
      rw [len_flat eE 1 eE_len,List.length_map,List.length_take,Nat.min_eq_left (by omega)]
    (repeat (first | refine LW_seq ?_ | ((first | (refine LW_region ?_;intro K hK;simp only [LZ,zo,zc,reduceCtorEq,reduceIte,zz1,zz2,zz3,zz4,zz5,zz6,zz7,zz8,zz9,zza,zzb,zzc,zzd,zze,zzf,e1,b1,e4];refine hK _ ?_;clear hK K) | refine LW_label ?_ | refine LW_skip ?_);try simp only [LSj,reduceIte,zze]) | refine LW_block ?_))
    refine LW_if ?_;intro X Y hX hY;simp only [LZ,zo,zc,reduceCtorEq,reduceIte,zz1,zz2,zz3,zz4,zz5,zz6,zz7,zz8,zz9,zza,zzb,zzc,zzd,zze,zzf,hlt];refine hX ?_;clear hX hY X Y;try simp only [LSj,reduceIte,zze]
    (repeat (first | refine LW_seq ?_ | (refine LW_skip ?_;simp only [LSj,reduceIte,zze]) | refine LW_block ?_));refine LW_tail 16 (by kernel_rfl) (by kernel_rfl) (by kernel_rfl) (by first | exact rfl | (rw [hmd];exact rfl)) ?_;intro K hK;simp only [LZ,zo,zc,reduceCtorEq,reduceIte,zz1,zz2,zz3,zz4,zz5,zz6,zz7,zz8,zz9,zza,zzb,zzc,zzd,zze,zzf,e1,b1,e3,e4,r3,hlt,hd,hfl,hmd]
    refine cop_intro ?ha (co) ?_;(case ha => (simp only [LZ,zo,zc,reduceCtorEq,reduceIte,zz1,zz2,zz3,zz4,zz5,zz6,zz7,zz8,zz9,zza,zzb,zzc,zzd,zze,zzf,e1,b1,e3,e4,r3,hlt,hd,hfl,hmd,ceV,oeV]) <;> rfl);simp only [LZ,zo,zc,reduceCtorEq,reduceIte,zz1,zz2,zz3,zz4,zz5,zz6,zz7,zz8,zz9,zza,zzb,zzc,zzd,zze,zzf,e1,b1,e3,e4,r3,hlt,hd,hfl,hmd,ceV,oeV]
    refine ⟨by (repeat' apply And.intro) <;> first | omega | (unfold maxLen;omega) | rfl,?_⟩
    refine hK _ ?_;clear hK K;try simp only [LSj,reduceIte,zze]
    (repeat (first | refine LW_seq ?_ | ((first | (refine LW_region ?_;intro K hK;simp only [LZ,zo,zc,reduceCtorEq,reduceIte,zz1,zz2,zz3,zz4,zz5,zz6,zz7,zz8,zz9,zza,zzb,zzc,zzd,zze,zzf,e4,hw];refine hK _ ?_;clear hK K) | refine LW_label ?_ | refine LW_skip ?_);try simp only [LSj,reduceIte,zze]) | refine LW_block ?_))
    refine ⟨k - 1,by omega,i + 1,by omega,?_,(by first | exact rfl | assumption | (simp only [LZ,zo,zc,reduceCtorEq,reduceIte,zz1,zz2,zz3,zz4,zz5,zz6,zz7,zz8,zz9,zza,zzb,zzc,zzd,zze,zzf] <;> exact rfl)),(by first | exact rfl | assumption | (simp only [LZ,zo,zc,reduceCtorEq,reduceIte,zz1,zz2,zz3,zz4,zz5,zz6,zz7,zz8,zz9,zza,zzb,zzc,zzd,zze,zzf,e1] <;> exact rfl)),(by first | exact rfl | assumption | (simp only [LZ,zo,zc,reduceCtorEq,reduceIte,zz1,zz2,zz3,zz4,zz5,zz6,zz7,zz8,zz9,zza,zzb,zzc,zzd,zze,zzf,b1,nodeL,piecesL] <;> exact rfl)),(by first | exact rfl | assumption | (simp only [LZ,zo,zc,reduceCtorEq,reduceIte,zz1,zz2,zz3,zz4,zz5,zz6,zz7,zz8,zz9,zza,zzb,zzc,zzd,zze,zzf] <;> exact rfl)),(by first | exact rfl | assumption | (simp only [LZ,zo,zc,reduceCtorEq,reduceIte,zz1,zz2,zz3,zz4,zz5,zz6,zz7,zz8,zz9,zza,zzb,zzc,zzd,zze,zzf,hmd] <;> exact rfl))⟩
    simp only [LZ,zo,zc,reduceCtorEq,reduceIte,zz1,zz2,zz3,zz4,zz5,zz6,zz7,zz8,zz9,zza,zzb,zzc,zzd,zze,zzf,e3,ht,List.flatMap_append,List.flatMap_cons,List.flatMap_nil,eE]
  · (repeat (first | refine LW_seq ?_ | ((first | (refine LW_region ?_;intro K hK;simp only [LZ,zo,zc,reduceCtorEq,reduceIte,zz1,zz2,zz3,zz4,zz5,zz6,zz7,zz8,zz9,zza,zzb,zzc,zzd,zze,zzf,e1,b1,e4];refine hK _ ?_;clear hK K) | refine LW_label ?_ | refine LW_skip ?_);try simp only [LSj,reduceIte,zze]) | refine LW_block ?_))
    refine LW_if ?_;intro X Y hX hY;simp only [LZ,zo,zc,reduceCtorEq,reduceIte,zz1,zz2,zz3,zz4,zz5,zz6,zz7,zz8,zz9,zza,zzb,zzc,zzd,zze,zzf,hlt];refine hY ?_;clear hX hY X Y;(try simp only [LSj,reduceIte,zze]);(try (refine LW_skip ?_;simp only [LSj,reduceIte,zze]))
    refine LW_exit ?_;simp only [thenL,jumpsL,inBlockL,twoL,reduceIte,Nat.reduceEqDiff]
    have hi : i = n.dat.length := by omega
    subst hi
    rw [List.take_length] at e3
    have hle : (extN n).length = n.dat.length := by unfold extN;rw [List.length_map]
    refine LW_plain 3 e3 ?_
    (repeat (first | refine LW_seq ?_ | ((first | (refine LW_region ?_;intro K hK;simp only [LZ,zo,zc,reduceCtorEq,reduceIte,zz1,zz2,zz3,zz4,zz5,zz6,zz7,zz8,zz9,zza,zzb,zzc,zzd,zze,zzf];refine hK _ ?_;clear hK K) | refine LW_label ?_ | refine LW_skip ?_);try simp only [LSj,reduceIte,zze]) | refine LW_block ?_))
    refine LW_ret ?_;simp only [thenL,jumpsL,inBlockL,twoL,bodyQ,LV.lit.injEq,LV.tup.injEq,LV.agg.injEq,LV.sl.injEq,List.cons.injEq,Value.int.injEq,Value.bool.injEq,Value.string.injEq,ByteArray.mk.injEq,exists_eq_left',exists_eq_left,exists_eq_right,LZ,zo,zc,reduceCtorEq,reduceIte,zz1,zz2,zz3,zz4,zz5,zz6,zz7,zz8,zz9,zza,zzb,zzc,zzd,zze,zzf,eL,hle]
    rfl
theorem rmayExt_L (l : List E) (hok : ∀ z ∈ l,okE z) (hl : l.length ≤ 1000000) (size : Int) : LCalls Try.prog 71 [eL l,intL size] (boolL (mayE big l size)) := by
  have hbig : ((big : Nat) : Int) = 1099511627776 := rfl
  refine LCalls.of (fun _ => false) Try.func71 rfl (by decide) Try.ntmps71 Try.results71 (by simp) ?_
  intro w0 S0 vs hgl hwf0 hsz hvs;clear hsz hvs hwf0 hgl
  unfold mayE
  by_cases b0 : size < 0
  · (repeat (first | refine LW_seq ?_ | ((first | (refine LW_region ?_;intro K hK;simp only [LZ,zo,zc,reduceCtorEq,reduceIte,zz1,zz2,zz3,zz4,zz5,zz6,zz7,zz8,zz9,zza,zzb,zzc,zzd,zze,zzf,eL,b0];refine hK _ ?_;clear hK K) | refine LW_label ?_ | refine LW_skip ?_);try simp only [LSj,reduceIte,zze]) | refine LW_block ?_))
    refine LW_if ?_;intro X Y hX hY;simp only [LZ,zo,zc,reduceCtorEq,reduceIte,zz1,zz2,zz3,zz4,zz5,zz6,zz7,zz8,zz9,zza,zzb,zzc,zzd,zze,zzf];refine hX ?_;clear hX hY X Y;try simp only [LSj,reduceIte,zze]
    (repeat (first | refine LW_seq ?_ | ((first | (refine LW_region ?_;intro K hK;simp only [LZ,zo,zc,reduceCtorEq,reduceIte,zz1,zz2,zz3,zz4,zz5,zz6,zz7,zz8,zz9,zza,zzb,zzc,zzd,zze,zzf];refine hK _ ?_;clear hK K) | refine LW_label ?_ | refine LW_skip ?_);try simp only [LSj,reduceIte,zze]) | refine LW_block ?_))
    refine LW_ret ?_;simp only [thenL,jumpsL,inBlockL,twoL,bodyQ,LV.lit.injEq,LV.tup.injEq,LV.agg.injEq,LV.sl.injEq,List.cons.injEq,Value.int.injEq,Value.bool.injEq,Value.string.injEq,ByteArray.mk.injEq,exists_eq_left',exists_eq_left,exists_eq_right,LZ,zo,zc,reduceCtorEq,reduceIte,zz1,zz2,zz3,zz4,zz5,zz6,zz7,zz8,zz9,zza,zzb,zzc,zzd,zze,zzf]
    simp;omega
  by_cases b1 : (1099511627776 : Int) < size
  · (repeat (first | refine LW_seq ?_ | ((first | (refine LW_region ?_;intro K hK;simp only [LZ,zo,zc,reduceCtorEq,reduceIte,zz1,zz2,zz3,zz4,zz5,zz6,zz7,zz8,zz9,zza,zzb,zzc,zzd,zze,zzf,eL,b0,b1];refine hK _ ?_;clear hK K) | refine LW_label ?_ | refine LW_skip ?_);try simp only [LSj,reduceIte,zze]) | refine LW_block ?_))
    refine LW_if ?_;intro X Y hX hY;simp only [LZ,zo,zc,reduceCtorEq,reduceIte,zz1,zz2,zz3,zz4,zz5,zz6,zz7,zz8,zz9,zza,zzb,zzc,zzd,zze,zzf];refine hX ?_;clear hX hY X Y;try simp only [LSj,reduceIte,zze]
    (repeat (first | refine LW_seq ?_ | ((first | (refine LW_region ?_;intro K hK;simp only [LZ,zo,zc,reduceCtorEq,reduceIte,zz1,zz2,zz3,zz4,zz5,zz6,zz7,zz8,zz9,zza,zzb,zzc,zzd,zze,zzf];refine hK _ ?_;clear hK K) | refine LW_label ?_ | refine LW_skip ?_);try simp only [LSj,reduceIte,zze]) | refine LW_block ?_))
    refine LW_ret ?_;simp only [thenL,jumpsL,inBlockL,twoL,bodyQ,LV.lit.injEq,LV.tup.injEq,LV.agg.injEq,LV.sl.injEq,List.cons.injEq,Value.int.injEq,Value.bool.injEq,Value.string.injEq,ByteArray.mk.injEq,exists_eq_left',exists_eq_left,exists_eq_right,LZ,zo,zc,reduceCtorEq,reduceIte,zz1,zz2,zz3,zz4,zz5,zz6,zz7,zz8,zz9,zza,zzb,zzc,zzd,zze,zzf]
    simp;omega
  have e : (decide (0 ≤ size) && decide (size ≤ (big : Int)) && chkE (-1) l size) = chkE (-1) l size := by
    rw [decide_eq_true (by omega),decide_eq_true (by omega)];rfl
  rw [e]
  (repeat (first | refine LW_seq ?_ | ((first | (refine LW_region ?_;intro K hK;simp only [LZ,zo,zc,reduceCtorEq,reduceIte,zz1,zz2,zz3,zz4,zz5,zz6,zz7,zz8,zz9,zza,zzb,zzc,zzd,zze,zzf,eL,b0,b1];refine hK _ ?_;clear hK K) | refine LW_label ?_ | refine LW_skip ?_);try simp only [LSj,reduceIte,zze]) | refine LW_block ?_))
  refine LW_if ?_;intro X Y hX hY;simp only [LZ,zo,zc,reduceCtorEq,reduceIte,zz1,zz2,zz3,zz4,zz5,zz6,zz7,zz8,zz9,zza,zzb,zzc,zzd,zze,zzf];refine hY ?_;clear hX hY X Y;(try simp only [LSj,reduceIte,zze]);(try (refine LW_skip ?_;simp only [LSj,reduceIte,zze]))
  (repeat (first | refine LW_seq ?_ | ((first | (refine LW_region ?_;intro K hK;simp only [LZ,zo,zc,reduceCtorEq,reduceIte,zz1,zz2,zz3,zz4,zz5,zz6,zz7,zz8,zz9,zza,zzb,zzc,zzd,zze,zzf];refine hK _ ?_;clear hK K) | refine LW_label ?_ | refine LW_skip ?_);try simp only [LSj,reduceIte,zze]) | refine LW_block ?_))
  refine LW_loop (fun n st => ∃ (i : Nat) (la : Int),n + i = l.length ∧ st.env 0 = eL l ∧ st.env 6 = intL i ∧ st.env 1 = intL size ∧ st.env 5 = intL la ∧ chkE la (l.drop i) size = chkE (-1) l size ∧ st.mode = (fun _ => false)) l.length ⟨0,-1,by omega,rfl,rfl,rfl,rfl,rfl,rfl⟩ ?_
  rintro n st ⟨i,la,hn,e0,e6,h1,h5,hh,hmd⟩
  by_cases hlt : i < l.length
  · obtain ⟨z,hz⟩ := get_of_lt hlt
    have hzo := hok z (List.mem_of_getElem? hz)
    have hd := drop_e hz
    have hw := w64s (n := i) (by omega)
    rw [drop_cons hz,chkE] at hh
    (repeat (first | refine LW_seq ?_ | ((first | (refine LW_region ?_;intro K hK;simp only [LZ,zo,zc,reduceCtorEq,reduceIte,zz1,zz2,zz3,zz4,zz5,zz6,zz7,zz8,zz9,zza,zzb,zzc,zzd,zze,zzf,e0,e6,eL];refine hK _ ?_;clear hK K) | refine LW_label ?_ | refine LW_skip ?_);try simp only [LSj,reduceIte,zze]) | refine LW_block ?_))
    refine LW_if ?_;intro X Y hX hY;simp only [LZ,zo,zc,reduceCtorEq,reduceIte,zz1,zz2,zz3,zz4,zz5,zz6,zz7,zz8,zz9,zza,zzb,zzc,zzd,zze,zzf,hlt];refine hX ?_;clear hX hY X Y;try simp only [LSj,reduceIte,zze]
    by_cases g1 : ((z.2 : Nat) : Int) = 0
    · rw [if_pos (.inl (by omega))] at hh
      (repeat (first | refine LW_seq ?_ | (refine LW_skip ?_;simp only [LSj,reduceIte,zze]) | refine LW_block ?_));refine LW_region ?_;intro K hK;simp only [LZ,zo,zc,reduceCtorEq,reduceIte,zz1,zz2,zz3,zz4,zz5,zz6,zz7,zz8,zz9,zza,zzb,zzc,zzd,zze,zzf,e0,e6,eL,hlt,hd]
      refine cop_intro ?ha (rlong_L hzo) ?_;(case ha => (simp only [LZ,zo,zc,reduceCtorEq,reduceIte,zz1,zz2,zz3,zz4,zz5,zz6,zz7,zz8,zz9,zza,zzb,zzc,zzd,zze,zzf,g1]) <;> rfl);simp only [LZ,zo,zc,reduceCtorEq,reduceIte,zz1,zz2,zz3,zz4,zz5,zz6,zz7,zz8,zz9,zza,zzb,zzc,zzd,zze,zzf,g1]
      refine hK _ ?_;clear hK K;try simp only [LSj,reduceIte,zze]
      refine LW_if ?_;intro X Y hX hY;simp only [LZ,zo,zc,reduceCtorEq,reduceIte,zz1,zz2,zz3,zz4,zz5,zz6,zz7,zz8,zz9,zza,zzb,zzc,zzd,zze,zzf];refine hX ?_;clear hX hY X Y;try simp only [LSj,reduceIte,zze]
      (repeat (first | refine LW_seq ?_ | ((first | (refine LW_region ?_;intro K hK;simp only [LZ,zo,zc,reduceCtorEq,reduceIte,zz1,zz2,zz3,zz4,zz5,zz6,zz7,zz8,zz9,zza,zzb,zzc,zzd,zze,zzf];refine hK _ ?_;clear hK K) | refine LW_label ?_ | refine LW_skip ?_);try simp only [LSj,reduceIte,zze]) | refine LW_block ?_))
      refine LW_ret ?_;simp only [thenL,jumpsL,inBlockL,twoL,bodyQ,LV.lit.injEq,LV.tup.injEq,LV.agg.injEq,LV.sl.injEq,List.cons.injEq,Value.int.injEq,Value.bool.injEq,Value.string.injEq,ByteArray.mk.injEq,exists_eq_left',exists_eq_left,exists_eq_right,LZ,zo,zc,reduceCtorEq,reduceIte,zz1,zz2,zz3,zz4,zz5,zz6,zz7,zz8,zz9,zza,zzb,zzc,zzd,zze,zzf]
      exact hh
    · by_cases g2 : (z.1 : Int) ≤ la
      · rw [if_pos (.inr g2)] at hh
        (repeat (first | refine LW_seq ?_ | (refine LW_skip ?_;simp only [LSj,reduceIte,zze]) | refine LW_block ?_));refine LW_region ?_;intro K hK;simp only [LZ,zo,zc,reduceCtorEq,reduceIte,zz1,zz2,zz3,zz4,zz5,zz6,zz7,zz8,zz9,zza,zzb,zzc,zzd,zze,zzf,e0,e6,eL,hlt,hd]
        refine cop_intro ?ha (rlong_L hzo) ?_;(case ha => (simp only [LZ,zo,zc,reduceCtorEq,reduceIte,zz1,zz2,zz3,zz4,zz5,zz6,zz7,zz8,zz9,zza,zzb,zzc,zzd,zze,zzf,e0,e6,eL,hlt,hd,g1]) <;> rfl);simp only [LZ,zo,zc,reduceCtorEq,reduceIte,zz1,zz2,zz3,zz4,zz5,zz6,zz7,zz8,zz9,zza,zzb,zzc,zzd,zze,zzf,e0,e6,eL,hlt,hd,g1]
        refine cop_intro ?ha (rat_L hzo) ?_;(case ha => (simp only [LZ,zo,zc,reduceCtorEq,reduceIte,zz1,zz2,zz3,zz4,zz5,zz6,zz7,zz8,zz9,zza,zzb,zzc,zzd,zze,zzf,h5,g2]) <;> rfl);simp only [LZ,zo,zc,reduceCtorEq,reduceIte,zz1,zz2,zz3,zz4,zz5,zz6,zz7,zz8,zz9,zza,zzb,zzc,zzd,zze,zzf,h5,g2]
        refine hK _ ?_;clear hK K;try simp only [LSj,reduceIte,zze]
        refine LW_if ?_;intro X Y hX hY;simp only [LZ,zo,zc,reduceCtorEq,reduceIte,zz1,zz2,zz3,zz4,zz5,zz6,zz7,zz8,zz9,zza,zzb,zzc,zzd,zze,zzf];refine hX ?_;clear hX hY X Y;try simp only [LSj,reduceIte,zze]
        (repeat (first | refine LW_seq ?_ | ((first | (refine LW_region ?_;intro K hK;simp only [LZ,zo,zc,reduceCtorEq,reduceIte,zz1,zz2,zz3,zz4,zz5,zz6,zz7,zz8,zz9,zza,zzb,zzc,zzd,zze,zzf];refine hK _ ?_;clear hK K) | refine LW_label ?_ | refine LW_skip ?_);try simp only [LSj,reduceIte,zze]) | refine LW_block ?_))
        refine LW_ret ?_;simp only [thenL,jumpsL,inBlockL,twoL,bodyQ,LV.lit.injEq,LV.tup.injEq,LV.agg.injEq,LV.sl.injEq,List.cons.injEq,Value.int.injEq,Value.bool.injEq,Value.string.injEq,ByteArray.mk.injEq,exists_eq_left',exists_eq_left,exists_eq_right,LZ,zo,zc,reduceCtorEq,reduceIte,zz1,zz2,zz3,zz4,zz5,zz6,zz7,zz8,zz9,zza,zzb,zzc,zzd,zze,zzf]
        exact hh
      · rw [if_neg (by omega)] at hh
        have hws : IntKind.i64.wrap ((z.1 : Int) + (z.2 : Int)) = (fin z : Int) := by
          obtain ⟨h1,h2⟩ := hzo
          unfold big at h1 h2
          rw [w64 (by omega)];unfold fin;omega
        (repeat (first | refine LW_seq ?_ | (refine LW_skip ?_;simp only [LSj,reduceIte,zze]) | refine LW_block ?_));refine LW_region ?_;intro K hK;simp only [LZ,zo,zc,reduceCtorEq,reduceIte,zz1,zz2,zz3,zz4,zz5,zz6,zz7,zz8,zz9,zza,zzb,zzc,zzd,zze,zzf,e0,e6,eL,hlt,hd]
        refine cop_intro ?ha (rlong_L hzo) ?_;(case ha => (simp only [LZ,zo,zc,reduceCtorEq,reduceIte,zz1,zz2,zz3,zz4,zz5,zz6,zz7,zz8,zz9,zza,zzb,zzc,zzd,zze,zzf,e0,e6,eL,hlt,hd,g1]) <;> rfl);simp only [LZ,zo,zc,reduceCtorEq,reduceIte,zz1,zz2,zz3,zz4,zz5,zz6,zz7,zz8,zz9,zza,zzb,zzc,zzd,zze,zzf,e0,e6,eL,hlt,hd,g1]
        refine cop_intro ?ha (rat_L hzo) ?_;(case ha => (simp only [LZ,zo,zc,reduceCtorEq,reduceIte,zz1,zz2,zz3,zz4,zz5,zz6,zz7,zz8,zz9,zza,zzb,zzc,zzd,zze,zzf,h5,g2]) <;> rfl);simp only [LZ,zo,zc,reduceCtorEq,reduceIte,zz1,zz2,zz3,zz4,zz5,zz6,zz7,zz8,zz9,zza,zzb,zzc,zzd,zze,zzf,h5,g2]
        refine hK _ ?_;clear hK K;try simp only [LSj,reduceIte,zze]
        refine LW_if ?_;intro X Y hX hY;simp only [LZ,zo,zc,reduceCtorEq,reduceIte,zz1,zz2,zz3,zz4,zz5,zz6,zz7,zz8,zz9,zza,zzb,zzc,zzd,zze,zzf];refine hY ?_;clear hX hY X Y;(try simp only [LSj,reduceIte,zze]);(try (refine LW_skip ?_;simp only [LSj,reduceIte,zze]))
        (repeat (first | refine LW_seq ?_ | (refine LW_skip ?_;simp only [LSj,reduceIte,zze]) | refine LW_block ?_));refine LW_any (by kernel_rfl) (by kernel_rfl) (by kernel_rfl) (by first | exact rfl | (rw [hmd];exact rfl)) ?_;intro K hK;simp only [LZ,zo,zc,reduceCtorEq,reduceIte,zz1,zz2,zz3,zz4,zz5,zz6,zz7,zz8,zz9,zza,zzb,zzc,zzd,zze,zzf,e0,e6,eL,hlt,hd]
        refine cop_intro ?ha (rat_L hzo) ?_;(case ha => (simp only [LZ,zo,zc,reduceCtorEq,reduceIte,zz1,zz2,zz3,zz4,zz5,zz6,zz7,zz8,zz9,zza,zzb,zzc,zzd,zze,zzf,e0,e6,eL,hlt,hd]) <;> rfl);simp only [LZ,zo,zc,reduceCtorEq,reduceIte,zz1,zz2,zz3,zz4,zz5,zz6,zz7,zz8,zz9,zza,zzb,zzc,zzd,zze,zzf,e0,e6,eL,hlt,hd]
        refine cop_intro ?ha (rlong_L hzo) ?_;(case ha => (simp only [LZ,zo,zc,reduceCtorEq,reduceIte,zz1,zz2,zz3,zz4,zz5,zz6,zz7,zz8,zz9,zza,zzb,zzc,zzd,zze,zzf,hws]) <;> rfl);simp only [LZ,zo,zc,reduceCtorEq,reduceIte,zz1,zz2,zz3,zz4,zz5,zz6,zz7,zz8,zz9,zza,zzb,zzc,zzd,zze,zzf,hws]
        refine hK _ ?_;clear hK K;try simp only [LSj,reduceIte,zze]
        (repeat (first | refine LW_seq ?_ | ((first | (refine LW_region ?_;intro K hK;simp only [LZ,zo,zc,reduceCtorEq,reduceIte,zz1,zz2,zz3,zz4,zz5,zz6,zz7,zz8,zz9,zza,zzb,zzc,zzd,zze,zzf,e6,hw];refine hK _ ?_;clear hK K) | refine LW_label ?_ | refine LW_skip ?_);try simp only [LSj,reduceIte,zze]) | refine LW_block ?_))
        exact ⟨n - 1,by omega,i + 1,_,by omega,(by first | exact rfl | assumption | (simp only [LZ,zo,zc,reduceCtorEq,reduceIte,zz1,zz2,zz3,zz4,zz5,zz6,zz7,zz8,zz9,zza,zzb,zzc,zzd,zze,zzf,e0] <;> exact rfl)),(by first | exact rfl | assumption | (simp only [LZ,zo,zc,reduceCtorEq,reduceIte,zz1,zz2,zz3,zz4,zz5,zz6,zz7,zz8,zz9,zza,zzb,zzc,zzd,zze,zzf] <;> exact rfl)),(by first | exact rfl | assumption | (simp only [LZ,zo,zc,reduceCtorEq,reduceIte,zz1,zz2,zz3,zz4,zz5,zz6,zz7,zz8,zz9,zza,zzb,zzc,zzd,zze,zzf,h1] <;> exact rfl)),(by first | exact rfl | assumption | (simp only [LZ,zo,zc,reduceCtorEq,reduceIte,zz1,zz2,zz3,zz4,zz5,zz6,zz7,zz8,zz9,zza,zzb,zzc,zzd,zze,zzf] <;> exact rfl)),hh,(by first | exact rfl | assumption | (simp only [LZ,zo,zc,reduceCtorEq,reduceIte,zz1,zz2,zz3,zz4,zz5,zz6,zz7,zz8,zz9,zza,zzb,zzc,zzd,zze,zzf,hmd] <;> exact rfl))⟩
  · (repeat (first | refine LW_seq ?_ | ((first | (refine LW_region ?_;intro K hK;simp only [LZ,zo,zc,reduceCtorEq,reduceIte,zz1,zz2,zz3,zz4,zz5,zz6,zz7,zz8,zz9,zza,zzb,zzc,zzd,zze,zzf,e0,e6,eL];refine hK _ ?_;clear hK K) | refine LW_label ?_ | refine LW_skip ?_);try simp only [LSj,reduceIte,zze]) | refine LW_block ?_))
    refine LW_if ?_;intro X Y hX hY;simp only [LZ,zo,zc,reduceCtorEq,reduceIte,zz1,zz2,zz3,zz4,zz5,zz6,zz7,zz8,zz9,zza,zzb,zzc,zzd,zze,zzf,hlt];refine hY ?_;clear hX hY X Y;(try simp only [LSj,reduceIte,zze]);(try (refine LW_skip ?_;simp only [LSj,reduceIte,zze]))
    refine LW_exit ?_;simp only [thenL,jumpsL,inBlockL,twoL,reduceIte,Nat.reduceEqDiff]
    rw [List.drop_of_length_le (by omega)] at hh
    rw [← hh]
    (repeat (first | refine LW_seq ?_ | ((first | (refine LW_region ?_;intro K hK;simp only [LZ,zo,zc,reduceCtorEq,reduceIte,zz1,zz2,zz3,zz4,zz5,zz6,zz7,zz8,zz9,zza,zzb,zzc,zzd,zze,zzf,h5,h1];refine hK _ ?_;clear hK K) | refine LW_label ?_ | refine LW_skip ?_);try simp only [LSj,reduceIte,zze]) | refine LW_block ?_))
    refine LW_ret ?_;simp only [thenL,jumpsL,inBlockL,twoL,bodyQ,LV.lit.injEq,LV.tup.injEq,LV.agg.injEq,LV.sl.injEq,List.cons.injEq,Value.int.injEq,Value.bool.injEq,Value.string.injEq,ByteArray.mk.injEq,exists_eq_left',exists_eq_left,exists_eq_right,LZ,zo,zc,reduceCtorEq,reduceIte,zz1,zz2,zz3,zz4,zz5,zz6,zz7,zz8,zz9,zza,zzb,zzc,zzd,zze,zzf]
    rfl
end Go.Proofs.Ytpficpldemickaa
