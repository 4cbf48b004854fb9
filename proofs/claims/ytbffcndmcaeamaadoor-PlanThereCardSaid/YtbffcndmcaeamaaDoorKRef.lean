import Derived.Test.YtbffcndmcaeamaaDoorLK
import Derived.Test.YtbffcndmcaeamaaDoorANSpec
section
set_option linter.unusedSimpArgs false
set_option linter.unusedVariables false
namespace Go.Proofs.YtbffcndmcaeamaaDoor
open Go.RowKit AclSpec

set_option maxRecDepth 100000 in
theorem isNaN_L (x : Int) : LCalls Tryd.prog 96 [intL x] (boolL false) := by
  refine LCalls.of (fun _ => false) Tryd.func96 rfl (by decide) Tryd.ntmps96 Tryd.results96 (by simp) ?_
  intro w0 S0 vs hgl hwf0 hsz hvs;clear hsz hvs hwf0 hgl
  refine Wg1 @intL.eq_1 ?_
  refine We1 (fa2 @intL.eq_1 @boolL.eq_1) ?_;try (with_reducible exact trivial)
set_option maxRecDepth 100000 in
theorem cmp_L (x y : Int) : LCalls Tryd.prog 89 [intL x,intL y] (intL (cmpI x y)) := by
  refine LCalls.of (fun _ => false) Tryd.func89 rfl (by decide) Tryd.ntmps89 Tryd.results89 (by simp) ?_
  intro w0 S0 vs hgl hwf0 hsz hvs;clear hsz hvs hwf0 hgl
  refine Wg1 @intL.eq_1 ?_
  refine Wr1 @intL.eq_1 ?_;intro K hK
  refine Wc1 (isNaN_L x) @boolL.eq_1 ?_
  refine hK _ ?_;clear hK K;try refine Wh0 ?_
  refine Wr1 @intL.eq_1 ?_;intro K hK
  refine Wc1 (isNaN_L y) @boolL.eq_1 ?_
  refine hK _ ?_;clear hK K;try refine Wh0 ?_
  refine Wg0 ?_
  refine Wf0 ?_
  refine Wg0 ?_
  refine Wf0 ?_
  refine Wg1 @intL.eq_1 ?_
  by_cases h1 : x < y
  · refine Wt1 @h1 ?_
    refine Wg0 ?_
    refine We1 (fa3 @intL.eq_1 @cmpI.eq_1 @h1) ?_;try (with_reducible exact trivial)
  · refine Wf1 @h1 ?_
    refine Wg1 @intL.eq_1 ?_
    by_cases h2 : y < x
    · refine Wt1 @h2 ?_
      refine Wg0 ?_
      refine We1 (fa4 @intL.eq_1 @cmpI.eq_1 @h1 @h2) ?_;try (with_reducible exact trivial)
    · refine Wf1 @h2 ?_
      refine Wg1 @intL.eq_1 ?_
      refine We1 (fa4 @intL.eq_1 @cmpI.eq_1 @h1 @h2) ?_;try (with_reducible exact trivial)
end Go.Proofs.YtbffcndmcaeamaaDoor
end
section
set_option linter.unusedSimpArgs false
set_option linter.unusedVariables false
namespace Go.Proofs.YtbffcndmcaeamaaDoor
open Nat renaming reduceAdd → zz1,reduceMul → zz2,reduceSub → zz3,reduceLT → zz4,reduceLeDiff → zz5,reduceEqDiff → zz6,reduceBEq → zzf
open Int renaming reduceAdd → zz7,reduceSub → zz8,reduceMul → zz9,reduceLT → zza,reduceLE → zzb,reduceEq → zzc,reduceNeg → zzd,reduceToNat → zze
open Go.RowKit AclSpec

def aceL (a : Ace) : List LV := [intL a.kind,intL a.id,intL a.perm]
theorem aceL_len (a : Ace) : (aceL a).length = 3 := rfl
def acesL (l : List Ace) : LV := rowL aceL l

set_option maxRecDepth 100000 in
theorem or_L (x y : Int) : LCalls Tryd.prog 88 [.sl 2 [intL x,intL y] .no] (intL (orI x y)) := by
  refine LCalls.of (fun _ => false) Tryd.func88 rfl (by decide) Tryd.ntmps88 Tryd.results88 (by simp) ?_
  intro w0 S0 vs hgl hwf0 hsz hvs;clear hsz hvs hwf0 hgl
  refine Wg1 @intL.eq_1 ?_
  refine LW_loop (fun n st => st.env 3 = intL 0 ∧ st.env 6 = .sl 2 [intL x,intL y] .no ∧ st.env 7 = intL 2 ∧ ((n = 2 ∧ st.env 8 = intL 0) ∨ (n = 1 ∧ st.env 8 = intL 1 ∧ x = 0) ∨ (n = 0 ∧ st.env 8 = intL 2 ∧ x = 0 ∧ y = 0))) 2 ⟨rfl,rfl,rfl,.inl ⟨rfl,rfl⟩⟩ ?_
  rintro n st ⟨h3,h6,h7,h⟩
  rcases h with ⟨rfl,h8⟩ | ⟨rfl,h8,hx⟩ | ⟨rfl,h8,hx,hy⟩
  · refine Wg1 (fa5 @h3 @h6 @h7 @h8 @intL.eq_1) ?_
    refine Wt0 ?_
    refine Wg1 (fa5 @h3 @h6 @h7 @h8 @intL.eq_1) ?_
    by_cases hx : x = 0
    · refine Wf1 @hx ?_
      (repeat (first | refine LW_seq ?_ | ((first | (refine LW_region ?_;intro K hK;simp only [LY,reduceCtorEq,reduceIte,zz1,zz2,zz3,zz4,zz5,zz6,zz7,zz8,zz9,zza,zzb,zzc,zzd,zze,zzf,h3,h6,h7,h8,intL,w64 (x := 1) (by decide)];refine hK _ ?_;clear hK K) | refine LW_label ?_ | refine LW_skip ?_);try simp only [LSj,reduceIte,zze]) | refine LW_block ?_))
      exact ⟨1,by omega,h3,h6,h7,.inr (.inl ⟨rfl,rfl,hx⟩)⟩
    · refine Wt1 @hx ?_
      refine Wg1 (fa5 @h3 @h6 @h7 @h8 @intL.eq_1) ?_
      refine We1 (fa3 @intL.eq_1 @orI.eq_1 @hx) ?_;try (with_reducible exact trivial)
  · refine Wg1 (fa5 @h3 @h6 @h7 @h8 @intL.eq_1) ?_
    refine Wt0 ?_
    refine Wg1 (fa5 @h3 @h6 @h7 @h8 @intL.eq_1) ?_
    by_cases hy : y = 0
    · refine Wf1 @hy ?_
      (repeat (first | refine LW_seq ?_ | ((first | (refine LW_region ?_;intro K hK;simp only [LY,reduceCtorEq,reduceIte,zz1,zz2,zz3,zz4,zz5,zz6,zz7,zz8,zz9,zza,zzb,zzc,zzd,zze,zzf,h3,h6,h7,h8,intL,w64 (x := 2) (by decide)];refine hK _ ?_;clear hK K) | refine LW_label ?_ | refine LW_skip ?_);try simp only [LSj,reduceIte,zze]) | refine LW_block ?_))
      exact ⟨0,by omega,h3,h6,h7,.inr (.inr ⟨rfl,rfl,hx,hy⟩)⟩
    · refine Wt1 @hy ?_
      refine Wg1 (fa5 @h3 @h6 @h7 @h8 @intL.eq_1) ?_
      refine We1 (fa3 @intL.eq_1 @orI.eq_1 @hx) ?_;try (with_reducible exact trivial)
  · refine Wg1 (fa5 @h3 @h6 @h7 @h8 @intL.eq_1) ?_
    refine Wf0 ?_
    refine LW_exit ?_;simp only [thenL,jumpsL,inBlockL,twoL,reduceIte,Nat.reduceEqDiff]
    refine Wg1 (fa2 @h3 @intL.eq_1) ?_
    refine We1 (fa4 @intL.eq_1 @orI.eq_1 @hx @hy) ?_;try (with_reducible exact trivial)

set_option maxRecDepth 100000 in
theorem compare_L (a b : Ace) : LCalls Tryd.prog 75 [.agg (aceL a),.agg (aceL b)] (intL (cmpA a b)) := by
  refine LCalls.of (fun _ => false) Tryd.func75 rfl (by decide) Tryd.ntmps75 Tryd.results75 (by simp) ?_
  intro w0 S0 vs hgl hwf0 hsz hvs;clear hsz hvs hwf0 hgl
  refine Wg1 (fa2 @aceL.eq_1 @intL.eq_1) ?_
  (repeat (first | refine LW_seq ?_ | (refine LW_skip ?_;simp only [LSj,reduceIte,zze]) | refine LW_block ?_));refine LW_tail 10 (by kernel_rfl) (by kernel_rfl) (by kernel_rfl) (by first | exact rfl | (rw [hmd];exact rfl)) ?_;intro K hK;simp only [LY,reduceCtorEq,reduceIte,zz1,zz2,zz3,zz4,zz5,zz6,zz7,zz8,zz9,zza,zzb,zzc,zzd,zze,zzf,aceL,intL]
  refine Wc1 (cmp_L a.kind b.kind) (fa2 @aceL.eq_1 @intL.eq_1) ?_
  refine Wc1 (cmp_L a.id b.id) (fa2 @aceL.eq_1 @intL.eq_1) ?_
  refine Wc1 (or_L (cmpI a.kind b.kind) (cmpI a.id b.id)) (fa2 @aceL.eq_1 @intL.eq_1) ?_
  refine hK _ ?_;clear hK K;try refine Wh0 ?_
  refine We1 (fa2 @intL.eq_1 @cmpA.eq_1) ?_;try (with_reducible exact trivial)

set_option maxRecDepth 100000 in
theorem good_L (a : Ace) : LCalls Tryd.prog 74 [.agg (aceL a)] (boolL (goodB a)) := by
  refine LCalls.of (fun _ => false) Tryd.func74 rfl (by decide) Tryd.ntmps74 Tryd.results74 (by simp) ?_
  intro w0 S0 vs hgl hwf0 hsz hvs;clear hsz hvs hwf0 hgl
  refine Wg1 (fa2 @aceL.eq_1 @intL.eq_1) ?_
  (repeat (first | refine LW_seq ?_ | (refine LW_skip ?_;simp only [LSj,reduceIte,zze]) | refine LW_block ?_));refine LW_region ?_;intro K hK;simp only [LY,reduceCtorEq,reduceIte,zz1,zz2,zz3,zz4,zz5,zz6,zz7,zz8,zz9,zza,zzb,zzc,zzd,zze,zzf,aceL];(repeat' (first | ((with_reducible refine gop_t (fun hg => ?_) (fun hg => ?_)) <;> simp only [LY,reduceCtorEq,reduceIte,zz1,zz2,zz3,zz4,zz5,zz6,zz7,zz8,zz9,zza,zzb,zzc,zzd,zze,zzf,hg,aceL]) | ((with_reducible refine gop_f (fun hg => ?_) (fun hg => ?_)) <;> simp only [LY,reduceCtorEq,reduceIte,zz1,zz2,zz3,zz4,zz5,zz6,zz7,zz8,zz9,zza,zzb,zzc,zzd,zze,zzf,hg,aceL])));all_goals (refine hK _ ?_;clear hK K;try simp only [LSj,reduceIte,zze])
  · refine Wt0 ?_
    refine Wg0 ?_
    refine We0 ?_;try (with_reducible exact trivial)
    simp [goodB] at *;omega
  · refine Wt0 ?_
    refine Wg0 ?_
    refine We0 ?_;try (with_reducible exact trivial)
    simp [goodB] at *;omega
  · refine Wt0 ?_
    refine Wg0 ?_
    refine We0 ?_;try (with_reducible exact trivial)
    simp [goodB] at *;omega
  · rename_i h1 h2
    have h3 := hg
    simp only [decide_eq_false_iff_not] at h1 h2 h3
    by_cases h4 : 7 < a.perm
    · refine Wt1 @h4 ?_
      refine Wg0 ?_
      refine We0 ?_;try (with_reducible exact trivial)
      simp [goodB];omega
    · refine Wf1 @h4 ?_
      refine Wg1 @aceL.eq_1 ?_
      by_cases h5 : a.kind = 3
      · refine Wt1 @h5 ?_
        refine Wg1 @aceL.eq_1 ?_
        refine We0 ?_;try (with_reducible exact trivial)
        rw [Bool.eq_iff_iff];simp [goodB,h5];omega
      · refine Wf1 @h5 ?_
        (repeat (first | refine LW_seq ?_ | (refine LW_skip ?_;simp only [LSj,reduceIte,zze]) | refine LW_block ?_));refine LW_region ?_;intro K hK;simp only [LY,reduceCtorEq,reduceIte,zz1,zz2,zz3,zz4,zz5,zz6,zz7,zz8,zz9,zza,zzb,zzc,zzd,zze,zzf,aceL];(repeat' (first | ((with_reducible refine gop_t (fun hg => ?_) (fun hg => ?_)) <;> simp only [LY,reduceCtorEq,reduceIte,zz1,zz2,zz3,zz4,zz5,zz6,zz7,zz8,zz9,zza,zzb,zzc,zzd,zze,zzf,hg,aceL]) | ((with_reducible refine gop_f (fun hg => ?_) (fun hg => ?_)) <;> simp only [LY,reduceCtorEq,reduceIte,zz1,zz2,zz3,zz4,zz5,zz6,zz7,zz8,zz9,zza,zzb,zzc,zzd,zze,zzf,hg,aceL])));all_goals (refine hK _ ?_;clear hK K;try simp only [LSj,reduceIte,zze])
        · refine We0 ?_;try (with_reducible exact trivial)
          rw [Bool.eq_iff_iff];simp [goodB,h5] at *;omega
        · refine We0 ?_;try (with_reducible exact trivial)
          rw [Bool.eq_iff_iff];simp [goodB,h5] at *;omega

set_option maxRecDepth 100000 in
theorem mask_L (l : List Ace) (hl : l.length ≤ maxLen) : LCalls Tryd.prog 76 [acesL l] (.tup [intL (maskB l).1,boolL (maskB l).2]) := by
  unfold maxLen at hl
  refine LCalls.of (fun _ => false) Tryd.func76 rfl (by decide) Tryd.ntmps76 Tryd.results76 (by simp) ?_
  intro w0 S0 vs hgl hwf0 hsz hvs;clear hsz hvs hwf0 hgl
  refine Wg1 @acesL.eq_1 ?_
  refine LW_lab1 (fun n st => ∃ i : Nat,n + i = l.length ∧ st.env 0 = acesL l ∧ st.env 4 = intL i ∧ maskB l = maskB (l.drop i)) rfl ?_ ?_
  · intro hJ
    refine Wl1 @acesL.eq_1 ?_
    exact hJ.out l.length _ ⟨0,by omega,rfl,rfl,rfl⟩
  · rintro n st ⟨i,hn,h0,h4,hm⟩
    refine Wg1 (fa3 @h0 @h4 @acesL.eq_1) ?_
    by_cases hlt : i < l.length
    · obtain ⟨a,ha⟩ := get_of_lt hlt
      have hd := drop_flat aceL 3 aceL_len ha
      have hw := w64s (n := i) (by omega)
      refine Wt1 @hlt ?_
      refine Wg1 (fa6 @h0 @h4 @acesL.eq_1 @hlt @hd @aceL.eq_1) ?_
      by_cases hk : a.kind = 3
      · refine Wt1 @hk ?_
        refine Wg1 (fa6 @h0 @h4 @acesL.eq_1 @hlt @hd @aceL.eq_1) ?_
        refine We0 ?_;try (with_reducible exact trivial)
        rw [hm,maskB_hit ha hk];exact ⟨rfl,rfl⟩
      · refine Wf1 @hk ?_
        refine Wg1 (fa4 @h0 @h4 @acesL.eq_1 @hw) ?_
        refine LW_goto ?_;simp only [thenL,jumpsL,inBlockL,twoL,true_and]
        exact ⟨n - 1,by omega,i + 1,by omega,h0,rfl,by rw [hm,maskB_miss ha hk]⟩
    · refine Wf1 @hlt ?_
      refine Wg1 @h0 ?_
      refine We0 ?_;try (with_reducible exact trivial)
      rw [hm,maskB_end (by omega)];exact ⟨rfl,rfl⟩

set_option maxRecDepth 100000 in
theorem may_L (l : List Ace) (hl : l.length ≤ maxLen) : LCalls Tryd.prog 65 [acesL l] (boolL (mayA l)) := by
  have hl0 := hl
  unfold maxLen at hl
  refine LCalls.of (fun _ => false) Tryd.func65 rfl (by decide) Tryd.ntmps65 Tryd.results65 (by simp) ?_
  intro w0 S0 vs hgl hwf0 hsz hvs;clear hsz hvs hwf0 hgl
  refine Wg1 @acesL.eq_1 ?_
  refine LW_lab1 (fun n st => ∃ i : Nat,n + i = l.length ∧ l.length ≤ 16 ∧ st.env 0 = acesL l ∧ st.env 3 = intL i ∧ chkAt l 0 = chkAt l i) rfl ?_ ?_
  · intro hJ
    refine Wg1 @acesL.eq_1 ?_
    by_cases h16 : (16 : Int) < l.length
    · refine Wt1 @h16 ?_
      refine Wg0 ?_
      refine We0 ?_;try (with_reducible exact trivial)
      rw [mayA_long (by omega)]
    · refine Wf1 @h16 ?_
      refine Wl1 @acesL.eq_1 ?_
      exact hJ.out l.length _ ⟨0,by omega,by omega,rfl,rfl,rfl⟩
  · rintro n st ⟨i,hn,h16,h0,h3,hm⟩
    refine Wg1 (fa3 @h0 @h3 @acesL.eq_1) ?_
    by_cases hlt : i < l.length
    · obtain ⟨a,ha⟩ := get_of_lt hlt
      have hd := drop_flat aceL 3 aceL_len ha
      have hw := w64s (n := i) (by omega)
      refine Wt1 @hlt ?_
      cases hgd : goodB a
      · refine Wn1 (fa6 @h0 @h3 @acesL.eq_1 @hlt @hd @aceL.eq_1) ?_;intro K hK
        refine Wc1 (good_L a) (fa7 @h0 @h3 @acesL.eq_1 @hlt @hd @aceL.eq_1 @hgd) ?_
        refine hK _ ?_;clear hK K;try refine Wh0 ?_
        refine Wt0 ?_
        refine Wg0 ?_
        refine We0 ?_;try (with_reducible exact trivial)
        rw [mayA_bad (hm.trans (chkAt_bad ha hgd))]
      · by_cases hi0 : 0 < i
        · obtain ⟨b,hb⟩ := get_of_lt (l := l) (i := i - 1) (by omega)
          have hdb := drop_flat aceL 3 aceL_len hb
          have hwp := w64p (n := i) hi0 (by omega)
          have hi1 : i - 1 < l.length := by omega
          have hi0' : (0 : Int) < i := by omega
          have hst := chkAt_at hi0 ha hb hgd
          refine Wn1 (fa6 @h0 @h3 @acesL.eq_1 @hlt @hd @aceL.eq_1) ?_;intro K hK
          refine Wc1 (good_L a) (fa11 @h0 @h3 @acesL.eq_1 @hlt @hd @aceL.eq_1 @hgd @hi0' @hwp @hi1 @hdb) ?_
          refine Wc1 (compare_L b a) (fa6 @h0 @h3 @acesL.eq_1 @hlt @hd @aceL.eq_1) ?_
          refine hK _ ?_;clear hK K;try refine Wh0 ?_
          by_cases hc : 0 ≤ cmpA b a
          · refine Wt1 @hc ?_
            refine Wg0 ?_
            refine We0 ?_;try (with_reducible exact trivial)
            rw [mayA_bad];rw [hm,hst];simp;omega
          · refine Wf1 @hc ?_
            refine Wg1 (fa2 @h3 @hw) ?_
            refine LW_goto ?_;simp only [thenL,jumpsL,inBlockL,twoL,true_and]
            exact ⟨n - 1,by omega,i + 1,by omega,h16,h0,rfl,by rw [hm,hst];simp;omega⟩
        · obtain rfl : i = 0 := by omega
          have hlt' : (0 : Int) < l.length := by omega
          refine Wn1 (fa6 @h0 @h3 @acesL.eq_1 @hlt' @hd @aceL.eq_1) ?_;intro K hK
          refine Wc1 (good_L a) (fa7 @h0 @h3 @acesL.eq_1 @hlt' @hd @aceL.eq_1 @hgd) ?_
          refine hK _ ?_;clear hK K;try refine Wh0 ?_
          refine Wf0 ?_
          refine Wg1 (fa2 @h3 @hw) ?_
          refine LW_goto ?_;simp only [thenL,jumpsL,inBlockL,twoL,true_and]
          exact ⟨n - 1,by omega,1,by omega,h16,h0,rfl,by rw [chkAt_first ha hgd]⟩
    · refine Wf1 @hlt ?_
      have hch : chkAt l 0 = true := by rw [hm,chkAt_end (by omega)]
      refine Wr1 (fa2 @h0 @acesL.eq_1) ?_;intro K hK
      refine Wc1 (mask_L l hl0) (fa2 @h0 @acesL.eq_1) ?_
      refine hK _ ?_;clear hK K;try refine Wh0 ?_
      rw [mayA_end h16 hch]
      cases hm2 : (maskB l).2
      · (repeat (first | refine LW_seq ?_ | (refine LW_skip ?_;simp only [LSj,reduceIte,zze]) | refine LW_block ?_));refine LW_region ?_;intro K hK;simp only [LY,reduceCtorEq,reduceIte,zz1,zz2,zz3,zz4,zz5,zz6,zz7,zz8,zz9,zza,zzb,zzc,zzd,zze,zzf,h0,acesL,hm2];(repeat' (first | ((with_reducible refine gop_t (fun hg => ?_) (fun hg => ?_)) <;> simp only [LY,reduceCtorEq,reduceIte,zz1,zz2,zz3,zz4,zz5,zz6,zz7,zz8,zz9,zza,zzb,zzc,zzd,zze,zzf,hg,h0,acesL,hm2]) | ((with_reducible refine gop_f (fun hg => ?_) (fun hg => ?_)) <;> simp only [LY,reduceCtorEq,reduceIte,zz1,zz2,zz3,zz4,zz5,zz6,zz7,zz8,zz9,zza,zzb,zzc,zzd,zze,zzf,hg,h0,acesL,hm2])));all_goals (refine hK _ ?_;clear hK K;try simp only [LSj,reduceIte,zze])
        refine We0 ?_;try (with_reducible exact trivial)
        cases l <;> simp
        omega
      · (repeat (first | refine LW_seq ?_ | (refine LW_skip ?_;simp only [LSj,reduceIte,zze]) | refine LW_block ?_));refine LW_region ?_;intro K hK;simp only [LY,reduceCtorEq,reduceIte,zz1,zz2,zz3,zz4,zz5,zz6,zz7,zz8,zz9,zza,zzb,zzc,zzd,zze,zzf,h0,acesL,hm2];(repeat' (first | ((with_reducible refine gop_t (fun hg => ?_) (fun hg => ?_)) <;> simp only [LY,reduceCtorEq,reduceIte,zz1,zz2,zz3,zz4,zz5,zz6,zz7,zz8,zz9,zza,zzb,zzc,zzd,zze,zzf,hg,h0,acesL,hm2]) | ((with_reducible refine gop_f (fun hg => ?_) (fun hg => ?_)) <;> simp only [LY,reduceCtorEq,reduceIte,zz1,zz2,zz3,zz4,zz5,zz6,zz7,zz8,zz9,zza,zzb,zzc,zzd,zze,zzf,hg,h0,acesL,hm2])));all_goals (refine hK _ ?_;clear hK K;try simp only [LSj,reduceIte,zze])
        refine We0 ?_;try (with_reducible exact trivial)
        rfl
end Go.Proofs.YtbffcndmcaeamaaDoor
end
section
set_option linter.unusedSimpArgs false
set_option linter.unusedVariables false
namespace Go.Proofs.YtbffcndmcaeamaaDoor
open Go.RowKit AclSpec

end Go.Proofs.YtbffcndmcaeamaaDoor
end
section
set_option linter.unusedSimpArgs false
set_option linter.unusedVariables false
namespace Go.Proofs.YtbffcndmcaeamaaDoor
open Nat renaming reduceAdd → zz1,reduceMul → zz2,reduceSub → zz3,reduceLT → zz4,reduceLeDiff → zz5,reduceEqDiff → zz6,reduceBEq → zzf
open Int renaming reduceAdd → zz7,reduceSub → zz8,reduceMul → zz9,reduceLT → zza,reduceLE → zzb,reduceEq → zzc,reduceNeg → zzd,reduceToNat → zze
open Go.RowKit AclSpec

set_option maxRecDepth 100000 in
theorem race_L (a : Ace) : LCalls Tryd.prog 56 [.agg (aceL a)] (boolL (goodB a)) := by
  refine LCalls.of (fun _ => false) Tryd.func56 rfl (by decide) Tryd.ntmps56 Tryd.results56 (by simp) ?_
  intro w0 S0 vs hgl hwf0 hsz hvs;clear hsz hvs hwf0 hgl
  refine Wg1 @aceL.eq_1 ?_
  (repeat (first | refine LW_seq ?_ | (refine LW_skip ?_;simp only [LSj,reduceIte,zze]) | refine LW_block ?_));refine LW_region ?_;intro K hK;simp only [LY,reduceCtorEq,reduceIte,zz1,zz2,zz3,zz4,zz5,zz6,zz7,zz8,zz9,zza,zzb,zzc,zzd,zze,zzf,aceL];(repeat' (first | ((with_reducible refine gop_t (fun hg => ?_) (fun hg => ?_)) <;> simp only [LY,reduceCtorEq,reduceIte,zz1,zz2,zz3,zz4,zz5,zz6,zz7,zz8,zz9,zza,zzb,zzc,zzd,zze,zzf,hg,aceL]) | ((with_reducible refine gop_f (fun hg => ?_) (fun hg => ?_)) <;> simp only [LY,reduceCtorEq,reduceIte,zz1,zz2,zz3,zz4,zz5,zz6,zz7,zz8,zz9,zza,zzb,zzc,zzd,zze,zzf,hg,aceL])));all_goals (refine hK _ ?_;clear hK K;try simp only [LSj,reduceIte,zze])
  all_goals
    refine We0 ?_;try (with_reducible exact trivial)
    rw [Bool.eq_iff_iff];simp [goodB] at *;omega
set_option maxRecDepth 100000 in
theorem rless_L (a b : Ace) : LCalls Tryd.prog 57 [.agg (aceL a),.agg (aceL b)] (boolL (decide (cmpA a b < 0))) := by
  refine LCalls.of (fun _ => false) Tryd.func57 rfl (by decide) Tryd.ntmps57 Tryd.results57 (by simp) ?_
  intro w0 S0 vs hgl hwf0 hsz hvs;clear hsz hvs hwf0 hgl
  refine Wg1 @aceL.eq_1 ?_
  (repeat (first | refine LW_seq ?_ | (refine LW_skip ?_;simp only [LSj,reduceIte,zze]) | refine LW_block ?_));refine LW_region ?_;intro K hK;simp only [LY,reduceCtorEq,reduceIte,zz1,zz2,zz3,zz4,zz5,zz6,zz7,zz8,zz9,zza,zzb,zzc,zzd,zze,zzf,aceL];(repeat' (first | ((with_reducible refine gop_t (fun hg => ?_) (fun hg => ?_)) <;> simp only [LY,reduceCtorEq,reduceIte,zz1,zz2,zz3,zz4,zz5,zz6,zz7,zz8,zz9,zza,zzb,zzc,zzd,zze,zzf,hg,aceL]) | ((with_reducible refine gop_f (fun hg => ?_) (fun hg => ?_)) <;> simp only [LY,reduceCtorEq,reduceIte,zz1,zz2,zz3,zz4,zz5,zz6,zz7,zz8,zz9,zza,zzb,zzc,zzd,zze,zzf,hg,aceL])));all_goals (refine hK _ ?_;clear hK K;try simp only [LSj,reduceIte,zze])
  all_goals
    refine We0 ?_;try (with_reducible exact trivial)
    rw [Bool.eq_iff_iff];simp [cmpA_lt] at *;omega
def needsB (l : List Ace) : Bool := !(maskB l).2 && !l.isEmpty
set_option maxRecDepth 100000 in
theorem rneeds_L (l : List Ace) (hl : l.length ≤ maxLen) : LCalls Tryd.prog 58 [acesL l] (boolL (needsB l)) := by
  unfold maxLen at hl
  refine LCalls.of (fun _ => false) Tryd.func58 rfl (by decide) Tryd.ntmps58 Tryd.results58 (by simp) ?_
  intro w0 S0 vs hgl hwf0 hsz hvs;clear hsz hvs hwf0 hgl
  refine Wg1 @acesL.eq_1 ?_
  refine LW_loop (fun n st => ∃ i : Nat,n + i = l.length ∧ st.env 0 = acesL l ∧ st.env 3 = intL i ∧ maskB l = maskB (l.drop i)) l.length ⟨0,by omega,rfl,rfl,rfl⟩ ?_
  rintro n st ⟨i,hn,h0,h3,hm⟩
  refine Wg1 (fa3 @h0 @h3 @acesL.eq_1) ?_
  by_cases hlt : i < l.length
  · obtain ⟨a,ha⟩ := get_of_lt hlt
    have hd := drop_flat aceL 3 aceL_len ha
    have hw := w64s (n := i) (by omega)
    refine Wt1 @hlt ?_
    refine Wg1 (fa6 @h0 @h3 @acesL.eq_1 @hlt @hd @aceL.eq_1) ?_
    by_cases hk : a.kind = 3
    · refine Wt1 @hk ?_
      refine Wg0 ?_
      refine We0 ?_;try (with_reducible exact trivial)
      rw [needsB,hm,maskB_hit ha hk];rfl
    · refine Wf1 @hk ?_
      refine Wg1 (fa2 @h3 @hw) ?_
      exact ⟨n - 1,by omega,i + 1,by omega,h0,rfl,by rw [hm,maskB_miss ha hk]⟩
  · refine Wf1 @hlt ?_
    refine LW_exit ?_;simp only [thenL,jumpsL,inBlockL,twoL,reduceIte,Nat.reduceEqDiff]
    refine Wg1 (fa2 @h0 @acesL.eq_1) ?_
    refine We0 ?_;try (with_reducible exact trivial)
    rw [needsB,hm,maskB_end (by omega)]
    cases l <;> simp
set_option maxRecDepth 100000 in
theorem rmay_L (l : List Ace) (hl : l.length ≤ maxLen) : LCalls Tryd.prog 46 [acesL l] (boolL (mayA l)) := by
  have hl0 := hl
  unfold maxLen at hl
  refine LCalls.of (fun _ => false) Tryd.func46 rfl (by decide) Tryd.ntmps46 Tryd.results46 (by simp) ?_
  intro w0 S0 vs hgl hwf0 hsz hvs;clear hsz hvs hwf0 hgl
  refine Wg1 @acesL.eq_1 ?_
  refine LW_loop (fun n st => ∃ i : Nat,n + i = l.length ∧ st.env 0 = acesL l ∧ st.env 3 = intL i ∧ chkAt l 0 = chkAt l i) l.length ⟨0,by omega,rfl,rfl,rfl⟩ ?_
  rintro n st ⟨i,hn,h0,h3,hm⟩
  refine Wg1 (fa3 @h0 @h3 @acesL.eq_1) ?_
  by_cases hlt : i < l.length
  · obtain ⟨a,ha⟩ := get_of_lt hlt
    have hd := drop_flat aceL 3 aceL_len ha
    have hw := w64s (n := i) (by omega)
    refine Wt1 @hlt ?_
    cases hgd : goodB a
    · refine Wn1 (fa6 @h0 @h3 @acesL.eq_1 @hlt @hd @aceL.eq_1) ?_;intro K hK
      refine Wc1 (race_L a) (fa7 @h0 @h3 @acesL.eq_1 @hlt @hd @aceL.eq_1 @hgd) ?_
      refine hK _ ?_;clear hK K;try refine Wh0 ?_
      refine Wt0 ?_
      refine Wg0 ?_
      refine We0 ?_;try (with_reducible exact trivial)
      rw [mayA_bad (hm.trans (chkAt_bad ha hgd))]
    · by_cases hi0 : 0 < i
      · obtain ⟨b,hb⟩ := get_of_lt (l := l) (i := i - 1) (by omega)
        have hdb := drop_flat aceL 3 aceL_len hb
        have hwp := w64p (n := i) hi0 (by omega)
        have hi1 : i - 1 < l.length := by omega
        have hi0' : (0 : Int) < i := by omega
        have hst := chkAt_at hi0 ha hb hgd
        refine Wn1 (fa6 @h0 @h3 @acesL.eq_1 @hlt @hd @aceL.eq_1) ?_;intro K hK
        refine Wc1 (race_L a) (fa11 @h0 @h3 @acesL.eq_1 @hlt @hd @aceL.eq_1 @hgd @hi0' @hwp @hi1 @hdb) ?_
        refine Wc1 (rless_L b a) (fa6 @h0 @h3 @acesL.eq_1 @hlt @hd @aceL.eq_1) ?_
        refine hK _ ?_;clear hK K;try refine Wh0 ?_
        by_cases hc : cmpA b a < 0
        · refine Wf1 @hc ?_
          refine Wg1 (fa2 @h3 @hw) ?_
          exact ⟨n - 1,by omega,i + 1,by omega,h0,rfl,by rw [hm,hst];simp [hc]⟩
        · refine Wt1 @hc ?_
          refine Wg0 ?_
          refine We0 ?_;try (with_reducible exact trivial)
          rw [mayA_bad];rw [hm,hst];simp [hc]
      · obtain rfl : i = 0 := by omega
        have hlt' : (0 : Int) < l.length := by omega
        refine Wn1 (fa6 @h0 @h3 @acesL.eq_1 @hlt' @hd @aceL.eq_1) ?_;intro K hK
        refine Wc1 (race_L a) (fa7 @h0 @h3 @acesL.eq_1 @hlt' @hd @aceL.eq_1 @hgd) ?_
        refine hK _ ?_;clear hK K;try refine Wh0 ?_
        refine Wf0 ?_
        refine Wg1 (fa2 @h3 @hw) ?_
        exact ⟨n - 1,by omega,1,by omega,h0,rfl,by rw [chkAt_first ha hgd]⟩
  · refine Wf1 @hlt ?_
    refine LW_exit ?_;simp only [thenL,jumpsL,inBlockL,twoL,reduceIte,Nat.reduceEqDiff]
    have hch : chkAt l 0 = true := by rw [hm,chkAt_end (by omega)]
    by_cases h16 : (l.length : Int) ≤ 16
    · refine Wr1 (fa3 @h0 @acesL.eq_1 @h16) ?_;intro K hK
      refine Wc1 (rneeds_L l hl0) (fa2 @h0 @acesL.eq_1) ?_
      refine hK _ ?_;clear hK K;try refine Wh0 ?_
      refine We0 ?_;try (with_reducible exact trivial)
      rw [mayA_end (by omega) hch,needsB];simp
    · refine Wr1 (fa3 @h0 @acesL.eq_1 @h16) ?_;intro K hK
      refine hK _ ?_;clear hK K;try refine Wh0 ?_
      refine We0 ?_;try (with_reducible exact trivial)
      rw [mayA_long (by omega)]
end Go.Proofs.YtbffcndmcaeamaaDoor
end
