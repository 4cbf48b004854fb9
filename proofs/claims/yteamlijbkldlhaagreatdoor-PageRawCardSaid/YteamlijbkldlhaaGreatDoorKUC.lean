import Derived.Test.YteamlijbkldlhaaGreatDoorKUB
set_option linter.unusedSimpArgs false
set_option linter.unusedVariables false
namespace Go.Proofs.YteamlijbkldlhaaGreatDoor
open Nat renaming reduceAdd → zz1,reduceMul → zz2,reduceSub → zz3,reduceLT → zz4,reduceLeDiff → zz5,reduceEqDiff → zz6,reduceBEq → zzf
open Int renaming reduceAdd → zz7,reduceSub → zz8,reduceMul → zz9,reduceLT → zza,reduceLE → zzb,reduceEq → zzc,reduceNeg → zzd,reduceToNat → zze
open Op renaming operands → zo
open Call renaming operands → zc
open Go.RowKit Go.Proofs AclSpec MetaSpec NodeSpec RecSpec PathSpec

def rdL (b : List UInt8) (s : Rd) : List LV := [bytesL' b,intL s.pos,boolL s.bad]
theorem rLong_lt {b : List UInt8} {s : Rd} (hs : s.pos ≤ b.length) : (rLong b s).1 < half := by
  unfold rLong
  split
  · split
    · show 0 < half;decide
    · rename_i n r hg hc
      show n < half
      omega
  · show 0 < half;decide
set_option maxRecDepth 100000 in
theorem long_S (b : List UInt8) (hb : b.length ≤ 1000000) (s : Rd) (hs : s.pos ≤ b.length) :
    SCalls Tryz.prog 120 [.ptr 1000 0] ⟨[],[],[(1000,rdL b s)]⟩ (intL ((rLong b s).1 : Int)) ⟨[],[],[(2000,rdL b (rLong b s).2)]⟩ [(1000,2000)] := by
  have cg := nget_L b hb s.pos hs
  unfold getP at cg
  refine SCalls.of (fun _ => false) [(1000,2000)] 0 Tryz.func120 rfl (by decide) Tryz.ntmps120 Tryz.results120 (by simp) (.inr ⟨_,_,rfl,by decide,rfl⟩) ?_
  intro w0 S0 vs
  generalize hR : rLong b s = R
  unfold rLong at hR
  have hmd : (fun _ : Nat => false) = fun _ : Nat => false := rfl
  refine Yg0 ?_
  cases hg : getU (b.drop s.pos) 0 1 true with
  | none =>
    rw [hg] at cg hR
    simp only [bytesL',intL,u64L] at cg
    rw [show ((3 : Nat) : Int) = 3 from rfl] at cg
    cases hbad : s.bad
    all_goals
      refine Yn1 (fa3 @hmd @rdL.eq_1 @bytesL'.eq_1) ?_;intro K hK
      refine Yc1 (cg) (fa2 @rdL.eq_1 @bytesL'.eq_1) ?_
      refine hK _ ?_;clear hK K;try refine Wh0 ?_
      refine Yg1 @hbad ?_
      refine Yt0 ?_
      refine Yg0 ?_
      refine LW_ret ?_;simp only [thenL,jumpsL,inBlockL,twoL,bodyS];refine ⟨[(1000,2000)],rfl,.inr ⟨_,_,_,rfl,rfl,(by first | exact rfl | assumption | (simp only [LZ,zo,zc,reduceCtorEq,reduceIte,zz1,zz2,zz3,zz4,zz5,zz6,zz7,zz8,zz9,zza,zzb,zzc,zzd,zze,zzf,rdL,bytesL'] <;> exact rfl)),(by first | exact rfl | assumption | (simp only [LZ,zo,zc,reduceCtorEq,reduceIte,zz1,zz2,zz3,zz4,zz5,zz6,zz7,zz8,zz9,zza,zzb,zzc,zzd,zze,zzf,rdL,bytesL'] <;> exact rfl))⟩,?_⟩;simp only [thenL,jumpsL,inBlockL,twoL,bodyQ,LV.lit.injEq,LV.tup.injEq,LV.agg.injEq,LV.sl.injEq,List.cons.injEq,Value.int.injEq,Value.bool.injEq,Value.string.injEq,ByteArray.mk.injEq,exists_eq_left',exists_eq_left,exists_eq_right,LZ,zo,zc,reduceCtorEq,reduceIte,zz1,zz2,zz3,zz4,zz5,zz6,zz7,zz8,zz9,zza,zzb,zzc,zzd,zze,zzf,rdL,bytesL']
      rw [← hR];exact ⟨rfl,rfl,rfl⟩
  | some q =>
    obtain ⟨n,r⟩ := q
    obtain ⟨hn,hrl,hdr⟩ := get_pos hs hg
    rw [hg] at cg hR
    simp only [bytesL',intL,u64L] at cg
    simp only at hR
    refine Yn1 (fa3 @hmd @rdL.eq_1 @bytesL'.eq_1) ?_;intro K hK
    refine Yc1 (cg) (fa2 @rdL.eq_1 @bytesL'.eq_1) ?_
    refine hK _ ?_;clear hK K;try refine Wh0 ?_
    by_cases hbad : s.bad = true
    · rw [if_pos (.inl hbad)] at hR
      refine Yg1 @hbad ?_
      refine Yt0 ?_
      refine Yg0 ?_
      refine LW_ret ?_;simp only [thenL,jumpsL,inBlockL,twoL,bodyS];refine ⟨[(1000,2000)],rfl,.inr ⟨_,_,_,rfl,rfl,(by first | exact rfl | assumption | (simp only [LZ,zo,zc,reduceCtorEq,reduceIte,zz1,zz2,zz3,zz4,zz5,zz6,zz7,zz8,zz9,zza,zzb,zzc,zzd,zze,zzf,rdL,bytesL'] <;> exact rfl)),(by first | exact rfl | assumption | (simp only [LZ,zo,zc,reduceCtorEq,reduceIte,zz1,zz2,zz3,zz4,zz5,zz6,zz7,zz8,zz9,zza,zzb,zzc,zzd,zze,zzf,rdL,bytesL'] <;> exact rfl))⟩,?_⟩;simp only [thenL,jumpsL,inBlockL,twoL,bodyQ,LV.lit.injEq,LV.tup.injEq,LV.agg.injEq,LV.sl.injEq,List.cons.injEq,Value.int.injEq,Value.bool.injEq,Value.string.injEq,ByteArray.mk.injEq,exists_eq_left',exists_eq_left,exists_eq_right,LZ,zo,zc,reduceCtorEq,reduceIte,zz1,zz2,zz3,zz4,zz5,zz6,zz7,zz8,zz9,zza,zzb,zzc,zzd,zze,zzf,rdL,bytesL']
      rw [← hR];exact ⟨rfl,rfl,rfl⟩
    by_cases hh : half ≤ n
    · rw [if_pos (.inr hh)] at hR
      have hhi : ((9223372036854775807 : Int) < (n : Int)) = True := eq_true (by unfold half at hh;omega)
      refine Yg1 (fa2 @hbad @hhi) ?_
      refine Yt0 ?_
      refine Yg0 ?_
      refine LW_ret ?_;simp only [thenL,jumpsL,inBlockL,twoL,bodyS];refine ⟨[(1000,2000)],rfl,.inr ⟨_,_,_,rfl,rfl,(by first | exact rfl | assumption | (simp only [LZ,zo,zc,reduceCtorEq,reduceIte,zz1,zz2,zz3,zz4,zz5,zz6,zz7,zz8,zz9,zza,zzb,zzc,zzd,zze,zzf,rdL,bytesL'] <;> exact rfl)),(by first | exact rfl | assumption | (simp only [LZ,zo,zc,reduceCtorEq,reduceIte,zz1,zz2,zz3,zz4,zz5,zz6,zz7,zz8,zz9,zza,zzb,zzc,zzd,zze,zzf,rdL,bytesL'] <;> exact rfl))⟩,?_⟩;simp only [thenL,jumpsL,inBlockL,twoL,bodyQ,LV.lit.injEq,LV.tup.injEq,LV.agg.injEq,LV.sl.injEq,List.cons.injEq,Value.int.injEq,Value.bool.injEq,Value.string.injEq,ByteArray.mk.injEq,exists_eq_left',exists_eq_left,exists_eq_right,LZ,zo,zc,reduceCtorEq,reduceIte,zz1,zz2,zz3,zz4,zz5,zz6,zz7,zz8,zz9,zza,zzb,zzc,zzd,zze,zzf,rdL,bytesL']
      rw [← hR];exact ⟨rfl,rfl,rfl⟩
    · rw [if_neg (by rintro (c | c);exact hbad c;exact hh c)] at hR
      have hhi : ¬ ((9223372036854775807 : Int) < (n : Int)) := by unfold half at hh;omega
      have hw : IntKind.i64.wrap (n : Int) = (n : Int) := w64 (by unfold half at hh;omega)
      refine Yg1 (fa2 @hbad @hhi) ?_
      refine Yf0 ?_
      refine Yg1 @hw ?_
      refine LW_ret ?_;simp only [thenL,jumpsL,inBlockL,twoL,bodyS];refine ⟨[(1000,2000)],rfl,.inr ⟨_,_,_,rfl,rfl,(by first | exact rfl | assumption | (simp only [LZ,zo,zc,reduceCtorEq,reduceIte,zz1,zz2,zz3,zz4,zz5,zz6,zz7,zz8,zz9,zza,zzb,zzc,zzd,zze,zzf,rdL,bytesL'] <;> exact rfl)),(by first | exact rfl | assumption | (simp only [LZ,zo,zc,reduceCtorEq,reduceIte,zz1,zz2,zz3,zz4,zz5,zz6,zz7,zz8,zz9,zza,zzb,zzc,zzd,zze,zzf,rdL,bytesL'] <;> exact rfl))⟩,?_⟩;simp only [thenL,jumpsL,inBlockL,twoL,bodyQ,LV.lit.injEq,LV.tup.injEq,LV.agg.injEq,LV.sl.injEq,List.cons.injEq,Value.int.injEq,Value.bool.injEq,Value.string.injEq,ByteArray.mk.injEq,exists_eq_left',exists_eq_left,exists_eq_right,LZ,zo,zc,reduceCtorEq,reduceIte,zz1,zz2,zz3,zz4,zz5,zz6,zz7,zz8,zz9,zza,zzb,zzc,zzd,zze,zzf,rdL,bytesL']
      rw [← hR];exact ⟨rfl,rfl,rfl⟩
set_option maxRecDepth 100000 in
theorem number_S (b : List UInt8) (hb : b.length ≤ 1000000) (s : Rd) (hs : s.pos ≤ b.length) (most : Nat) :
    SCalls Tryz.prog 83 [.ptr 1000 0,intL most] ⟨[],[],[(1000,rdL b s)]⟩ (intL ((rNum b most s).1 : Int)) ⟨[],[],[(2000,rdL b (rNum b most s).2)]⟩ [(1000,2000)] := by
  have cl := long_S b hb s hs
  have hlt := rLong_lt hs
  simp only [rdL,bytesL',intL] at cl
  refine SCalls.of (fun _ => false) [(1000,2000)] 0 Tryz.func83 rfl (by decide) Tryz.ntmps83 Tryz.results83 (by simp) (.inr ⟨_,_,rfl,by decide,rfl⟩) ?_
  intro w0 S0 vs
  generalize hR : rNum b most s = R
  unfold rNum at hR
  have hmd : (fun _ : Nat => false) = fun _ : Nat => false := rfl
  refine Yg0 ?_
  (repeat (first | refine LW_seq ?_ | (refine LW_skip ?_;simp only [LSj,reduceIte,zze]) | refine LW_block ?_));refine LW_regionO [(7,⟨_,_,_,_,_,[(1000,1000)],[(2000,1000)],_,[1001000],(cl).toS,rfl,rfl,rfl⟩)] ?_;intro K hK;simp only [LZ,zo,zc,reduceCtorEq,reduceIte,zz1,zz2,zz3,zz4,zz5,zz6,zz7,zz8,zz9,zza,zzb,zzc,zzd,zze,zzf,rdL,bytesL']
  refine hK _ ?_;clear hK K;try refine Wh0 ?_
  by_cases h : most < (rLong b s).1
  · have hi : ((most : Int) < ((rLong b s).1 : Int)) = True := eq_true (by omega)
    rw [if_pos h] at hR
    refine Yg1 @hi ?_
    refine Yt0 ?_
    refine Yg0 ?_
    refine LW_ret ?_;simp only [thenL,jumpsL,inBlockL,twoL,bodyS];refine ⟨[(1000,2000)],rfl,.inr ⟨_,_,_,rfl,rfl,(by first | exact rfl | assumption | (simp only [LZ,zo,zc,reduceCtorEq,reduceIte,zz1,zz2,zz3,zz4,zz5,zz6,zz7,zz8,zz9,zza,zzb,zzc,zzd,zze,zzf,rdL,bytesL'] <;> exact rfl)),(by first | exact rfl | assumption | (simp only [LZ,zo,zc,reduceCtorEq,reduceIte,zz1,zz2,zz3,zz4,zz5,zz6,zz7,zz8,zz9,zza,zzb,zzc,zzd,zze,zzf,rdL,bytesL'] <;> exact rfl))⟩,?_⟩;simp only [thenL,jumpsL,inBlockL,twoL,bodyQ,LV.lit.injEq,LV.tup.injEq,LV.agg.injEq,LV.sl.injEq,List.cons.injEq,Value.int.injEq,Value.bool.injEq,Value.string.injEq,ByteArray.mk.injEq,exists_eq_left',exists_eq_left,exists_eq_right,LZ,zo,zc,reduceCtorEq,reduceIte,zz1,zz2,zz3,zz4,zz5,zz6,zz7,zz8,zz9,zza,zzb,zzc,zzd,zze,zzf,rdL,bytesL']
    rw [← hR];exact ⟨rfl,rfl,rfl⟩
  · have hi : ¬ ((most : Int) < ((rLong b s).1 : Int)) := by omega
    have hw : IntKind.i64.wrap ((rLong b s).1 : Int) = ((rLong b s).1 : Int) := w64 (by unfold half at hlt;omega)
    rw [if_neg h] at hR
    refine Yg1 (fa2 @hi @hw) ?_
    refine Yf0 ?_
    refine Yg1 @hw ?_
    refine LW_ret ?_;simp only [thenL,jumpsL,inBlockL,twoL,bodyS];refine ⟨[(1000,2000)],rfl,.inr ⟨_,_,_,rfl,rfl,(by first | exact rfl | assumption | (simp only [LZ,zo,zc,reduceCtorEq,reduceIte,zz1,zz2,zz3,zz4,zz5,zz6,zz7,zz8,zz9,zza,zzb,zzc,zzd,zze,zzf,rdL,bytesL'] <;> exact rfl)),(by first | exact rfl | assumption | (simp only [LZ,zo,zc,reduceCtorEq,reduceIte,zz1,zz2,zz3,zz4,zz5,zz6,zz7,zz8,zz9,zza,zzb,zzc,zzd,zze,zzf,rdL,bytesL'] <;> exact rfl))⟩,?_⟩;simp only [thenL,jumpsL,inBlockL,twoL,bodyQ,LV.lit.injEq,LV.tup.injEq,LV.agg.injEq,LV.sl.injEq,List.cons.injEq,Value.int.injEq,Value.bool.injEq,Value.string.injEq,ByteArray.mk.injEq,exists_eq_left',exists_eq_left,exists_eq_right,LZ,zo,zc,reduceCtorEq,reduceIte,zz1,zz2,zz3,zz4,zz5,zz6,zz7,zz8,zz9,zza,zzb,zzc,zzd,zze,zzf,rdL,bytesL']
    rw [← hR];exact ⟨rfl,rfl,rfl⟩
theorem getTP_T {b : List UInt8} {i most : Nat} (hi : i ≤ b.length) : (∃ t r,getT (b.drop i) most = some (t,r) ∧ getTP b i most = (t,b.length - r.length,0)) ∨ (getT (b.drop i) most = none ∧ ∃ e : Nat,e ≠ 0 ∧ getTP b i most = ([],i,e)) := by
  unfold getT getTP
  cases hg : getU (b.drop i) 0 1 true with
  | none => exact .inr ⟨rfl,3,by decide,rfl⟩
  | some q =>
    obtain ⟨n,r⟩ := q
    obtain ⟨hn,hrl,hdr⟩ := get_pos hi hg
    simp only
    by_cases h1 : most < n
    · rw [if_pos h1,if_pos (.inl h1)];exact .inr ⟨rfl,13,by decide,rfl⟩
    · by_cases h2 : r.length < n
      · rw [if_neg h1,if_pos h2,if_pos (.inr h2)];exact .inr ⟨rfl,3,by decide,rfl⟩
      · rw [if_neg h1,if_neg h2,if_neg (by rintro (c | c);exact h1 c;exact h2 c)]
        refine .inl ⟨_,_,rfl,?_⟩
        rw [List.length_drop]
        congr 2;omega
set_option maxRecDepth 100000 in
theorem text_S (b : List UInt8) (hb : b.length ≤ 1000000) (s : Rd) (hs : s.pos ≤ b.length) (most : Nat) (hm : most < 9223372036854775808) :
    SCalls Tryz.prog 82 [.ptr 1000 0,intL most] ⟨[],[],[(1000,rdL b s)]⟩ (strL (rText b most s).1) ⟨[],[],[(2000,rdL b (rText b most s).2)]⟩ [(1000,2000)] := by
  have cg := ngettext_L b hb s.pos hs most hm
  refine SCalls.of (fun _ => false) [(1000,2000)] 0 Tryz.func82 rfl (by decide) Tryz.ntmps82 Tryz.results82 (by simp) (.inr ⟨_,_,rfl,by decide,rfl⟩) ?_
  intro w0 S0 vs
  generalize hR : rText b most s = R
  unfold rText at hR
  have hmd : (fun _ : Nat => false) = fun _ : Nat => false := rfl
  refine Yg0 ?_
  rcases getTP_T (b := b) (i := s.pos) (most := most) hs with ⟨t,r,hg,hp⟩ | ⟨hg,e,he,hp⟩
  · rw [hg] at hR
    rw [hp] at cg
    simp only [bytesL',intL] at cg
    simp only at hR
    rw [show ((0 : Nat) : Int) = 0 from rfl] at cg
    by_cases hbad : s.bad = true
    · rw [if_pos hbad] at hR
      refine Yn1 (fa3 @hmd @rdL.eq_1 @bytesL'.eq_1) ?_;intro K hK
      refine Yc1 (cg) (fa2 @rdL.eq_1 @bytesL'.eq_1) ?_
      refine hK _ ?_;clear hK K;try refine Wh0 ?_
      refine Yg1 @hbad ?_
      refine Yt0 ?_
      refine Yg0 ?_
      refine LW_ret ?_;simp only [thenL,jumpsL,inBlockL,twoL,bodyS];refine ⟨[(1000,2000)],rfl,.inr ⟨_,_,_,rfl,rfl,(by first | exact rfl | assumption | (simp only [LZ,zo,zc,reduceCtorEq,reduceIte,zz1,zz2,zz3,zz4,zz5,zz6,zz7,zz8,zz9,zza,zzb,zzc,zzd,zze,zzf,rdL,bytesL'] <;> exact rfl)),(by first | exact rfl | assumption | (simp only [LZ,zo,zc,reduceCtorEq,reduceIte,zz1,zz2,zz3,zz4,zz5,zz6,zz7,zz8,zz9,zza,zzb,zzc,zzd,zze,zzf,rdL,bytesL'] <;> exact rfl))⟩,?_⟩;simp only [thenL,jumpsL,inBlockL,twoL,bodyQ,LV.lit.injEq,LV.tup.injEq,LV.agg.injEq,LV.sl.injEq,List.cons.injEq,Value.int.injEq,Value.bool.injEq,Value.string.injEq,ByteArray.mk.injEq,exists_eq_left',exists_eq_left,exists_eq_right,LZ,zo,zc,reduceCtorEq,reduceIte,zz1,zz2,zz3,zz4,zz5,zz6,zz7,zz8,zz9,zza,zzb,zzc,zzd,zze,zzf,rdL,bytesL']
      rw [← hR];exact ⟨rfl,rfl,rfl⟩
    · rw [if_neg hbad] at hR
      refine Yn1 (fa3 @hmd @rdL.eq_1 @bytesL'.eq_1) ?_;intro K hK
      refine Yc1 (cg) (fa2 @rdL.eq_1 @bytesL'.eq_1) ?_
      refine hK _ ?_;clear hK K;try refine Wh0 ?_
      refine Yg1 @hbad ?_
      refine Yf0 ?_
      refine Yg0 ?_
      refine LW_ret ?_;simp only [thenL,jumpsL,inBlockL,twoL,bodyS];refine ⟨[(1000,2000)],rfl,.inr ⟨_,_,_,rfl,rfl,(by first | exact rfl | assumption | (simp only [LZ,zo,zc,reduceCtorEq,reduceIte,zz1,zz2,zz3,zz4,zz5,zz6,zz7,zz8,zz9,zza,zzb,zzc,zzd,zze,zzf,rdL,bytesL'] <;> exact rfl)),(by first | exact rfl | assumption | (simp only [LZ,zo,zc,reduceCtorEq,reduceIte,zz1,zz2,zz3,zz4,zz5,zz6,zz7,zz8,zz9,zza,zzb,zzc,zzd,zze,zzf,rdL,bytesL'] <;> exact rfl))⟩,?_⟩;simp only [thenL,jumpsL,inBlockL,twoL,bodyQ,LV.lit.injEq,LV.tup.injEq,LV.agg.injEq,LV.sl.injEq,List.cons.injEq,Value.int.injEq,Value.bool.injEq,Value.string.injEq,ByteArray.mk.injEq,exists_eq_left',exists_eq_left,exists_eq_right,LZ,zo,zc,reduceCtorEq,reduceIte,zz1,zz2,zz3,zz4,zz5,zz6,zz7,zz8,zz9,zza,zzb,zzc,zzd,zze,zzf,rdL,bytesL']
      rw [← hR];exact ⟨rfl,rfl,rfl⟩
  · rw [hg] at hR
    rw [hp] at cg
    simp only [bytesL',intL] at cg
    simp only at hR
    have hei : ¬ ((e : Int) = 0) := by omega
    cases hbad : s.bad
    all_goals
      refine Yn1 (fa3 @hmd @rdL.eq_1 @bytesL'.eq_1) ?_;intro K hK
      refine Yc1 (cg) (fa2 @rdL.eq_1 @bytesL'.eq_1) ?_
      refine hK _ ?_;clear hK K;try refine Wh0 ?_
      refine Yg1 (fa2 @hbad @hei) ?_
      refine Yt0 ?_
      refine Yg0 ?_
      refine LW_ret ?_;simp only [thenL,jumpsL,inBlockL,twoL,bodyS];refine ⟨[(1000,2000)],rfl,.inr ⟨_,_,_,rfl,rfl,(by first | exact rfl | assumption | (simp only [LZ,zo,zc,reduceCtorEq,reduceIte,zz1,zz2,zz3,zz4,zz5,zz6,zz7,zz8,zz9,zza,zzb,zzc,zzd,zze,zzf,rdL,bytesL'] <;> exact rfl)),(by first | exact rfl | assumption | (simp only [LZ,zo,zc,reduceCtorEq,reduceIte,zz1,zz2,zz3,zz4,zz5,zz6,zz7,zz8,zz9,zza,zzb,zzc,zzd,zze,zzf,rdL,bytesL'] <;> exact rfl))⟩,?_⟩;simp only [thenL,jumpsL,inBlockL,twoL,bodyQ,LV.lit.injEq,LV.tup.injEq,LV.agg.injEq,LV.sl.injEq,List.cons.injEq,Value.int.injEq,Value.bool.injEq,Value.string.injEq,ByteArray.mk.injEq,exists_eq_left',exists_eq_left,exists_eq_right,LZ,zo,zc,reduceCtorEq,reduceIte,zz1,zz2,zz3,zz4,zz5,zz6,zz7,zz8,zz9,zza,zzb,zzc,zzd,zze,zzf,rdL,bytesL']
      rw [← hR];exact ⟨rfl,rfl,rfl⟩
set_option maxRecDepth 100000 in
theorem kind_S (b : List UInt8) (hb : b.length ≤ 1000000) (s : Rd) (hs : s.pos ≤ b.length) :
    SCalls Tryz.prog 121 [.ptr 1000 0] ⟨[],[],[(1000,rdL b s)]⟩ (intL ((rKind b s).1 : Int)) ⟨[],[],[(2000,rdL b (rKind b s).2)]⟩ [(1000,2000)] := by
  have hbl := bL_len b
  have hip : (0 : Int) ≤ (s.pos : Int) := by omega
  refine SCalls.of (fun _ => false) [(1000,2000)] 0 Tryz.func121 rfl (by decide) Tryz.ntmps121 Tryz.results121 (by simp) (.inr ⟨_,_,rfl,by decide,rfl⟩) ?_
  intro w0 S0 vs
  generalize hR : rKind b s = R
  unfold rKind at hR
  have hmd : (fun _ : Nat => false) = fun _ : Nat => false := rfl
  refine Yg0 ?_
  by_cases h1 : s.pos < b.length
  rotate_left
  · have hei : ((s.pos : Int) = (b.length : Int)) = True := eq_true (by omega)
    rw [List.getElem?_eq_none (by omega)] at hR
    cases hbad : s.bad
    all_goals
      refine Yn1 (fa5 @hmd @rdL.eq_1 @bytesL'.eq_1 @hbad @hei) ?_;intro K hK
      refine hK _ ?_;clear hK K;try refine Wh0 ?_
      refine Yt0 ?_
      refine Yg0 ?_
      refine LW_ret ?_;simp only [thenL,jumpsL,inBlockL,twoL,bodyS];refine ⟨[(1000,2000)],rfl,.inr ⟨_,_,_,rfl,rfl,(by first | exact rfl | assumption | (simp only [LZ,zo,zc,reduceCtorEq,reduceIte,zz1,zz2,zz3,zz4,zz5,zz6,zz7,zz8,zz9,zza,zzb,zzc,zzd,zze,zzf,rdL,bytesL'] <;> exact rfl)),(by first | exact rfl | assumption | (simp only [LZ,zo,zc,reduceCtorEq,reduceIte,zz1,zz2,zz3,zz4,zz5,zz6,zz7,zz8,zz9,zza,zzb,zzc,zzd,zze,zzf,rdL,bytesL'] <;> exact rfl))⟩,?_⟩;simp only [thenL,jumpsL,inBlockL,twoL,bodyQ,LV.lit.injEq,LV.tup.injEq,LV.agg.injEq,LV.sl.injEq,List.cons.injEq,Value.int.injEq,Value.bool.injEq,Value.string.injEq,ByteArray.mk.injEq,exists_eq_left',exists_eq_left,exists_eq_right,LZ,zo,zc,reduceCtorEq,reduceIte,zz1,zz2,zz3,zz4,zz5,zz6,zz7,zz8,zz9,zza,zzb,zzc,zzd,zze,zzf,rdL,bytesL']
      rw [← hR];exact ⟨rfl,rfl,rfl⟩
  have hei : ¬ ((s.pos : Int) = (b.length : Int)) := by omega
  obtain ⟨c,hc⟩ := get_of_lt h1
  have hd := bL_get hc
  simp only [byL] at hd
  rw [hc] at hR
  simp only at hR
  by_cases hbad : s.bad = true
  · rw [if_pos (.inl hbad)] at hR
    refine Yn1 (fa5 @hmd @rdL.eq_1 @bytesL'.eq_1 @hbad @hei) ?_;intro K hK
    refine hK _ ?_;clear hK K;try refine Wh0 ?_
    refine Yt0 ?_
    refine Yg0 ?_
    refine LW_ret ?_;simp only [thenL,jumpsL,inBlockL,twoL,bodyS];refine ⟨[(1000,2000)],rfl,.inr ⟨_,_,_,rfl,rfl,(by first | exact rfl | assumption | (simp only [LZ,zo,zc,reduceCtorEq,reduceIte,zz1,zz2,zz3,zz4,zz5,zz6,zz7,zz8,zz9,zza,zzb,zzc,zzd,zze,zzf,rdL,bytesL'] <;> exact rfl)),(by first | exact rfl | assumption | (simp only [LZ,zo,zc,reduceCtorEq,reduceIte,zz1,zz2,zz3,zz4,zz5,zz6,zz7,zz8,zz9,zza,zzb,zzc,zzd,zze,zzf,rdL,bytesL'] <;> exact rfl))⟩,?_⟩;simp only [thenL,jumpsL,inBlockL,twoL,bodyQ,LV.lit.injEq,LV.tup.injEq,LV.agg.injEq,LV.sl.injEq,List.cons.injEq,Value.int.injEq,Value.bool.injEq,Value.string.injEq,ByteArray.mk.injEq,exists_eq_left',exists_eq_left,exists_eq_right,LZ,zo,zc,reduceCtorEq,reduceIte,zz1,zz2,zz3,zz4,zz5,zz6,zz7,zz8,zz9,zza,zzb,zzc,zzd,zze,zzf,rdL,bytesL']
    rw [← hR];exact ⟨rfl,rfl,rfl⟩
  by_cases h6 : 6 < c.toNat
  · have h6i : ((6 : Int) < (c.toNat : Int)) = True := eq_true (by omega)
    rw [if_pos (.inr h6)] at hR
    refine Yn1 (fa9 @hmd @rdL.eq_1 @bytesL'.eq_1 @hbad @hei @h1 @hip @hd @h6i) ?_;intro K hK
    refine hK _ ?_;clear hK K;try refine Wh0 ?_
    refine Yt0 ?_
    refine Yg0 ?_
    refine LW_ret ?_;simp only [thenL,jumpsL,inBlockL,twoL,bodyS];refine ⟨[(1000,2000)],rfl,.inr ⟨_,_,_,rfl,rfl,(by first | exact rfl | assumption | (simp only [LZ,zo,zc,reduceCtorEq,reduceIte,zz1,zz2,zz3,zz4,zz5,zz6,zz7,zz8,zz9,zza,zzb,zzc,zzd,zze,zzf,rdL,bytesL'] <;> exact rfl)),(by first | exact rfl | assumption | (simp only [LZ,zo,zc,reduceCtorEq,reduceIte,zz1,zz2,zz3,zz4,zz5,zz6,zz7,zz8,zz9,zza,zzb,zzc,zzd,zze,zzf,rdL,bytesL'] <;> exact rfl))⟩,?_⟩;simp only [thenL,jumpsL,inBlockL,twoL,bodyQ,LV.lit.injEq,LV.tup.injEq,LV.agg.injEq,LV.sl.injEq,List.cons.injEq,Value.int.injEq,Value.bool.injEq,Value.string.injEq,ByteArray.mk.injEq,exists_eq_left',exists_eq_left,exists_eq_right,LZ,zo,zc,reduceCtorEq,reduceIte,zz1,zz2,zz3,zz4,zz5,zz6,zz7,zz8,zz9,zza,zzb,zzc,zzd,zze,zzf,rdL,bytesL']
    rw [← hR];exact ⟨rfl,rfl,rfl⟩
  have h6i : ¬ ((6 : Int) < (c.toNat : Int)) := by omega
  rw [if_neg (by rintro (d | d);exact hbad d;exact h6 d)] at hR
  have hw := w64s (n := s.pos) (by omega)
  have hw2 : IntKind.i64.wrap (((s.pos + 1 : Nat) : Int) - 1) = (s.pos : Int) := by rw [show ((s.pos + 1 : Nat) : Int) - 1 = (s.pos : Int) by omega];exact w64 (by omega)
  have hw3 : IntKind.i64.wrap (c.toNat : Int) = (c.toNat : Int) := w64 (by have := c.toNat_lt;omega)
  refine Yn1 (fa9 @hmd @rdL.eq_1 @bytesL'.eq_1 @hbad @hei @h1 @hip @hd @h6i) ?_;intro K hK
  refine hK _ ?_;clear hK K;try refine Wh0 ?_
  refine Yf0 ?_
  refine Yg1 @hw ?_
  refine Yn1 (fa6 @hmd @hw2 @h1 @hip @hd @hw3) ?_;intro K hK
  refine hK _ ?_;clear hK K;try refine Wh0 ?_
  refine LW_ret ?_;simp only [thenL,jumpsL,inBlockL,twoL,bodyS];refine ⟨[(1000,2000)],rfl,.inr ⟨_,_,_,rfl,rfl,(by first | exact rfl | assumption | (simp only [LZ,zo,zc,reduceCtorEq,reduceIte,zz1,zz2,zz3,zz4,zz5,zz6,zz7,zz8,zz9,zza,zzb,zzc,zzd,zze,zzf,rdL,bytesL'] <;> exact rfl)),(by first | exact rfl | assumption | (simp only [LZ,zo,zc,reduceCtorEq,reduceIte,zz1,zz2,zz3,zz4,zz5,zz6,zz7,zz8,zz9,zza,zzb,zzc,zzd,zze,zzf,rdL,bytesL'] <;> exact rfl))⟩,?_⟩;simp only [thenL,jumpsL,inBlockL,twoL,bodyQ,LV.lit.injEq,LV.tup.injEq,LV.agg.injEq,LV.sl.injEq,List.cons.injEq,Value.int.injEq,Value.bool.injEq,Value.string.injEq,ByteArray.mk.injEq,exists_eq_left',exists_eq_left,exists_eq_right,LZ,zo,zc,reduceCtorEq,reduceIte,zz1,zz2,zz3,zz4,zz5,zz6,zz7,zz8,zz9,zza,zzb,zzc,zzd,zze,zzf,rdL,bytesL']
  rw [← hR];exact ⟨rfl,rfl,rfl⟩
end Go.Proofs.YteamlijbkldlhaaGreatDoor
