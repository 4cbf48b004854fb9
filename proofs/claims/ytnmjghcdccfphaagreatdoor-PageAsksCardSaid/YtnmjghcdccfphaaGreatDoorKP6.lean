import Derived.Test.YtnmjghcdccfphaaGreatDoorKP3
import Derived.Test.YtnmjghcdccfphaaGreatDoorL26
section
set_option linter.unusedSimpArgs false
set_option linter.unusedVariables false
namespace Go.Proofs.YtnmjghcdccfphaaGreatDoor
open Nat renaming reduceAdd → zz1,reduceMul → zz2,reduceSub → zz3,reduceLT → zz4,reduceLeDiff → zz5,reduceEqDiff → zz6,reduceBEq → zzf
open Int renaming reduceAdd → zz7,reduceSub → zz8,reduceMul → zz9,reduceLT → zza,reduceLE → zzb,reduceEq → zzc,reduceNeg → zzd,reduceToNat → zze
open Op renaming operands → zo
open Call renaming operands → zc
open Go.RowKit Go.Proofs AclSpec MetaSpec NodeSpec RecSpec PathSpec PageSpec

def pgR (lf : Bool) (l : List Rec) (t : Tok) : List LV := [boolL lf,.sl l.length (l.flatMap recL) t,.sl 0 [] .no,.sl 0 [] .no]
def pgK (lf : Bool) (ks : List (List UInt8)) (ns : List Int) (t u : Tok) : List LV := [boolL lf,.sl 0 [] .no,.sl ks.length (ks.flatMap strE) t,.sl ns.length (ns.flatMap intE) u]
def getRecP (b : List UInt8) (l : List Rec) (i : Int) : List Rec × Int × Bool := if (getRec b i).2.2 = 0 then (l ++ [(getRec b i).1],(getRec b i).2.1,true) else (l,i,false)
set_option maxRecDepth 100000 in
set_option maxHeartbeats 4000000 in
theorem pgetRec_S (lf : Bool) (l : List Rec) (hl : l.length ≤ 1000) (b : List UInt8) (hb : b.length ≤ 1000000) (i : Int) :
  SCalls Tryz.prog 23 [.ptr 1000 0,bytesL' b,intL i] ⟨[(1001,(56,l.length))],[],[(1000,pgR lf l (.row 1001))]⟩
   (.tup [intL (getRecP b l i).2.1,boolL (getRecP b l i).2.2]) ⟨[(2001,(56,(getRecP b l i).1.length))],[],[(2000,pgR lf (getRecP b l i).1 (.row 2001))]⟩ [(1000,2000)] := by
 have cg := rget_L b hb i
 have hfl := recL_flen l
 have hst := recL_strip l
 refine SCalls.of (fun _ => false) [(1000,2000)] 0 Tryz.func23 rfl (by decide) Tryz.ntmps23 Tryz.results23 (by simp) (.inr ⟨_,_,rfl,by decide,rfl⟩) ?_
 intro w0 S0 vs
 generalize hR : getRecP b l i = R
 unfold getRecP at hR
 generalize getRec b i = q at *
 obtain ⟨r,nx,c⟩ := q
 simp only at hR cg
 simp only [recL,nodeL,attrsL,acesL,piecesL,rowL,bytesL',intL,List.cons_append,List.nil_append] at cg
 refine Yg0 ?_
 refine Yr1 (fa2 @pgR.eq_1 @bytesL'.eq_1) ?_;intro K hK
 refine Yc1 (cg) (fa2 @pgR.eq_1 @bytesL'.eq_1) ?_
 refine hK _ ?_;clear hK K;try refine Wh0 ?_
 refine LW_slim (fun st => st.env 0 = .ptr 1000 0 ∧ st.val 0 = vs[0]? ∧ st.env 1 = bytesL' b ∧ st.env 2 = intL i ∧ st.box 1000 = some (pgR lf l (.row 1001)) ∧ st.row 1001 = some (56,l.length) ∧ st.env 8 = .ptr 8 0 ∧ st.box 8 = some (recL r) ∧ st.env 9 = intL nx ∧ st.env 10 = intL c ∧ st.mode = fun _ => false) ⟨Yq0,Yq0,(Yq1 @bytesL'.eq_1),Yq0,(Yq1 @pgR.eq_1),Yq0,Yq0,(Yq1 (fa6 @recL.eq_1 @nodeL.eq_1 @piecesL.eq_1 @attrsL.eq_1 @acesL.eq_1 @rowL.eq_1)),Yq0,Yq0,Yq0⟩ ?_
 rintro st ⟨e0,v0,e1,e2,b1000,r1001,e8,b8,e9,e10,hmd⟩
 simp only [recL,nodeL,attrsL,acesL,piecesL,rowL,List.cons_append,List.nil_append] at b8
 simp only [pgR] at b1000
 by_cases hc : c = 0
 rotate_left
 ·rw [if_neg hc] at hR
  subst hR
  refine Yg1 (fa2 @e10 @hc) ?_
  refine Yt0 ?_
  refine Yg1 @e2 ?_
  refine LW_ret ?_;simp only [thenL,jumpsL,inBlockL,twoL,bodyS];refine ⟨[(1000,2000),(1001,2001)],rfl,.inr ⟨_,_,_,rfl,rfl,(by first | exact rfl | assumption | (simp only [LZ,zo,zc,reduceCtorEq,reduceIte,zz1,zz2,zz3,zz4,zz5,zz6,zz7,zz8,zz9,zza,zzb,zzc,zzd,zze,zzf,e0,v0,b1000,r1001,pgR] <;> exact rfl)),(by first | exact rfl | assumption | (simp only [LZ,zo,zc,reduceCtorEq,reduceIte,zz1,zz2,zz3,zz4,zz5,zz6,zz7,zz8,zz9,zza,zzb,zzc,zzd,zze,zzf,e0,v0,b1000,r1001,pgR] <;> exact rfl))⟩,?_⟩;simp only [thenL,jumpsL,inBlockL,twoL,bodyQ,LV.lit.injEq,LV.tup.injEq,LV.agg.injEq,LV.sl.injEq,List.cons.injEq,Value.int.injEq,Value.bool.injEq,Value.string.injEq,ByteArray.mk.injEq,exists_eq_left',exists_eq_left,exists_eq_right,LZ,zo,zc,reduceCtorEq,reduceIte,zz1,zz2,zz3,zz4,zz5,zz6,zz7,zz8,zz9,zza,zzb,zzc,zzd,zze,zzf,e0,v0,b1000,r1001,pgR]
 rw [if_pos hc] at hR
 subst hR hc
 refine Yg1 @e10 ?_
 refine Yf0 ?_
 (repeat refine LW_seq ?_)
 refine LW_join (fun st => st.env 0 = .ptr 1000 0 ∧ st.val 0 = vs[0]? ∧ st.box 1000 = some (pgR lf (l ++ [r]) (.row 1001)) ∧ st.row 1001 = some (56,l.length + 1) ∧ st.env 9 = intL nx ∧ st.mode = fun _ => false) ?_ ?_
 ·have hap : (l ++ [r]).flatMap recL = l.flatMap recL ++ [strL r.path,intL r.lead,intL r.node.kind,intL r.node.mt.mode,intL r.node.mt.uid,intL r.node.mt.gid,intL r.node.mt.time,.sl r.node.mt.attrs.length (r.node.mt.attrs.flatMap attrL) .no,.sl r.node.mt.acl.length (r.node.mt.acl.flatMap aceL) .no,intL r.node.size,.sl r.node.dat.length (r.node.dat.flatMap pieceL) .no,strL r.node.target,intL r.node.major,intL r.node.minor,intL r.pos] := by
   rw [List.flatMap_append];rfl
  have hal : (l ++ [r]).length = l.length + 1 := by rw [List.length_append,List.length_singleton]
  (repeat (first | refine LW_seq ?_ | (refine LW_skip ?_;simp only [LSj,reduceIte,zze]) | refine LW_block ?_));refine LW_mix2 [] [] (fun _ => false) [(1,[1000,1001]),(2,[1000,1001]),(3,[1000,1001]),(4,[1000,1001]),(6,[1000,1001])] [1,2,3,4,5] [[0,6,7,8,9,10],[6,0,7,8,9,10],[6,7,0,8,9,10]] rfl (by kernel_rfl) (by kernel_rfl) (by kernel_rfl) (by first | exact rfl | exact hmd | simp only [LZ,zo,zc,reduceCtorEq,reduceIte,zz1,zz2,zz3,zz4,zz5,zz6,zz7,zz8,zz9,zza,zzb,zzc,zzd,zze,zzf,e0,b1000,r1001,e8,b8,hmd,hfl,hst]) ?_;intro K hK;simp only [LZ,zo,zc,reduceCtorEq,reduceIte,zz1,zz2,zz3,zz4,zz5,zz6,zz7,zz8,zz9,zza,zzb,zzc,zzd,zze,zzf,e0,b1000,r1001,e8,b8,hmd,hfl,hst]
  (repeat' apply And.intro) <;> first | omega | (unfold maxLen;omega) | ((refine hK _ ?_;clear hK K;try refine Wh0 ?_);exact ⟨(Yq1 @e0),(Yq1 @v0),(Yq1 (fa3 @pgR.eq_1 @hap @hal)),Yq0,(Yq1 @e9),(Yq1 @hmd)⟩)
 clear e0 v0 e1 e2 b1000 r1001 e8 b8 e9 e10 hmd st
 rintro st ⟨e0,v0,b1000,r1001,e9,hmd⟩
 have hal : (l ++ [r]).length = l.length + 1 := by rw [List.length_append,List.length_singleton]
 simp only [pgR] at b1000
 refine Yg1 @e9 ?_
 refine LW_ret ?_;simp only [thenL,jumpsL,inBlockL,twoL,bodyS];refine ⟨[(1000,2000),(1001,2001)],rfl,.inr ⟨_,_,_,rfl,rfl,(by first | exact rfl | assumption | (simp only [LZ,zo,zc,reduceCtorEq,reduceIte,zz1,zz2,zz3,zz4,zz5,zz6,zz7,zz8,zz9,zza,zzb,zzc,zzd,zze,zzf,e0,v0,b1000,r1001,pgR,hal] <;> exact rfl)),(by first | exact rfl | assumption | (simp only [LZ,zo,zc,reduceCtorEq,reduceIte,zz1,zz2,zz3,zz4,zz5,zz6,zz7,zz8,zz9,zza,zzb,zzc,zzd,zze,zzf,e0,v0,b1000,r1001,pgR,hal] <;> exact rfl))⟩,?_⟩;simp only [thenL,jumpsL,inBlockL,twoL,bodyQ,LV.lit.injEq,LV.tup.injEq,LV.agg.injEq,LV.sl.injEq,List.cons.injEq,Value.int.injEq,Value.bool.injEq,Value.string.injEq,ByteArray.mk.injEq,exists_eq_left',exists_eq_left,exists_eq_right,LZ,zo,zc,reduceCtorEq,reduceIte,zz1,zz2,zz3,zz4,zz5,zz6,zz7,zz8,zz9,zza,zzb,zzc,zzd,zze,zzf,e0,v0,b1000,r1001,pgR,hal]
def getKeyP (b : List UInt8) (ks : List (List UInt8)) (ns : List Int) (i : Nat) : List (List UInt8) × List Int × Nat × Bool :=
 if (getTP b i 100).2.2 = 0 ∧ (getP b (getTP b i 100).2.1).2.2 = 0 ∧ (getP b (getTP b i 100).2.1).1 ≤ 10000 then (ks ++ [(getTP b i 100).1],ns ++ [((getP b (getTP b i 100).2.1).1 : Int)],(getP b (getTP b i 100).2.1).2.1,true) else (ks,ns,i,false)
theorem getTP_pos {b : List UInt8} {i most : Nat} (hi : i ≤ b.length) : (getTP b i most).2.1 ≤ b.length ∧ (getTP b i most).1.length ≤ most := by
 unfold getTP
 cases hg : getU (b.drop i) 0 1 true with
 | none => exact ⟨hi,Nat.zero_le _⟩
 | some q =>
  obtain ⟨n,r⟩ := q
  obtain ⟨hn,hrl,hdr⟩ := get_pos hi hg
  simp only
  split
  ·exact ⟨hi,Nat.zero_le _⟩
  ·split
   ·exact ⟨hi,Nat.zero_le _⟩
   ·refine ⟨by show b.length - r.length + n ≤ b.length;omega,?_⟩
    show (r.take n).length ≤ most
    rw [List.length_take];omega
theorem getP_pos {b : List UInt8} {i : Nat} (hi : i ≤ b.length) : (getP b i).2.1 ≤ b.length := by
 unfold getP
 cases hg : getU (b.drop i) 0 1 true with
 | none => exact hi
 | some q =>
  obtain ⟨n,r⟩ := q
  show b.length - r.length ≤ b.length
  omega
set_option maxRecDepth 100000 in
set_option maxHeartbeats 4000000 in
theorem pgetKey_S (lf : Bool) (ks : List (List UInt8)) (ns : List Int) (hks : ks.length ≤ 1000) (hns : ns.length ≤ 1000) (b : List UInt8) (hb : b.length ≤ 1000000) (i : Nat) (hi : i ≤ b.length) :
  SCalls Tryz.prog 24 [.ptr 1000 0,bytesL' b,intL i] ⟨[(1001,(9,ks.length)),(1002,(3,ns.length))],[],[(1000,pgK lf ks ns (.row 1001) (.row 1002))]⟩
   (.tup [intL (getKeyP b ks ns i).2.2.1,boolL (getKeyP b ks ns i).2.2.2]) ⟨[(2001,(9,(getKeyP b ks ns i).1.length)),(2002,(3,(getKeyP b ks ns i).2.1.length))],[],[(2000,pgK lf (getKeyP b ks ns i).1 (getKeyP b ks ns i).2.1 (.row 2001) (.row 2002))]⟩ [(1000,2000)] := by
 have ct := ngettext_L b hb i hi 100 (by omega)
 have cg := nget_L b hb (getTP b i 100).2.1 (getTP_pos hi).1
 have h100 : ((100 : Nat) : Int) = 100 := rfl
 have f1 := strE_flen ks
 have f2 : (ns.flatMap intE).length = ns.length := by rw [len_flat intE 1 intE_len ns,Nat.mul_one]
 refine SCalls.of (fun _ => false) [(1000,2000)] 0 Tryz.func24 rfl (by decide) Tryz.ntmps24 Tryz.results24 (by simp) (.inr ⟨_,_,rfl,by decide,rfl⟩) ?_
 intro w0 S0 vs
 generalize hR : getKeyP b ks ns i = R
 unfold getKeyP at hR
 generalize getTP b i 100 = q at *
 obtain ⟨k,j,c⟩ := q
 simp only at hR cg
 generalize getP b j = q2 at *
 obtain ⟨v,m,d⟩ := q2
 simp only at hR cg
 simp only [bytesL',intL,h100] at ct cg
 simp only [u64L] at cg
 refine Yg0 ?_
 refine Yr1 (fa2 @pgK.eq_1 @bytesL'.eq_1) ?_;intro K hK
 refine Yc1 (ct) (fa2 @pgK.eq_1 @bytesL'.eq_1) ?_
 refine hK _ ?_;clear hK K;try refine Wh0 ?_
 by_cases hc : c = 0
 rotate_left
 ·rw [if_neg (fun h => hc h.1)] at hR
  subst hR
  have hci : ¬ ((c : Int) = 0) := by omega
  refine Yg1 @hci ?_
  refine Yt0 ?_
  refine Yg0 ?_
  refine LW_ret ?_;simp only [thenL,jumpsL,inBlockL,twoL,bodyS];refine ⟨[(1000,2000),(1001,2001),(1002,2002)],rfl,.inr ⟨_,_,_,rfl,rfl,(by first | exact rfl | assumption | (simp only [LZ,zo,zc,reduceCtorEq,reduceIte,zz1,zz2,zz3,zz4,zz5,zz6,zz7,zz8,zz9,zza,zzb,zzc,zzd,zze,zzf,pgK,bytesL'] <;> exact rfl)),(by first | exact rfl | assumption | (simp only [LZ,zo,zc,reduceCtorEq,reduceIte,zz1,zz2,zz3,zz4,zz5,zz6,zz7,zz8,zz9,zza,zzb,zzc,zzd,zze,zzf,pgK,bytesL'] <;> exact rfl))⟩,?_⟩;simp only [thenL,jumpsL,inBlockL,twoL,bodyQ,LV.lit.injEq,LV.tup.injEq,LV.agg.injEq,LV.sl.injEq,List.cons.injEq,Value.int.injEq,Value.bool.injEq,Value.string.injEq,ByteArray.mk.injEq,exists_eq_left',exists_eq_left,exists_eq_right,LZ,zo,zc,reduceCtorEq,reduceIte,zz1,zz2,zz3,zz4,zz5,zz6,zz7,zz8,zz9,zza,zzb,zzc,zzd,zze,zzf,pgK,bytesL']
 subst hc
 refine Yg1 @Int.natCast_zero ?_
 refine Yf0 ?_
 refine Yr1 (fa2 @pgK.eq_1 @bytesL'.eq_1) ?_;intro K hK
 refine Yc1 (cg) (fa2 @pgK.eq_1 @bytesL'.eq_1) ?_
 refine hK _ ?_;clear hK K;try refine Wh0 ?_
 by_cases hd : d = 0
 rotate_left
 ·rw [if_neg (fun h => hd h.2.1)] at hR
  subst hR
  have hci : ¬ ((d : Int) = 0) := by omega
  refine Yg1 @hci ?_
  refine Yt0 ?_
  refine Yg0 ?_
  refine LW_ret ?_;simp only [thenL,jumpsL,inBlockL,twoL,bodyS];refine ⟨[(1000,2000),(1001,2001),(1002,2002)],rfl,.inr ⟨_,_,_,rfl,rfl,(by first | exact rfl | assumption | (simp only [LZ,zo,zc,reduceCtorEq,reduceIte,zz1,zz2,zz3,zz4,zz5,zz6,zz7,zz8,zz9,zza,zzb,zzc,zzd,zze,zzf,pgK,bytesL'] <;> exact rfl)),(by first | exact rfl | assumption | (simp only [LZ,zo,zc,reduceCtorEq,reduceIte,zz1,zz2,zz3,zz4,zz5,zz6,zz7,zz8,zz9,zza,zzb,zzc,zzd,zze,zzf,pgK,bytesL'] <;> exact rfl))⟩,?_⟩;simp only [thenL,jumpsL,inBlockL,twoL,bodyQ,LV.lit.injEq,LV.tup.injEq,LV.agg.injEq,LV.sl.injEq,List.cons.injEq,Value.int.injEq,Value.bool.injEq,Value.string.injEq,ByteArray.mk.injEq,exists_eq_left',exists_eq_left,exists_eq_right,LZ,zo,zc,reduceCtorEq,reduceIte,zz1,zz2,zz3,zz4,zz5,zz6,zz7,zz8,zz9,zza,zzb,zzc,zzd,zze,zzf,pgK,bytesL']
 subst hd
 by_cases hv : v ≤ 10000
 rotate_left
 ·rw [if_neg (fun h => hv h.2.2)] at hR
  subst hR
  have hvi : ((10000 : Int) < (v : Int)) = True := eq_true (by omega)
  refine Yg1 (fa2 @Int.natCast_zero @hvi) ?_
  refine Yt0 ?_
  refine Yg0 ?_
  refine LW_ret ?_;simp only [thenL,jumpsL,inBlockL,twoL,bodyS];refine ⟨[(1000,2000),(1001,2001),(1002,2002)],rfl,.inr ⟨_,_,_,rfl,rfl,(by first | exact rfl | assumption | (simp only [LZ,zo,zc,reduceCtorEq,reduceIte,zz1,zz2,zz3,zz4,zz5,zz6,zz7,zz8,zz9,zza,zzb,zzc,zzd,zze,zzf,pgK,bytesL'] <;> exact rfl)),(by first | exact rfl | assumption | (simp only [LZ,zo,zc,reduceCtorEq,reduceIte,zz1,zz2,zz3,zz4,zz5,zz6,zz7,zz8,zz9,zza,zzb,zzc,zzd,zze,zzf,pgK,bytesL'] <;> exact rfl))⟩,?_⟩;simp only [thenL,jumpsL,inBlockL,twoL,bodyQ,LV.lit.injEq,LV.tup.injEq,LV.agg.injEq,LV.sl.injEq,List.cons.injEq,Value.int.injEq,Value.bool.injEq,Value.string.injEq,ByteArray.mk.injEq,exists_eq_left',exists_eq_left,exists_eq_right,LZ,zo,zc,reduceCtorEq,reduceIte,zz1,zz2,zz3,zz4,zz5,zz6,zz7,zz8,zz9,zza,zzb,zzc,zzd,zze,zzf,pgK,bytesL']
 rw [if_pos ⟨rfl,rfl,hv⟩] at hR
 subst hR
 have hvi : ¬ ((10000 : Int) < (v : Int)) := by omega
 have hw : IntKind.i64.wrap (v : Int) = (v : Int) := w64 (by omega)
 refine Yg1 (fa2 @Int.natCast_zero @hvi) ?_
 refine Yf0 ?_
 refine Yr1 (fa2 @pgK.eq_1 @f1) ?_;intro K hK
 refine ⟨by (repeat' apply And.intro) <;> first | omega | (unfold maxLen;omega) | (intro _;omega) | decide,?_⟩
 refine hK _ ?_;clear hK K;try refine Wh0 ?_
 refine Yr1 (fa3 @pgK.eq_1 @f2 @hw) ?_;intro K hK
 refine ⟨by (repeat' apply And.intro) <;> first | omega | (unfold maxLen;omega) | (intro _;omega) | decide,?_⟩
 refine hK _ ?_;clear hK K;try refine Wh0 ?_
 refine Yg0 ?_
 refine LW_ret ?_;simp only [thenL,jumpsL,inBlockL,twoL,bodyS];refine ⟨[(1000,2000),(1001,2001),(1002,2002)],rfl,.inr ⟨_,_,_,rfl,rfl,(by first | exact rfl | assumption | (simp only [LZ,zo,zc,reduceCtorEq,reduceIte,zz1,zz2,zz3,zz4,zz5,zz6,zz7,zz8,zz9,zza,zzb,zzc,zzd,zze,zzf,pgK,bytesL'] <;> exact rfl)),(by first | exact rfl | assumption | (simp only [LZ,zo,zc,reduceCtorEq,reduceIte,zz1,zz2,zz3,zz4,zz5,zz6,zz7,zz8,zz9,zza,zzb,zzc,zzd,zze,zzf,pgK,bytesL'] <;> exact rfl))⟩,?_⟩;simp only [thenL,jumpsL,inBlockL,twoL,bodyQ,LV.lit.injEq,LV.tup.injEq,LV.agg.injEq,LV.sl.injEq,List.cons.injEq,Value.int.injEq,Value.bool.injEq,Value.string.injEq,ByteArray.mk.injEq,exists_eq_left',exists_eq_left,exists_eq_right,LZ,zo,zc,reduceCtorEq,reduceIte,zz1,zz2,zz3,zz4,zz5,zz6,zz7,zz8,zz9,zza,zzb,zzc,zzd,zze,zzf,pgK,bytesL']
 rw [List.flatMap_append,List.flatMap_append];exact ⟨rfl,rfl⟩
end Go.Proofs.YtnmjghcdccfphaaGreatDoor
end
section
set_option linter.unusedSimpArgs false
set_option linter.unusedVariables false
namespace Go.Proofs.YtnmjghcdccfphaaGreatDoor
open Go.RowKit Go.Proofs AclSpec MetaSpec NodeSpec RecSpec PathSpec PageSpec

set_option maxRecDepth 100000 in
theorem equalStr_L (l m : List (List UInt8)) (hl : l.length ≤ maxLen) (hm : m.length ≤ maxLen) : LCalls Tryz.prog 36 [strsL l,strsL m] (boolL (decide (l = m))) := by
 unfold maxLen at hl hm
 refine LCalls.of (fun _ => false) Tryz.func36 rfl (by decide) Tryz.ntmps36 Tryz.results36 (by simp) ?_
 intro w0 S0 vs hgl hwf0 hsz hvs;clear hsz hvs hwf0 hgl
 refine Yg1 (fa2 @strsL.eq_1 @rowL.eq_1) ?_
 by_cases hlen : (l.length : Int) = m.length
 ·refine Yf1 @hlen ?_
  refine Yg1 (fa2 @strsL.eq_1 @rowL.eq_1) ?_
  refine LW_loop (fun n st => ∃ i : Nat,n + i = l.length ∧ st.env 0 = strsL l ∧ st.env 1 = strsL m ∧ st.env 12 = intL l.length ∧ st.env 13 = intL i ∧ l.take i = m.take i) l.length ⟨0,by omega,rfl,rfl,rfl,rfl,rfl⟩ ?_
  rintro n st ⟨i,hn,h0,h1,h12,h13,ht⟩
  refine Yg1 (fa4 @h0 @h1 @h12 @h13) ?_
  by_cases hlt : i < l.length
  ·obtain ⟨a,ha⟩ := get_of_lt hlt
   obtain ⟨b,hb⟩ := get_of_lt (l := m) (i := i) (by omega)
   have hda := drop_str ha
   have hdb := drop_str hb
   have hltm : i < m.length := by omega
   have hw := w64s (n := i) (by omega)
   refine Yt1 @hlt ?_
   refine Yg1 (fa6 @h0 @h1 @h12 @h13 @strsL.eq_1 @rowL.eq_1) ?_
   refine Yn1 (fa10 @h0 @h1 @h12 @h13 @strsL.eq_1 @rowL.eq_1 @hlt @hltm @hda @hdb) ?_;intro K hK
   refine hK _ ?_;clear hK K;try refine Wh0 ?_
   by_cases he : a = b
   ·refine Yf1 @he ?_
    refine Yg1 (fa5 @h0 @h1 @h12 @h13 @hw) ?_
    exact ⟨n - 1,by omega,i + 1,by omega,h0,h1,h12,rfl,take_succ_eq ht ha hb he⟩
   ·refine Yt1 @he ?_
    refine Yg0 ?_
    refine Ye0 ?_;try (with_reducible exact trivial)
    simp [ne_of_get ha hb he]
  ·refine Yf1 @hlt ?_
   refine LW_exit ?_;simp only [thenL,jumpsL,inBlockL,twoL,reduceIte,Nat.reduceEqDiff]
   refine Yg0 ?_
   refine Ye0 ?_;try (with_reducible exact trivial)
   rw [List.take_of_length_le (by omega),List.take_of_length_le (by omega)] at ht
   simp [ht]
 ·refine Yt1 @hlen ?_
  refine Yg0 ?_
  refine Ye0 ?_;try (with_reducible exact trivial)
  simp;rintro rfl;exact hlen rfl
set_option maxRecDepth 100000 in
theorem equalInt_L (l m : List Int) (hl : l.length ≤ maxLen) (hm : m.length ≤ maxLen) : LCalls Tryz.prog 37 [intsL l,intsL m] (boolL (decide (l = m))) := by
 unfold maxLen at hl hm
 refine LCalls.of (fun _ => false) Tryz.func37 rfl (by decide) Tryz.ntmps37 Tryz.results37 (by simp) ?_
 intro w0 S0 vs hgl hwf0 hsz hvs;clear hsz hvs hwf0 hgl
 refine Yg1 (fa2 @intsL.eq_1 @rowL.eq_1) ?_
 by_cases hlen : (l.length : Int) = m.length
 ·refine Yf1 @hlen ?_
  refine Yg1 (fa2 @intsL.eq_1 @rowL.eq_1) ?_
  refine LW_loop (fun n st => ∃ i : Nat,n + i = l.length ∧ st.env 0 = intsL l ∧ st.env 1 = intsL m ∧ st.env 12 = intL l.length ∧ st.env 13 = intL i ∧ l.take i = m.take i) l.length ⟨0,by omega,rfl,rfl,rfl,rfl,rfl⟩ ?_
  rintro n st ⟨i,hn,h0,h1,h12,h13,ht⟩
  refine Yg1 (fa4 @h0 @h1 @h12 @h13) ?_
  by_cases hlt : i < l.length
  ·obtain ⟨a,ha⟩ := get_of_lt hlt
   obtain ⟨b,hb⟩ := get_of_lt (l := m) (i := i) (by omega)
   have hda := drop_int ha
   have hdb := drop_int hb
   have hltm : i < m.length := by omega
   have hw := w64s (n := i) (by omega)
   refine Yt1 @hlt ?_
   refine Yg1 (fa6 @h0 @h1 @h12 @h13 @intsL.eq_1 @rowL.eq_1) ?_
   refine Yn1 (fa10 @h0 @h1 @h12 @h13 @intsL.eq_1 @rowL.eq_1 @hlt @hltm @hda @hdb) ?_;intro K hK
   refine hK _ ?_;clear hK K;try refine Wh0 ?_
   by_cases he : a = b
   ·refine Yf1 @he ?_
    refine Yg1 (fa5 @h0 @h1 @h12 @h13 @hw) ?_
    exact ⟨n - 1,by omega,i + 1,by omega,h0,h1,h12,rfl,take_succ_eq ht ha hb he⟩
   ·refine Yt1 @he ?_
    refine Yg0 ?_
    refine Ye0 ?_;try (with_reducible exact trivial)
    simp [ne_of_get ha hb he]
  ·refine Yf1 @hlt ?_
   refine LW_exit ?_;simp only [thenL,jumpsL,inBlockL,twoL,reduceIte,Nat.reduceEqDiff]
   refine Yg0 ?_
   refine Ye0 ?_;try (with_reducible exact trivial)
   rw [List.take_of_length_le (by omega),List.take_of_length_le (by omega)] at ht
   simp [ht]
 ·refine Yt1 @hlen ?_
  refine Yg0 ?_
  refine Ye0 ?_;try (with_reducible exact trivial)
  simp;rintro rfl;exact hlen rfl
set_option maxRecDepth 100000 in
theorem bequal_L (b c : List UInt8) : LCalls Tryz.prog 25 [bytesL' b,bytesL' c] (boolL (decide (b = c))) := by
 have h1 := bL_len b
 have h2 := bL_len c
 refine LCalls.of (fun _ => false) Tryz.func25 rfl (by decide) Tryz.ntmps25 Tryz.results25 (by simp) ?_
 intro w0 S0 vs hgl hwf0 hsz hvs;clear hsz hvs hwf0 hgl
 refine Yg1 (fa4 @bytesL'.eq_1 @h1 @h2 @bytesOf_bL) ?_
 refine Ye0 ?_;try (with_reducible exact trivial)
theorem samePg_eq (a b : Pg) : decide (a = b) = (decide (a.leaf = b.leaf) && decide (a.recs = b.recs) && decide (a.keys = b.keys) && decide (a.pages = b.pages)) := by
 obtain ⟨p,l,n,q⟩ := a
 obtain ⟨p2,l2,n2,q2⟩ := b
 rw [Bool.eq_iff_iff]
 simp only [Pg.mk.injEq,decide_eq_true_eq,Bool.and_eq_true]
 exact ⟨fun ⟨a,b,c,d⟩ => ⟨⟨⟨a,b⟩,c⟩,d⟩,fun ⟨⟨⟨a,b⟩,c⟩,d⟩ => ⟨a,b,c,d⟩⟩
def okPg (p : Pg) : Prop := p.recs.length ≤ maxLen ∧ p.keys.length ≤ maxLen ∧ p.pages.length ≤ maxLen ∧ ∀ r ∈ p.recs,okLen r.node
set_option maxRecDepth 100000 in
set_option maxHeartbeats 4000000 in
theorem psame_L (a b : Pg) (ha : okPg a) (hb : okPg b) : LCalls Tryz.prog 15 [.agg (pgL a),.agg (pgL b)] (boolL (decide (a = b))) := by
 obtain ⟨a1,a2,a3,a4⟩ := ha
 obtain ⟨b1,b2,b3,b4⟩ := hb
 have ck := equalStr_L a.keys b.keys a2 b2
 have cn := equalInt_L a.pages b.pages a3 b3
 unfold maxLen at a1 b1
 simp only [strsL,intsL,rowL] at ck cn
 refine LCalls.of (fun _ => false) Tryz.func15 rfl (by decide) Tryz.ntmps15 Tryz.results15 (by simp) ?_
 intro w0 S0 vs hgl hwf0 hsz hvs;clear hsz hvs hwf0 hgl
 generalize hR : decide (a = b) = R
 rw [samePg_eq] at hR
 refine Yg1 (fa4 @pgL.eq_1 @rowL.eq_1 @strsL.eq_1 @intsL.eq_1) ?_
 refine LW_lab1 (fun n st => ∃ i : Nat,n + i = a.recs.length ∧ a.recs.length = b.recs.length ∧ decide (a.recs = b.recs) = R ∧ st.env 2 = .ptr 2 0 ∧ st.box 2 = some (pgL a) ∧ st.env 3 = .ptr 3 0 ∧ st.box 3 = some (pgL b) ∧ st.env 5 = intL i ∧ a.recs.take i = b.recs.take i ∧ st.mode = fun _ => false) rfl ?_ ?_
 ·intro hJ
  by_cases h1 : a.leaf = b.leaf
  rotate_left
  ·have hb1 : (a.leaf == b.leaf) = false := by simp [h1]
   refine Yg1 @hb1 ?_
   refine Yt0 ?_
   refine Yg0 ?_
   refine Ye0 ?_;try (with_reducible exact trivial)
   rw [← hR];simp [h1]
  have hb1 : (a.leaf == b.leaf) = true := by rw [h1];simp
  by_cases h2 : (a.recs.length : Int) = (b.recs.length : Int)
  rotate_left
  ·refine Yg1 (fa2 @hb1 @h2) ?_
   refine Yt0 ?_
   refine Yg0 ?_
   refine Ye0 ?_;try (with_reducible exact trivial)
   have : a.recs ≠ b.recs := by rintro c;rw [c] at h2;exact h2 rfl
   rw [← hR];simp [this]
  refine Yg1 (fa2 @hb1 @h2) ?_
  refine Yf0 ?_
  by_cases h3 : a.keys = b.keys
  rotate_left
  ·rw [decide_eq_false h3] at ck
   refine Yr0 ?_;intro K hK
   refine Yc0 (ck) ?_
   refine hK _ ?_;clear hK K;try refine Wh0 ?_
   refine Yt0 ?_
   refine Yg0 ?_
   refine Ye0 ?_;try (with_reducible exact trivial)
   rw [← hR];simp [h3]
  rw [decide_eq_true h3] at ck
  by_cases h4 : a.pages = b.pages
  rotate_left
  ·rw [decide_eq_false h4] at cn
   refine Yr0 ?_;intro K hK
   refine Yc0 (ck) ?_
   refine Yc0 (cn) ?_
   refine hK _ ?_;clear hK K;try refine Wh0 ?_
   refine Yt0 ?_
   refine Yg0 ?_
   refine Ye0 ?_;try (with_reducible exact trivial)
   rw [← hR];simp [h4]
  rw [decide_eq_true h4] at cn
  refine Yr0 ?_;intro K hK
  refine Yc0 (ck) ?_
  refine Yc0 (cn) ?_
  refine hK _ ?_;clear hK K;try refine Wh0 ?_
  refine Yf0 ?_
  rw [decide_eq_true h1,decide_eq_true h3,decide_eq_true h4] at hR
  simp only [Bool.true_and,Bool.and_true] at hR
  refine Yl0 ?_
  exact hJ.out a.recs.length _ ⟨0,by omega,by omega,hR,Yq0,(Yq1 (fa4 @pgL.eq_1 @rowL.eq_1 @strsL.eq_1 @intsL.eq_1)),Yq0,(Yq1 (fa4 @pgL.eq_1 @rowL.eq_1 @strsL.eq_1 @intsL.eq_1)),Yq0,rfl,rfl⟩
 ·rintro n st ⟨i,hn,hll,hr0,e2,x2,e3,x3,e5,ht,hmd⟩
  simp only [pgL,rowL,strsL,intsL] at x2 x3
  by_cases hlt : i < a.recs.length
  rotate_left
  ·have hin : ((i : Int) = (a.recs.length : Int)) = True := eq_true (by omega)
   refine Yg1 (fa4 @e2 @x2 @e5 @hin) ?_
   refine Yt0 ?_
   refine Yg0 ?_
   refine Ye0 ?_;try (with_reducible exact trivial)
   rw [List.take_of_length_le (by omega),List.take_of_length_le (by omega)] at ht
   rw [← hr0];simp [ht]
  have hin : ¬ ((i : Int) = (a.recs.length : Int)) := by omega
  have hltm : i < b.recs.length := by omega
  obtain ⟨r,hr⟩ := get_of_lt hlt
  obtain ⟨q,hq⟩ := get_of_lt hltm
  have hdr := drop_rec hr
  have hdq := drop_rec hq
  have hw := w64s (n := i) (by omega)
  have hip : (0 : Int) ≤ (i : Int) := by omega
  have cs := recsame_L r q (a4 r (List.mem_of_getElem? hr)) (b4 q (List.mem_of_getElem? hq))
  simp only [recL,nodeL,attrsL,acesL,piecesL,rowL,List.cons_append,List.nil_append] at cs hdr hdq
  refine Yg1 (fa4 @e2 @x2 @e5 @hin) ?_
  refine Yf0 ?_
  by_cases he : r = q
  ·rw [decide_eq_true he] at cs
   refine Yn1 (fa11 @e2 @x2 @e3 @x3 @e5 @hip @hlt @hltm @hdr @hdq @hmd) ?_;intro K hK
   refine Yc1 (cs) (fa10 @e2 @x2 @e3 @x3 @e5 @hip @hlt @hltm @hdr @hdq) ?_
   refine hK _ ?_;clear hK K;try refine Wh0 ?_
   refine Yf0 ?_
   refine Yg1 (fa2 @e5 @hw) ?_
   refine LW_goto ?_;simp only [thenL,jumpsL,inBlockL,twoL,true_and]
   exact ⟨n - 1,by omega,i + 1,by omega,hll,hr0,(Yq1 @e2),(Yq1 (fa5 @x2 @pgL.eq_1 @rowL.eq_1 @strsL.eq_1 @intsL.eq_1)),(Yq1 @e3),(Yq1 (fa5 @x3 @pgL.eq_1 @rowL.eq_1 @strsL.eq_1 @intsL.eq_1)),(Yq1 @hw),take_succ_eq ht hr hq he,(Yq1 @hmd)⟩
  ·rw [decide_eq_false he] at cs
   refine Yn1 (fa11 @e2 @x2 @e3 @x3 @e5 @hip @hlt @hltm @hdr @hdq @hmd) ?_;intro K hK
   refine Yc1 (cs) (fa10 @e2 @x2 @e3 @x3 @e5 @hip @hlt @hltm @hdr @hdq) ?_
   refine hK _ ?_;clear hK K;try refine Wh0 ?_
   refine Yt0 ?_
   refine Yg0 ?_
   refine Ye0 ?_;try (with_reducible exact trivial)
   rw [← hr0];simp [ne_of_get hr hq he]
theorem i00 : ((0 : Int) ≤ 0) = True := eq_true (by decide)
theorem i0n : (0 : Int).toNat = 0 := rfl
set_option maxRecDepth 100000 in
theorem pfirst_L (p : Pg) (h : SmallP p) : LCalls Tryz.prog 13 [.agg (pgL p)] (strL (firstPg p)) := by
 have cm := ppmay_L p h
 simp only [pgL,rowL,strsL,intsL] at cm
 refine LCalls.of (fun _ => false) Tryz.func13 rfl (by decide) Tryz.ntmps13 Tryz.results13 (by simp) ?_
 intro w0 S0 vs hgl hwf0 hsz hvs;clear hsz hvs hwf0 hgl
 generalize hR : firstPg p = R
 unfold firstPg at hR
 refine Yg1 (fa4 @pgL.eq_1 @rowL.eq_1 @strsL.eq_1 @intsL.eq_1) ?_
 cases hm : mayPg p
 ·rw [hm] at cm
  rw [hm,if_neg (by decide)] at hR
  subst hR
  refine Yr0 ?_;intro K hK
  refine Yc0 (cm) ?_
  refine hK _ ?_;clear hK K;try refine Wh0 ?_
  refine Yt0 ?_
  refine Yg0 ?_
  refine Ye1 @strL.eq_1 ?_;try (with_reducible exact trivial)
 rw [hm,if_pos rfl] at hR
 have hm2 := hm
 rw [hm] at cm
 unfold mayPg at hm2
 refine Yr0 ?_;intro K hK
 refine Yc0 (cm) ?_
 refine hK _ ?_;clear hK K;try refine Wh0 ?_
 refine Yf0 ?_
 cases hlf : p.leaf
 ·rw [hlf,if_neg (by decide)] at hR hm2
  unfold mayInner at hm2
  simp only [Bool.and_eq_true,Bool.not_eq_true',decide_eq_true_eq,decide_eq_false_iff_not] at hm2
  obtain ⟨k,hk⟩ := get_of_lt (l := p.keys) (i := 0) (by omega)
  have hd := drop_str hk
  have hlt : ((0 : Int) < (p.keys.length : Int)) = True := eq_true (by omega)
  rw [List.head?_eq_getElem?,hk] at hR
  simp only [Option.getD_some] at hR
  subst hR
  refine Yg1 @hlf ?_
  refine Yf0 ?_
  rw [List.drop_zero] at hd
  refine Yg1 (fa4 @hlt @i00 @i0n @hd) ?_
  refine Ye0 ?_;try (with_reducible exact trivial)
 ·rw [hlf,if_pos rfl] at hR hm2
  unfold mayLeaf at hm2
  simp only [Bool.and_eq_true,Bool.not_eq_true',decide_eq_true_eq,decide_eq_false_iff_not] at hm2
  obtain ⟨r,hr⟩ := get_of_lt (l := p.recs) (i := 0) (by omega)
  have hd := drop_rec hr
  have hlt : ((0 : Int) < (p.recs.length : Int)) = True := eq_true (by omega)
  rw [List.head?_eq_getElem?,hr] at hR
  simp only [Option.map_some,Option.getD_some] at hR
  subst hR
  simp only [recL,nodeL,attrsL,acesL,piecesL,rowL,List.cons_append,List.nil_append] at hd
  refine Yg1 @hlf ?_
  refine Yt0 ?_
  rw [Nat.zero_mul,List.drop_zero] at hd
  refine Yg1 (fa4 @hlt @i00 @i0n @hd) ?_
  refine Ye0 ?_;try (with_reducible exact trivial)
end Go.Proofs.YtnmjghcdccfphaaGreatDoor
end
section
set_option linter.unusedSimpArgs false
set_option linter.unusedVariables false
namespace Go.Proofs.YtnmjghcdccfphaaGreatDoor
open Nat renaming reduceAdd → zz1,reduceMul → zz2,reduceSub → zz3,reduceLT → zz4,reduceLeDiff → zz5,reduceEqDiff → zz6,reduceBEq → zzf
open Int renaming reduceAdd → zz7,reduceSub → zz8,reduceMul → zz9,reduceLT → zza,reduceLE → zzb,reduceEq → zzc,reduceNeg → zzd,reduceToNat → zze
open Op renaming operands → zo
open Call renaming operands → zc
open Go.RowKit Go.Proofs AclSpec MetaSpec NodeSpec RecSpec PathSpec PageSpec

def pputP (p : Pg) : List UInt8 × Int := if mayPg p = true then (putPg p,0) else ([],1)
set_option maxRecDepth 100000 in
set_option maxHeartbeats 4000000 in
theorem pput_L (p : Pg) (h : SmallP p) (ht : okTime p) : LCalls Tryz.prog 6 [.agg (pgL p)] (.tup [bytesL' (pputP p).1,intL (pputP p).2]) := by
 have cm := ppmay_L p h
 have c1 := pputLeaf_L p h ht
 have c2 := pputInner_L p h
 simp only [pgL,rowL,strsL,intsL] at cm c1 c2
 refine LCalls.of (fun _ => false) Tryz.func6 rfl (by decide) Tryz.ntmps6 Tryz.results6 (by simp) ?_
 intro w0 S0 vs hgl hwf0 hsz hvs;clear hsz hvs hwf0 hgl
 generalize hR : pputP p = R
 unfold pputP at hR
 refine Yg1 (fa4 @pgL.eq_1 @rowL.eq_1 @strsL.eq_1 @intsL.eq_1) ?_
 cases hm : mayPg p
 ·rw [hm] at cm
  rw [hm,if_neg (by decide)] at hR
  subst hR
  refine Yr0 ?_;intro K hK
  refine Yc0 (cm) ?_
  refine hK _ ?_;clear hK K;try refine Wh0 ?_
  refine Yt0 ?_
  refine Yg0 ?_
  refine Ye1 @bytesL'.eq_1 ?_;try (with_reducible exact trivial)
  rfl
 rw [hm,if_pos rfl] at hR
 subst hR
 have hm2 := hm
 rw [hm] at cm
 unfold mayPg at hm2
 unfold putPg
 refine Yr0 ?_;intro K hK
 refine Yc0 (cm) ?_
 refine hK _ ?_;clear hK K;try refine Wh0 ?_
 refine Yf0 ?_
 cases hlf : p.leaf
 ·rw [hlf] at c1 c2 hm2
  rw [if_neg (by decide)] at hm2
  have c2 := c2 hm2
  simp only [bytesL'] at c2
  rw [if_neg (by decide)]
  refine Yg1 @hlf ?_
  refine Yf0 ?_
  refine Yr1 @hlf ?_;intro K hK
  refine Yc0 (c2) ?_
  refine hK _ ?_;clear hK K;try refine Wh0 ?_
  refine Ye1 @bytesL'.eq_1 ?_;try (with_reducible exact trivial)
 ·rw [hlf] at c1 c2 hm2
  rw [if_pos rfl] at hm2
  have c1 := c1 hm2
  simp only [bytesL'] at c1
  rw [if_pos rfl]
  refine Yg1 @hlf ?_
  refine Yt0 ?_
  refine Yr1 @hlf ?_;intro K hK
  refine Yc0 (c1) ?_
  refine hK _ ?_;clear hK K;try refine Wh0 ?_
  refine Ye1 @bytesL'.eq_1 ?_;try (with_reducible exact trivial)
theorem setZ {x a : LV} {xs : List LV} : (x :: xs).set 0 a = a :: xs := rfl
theorem setS {x a : LV} {xs : List LV} {i : Nat} : (x :: xs).set (i + 1) a = x :: xs.set i a := rfl
def endPg (b : List UInt8) : Option (Pg × Int) → Pg × Int
 | some q => if q.2 = (b.length : Int) ∧ mayPg q.1 = true ∧ putPg q.1 = b then (q.1,0) else (zeroPg,3)
 | none => (zeroPg,3)
def restPg (b : List UInt8) (p : Pg) (k i : Nat) : Option (Pg × Int) :=
 if p.leaf = true then (readRs b k i).map (fun q => (⟨p.leaf,p.recs ++ q.1,p.keys,p.pages⟩,q.2))
 else (readKs b k i).map (fun q => (⟨p.leaf,p.recs,p.keys ++ q.1,p.pages ++ q.2.1⟩,(q.2.2 : Int)))
theorem getPg_end (b : List UInt8) : getPg b = endPg b (parsePg b) := by
 unfold getPg endPg
 cases parsePg b <;> rfl
theorem parse_bad {b : List UInt8} (h : ¬ ((b.head? = some 1 ∨ b.head? = some 2) ∧ (getP b 1).2.2 = 0 ∧ 1 ≤ (getP b 1).1 ∧ (getP b 1).1 ≤ 4)) : getPg b = (zeroPg,3) := by
 rw [getPg_end]
 unfold parsePg
 rw [if_neg h];rfl
theorem parse_good {b : List UInt8} (h : (b.head? = some 1 ∨ b.head? = some 2) ∧ (getP b 1).2.2 = 0 ∧ 1 ≤ (getP b 1).1 ∧ (getP b 1).1 ≤ 4) : getPg b = endPg b (restPg b ⟨decide (b.head? = some 1),[],[],[]⟩ (getP b 1).1 (getP b 1).2.1) := by
 rw [getPg_end]
 unfold parsePg restPg
 rw [if_pos h]
 by_cases h1 : b.head? = some 1
 ·rw [if_pos h1];simp only [h1,decide_true,if_true,List.nil_append]
 ·rw [if_neg h1];simp only [h1,decide_false,Bool.false_eq_true,if_false,List.nil_append]
theorem rest_zero (b : List UInt8) (p : Pg) (i : Nat) : restPg b p 0 i = some (p,(i : Int)) := by
 obtain ⟨lf,rs,ks,ns⟩ := p
 unfold restPg readRs readKs
 cases lf <;> simp
theorem rest_rec {b : List UInt8} {p : Pg} (hl : p.leaf = true) (k i : Nat) {r : Rec} {j : Nat} (h : getRec b i = (r,(j : Int),0)) : restPg b p (k + 1) i = restPg b ⟨p.leaf,p.recs ++ [r],p.keys,p.pages⟩ k j := by
 unfold restPg
 rw [if_pos hl,if_pos hl,readRs.eq_def]
 simp only [h,if_pos,Option.map_map]
 congr 1
 funext q
 simp
theorem rest_recN {b : List UInt8} {p : Pg} (hl : p.leaf = true) (k i : Nat) (h : (getRec b i).2.2 ≠ 0) : restPg b p (k + 1) i = none := by
 unfold restPg
 rw [if_pos hl,readRs.eq_def]
 simp only
 rw [if_neg h];rfl
theorem rest_key {b : List UInt8} {p : Pg} (hl : ¬ p.leaf = true) (k i : Nat) (h : (getTP b i 100).2.2 = 0 ∧ (getP b (getTP b i 100).2.1).2.2 = 0 ∧ (getP b (getTP b i 100).2.1).1 ≤ 10000) : restPg b p (k + 1) i = restPg b ⟨p.leaf,p.recs,p.keys ++ [(getTP b i 100).1],p.pages ++ [((getP b (getTP b i 100).2.1).1 : Int)]⟩ k (getP b (getTP b i 100).2.1).2.1 := by
 unfold restPg
 rw [if_neg hl,if_neg hl,readKs.eq_def]
 simp only
 rw [if_pos h,Option.map_map]
 congr 1
 funext q
 simp
theorem rest_keyN {b : List UInt8} {p : Pg} (hl : ¬ p.leaf = true) (k i : Nat) (h : ¬ ((getTP b i 100).2.2 = 0 ∧ (getP b (getTP b i 100).2.1).2.2 = 0 ∧ (getP b (getTP b i 100).2.1).1 ≤ 10000)) : restPg b p (k + 1) i = none := by
 unfold restPg
 rw [if_neg hl,readKs.eq_def]
 simp only
 rw [if_neg h];rfl
theorem byte_int (c : UInt8) (n : Nat) (hn : n < 256) : ((c.toNat : Int) = (n : Int)) ↔ c = n.toUInt8 := by
 constructor
 ·intro h
  apply UInt8.toNat_inj.1
  show c.toNat = n % 256
  omega
 ·rintro rfl
  show ((n % 256 : Nat) : Int) = n
  omega
def pgT (p : Pg) (t1 t2 t3 : Tok) : List LV := [boolL p.leaf,.sl p.recs.length (p.recs.flatMap recL) t1,.sl p.keys.length (p.keys.flatMap strE) t2,.sl p.pages.length (p.pages.flatMap intE) t3]
abbrev GetI (b : List UInt8) (p : Pg) (k i : Nat) (t1 t2 t3 : Tok) (st : LSt) : Prop :=
 i ≤ b.length ∧ p.recs.length + k ≤ 4 ∧ p.keys.length + k ≤ 4 ∧ p.pages.length + k ≤ 4 ∧ (∀ r ∈ p.recs,(r.path.length < 1000000 ∧ small r.node) ∧ r.node.mt.time < 9223372036854775808) ∧ (∀ x ∈ p.keys,x.length < 1000000) ∧
 st.env 0 = bytesL' b ∧ st.env 2 = .ptr 2 0 ∧ st.box 2 = some [boolL false,.sl 0 [] .nil,.sl 0 [] .nil,.sl 0 [] .nil] ∧ st.env 4 = u64L k ∧ st.env 5 = intL i ∧ st.env 7 = .ptr 7 0 ∧ st.box 7 = some (pgT p t1 t2 t3) ∧ (st.mode = fun _ => false) ∧
 ((p.leaf = true ∧ p.keys = [] ∧ p.pages = [] ∧ t1 = .row 1001 ∧ t2 = .no ∧ t3 = .no ∧ st.row 1001 = some (56,p.recs.length)) ∨
 (p.leaf = false ∧ p.recs = [] ∧ t1 = .no ∧ t2 = .row 1001 ∧ t3 = .row 1002 ∧ st.row 1001 = some (9,p.keys.length) ∧ st.row 1002 = some (3,p.pages.length)))
theorem getRec_small' (b : List UInt8) (i : Int) : small (getRec b i).1.node := by
 have hz : small zeroN := tsmall (.inr (.inr rfl))
 unfold getRec
 split
 ·exact hz
 ·split
  ·exact hz
  ·exact rNode_small b _
theorem getRec_nat {b : List UInt8} {i : Int} (h : (getRec b i).2.2 = 0) : ∃ (r : Rec) (j : Nat),getRec b i = (r,(j : Int),0) ∧ j ≤ b.length ∧ (r.path.length < 1000000 ∧ small r.node) ∧ r.node.mt.time < 9223372036854775808 := by
 have hs := getRec_small' b i
 obtain ⟨r,tt,c,hq⟩ : ∃ r tt c,getRec b i = (r,tt,c) := ⟨_,_,_,rfl⟩
 rw [hq] at h hs
 have h : c = 0 := h
 subst h
 obtain ⟨p,q,h1,h2,h3,h4,h5,h6,h7⟩ := put_get hq
 have h8 := (mayRec_ok h5 h7).1
 exact ⟨r,q,by rw [hq,h2],h4,⟨by omega,hs⟩,h7⟩
set_option maxRecDepth 100000 in
set_option maxHeartbeats 8000000 in
theorem pgetPg_O (b : List UInt8) (hb : b.length ≤ 1000000) :
  OCalls Tryz.prog 8 [bytesL' b] ⟨[],[],[]⟩ (.tup [.agg (pgL (getPg b).1),intL (getPg b).2]) ⟨[],[],[]⟩ := by
 have hbl := bL_len b
 refine OCalls.of (fun _ => false) Tryz.func8 rfl (by decide) Tryz.ntmps8 Tryz.results8 (by simp) ?_
 intro w0 S0 vs
 generalize hR : getPg b = R
 refine Yg1 @bytesL'.eq_1 ?_
 refine LW_lab1 (fun m st => ∃ (k i : Nat) (p : Pg) (t1 t2 t3 : Tok),m = k ∧ endPg b (restPg b p k i) = R ∧ GetI b p k i t1 t2 t3 st) rfl ?_ ?_
 ·intro hJ
  by_cases h0 : b.length < 1
  ·have h0i : ((b.length : Int) < 1) = True := eq_true (by omega)
   have hb0 : b = [] := List.eq_nil_of_length_eq_zero (by omega)
   rw [parse_bad (by rw [hb0];simp)] at hR
   subst hR
   refine Yg1 (fa2 @h0i @bytesL'.eq_1) ?_
   refine Yt0 ?_
   refine Yg0 ?_
   refine LW_ret ?_;simp only [thenL,jumpsL,inBlockL,twoL,bodyO];refine ⟨[],rfl,?_⟩;simp only [thenL,jumpsL,inBlockL,twoL,bodyQ,LV.lit.injEq,LV.tup.injEq,LV.agg.injEq,LV.sl.injEq,List.cons.injEq,Value.int.injEq,Value.bool.injEq,Value.string.injEq,ByteArray.mk.injEq,exists_eq_left',exists_eq_left,exists_eq_right,LZ,zo,zc,reduceCtorEq,reduceIte,zz1,zz2,zz3,zz4,zz5,zz6,zz7,zz8,zz9,zza,zzb,zzc,zzd,zze,zzf,pgL,zeroPg,rowL,strsL,intsL]
   exact ⟨rfl,rfl,rfl⟩
  have h0i : ¬ ((b.length : Int) < 1) := by omega
  obtain ⟨c,hc⟩ := get_of_lt (l := b) (i := 0) (by omega)
  obtain ⟨b2,hb2⟩ : ∃ b2,b = c :: b2 := by
   cases b with
   | nil => simp at hc
   | cons x y => simp at hc;exact ⟨y,by rw [hc]⟩
  have hd : bL b = .lit (.int .u8 c.toNat) :: bL b2 := by rw [hb2];rfl
  have hh : b.head? = some c := by rw [List.head?_eq_getElem?];exact hc
  have hlt : ((0 : Int) < (b.length : Int)) = True := eq_true (by omega)
  have k1 : ((c.toNat : Int) = 1) ↔ c = 1 := byte_int c 1 (by omega)
  have k2 : ((c.toNat : Int) = 2) ↔ c = 2 := byte_int c 2 (by omega)
  by_cases hcc : c = 1 ∨ c = 2
  rotate_left
  ·rw [parse_bad (by rw [hh];rintro ⟨h | h,_⟩ <;> cases h <;> exact hcc (by simp))] at hR
   subst hR
   have n1 : ¬ ((c.toNat : Int) = 1) := fun h => hcc (.inl (k1.1 h))
   have n2 : ¬ ((c.toNat : Int) = 2) := fun h => hcc (.inr (k2.1 h))
   refine Yg1 (fa8 @h0i @hlt @i00 @i0n @hd @n1 @n2 @bytesL'.eq_1) ?_
   refine Yt0 ?_
   refine Yg0 ?_
   refine LW_ret ?_;simp only [thenL,jumpsL,inBlockL,twoL,bodyO];refine ⟨[],rfl,?_⟩;simp only [thenL,jumpsL,inBlockL,twoL,bodyQ,LV.lit.injEq,LV.tup.injEq,LV.agg.injEq,LV.sl.injEq,List.cons.injEq,Value.int.injEq,Value.bool.injEq,Value.string.injEq,ByteArray.mk.injEq,exists_eq_left',exists_eq_left,exists_eq_right,LZ,zo,zc,reduceCtorEq,reduceIte,zz1,zz2,zz3,zz4,zz5,zz6,zz7,zz8,zz9,zza,zzb,zzc,zzd,zze,zzf,pgL,zeroPg,rowL,strsL,intsL]
   exact ⟨rfl,rfl,rfl⟩
  (repeat refine LW_seq ?_)
  refine LW_joinC (fun st => st.env 0 = bytesL' b ∧ st.env 2 = .ptr 2 0 ∧ st.box 2 = some [boolL false,.sl 0 [] .nil,.sl 0 [] .nil,.sl 0 [] .nil] ∧ st.mode = fun _ => false) ?_ ?_
  ·rcases hcc with hc1 | hc2
   ·have n1 : ((c.toNat : Int) = 1) = True := eq_true (k1.2 hc1)
    refine Yg1 (fa7 @h0i @hlt @i00 @i0n @hd @n1 @bytesL'.eq_1) ?_
    refine Yf0 ?_
    exact ⟨(Yq1 (fa2 @bytesL'.eq_1 @hd)),Yq0,Yq0,Yq0⟩
   ·have n1 : ¬ ((c.toNat : Int) = 1) := by rw [k1,hc2];decide
    have n2 : ((c.toNat : Int) = 2) = True := eq_true (k2.2 hc2)
    refine Yg1 (fa8 @h0i @hlt @i00 @i0n @hd @n1 @n2 @bytesL'.eq_1) ?_
    refine Yf0 ?_
    exact ⟨(Yq1 (fa2 @bytesL'.eq_1 @hd)),Yq0,Yq0,Yq0⟩
  rintro st ⟨e0,e2,b2,hmd⟩
  have cg := nget_L b hb 1 (by omega)
  have hbad := parse_bad (b := b)
  have hgood := parse_good (b := b)
  have hpos := getP_pos (b := b) (i := 1) (by omega)
  generalize getP b 1 = q at *
  obtain ⟨n,j,d⟩ := q
  simp only at hbad hgood cg hpos
  rw [show ((1 : Nat) : Int) = 1 from rfl] at cg
  simp only [bytesL',intL,u64L] at cg
  simp only [bytesL'] at e0
  refine Yr1 @e0 ?_;intro K hK
  refine Yc1 (cg) @e0 ?_
  refine hK _ ?_;clear hK K;try refine Wh0 ?_
  by_cases hd0 : d = 0
  rotate_left
  ·rw [hbad (fun h => hd0 h.2.1)] at hR
   subst hR
   have hdi : ¬ ((d : Int) = 0) := by omega
   refine Yg1 @hdi ?_
   refine Yt0 ?_
   refine Yg1 (fa2 @e2 @b2) ?_
   refine LW_ret ?_;simp only [thenL,jumpsL,inBlockL,twoL,bodyO];refine ⟨[],rfl,?_⟩;simp only [thenL,jumpsL,inBlockL,twoL,bodyQ,LV.lit.injEq,LV.tup.injEq,LV.agg.injEq,LV.sl.injEq,List.cons.injEq,Value.int.injEq,Value.bool.injEq,Value.string.injEq,ByteArray.mk.injEq,exists_eq_left',exists_eq_left,exists_eq_right,LZ,zo,zc,reduceCtorEq,reduceIte,zz1,zz2,zz3,zz4,zz5,zz6,zz7,zz8,zz9,zza,zzb,zzc,zzd,zze,zzf,pgL,zeroPg,rowL,strsL,intsL,e2]
   exact ⟨rfl,rfl,rfl⟩
  have hdi : ((d : Int) = 0) = True := eq_true (by omega)
  by_cases hn1 : n < 1
  ·rw [hbad (fun h => by omega)] at hR
   subst hR
   have hni : ((n : Int) < 1) = True := eq_true (by omega)
   refine Yg1 (fa2 @hdi @hni) ?_
   refine Yt0 ?_
   refine Yg1 (fa2 @e2 @b2) ?_
   refine LW_ret ?_;simp only [thenL,jumpsL,inBlockL,twoL,bodyO];refine ⟨[],rfl,?_⟩;simp only [thenL,jumpsL,inBlockL,twoL,bodyQ,LV.lit.injEq,LV.tup.injEq,LV.agg.injEq,LV.sl.injEq,List.cons.injEq,Value.int.injEq,Value.bool.injEq,Value.string.injEq,ByteArray.mk.injEq,exists_eq_left',exists_eq_left,exists_eq_right,LZ,zo,zc,reduceCtorEq,reduceIte,zz1,zz2,zz3,zz4,zz5,zz6,zz7,zz8,zz9,zza,zzb,zzc,zzd,zze,zzf,pgL,zeroPg,rowL,strsL,intsL,e2]
   exact ⟨rfl,rfl,rfl⟩
  have hni : ¬ ((n : Int) < 1) := by omega
  by_cases hn4 : 4 < n
  ·rw [hbad (fun h => by omega)] at hR
   subst hR
   have hn4i : ((4 : Int) < (n : Int)) = True := eq_true (by omega)
   refine Yg1 (fa3 @hdi @hni @hn4i) ?_
   refine Yt0 ?_
   refine Yg1 (fa2 @e2 @b2) ?_
   refine LW_ret ?_;simp only [thenL,jumpsL,inBlockL,twoL,bodyO];refine ⟨[],rfl,?_⟩;simp only [thenL,jumpsL,inBlockL,twoL,bodyQ,LV.lit.injEq,LV.tup.injEq,LV.agg.injEq,LV.sl.injEq,List.cons.injEq,Value.int.injEq,Value.bool.injEq,Value.string.injEq,ByteArray.mk.injEq,exists_eq_left',exists_eq_left,exists_eq_right,LZ,zo,zc,reduceCtorEq,reduceIte,zz1,zz2,zz3,zz4,zz5,zz6,zz7,zz8,zz9,zza,zzb,zzc,zzd,zze,zzf,pgL,zeroPg,rowL,strsL,intsL,e2]
   exact ⟨rfl,rfl,rfl⟩
  have hn4i : ¬ ((4 : Int) < (n : Int)) := by omega
  rw [hgood ⟨by rw [hh];rcases hcc with h | h <;> rw [h] <;> simp,hd0,by omega,by omega⟩,hh] at hR
  obtain ⟨lf,hlf⟩ : ∃ lf,lf = decide (c = 1) := ⟨_,rfl⟩
  have hlf1 : decide (some c = some 1) = lf := by rw [hlf];simp
  have hlf2 : decide ((c.toNat : Int) = 1) = lf := by rw [hlf,decide_eq_decide];exact k1
  rw [hlf1] at hR
  refine Yg1 (fa3 @hdi @hni @hn4i) ?_
  refine Yf0 ?_
  refine Yo1 (fa6 @e0 @hlt @i00 @i0n @hd @hlf2) ?_
  refine LW_slim (fun st => st.env 0 = bytesL' b ∧ st.env 2 = .ptr 2 0 ∧ st.box 2 = some [boolL false,.sl 0 [] .nil,.sl 0 [] .nil,.sl 0 [] .nil] ∧ st.env 4 = u64L n ∧ st.env 5 = intL j ∧ st.env 7 = .ptr 7 0 ∧ st.box 7 = some [boolL lf,.sl 0 [] .nil,.sl 0 [] .nil,.sl 0 [] .nil] ∧ st.mode = fun _ => false) ⟨(Yq1 (fa3 @e0 @bytesL'.eq_1 @hd)),(Yq1 @e2),(Yq1 @b2),(Yq1 @u64L.eq_1),Yq0,Yq0,Yq0,(Yq1 @hmd)⟩ ?_
  clear e0 e2 b2 hmd st
  rintro st ⟨e0,e2,b2,e4,e5,e7,b7,hmd⟩
  cases lf
  ·refine LW_nilBox (cs := [boolL false,.sl 0 [] .nil,.sl 0 [] .nil,.sl 0 [] .nil]) 7 2 1001 9 (Yq1 @b7) rfl ?_
   refine LW_nilBox (cs := [boolL false,.sl 0 [] .nil,.sl 0 [] (.row 1001),.sl 0 [] .nil]) 7 3 1002 3 (Yq1 (fa2 @setZ @setS)) rfl ?_
   refine LW_weakBox (cs := [boolL false,.sl 0 [] .nil,.sl 0 [] (.row 1001),.sl 0 [] (.row 1002)]) 7 [boolL false,.sl 0 [] .no,.sl 0 [] (.row 1001),.sl 0 [] (.row 1002)] (Yq1 (fa2 @setZ @setS)) rfl (by intro i x y hx hy w g v hr;rcases i with _ | _ | _ | _ | i <;> (simp only [List.getElem?_cons_zero,List.getElem?_cons_succ,List.getElem?_nil,Option.some.injEq,reduceCtorEq] at hx hy) <;> (subst hx hy;first | exact hr | exact hr.no_of rfl)) ?_
   refine Yl0 ?_
   exact hJ.out n _ ⟨n,j,⟨false,[],[],[]⟩,.no,.row 1001,.row 1002,rfl,hR,hpos,(by simp only [List.length_nil];omega),(by simp only [List.length_nil];omega),(by simp only [List.length_nil];omega),(fun r hr => by cases hr),(fun r hr => by cases hr),(Yq1 @e0),(Yq1 @e2),(Yq1 @b2),(Yq1 @e4),(Yq1 @e5),(Yq1 @e7),(by first | exact rfl | assumption | (simp only [LZ,zo,zc,reduceCtorEq,reduceIte,zz1,zz2,zz3,zz4,zz5,zz6,zz7,zz8,zz9,zza,zzb,zzc,zzd,zze,zzf,pgT,setZ,setS,List.flatMap_nil,List.length_nil] <;> exact rfl)),(Yq1 @hmd),.inr ⟨rfl,rfl,rfl,rfl,rfl,(by first | exact rfl | assumption | (simp only [LZ,zo,zc,reduceCtorEq,reduceIte,zz1,zz2,zz3,zz4,zz5,zz6,zz7,zz8,zz9,zza,zzb,zzc,zzd,zze,zzf,List.length_nil] <;> exact rfl)),(by first | exact rfl | assumption | (simp only [LZ,zo,zc,reduceCtorEq,reduceIte,zz1,zz2,zz3,zz4,zz5,zz6,zz7,zz8,zz9,zza,zzb,zzc,zzd,zze,zzf,List.length_nil] <;> exact rfl))⟩⟩
  ·refine LW_nilBox (cs := [boolL true,.sl 0 [] .nil,.sl 0 [] .nil,.sl 0 [] .nil]) 7 1 1001 56 (Yq1 @b7) rfl ?_
   refine LW_weakBox (cs := [boolL true,.sl 0 [] (.row 1001),.sl 0 [] .nil,.sl 0 [] .nil]) 7 [boolL true,.sl 0 [] (.row 1001),.sl 0 [] .no,.sl 0 [] .no] (Yq1 (fa2 @setZ @setS)) rfl (by intro i x y hx hy w g v hr;rcases i with _ | _ | _ | _ | i <;> (simp only [List.getElem?_cons_zero,List.getElem?_cons_succ,List.getElem?_nil,Option.some.injEq,reduceCtorEq] at hx hy) <;> (subst hx hy;first | exact hr | exact hr.no_of rfl)) ?_
   refine Yl0 ?_
   exact hJ.out n _ ⟨n,j,⟨true,[],[],[]⟩,.row 1001,.no,.no,rfl,hR,hpos,(by simp only [List.length_nil];omega),(by simp only [List.length_nil];omega),(by simp only [List.length_nil];omega),(fun r hr => by cases hr),(fun r hr => by cases hr),(Yq1 @e0),(Yq1 @e2),(Yq1 @b2),(Yq1 @e4),(Yq1 @e5),(Yq1 @e7),(by first | exact rfl | assumption | (simp only [LZ,zo,zc,reduceCtorEq,reduceIte,zz1,zz2,zz3,zz4,zz5,zz6,zz7,zz8,zz9,zza,zzb,zzc,zzd,zze,zzf,pgT,setZ,setS,List.flatMap_nil,List.length_nil] <;> exact rfl)),(Yq1 @hmd),.inl ⟨rfl,rfl,rfl,rfl,rfl,rfl,(by first | exact rfl | assumption | (simp only [LZ,zo,zc,reduceCtorEq,reduceIte,zz1,zz2,zz3,zz4,zz5,zz6,zz7,zz8,zz9,zza,zzb,zzc,zzd,zze,zzf,List.length_nil] <;> exact rfl))⟩⟩
 ·rintro m st ⟨k,i,p,t1,t2,t3,rfl,hr,hi,l1,l2,l3,hrs,hks,e0,e2,b2,e4,e5,e7,b7,hmd,hcase⟩
  simp only [bytesL'] at e0
  simp only [u64L] at e4
  cases m with
  | zero =>
   have hk0 : ¬ ((0 : Int) < ((0 : Nat) : Int)) := by omega
   rw [rest_zero] at hr
   unfold endPg at hr
   simp only at hr
   have hsm : SmallP p := ⟨by omega,by omega,by omega,fun r h => (hrs r h).1,hks⟩
   have hto : okTime p := fun r h => (hrs r h).2
   refine Yg1 @e4 ?_
   refine Yf1 @hk0 ?_
   by_cases he : (i : Int) = (b.length : Int)
   rotate_left
   ·rw [if_neg (fun h => he h.1)] at hr
    subst hr
    refine Yg1 (fa3 @e0 @e5 @he) ?_
    refine Yt0 ?_
    refine Yg1 (fa2 @e2 @b2) ?_
    refine LW_ret ?_;simp only [thenL,jumpsL,inBlockL,twoL,bodyO];refine ⟨[],rfl,?_⟩;simp only [thenL,jumpsL,inBlockL,twoL,bodyQ,LV.lit.injEq,LV.tup.injEq,LV.agg.injEq,LV.sl.injEq,List.cons.injEq,Value.int.injEq,Value.bool.injEq,Value.string.injEq,ByteArray.mk.injEq,exists_eq_left',exists_eq_left,exists_eq_right,LZ,zo,zc,reduceCtorEq,reduceIte,zz1,zz2,zz3,zz4,zz5,zz6,zz7,zz8,zz9,zza,zzb,zzc,zzd,zze,zzf,pgL,zeroPg,rowL,strsL,intsL,e2]
    exact ⟨rfl,rfl,rfl⟩
   refine Yg1 (fa3 @e0 @e5 @he) ?_
   refine Yf0 ?_
   refine LW_plainBox (cs := pgT p t1 t2 t3) 7 (Yq1 @b7) ?_
   refine LW_slim (fun st => st.env 0 = bytesL' b ∧ st.env 2 = .ptr 2 0 ∧ st.box 2 = some [boolL false,.sl 0 [] .nil,.sl 0 [] .nil,.sl 0 [] .nil] ∧ st.env 7 = .ptr 7 0 ∧ st.box 7 = some (pgL p) ∧ st.mode = fun _ => false) ⟨(Yq1 (fa2 @e0 @bytesL'.eq_1)),(Yq1 @e2),(Yq1 @b2),(Yq1 @e7),(by first | exact rfl | assumption | (simp only [LZ,zo,zc,reduceCtorEq,reduceIte,zz1,zz2,zz3,zz4,zz5,zz6,zz7,zz8,zz9,zza,zzb,zzc,zzd,zze,zzf,pgT,pgL,rowL,strsL,intsL,List.map_cons,List.map_nil,plain1] <;> exact rfl)),(Yq1 @hmd)⟩ ?_
   clear e0 e2 b2 e4 e5 e7 b7 hmd hcase st
   rintro st ⟨e0,e2,b2,e7,b7,hmd⟩
   simp only [bytesL'] at e0
   simp only [pgL,rowL,strsL,intsL] at b7
   have cp := pput_L p hsm hto
   unfold pputP at cp
   cases hm : mayPg p
   ·rw [hm,if_neg (by decide)] at cp
    simp only [pgL,rowL,strsL,intsL,bytesL',intL] at cp
    rw [if_neg (fun h => by rw [hm] at h;exact Bool.noConfusion h.2.1)] at hr
    subst hr
    refine Yr1 (fa2 @e7 @b7) ?_;intro K hK
    refine Yc1 (cp) (fa2 @e7 @b7) ?_
    refine hK _ ?_;clear hK K;try refine Wh0 ?_
    refine Yr1 @e0 ?_;intro K hK
    refine hK _ ?_;clear hK K;try refine Wh0 ?_
    refine Yt0 ?_
    refine Yg1 (fa2 @e2 @b2) ?_
    refine LW_ret ?_;simp only [thenL,jumpsL,inBlockL,twoL,bodyO];refine ⟨[],rfl,?_⟩;simp only [thenL,jumpsL,inBlockL,twoL,bodyQ,LV.lit.injEq,LV.tup.injEq,LV.agg.injEq,LV.sl.injEq,List.cons.injEq,Value.int.injEq,Value.bool.injEq,Value.string.injEq,ByteArray.mk.injEq,exists_eq_left',exists_eq_left,exists_eq_right,LZ,zo,zc,reduceCtorEq,reduceIte,zz1,zz2,zz3,zz4,zz5,zz6,zz7,zz8,zz9,zza,zzb,zzc,zzd,zze,zzf,pgL,zeroPg,rowL,strsL,intsL,e2]
    exact ⟨rfl,rfl,rfl⟩
   rw [hm,if_pos rfl] at cp
   have cb := bequal_L (putPg p) b
   generalize hX : putPg p = X at *
   simp only [pgL,rowL,strsL,intsL,bytesL',intL] at cp
   simp only [bytesL'] at cb
   by_cases hx : X = b
   ·rw [decide_eq_true hx] at cb
    rw [if_pos ⟨he,hm,hx⟩] at hr
    subst hr
    refine Yr1 (fa2 @e7 @b7) ?_;intro K hK
    refine Yc1 (cp) (fa2 @e7 @b7) ?_
    refine hK _ ?_;clear hK K;try refine Wh0 ?_
    refine Yr1 @e0 ?_;intro K hK
    refine Yc1 (cb) @e0 ?_
    refine hK _ ?_;clear hK K;try refine Wh0 ?_
    refine Yf0 ?_
    refine Yg1 (fa4 @e2 @b2 @e7 @b7) ?_
    refine LW_ret ?_;simp only [thenL,jumpsL,inBlockL,twoL,bodyO];refine ⟨[],rfl,?_⟩;simp only [thenL,jumpsL,inBlockL,twoL,bodyQ,LV.lit.injEq,LV.tup.injEq,LV.agg.injEq,LV.sl.injEq,List.cons.injEq,Value.int.injEq,Value.bool.injEq,Value.string.injEq,ByteArray.mk.injEq,exists_eq_left',exists_eq_left,exists_eq_right,LZ,zo,zc,reduceCtorEq,reduceIte,zz1,zz2,zz3,zz4,zz5,zz6,zz7,zz8,zz9,zza,zzb,zzc,zzd,zze,zzf,pgL,rowL,strsL,intsL,e2]
   ·rw [decide_eq_false hx] at cb
    rw [if_neg (fun h => hx h.2.2)] at hr
    subst hr
    refine Yr1 (fa2 @e7 @b7) ?_;intro K hK
    refine Yc1 (cp) (fa2 @e7 @b7) ?_
    refine hK _ ?_;clear hK K;try refine Wh0 ?_
    refine Yr1 @e0 ?_;intro K hK
    refine Yc1 (cb) @e0 ?_
    refine hK _ ?_;clear hK K;try refine Wh0 ?_
    refine Yt0 ?_
    refine Yg1 (fa2 @e2 @b2) ?_
    refine LW_ret ?_;simp only [thenL,jumpsL,inBlockL,twoL,bodyO];refine ⟨[],rfl,?_⟩;simp only [thenL,jumpsL,inBlockL,twoL,bodyQ,LV.lit.injEq,LV.tup.injEq,LV.agg.injEq,LV.sl.injEq,List.cons.injEq,Value.int.injEq,Value.bool.injEq,Value.string.injEq,ByteArray.mk.injEq,exists_eq_left',exists_eq_left,exists_eq_right,LZ,zo,zc,reduceCtorEq,reduceIte,zz1,zz2,zz3,zz4,zz5,zz6,zz7,zz8,zz9,zza,zzb,zzc,zzd,zze,zzf,pgL,zeroPg,rowL,strsL,intsL,e2]
    exact ⟨rfl,rfl,rfl⟩
  | succ k =>
   have hk0 : ((0 : Int) < ((k + 1 : Nat) : Int)) = True := eq_true (by omega)
   have hwk : IntKind.u64.wrap (((k + 1 : Nat) : Int) - 1) = (k : Int) := by rw [show ((k + 1 : Nat) : Int) - 1 = (k : Int) by omega];exact wuN (by omega)
   obtain ⟨lf,recs,keys,pages⟩ := p
   refine Yg1 @e4 ?_
   refine Yt1 @hk0 ?_
   rcases hcase with ⟨h1,h2,h3,rfl,rfl,rfl,r1⟩ | ⟨h1,h2,rfl,rfl,rfl,r1,r2⟩
   ·simp only at h1 h2 h3 r1 l1
    subst h1 h2 h3
    simp only [pgT,List.length_nil,List.flatMap_nil] at b7
    have cr := pgetRec_S true recs (by omega) b hb i
    refine Yg1 (fa2 @e7 @b7) ?_
    refine Yt0 ?_
    by_cases hg : (getRec b i).2.2 = 0
    ·obtain ⟨r,j,hq,hj,hsr,htr⟩ := getRec_nat hg
     have hp : getRecP b recs i = (recs ++ [r],(j : Int),true) := by unfold getRecP;rw [hq];rfl
     rw [hp] at cr
     rw [rest_rec rfl k i hq] at hr
     simp only [pgR,bytesL',intL,List.length_append,List.length_singleton] at cr
     (repeat (first | refine LW_seq ?_ | (refine LW_skip ?_;simp only [LSj,reduceIte,zze]) | refine LW_block ?_));refine LW_regionO [(55,⟨_,_,_,_,_,[(7,1000),(1001,1001)],[(2000,7),(2001,1001)],_,[1000007],(cr).toS,rfl,rfl,rfl⟩)] ?_;intro K hK;simp only [LZ,zo,zc,reduceCtorEq,reduceIte,zz1,zz2,zz3,zz4,zz5,zz6,zz7,zz8,zz9,zza,zzb,zzc,zzd,zze,zzf,e0,e5,e7,b7,r1]
     refine hK _ ?_;clear hK K;try refine Wh0 ?_
     refine Yg0 ?_
     refine Yf0 ?_
     refine Yg1 (fa2 @e4 @hwk) ?_
     refine LW_goto ?_;simp only [thenL,jumpsL,inBlockL,twoL,true_and]
     exact ⟨k,by omega,k,j,⟨true,recs ++ [r],[],[]⟩,.row 1001,.no,.no,rfl,hr,hj,by simp only [List.length_append,List.length_singleton];omega,by simp only [List.length_nil];omega,by simp only [List.length_nil];omega,by
      intro x hx
      rcases List.mem_append.1 hx with hx | hx
      ·exact hrs x hx
      ·rw [List.mem_singleton.1 hx];exact ⟨hsr,htr⟩,hks,(Yq1 (fa2 @e0 @bytesL'.eq_1)),(Yq1 @e2),(Yq1 @b2),(Yq1 (fa2 @hwk @u64L.eq_1)),Yq0,(Yq1 @e7),(by first | exact rfl | assumption | (simp only [LZ,zo,zc,reduceCtorEq,reduceIte,zz1,zz2,zz3,zz4,zz5,zz6,zz7,zz8,zz9,zza,zzb,zzc,zzd,zze,zzf,pgT,List.length_append,List.length_singleton,List.flatMap_nil,List.length_nil] <;> exact rfl)),(Yq1 @hmd),.inl ⟨rfl,rfl,rfl,rfl,rfl,rfl,(by first | exact rfl | assumption | (simp only [LZ,zo,zc,reduceCtorEq,reduceIte,zz1,zz2,zz3,zz4,zz5,zz6,zz7,zz8,zz9,zza,zzb,zzc,zzd,zze,zzf,List.length_append,List.length_singleton] <;> exact rfl))⟩⟩
    ·have hp : getRecP b recs i = (recs,(i : Int),false) := by unfold getRecP;rw [if_neg hg]
     rw [hp] at cr
     rw [rest_recN rfl k i hg] at hr
     unfold endPg at hr
     simp only at hr
     subst hr
     simp only [pgR,bytesL',intL] at cr
     (repeat (first | refine LW_seq ?_ | (refine LW_skip ?_;simp only [LSj,reduceIte,zze]) | refine LW_block ?_));refine LW_regionO [(55,⟨_,_,_,_,_,[(7,1000),(1001,1001)],[(2000,7),(2001,1001)],_,[1000007],(cr).toS,rfl,rfl,rfl⟩)] ?_;intro K hK;simp only [LZ,zo,zc,reduceCtorEq,reduceIte,zz1,zz2,zz3,zz4,zz5,zz6,zz7,zz8,zz9,zza,zzb,zzc,zzd,zze,zzf,e0,e5,e7,b7,r1]
     refine hK _ ?_;clear hK K;try refine Wh0 ?_
     refine Yg0 ?_
     refine Yt0 ?_
     refine Yg1 (fa2 @e2 @b2) ?_
     refine LW_ret ?_;simp only [thenL,jumpsL,inBlockL,twoL,bodyO];refine ⟨[],rfl,?_⟩;simp only [thenL,jumpsL,inBlockL,twoL,bodyQ,LV.lit.injEq,LV.tup.injEq,LV.agg.injEq,LV.sl.injEq,List.cons.injEq,Value.int.injEq,Value.bool.injEq,Value.string.injEq,ByteArray.mk.injEq,exists_eq_left',exists_eq_left,exists_eq_right,LZ,zo,zc,reduceCtorEq,reduceIte,zz1,zz2,zz3,zz4,zz5,zz6,zz7,zz8,zz9,zza,zzb,zzc,zzd,zze,zzf,pgL,zeroPg,rowL,strsL,intsL,e2]
     exact ⟨rfl,rfl,rfl⟩
   ·simp only at h1 h2 r1 r2 l2 l3
    subst h1 h2
    simp only [pgT,List.length_nil,List.flatMap_nil] at b7
    have cr := pgetKey_S false keys pages (by omega) (by omega) b hb i hi
    refine Yg1 (fa2 @e7 @b7) ?_
    refine Yf0 ?_
    by_cases hg : (getTP b i 100).2.2 = 0 ∧ (getP b (getTP b i 100).2.1).2.2 = 0 ∧ (getP b (getTP b i 100).2.1).1 ≤ 10000
    ·have hp : getKeyP b keys pages i = (keys ++ [(getTP b i 100).1],pages ++ [((getP b (getTP b i 100).2.1).1 : Int)],(getP b (getTP b i 100).2.1).2.1,true) := by unfold getKeyP;rw [if_pos hg]
     rw [hp] at cr
     rw [rest_key (fun h => Bool.noConfusion h) k i hg] at hr
     have hj := getP_pos (b := b) (i := (getTP b i 100).2.1) (getTP_pos hi).1
     have hkl := (getTP_pos (b := b) (most := 100) hi).2
     generalize getTP b i 100 = qa at *
     generalize getP b qa.2.1 = qb at *
     simp only [pgK,bytesL',intL,List.length_append,List.length_singleton] at cr
     (repeat (first | refine LW_seq ?_ | (refine LW_skip ?_;simp only [LSj,reduceIte,zze]) | refine LW_block ?_));refine LW_regionO [(61,⟨_,_,_,_,_,[(7,1000),(1001,1001),(1002,1002)],[(2000,7),(2001,1001),(2002,1002)],_,[1000007],(cr).toS,rfl,rfl,rfl⟩)] ?_;intro K hK;simp only [LZ,zo,zc,reduceCtorEq,reduceIte,zz1,zz2,zz3,zz4,zz5,zz6,zz7,zz8,zz9,zza,zzb,zzc,zzd,zze,zzf,e0,e5,e7,b7,r1,r2]
     refine hK _ ?_;clear hK K;try refine Wh0 ?_
     refine Yg0 ?_
     refine Yf0 ?_
     refine Yg1 (fa2 @e4 @hwk) ?_
     refine LW_goto ?_;simp only [thenL,jumpsL,inBlockL,twoL,true_and]
     exact ⟨k,by omega,k,qb.2.1,⟨false,[],keys ++ [qa.1],pages ++ [(qb.1 : Int)]⟩,.no,.row 1001,.row 1002,rfl,hr,hj,by simp only [List.length_nil];omega,by simp only [List.length_append,List.length_singleton];omega,by simp only [List.length_append,List.length_singleton];omega,hrs,by
      intro x hx
      rcases List.mem_append.1 hx with hx | hx
      ·exact hks x hx
      ·rw [List.mem_singleton.1 hx];omega,(Yq1 (fa2 @e0 @bytesL'.eq_1)),(Yq1 @e2),(Yq1 @b2),(Yq1 (fa2 @hwk @u64L.eq_1)),Yq0,(Yq1 @e7),(by first | exact rfl | assumption | (simp only [LZ,zo,zc,reduceCtorEq,reduceIte,zz1,zz2,zz3,zz4,zz5,zz6,zz7,zz8,zz9,zza,zzb,zzc,zzd,zze,zzf,pgT,List.length_append,List.length_singleton,List.flatMap_nil,List.length_nil] <;> exact rfl)),(Yq1 @hmd),.inr ⟨rfl,rfl,rfl,rfl,rfl,(by first | exact rfl | assumption | (simp only [LZ,zo,zc,reduceCtorEq,reduceIte,zz1,zz2,zz3,zz4,zz5,zz6,zz7,zz8,zz9,zza,zzb,zzc,zzd,zze,zzf,List.length_append,List.length_singleton] <;> exact rfl)),(by first | exact rfl | assumption | (simp only [LZ,zo,zc,reduceCtorEq,reduceIte,zz1,zz2,zz3,zz4,zz5,zz6,zz7,zz8,zz9,zza,zzb,zzc,zzd,zze,zzf,List.length_append,List.length_singleton] <;> exact rfl))⟩⟩
    ·have hp : getKeyP b keys pages i = (keys,pages,i,false) := by unfold getKeyP;rw [if_neg hg]
     rw [hp] at cr
     rw [rest_keyN (fun h => Bool.noConfusion h) k i hg] at hr
     unfold endPg at hr
     simp only at hr
     subst hr
     simp only [pgK,bytesL',intL] at cr
     (repeat (first | refine LW_seq ?_ | (refine LW_skip ?_;simp only [LSj,reduceIte,zze]) | refine LW_block ?_));refine LW_regionO [(61,⟨_,_,_,_,_,[(7,1000),(1001,1001),(1002,1002)],[(2000,7),(2001,1001),(2002,1002)],_,[1000007],(cr).toS,rfl,rfl,rfl⟩)] ?_;intro K hK;simp only [LZ,zo,zc,reduceCtorEq,reduceIte,zz1,zz2,zz3,zz4,zz5,zz6,zz7,zz8,zz9,zza,zzb,zzc,zzd,zze,zzf,e0,e5,e7,b7,r1,r2]
     refine hK _ ?_;clear hK K;try refine Wh0 ?_
     refine Yg0 ?_
     refine Yt0 ?_
     refine Yg1 (fa2 @e2 @b2) ?_
     refine LW_ret ?_;simp only [thenL,jumpsL,inBlockL,twoL,bodyO];refine ⟨[],rfl,?_⟩;simp only [thenL,jumpsL,inBlockL,twoL,bodyQ,LV.lit.injEq,LV.tup.injEq,LV.agg.injEq,LV.sl.injEq,List.cons.injEq,Value.int.injEq,Value.bool.injEq,Value.string.injEq,ByteArray.mk.injEq,exists_eq_left',exists_eq_left,exists_eq_right,LZ,zo,zc,reduceCtorEq,reduceIte,zz1,zz2,zz3,zz4,zz5,zz6,zz7,zz8,zz9,zza,zzb,zzc,zzd,zze,zzf,pgL,zeroPg,rowL,strsL,intsL,e2]
     exact ⟨rfl,rfl,rfl⟩
theorem pgetPg_L (b : List UInt8) (hb : b.length ≤ 1000000) : LCalls Tryz.prog 8 [bytesL' b] (.tup [.agg (pgL (getPg b).1),intL (getPg b).2]) := (pgetPg_O b hb).toL
end Go.Proofs.YtnmjghcdccfphaaGreatDoor
end
