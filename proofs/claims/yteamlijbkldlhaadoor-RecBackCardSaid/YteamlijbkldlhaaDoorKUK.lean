import Derived.Test.YteamlijbkldlhaaDoorKUD
import Derived.Test.YteamlijbkldlhaaDoorL25
set_option linter.unusedSimpArgs false
set_option linter.unusedVariables false
namespace Go.Proofs.YteamlijbkldlhaaDoor
open Nat renaming reduceAdd → zz1,reduceMul → zz2,reduceSub → zz3,reduceLT → zz4,reduceLeDiff → zz5,reduceEqDiff → zz6,reduceBEq → zzf
open Int renaming reduceAdd → zz7,reduceSub → zz8,reduceMul → zz9,reduceLT → zza,reduceLE → zzb,reduceEq → zzc,reduceNeg → zzd,reduceToNat → zze
open Op renaming operands → zo
open Call renaming operands → zc
open Go.RowKit Go.Proofs AclSpec MetaSpec NodeSpec RecSpec PathSpec

def metaW (m : FMeta) (a c : Tok) : List LV := [intL m.mode,intL m.uid,intL m.gid,intL m.time,.sl m.attrs.length (m.attrs.flatMap attrL) a,.sl m.acl.length (m.acl.flatMap aceL) c]
set_option maxRecDepth 100000 in
set_option maxHeartbeats 8000000 in
theorem metaR_S (b : List UInt8) (hb : b.length ≤ 1000000) (s : Rd) (hs : s.pos ≤ b.length) :
    SCalls Tryd.prog 40 [.ptr 1000 0] ⟨[],[],[(1000,rdL b s)]⟩ (.agg (metaW (rMeta b s).1 (.row 2001) (.row 2002))) ⟨[(2001,(53,(rMeta b s).1.attrs.length)),(2002,(55,(rMeta b s).1.acl.length))],[],[(2000,rdL b (rMeta b s).2)]⟩ [(1000,2000)] := by
  have c1 := number_S b hb s hs mxI
  have h1 := rNum_pos (most := mxI) hs
  have hM : rMeta b s = (⟨((rNum b mxI s).1 : Int),((rNum b mxI (rNum b mxI s).2).1 : Int),((rNum b mxI (rNum b mxI (rNum b mxI s).2).2).1 : Int),((rLong b (rNum b mxI (rNum b mxI (rNum b mxI s).2).2).2).1 : Int),
    (rRep (rAttr b) (rNum b 8 (rLong b (rNum b mxI (rNum b mxI (rNum b mxI s).2).2).2).2).1 (rNum b 8 (rLong b (rNum b mxI (rNum b mxI (rNum b mxI s).2).2).2).2).2).1,
    (rRep (rAce b) (rNum b 16 (rRep (rAttr b) (rNum b 8 (rLong b (rNum b mxI (rNum b mxI (rNum b mxI s).2).2).2).2).1 (rNum b 8 (rLong b (rNum b mxI (rNum b mxI (rNum b mxI s).2).2).2).2).2).2).1 (rNum b 16 (rRep (rAttr b) (rNum b 8 (rLong b (rNum b mxI (rNum b mxI (rNum b mxI s).2).2).2).2).1 (rNum b 8 (rLong b (rNum b mxI (rNum b mxI (rNum b mxI s).2).2).2).2).2).2).2).1⟩,
    (rRep (rAce b) (rNum b 16 (rRep (rAttr b) (rNum b 8 (rLong b (rNum b mxI (rNum b mxI (rNum b mxI s).2).2).2).2).1 (rNum b 8 (rLong b (rNum b mxI (rNum b mxI (rNum b mxI s).2).2).2).2).2).2).1 (rNum b 16 (rRep (rAttr b) (rNum b 8 (rLong b (rNum b mxI (rNum b mxI (rNum b mxI s).2).2).2).2).1 (rNum b 8 (rLong b (rNum b mxI (rNum b mxI (rNum b mxI s).2).2).2).2).2).2).2).2) := rfl
  generalize rMeta b s = R at *
  generalize rNum b mxI s = p1 at *
  have c2 := number_S b hb p1.2 h1 mxI
  have h2 := rNum_pos (most := mxI) h1
  generalize rNum b mxI p1.2 = p2 at *
  have c3 := number_S b hb p2.2 h2 mxI
  have h3 := rNum_pos (most := mxI) h2
  generalize rNum b mxI p2.2 = p3 at *
  have c4 := long_S b hb p3.2 h3
  have h4 := rLong_pos h3
  generalize rLong b p3.2 = p4 at *
  have c5 := number_S b hb p4.2 h4 8
  have h5 := rNum_pos (most := 8) h4
  have h58 := rNum_le (b := b) (most := 8) (s := p4.2)
  generalize rNum b 8 p4.2 = p5 at *
  have hmx : ((mxI : Nat) : Int) = 9223372036854775807 := rfl
  have h8 : ((8 : Nat) : Int) = 8 := rfl
  simp only [rdL,bytesL',intL,hmx,h8] at c1 c2 c3 c4 c5
  refine SCalls.of (fun _ => false) [(1000,2000)] 0 Tryd.func40 rfl (by decide) Tryd.ntmps40 Tryd.results40 (by simp) (.inr ⟨_,_,rfl,by decide,rfl⟩) ?_
  intro w0 S0 vs
  refine Yg0 ?_
  refine LW_lab2
    (fun n st => ∃ (k : Nat) (l : List Attr) (t : Rd) (tok : Tok),n = k + 100 ∧ rRep (rAttr b) p5.1 p5.2 = (l ++ (rRep (rAttr b) k t).1,(rRep (rAttr b) k t).2) ∧ t.pos ≤ b.length ∧ l.length + k = p5.1 ∧ st.env 0 = .ptr 1000 0 ∧ st.val 0 = vs[0]? ∧ st.box 1000 = some (rdL b t) ∧ st.env 2 = .ptr 2 0 ∧ st.box 2 = some zMeta ∧ st.env 3 = .ptr 3 0 ∧ st.box 3 = some [intL p1.1,intL p2.1,intL p3.1,intL p4.1,.sl l.length (l.flatMap attrL) tok,.sl 0 [] .nil] ∧
      ((tok = .nil ∧ l = []) ∨ (tok = .row 26 ∧ st.row 26 = some (53,l.length))) ∧ st.env 4 = intL k ∧ st.mode = fun _ => false)
    (fun n st => ∃ (l : List Attr) (q6 : Nat × Rd) (k : Nat) (m : List Ace) (t : Rd) (t1 tok : Tok),k = n ∧ k ≤ 16 ∧ (rRep (rAttr b) p5.1 p5.2).1 = l ∧ rNum b 16 (rRep (rAttr b) p5.1 p5.2).2 = q6 ∧ rRep (rAce b) q6.1 q6.2 = (m ++ (rRep (rAce b) k t).1,(rRep (rAce b) k t).2) ∧ t.pos ≤ b.length ∧ m.length + k = q6.1 ∧ st.env 0 = .ptr 1000 0 ∧ st.val 0 = vs[0]? ∧ st.box 1000 = some (rdL b t) ∧ st.env 2 = .ptr 2 0 ∧ st.box 2 = some zMeta ∧ st.env 3 = .ptr 3 0 ∧ st.box 3 = some [intL p1.1,intL p2.1,intL p3.1,intL p4.1,.sl l.length (l.flatMap attrL) t1,.sl m.length (m.flatMap aceL) tok] ∧
      ((t1 = .nil ∧ l = []) ∨ (t1 = .row 26 ∧ st.row 26 = some (53,l.length))) ∧ ((tok = .nil ∧ m = []) ∨ (tok = .row 44 ∧ st.row 44 = some (55,m.length))) ∧ st.env 4 = intL k ∧ st.mode = fun _ => false) rfl rfl ?_ ?_ ?_
  · intro hJ0 hJ1
    (repeat (first | refine LW_seq ?_ | (refine LW_skip ?_;simp only [LSj,reduceIte,zze]) | refine LW_block ?_));refine LW_regionO [(6,⟨_,_,_,_,_,[(1000,1000)],[(2000,1000)],_,[1001000],(c1).toS,rfl,rfl,rfl⟩),(8,⟨_,_,_,_,_,[(1000,1000)],[(2000,1000)],_,[1001000],(c2).toS,rfl,rfl,rfl⟩),(10,⟨_,_,_,_,_,[(1000,1000)],[(2000,1000)],_,[1001000],(c3).toS,rfl,rfl,rfl⟩),(12,⟨_,_,_,_,_,[(1000,1000)],[(2000,1000)],_,[1001000],(c4).toS,rfl,rfl,rfl⟩)] ?_;intro K hK;simp only [LZ,zo,zc,reduceCtorEq,reduceIte,zz1,zz2,zz3,zz4,zz5,zz6,zz7,zz8,zz9,zza,zzb,zzc,zzd,zze,zzf,rdL,bytesL']
    refine hK _ ?_;clear hK K;try refine Wh0 ?_
    (repeat (first | refine LW_seq ?_ | (refine LW_skip ?_;simp only [LSj,reduceIte,zze]) | refine LW_block ?_));refine LW_regionO [(15,⟨_,_,_,_,_,[(1000,1000)],[(2000,1000)],_,[1001000],(c5).toS,rfl,rfl,rfl⟩)] ?_;intro K hK;simp only [LZ,zo,zc,reduceCtorEq,reduceIte,zz1,zz2,zz3,zz4,zz5,zz6,zz7,zz8,zz9,zza,zzb,zzc,zzd,zze,zzf]
    refine hK _ ?_;clear hK K;try refine Wh0 ?_
    refine Yl0 ?_
    exact hJ0.out (p5.1 + 100) _ ⟨p5.1,[],p5.2,.nil,rfl,by simp,h5,by simp,Yq0,Yq0,(Yq1 (fa2 @rdL.eq_1 @bytesL'.eq_1)),Yq0,(Yq1 @zMeta.eq_1),Yq0,Yq0,.inl ⟨rfl,rfl⟩,Yq0,Yq0⟩
  · rintro n st ⟨k,l,t,tok,rfl,hrep,ht,hlk,e0,v0,b1000,e2,b2,e3,b3,htok,e4,hmd⟩ hJ
    simp only [rdL,bytesL'] at b1000
    simp only [zMeta] at b2
    cases k with
    | zero =>
      have hk0 : ¬ ((0 : Int) < ((0 : Nat) : Int)) := by omega
      have hr0 : rRep (rAttr b) p5.1 p5.2 = (l,t) := by rw [hrep];simp [rRep,pureR]
      have c6 := number_S b hb t ht 16
      have h16 : ((16 : Nat) : Int) = 16 := rfl
      simp only [rdL,bytesL',intL,h16] at c6
      refine Yg1 @e4 ?_
      refine Yf1 @hk0 ?_
      (repeat (first | refine LW_seq ?_ | (refine LW_skip ?_;simp only [LSj,reduceIte,zze]) | refine LW_block ?_));refine LW_regionO [(31,⟨_,_,_,_,_,[(1000,1000)],[(2000,1000)],_,[1001000],(c6).toS,rfl,rfl,rfl⟩)] ?_;intro K hK;simp only [LZ,zo,zc,reduceCtorEq,reduceIte,zz1,zz2,zz3,zz4,zz5,zz6,zz7,zz8,zz9,zza,zzb,zzc,zzd,zze,zzf,e0,b1000]
      refine hK _ ?_;clear hK K;try refine Wh0 ?_
      refine Yl0 ?_
      have h16' := rNum_le (b := b) (most := 16) (s := t)
      rcases htok with ⟨rfl,rfl⟩ | ⟨rfl,r26⟩
      · exact hJ.out (rNum b 16 t).1 _ (by omega) ⟨[],rNum b 16 t,(rNum b 16 t).1,[],(rNum b 16 t).2,.nil,.nil,rfl,h16',by rw [hr0],by rw [hr0],by simp,rNum_pos ht,by simp,(Yq1 @e0),(Yq1 @v0),(Yq1 (fa2 @rdL.eq_1 @bytesL'.eq_1)),(Yq1 @e2),(Yq1 (fa2 @b2 @zMeta.eq_1)),(Yq1 @e3),(Yq1 @b3),.inl ⟨rfl,rfl⟩,.inl ⟨rfl,rfl⟩,Yq0,(Yq1 @hmd)⟩
      · exact hJ.out (rNum b 16 t).1 _ (by omega) ⟨l,rNum b 16 t,(rNum b 16 t).1,[],(rNum b 16 t).2,.row 26,.nil,rfl,h16',by rw [hr0],by rw [hr0],by simp,rNum_pos ht,by simp,(Yq1 @e0),(Yq1 @v0),(Yq1 (fa2 @rdL.eq_1 @bytesL'.eq_1)),(Yq1 @e2),(Yq1 (fa2 @b2 @zMeta.eq_1)),(Yq1 @e3),(Yq1 @b3),.inr ⟨rfl,(Yq1 @r26)⟩,.inl ⟨rfl,rfl⟩,Yq0,(Yq1 @hmd)⟩
    | succ k =>
      have hk0 : ((0 : Int) < ((k + 1 : Nat) : Int)) = True := eq_true (by omega)
      have hwk : IntKind.i64.wrap (((k + 1 : Nat) : Int) - 1) = (k : Int) := by rw [show ((k + 1 : Nat) : Int) - 1 = (k : Int) by omega];exact w64 (by omega)
      have hst := rRep_step hrep
      have ct1 := text_S b hb t ht 20 (by omega)
      have ht1 := rText_pos (most := 20) (by decide) ht
      have hl1 := rText_le (most := 20) ht
      have ct2 := text_S b hb (rText b 20 t).2 ht1 200 (by omega)
      have ht2 := rText_pos (most := 200) (by decide) ht1
      have hat : rAttr b t = (⟨(rText b 20 t).1,(rText b 200 (rText b 20 t).2).1⟩,(rText b 200 (rText b 20 t).2).2) := rfl
      rw [hat] at hst
      generalize rText b 20 t = q1 at *
      generalize rText b 200 q1.2 = q2 at *
      have h20 : ((20 : Nat) : Int) = 20 := rfl
      have h200 : ((200 : Nat) : Int) = 200 := rfl
      simp only [rdL,bytesL',intL,h20,h200] at ct1 ct2
      have hlen := attrL_flen l
      refine Yg1 @e4 ?_
      refine Yt1 @hk0 ?_
      (repeat refine LW_seq ?_)
      refine LW_join (fun st => st.env 0 = .ptr 1000 0 ∧ st.val 0 = vs[0]? ∧ st.box 1000 = some (rdL b q2.2) ∧ st.env 2 = .ptr 2 0 ∧ st.box 2 = some zMeta ∧ st.env 3 = .ptr 3 0 ∧ st.box 3 = some [intL p1.1,intL p2.1,intL p3.1,intL p4.1,.sl (l.length + 1) ((l ++ [(⟨q1.1,q2.1⟩ : Attr)]).flatMap attrL) (.row 26),.sl 0 [] .nil] ∧ st.row 26 = some (53,l.length + 1) ∧ st.env 4 = intL ((k + 1 : Nat) : Int) ∧ st.mode = fun _ => false) ?_ ?_
      · rcases htok with ⟨rfl,rfl⟩ | ⟨rfl,r26⟩
        · have r26 : True := trivial
          (repeat (first | refine LW_seq ?_ | (refine LW_skip ?_;simp only [LSj,reduceIte,zze]) | refine LW_block ?_));refine LW_mix2 [(21,⟨_,_,_,_,_,[(1000,1000)],[(2000,1000)],_,[1001000],(ct1).toS,rfl,rfl,rfl⟩),(23,⟨_,_,_,_,_,[(1000,1000)],[(2000,1000)],_,[1001000],(ct2).toS,rfl,rfl,rfl⟩)] [21,23] (fun _ => false) [(0,[3,26]),(1,[3,26]),(2,[1000]),(3,[3,26]),(5,[3,26])] [0,1,2] [[3,4,5,6,7,8,9,10],[4,3,5,6,7,8,9,10]] rfl (by kernel_rfl) (by kernel_rfl) (by kernel_rfl) (by first | exact rfl | exact hmd | simp only [LZ,zo,zc,reduceCtorEq,reduceIte,zz1,zz2,zz3,zz4,zz5,zz6,zz7,zz8,zz9,zza,zzb,zzc,zzd,zze,zzf,e0,b1000,e3,b3,hmd,List.flatMap_nil]) ?_;intro K hK;simp only [LZ,zo,zc,reduceCtorEq,reduceIte,zz1,zz2,zz3,zz4,zz5,zz6,zz7,zz8,zz9,zza,zzb,zzc,zzd,zze,zzf,e0,b1000,e3,b3,hmd,List.flatMap_nil]
          (repeat' apply And.intro) <;> first | omega | (unfold maxLen;omega) | ((refine hK _ ?_;clear hK K;try refine Wh0 ?_);exact ⟨(Yq1 @e0),(Yq1 @v0),(Yq1 (fa2 @rdL.eq_1 @bytesL'.eq_1)),(Yq1 @e2),(Yq1 (fa2 @b2 @zMeta.eq_1)),(Yq1 @e3),(by first | exact rfl | assumption | (simp only [LZ,zo,zc,reduceCtorEq,reduceIte,zz1,zz2,zz3,zz4,zz5,zz6,zz7,zz8,zz9,zza,zzb,zzc,zzd,zze,zzf,b3,List.flatMap_nil,List.flatMap_append,List.flatMap_cons,attrL] <;> exact rfl)),Yq0,(Yq1 @e4),(Yq1 @hmd)⟩)
        · (repeat (first | refine LW_seq ?_ | (refine LW_skip ?_;simp only [LSj,reduceIte,zze]) | refine LW_block ?_));refine LW_mix2 [(21,⟨_,_,_,_,_,[(1000,1000)],[(2000,1000)],_,[1001000],(ct1).toS,rfl,rfl,rfl⟩),(23,⟨_,_,_,_,_,[(1000,1000)],[(2000,1000)],_,[1001000],(ct2).toS,rfl,rfl,rfl⟩)] [21,23] (fun _ => false) [(0,[3,26]),(1,[3,26]),(2,[1000]),(3,[3,26]),(5,[3,26])] [0,1,2] [[3,4,5,6,7,8,9,10],[4,3,5,6,7,8,9,10]] rfl (by kernel_rfl) (by kernel_rfl) (by kernel_rfl) (by first | exact rfl | exact hmd | simp only [LZ,zo,zc,reduceCtorEq,reduceIte,zz1,zz2,zz3,zz4,zz5,zz6,zz7,zz8,zz9,zza,zzb,zzc,zzd,zze,zzf,e0,b1000,e3,b3,hmd,r26,hlen]) ?_;intro K hK;simp only [LZ,zo,zc,reduceCtorEq,reduceIte,zz1,zz2,zz3,zz4,zz5,zz6,zz7,zz8,zz9,zza,zzb,zzc,zzd,zze,zzf,e0,b1000,e3,b3,hmd,r26,hlen]
          (repeat' apply And.intro) <;> first | omega | (unfold maxLen;omega) | ((refine hK _ ?_;clear hK K;try refine Wh0 ?_);exact ⟨(Yq1 @e0),(Yq1 @v0),(Yq1 (fa2 @rdL.eq_1 @bytesL'.eq_1)),(Yq1 @e2),(Yq1 (fa2 @b2 @zMeta.eq_1)),(Yq1 @e3),(by first | exact rfl | assumption | (simp only [LZ,zo,zc,reduceCtorEq,reduceIte,zz1,zz2,zz3,zz4,zz5,zz6,zz7,zz8,zz9,zza,zzb,zzc,zzd,zze,zzf,b3,List.flatMap_nil,List.flatMap_append,List.flatMap_cons,attrL] <;> exact rfl)),Yq0,(Yq1 @e4),(Yq1 @hmd)⟩)
      clear e0 v0 b1000 e2 b2 e3 b3 htok e4 hmd st
      rintro st ⟨e0,v0,b1000,e2,b2,e3,b3,r26,e4,hmd⟩
      refine Yg1 (fa2 @e4 @hwk) ?_
      refine LW_goto ?_;simp only [thenL,jumpsL,inBlockL,twoL,true_and]
      refine ⟨k + 100,by omega,k,l ++ [(⟨q1.1,q2.1⟩ : Attr)],q2.2,.row 26,rfl,hst,ht2,by rw [List.length_append,List.length_singleton];omega,(Yq1 @e0),(Yq1 @v0),(Yq1 @b1000),(Yq1 @e2),(Yq1 (fa2 @b2 @zMeta.eq_1)),(Yq1 @e3),?_,.inr ⟨rfl,?_⟩,(Yq1 @hwk),(Yq1 @hmd)⟩
      · rw [List.length_append,List.length_singleton];exact (Yq1 @b3)
      · rw [List.length_append,List.length_singleton];exact (Yq1 @r26)
  · rintro n st ⟨l,q6,k,m,t,t1,tok,rfl,hk16,hl,hq6,hrep,ht,hmk,e0,v0,b1000,e2,b2,e3,b3,ht1,htok,e4,hmd⟩ hJ
    simp only [rdL,bytesL'] at b1000
    simp only [zMeta] at b2
    have hq16 : q6.1 ≤ 16 := by rw [← hq6];exact rNum_le
    cases k with
    | zero =>
      have hk0 : ¬ ((0 : Int) < ((0 : Nat) : Int)) := by omega
      have hr0 : rRep (rAce b) q6.1 q6.2 = (m,t) := by rw [hrep];simp [rRep,pureR]
      rw [hl,hq6,hr0] at hM
      subst hM
      refine Yg1 @e4 ?_
      refine Yf1 @hk0 ?_
      rcases ht1 with ⟨rfl,rfl⟩ | ⟨rfl,r26⟩ <;> rcases htok with ⟨rfl,rfl⟩ | ⟨rfl,r44⟩
      · simp only [List.flatMap_nil,List.length_nil] at b3
        refine LW_nilBox (cs := [intL p1.1,intL p2.1,intL p3.1,intL p4.1,.sl 0 [] .nil,.sl 0 [] .nil]) 3 4 26 53 (Yq1 @b3) rfl ?_
        refine LW_nilBox (cs := [intL p1.1,intL p2.1,intL p3.1,intL p4.1,.sl 0 [] (.row 26),.sl 0 [] .nil]) 3 5 44 55 (Yq1 @b3) rfl ?_
        (repeat (first | refine LW_seq ?_ | ((first | (refine LW_region ?_;intro K hK;simp only [LZ,zo,zc,reduceCtorEq,reduceIte,zz1,zz2,zz3,zz4,zz5,zz6,zz7,zz8,zz9,zza,zzb,zzc,zzd,zze,zzf,e2,b2,e3,b3,List.set_cons_zero,List.set_cons_succ];refine hK _ ?_;clear hK K) | refine LW_label ?_ | refine LW_skip ?_);try simp only [LSj,reduceIte,zze]) | refine LW_block ?_))
        refine LW_ret ?_;simp only [thenL,jumpsL,inBlockL,twoL,bodyS];refine ⟨[(1000,2000),(26,2001),(44,2002)],rfl,.inr ⟨_,_,_,rfl,rfl,(by first | exact rfl | assumption | (simp only [LZ,zo,zc,reduceCtorEq,reduceIte,zz1,zz2,zz3,zz4,zz5,zz6,zz7,zz8,zz9,zza,zzb,zzc,zzd,zze,zzf,e0,v0,b1000,e2,metaW,attrsL,acesL,rowL,rdL,bytesL',List.flatMap_nil,List.length_nil] <;> exact rfl)),(by first | exact rfl | assumption | (simp only [LZ,zo,zc,reduceCtorEq,reduceIte,zz1,zz2,zz3,zz4,zz5,zz6,zz7,zz8,zz9,zza,zzb,zzc,zzd,zze,zzf,e0,v0,b1000,e2,metaW,attrsL,acesL,rowL,rdL,bytesL',List.flatMap_nil,List.length_nil] <;> exact rfl))⟩,?_⟩;simp only [thenL,jumpsL,inBlockL,twoL,bodyQ,LV.lit.injEq,LV.tup.injEq,LV.agg.injEq,LV.sl.injEq,List.cons.injEq,Value.int.injEq,Value.bool.injEq,Value.string.injEq,ByteArray.mk.injEq,exists_eq_left',exists_eq_left,exists_eq_right,LZ,zo,zc,reduceCtorEq,reduceIte,zz1,zz2,zz3,zz4,zz5,zz6,zz7,zz8,zz9,zza,zzb,zzc,zzd,zze,zzf,e0,v0,b1000,e2,metaW,attrsL,acesL,rowL,rdL,bytesL',List.flatMap_nil,List.length_nil]
      · simp only [List.flatMap_nil,List.length_nil] at b3
        refine LW_nilBox (cs := [intL p1.1,intL p2.1,intL p3.1,intL p4.1,.sl 0 [] .nil,.sl m.length (m.flatMap aceL) (.row 44)]) 3 4 26 53 (Yq1 @b3) rfl ?_
        (repeat (first | refine LW_seq ?_ | ((first | (refine LW_region ?_;intro K hK;simp only [LZ,zo,zc,reduceCtorEq,reduceIte,zz1,zz2,zz3,zz4,zz5,zz6,zz7,zz8,zz9,zza,zzb,zzc,zzd,zze,zzf,e2,b2,e3,b3,List.set_cons_zero,List.set_cons_succ];refine hK _ ?_;clear hK K) | refine LW_label ?_ | refine LW_skip ?_);try simp only [LSj,reduceIte,zze]) | refine LW_block ?_))
        refine LW_ret ?_;simp only [thenL,jumpsL,inBlockL,twoL,bodyS];refine ⟨[(1000,2000),(26,2001),(44,2002)],rfl,.inr ⟨_,_,_,rfl,rfl,(by first | exact rfl | assumption | (simp only [LZ,zo,zc,reduceCtorEq,reduceIte,zz1,zz2,zz3,zz4,zz5,zz6,zz7,zz8,zz9,zza,zzb,zzc,zzd,zze,zzf,e0,v0,b1000,e2,metaW,attrsL,acesL,rowL,rdL,bytesL',r44,List.flatMap_nil,List.length_nil] <;> exact rfl)),(by first | exact rfl | assumption | (simp only [LZ,zo,zc,reduceCtorEq,reduceIte,zz1,zz2,zz3,zz4,zz5,zz6,zz7,zz8,zz9,zza,zzb,zzc,zzd,zze,zzf,e0,v0,b1000,e2,metaW,attrsL,acesL,rowL,rdL,bytesL',r44,List.flatMap_nil,List.length_nil] <;> exact rfl))⟩,?_⟩;simp only [thenL,jumpsL,inBlockL,twoL,bodyQ,LV.lit.injEq,LV.tup.injEq,LV.agg.injEq,LV.sl.injEq,List.cons.injEq,Value.int.injEq,Value.bool.injEq,Value.string.injEq,ByteArray.mk.injEq,exists_eq_left',exists_eq_left,exists_eq_right,LZ,zo,zc,reduceCtorEq,reduceIte,zz1,zz2,zz3,zz4,zz5,zz6,zz7,zz8,zz9,zza,zzb,zzc,zzd,zze,zzf,e0,v0,b1000,e2,metaW,attrsL,acesL,rowL,rdL,bytesL',r44,List.flatMap_nil,List.length_nil]
      · simp only [List.flatMap_nil,List.length_nil] at b3
        refine LW_nilBox (cs := [intL p1.1,intL p2.1,intL p3.1,intL p4.1,.sl l.length (l.flatMap attrL) (.row 26),.sl 0 [] .nil]) 3 5 44 55 (Yq1 @b3) rfl ?_
        (repeat (first | refine LW_seq ?_ | ((first | (refine LW_region ?_;intro K hK;simp only [LZ,zo,zc,reduceCtorEq,reduceIte,zz1,zz2,zz3,zz4,zz5,zz6,zz7,zz8,zz9,zza,zzb,zzc,zzd,zze,zzf,e2,b2,e3,b3,List.set_cons_zero,List.set_cons_succ];refine hK _ ?_;clear hK K) | refine LW_label ?_ | refine LW_skip ?_);try simp only [LSj,reduceIte,zze]) | refine LW_block ?_))
        refine LW_ret ?_;simp only [thenL,jumpsL,inBlockL,twoL,bodyS];refine ⟨[(1000,2000),(26,2001),(44,2002)],rfl,.inr ⟨_,_,_,rfl,rfl,(by first | exact rfl | assumption | (simp only [LZ,zo,zc,reduceCtorEq,reduceIte,zz1,zz2,zz3,zz4,zz5,zz6,zz7,zz8,zz9,zza,zzb,zzc,zzd,zze,zzf,e0,v0,b1000,e2,metaW,attrsL,acesL,rowL,rdL,bytesL',r26,List.flatMap_nil,List.length_nil] <;> exact rfl)),(by first | exact rfl | assumption | (simp only [LZ,zo,zc,reduceCtorEq,reduceIte,zz1,zz2,zz3,zz4,zz5,zz6,zz7,zz8,zz9,zza,zzb,zzc,zzd,zze,zzf,e0,v0,b1000,e2,metaW,attrsL,acesL,rowL,rdL,bytesL',r26,List.flatMap_nil,List.length_nil] <;> exact rfl))⟩,?_⟩;simp only [thenL,jumpsL,inBlockL,twoL,bodyQ,LV.lit.injEq,LV.tup.injEq,LV.agg.injEq,LV.sl.injEq,List.cons.injEq,Value.int.injEq,Value.bool.injEq,Value.string.injEq,ByteArray.mk.injEq,exists_eq_left',exists_eq_left,exists_eq_right,LZ,zo,zc,reduceCtorEq,reduceIte,zz1,zz2,zz3,zz4,zz5,zz6,zz7,zz8,zz9,zza,zzb,zzc,zzd,zze,zzf,e0,v0,b1000,e2,metaW,attrsL,acesL,rowL,rdL,bytesL',r26,List.flatMap_nil,List.length_nil]
      · (repeat (first | refine LW_seq ?_ | ((first | (refine LW_region ?_;intro K hK;simp only [LZ,zo,zc,reduceCtorEq,reduceIte,zz1,zz2,zz3,zz4,zz5,zz6,zz7,zz8,zz9,zza,zzb,zzc,zzd,zze,zzf,e2,b2,e3,b3,List.set_cons_zero,List.set_cons_succ];refine hK _ ?_;clear hK K) | refine LW_label ?_ | refine LW_skip ?_);try simp only [LSj,reduceIte,zze]) | refine LW_block ?_))
        refine LW_ret ?_;simp only [thenL,jumpsL,inBlockL,twoL,bodyS];refine ⟨[(1000,2000),(26,2001),(44,2002)],rfl,.inr ⟨_,_,_,rfl,rfl,(by first | exact rfl | assumption | (simp only [LZ,zo,zc,reduceCtorEq,reduceIte,zz1,zz2,zz3,zz4,zz5,zz6,zz7,zz8,zz9,zza,zzb,zzc,zzd,zze,zzf,e0,v0,b1000,e2,metaW,attrsL,acesL,rowL,rdL,bytesL',r26,r44,List.flatMap_nil,List.length_nil] <;> exact rfl)),(by first | exact rfl | assumption | (simp only [LZ,zo,zc,reduceCtorEq,reduceIte,zz1,zz2,zz3,zz4,zz5,zz6,zz7,zz8,zz9,zza,zzb,zzc,zzd,zze,zzf,e0,v0,b1000,e2,metaW,attrsL,acesL,rowL,rdL,bytesL',r26,r44,List.flatMap_nil,List.length_nil] <;> exact rfl))⟩,?_⟩;simp only [thenL,jumpsL,inBlockL,twoL,bodyQ,LV.lit.injEq,LV.tup.injEq,LV.agg.injEq,LV.sl.injEq,List.cons.injEq,Value.int.injEq,Value.bool.injEq,Value.string.injEq,ByteArray.mk.injEq,exists_eq_left',exists_eq_left,exists_eq_right,LZ,zo,zc,reduceCtorEq,reduceIte,zz1,zz2,zz3,zz4,zz5,zz6,zz7,zz8,zz9,zza,zzb,zzc,zzd,zze,zzf,e0,v0,b1000,e2,metaW,attrsL,acesL,rowL,rdL,bytesL',r26,r44,List.flatMap_nil,List.length_nil]
    | succ k =>
      have hk0 : ((0 : Int) < ((k + 1 : Nat) : Int)) = True := eq_true (by omega)
      have hwk : IntKind.i64.wrap (((k + 1 : Nat) : Int) - 1) = (k : Int) := by rw [show ((k + 1 : Nat) : Int) - 1 = (k : Int) by omega];exact w64 (by omega)
      have hst := rRep_step hrep
      have cn1 := number_S b hb t ht mxI
      have hn1 := rNum_pos (most := mxI) ht
      have cn2 := number_S b hb (rNum b mxI t).2 hn1 mxI
      have hn2 := rNum_pos (most := mxI) hn1
      have cn3 := number_S b hb (rNum b mxI (rNum b mxI t).2).2 hn2 mxI
      have hn3 := rNum_pos (most := mxI) hn2
      have hat : rAce b t = (⟨((rNum b mxI t).1 : Int),((rNum b mxI (rNum b mxI t).2).1 : Int),((rNum b mxI (rNum b mxI (rNum b mxI t).2).2).1 : Int)⟩,(rNum b mxI (rNum b mxI (rNum b mxI t).2).2).2) := rfl
      rw [hat] at hst
      generalize rNum b mxI t = q1 at *
      generalize rNum b mxI q1.2 = q2 at *
      generalize rNum b mxI q2.2 = q3 at *
      simp only [rdL,bytesL',intL,hmx] at cn1 cn2 cn3
      have hlen := aceL_flen m
      refine Yg1 @e4 ?_
      refine Yt1 @hk0 ?_
      (repeat refine LW_seq ?_)
      refine LW_join (fun st => st.env 0 = .ptr 1000 0 ∧ st.val 0 = vs[0]? ∧ st.box 1000 = some (rdL b q3.2) ∧ st.env 2 = .ptr 2 0 ∧ st.box 2 = some zMeta ∧ st.env 3 = .ptr 3 0 ∧ st.box 3 = some [intL p1.1,intL p2.1,intL p3.1,intL p4.1,.sl l.length (l.flatMap attrL) t1,.sl (m.length + 1) ((m ++ [(⟨(q1.1 : Int),(q2.1 : Int),(q3.1 : Int)⟩ : Ace)]).flatMap aceL) (.row 44)] ∧ st.row 44 = some (55,m.length + 1) ∧ st.env 4 = intL ((k + 1 : Nat) : Int) ∧ st.mode = (fun _ => false) ∧ ((t1 = .nil ∧ l = []) ∨ (t1 = .row 26 ∧ st.row 26 = some (53,l.length)))) ?_ ?_
      · have r44' : True := trivial
        rcases ht1 with ⟨rfl,hl0⟩ | ⟨rfl,r26⟩ <;> rcases htok with ⟨rfl,rfl⟩ | ⟨rfl,r44⟩
        · (repeat (first | refine LW_seq ?_ | (refine LW_skip ?_;simp only [LSj,reduceIte,zze]) | refine LW_block ?_));refine LW_mix2 [(37,⟨_,_,_,_,_,[(1000,1000)],[(2000,1000)],_,[1001000],(cn1).toS,rfl,rfl,rfl⟩),(39,⟨_,_,_,_,_,[(1000,1000)],[(2000,1000)],_,[1001000],(cn2).toS,rfl,rfl,rfl⟩),(41,⟨_,_,_,_,_,[(1000,1000)],[(2000,1000)],_,[1001000],(cn3).toS,rfl,rfl,rfl⟩)] [37,39,41] (fun _ => false) [(0,[3,26,44]),(1,[3,26,44]),(2,[1000]),(3,[3,26,44]),(5,[3,26,44]),(7,[3,26,44])] [0,1,2] [[3,4,5,6,7,8,9,10,11,12],[3,4,6,5,7,8,9,10,11,12],[3,6,4,5,7,8,9,10,11,12],[4,3,5,6,7,8,9,10,11,12],[4,3,6,5,7,8,9,10,11,12],[4,6,3,5,7,8,9,10,11,12],[6,3,4,5,7,8,9,10,11,12],[6,4,3,5,7,8,9,10,11,12]] rfl (by kernel_rfl) (by kernel_rfl) (by kernel_rfl) (by first | exact rfl | exact hmd | simp only [LZ,zo,zc,reduceCtorEq,reduceIte,zz1,zz2,zz3,zz4,zz5,zz6,zz7,zz8,zz9,zza,zzb,zzc,zzd,zze,zzf,e0,b1000,e3,b3,hmd,List.flatMap_nil]) ?_;intro K hK;simp only [LZ,zo,zc,reduceCtorEq,reduceIte,zz1,zz2,zz3,zz4,zz5,zz6,zz7,zz8,zz9,zza,zzb,zzc,zzd,zze,zzf,e0,b1000,e3,b3,hmd,List.flatMap_nil]
          (repeat' apply And.intro) <;> first | omega | (unfold maxLen;omega) | ((refine hK _ ?_;clear hK K;try refine Wh0 ?_);exact ⟨(Yq1 @e0),(Yq1 @v0),(Yq1 (fa2 @rdL.eq_1 @bytesL'.eq_1)),(Yq1 @e2),(Yq1 (fa2 @b2 @zMeta.eq_1)),(Yq1 @e3),(by first | exact rfl | assumption | (simp only [LZ,zo,zc,reduceCtorEq,reduceIte,zz1,zz2,zz3,zz4,zz5,zz6,zz7,zz8,zz9,zza,zzb,zzc,zzd,zze,zzf,b3,List.flatMap_nil,List.flatMap_append,List.flatMap_cons,aceL] <;> exact rfl)),Yq0,(Yq1 @e4),(Yq1 @hmd),(by first | exact .inl ⟨rfl,hl0⟩ | exact .inl ⟨trivial,hl0⟩ | exact .inl hl0)⟩)
        · (repeat (first | refine LW_seq ?_ | (refine LW_skip ?_;simp only [LSj,reduceIte,zze]) | refine LW_block ?_));refine LW_mix2 [(37,⟨_,_,_,_,_,[(1000,1000)],[(2000,1000)],_,[1001000],(cn1).toS,rfl,rfl,rfl⟩),(39,⟨_,_,_,_,_,[(1000,1000)],[(2000,1000)],_,[1001000],(cn2).toS,rfl,rfl,rfl⟩),(41,⟨_,_,_,_,_,[(1000,1000)],[(2000,1000)],_,[1001000],(cn3).toS,rfl,rfl,rfl⟩)] [37,39,41] (fun _ => false) [(0,[3,26,44]),(1,[3,26,44]),(2,[1000]),(3,[3,26,44]),(5,[3,26,44]),(7,[3,26,44])] [0,1,2] [[3,4,5,6,7,8,9,10,11,12],[3,4,6,5,7,8,9,10,11,12],[3,6,4,5,7,8,9,10,11,12],[4,3,5,6,7,8,9,10,11,12],[4,3,6,5,7,8,9,10,11,12],[4,6,3,5,7,8,9,10,11,12],[6,3,4,5,7,8,9,10,11,12],[6,4,3,5,7,8,9,10,11,12]] rfl (by kernel_rfl) (by kernel_rfl) (by kernel_rfl) (by first | exact rfl | exact hmd | simp only [LZ,zo,zc,reduceCtorEq,reduceIte,zz1,zz2,zz3,zz4,zz5,zz6,zz7,zz8,zz9,zza,zzb,zzc,zzd,zze,zzf,e0,b1000,e3,b3,hmd,r44,hlen]) ?_;intro K hK;simp only [LZ,zo,zc,reduceCtorEq,reduceIte,zz1,zz2,zz3,zz4,zz5,zz6,zz7,zz8,zz9,zza,zzb,zzc,zzd,zze,zzf,e0,b1000,e3,b3,hmd,r44,hlen]
          (repeat' apply And.intro) <;> first | omega | (unfold maxLen;omega) | ((refine hK _ ?_;clear hK K;try refine Wh0 ?_);exact ⟨(Yq1 @e0),(Yq1 @v0),(Yq1 (fa2 @rdL.eq_1 @bytesL'.eq_1)),(Yq1 @e2),(Yq1 (fa2 @b2 @zMeta.eq_1)),(Yq1 @e3),(by first | exact rfl | assumption | (simp only [LZ,zo,zc,reduceCtorEq,reduceIte,zz1,zz2,zz3,zz4,zz5,zz6,zz7,zz8,zz9,zza,zzb,zzc,zzd,zze,zzf,b3,List.flatMap_nil,List.flatMap_append,List.flatMap_cons,aceL] <;> exact rfl)),Yq0,(Yq1 @e4),(Yq1 @hmd),(by first | exact .inl ⟨rfl,hl0⟩ | exact .inl ⟨trivial,hl0⟩ | exact .inl hl0)⟩)
        · (repeat (first | refine LW_seq ?_ | (refine LW_skip ?_;simp only [LSj,reduceIte,zze]) | refine LW_block ?_));refine LW_mix2 [(37,⟨_,_,_,_,_,[(1000,1000)],[(2000,1000)],_,[1001000],(cn1).toS,rfl,rfl,rfl⟩),(39,⟨_,_,_,_,_,[(1000,1000)],[(2000,1000)],_,[1001000],(cn2).toS,rfl,rfl,rfl⟩),(41,⟨_,_,_,_,_,[(1000,1000)],[(2000,1000)],_,[1001000],(cn3).toS,rfl,rfl,rfl⟩)] [37,39,41] (fun _ => false) [(0,[3,26,44]),(1,[3,26,44]),(2,[1000]),(3,[3,26,44]),(5,[3,26,44]),(7,[3,26,44])] [0,1,2] [[3,4,5,6,7,8,9,10,11,12],[3,4,6,5,7,8,9,10,11,12],[3,6,4,5,7,8,9,10,11,12],[4,3,5,6,7,8,9,10,11,12],[4,3,6,5,7,8,9,10,11,12],[4,6,3,5,7,8,9,10,11,12],[6,3,4,5,7,8,9,10,11,12],[6,4,3,5,7,8,9,10,11,12]] rfl (by kernel_rfl) (by kernel_rfl) (by kernel_rfl) (by first | exact rfl | exact hmd | simp only [LZ,zo,zc,reduceCtorEq,reduceIte,zz1,zz2,zz3,zz4,zz5,zz6,zz7,zz8,zz9,zza,zzb,zzc,zzd,zze,zzf,e0,b1000,e3,b3,hmd,List.flatMap_nil]) ?_;intro K hK;simp only [LZ,zo,zc,reduceCtorEq,reduceIte,zz1,zz2,zz3,zz4,zz5,zz6,zz7,zz8,zz9,zza,zzb,zzc,zzd,zze,zzf,e0,b1000,e3,b3,hmd,List.flatMap_nil]
          (repeat' apply And.intro) <;> first | omega | (unfold maxLen;omega) | ((refine hK _ ?_;clear hK K;try refine Wh0 ?_);exact ⟨(Yq1 @e0),(Yq1 @v0),(Yq1 (fa2 @rdL.eq_1 @bytesL'.eq_1)),(Yq1 @e2),(Yq1 (fa2 @b2 @zMeta.eq_1)),(Yq1 @e3),(by first | exact rfl | assumption | (simp only [LZ,zo,zc,reduceCtorEq,reduceIte,zz1,zz2,zz3,zz4,zz5,zz6,zz7,zz8,zz9,zza,zzb,zzc,zzd,zze,zzf,b3,List.flatMap_nil,List.flatMap_append,List.flatMap_cons,aceL] <;> exact rfl)),Yq0,(Yq1 @e4),(Yq1 @hmd),(by first | exact .inr ⟨rfl,(Yq1 @r26)⟩ | exact .inr ⟨trivial,(Yq1 @r26)⟩ | exact .inr (Yq1 @r26))⟩)
        · (repeat (first | refine LW_seq ?_ | (refine LW_skip ?_;simp only [LSj,reduceIte,zze]) | refine LW_block ?_));refine LW_mix2 [(37,⟨_,_,_,_,_,[(1000,1000)],[(2000,1000)],_,[1001000],(cn1).toS,rfl,rfl,rfl⟩),(39,⟨_,_,_,_,_,[(1000,1000)],[(2000,1000)],_,[1001000],(cn2).toS,rfl,rfl,rfl⟩),(41,⟨_,_,_,_,_,[(1000,1000)],[(2000,1000)],_,[1001000],(cn3).toS,rfl,rfl,rfl⟩)] [37,39,41] (fun _ => false) [(0,[3,26,44]),(1,[3,26,44]),(2,[1000]),(3,[3,26,44]),(5,[3,26,44]),(7,[3,26,44])] [0,1,2] [[3,4,5,6,7,8,9,10,11,12],[3,4,6,5,7,8,9,10,11,12],[3,6,4,5,7,8,9,10,11,12],[4,3,5,6,7,8,9,10,11,12],[4,3,6,5,7,8,9,10,11,12],[4,6,3,5,7,8,9,10,11,12],[6,3,4,5,7,8,9,10,11,12],[6,4,3,5,7,8,9,10,11,12]] rfl (by kernel_rfl) (by kernel_rfl) (by kernel_rfl) (by first | exact rfl | exact hmd | simp only [LZ,zo,zc,reduceCtorEq,reduceIte,zz1,zz2,zz3,zz4,zz5,zz6,zz7,zz8,zz9,zza,zzb,zzc,zzd,zze,zzf,e0,b1000,e3,b3,hmd,r44,hlen]) ?_;intro K hK;simp only [LZ,zo,zc,reduceCtorEq,reduceIte,zz1,zz2,zz3,zz4,zz5,zz6,zz7,zz8,zz9,zza,zzb,zzc,zzd,zze,zzf,e0,b1000,e3,b3,hmd,r44,hlen]
          (repeat' apply And.intro) <;> first | omega | (unfold maxLen;omega) | ((refine hK _ ?_;clear hK K;try refine Wh0 ?_);exact ⟨(Yq1 @e0),(Yq1 @v0),(Yq1 (fa2 @rdL.eq_1 @bytesL'.eq_1)),(Yq1 @e2),(Yq1 (fa2 @b2 @zMeta.eq_1)),(Yq1 @e3),(by first | exact rfl | assumption | (simp only [LZ,zo,zc,reduceCtorEq,reduceIte,zz1,zz2,zz3,zz4,zz5,zz6,zz7,zz8,zz9,zza,zzb,zzc,zzd,zze,zzf,b3,List.flatMap_nil,List.flatMap_append,List.flatMap_cons,aceL] <;> exact rfl)),Yq0,(Yq1 @e4),(Yq1 @hmd),(by first | exact .inr ⟨rfl,(Yq1 @r26)⟩ | exact .inr ⟨trivial,(Yq1 @r26)⟩ | exact .inr (Yq1 @r26))⟩)
      clear e0 v0 b1000 e2 b2 e3 b3 htok ht1 e4 hmd st
      rintro st ⟨e0,v0,b1000,e2,b2,e3,b3,r44,e4,hmd,ht1⟩
      refine Yg1 (fa2 @e4 @hwk) ?_
      refine LW_goto ?_;simp only [thenL,jumpsL,inBlockL,twoL,true_and]
      rcases ht1 with ⟨rfl,hl0⟩ | ⟨rfl,r26⟩
      · refine ⟨k,by omega,l,q6,k,m ++ [(⟨(q1.1 : Int),(q2.1 : Int),(q3.1 : Int)⟩ : Ace)],q3.2,.nil,.row 44,rfl,by omega,hl,hq6,hst,hn3,by rw [List.length_append,List.length_singleton];omega,(Yq1 @e0),(Yq1 @v0),(Yq1 @b1000),(Yq1 @e2),(Yq1 (fa2 @b2 @zMeta.eq_1)),(Yq1 @e3),?_,.inl ⟨rfl,hl0⟩,.inr ⟨rfl,?_⟩,(Yq1 @hwk),(Yq1 @hmd)⟩
        · rw [List.length_append,List.length_singleton];exact (Yq1 @b3)
        · rw [List.length_append,List.length_singleton];exact (Yq1 @r44)
      · refine ⟨k,by omega,l,q6,k,m ++ [(⟨(q1.1 : Int),(q2.1 : Int),(q3.1 : Int)⟩ : Ace)],q3.2,.row 26,.row 44,rfl,by omega,hl,hq6,hst,hn3,by rw [List.length_append,List.length_singleton];omega,(Yq1 @e0),(Yq1 @v0),(Yq1 @b1000),(Yq1 @e2),(Yq1 (fa2 @b2 @zMeta.eq_1)),(Yq1 @e3),?_,.inr ⟨rfl,(Yq1 @r26)⟩,.inr ⟨rfl,?_⟩,(Yq1 @hwk),(Yq1 @hmd)⟩
        · rw [List.length_append,List.length_singleton];exact (Yq1 @b3)
        · rw [List.length_append,List.length_singleton];exact (Yq1 @r44)
end Go.Proofs.YteamlijbkldlhaaDoor
