import Derived.Test.YteamlijbkldlhaaDoorKUK
import Derived.Test.YteamlijbkldlhaaDoorKUF
set_option linter.unusedSimpArgs false
set_option linter.unusedVariables false
namespace Go.Proofs.YteamlijbkldlhaaDoor
open Nat renaming reduceAdd → zz1,reduceMul → zz2,reduceSub → zz3,reduceLT → zz4,reduceLeDiff → zz5,reduceEqDiff → zz6,reduceBEq → zzf
open Int renaming reduceAdd → zz7,reduceSub → zz8,reduceMul → zz9,reduceLT → zza,reduceLE → zzb,reduceEq → zzc,reduceNeg → zzd,reduceToNat → zze
open Op renaming operands → zo
open Call renaming operands → zc
open Go.RowKit Go.Proofs AclSpec MetaSpec NodeSpec RecSpec PathSpec

def nodeW (n : FNode) (a c p : Tok) : List LV := [intL n.kind,intL n.mt.mode,intL n.mt.uid,intL n.mt.gid,intL n.mt.time,.sl n.mt.attrs.length (n.mt.attrs.flatMap attrL) a,.sl n.mt.acl.length (n.mt.acl.flatMap aceL) c,intL n.size,.sl n.dat.length (n.dat.flatMap pieceL) p,strL n.target,intL n.major,intL n.minor]
def nodeD (k : Int) (m : FMeta) (sz : Int) (d : LV) (t : List UInt8) (x y : Int) : List LV := [intL k,intL m.mode,intL m.uid,intL m.gid,intL m.time,.sl m.attrs.length (m.attrs.flatMap attrL) (.row 1001),.sl m.acl.length (m.acl.flatMap aceL) (.row 1002),intL sz,d,strL t,intL x,intL y]
set_option maxRecDepth 100000 in
set_option maxHeartbeats 8000000 in
theorem nodeR_S (b : List UInt8) (hb : b.length ≤ 1000000) (s : Rd) (hs : s.pos ≤ b.length) :
    SCalls Tryd.prog 22 [.ptr 1000 0] ⟨[],[],[(1000,rdL b s)]⟩ (.tup [.agg (nodeW (rNode b s).1.1 (.row 2001) (.row 2002) (.row 2003)),intL (rNode b s).1.2]) ⟨[(2001,(53,(rNode b s).1.1.mt.attrs.length)),(2002,(55,(rNode b s).1.1.mt.acl.length)),(2003,(48,(rNode b s).1.1.dat.length))],[],[(2000,rdL b (rNode b s).2)]⟩ [(1000,2000)] := by
  have ck := kind_S b hb s hs
  have hk := (rKind_ok b).pos s hs
  have hmx : ((mxI : Nat) : Int) = 9223372036854775807 := rfl
  have h16 : ((16 : Nat) : Int) = 16 := rfl
  have h4000 : ((4000 : Nat) : Int) = 4000 := rfl
  have h200 : ((200 : Nat) : Int) = 200 := rfl
  have hR : rNode b s = if (rKind b s).1 = 0 then ((zeroN,0),(rKind b s).2) else rBody b (rKind b s).1 (rMeta b (rKind b s).2).1 (rMeta b (rKind b s).2).2 := by
    have ht : ∀ (c : Prop) [Decidable c] (f g : Rdr (FNode × Int)) (t : Rd),(if c then f else g) t = if c then f t else g t := by
      intro c _ f g t
      by_cases h : c
      · rw [if_pos h,if_pos h]
      · rw [if_neg h,if_neg h]
    exact ht _ _ _ _
  generalize rNode b s = R at *
  generalize rKind b s = q at *
  obtain ⟨k,s1⟩ := q
  simp only at ck hk hR
  simp only [rdL,bytesL',intL] at ck
  refine SCalls.of (fun _ => false) [(1000,2000)] 0 Tryd.func22 rfl (by decide) Tryd.ntmps22 Tryd.results22 (by simp) (.inr ⟨_,_,rfl,by decide,rfl⟩) ?_
  intro w0 S0 vs
  refine Yg0 ?_
  (repeat (first | refine LW_seq ?_ | (refine LW_skip ?_;simp only [LSj,reduceIte,zze]) | refine LW_block ?_));refine LW_regionO [(8,⟨_,_,_,_,_,[(1000,1000)],[(2000,1000)],_,[1001000],(ck).toS,rfl,rfl,rfl⟩)] ?_;intro K hK;simp only [LZ,zo,zc,reduceCtorEq,reduceIte,zz1,zz2,zz3,zz4,zz5,zz6,zz7,zz8,zz9,zza,zzb,zzc,zzd,zze,zzf,rdL,bytesL']
  refine hK _ ?_;clear hK K;try refine Wh0 ?_
  by_cases k0 : k = 0
  · subst k0
    rw [if_pos rfl] at hR
    subst hR
    rw [show ((0 : Nat) : Int) = 0 from rfl]
    refine Yg0 ?_
    refine Yt0 ?_
    refine Yg0 ?_
    refine LW_nilBox (cs := zNode) 2 5 1001 53 (Yq1 @zNode.eq_1) rfl ?_
    refine LW_nilBox (cs := zNode.set 5 (.sl 0 [] (.row 1001))) 2 6 1002 55 (Yq1 @zNode.eq_1) rfl ?_
    refine LW_nilBox (cs := (zNode.set 5 (.sl 0 [] (.row 1001))).set 6 (.sl 0 [] (.row 1002))) 2 8 1003 48 (Yq1 @zNode.eq_1) rfl ?_
    refine LW_ret ?_;simp only [thenL,jumpsL,inBlockL,twoL,bodyS];refine ⟨[(1000,2000),(1001,2001),(1002,2002),(1003,2003)],rfl,.inr ⟨_,_,_,rfl,rfl,(by first | exact rfl | assumption | (simp only [LZ,zo,zc,reduceCtorEq,reduceIte,zz1,zz2,zz3,zz4,zz5,zz6,zz7,zz8,zz9,zza,zzb,zzc,zzd,zze,zzf,nodeW,nodeL,zNode,piecesL,attrsL,acesL,rowL,rdL,bytesL',zeroN,List.set_cons_zero,List.set_cons_succ,List.flatMap_nil] <;> exact rfl)),(by first | exact rfl | assumption | (simp only [LZ,zo,zc,reduceCtorEq,reduceIte,zz1,zz2,zz3,zz4,zz5,zz6,zz7,zz8,zz9,zza,zzb,zzc,zzd,zze,zzf,nodeW,nodeL,zNode,piecesL,attrsL,acesL,rowL,rdL,bytesL',zeroN,List.set_cons_zero,List.set_cons_succ,List.flatMap_nil] <;> exact rfl))⟩,?_⟩;simp only [thenL,jumpsL,inBlockL,twoL,bodyQ,LV.lit.injEq,LV.tup.injEq,LV.agg.injEq,LV.sl.injEq,List.cons.injEq,Value.int.injEq,Value.bool.injEq,Value.string.injEq,ByteArray.mk.injEq,exists_eq_left',exists_eq_left,exists_eq_right,LZ,zo,zc,reduceCtorEq,reduceIte,zz1,zz2,zz3,zz4,zz5,zz6,zz7,zz8,zz9,zza,zzb,zzc,zzd,zze,zzf,nodeW,nodeL,zNode,piecesL,attrsL,acesL,rowL,rdL,bytesL',zeroN,List.set_cons_zero,List.set_cons_succ,List.flatMap_nil]
  rw [if_neg k0] at hR
  have k0i : ¬ ((k : Int) = 0) := by omega
  have cm := metaR_S b hb s1 hk
  have hm := (rMeta_ok b).pos s1 hk
  generalize rMeta b s1 = q at *
  obtain ⟨m,s2⟩ := q
  simp only at cm hm hR
  simp only [rdL,bytesL',metaW,attrsL,acesL,rowL,intL] at cm
  refine Yg1 @k0i ?_
  refine Yf0 ?_
  (repeat (first | refine LW_seq ?_ | (refine LW_skip ?_;simp only [LSj,reduceIte,zze]) | refine LW_block ?_));refine LW_regionO [(15,⟨_,_,_,_,_,[(1000,1000)],[(2000,1000),(2001,1001),(2002,1002)],_,[1001000],(cm).toS,rfl,rfl,rfl⟩)] ?_;intro K hK;simp only [LZ,zo,zc,reduceCtorEq,reduceIte,zz1,zz2,zz3,zz4,zz5,zz6,zz7,zz8,zz9,zza,zzb,zzc,zzd,zze,zzf]
  refine hK _ ?_;clear hK K;try refine Wh0 ?_
  refine Yg0 ?_
  refine LW_slim (fun st => st.env 0 = .ptr 1000 0 ∧ st.val 0 = vs[0]? ∧ st.box 1000 = some (rdL b s2) ∧ st.env 2 = .ptr 2 0 ∧ st.box 2 = some zNode ∧ st.env 4 = .ptr 4 0 ∧ st.box 4 = some (nodeD k m 0 (.sl 0 [] .nil) [] 0 0) ∧ st.env 5 = intL 0 ∧ st.env 18 = intL k ∧ st.env 19 = boolL (decide ((k : Int) = 2)) ∧ st.row 1001 = some (53,m.attrs.length) ∧ st.row 1002 = some (55,m.acl.length) ∧ st.mode = fun _ => false) ⟨Yq0,Yq0,(Yq1 (fa2 @rdL.eq_1 @bytesL'.eq_1)),Yq0,(Yq1 @zNode.eq_1),Yq0,(Yq1 @nodeD.eq_1),Yq0,Yq0,Yq0,Yq0,Yq0,Yq0⟩ ?_
  rintro st ⟨e0,v0,b1000,e2,b2,e4,b4,e5,e18,e19,r1,r2,hmd⟩
  unfold rBody at hR
  simp only [rdL,bytesL'] at b1000
  simp only [zNode] at b2
  simp only [nodeD] at b4
  by_cases k2 : k = 2
  · rw [if_pos k2] at hR
    have k2i : ((k : Int) = 2) = True := eq_true (by omega)
    have c1 := long_S b hb s2 hm
    have h1 := rLong_pos hm
    have hR2 : R = if (rRep (rPc b) (rNum b 16 (rLong b s2).2).1 (rNum b 16 (rLong b s2).2).2).1 = [] then ((⟨2,m,((rLong b s2).1 : Int),[],[],0,0⟩,0),(rRep (rPc b) (rNum b 16 (rLong b s2).2).1 (rNum b 16 (rLong b s2).2).2).2)
        else ((⟨2,m,((rLong b s2).1 : Int),(rRep (rPc b) (rNum b 16 (rLong b s2).2).1 (rNum b 16 (rLong b s2).2).2).1,[],0,0⟩,((rNum b mxI (rRep (rPc b) (rNum b 16 (rLong b s2).2).1 (rNum b 16 (rLong b s2).2).2).2).1 : Int)),(rNum b mxI (rRep (rPc b) (rNum b 16 (rLong b s2).2).1 (rNum b 16 (rLong b s2).2).2).2).2) := by
      rw [hR]
      have ht : ∀ (c : Prop) [Decidable c] (f g : Rdr (FNode × Int)) (t : Rd),(if c then f else g) t = if c then f t else g t := by
        intro c _ f g t
        by_cases h : c
        · rw [if_pos h,if_pos h]
        · rw [if_neg h,if_neg h]
      exact ht _ _ _ _
    clear hR
    generalize rLong b s2 = q6 at *
    have c2 := number_S b hb q6.2 h1 16
    have h2 := rNum_pos (most := 16) h1
    have h27 := rNum_le (b := b) (most := 16) (s := q6.2)
    generalize rNum b 16 q6.2 = q7 at *
    simp only [rdL,bytesL',intL,h16] at c1 c2
    refine Yt1 (fa2 @e19 @k2i) ?_
    (repeat (first | refine LW_seq ?_ | (refine LW_skip ?_;simp only [LSj,reduceIte,zze]) | refine LW_block ?_));refine LW_regionO [(22,⟨_,_,_,_,_,[(1000,1000)],[(2000,1000)],_,[1001000],(c1).toS,rfl,rfl,rfl⟩)] ?_;intro K hK;simp only [LZ,zo,zc,reduceCtorEq,reduceIte,zz1,zz2,zz3,zz4,zz5,zz6,zz7,zz8,zz9,zza,zzb,zzc,zzd,zze,zzf,e0,b1000,e4,b4]
    refine hK _ ?_;clear hK K;try refine Wh0 ?_
    (repeat (first | refine LW_seq ?_ | (refine LW_skip ?_;simp only [LSj,reduceIte,zze]) | refine LW_block ?_));refine LW_regionO [(25,⟨_,_,_,_,_,[(1000,1000)],[(2000,1000)],_,[1001000],(c2).toS,rfl,rfl,rfl⟩)] ?_;intro K hK;simp only [LZ,zo,zc,reduceCtorEq,reduceIte,zz1,zz2,zz3,zz4,zz5,zz6,zz7,zz8,zz9,zza,zzb,zzc,zzd,zze,zzf,e0]
    refine hK _ ?_;clear hK K;try refine Wh0 ?_
    refine Yg0 ?_
    refine LW_slim (fun st => st.env 0 = .ptr 1000 0 ∧ st.val 0 = vs[0]? ∧ st.box 1000 = some (rdL b q7.2) ∧ st.env 2 = .ptr 2 0 ∧ st.box 2 = some zNode ∧ st.env 4 = .ptr 4 0 ∧ st.box 4 = some (nodeD k m q6.1 (.sl 0 [] .nil) [] 0 0) ∧ st.env 5 = intL 0 ∧ st.env 25 = intL q7.1 ∧ st.env 26 = intL 0 ∧ st.row 1001 = some (53,m.attrs.length) ∧ st.row 1002 = some (55,m.acl.length) ∧ st.mode = fun _ => false) ⟨(Yq1 @e0),(Yq1 @v0),(Yq1 (fa2 @rdL.eq_1 @bytesL'.eq_1)),(Yq1 @e2),(Yq1 (fa2 @b2 @zNode.eq_1)),(Yq1 @e4),(Yq1 (fa2 @b4 @nodeD.eq_1)),(Yq1 @e5),Yq0,Yq0,(Yq1 @r1),(Yq1 @r2),(Yq1 @hmd)⟩ ?_
    clear e0 v0 b1000 e2 b2 e4 b4 e5 e18 e19 r1 r2 hmd st
    rintro st ⟨e0,v0,b1000,e2,b2,e4,b4,e5,e25,e26,r1,r2,hmd⟩
    refine LW_joinB (fun st => ∃ (l : List Piece) (t : Rd) (tok : Tok),rRep (rPc b) q7.1 q7.2 = (l,t) ∧ t.pos ≤ b.length ∧ ((tok = .nil ∧ l = []) ∨ (tok = .row 39 ∧ st.row 39 = some (48,l.length))) ∧ st.env 0 = .ptr 1000 0 ∧ st.val 0 = vs[0]? ∧ st.box 1000 = some (rdL b t) ∧ st.env 2 = .ptr 2 0 ∧ st.box 2 = some zNode ∧ st.env 4 = .ptr 4 0 ∧ st.box 4 = some (nodeD k m q6.1 (.sl l.length (l.flatMap pieceL) tok) [] 0 0) ∧ st.env 5 = intL 0 ∧ st.row 1001 = some (53,m.attrs.length) ∧ st.row 1002 = some (55,m.acl.length) ∧ st.mode = fun _ => false) ?_ ?_
    · refine LW_loop (fun kk st => ∃ (l : List Piece) (t : Rd) (tok : Tok),rRep (rPc b) q7.1 q7.2 = (l ++ (rRep (rPc b) kk t).1,(rRep (rPc b) kk t).2) ∧ l.length + kk = q7.1 ∧ t.pos ≤ b.length ∧ ((tok = .nil ∧ l = []) ∨ (tok = .row 39 ∧ st.row 39 = some (48,l.length))) ∧ st.env 0 = .ptr 1000 0 ∧ st.val 0 = vs[0]? ∧ st.box 1000 = some (rdL b t) ∧ st.env 2 = .ptr 2 0 ∧ st.box 2 = some zNode ∧ st.env 4 = .ptr 4 0 ∧ st.box 4 = some (nodeD k m q6.1 (.sl l.length (l.flatMap pieceL) tok) [] 0 0) ∧ st.env 5 = intL 0 ∧ st.env 25 = intL q7.1 ∧ st.env 26 = intL l.length ∧ st.row 1001 = some (53,m.attrs.length) ∧ st.row 1002 = some (55,m.acl.length) ∧ st.mode = fun _ => false) q7.1 ⟨[],q7.2,.nil,by simp,by simp,h2,.inl ⟨rfl,rfl⟩,e0,v0,b1000,e2,b2,e4,b4,e5,e25,e26,r1,r2,hmd⟩ ?_
      clear e0 v0 b1000 e2 b2 e4 b4 e5 e25 e26 r1 r2 hmd st
      rintro kk st ⟨l,t,tok,hrep,hlk,ht,htok,e0,v0,b1000,e2,b2,e4,b4,e5,e25,e26,r1,r2,hmd⟩
      simp only [rdL,bytesL'] at b1000
      simp only [nodeD] at b4
      cases kk with
      | zero =>
        have hlt : ¬ (l.length < q7.1) := by omega
        refine Yg1 (fa2 @e25 @e26) ?_
        refine Yf1 @hlt ?_
        refine LW_exit ?_;simp only [thenL,jumpsL,inBlockL,twoL,reduceIte,Nat.reduceEqDiff]
        have hr0 : rRep (rPc b) q7.1 q7.2 = (l,t) := by rw [hrep];simp [rRep,pureR]
        rcases htok with ⟨rfl,hl0⟩ | ⟨rfl,r39⟩
        · exact ⟨l,t,.nil,hr0,ht,.inl ⟨rfl,hl0⟩,(Yq1 @e0),(Yq1 @v0),(Yq1 (fa3 @b1000 @rdL.eq_1 @bytesL'.eq_1)),(Yq1 @e2),(Yq1 (fa2 @b2 @zNode.eq_1)),(Yq1 @e4),(Yq1 (fa2 @b4 @nodeD.eq_1)),(Yq1 @e5),(Yq1 @r1),(Yq1 @r2),(Yq1 @hmd)⟩
        · exact ⟨l,t,.row 39,hr0,ht,.inr ⟨rfl,(Yq1 @r39)⟩,(Yq1 @e0),(Yq1 @v0),(Yq1 (fa3 @b1000 @rdL.eq_1 @bytesL'.eq_1)),(Yq1 @e2),(Yq1 (fa2 @b2 @zNode.eq_1)),(Yq1 @e4),(Yq1 (fa2 @b4 @nodeD.eq_1)),(Yq1 @e5),(Yq1 @r1),(Yq1 @r2),(Yq1 @hmd)⟩
      | succ kk =>
        have hlt : l.length < q7.1 := by omega
        have hst := rRep_step hrep
        have d1 := long_S b hb t ht
        have g1 := rLong_pos ht
        have d2 := number_S b hb (rLong b t).2 g1 4000
        have g2 := rNum_pos (most := 4000) g1
        have g24 := rNum_le (b := b) (most := 4000) (s := (rLong b t).2)
        have hat : rPc b t = (⟨((rLong b t).1 : Int),itoB (rNum b 4000 (rLong b t).2).1⟩,(rNum b 4000 (rLong b t).2).2) := rfl
        rw [hat] at hst
        generalize rLong b t = u1 at *
        generalize rNum b 4000 u1.2 = u2 at *
        have ci := (itoa_L u2.1 (by omega)).toO
        simp only [rdL,bytesL',intL,h4000] at d1 d2
        simp only [strip,strip2,strip1,strL,intL] at ci
        have hw := w64s (n := l.length) (by omega)
        have hlen := pieceL_flen l
        refine Yg1 (fa2 @e25 @e26) ?_
        refine Yt1 @hlt ?_
        (repeat (first | refine LW_seq ?_ | (refine LW_skip ?_;simp only [LSj,reduceIte,zze]) | refine LW_block ?_));refine LW_regionO [(29,⟨_,_,_,_,_,[(1000,1000)],[(2000,1000)],_,[1001000],(d1).toS,rfl,rfl,rfl⟩)] ?_;intro K hK;simp only [LZ,zo,zc,reduceCtorEq,reduceIte,zz1,zz2,zz3,zz4,zz5,zz6,zz7,zz8,zz9,zza,zzb,zzc,zzd,zze,zzf,e0,b1000]
        refine hK _ ?_;clear hK K;try refine Wh0 ?_
        (repeat (first | refine LW_seq ?_ | (refine LW_skip ?_;simp only [LSj,reduceIte,zze]) | refine LW_block ?_));refine LW_regionO [(32,⟨_,_,_,_,_,[(1000,1000)],[(2000,1000)],_,[1001000],(d2).toS,rfl,rfl,rfl⟩),(33,⟨_,_,_,_,_,[],[],_,[],(ci).toS,rfl,rfl,rfl⟩)] ?_;intro K hK;simp only [LZ,zo,zc,reduceCtorEq,reduceIte,zz1,zz2,zz3,zz4,zz5,zz6,zz7,zz8,zz9,zza,zzb,zzc,zzd,zze,zzf,e0]
        refine hK _ ?_;clear hK K;try refine Wh0 ?_
        rcases htok with ⟨rfl,rfl⟩ | ⟨rfl,r39⟩
        · refine Yr1 (fa3 @e4 @b4 @hmd) ?_;intro K hK
          refine ⟨by (repeat' apply And.intro) <;> first | omega | (unfold maxLen;omega) | (intro _;omega) | decide,?_⟩
          refine hK _ ?_;clear hK K;try refine Wh0 ?_
          refine Yg1 @e26 ?_
          refine ⟨kk,by omega,[(⟨(u1.1 : Int),itoB u2.1⟩ : Piece)],u2.2,.row 39,hst,by simp only [List.length_nil,List.length_singleton] at hlk ⊢;omega,g2,.inr ⟨rfl,Yq0⟩,(Yq1 @e0),(Yq1 @v0),(Yq1 (fa2 @rdL.eq_1 @bytesL'.eq_1)),(Yq1 @e2),(Yq1 (fa2 @b2 @zNode.eq_1)),(Yq1 @e4),(by first | exact rfl | assumption | (simp only [LZ,zo,zc,reduceCtorEq,reduceIte,zz1,zz2,zz3,zz4,zz5,zz6,zz7,zz8,zz9,zza,zzb,zzc,zzd,zze,zzf,b4,nodeD,List.flatMap_nil,List.flatMap_cons,pieceL] <;> exact rfl)),(Yq1 @e5),(Yq1 @e25),Yq0,(Yq1 @r1),(Yq1 @r2),(Yq1 @hmd)⟩
        · refine Yr1 (fa5 @e4 @b4 @hmd @r39 @hlen) ?_;intro K hK
          refine ⟨by (repeat' apply And.intro) <;> first | omega | (unfold maxLen;omega) | (intro _;omega) | decide,?_⟩
          refine hK _ ?_;clear hK K;try refine Wh0 ?_
          refine Yg1 (fa2 @e26 @hw) ?_
          refine ⟨kk,by omega,l ++ [(⟨(u1.1 : Int),itoB u2.1⟩ : Piece)],u2.2,.row 39,hst,by rw [List.length_append,List.length_singleton];omega,g2,.inr ⟨rfl,?_⟩,(Yq1 @e0),(Yq1 @v0),(Yq1 (fa2 @rdL.eq_1 @bytesL'.eq_1)),(Yq1 @e2),(Yq1 (fa2 @b2 @zNode.eq_1)),(Yq1 @e4),?_,(Yq1 @e5),(Yq1 @e25),?_,(Yq1 @r1),(Yq1 @r2),(Yq1 @hmd)⟩
          · rw [List.length_append,List.length_singleton];exact Yq0
          · rw [List.length_append,List.length_singleton];exact (by first | exact rfl | assumption | (simp only [LZ,zo,zc,reduceCtorEq,reduceIte,zz1,zz2,zz3,zz4,zz5,zz6,zz7,zz8,zz9,zza,zzb,zzc,zzd,zze,zzf,b4,nodeD,List.flatMap_append,List.flatMap_nil,List.flatMap_cons,pieceL] <;> exact rfl))
          · rw [List.length_append,List.length_singleton];exact (Yq1 @hw)
    clear e0 v0 b1000 e2 b2 e4 b4 e5 e25 e26 r1 r2 hmd st
    rintro st ⟨l,t,tok,hrep,ht,htok,e0,v0,b1000,e2,b2,e4,b4,e5,r1,r2,hmd⟩
    rw [hrep] at hR2
    simp only at hR2
    simp only [rdL,bytesL'] at b1000
    simp only [zNode] at b2
    simp only [nodeD] at b4
    by_cases h0 : l = []
    · have h0i : ¬ ((0 : Int) < (l.length : Int)) := by rw [h0];simp
      rw [if_pos h0] at hR2
      rcases htok with ⟨rfl,hl0⟩ | ⟨rfl,r39⟩
      · refine Yg1 (fa2 @e4 @b4) ?_
        refine Yf1 @h0i ?_
        refine LW_nilBox (cs := nodeD k m q6.1 (.sl 0 [] .nil) [] 0 0) 4 8 39 48 (by first | exact rfl | assumption | (simp only [LZ,zo,zc,reduceCtorEq,reduceIte,zz1,zz2,zz3,zz4,zz5,zz6,zz7,zz8,zz9,zza,zzb,zzc,zzd,zze,zzf,b4,nodeD,h0,List.length_nil,List.flatMap_nil] <;> exact rfl)) rfl ?_
        (repeat (first | refine LW_seq ?_ | ((first | (refine LW_region ?_;intro K hK;simp only [LZ,zo,zc,reduceCtorEq,reduceIte,zz1,zz2,zz3,zz4,zz5,zz6,zz7,zz8,zz9,zza,zzb,zzc,zzd,zze,zzf,e2,b2,e4,b4,e5,nodeD,List.set_cons_zero,List.set_cons_succ];refine hK _ ?_;clear hK K) | refine LW_label ?_ | refine LW_skip ?_);try simp only [LSj,reduceIte,zze]) | refine LW_block ?_))
        refine LW_ret ?_;simp only [thenL,jumpsL,inBlockL,twoL,bodyS];refine ⟨[(1000,2000),(1001,2001),(1002,2002),(39,2003)],rfl,.inr ⟨_,_,_,rfl,rfl,(by first | exact rfl | assumption | (simp only [LZ,zo,zc,reduceCtorEq,reduceIte,zz1,zz2,zz3,zz4,zz5,zz6,zz7,zz8,zz9,zza,zzb,zzc,zzd,zze,zzf,e0,v0,e2,b1000,nodeW,nodeL,piecesL,attrsL,acesL,rowL,rdL,bytesL',r1,r2] <;> exact rfl)),(by first | exact rfl | assumption | (simp only [LZ,zo,zc,reduceCtorEq,reduceIte,zz1,zz2,zz3,zz4,zz5,zz6,zz7,zz8,zz9,zza,zzb,zzc,zzd,zze,zzf,e0,v0,e2,b1000,nodeW,nodeL,piecesL,attrsL,acesL,rowL,rdL,bytesL',r1,r2] <;> exact rfl))⟩,?_⟩;simp only [thenL,jumpsL,inBlockL,twoL,bodyQ,LV.lit.injEq,LV.tup.injEq,LV.agg.injEq,LV.sl.injEq,List.cons.injEq,Value.int.injEq,Value.bool.injEq,Value.string.injEq,ByteArray.mk.injEq,exists_eq_left',exists_eq_left,exists_eq_right,LZ,zo,zc,reduceCtorEq,reduceIte,zz1,zz2,zz3,zz4,zz5,zz6,zz7,zz8,zz9,zza,zzb,zzc,zzd,zze,zzf,e0,v0,e2,b1000,nodeW,nodeL,piecesL,attrsL,acesL,rowL,rdL,bytesL',r1,r2]
        subst hR2;subst k2;subst h0
        (repeat' apply And.intro) <;> rfl
      · refine Yg1 (fa2 @e4 @b4) ?_
        refine Yf1 @h0i ?_
        refine Yg1 (fa5 @e2 @b2 @e4 @b4 @e5) ?_
        refine LW_ret ?_;simp only [thenL,jumpsL,inBlockL,twoL,bodyS];refine ⟨[(1000,2000),(1001,2001),(1002,2002),(39,2003)],rfl,.inr ⟨_,_,_,rfl,rfl,(by first | exact rfl | assumption | (simp only [LZ,zo,zc,reduceCtorEq,reduceIte,zz1,zz2,zz3,zz4,zz5,zz6,zz7,zz8,zz9,zza,zzb,zzc,zzd,zze,zzf,e0,v0,e2,b1000,nodeW,nodeL,piecesL,attrsL,acesL,rowL,rdL,bytesL',r1,r2,r39] <;> exact rfl)),(by first | exact rfl | assumption | (simp only [LZ,zo,zc,reduceCtorEq,reduceIte,zz1,zz2,zz3,zz4,zz5,zz6,zz7,zz8,zz9,zza,zzb,zzc,zzd,zze,zzf,e0,v0,e2,b1000,nodeW,nodeL,piecesL,attrsL,acesL,rowL,rdL,bytesL',r1,r2,r39] <;> exact rfl))⟩,?_⟩;simp only [thenL,jumpsL,inBlockL,twoL,bodyQ,LV.lit.injEq,LV.tup.injEq,LV.agg.injEq,LV.sl.injEq,List.cons.injEq,Value.int.injEq,Value.bool.injEq,Value.string.injEq,ByteArray.mk.injEq,exists_eq_left',exists_eq_left,exists_eq_right,LZ,zo,zc,reduceCtorEq,reduceIte,zz1,zz2,zz3,zz4,zz5,zz6,zz7,zz8,zz9,zza,zzb,zzc,zzd,zze,zzf,e0,v0,e2,b1000,nodeW,nodeL,piecesL,attrsL,acesL,rowL,rdL,bytesL',r1,r2,r39]
        subst hR2;subst k2;subst h0
        (repeat' apply And.intro) <;> rfl
    · have h0i : ((0 : Int) < (l.length : Int)) = True := eq_true (by have := List.length_pos_iff.2 h0;omega)
      rw [if_neg h0] at hR2
      have d3 := number_S b hb t ht mxI
      simp only [rdL,bytesL',intL,hmx] at d3
      rcases htok with ⟨rfl,hl0⟩ | ⟨rfl,r39⟩
      · exact absurd hl0 h0
      · refine Yg1 (fa2 @e4 @b4) ?_
        refine Yt1 @h0i ?_
        (repeat (first | refine LW_seq ?_ | (refine LW_skip ?_;simp only [LSj,reduceIte,zze]) | refine LW_block ?_));refine LW_regionO [(47,⟨_,_,_,_,_,[(1000,1000)],[(2000,1000)],_,[1001000],(d3).toS,rfl,rfl,rfl⟩)] ?_;intro K hK;simp only [LZ,zo,zc,reduceCtorEq,reduceIte,zz1,zz2,zz3,zz4,zz5,zz6,zz7,zz8,zz9,zza,zzb,zzc,zzd,zze,zzf,e0,b1000]
        refine hK _ ?_;clear hK K;try refine Wh0 ?_
        refine Yg1 (fa4 @e2 @b2 @e4 @b4) ?_
        refine LW_ret ?_;simp only [thenL,jumpsL,inBlockL,twoL,bodyS];refine ⟨[(1000,2000),(1001,2001),(1002,2002),(39,2003)],rfl,.inr ⟨_,_,_,rfl,rfl,(by first | exact rfl | assumption | (simp only [LZ,zo,zc,reduceCtorEq,reduceIte,zz1,zz2,zz3,zz4,zz5,zz6,zz7,zz8,zz9,zza,zzb,zzc,zzd,zze,zzf,e0,v0,e2,nodeW,nodeL,piecesL,attrsL,acesL,rowL,rdL,bytesL',r1,r2,r39] <;> exact rfl)),(by first | exact rfl | assumption | (simp only [LZ,zo,zc,reduceCtorEq,reduceIte,zz1,zz2,zz3,zz4,zz5,zz6,zz7,zz8,zz9,zza,zzb,zzc,zzd,zze,zzf,e0,v0,e2,nodeW,nodeL,piecesL,attrsL,acesL,rowL,rdL,bytesL',r1,r2,r39] <;> exact rfl))⟩,?_⟩;simp only [thenL,jumpsL,inBlockL,twoL,bodyQ,LV.lit.injEq,LV.tup.injEq,LV.agg.injEq,LV.sl.injEq,List.cons.injEq,Value.int.injEq,Value.bool.injEq,Value.string.injEq,ByteArray.mk.injEq,exists_eq_left',exists_eq_left,exists_eq_right,LZ,zo,zc,reduceCtorEq,reduceIte,zz1,zz2,zz3,zz4,zz5,zz6,zz7,zz8,zz9,zza,zzb,zzc,zzd,zze,zzf,e0,v0,e2,nodeW,nodeL,piecesL,attrsL,acesL,rowL,rdL,bytesL',r1,r2,r39]
        subst hR2;subst k2
        (repeat' apply And.intro) <;> rfl
  rw [if_neg k2] at hR
  have k2i : ¬ ((k : Int) = 2) := by omega
  by_cases k3 : k = 3
  · rw [if_pos k3] at hR
    have k3i : ((k : Int) = 3) = True := eq_true (by omega)
    have ct := text_S b hb s2 hm 200 (by omega)
    simp only [rdL,bytesL',intL,h200] at ct
    refine Yf1 (fa2 @e19 @k2i) ?_
    refine Yg1 (fa2 @e18 @k3i) ?_
    refine Yt0 ?_
    (repeat (first | refine LW_seq ?_ | (refine LW_skip ?_;simp only [LSj,reduceIte,zze]) | refine LW_block ?_));refine LW_regionO [(51,⟨_,_,_,_,_,[(1000,1000)],[(2000,1000)],_,[1001000],(ct).toS,rfl,rfl,rfl⟩)] ?_;intro K hK;simp only [LZ,zo,zc,reduceCtorEq,reduceIte,zz1,zz2,zz3,zz4,zz5,zz6,zz7,zz8,zz9,zza,zzb,zzc,zzd,zze,zzf,e0,b1000,e4,b4]
    refine hK _ ?_;clear hK K;try refine Wh0 ?_
    refine LW_nilBox (cs := nodeD k m 0 (.sl 0 [] .nil) (rText b 200 s2).1 0 0) 4 8 1003 48 (Yq1 (fa2 @b4 @nodeD.eq_1)) rfl ?_
    (repeat (first | refine LW_seq ?_ | ((first | (refine LW_region ?_;intro K hK;simp only [LZ,zo,zc,reduceCtorEq,reduceIte,zz1,zz2,zz3,zz4,zz5,zz6,zz7,zz8,zz9,zza,zzb,zzc,zzd,zze,zzf,e2,b2,e4,b4,e5,nodeD,List.set_cons_zero,List.set_cons_succ];refine hK _ ?_;clear hK K) | refine LW_label ?_ | refine LW_skip ?_);try simp only [LSj,reduceIte,zze]) | refine LW_block ?_))
    refine LW_ret ?_;simp only [thenL,jumpsL,inBlockL,twoL,bodyS];refine ⟨[(1000,2000),(1001,2001),(1002,2002),(1003,2003)],rfl,.inr ⟨_,_,_,rfl,rfl,(by first | exact rfl | assumption | (simp only [LZ,zo,zc,reduceCtorEq,reduceIte,zz1,zz2,zz3,zz4,zz5,zz6,zz7,zz8,zz9,zza,zzb,zzc,zzd,zze,zzf,r1,r2,nodeW,e0,v0,e2,nodeL,piecesL,attrsL,acesL,rowL,rdL,bytesL'] <;> exact rfl)),(by first | exact rfl | assumption | (simp only [LZ,zo,zc,reduceCtorEq,reduceIte,zz1,zz2,zz3,zz4,zz5,zz6,zz7,zz8,zz9,zza,zzb,zzc,zzd,zze,zzf,r1,r2,nodeW,e0,v0,e2,nodeL,piecesL,attrsL,acesL,rowL,rdL,bytesL'] <;> exact rfl))⟩,?_⟩;simp only [thenL,jumpsL,inBlockL,twoL,bodyQ,LV.lit.injEq,LV.tup.injEq,LV.agg.injEq,LV.sl.injEq,List.cons.injEq,Value.int.injEq,Value.bool.injEq,Value.string.injEq,ByteArray.mk.injEq,exists_eq_left',exists_eq_left,exists_eq_right,LZ,zo,zc,reduceCtorEq,reduceIte,zz1,zz2,zz3,zz4,zz5,zz6,zz7,zz8,zz9,zza,zzb,zzc,zzd,zze,zzf,r1,r2,nodeW,e0,v0,e2,nodeL,piecesL,attrsL,acesL,rowL,rdL,bytesL']
    subst hR
    (repeat' apply And.intro) <;> rfl
  rw [if_neg k3] at hR
  have k3i : ¬ ((k : Int) = 3) := by omega
  by_cases k45 : k = 4 ∨ k = 5
  · rw [if_pos k45] at hR
    have cn1 := number_S b hb s2 hm mxI
    have hn1 := rNum_pos (most := mxI) hm
    have cn2 := number_S b hb (rNum b mxI s2).2 hn1 mxI
    simp only [rdL,bytesL',intL,hmx] at cn1 cn2
    refine Yf1 (fa2 @e19 @k2i) ?_
    refine Yg1 (fa2 @e18 @k3i) ?_
    refine Yf0 ?_
    by_cases k4 : k = 4
    · have k4i : ((k : Int) = 4) = True := eq_true (by omega)
      refine Yg1 (fa2 @e18 @k4i) ?_
      refine Yt0 ?_
      refine Yg0 ?_
      refine Yt0 ?_
      (repeat (first | refine LW_seq ?_ | (refine LW_skip ?_;simp only [LSj,reduceIte,zze]) | refine LW_block ?_));refine LW_regionO [(57,⟨_,_,_,_,_,[(1000,1000)],[(2000,1000)],_,[1001000],(cn1).toS,rfl,rfl,rfl⟩),(59,⟨_,_,_,_,_,[(1000,1000)],[(2000,1000)],_,[1001000],(cn2).toS,rfl,rfl,rfl⟩)] ?_;intro K hK;simp only [LZ,zo,zc,reduceCtorEq,reduceIte,zz1,zz2,zz3,zz4,zz5,zz6,zz7,zz8,zz9,zza,zzb,zzc,zzd,zze,zzf,e0,b1000,e4,b4]
      refine hK _ ?_;clear hK K;try refine Wh0 ?_
      refine LW_nilBox (cs := nodeD k m 0 (.sl 0 [] .nil) [] (rNum b mxI s2).1 (rNum b mxI (rNum b mxI s2).2).1) 4 8 1003 48 (Yq1 (fa2 @b4 @nodeD.eq_1)) rfl ?_
      (repeat (first | refine LW_seq ?_ | ((first | (refine LW_region ?_;intro K hK;simp only [LZ,zo,zc,reduceCtorEq,reduceIte,zz1,zz2,zz3,zz4,zz5,zz6,zz7,zz8,zz9,zza,zzb,zzc,zzd,zze,zzf,e2,b2,e4,b4,e5,nodeD,List.set_cons_zero,List.set_cons_succ];refine hK _ ?_;clear hK K) | refine LW_label ?_ | refine LW_skip ?_);try simp only [LSj,reduceIte,zze]) | refine LW_block ?_))
      refine LW_ret ?_;simp only [thenL,jumpsL,inBlockL,twoL,bodyS];refine ⟨[(1000,2000),(1001,2001),(1002,2002),(1003,2003)],rfl,.inr ⟨_,_,_,rfl,rfl,(by first | exact rfl | assumption | (simp only [LZ,zo,zc,reduceCtorEq,reduceIte,zz1,zz2,zz3,zz4,zz5,zz6,zz7,zz8,zz9,zza,zzb,zzc,zzd,zze,zzf,r1,r2,nodeW,e0,v0,e2,nodeL,piecesL,attrsL,acesL,rowL,rdL,bytesL'] <;> exact rfl)),(by first | exact rfl | assumption | (simp only [LZ,zo,zc,reduceCtorEq,reduceIte,zz1,zz2,zz3,zz4,zz5,zz6,zz7,zz8,zz9,zza,zzb,zzc,zzd,zze,zzf,r1,r2,nodeW,e0,v0,e2,nodeL,piecesL,attrsL,acesL,rowL,rdL,bytesL'] <;> exact rfl))⟩,?_⟩;simp only [thenL,jumpsL,inBlockL,twoL,bodyQ,LV.lit.injEq,LV.tup.injEq,LV.agg.injEq,LV.sl.injEq,List.cons.injEq,Value.int.injEq,Value.bool.injEq,Value.string.injEq,ByteArray.mk.injEq,exists_eq_left',exists_eq_left,exists_eq_right,LZ,zo,zc,reduceCtorEq,reduceIte,zz1,zz2,zz3,zz4,zz5,zz6,zz7,zz8,zz9,zza,zzb,zzc,zzd,zze,zzf,r1,r2,nodeW,e0,v0,e2,nodeL,piecesL,attrsL,acesL,rowL,rdL,bytesL']
      subst hR
      (repeat' apply And.intro) <;> rfl
    · have k4i : ¬ ((k : Int) = 4) := by omega
      have k5i : ((k : Int) = 5) = True := eq_true (by omega)
      refine Yg1 (fa2 @e18 @k4i) ?_
      refine Yf0 ?_
      refine Yg1 (fa2 @e18 @k5i) ?_
      refine Yt0 ?_
      (repeat (first | refine LW_seq ?_ | (refine LW_skip ?_;simp only [LSj,reduceIte,zze]) | refine LW_block ?_));refine LW_regionO [(57,⟨_,_,_,_,_,[(1000,1000)],[(2000,1000)],_,[1001000],(cn1).toS,rfl,rfl,rfl⟩),(59,⟨_,_,_,_,_,[(1000,1000)],[(2000,1000)],_,[1001000],(cn2).toS,rfl,rfl,rfl⟩)] ?_;intro K hK;simp only [LZ,zo,zc,reduceCtorEq,reduceIte,zz1,zz2,zz3,zz4,zz5,zz6,zz7,zz8,zz9,zza,zzb,zzc,zzd,zze,zzf,e0,b1000,e4,b4]
      refine hK _ ?_;clear hK K;try refine Wh0 ?_
      refine LW_nilBox (cs := nodeD k m 0 (.sl 0 [] .nil) [] (rNum b mxI s2).1 (rNum b mxI (rNum b mxI s2).2).1) 4 8 1003 48 (Yq1 (fa2 @b4 @nodeD.eq_1)) rfl ?_
      (repeat (first | refine LW_seq ?_ | ((first | (refine LW_region ?_;intro K hK;simp only [LZ,zo,zc,reduceCtorEq,reduceIte,zz1,zz2,zz3,zz4,zz5,zz6,zz7,zz8,zz9,zza,zzb,zzc,zzd,zze,zzf,e2,b2,e4,b4,e5,nodeD,List.set_cons_zero,List.set_cons_succ];refine hK _ ?_;clear hK K) | refine LW_label ?_ | refine LW_skip ?_);try simp only [LSj,reduceIte,zze]) | refine LW_block ?_))
      refine LW_ret ?_;simp only [thenL,jumpsL,inBlockL,twoL,bodyS];refine ⟨[(1000,2000),(1001,2001),(1002,2002),(1003,2003)],rfl,.inr ⟨_,_,_,rfl,rfl,(by first | exact rfl | assumption | (simp only [LZ,zo,zc,reduceCtorEq,reduceIte,zz1,zz2,zz3,zz4,zz5,zz6,zz7,zz8,zz9,zza,zzb,zzc,zzd,zze,zzf,r1,r2,nodeW,e0,v0,e2,nodeL,piecesL,attrsL,acesL,rowL,rdL,bytesL'] <;> exact rfl)),(by first | exact rfl | assumption | (simp only [LZ,zo,zc,reduceCtorEq,reduceIte,zz1,zz2,zz3,zz4,zz5,zz6,zz7,zz8,zz9,zza,zzb,zzc,zzd,zze,zzf,r1,r2,nodeW,e0,v0,e2,nodeL,piecesL,attrsL,acesL,rowL,rdL,bytesL'] <;> exact rfl))⟩,?_⟩;simp only [thenL,jumpsL,inBlockL,twoL,bodyQ,LV.lit.injEq,LV.tup.injEq,LV.agg.injEq,LV.sl.injEq,List.cons.injEq,Value.int.injEq,Value.bool.injEq,Value.string.injEq,ByteArray.mk.injEq,exists_eq_left',exists_eq_left,exists_eq_right,LZ,zo,zc,reduceCtorEq,reduceIte,zz1,zz2,zz3,zz4,zz5,zz6,zz7,zz8,zz9,zza,zzb,zzc,zzd,zze,zzf,r1,r2,nodeW,e0,v0,e2,nodeL,piecesL,attrsL,acesL,rowL,rdL,bytesL']
      subst hR
      (repeat' apply And.intro) <;> rfl
  rw [if_neg k45] at hR
  have k4i : ¬ ((k : Int) = 4) := by omega
  have k5i : ¬ ((k : Int) = 5) := by omega
  refine Yf1 (fa2 @e19 @k2i) ?_
  refine Yg1 (fa2 @e18 @k3i) ?_
  refine Yf0 ?_
  refine Yg1 (fa2 @e18 @k4i) ?_
  refine Yf0 ?_
  refine Yg1 (fa2 @e18 @k5i) ?_
  refine Yf0 ?_
  refine LW_nilBox (cs := nodeD k m 0 (.sl 0 [] .nil) [] 0 0) 4 8 1003 48 (Yq1 (fa2 @b4 @nodeD.eq_1)) rfl ?_
  (repeat (first | refine LW_seq ?_ | ((first | (refine LW_region ?_;intro K hK;simp only [LZ,zo,zc,reduceCtorEq,reduceIte,zz1,zz2,zz3,zz4,zz5,zz6,zz7,zz8,zz9,zza,zzb,zzc,zzd,zze,zzf,e2,b2,e4,b4,e5,nodeD,List.set_cons_zero,List.set_cons_succ];refine hK _ ?_;clear hK K) | refine LW_label ?_ | refine LW_skip ?_);try simp only [LSj,reduceIte,zze]) | refine LW_block ?_))
  refine LW_ret ?_;simp only [thenL,jumpsL,inBlockL,twoL,bodyS];refine ⟨[(1000,2000),(1001,2001),(1002,2002),(1003,2003)],rfl,.inr ⟨_,_,_,rfl,rfl,(by first | exact rfl | assumption | (simp only [LZ,zo,zc,reduceCtorEq,reduceIte,zz1,zz2,zz3,zz4,zz5,zz6,zz7,zz8,zz9,zza,zzb,zzc,zzd,zze,zzf,r1,r2,nodeW,e0,v0,e2,nodeL,piecesL,attrsL,acesL,rowL,rdL,bytesL',b1000] <;> exact rfl)),(by first | exact rfl | assumption | (simp only [LZ,zo,zc,reduceCtorEq,reduceIte,zz1,zz2,zz3,zz4,zz5,zz6,zz7,zz8,zz9,zza,zzb,zzc,zzd,zze,zzf,r1,r2,nodeW,e0,v0,e2,nodeL,piecesL,attrsL,acesL,rowL,rdL,bytesL',b1000] <;> exact rfl))⟩,?_⟩;simp only [thenL,jumpsL,inBlockL,twoL,bodyQ,LV.lit.injEq,LV.tup.injEq,LV.agg.injEq,LV.sl.injEq,List.cons.injEq,Value.int.injEq,Value.bool.injEq,Value.string.injEq,ByteArray.mk.injEq,exists_eq_left',exists_eq_left,exists_eq_right,LZ,zo,zc,reduceCtorEq,reduceIte,zz1,zz2,zz3,zz4,zz5,zz6,zz7,zz8,zz9,zza,zzb,zzc,zzd,zze,zzf,r1,r2,nodeW,e0,v0,e2,nodeL,piecesL,attrsL,acesL,rowL,rdL,bytesL',b1000]
  subst hR
  (repeat' apply And.intro) <;> rfl
end Go.Proofs.YteamlijbkldlhaaDoor
