import Derived.Test.YteamlijbkldlhaaDoorKUD
section
set_option linter.unusedSimpArgs false
set_option linter.unusedVariables false
namespace Go.Proofs.YteamlijbkldlhaaDoor
open Nat renaming reduceAdd → zz1,reduceMul → zz2,reduceSub → zz3,reduceLT → zz4,reduceLeDiff → zz5,reduceEqDiff → zz6,reduceBEq → zzf
open Int renaming reduceAdd → zz7,reduceSub → zz8,reduceMul → zz9,reduceLT → zza,reduceLE → zzb,reduceEq → zzc,reduceNeg → zzd,reduceToNat → zze
open Op renaming operands → zo
open Call renaming operands → zc
open Go.RowKit Go.Proofs AclSpec MetaSpec NodeSpec RecSpec PathSpec

theorem dec_itoB (n : Nat) : Lib.decDigits n = itoB n := by
  induction n using Nat.strongRecOn with
  | _ n ih =>
    rw [Lib.decDigits]
    by_cases h : n ≤ 9
    · rw [dif_pos (by omega),itoB_lo h]
      congr 1
      apply UInt8.toNat_inj.1
      rw [dig_of h]
      show (48 + n) % 256 = _
      omega
    · rw [dif_neg (by omega),itoB_hi h,ih (n / 10) (by omega)]
      congr 2
      apply UInt8.toNat_inj.1
      rw [dig_of (by omega)]
      show (48 + n % 10) % 256 = _
      omega
theorem args1 {vs : Array Value} {a : LV} (hs : vs.size = [a].length) : ∃ x,vs = #[x] := by
  obtain ⟨vs⟩ := vs
  match vs,hs with
  | [x],_ => exact ⟨x,rfl⟩
theorem itoa_L (n : Nat) (h2 : n ≤ 1000000) : LCalls Tryd.prog 35 [intL n] (strL (itoB n)) := by
  refine LCalls.lit_of (enters_of Tryd.func35 (by kernel_rfl) rfl) fun w S vs hgl hs hr => ?_
  obtain ⟨a,rfl⟩ := args1 hs
  have e0 := (hr 0 _ a rfl rfl).inv_lit
  subst e0
  refine (Tryd.strconv_Itoa (n : Int) (by omega) (by omega) w (hgl.1 (by kernel_rfl))).mono ?_
  rintro e w' ⟨rfl,k,os,rfl⟩
  refine ⟨?_,Lib.below_grow _ w (Nat.le_refl _) k os⟩
  unfold Lib.itoa
  rw [if_neg (by omega),Int.toNat_natCast,dec_itoB]
def nodeC (k : Int) (m : FMeta) (sz : Int) (d : LV) (t : List UInt8) (x y : Int) : List LV := [intL k,intL m.mode,intL m.uid,intL m.gid,intL m.time,.sl m.attrs.length (m.attrs.flatMap attrL) .no,.sl m.acl.length (m.acl.flatMap aceL) .no,intL sz,d,strL t,intL x,intL y]
set_option maxRecDepth 100000 in
set_option maxHeartbeats 8000000 in
theorem node_S (b : List UInt8) (hb : b.length ≤ 1000000) (s : Rd) (hs : s.pos ≤ b.length) :
    SCalls Tryd.prog 22 [.ptr 1000 0] ⟨[],[],[(1000,rdL b s)]⟩ (.tup [.agg (nodeL (rNode b s).1.1),intL (rNode b s).1.2]) ⟨[],[],[(2000,rdL b (rNode b s).2)]⟩ [(1000,2000)] := by
  have ck := kind_S b hb s hs
  have hk := (rKind_ok b).pos s hs
  have hmx : ((mxI : Nat) : Int) = 9223372036854775807 := rfl
  have h16 : ((16 : Nat) : Int) = 16 := rfl
  have h4000 : ((4000 : Nat) : Int) = 4000 := rfl
  have h200 : ((200 : Nat) : Int) = 200 := rfl
  have hR : rNode b s = if (rKind b s).1 = 0 then ((zeroN,0),(rKind b s).2) else rBody b (rKind b s).1 (rMeta b (rKind b s).2).1 (rMeta b (rKind b s).2).2 := by
    have ht : ∀ (c : Prop) [Decidable c] (f g : Rdr (FNode × Int)) (t : Rd),(if c then f else g) t = if c then f t else g t := by
      intro c _ f g t
      by_cases h : c
      · rw [if_pos h,if_pos h]
      · rw [if_neg h,if_neg h]
    exact ht _ _ _ _
  generalize rNode b s = R at *
  generalize rKind b s = q at *
  obtain ⟨k,s1⟩ := q
  simp only at ck hk hR
  simp only [rdL,bytesL',intL] at ck
  refine SCalls.of (fun _ => false) [(1000,2000)] 0 Tryd.func22 rfl (by decide) Tryd.ntmps22 Tryd.results22 (by simp) (.inr ⟨_,_,rfl,rfl⟩) ?_
  intro w0 S0 vs
  refine Yg0 ?_
  (repeat (first | refine LW_seq ?_ | (refine LW_skip ?_;simp only [LSj,reduceIte,zze]) | refine LW_block ?_));refine LW_regionO [(8,⟨_,_,_,_,_,[(1000,1000)],[(2000,1000)],_,[1001000],(ck).toS,rfl,rfl,rfl⟩)] ?_;intro K hK;simp only [LZ,zo,zc,reduceCtorEq,reduceIte,zz1,zz2,zz3,zz4,zz5,zz6,zz7,zz8,zz9,zza,zzb,zzc,zzd,zze,zzf,rdL,bytesL']
  refine hK _ ?_;clear hK K;try refine Wh0 ?_
  by_cases k0 : k = 0
  · subst k0
    rw [if_pos rfl] at hR
    subst hR
    rw [show ((0 : Nat) : Int) = 0 from rfl]
    refine Yg0 ?_
    refine Yt0 ?_
    refine Yg0 ?_
    refine LW_ret ?_;simp only [thenL,jumpsL,inBlockL,twoL,bodyS];refine ⟨[(1000,2000)],rfl,.inr ⟨_,_,_,rfl,rfl,(by first | exact rfl | assumption | (simp only [LZ,zo,zc,reduceCtorEq,reduceIte,zz1,zz2,zz3,zz4,zz5,zz6,zz7,zz8,zz9,zza,zzb,zzc,zzd,zze,zzf,nodeL,piecesL,attrsL,acesL,rowL,rdL,bytesL',zeroN] <;> exact rfl)),(by first | exact rfl | assumption | (simp only [LZ,zo,zc,reduceCtorEq,reduceIte,zz1,zz2,zz3,zz4,zz5,zz6,zz7,zz8,zz9,zza,zzb,zzc,zzd,zze,zzf,nodeL,piecesL,attrsL,acesL,rowL,rdL,bytesL',zeroN] <;> exact rfl))⟩,?_⟩;simp only [thenL,jumpsL,inBlockL,twoL,bodyQ,LV.lit.injEq,LV.tup.injEq,LV.agg.injEq,LV.sl.injEq,List.cons.injEq,Value.int.injEq,Value.bool.injEq,Value.string.injEq,ByteArray.mk.injEq,exists_eq_left',exists_eq_left,exists_eq_right,LZ,zo,zc,reduceCtorEq,reduceIte,zz1,zz2,zz3,zz4,zz5,zz6,zz7,zz8,zz9,zza,zzb,zzc,zzd,zze,zzf,nodeL,piecesL,attrsL,acesL,rowL,rdL,bytesL',zeroN]
    exact ⟨rfl,rfl,rfl⟩
  rw [if_neg k0] at hR
  have k0i : ¬ ((k : Int) = 0) := by omega
  have cm := meta_S b hb s1 hk
  have hm := (rMeta_ok b).pos s1 hk
  generalize rMeta b s1 = q at *
  obtain ⟨m,s2⟩ := q
  simp only at cm hm hR
  simp only [rdL,bytesL',metaL,attrsL,acesL,rowL,intL] at cm
  refine Yg1 @k0i ?_
  refine Yf0 ?_
  (repeat (first | refine LW_seq ?_ | (refine LW_skip ?_;simp only [LSj,reduceIte,zze]) | refine LW_block ?_));refine LW_regionO [(15,⟨_,_,_,_,_,[(1000,1000)],[(2000,1000)],_,[1001000],(cm).toS,rfl,rfl,rfl⟩)] ?_;intro K hK;simp only [LZ,zo,zc,reduceCtorEq,reduceIte,zz1,zz2,zz3,zz4,zz5,zz6,zz7,zz8,zz9,zza,zzb,zzc,zzd,zze,zzf]
  refine hK _ ?_;clear hK K;try refine Wh0 ?_
  refine Yg0 ?_
  refine LW_slim (fun st => st.env 0 = .ptr 1000 0 ∧ st.val 0 = vs[0]? ∧ st.box 1000 = some (rdL b s2) ∧ st.env 2 = .ptr 2 0 ∧ st.box 2 = some zNode ∧ st.env 4 = .ptr 4 0 ∧ st.box 4 = some (nodeC k m 0 (.sl 0 [] .nil) [] 0 0) ∧ st.env 5 = intL 0 ∧ st.env 18 = intL k ∧ st.env 19 = boolL (decide ((k : Int) = 2)) ∧ st.mode = fun _ => false) ⟨Yq0,Yq0,(Yq1 (fa2 @rdL.eq_1 @bytesL'.eq_1)),Yq0,(Yq1 @zNode.eq_1),Yq0,(Yq1 @nodeC.eq_1),Yq0,Yq0,Yq0,Yq0⟩ ?_
  rintro st ⟨e0,v0,b1000,e2,b2,e4,b4,e5,e18,e19,hmd⟩
  unfold rBody at hR
  simp only [rdL,bytesL'] at b1000
  simp only [zNode] at b2
  simp only [nodeC] at b4
  by_cases k2 : k = 2
  · rw [if_pos k2] at hR
    have k2i : ((k : Int) = 2) = True := eq_true (by omega)
    have c1 := long_S b hb s2 hm
    have h1 := rLong_pos hm
    have hR2 : R = if (rRep (rPc b) (rNum b 16 (rLong b s2).2).1 (rNum b 16 (rLong b s2).2).2).1 = [] then ((⟨2,m,((rLong b s2).1 : Int),[],[],0,0⟩,0),(rRep (rPc b) (rNum b 16 (rLong b s2).2).1 (rNum b 16 (rLong b s2).2).2).2)
        else ((⟨2,m,((rLong b s2).1 : Int),(rRep (rPc b) (rNum b 16 (rLong b s2).2).1 (rNum b 16 (rLong b s2).2).2).1,[],0,0⟩,((rNum b mxI (rRep (rPc b) (rNum b 16 (rLong b s2).2).1 (rNum b 16 (rLong b s2).2).2).2).1 : Int)),(rNum b mxI (rRep (rPc b) (rNum b 16 (rLong b s2).2).1 (rNum b 16 (rLong b s2).2).2).2).2) := by
      rw [hR]
      have ht : ∀ (c : Prop) [Decidable c] (f g : Rdr (FNode × Int)) (t : Rd),(if c then f else g) t = if c then f t else g t := by
        intro c _ f g t
        by_cases h : c
        · rw [if_pos h,if_pos h]
        · rw [if_neg h,if_neg h]
      exact ht _ _ _ _
    clear hR
    generalize rLong b s2 = q6 at *
    have c2 := number_S b hb q6.2 h1 16
    have h2 := rNum_pos (most := 16) h1
    have h27 := rNum_le (b := b) (most := 16) (s := q6.2)
    generalize rNum b 16 q6.2 = q7 at *
    simp only [rdL,bytesL',intL,h16] at c1 c2
    refine Yt1 (fa2 @e19 @k2i) ?_
    (repeat (first | refine LW_seq ?_ | (refine LW_skip ?_;simp only [LSj,reduceIte,zze]) | refine LW_block ?_));refine LW_regionO [(22,⟨_,_,_,_,_,[(1000,1000)],[(2000,1000)],_,[1001000],(c1).toS,rfl,rfl,rfl⟩)] ?_;intro K hK;simp only [LZ,zo,zc,reduceCtorEq,reduceIte,zz1,zz2,zz3,zz4,zz5,zz6,zz7,zz8,zz9,zza,zzb,zzc,zzd,zze,zzf,e0,b1000,e4,b4]
    refine hK _ ?_;clear hK K;try refine Wh0 ?_
    (repeat (first | refine LW_seq ?_ | (refine LW_skip ?_;simp only [LSj,reduceIte,zze]) | refine LW_block ?_));refine LW_regionO [(25,⟨_,_,_,_,_,[(1000,1000)],[(2000,1000)],_,[1001000],(c2).toS,rfl,rfl,rfl⟩)] ?_;intro K hK;simp only [LZ,zo,zc,reduceCtorEq,reduceIte,zz1,zz2,zz3,zz4,zz5,zz6,zz7,zz8,zz9,zza,zzb,zzc,zzd,zze,zzf,e0]
    refine hK _ ?_;clear hK K;try refine Wh0 ?_
    refine Yg0 ?_
    refine LW_slim (fun st => st.env 0 = .ptr 1000 0 ∧ st.val 0 = vs[0]? ∧ st.box 1000 = some (rdL b q7.2) ∧ st.env 2 = .ptr 2 0 ∧ st.box 2 = some zNode ∧ st.env 4 = .ptr 4 0 ∧ st.box 4 = some (nodeC k m q6.1 (.sl 0 [] .nil) [] 0 0) ∧ st.env 5 = intL 0 ∧ st.env 25 = intL q7.1 ∧ st.env 26 = intL 0 ∧ st.mode = fun _ => false) ⟨(Yq1 @e0),(Yq1 @v0),(Yq1 (fa2 @rdL.eq_1 @bytesL'.eq_1)),(Yq1 @e2),(Yq1 (fa2 @b2 @zNode.eq_1)),(Yq1 @e4),(Yq1 (fa2 @b4 @nodeC.eq_1)),(Yq1 @e5),Yq0,Yq0,(Yq1 @hmd)⟩ ?_
    clear e0 v0 b1000 e2 b2 e4 b4 e5 e18 e19 hmd st
    rintro st ⟨e0,v0,b1000,e2,b2,e4,b4,e5,e25,e26,hmd⟩
    refine LW_joinB (fun st => ∃ (l : List Piece) (t : Rd) (tok : Tok),rRep (rPc b) q7.1 q7.2 = (l,t) ∧ t.pos ≤ b.length ∧ (tok = .nil ∨ tok = .row 39) ∧ st.env 0 = .ptr 1000 0 ∧ st.val 0 = vs[0]? ∧ st.box 1000 = some (rdL b t) ∧ st.env 2 = .ptr 2 0 ∧ st.box 2 = some zNode ∧ st.env 4 = .ptr 4 0 ∧ st.box 4 = some (nodeC k m q6.1 (.sl l.length (l.flatMap pieceL) tok) [] 0 0) ∧ st.env 5 = intL 0 ∧ st.mode = fun _ => false) ?_ ?_
    · refine LW_loop (fun kk st => ∃ (l : List Piece) (t : Rd) (tok : Tok),rRep (rPc b) q7.1 q7.2 = (l ++ (rRep (rPc b) kk t).1,(rRep (rPc b) kk t).2) ∧ l.length + kk = q7.1 ∧ t.pos ≤ b.length ∧ ((tok = .nil ∧ l = []) ∨ (tok = .row 39 ∧ st.row 39 = some (48,l.length))) ∧ st.env 0 = .ptr 1000 0 ∧ st.val 0 = vs[0]? ∧ st.box 1000 = some (rdL b t) ∧ st.env 2 = .ptr 2 0 ∧ st.box 2 = some zNode ∧ st.env 4 = .ptr 4 0 ∧ st.box 4 = some (nodeC k m q6.1 (.sl l.length (l.flatMap pieceL) tok) [] 0 0) ∧ st.env 5 = intL 0 ∧ st.env 25 = intL q7.1 ∧ st.env 26 = intL l.length ∧ st.mode = fun _ => false) q7.1 ⟨[],q7.2,.nil,by simp,by simp,h2,.inl ⟨rfl,rfl⟩,e0,v0,b1000,e2,b2,e4,b4,e5,e25,e26,hmd⟩ ?_
      clear e0 v0 b1000 e2 b2 e4 b4 e5 e25 e26 hmd st
      rintro kk st ⟨l,t,tok,hrep,hlk,ht,htok,e0,v0,b1000,e2,b2,e4,b4,e5,e25,e26,hmd⟩
      simp only [rdL,bytesL'] at b1000
      simp only [nodeC] at b4
      cases kk with
      | zero =>
        have hlt : ¬ (l.length < q7.1) := by omega
        refine Yg1 (fa2 @e25 @e26) ?_
        refine Yf1 @hlt ?_
        refine LW_exit ?_;simp only [thenL,jumpsL,inBlockL,twoL,reduceIte,Nat.reduceEqDiff]
        have hr0 : rRep (rPc b) q7.1 q7.2 = (l,t) := by rw [hrep];simp [rRep,pureR]
        have hbx : tok = .nil ∨ tok = .row 39 := by
          rcases htok with ⟨h,_⟩ | ⟨h,_⟩
          · exact .inl h
          · exact .inr h
        refine ⟨l,t,tok,hr0,ht,hbx,(Yq1 @e0),(Yq1 @v0),(Yq1 (fa3 @b1000 @rdL.eq_1 @bytesL'.eq_1)),(Yq1 @e2),(Yq1 (fa2 @b2 @zNode.eq_1)),(Yq1 @e4),?_,(Yq1 @e5),(Yq1 @hmd)⟩
        rcases hbx with rfl | rfl <;> exact (Yq1 (fa2 @b4 @nodeC.eq_1))
      | succ kk =>
        have hlt : l.length < q7.1 := by omega
        have hst := rRep_step hrep
        have d1 := long_S b hb t ht
        have g1 := rLong_pos ht
        have d2 := number_S b hb (rLong b t).2 g1 4000
        have g2 := rNum_pos (most := 4000) g1
        have g24 := rNum_le (b := b) (most := 4000) (s := (rLong b t).2)
        have hat : rPc b t = (⟨((rLong b t).1 : Int),itoB (rNum b 4000 (rLong b t).2).1⟩,(rNum b 4000 (rLong b t).2).2) := rfl
        rw [hat] at hst
        generalize rLong b t = u1 at *
        generalize rNum b 4000 u1.2 = u2 at *
        have ci := (itoa_L u2.1 (by omega)).toO
        simp only [rdL,bytesL',intL,h4000] at d1 d2
        simp only [strip,strip2,strip1,strL,intL] at ci
        have hw := w64s (n := l.length) (by omega)
        have hlen := pieceL_flen l
        refine Yg1 (fa2 @e25 @e26) ?_
        refine Yt1 @hlt ?_
        (repeat (first | refine LW_seq ?_ | (refine LW_skip ?_;simp only [LSj,reduceIte,zze]) | refine LW_block ?_));refine LW_regionO [(29,⟨_,_,_,_,_,[(1000,1000)],[(2000,1000)],_,[1001000],(d1).toS,rfl,rfl,rfl⟩)] ?_;intro K hK;simp only [LZ,zo,zc,reduceCtorEq,reduceIte,zz1,zz2,zz3,zz4,zz5,zz6,zz7,zz8,zz9,zza,zzb,zzc,zzd,zze,zzf,e0,b1000]
        refine hK _ ?_;clear hK K;try refine Wh0 ?_
        (repeat (first | refine LW_seq ?_ | (refine LW_skip ?_;simp only [LSj,reduceIte,zze]) | refine LW_block ?_));refine LW_regionO [(32,⟨_,_,_,_,_,[(1000,1000)],[(2000,1000)],_,[1001000],(d2).toS,rfl,rfl,rfl⟩),(33,⟨_,_,_,_,_,[],[],_,[],(ci).toS,rfl,rfl,rfl⟩)] ?_;intro K hK;simp only [LZ,zo,zc,reduceCtorEq,reduceIte,zz1,zz2,zz3,zz4,zz5,zz6,zz7,zz8,zz9,zza,zzb,zzc,zzd,zze,zzf,e0]
        refine hK _ ?_;clear hK K;try refine Wh0 ?_
        rcases htok with ⟨rfl,rfl⟩ | ⟨rfl,r39⟩
        · refine Yr1 (fa3 @e4 @b4 @hmd) ?_;intro K hK
          refine ⟨by (repeat' apply And.intro) <;> first | omega | (unfold maxLen;omega) | (intro _;omega) | decide,?_⟩
          refine hK _ ?_;clear hK K;try refine Wh0 ?_
          refine Yg1 @e26 ?_
          refine ⟨kk,by omega,[(⟨(u1.1 : Int),itoB u2.1⟩ : Piece)],u2.2,.row 39,hst,by simp only [List.length_nil,List.length_singleton] at hlk ⊢;omega,g2,.inr ⟨rfl,Yq0⟩,(Yq1 @e0),(Yq1 @v0),(Yq1 (fa2 @rdL.eq_1 @bytesL'.eq_1)),(Yq1 @e2),(Yq1 (fa2 @b2 @zNode.eq_1)),(Yq1 @e4),(by first | exact rfl | assumption | (simp only [LZ,zo,zc,reduceCtorEq,reduceIte,zz1,zz2,zz3,zz4,zz5,zz6,zz7,zz8,zz9,zza,zzb,zzc,zzd,zze,zzf,b4,nodeC,List.flatMap_nil,List.flatMap_cons,pieceL] <;> exact rfl)),(Yq1 @e5),(Yq1 @e25),Yq0,(Yq1 @hmd)⟩
        · refine Yr1 (fa5 @e4 @b4 @hmd @r39 @hlen) ?_;intro K hK
          refine ⟨by (repeat' apply And.intro) <;> first | omega | (unfold maxLen;omega) | (intro _;omega) | decide,?_⟩
          refine hK _ ?_;clear hK K;try refine Wh0 ?_
          refine Yg1 (fa2 @e26 @hw) ?_
          refine ⟨kk,by omega,l ++ [(⟨(u1.1 : Int),itoB u2.1⟩ : Piece)],u2.2,.row 39,hst,by rw [List.length_append,List.length_singleton];omega,g2,.inr ⟨rfl,?_⟩,(Yq1 @e0),(Yq1 @v0),(Yq1 (fa2 @rdL.eq_1 @bytesL'.eq_1)),(Yq1 @e2),(Yq1 (fa2 @b2 @zNode.eq_1)),(Yq1 @e4),?_,(Yq1 @e5),(Yq1 @e25),?_,(Yq1 @hmd)⟩
          · rw [List.length_append,List.length_singleton];exact Yq0
          · rw [List.length_append,List.length_singleton];exact (by first | exact rfl | assumption | (simp only [LZ,zo,zc,reduceCtorEq,reduceIte,zz1,zz2,zz3,zz4,zz5,zz6,zz7,zz8,zz9,zza,zzb,zzc,zzd,zze,zzf,b4,nodeC,List.flatMap_append,List.flatMap_nil,List.flatMap_cons,pieceL] <;> exact rfl))
          · rw [List.length_append,List.length_singleton];exact (Yq1 @hw)
    clear e0 v0 b1000 e2 b2 e4 b4 e5 e25 e26 hmd st
    rintro st ⟨l,t,tok,hrep,ht,htok,e0,v0,b1000,e2,b2,e4,b4,e5,hmd⟩
    rw [hrep] at hR2
    simp only at hR2
    simp only [rdL,bytesL'] at b1000
    simp only [zNode] at b2
    simp only [nodeC] at b4
    by_cases h0 : l = []
    · have h0i : ¬ ((0 : Int) < (l.length : Int)) := by rw [h0];simp
      rw [if_pos h0] at hR2
      rcases htok with rfl | rfl
      all_goals
        refine Yg1 (fa2 @e4 @b4) ?_
        refine Yf1 @h0i ?_
        refine Yg1 (fa5 @e2 @b2 @e4 @b4 @e5) ?_
        refine LW_ret ?_;simp only [thenL,jumpsL,inBlockL,twoL,bodyS];refine ⟨[(1000,2000)],rfl,.inr ⟨_,_,_,rfl,rfl,(by first | exact rfl | assumption | (simp only [LZ,zo,zc,reduceCtorEq,reduceIte,zz1,zz2,zz3,zz4,zz5,zz6,zz7,zz8,zz9,zza,zzb,zzc,zzd,zze,zzf,e0,v0,e2,b1000,nodeL,piecesL,attrsL,acesL,rowL,rdL,bytesL'] <;> exact rfl)),(by first | exact rfl | assumption | (simp only [LZ,zo,zc,reduceCtorEq,reduceIte,zz1,zz2,zz3,zz4,zz5,zz6,zz7,zz8,zz9,zza,zzb,zzc,zzd,zze,zzf,e0,v0,e2,b1000,nodeL,piecesL,attrsL,acesL,rowL,rdL,bytesL'] <;> exact rfl))⟩,?_⟩;simp only [thenL,jumpsL,inBlockL,twoL,bodyQ,LV.lit.injEq,LV.tup.injEq,LV.agg.injEq,LV.sl.injEq,List.cons.injEq,Value.int.injEq,Value.bool.injEq,Value.string.injEq,ByteArray.mk.injEq,exists_eq_left',exists_eq_left,exists_eq_right,LZ,zo,zc,reduceCtorEq,reduceIte,zz1,zz2,zz3,zz4,zz5,zz6,zz7,zz8,zz9,zza,zzb,zzc,zzd,zze,zzf,e0,v0,e2,b1000,nodeL,piecesL,attrsL,acesL,rowL,rdL,bytesL']
        subst hR2;subst k2;subst h0
        (repeat' apply And.intro) <;> rfl
    · have h0i : ((0 : Int) < (l.length : Int)) = True := eq_true (by have := List.length_pos_iff.2 h0;omega)
      rw [if_neg h0] at hR2
      have d3 := number_S b hb t ht mxI
      simp only [rdL,bytesL',intL,hmx] at d3
      rcases htok with rfl | rfl
      all_goals
        refine Yg1 (fa2 @e4 @b4) ?_
        refine Yt1 @h0i ?_
        (repeat (first | refine LW_seq ?_ | (refine LW_skip ?_;simp only [LSj,reduceIte,zze]) | refine LW_block ?_));refine LW_regionO [(47,⟨_,_,_,_,_,[(1000,1000)],[(2000,1000)],_,[1001000],(d3).toS,rfl,rfl,rfl⟩)] ?_;intro K hK;simp only [LZ,zo,zc,reduceCtorEq,reduceIte,zz1,zz2,zz3,zz4,zz5,zz6,zz7,zz8,zz9,zza,zzb,zzc,zzd,zze,zzf,e0,b1000]
        refine hK _ ?_;clear hK K;try refine Wh0 ?_
        refine Yg1 (fa4 @e2 @b2 @e4 @b4) ?_
        refine LW_ret ?_;simp only [thenL,jumpsL,inBlockL,twoL,bodyS];refine ⟨[(1000,2000)],rfl,.inr ⟨_,_,_,rfl,rfl,(by first | exact rfl | assumption | (simp only [LZ,zo,zc,reduceCtorEq,reduceIte,zz1,zz2,zz3,zz4,zz5,zz6,zz7,zz8,zz9,zza,zzb,zzc,zzd,zze,zzf,e0,v0,e2,nodeL,piecesL,attrsL,acesL,rowL,rdL,bytesL'] <;> exact rfl)),(by first | exact rfl | assumption | (simp only [LZ,zo,zc,reduceCtorEq,reduceIte,zz1,zz2,zz3,zz4,zz5,zz6,zz7,zz8,zz9,zza,zzb,zzc,zzd,zze,zzf,e0,v0,e2,nodeL,piecesL,attrsL,acesL,rowL,rdL,bytesL'] <;> exact rfl))⟩,?_⟩;simp only [thenL,jumpsL,inBlockL,twoL,bodyQ,LV.lit.injEq,LV.tup.injEq,LV.agg.injEq,LV.sl.injEq,List.cons.injEq,Value.int.injEq,Value.bool.injEq,Value.string.injEq,ByteArray.mk.injEq,exists_eq_left',exists_eq_left,exists_eq_right,LZ,zo,zc,reduceCtorEq,reduceIte,zz1,zz2,zz3,zz4,zz5,zz6,zz7,zz8,zz9,zza,zzb,zzc,zzd,zze,zzf,e0,v0,e2,nodeL,piecesL,attrsL,acesL,rowL,rdL,bytesL']
        subst hR2;subst k2
        (repeat' apply And.intro) <;> rfl
  rw [if_neg k2] at hR
  have k2i : ¬ ((k : Int) = 2) := by omega
  by_cases k3 : k = 3
  · rw [if_pos k3] at hR
    have k3i : ((k : Int) = 3) = True := eq_true (by omega)
    have ct := text_S b hb s2 hm 200 (by omega)
    simp only [rdL,bytesL',intL,h200] at ct
    refine Yf1 (fa2 @e19 @k2i) ?_
    refine Yg1 (fa2 @e18 @k3i) ?_
    refine Yt0 ?_
    (repeat (first | refine LW_seq ?_ | (refine LW_skip ?_;simp only [LSj,reduceIte,zze]) | refine LW_block ?_));refine LW_regionO [(51,⟨_,_,_,_,_,[(1000,1000)],[(2000,1000)],_,[1001000],(ct).toS,rfl,rfl,rfl⟩)] ?_;intro K hK;simp only [LZ,zo,zc,reduceCtorEq,reduceIte,zz1,zz2,zz3,zz4,zz5,zz6,zz7,zz8,zz9,zza,zzb,zzc,zzd,zze,zzf,e0,b1000,e4,b4]
    refine hK _ ?_;clear hK K;try refine Wh0 ?_
    refine Yg1 (fa5 @e2 @b2 @e4 @b4 @e5) ?_
    refine LW_ret ?_;simp only [thenL,jumpsL,inBlockL,twoL,bodyS];refine ⟨[(1000,2000)],rfl,.inr ⟨_,_,_,rfl,rfl,(by first | exact rfl | assumption | (simp only [LZ,zo,zc,reduceCtorEq,reduceIte,zz1,zz2,zz3,zz4,zz5,zz6,zz7,zz8,zz9,zza,zzb,zzc,zzd,zze,zzf,e0,v0,e2,nodeL,piecesL,attrsL,acesL,rowL,rdL,bytesL'] <;> exact rfl)),(by first | exact rfl | assumption | (simp only [LZ,zo,zc,reduceCtorEq,reduceIte,zz1,zz2,zz3,zz4,zz5,zz6,zz7,zz8,zz9,zza,zzb,zzc,zzd,zze,zzf,e0,v0,e2,nodeL,piecesL,attrsL,acesL,rowL,rdL,bytesL'] <;> exact rfl))⟩,?_⟩;simp only [thenL,jumpsL,inBlockL,twoL,bodyQ,LV.lit.injEq,LV.tup.injEq,LV.agg.injEq,LV.sl.injEq,List.cons.injEq,Value.int.injEq,Value.bool.injEq,Value.string.injEq,ByteArray.mk.injEq,exists_eq_left',exists_eq_left,exists_eq_right,LZ,zo,zc,reduceCtorEq,reduceIte,zz1,zz2,zz3,zz4,zz5,zz6,zz7,zz8,zz9,zza,zzb,zzc,zzd,zze,zzf,e0,v0,e2,nodeL,piecesL,attrsL,acesL,rowL,rdL,bytesL']
    subst hR
    (repeat' apply And.intro) <;> rfl
  rw [if_neg k3] at hR
  have k3i : ¬ ((k : Int) = 3) := by omega
  by_cases k45 : k = 4 ∨ k = 5
  · rw [if_pos k45] at hR
    have cn1 := number_S b hb s2 hm mxI
    have hn1 := rNum_pos (most := mxI) hm
    have cn2 := number_S b hb (rNum b mxI s2).2 hn1 mxI
    simp only [rdL,bytesL',intL,hmx] at cn1 cn2
    refine Yf1 (fa2 @e19 @k2i) ?_
    refine Yg1 (fa2 @e18 @k3i) ?_
    refine Yf0 ?_
    by_cases k4 : k = 4
    · have k4i : ((k : Int) = 4) = True := eq_true (by omega)
      refine Yg1 (fa2 @e18 @k4i) ?_
      refine Yt0 ?_
      refine Yg0 ?_
      refine Yt0 ?_
      (repeat (first | refine LW_seq ?_ | (refine LW_skip ?_;simp only [LSj,reduceIte,zze]) | refine LW_block ?_));refine LW_regionO [(57,⟨_,_,_,_,_,[(1000,1000)],[(2000,1000)],_,[1001000],(cn1).toS,rfl,rfl,rfl⟩),(59,⟨_,_,_,_,_,[(1000,1000)],[(2000,1000)],_,[1001000],(cn2).toS,rfl,rfl,rfl⟩)] ?_;intro K hK;simp only [LZ,zo,zc,reduceCtorEq,reduceIte,zz1,zz2,zz3,zz4,zz5,zz6,zz7,zz8,zz9,zza,zzb,zzc,zzd,zze,zzf,e0,b1000,e4,b4]
      refine hK _ ?_;clear hK K;try refine Wh0 ?_
      refine Yg1 (fa5 @e2 @b2 @e4 @b4 @e5) ?_
      refine LW_ret ?_;simp only [thenL,jumpsL,inBlockL,twoL,bodyS];refine ⟨[(1000,2000)],rfl,.inr ⟨_,_,_,rfl,rfl,(by first | exact rfl | assumption | (simp only [LZ,zo,zc,reduceCtorEq,reduceIte,zz1,zz2,zz3,zz4,zz5,zz6,zz7,zz8,zz9,zza,zzb,zzc,zzd,zze,zzf,e0,v0,e2,nodeL,piecesL,attrsL,acesL,rowL,rdL,bytesL'] <;> exact rfl)),(by first | exact rfl | assumption | (simp only [LZ,zo,zc,reduceCtorEq,reduceIte,zz1,zz2,zz3,zz4,zz5,zz6,zz7,zz8,zz9,zza,zzb,zzc,zzd,zze,zzf,e0,v0,e2,nodeL,piecesL,attrsL,acesL,rowL,rdL,bytesL'] <;> exact rfl))⟩,?_⟩;simp only [thenL,jumpsL,inBlockL,twoL,bodyQ,LV.lit.injEq,LV.tup.injEq,LV.agg.injEq,LV.sl.injEq,List.cons.injEq,Value.int.injEq,Value.bool.injEq,Value.string.injEq,ByteArray.mk.injEq,exists_eq_left',exists_eq_left,exists_eq_right,LZ,zo,zc,reduceCtorEq,reduceIte,zz1,zz2,zz3,zz4,zz5,zz6,zz7,zz8,zz9,zza,zzb,zzc,zzd,zze,zzf,e0,v0,e2,nodeL,piecesL,attrsL,acesL,rowL,rdL,bytesL']
      subst hR
      (repeat' apply And.intro) <;> rfl
    · have k4i : ¬ ((k : Int) = 4) := by omega
      have k5i : ((k : Int) = 5) = True := eq_true (by omega)
      refine Yg1 (fa2 @e18 @k4i) ?_
      refine Yf0 ?_
      refine Yg1 (fa2 @e18 @k5i) ?_
      refine Yt0 ?_
      (repeat (first | refine LW_seq ?_ | (refine LW_skip ?_;simp only [LSj,reduceIte,zze]) | refine LW_block ?_));refine LW_regionO [(57,⟨_,_,_,_,_,[(1000,1000)],[(2000,1000)],_,[1001000],(cn1).toS,rfl,rfl,rfl⟩),(59,⟨_,_,_,_,_,[(1000,1000)],[(2000,1000)],_,[1001000],(cn2).toS,rfl,rfl,rfl⟩)] ?_;intro K hK;simp only [LZ,zo,zc,reduceCtorEq,reduceIte,zz1,zz2,zz3,zz4,zz5,zz6,zz7,zz8,zz9,zza,zzb,zzc,zzd,zze,zzf,e0,b1000,e4,b4]
      refine hK _ ?_;clear hK K;try refine Wh0 ?_
      refine Yg1 (fa5 @e2 @b2 @e4 @b4 @e5) ?_
      refine LW_ret ?_;simp only [thenL,jumpsL,inBlockL,twoL,bodyS];refine ⟨[(1000,2000)],rfl,.inr ⟨_,_,_,rfl,rfl,(by first | exact rfl | assumption | (simp only [LZ,zo,zc,reduceCtorEq,reduceIte,zz1,zz2,zz3,zz4,zz5,zz6,zz7,zz8,zz9,zza,zzb,zzc,zzd,zze,zzf,e0,v0,e2,nodeL,piecesL,attrsL,acesL,rowL,rdL,bytesL'] <;> exact rfl)),(by first | exact rfl | assumption | (simp only [LZ,zo,zc,reduceCtorEq,reduceIte,zz1,zz2,zz3,zz4,zz5,zz6,zz7,zz8,zz9,zza,zzb,zzc,zzd,zze,zzf,e0,v0,e2,nodeL,piecesL,attrsL,acesL,rowL,rdL,bytesL'] <;> exact rfl))⟩,?_⟩;simp only [thenL,jumpsL,inBlockL,twoL,bodyQ,LV.lit.injEq,LV.tup.injEq,LV.agg.injEq,LV.sl.injEq,List.cons.injEq,Value.int.injEq,Value.bool.injEq,Value.string.injEq,ByteArray.mk.injEq,exists_eq_left',exists_eq_left,exists_eq_right,LZ,zo,zc,reduceCtorEq,reduceIte,zz1,zz2,zz3,zz4,zz5,zz6,zz7,zz8,zz9,zza,zzb,zzc,zzd,zze,zzf,e0,v0,e2,nodeL,piecesL,attrsL,acesL,rowL,rdL,bytesL']
      subst hR
      (repeat' apply And.intro) <;> rfl
  rw [if_neg k45] at hR
  have k4i : ¬ ((k : Int) = 4) := by omega
  have k5i : ¬ ((k : Int) = 5) := by omega
  refine Yf1 (fa2 @e19 @k2i) ?_
  refine Yg1 (fa2 @e18 @k3i) ?_
  refine Yf0 ?_
  refine Yg1 (fa2 @e18 @k4i) ?_
  refine Yf0 ?_
  refine Yg1 (fa2 @e18 @k5i) ?_
  refine Yf0 ?_
  refine Yg1 (fa5 @e2 @b2 @e4 @b4 @e5) ?_
  refine LW_ret ?_;simp only [thenL,jumpsL,inBlockL,twoL,bodyS];refine ⟨[(1000,2000)],rfl,.inr ⟨_,_,_,rfl,rfl,(by first | exact rfl | assumption | (simp only [LZ,zo,zc,reduceCtorEq,reduceIte,zz1,zz2,zz3,zz4,zz5,zz6,zz7,zz8,zz9,zza,zzb,zzc,zzd,zze,zzf,e0,v0,e2,nodeL,piecesL,attrsL,acesL,rowL,rdL,bytesL',b1000] <;> exact rfl)),(by first | exact rfl | assumption | (simp only [LZ,zo,zc,reduceCtorEq,reduceIte,zz1,zz2,zz3,zz4,zz5,zz6,zz7,zz8,zz9,zza,zzb,zzc,zzd,zze,zzf,e0,v0,e2,nodeL,piecesL,attrsL,acesL,rowL,rdL,bytesL',b1000] <;> exact rfl))⟩,?_⟩;simp only [thenL,jumpsL,inBlockL,twoL,bodyQ,LV.lit.injEq,LV.tup.injEq,LV.agg.injEq,LV.sl.injEq,List.cons.injEq,Value.int.injEq,Value.bool.injEq,Value.string.injEq,ByteArray.mk.injEq,exists_eq_left',exists_eq_left,exists_eq_right,LZ,zo,zc,reduceCtorEq,reduceIte,zz1,zz2,zz3,zz4,zz5,zz6,zz7,zz8,zz9,zza,zzb,zzc,zzd,zze,zzf,e0,v0,e2,nodeL,piecesL,attrsL,acesL,rowL,rdL,bytesL',b1000]
  subst hR
  (repeat' apply And.intro) <;> rfl
end Go.Proofs.YteamlijbkldlhaaDoor
end
section
set_option linter.unusedSimpArgs false
set_option linter.unusedVariables false
namespace Go.Proofs.YteamlijbkldlhaaDoor
open Nat renaming reduceAdd → zz1,reduceMul → zz2,reduceSub → zz3,reduceLT → zz4,reduceLeDiff → zz5,reduceEqDiff → zz6,reduceBEq → zzf
open Int renaming reduceAdd → zz7,reduceSub → zz8,reduceMul → zz9,reduceLT → zza,reduceLE → zzb,reduceEq → zzc,reduceNeg → zzd,reduceToNat → zze
open Op renaming operands → zo
open Call renaming operands → zc
open Go.RowKit Go.Proofs AclSpec MetaSpec NodeSpec RecSpec PathSpec

theorem rRep_len {α : Type} (f : Rdr α) : ∀ (k : Nat) (s : Rd),(rRep f k s).1.length = k
  | 0,_ => rfl
  | k + 1,s => by rw [rRep_succ,List.length_cons,rRep_len f k]
theorem rRep_all {α : Type} {f : Rdr α} {P : α → Prop} (h : ∀ s,P (f s).1) : ∀ (k : Nat) (s : Rd),∀ a ∈ (rRep f k s).1,P a
  | 0,_,a,ha => by cases ha
  | k + 1,s,a,ha => by
    rw [rRep_succ] at ha
    rcases List.mem_cons.1 ha with rfl | ha
    · exact h s
    · exact rRep_all h k _ a ha
theorem rPc_len (b : List UInt8) (s : Rd) : (rPc b s).1.dat.length ≤ 1000000 := by
  have h := ito_len 3 (rNum b 4000 (rLong b s).2).1 (by have := rNum_le (b := b) (most := 4000) (s := (rLong b s).2);omega)
  exact Nat.le_trans h (by omega)
theorem bindR_all {α β : Type} {f : Rdr α} {g : α → Rdr β} {P : β → Prop} (h : ∀ a t,P (g a t).1) (s : Rd) : P (bindR f g s).1 := h _ _
theorem bindR_two {α β : Type} {f : Rdr α} {g : α → Rdr β} {P : α → Prop} {Q : β → Prop} (hf : ∀ s,P (f s).1) (h : ∀ a,P a → ∀ t,Q (g a t).1) (s : Rd) : Q (bindR f g s).1 := h _ (hf s) _
theorem rMeta_small (b : List UInt8) (s : Rd) : (rMeta b s).1.attrs.length ≤ 8 ∧ (rMeta b s).1.acl.length ≤ 16 := by
  unfold rMeta
  refine bindR_all (P := fun m : FMeta => m.attrs.length ≤ 8 ∧ m.acl.length ≤ 16) (fun mo t => ?_) s
  refine bindR_all (P := fun m : FMeta => m.attrs.length ≤ 8 ∧ m.acl.length ≤ 16) (fun u t => ?_) t
  refine bindR_all (P := fun m : FMeta => m.attrs.length ≤ 8 ∧ m.acl.length ≤ 16) (fun g t => ?_) t
  refine bindR_all (P := fun m : FMeta => m.attrs.length ≤ 8 ∧ m.acl.length ≤ 16) (fun ti t => ?_) t
  refine bindR_two (P := fun n : Nat => n ≤ 8) (Q := fun m : FMeta => m.attrs.length ≤ 8 ∧ m.acl.length ≤ 16) (fun s => rNum_le) (fun na hna t => ?_) t
  refine bindR_two (P := fun l : List Attr => l.length ≤ 8) (Q := fun m : FMeta => m.attrs.length ≤ 8 ∧ m.acl.length ≤ 16) (fun s => by rw [rRep_len];exact hna) (fun ats ha t => ?_) t
  refine bindR_two (P := fun n : Nat => n ≤ 16) (Q := fun m : FMeta => m.attrs.length ≤ 8 ∧ m.acl.length ≤ 16) (fun s => rNum_le) (fun nc hnc t => ?_) t
  refine bindR_two (P := fun l : List Ace => l.length ≤ 16) (Q := fun m : FMeta => m.attrs.length ≤ 8 ∧ m.acl.length ≤ 16) (fun s => by rw [rRep_len];exact hnc) (fun acs hac t => ?_) t
  exact ⟨ha,hac⟩
theorem rNode_small (b : List UInt8) (s : Rd) : small (rNode b s).1.1 := by
  have ht : ∀ (c : Prop) [Decidable c] (f g : Rdr (FNode × Int)) (t : Rd),(if c then f else g) t = if c then f t else g t := by
    intro c _ f g t
    by_cases h : c
    · rw [if_pos h,if_pos h]
    · rw [if_neg h,if_neg h]
  have hz : small zeroN := ⟨by decide,by decide,by decide,fun p hp => by cases hp⟩
  have hR : rNode b s = if (rKind b s).1 = 0 then ((zeroN,0),(rKind b s).2) else rBody b (rKind b s).1 (rMeta b (rKind b s).2).1 (rMeta b (rKind b s).2).2 := ht _ _ _ _
  rw [hR]
  split
  · exact hz
  obtain ⟨h1,h2⟩ := rMeta_small b (rKind b s).2
  generalize rMeta b (rKind b s).2 = q at *
  obtain ⟨m,t⟩ := q
  simp only at h1 h2 ⊢
  have hm : ∀ (k sz : Int) (tg : List UInt8) (x y : Int),small ⟨k,m,sz,[],tg,x,y⟩ := fun k sz tg x y => ⟨by show m.attrs.length ≤ _;omega,by show m.acl.length ≤ _;omega,Nat.zero_le _,fun p hp => by cases hp⟩
  unfold rBody
  rw [ht,ht,ht]
  split
  · have hF : rFile b m t = if (rRep (rPc b) (rNum b 16 (rLong b t).2).1 (rNum b 16 (rLong b t).2).2).1 = [] then ((⟨2,m,((rLong b t).1 : Int),[],[],0,0⟩,0),(rRep (rPc b) (rNum b 16 (rLong b t).2).1 (rNum b 16 (rLong b t).2).2).2)
        else ((⟨2,m,((rLong b t).1 : Int),(rRep (rPc b) (rNum b 16 (rLong b t).2).1 (rNum b 16 (rLong b t).2).2).1,[],0,0⟩,((rNum b mxI (rRep (rPc b) (rNum b 16 (rLong b t).2).1 (rNum b 16 (rLong b t).2).2).2).1 : Int)),(rNum b mxI (rRep (rPc b) (rNum b 16 (rLong b t).2).1 (rNum b 16 (rLong b t).2).2).2).2) := ht _ _ _ _
    rw [hF]
    split
    · exact hm _ _ _ _ _
    · refine ⟨by show m.attrs.length ≤ _;omega,by show m.acl.length ≤ _;omega,?_,?_⟩
      · show (rRep (rPc b) _ _).1.length ≤ _
        rw [rRep_len]
        have := rNum_le (b := b) (most := 16) (s := (rLong b t).2)
        omega
      · exact rRep_all (P := fun p : Piece => p.dat.length ≤ 1000000) (rPc_len b) _ _
  · split
    · exact hm _ _ _ _ _
    · split
      · exact hm _ _ _ _ _
      · exact hm _ _ _ _ _
set_option maxRecDepth 100000 in
set_option maxHeartbeats 8000000 in
theorem rget_O (b : List UInt8) (hb : b.length ≤ 1000000) (i : Int) :
    OCalls Tryd.prog 9 [bytesL' b,intL i] ⟨[],[],[]⟩ (.tup [.agg (recL (getRec b i).1),intL (getRec b i).2.1,intL (getRec b i).2.2]) ⟨[],[],[]⟩ := by
  refine OCalls.of (fun _ => false) Tryd.func9 rfl (by decide) Tryd.ntmps9 Tryd.results9 (by simp) ?_
  intro w0 S0 vs
  generalize hR : getRec b i = R
  unfold getRec at hR
  refine Yg0 ?_
  by_cases h1 : i < 0
  · rw [if_pos (.inl h1)] at hR
    subst hR
    refine Yg1 (fa2 @bytesL'.eq_1 @h1) ?_
    refine Yt0 ?_
    refine Yg0 ?_
    refine LW_ret ?_;simp only [thenL,jumpsL,inBlockL,twoL,bodyO];refine ⟨[],rfl,?_⟩;simp only [thenL,jumpsL,inBlockL,twoL,bodyQ,LV.lit.injEq,LV.tup.injEq,LV.agg.injEq,LV.sl.injEq,List.cons.injEq,Value.int.injEq,Value.bool.injEq,Value.string.injEq,ByteArray.mk.injEq,exists_eq_left',exists_eq_left,exists_eq_right,LZ,zo,zc,reduceCtorEq,reduceIte,zz1,zz2,zz3,zz4,zz5,zz6,zz7,zz8,zz9,zza,zzb,zzc,zzd,zze,zzf,recL,nodeL,piecesL,attrsL,acesL,rowL,zeroRec,zeroN]
    exact ⟨rfl,rfl,rfl⟩
  by_cases h2 : (b.length : Int) < i
  · rw [if_pos (.inr h2)] at hR
    subst hR
    refine Yg1 (fa3 @bytesL'.eq_1 @h1 @h2) ?_
    refine Yt0 ?_
    refine Yg0 ?_
    refine LW_ret ?_;simp only [thenL,jumpsL,inBlockL,twoL,bodyO];refine ⟨[],rfl,?_⟩;simp only [thenL,jumpsL,inBlockL,twoL,bodyQ,LV.lit.injEq,LV.tup.injEq,LV.agg.injEq,LV.sl.injEq,List.cons.injEq,Value.int.injEq,Value.bool.injEq,Value.string.injEq,ByteArray.mk.injEq,exists_eq_left',exists_eq_left,exists_eq_right,LZ,zo,zc,reduceCtorEq,reduceIte,zz1,zz2,zz3,zz4,zz5,zz6,zz7,zz8,zz9,zza,zzb,zzc,zzd,zze,zzf,recL,nodeL,piecesL,attrsL,acesL,rowL,zeroRec,zeroN]
    exact ⟨rfl,rfl,rfl⟩
  rw [if_neg (by rintro (c | c);exact h1 c;exact h2 c)] at hR
  obtain ⟨n,rfl⟩ : ∃ n : Nat,i = n := ⟨i.toNat,by omega⟩
  rw [Int.toNat_natCast] at hR
  have hn : n ≤ b.length := by omega
  have ct := text_S b hb ⟨n,false⟩ hn 100 (by omega)
  have g1 := rText_pos (b := b) (most := 100) (by decide) (s := ⟨n,false⟩) hn
  have l1 := rText_le (b := b) (most := 100) (s := ⟨n,false⟩) hn
  have hmx : ((mxI : Nat) : Int) = 9223372036854775807 := rfl
  have h100 : ((100 : Nat) : Int) = 100 := rfl
  have hrr : rRec b ⟨n,false⟩ = (⟨(rText b 100 ⟨n,false⟩).1,((rNum b mxI (rText b 100 ⟨n,false⟩).2).1 : Int),(rNode b (rNum b mxI (rText b 100 ⟨n,false⟩).2).2).1.1,(rNode b (rNum b mxI (rText b 100 ⟨n,false⟩).2).2).1.2⟩,(rNode b (rNum b mxI (rText b 100 ⟨n,false⟩).2).2).2) := rfl
  rw [hrr] at hR
  simp only [rdL,bytesL',intL,h100] at ct
  generalize rText b 100 ⟨n,false⟩ = q1 at *
  have cn := number_S b hb q1.2 g1 mxI
  have g2 := rNum_pos (most := mxI) g1
  generalize rNum b mxI q1.2 = q2 at *
  have cd := node_S b hb q2.2 g2
  have hsm := rNode_small b q2.2
  generalize rNode b q2.2 = q3 at *
  obtain ⟨⟨nd,pos⟩,t⟩ := q3
  simp only at hR hsm cd
  simp only [rdL,bytesL',intL,hmx] at cn
  simp only [rdL,bytesL',nodeL,piecesL,attrsL,acesL,rowL,intL] at cd
  have cy := recmay_L ⟨q1.1,q2.1,nd,pos⟩ (by show q1.1.length < _;omega) hsm
  simp only [recL,nodeL,attrsL,acesL,piecesL,rowL,List.cons_append,List.nil_append] at cy
  refine Yg1 (fa3 @bytesL'.eq_1 @h1 @h2) ?_
  refine Yf0 ?_
  refine Yg1 @bytesL'.eq_1 ?_
  (repeat (first | refine LW_seq ?_ | (refine LW_skip ?_;simp only [LSj,reduceIte,zze]) | refine LW_block ?_));refine LW_regionO [(22,⟨_,_,_,_,_,[(7,1000)],[(2000,7)],_,[1000007],(ct).toS,rfl,rfl,rfl⟩),(23,⟨_,_,_,_,_,[(7,1000)],[(2000,7)],_,[1000007],(cn).toS,rfl,rfl,rfl⟩)] ?_;intro K hK;simp only [LZ,zo,zc,reduceCtorEq,reduceIte,zz1,zz2,zz3,zz4,zz5,zz6,zz7,zz8,zz9,zza,zzb,zzc,zzd,zze,zzf,bytesL']
  refine hK _ ?_;clear hK K;try refine Wh0 ?_
  (repeat (first | refine LW_seq ?_ | (refine LW_skip ?_;simp only [LSj,reduceIte,zze]) | refine LW_block ?_));refine LW_regionO [(26,⟨_,_,_,_,_,[(7,1000)],[(2000,7)],_,[1000007],(cd).toS,rfl,rfl,rfl⟩)] ?_;intro K hK;simp only [LZ,zo,zc,reduceCtorEq,reduceIte,zz1,zz2,zz3,zz4,zz5,zz6,zz7,zz8,zz9,zza,zzb,zzc,zzd,zze,zzf]
  refine hK _ ?_;clear hK K;try refine Wh0 ?_
  refine LW_slim (fun st => st.env 1 = intL n ∧ st.env 4 = .ptr 4 0 ∧ st.box 4 = some [strL [],intL 0,intL 0,intL 0,intL 0,intL 0,intL 0,.sl 0 [] .nil,.sl 0 [] .nil,intL 0,.sl 0 [] .nil,strL [],intL 0,intL 0,intL 0] ∧ st.env 7 = .ptr 7 0 ∧ st.box 7 = some (rdL b t) ∧ st.env 8 = .ptr 8 0 ∧ st.box 8 = some (recL ⟨q1.1,q2.1,nd,pos⟩) ∧ st.mode = fun _ => false) ⟨Yq0,Yq0,Yq0,Yq0,(Yq1 (fa2 @rdL.eq_1 @bytesL'.eq_1)),Yq0,(Yq1 (fa6 @recL.eq_1 @nodeL.eq_1 @piecesL.eq_1 @attrsL.eq_1 @acesL.eq_1 @rowL.eq_1)),Yq0⟩ ?_
  rintro st ⟨e1,e4,b4,e7,b7,e8,b8,hmd⟩
  simp only [rdL,bytesL'] at b7
  simp only [recL,nodeL,attrsL,acesL,piecesL,rowL,List.cons_append,List.nil_append] at b8
  by_cases hbad : t.bad = true
  · rw [if_pos (.inl hbad)] at hR
    subst hR
    refine Yr1 (fa3 @e7 @b7 @hbad) ?_;intro K hK
    refine hK _ ?_;clear hK K;try refine Wh0 ?_
    refine Yt0 ?_
    refine Yg1 (fa3 @e1 @e4 @b4) ?_
    refine LW_ret ?_;simp only [thenL,jumpsL,inBlockL,twoL,bodyO];refine ⟨[],rfl,?_⟩;simp only [thenL,jumpsL,inBlockL,twoL,bodyQ,LV.lit.injEq,LV.tup.injEq,LV.agg.injEq,LV.sl.injEq,List.cons.injEq,Value.int.injEq,Value.bool.injEq,Value.string.injEq,ByteArray.mk.injEq,exists_eq_left',exists_eq_left,exists_eq_right,LZ,zo,zc,reduceCtorEq,reduceIte,zz1,zz2,zz3,zz4,zz5,zz6,zz7,zz8,zz9,zza,zzb,zzc,zzd,zze,zzf,recL,nodeL,piecesL,attrsL,acesL,rowL,zeroRec,zeroN,e4]
    exact ⟨rfl,rfl,rfl⟩
  cases hm : mayRec ⟨q1.1,q2.1,nd,pos⟩
  · rw [if_pos (.inr hm)] at hR
    subst hR
    rw [hm] at cy
    refine Yr1 (fa5 @e7 @b7 @hbad @e8 @b8) ?_;intro K hK
    refine Yc1 (cy) (fa5 @e7 @b7 @hbad @e8 @b8) ?_
    refine hK _ ?_;clear hK K;try refine Wh0 ?_
    refine Yt0 ?_
    refine Yg1 (fa3 @e1 @e4 @b4) ?_
    refine LW_ret ?_;simp only [thenL,jumpsL,inBlockL,twoL,bodyO];refine ⟨[],rfl,?_⟩;simp only [thenL,jumpsL,inBlockL,twoL,bodyQ,LV.lit.injEq,LV.tup.injEq,LV.agg.injEq,LV.sl.injEq,List.cons.injEq,Value.int.injEq,Value.bool.injEq,Value.string.injEq,ByteArray.mk.injEq,exists_eq_left',exists_eq_left,exists_eq_right,LZ,zo,zc,reduceCtorEq,reduceIte,zz1,zz2,zz3,zz4,zz5,zz6,zz7,zz8,zz9,zza,zzb,zzc,zzd,zze,zzf,recL,nodeL,piecesL,attrsL,acesL,rowL,zeroRec,zeroN,e4]
    exact ⟨rfl,rfl,rfl⟩
  · rw [if_neg (by rintro (c | c);exact hbad c;rw [hm] at c;cases c)] at hR
    subst hR
    rw [hm] at cy
    refine Yr1 (fa5 @e7 @b7 @hbad @e8 @b8) ?_;intro K hK
    refine Yc1 (cy) (fa5 @e7 @b7 @hbad @e8 @b8) ?_
    refine hK _ ?_;clear hK K;try refine Wh0 ?_
    refine Yf0 ?_
    (repeat (first | refine LW_seq ?_ | (refine LW_skip ?_;simp only [LSj,reduceIte,zze]) | refine LW_block ?_));refine LW_mix2 [] [] (fun _ => false) [(0,[8]),(1,[7]),(2,[7]),(3,[7])] [0,1,2] [[3,4,5]] rfl (by kernel_rfl) (by kernel_rfl) (by kernel_rfl) (by first | exact rfl | exact hmd | simp only [LZ,zo,zc,reduceCtorEq,reduceIte,zz1,zz2,zz3,zz4,zz5,zz6,zz7,zz8,zz9,zza,zzb,zzc,zzd,zze,zzf,e4,b4,e7,b7,e8,b8,hmd]) ?_;intro K hK;simp only [LZ,zo,zc,reduceCtorEq,reduceIte,zz1,zz2,zz3,zz4,zz5,zz6,zz7,zz8,zz9,zza,zzb,zzc,zzd,zze,zzf,e4,b4,e7,b7,e8,b8,hmd]
    refine hK _ ?_;clear hK K;try refine Wh0 ?_
    refine LW_ret ?_;simp only [thenL,jumpsL,inBlockL,twoL,bodyO];refine ⟨[],rfl,?_⟩;simp only [thenL,jumpsL,inBlockL,twoL,bodyQ,LV.lit.injEq,LV.tup.injEq,LV.agg.injEq,LV.sl.injEq,List.cons.injEq,Value.int.injEq,Value.bool.injEq,Value.string.injEq,ByteArray.mk.injEq,exists_eq_left',exists_eq_left,exists_eq_right,LZ,zo,zc,reduceCtorEq,reduceIte,zz1,zz2,zz3,zz4,zz5,zz6,zz7,zz8,zz9,zza,zzb,zzc,zzd,zze,zzf,recL,nodeL,piecesL,attrsL,acesL,rowL,e4]
theorem rget_L (b : List UInt8) (hb : b.length ≤ 1000000) (i : Int) : LCalls Tryd.prog 9 [bytesL' b,intL i] (.tup [.agg (recL (getRec b i).1),intL (getRec b i).2.1,intL (getRec b i).2.2]) := (rget_O b hb i).toL
end Go.Proofs.YteamlijbkldlhaaDoor
end
