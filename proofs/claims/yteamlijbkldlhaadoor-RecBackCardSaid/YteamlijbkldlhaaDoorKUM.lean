import Derived.Test.YteamlijbkldlhaaDoorKUL
set_option linter.unusedSimpArgs false
set_option linter.unusedVariables false
namespace Go.Proofs.YteamlijbkldlhaaDoor
open Nat renaming reduceAdd → zz1,reduceMul → zz2,reduceSub → zz3,reduceLT → zz4,reduceLeDiff → zz5,reduceEqDiff → zz6,reduceBEq → zzf
open Int renaming reduceAdd → zz7,reduceSub → zz8,reduceMul → zz9,reduceLT → zza,reduceLE → zzb,reduceEq → zzc,reduceNeg → zzd,reduceToNat → zze
open Op renaming operands → zo
open Call renaming operands → zc
open Go.RowKit Go.Proofs AclSpec MetaSpec NodeSpec RecSpec PathSpec

def recW (r : Rec) (a c p : Tok) : List LV := strL r.path :: intL r.lead :: (nodeW r.node a c p ++ [intL r.pos])
set_option maxRecDepth 100000 in
set_option maxHeartbeats 8000000 in
theorem rgetR_O (b : List UInt8) (hb : b.length ≤ 1000000) (i : Int) :
    OCalls Tryd.prog 9 [bytesL' b,intL i] ⟨[],[],[]⟩ (.tup [.agg (recW (getRec b i).1 (.row 2001) (.row 2002) (.row 2003)),intL (getRec b i).2.1,intL (getRec b i).2.2]) ⟨[(2001,(53,(getRec b i).1.node.mt.attrs.length)),(2002,(55,(getRec b i).1.node.mt.acl.length)),(2003,(48,(getRec b i).1.node.dat.length))],[],[]⟩ := by
  refine OCalls.of (fun _ => false) Tryd.func9 rfl (by decide) Tryd.ntmps9 Tryd.results9 (by simp) ?_
  intro w0 S0 vs
  generalize hR : getRec b i = R
  unfold getRec at hR
  refine Yg0 ?_
  by_cases h1 : i < 0
  · rw [if_pos (.inl h1)] at hR
    subst hR
    refine Yg1 (fa2 @bytesL'.eq_1 @h1) ?_
    refine Yt0 ?_
    refine Yg0 ?_
    refine LW_nilBox (cs := [strL [],intL 0,intL 0,intL 0,intL 0,intL 0,intL 0,.sl 0 [] .nil,.sl 0 [] .nil,intL 0,.sl 0 [] .nil,strL [],intL 0,intL 0,intL 0]) 4 7 1004 53 Yq0 rfl ?_
    refine LW_nilBox (cs := [strL [],intL 0,intL 0,intL 0,intL 0,intL 0,intL 0,.sl 0 [] (.row 1004),.sl 0 [] .nil,intL 0,.sl 0 [] .nil,strL [],intL 0,intL 0,intL 0]) 4 8 1005 55 Yq0 rfl ?_
    refine LW_nilBox (cs := [strL [],intL 0,intL 0,intL 0,intL 0,intL 0,intL 0,.sl 0 [] (.row 1004),.sl 0 [] (.row 1005),intL 0,.sl 0 [] .nil,strL [],intL 0,intL 0,intL 0]) 4 10 1006 48 Yq0 rfl ?_
    refine LW_ret ?_;simp only [thenL,jumpsL,inBlockL,twoL,bodyO];refine ⟨[(1004,2001),(1005,2002),(1006,2003)],rfl,?_⟩;simp only [thenL,jumpsL,inBlockL,twoL,bodyQ,LV.lit.injEq,LV.tup.injEq,LV.agg.injEq,LV.sl.injEq,List.cons.injEq,Value.int.injEq,Value.bool.injEq,Value.string.injEq,ByteArray.mk.injEq,exists_eq_left',exists_eq_left,exists_eq_right,LZ,zo,zc,reduceCtorEq,reduceIte,zz1,zz2,zz3,zz4,zz5,zz6,zz7,zz8,zz9,zza,zzb,zzc,zzd,zze,zzf,recW,nodeW,nodeL,piecesL,attrsL,acesL,rowL,zeroRec,zeroN,List.flatMap_nil,List.length_nil,List.set_cons_zero,List.set_cons_succ]
  by_cases h2 : (b.length : Int) < i
  · rw [if_pos (.inr h2)] at hR
    subst hR
    refine Yg1 (fa3 @bytesL'.eq_1 @h1 @h2) ?_
    refine Yt0 ?_
    refine Yg0 ?_
    refine LW_nilBox (cs := [strL [],intL 0,intL 0,intL 0,intL 0,intL 0,intL 0,.sl 0 [] .nil,.sl 0 [] .nil,intL 0,.sl 0 [] .nil,strL [],intL 0,intL 0,intL 0]) 4 7 1004 53 Yq0 rfl ?_
    refine LW_nilBox (cs := [strL [],intL 0,intL 0,intL 0,intL 0,intL 0,intL 0,.sl 0 [] (.row 1004),.sl 0 [] .nil,intL 0,.sl 0 [] .nil,strL [],intL 0,intL 0,intL 0]) 4 8 1005 55 Yq0 rfl ?_
    refine LW_nilBox (cs := [strL [],intL 0,intL 0,intL 0,intL 0,intL 0,intL 0,.sl 0 [] (.row 1004),.sl 0 [] (.row 1005),intL 0,.sl 0 [] .nil,strL [],intL 0,intL 0,intL 0]) 4 10 1006 48 Yq0 rfl ?_
    refine LW_ret ?_;simp only [thenL,jumpsL,inBlockL,twoL,bodyO];refine ⟨[(1004,2001),(1005,2002),(1006,2003)],rfl,?_⟩;simp only [thenL,jumpsL,inBlockL,twoL,bodyQ,LV.lit.injEq,LV.tup.injEq,LV.agg.injEq,LV.sl.injEq,List.cons.injEq,Value.int.injEq,Value.bool.injEq,Value.string.injEq,ByteArray.mk.injEq,exists_eq_left',exists_eq_left,exists_eq_right,LZ,zo,zc,reduceCtorEq,reduceIte,zz1,zz2,zz3,zz4,zz5,zz6,zz7,zz8,zz9,zza,zzb,zzc,zzd,zze,zzf,recW,nodeW,nodeL,piecesL,attrsL,acesL,rowL,zeroRec,zeroN,List.flatMap_nil,List.length_nil,List.set_cons_zero,List.set_cons_succ]
  rw [if_neg (by rintro (c | c);exact h1 c;exact h2 c)] at hR
  obtain ⟨n,rfl⟩ : ∃ n : Nat,i = n := ⟨i.toNat,by omega⟩
  rw [Int.toNat_natCast] at hR
  have hn : n ≤ b.length := by omega
  have ct := text_S b hb ⟨n,false⟩ hn 100 (by omega)
  have g1 := rText_pos (b := b) (most := 100) (by decide) (s := ⟨n,false⟩) hn
  have l1 := rText_le (b := b) (most := 100) (s := ⟨n,false⟩) hn
  have hmx : ((mxI : Nat) : Int) = 9223372036854775807 := rfl
  have h100 : ((100 : Nat) : Int) = 100 := rfl
  have hrr : rRec b ⟨n,false⟩ = (⟨(rText b 100 ⟨n,false⟩).1,((rNum b mxI (rText b 100 ⟨n,false⟩).2).1 : Int),(rNode b (rNum b mxI (rText b 100 ⟨n,false⟩).2).2).1.1,(rNode b (rNum b mxI (rText b 100 ⟨n,false⟩).2).2).1.2⟩,(rNode b (rNum b mxI (rText b 100 ⟨n,false⟩).2).2).2) := rfl
  rw [hrr] at hR
  simp only [rdL,bytesL',intL,h100] at ct
  generalize rText b 100 ⟨n,false⟩ = q1 at *
  have cn := number_S b hb q1.2 g1 mxI
  have g2 := rNum_pos (most := mxI) g1
  generalize rNum b mxI q1.2 = q2 at *
  have cd := nodeR_S b hb q2.2 g2
  have hsm := rNode_small b q2.2
  generalize rNode b q2.2 = q3 at *
  obtain ⟨⟨nd,pos⟩,t⟩ := q3
  simp only at hR hsm cd
  simp only [rdL,bytesL',intL,hmx] at cn
  simp only [rdL,bytesL',nodeW,nodeL,piecesL,attrsL,acesL,rowL,intL] at cd
  have cy := recmay_L ⟨q1.1,q2.1,nd,pos⟩ (by show q1.1.length < _;omega) hsm
  simp only [recL,nodeL,attrsL,acesL,piecesL,rowL,List.cons_append,List.nil_append] at cy
  refine Yg1 (fa3 @bytesL'.eq_1 @h1 @h2) ?_
  refine Yf0 ?_
  refine Yg1 @bytesL'.eq_1 ?_
  (repeat (first | refine LW_seq ?_ | (refine LW_skip ?_;simp only [LSj,reduceIte,zze]) | refine LW_block ?_));refine LW_regionO [(22,⟨_,_,_,_,_,[(7,1000)],[(2000,7)],_,[1000007],(ct).toS,rfl,rfl,rfl⟩),(23,⟨_,_,_,_,_,[(7,1000)],[(2000,7)],_,[1000007],(cn).toS,rfl,rfl,rfl⟩)] ?_;intro K hK;simp only [LZ,zo,zc,reduceCtorEq,reduceIte,zz1,zz2,zz3,zz4,zz5,zz6,zz7,zz8,zz9,zza,zzb,zzc,zzd,zze,zzf,bytesL']
  refine hK _ ?_;clear hK K;try refine Wh0 ?_
  (repeat (first | refine LW_seq ?_ | (refine LW_skip ?_;simp only [LSj,reduceIte,zze]) | refine LW_block ?_));refine LW_regionO [(26,⟨_,_,_,_,_,[(7,1000)],[(2000,7),(2001,1001),(2002,1002),(2003,1003)],_,[1000007],(cd).toS,rfl,rfl,rfl⟩)] ?_;intro K hK;simp only [LZ,zo,zc,reduceCtorEq,reduceIte,zz1,zz2,zz3,zz4,zz5,zz6,zz7,zz8,zz9,zza,zzb,zzc,zzd,zze,zzf]
  refine hK _ ?_;clear hK K;try refine Wh0 ?_
  refine LW_slim (fun st => st.env 1 = intL n ∧ st.env 4 = .ptr 4 0 ∧ st.box 4 = some [strL [],intL 0,intL 0,intL 0,intL 0,intL 0,intL 0,.sl 0 [] .nil,.sl 0 [] .nil,intL 0,.sl 0 [] .nil,strL [],intL 0,intL 0,intL 0] ∧ st.env 7 = .ptr 7 0 ∧ st.box 7 = some (rdL b t) ∧ st.env 8 = .ptr 8 0 ∧ st.box 8 = some (recW ⟨q1.1,q2.1,nd,pos⟩ (.row 1001) (.row 1002) (.row 1003)) ∧ st.row 1001 = some (53,nd.mt.attrs.length) ∧ st.row 1002 = some (55,nd.mt.acl.length) ∧ st.row 1003 = some (48,nd.dat.length) ∧ st.mode = fun _ => false) ⟨Yq0,Yq0,Yq0,Yq0,(Yq1 (fa2 @rdL.eq_1 @bytesL'.eq_1)),Yq0,(Yq1 (fa6 @recW.eq_1 @nodeW.eq_1 @piecesL.eq_1 @attrsL.eq_1 @acesL.eq_1 @rowL.eq_1)),Yq0,Yq0,Yq0,Yq0⟩ ?_
  rintro st ⟨e1,e4,b4,e7,b7,e8,b8,r1,r2,r3,hmd⟩
  simp only [rdL,bytesL'] at b7
  simp only [recW,nodeW,List.cons_append,List.nil_append] at b8
  by_cases hbad : t.bad = true
  · rw [if_pos (.inl hbad)] at hR
    subst hR
    refine Yr1 (fa3 @e7 @b7 @hbad) ?_;intro K hK
    refine hK _ ?_;clear hK K;try refine Wh0 ?_
    refine Yt0 ?_
    refine Yg1 (fa3 @e1 @e4 @b4) ?_
    refine LW_nilBox (cs := [strL [],intL 0,intL 0,intL 0,intL 0,intL 0,intL 0,.sl 0 [] .nil,.sl 0 [] .nil,intL 0,.sl 0 [] .nil,strL [],intL 0,intL 0,intL 0]) 4 7 1004 53 (Yq1 @b4) rfl ?_
    refine LW_nilBox (cs := [strL [],intL 0,intL 0,intL 0,intL 0,intL 0,intL 0,.sl 0 [] (.row 1004),.sl 0 [] .nil,intL 0,.sl 0 [] .nil,strL [],intL 0,intL 0,intL 0]) 4 8 1005 55 (Yq1 @b4) rfl ?_
    refine LW_nilBox (cs := [strL [],intL 0,intL 0,intL 0,intL 0,intL 0,intL 0,.sl 0 [] (.row 1004),.sl 0 [] (.row 1005),intL 0,.sl 0 [] .nil,strL [],intL 0,intL 0,intL 0]) 4 10 1006 48 (Yq1 @b4) rfl ?_
    refine LW_ret ?_;simp only [thenL,jumpsL,inBlockL,twoL,bodyO];refine ⟨[(1004,2001),(1005,2002),(1006,2003)],rfl,?_⟩;simp only [thenL,jumpsL,inBlockL,twoL,bodyQ,LV.lit.injEq,LV.tup.injEq,LV.agg.injEq,LV.sl.injEq,List.cons.injEq,Value.int.injEq,Value.bool.injEq,Value.string.injEq,ByteArray.mk.injEq,exists_eq_left',exists_eq_left,exists_eq_right,LZ,zo,zc,reduceCtorEq,reduceIte,zz1,zz2,zz3,zz4,zz5,zz6,zz7,zz8,zz9,zza,zzb,zzc,zzd,zze,zzf,recW,nodeW,nodeL,piecesL,attrsL,acesL,rowL,zeroRec,zeroN,e4,List.flatMap_nil,List.length_nil,List.set_cons_zero,List.set_cons_succ]
  cases hm : mayRec ⟨q1.1,q2.1,nd,pos⟩
  · rw [if_pos (.inr hm)] at hR
    subst hR
    rw [hm] at cy
    refine Yr1 (fa5 @e7 @b7 @hbad @e8 @b8) ?_;intro K hK
    refine Yc1 (cy) (fa5 @e7 @b7 @hbad @e8 @b8) ?_
    refine hK _ ?_;clear hK K;try refine Wh0 ?_
    refine Yt0 ?_
    refine Yg1 (fa3 @e1 @e4 @b4) ?_
    refine LW_nilBox (cs := [strL [],intL 0,intL 0,intL 0,intL 0,intL 0,intL 0,.sl 0 [] .nil,.sl 0 [] .nil,intL 0,.sl 0 [] .nil,strL [],intL 0,intL 0,intL 0]) 4 7 1004 53 (Yq1 @b4) rfl ?_
    refine LW_nilBox (cs := [strL [],intL 0,intL 0,intL 0,intL 0,intL 0,intL 0,.sl 0 [] (.row 1004),.sl 0 [] .nil,intL 0,.sl 0 [] .nil,strL [],intL 0,intL 0,intL 0]) 4 8 1005 55 (Yq1 @b4) rfl ?_
    refine LW_nilBox (cs := [strL [],intL 0,intL 0,intL 0,intL 0,intL 0,intL 0,.sl 0 [] (.row 1004),.sl 0 [] (.row 1005),intL 0,.sl 0 [] .nil,strL [],intL 0,intL 0,intL 0]) 4 10 1006 48 (Yq1 @b4) rfl ?_
    refine LW_ret ?_;simp only [thenL,jumpsL,inBlockL,twoL,bodyO];refine ⟨[(1004,2001),(1005,2002),(1006,2003)],rfl,?_⟩;simp only [thenL,jumpsL,inBlockL,twoL,bodyQ,LV.lit.injEq,LV.tup.injEq,LV.agg.injEq,LV.sl.injEq,List.cons.injEq,Value.int.injEq,Value.bool.injEq,Value.string.injEq,ByteArray.mk.injEq,exists_eq_left',exists_eq_left,exists_eq_right,LZ,zo,zc,reduceCtorEq,reduceIte,zz1,zz2,zz3,zz4,zz5,zz6,zz7,zz8,zz9,zza,zzb,zzc,zzd,zze,zzf,recW,nodeW,nodeL,piecesL,attrsL,acesL,rowL,zeroRec,zeroN,e4,List.flatMap_nil,List.length_nil,List.set_cons_zero,List.set_cons_succ]
  · rw [if_neg (by rintro (c | c);exact hbad c;rw [hm] at c;cases c)] at hR
    subst hR
    rw [hm] at cy
    refine Yr1 (fa5 @e7 @b7 @hbad @e8 @b8) ?_;intro K hK
    refine Yc1 (cy) (fa5 @e7 @b7 @hbad @e8 @b8) ?_
    refine hK _ ?_;clear hK K;try refine Wh0 ?_
    refine Yf0 ?_
    (repeat (first | refine LW_seq ?_ | (refine LW_skip ?_;simp only [LSj,reduceIte,zze]) | refine LW_block ?_));refine LW_mix2 [] [] (fun _ => false) [(0,[8,1001,1002,1003]),(1,[7]),(2,[7]),(3,[7])] [0,1,2] [[3,4,5]] rfl (by kernel_rfl) (by kernel_rfl) (by kernel_rfl) (by first | exact rfl | exact hmd | simp only [LZ,zo,zc,reduceCtorEq,reduceIte,zz1,zz2,zz3,zz4,zz5,zz6,zz7,zz8,zz9,zza,zzb,zzc,zzd,zze,zzf,e4,b4,e7,b7,e8,b8,hmd]) ?_;intro K hK;simp only [LZ,zo,zc,reduceCtorEq,reduceIte,zz1,zz2,zz3,zz4,zz5,zz6,zz7,zz8,zz9,zza,zzb,zzc,zzd,zze,zzf,e4,b4,e7,b7,e8,b8,hmd]
    refine hK _ ?_;clear hK K;try refine Wh0 ?_
    refine LW_ret ?_;simp only [thenL,jumpsL,inBlockL,twoL,bodyO];refine ⟨[(1001,2001),(1002,2002),(1003,2003)],rfl,?_⟩;simp only [thenL,jumpsL,inBlockL,twoL,bodyQ,LV.lit.injEq,LV.tup.injEq,LV.agg.injEq,LV.sl.injEq,List.cons.injEq,Value.int.injEq,Value.bool.injEq,Value.string.injEq,ByteArray.mk.injEq,exists_eq_left',exists_eq_left,exists_eq_right,LZ,zo,zc,reduceCtorEq,reduceIte,zz1,zz2,zz3,zz4,zz5,zz6,zz7,zz8,zz9,zza,zzb,zzc,zzd,zze,zzf,recW,nodeW,nodeL,piecesL,attrsL,acesL,rowL,e4,r1,r2,r3]
theorem attrL_lit (l : List Attr) : (l.flatMap attrL).all isLit = true := by
  rw [List.all_eq_true]
  intro x hx
  obtain ⟨a,_,ha⟩ := List.mem_flatMap.1 hx
  simp only [attrL,List.mem_cons,List.not_mem_nil,or_false] at ha
  rcases ha with h | h <;> (rw [h];rfl)
theorem aceL_lit (l : List Ace) : (l.flatMap aceL).all isLit = true := by
  rw [List.all_eq_true]
  intro x hx
  obtain ⟨a,_,ha⟩ := List.mem_flatMap.1 hx
  simp only [aceL,List.mem_cons,List.not_mem_nil,or_false] at ha
  rcases ha with h | h | h <;> (rw [h];rfl)
theorem pieceL_lit (l : List Piece) : (l.flatMap pieceL).all isLit = true := by
  rw [List.all_eq_true]
  intro x hx
  obtain ⟨a,_,ha⟩ := List.mem_flatMap.1 hx
  simp only [pieceL,List.mem_cons,List.not_mem_nil,or_false] at ha
  rcases ha with h | h <;> (rw [h];rfl)
theorem rgetB_S (b : List UInt8) (hb : b.length ≤ 1000000) (i : Int) :
    SCalls Tryd.prog 9 [.bsl 3000 b.length 5,intL i] ⟨[],[(3000,bL b)],[]⟩ (.tup [.agg (recW (getRec b i).1 (.row 2001) (.row 2002) (.row 2003)),intL (getRec b i).2.1,intL (getRec b i).2.2]) ⟨[(2001,(53,(getRec b i).1.node.mt.attrs.length)),(2002,(55,(getRec b i).1.node.mt.acl.length)),(2003,(48,(getRec b i).1.node.dat.length))],[(3000,bL b)],[]⟩ [(3000,3000)] := by
  have hsz : sizeL Tryd.prog 5 = 1 := by kernel_rfl
  have h := (rgetR_O b hb i).lendS 0 3000 b.length 5 (bL b) rfl rfl (by rw [hsz];decide) (by rw [hsz,bL_len,Nat.mul_one]) rfl
  generalize getRec b i = R at *
  obtain ⟨r,tt,ee⟩ := R
  simp only at h ⊢
  have h1 := attrL_lit r.node.mt.attrs
  have h2 := aceL_lit r.node.mt.acl
  have h3 := pieceL_lit r.node.dat
  simp only [lend,lend2,lend1,recW,nodeW,strL,intL,List.map_cons,List.map_nil,List.cons_append,List.nil_append,alook,Nat.reduceEqDiff,reduceIte,h1,h2,h3,and_self,List.set_cons_zero] at h ⊢
  exact h
theorem rgetSub_S (b : List UInt8) (hb : b.length ≤ 1000000) (k : Nat) (hk : k ≤ b.length) (i : Int) :
    SCalls Tryd.prog 9 [.sl k [] (.sub 3000 0),intL i] ⟨[],[(3000,bL b)],[]⟩ (.tup [.agg (recW (getRec (b.take k) i).1 (.row 2001) (.row 2002) (.row 2003)),intL (getRec (b.take k) i).2.1,intL (getRec (b.take k) i).2.2]) ⟨[(2001,(53,(getRec (b.take k) i).1.node.mt.attrs.length)),(2002,(55,(getRec (b.take k) i).1.node.mt.acl.length)),(2003,(48,(getRec (b.take k) i).1.node.dat.length))],[(3000,bL b)],[]⟩ [(3000,3000)] := by
  have hl : (b.take k).length = k := by rw [List.length_take];omega
  have h0 := rgetR_O (b.take k) (by omega) i
  unfold bytesL' at h0
  rw [hl] at h0
  have h := h0.lendSub 0 3000 k 0 (bL b) (bL (b.take k)) rfl rfl (by unfold bL;rw [List.drop_zero,List.map_take]) (by rw [bL_len];omega) rfl
  generalize getRec (b.take k) i = R at *
  obtain ⟨r,tt,ee⟩ := R
  simp only at h ⊢
  have h1 := attrL_lit r.node.mt.attrs
  have h2 := aceL_lit r.node.mt.acl
  have h3 := pieceL_lit r.node.dat
  simp only [lend,lend2,lend1,recW,nodeW,strL,intL,List.map_cons,List.map_nil,List.cons_append,List.nil_append,alook,Nat.reduceEqDiff,reduceIte,h1,h2,h3,and_self,List.set_cons_zero] at h ⊢
  exact h
end Go.Proofs.YteamlijbkldlhaaDoor
