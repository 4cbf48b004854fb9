import Derived.Test.YteamlijbkldlhaaGreatKR4
import Derived.Test.YteamlijbkldlhaaGreatKN8
set_option linter.unusedSimpArgs false
set_option linter.unusedVariables false
namespace Go.Proofs.YteamlijbkldlhaaGreat
open Nat renaming reduceAdd → zz1,reduceMul → zz2,reduceSub → zz3,reduceLT → zz4,reduceLeDiff → zz5,reduceEqDiff → zz6,reduceBEq → zzf
open Int renaming reduceAdd → zz7,reduceSub → zz8,reduceMul → zz9,reduceLT → zza,reduceLE → zzb,reduceEq → zzc,reduceNeg → zzd,reduceToNat → zze
open Op renaming operands → zo
open Call renaming operands → zc
open Go.RowKit Go.Proofs AclSpec MetaSpec NodeSpec GSort Flo Ext

set_option maxRecDepth 100000 in
set_option maxHeartbeats 8000000 in
theorem rwrite_L (n : FNode) (h : small n) (htl : n.target.length ≤ maxLen) (a : Int) (s : List UInt8) (hs : s.length ≤ 900000) : LCalls Tryz.prog 34 [.agg (nodeL n),intL a,strL s] (.tup [.agg (nodeL (writeN n a s).1),intL (writeN n a s).2]) := by
  have cm := rmayNode_L n h htl
  simp only [nodeL,attrsL,acesL,piecesL,rowL] at cm
  refine LCalls.of (fun _ => false) Tryz.func34 rfl (by decide) Tryz.ntmps34 Tryz.results34 (by simp) ?_
  intro w0 S0 vs hgl hwf0 hsz hvs;clear hsz hvs hwf0 hgl
  generalize hR : writeN n a s = R
  unfold writeN isFileN at hR
  refine Yg1 (fa4 @nodeL.eq_1 @piecesL.eq_1 @attrsL.eq_1 @acesL.eq_1) ?_
  cases g1 : mayN n
  · rw [g1] at cm hR
    refine Yr0 ?_;intro K hK
    refine Yc0 (cm) ?_
    refine hK _ ?_;clear hK K;try refine Wh0 ?_
    refine Yt0 ?_
    refine Yg0 ?_
    refine Ye1 (fa4 @nodeL.eq_1 @piecesL.eq_1 @attrsL.eq_1 @acesL.eq_1) ?_;try (with_reducible exact trivial)
    rw [← hR];simp
  rw [g1] at cm hR
  by_cases g0 : n.kind = 2
  rotate_left
  · refine Yr0 ?_;intro K hK
    refine Yc1 (cm) @g0 ?_
    refine hK _ ?_;clear hK K;try refine Wh0 ?_
    refine Yt0 ?_
    refine Yg0 ?_
    refine Ye1 (fa4 @nodeL.eq_1 @piecesL.eq_1 @attrsL.eq_1 @acesL.eq_1) ?_;try (with_reducible exact trivial)
    rw [← hR];simp [g0]
  by_cases g2 : a < 0
  · refine Yr0 ?_;intro K hK
    refine Yc1 (cm) (fa2 @g0 @g2) ?_
    refine hK _ ?_;clear hK K;try refine Wh0 ?_
    refine Yt0 ?_
    refine Yg0 ?_
    refine Ye1 (fa4 @nodeL.eq_1 @piecesL.eq_1 @attrsL.eq_1 @acesL.eq_1) ?_;try (with_reducible exact trivial)
    rw [← hR];simp [g2,g0]
  by_cases g3 : 1099511627776 < a
  · refine Yr0 ?_;intro K hK
    refine Yc1 (cm) (fa3 @g0 @g2 @g3) ?_
    refine hK _ ?_;clear hK K;try refine Wh0 ?_
    refine Yt0 ?_
    refine Yg0 ?_
    refine Ye1 (fa4 @nodeL.eq_1 @piecesL.eq_1 @attrsL.eq_1 @acesL.eq_1) ?_;try (with_reducible exact trivial)
    rw [← hR];simp [g3,g0]
  have hf : isFileN n = true := by unfold isFileN;rw [decide_eq_true g0,g1];rfl
  rw [if_neg (by simp [g0,g2,g3])] at hR
  have hsep := file_sep hf
  obtain ⟨_,z1,z2,z3,_⟩ := isFile_ok hf
  refine Yr0 ?_;intro K hK
  refine Yc1 (cm) (fa3 @g0 @g2 @g3) ?_
  refine hK _ ?_;clear hK K;try refine Wh0 ?_
  refine Yf0 ?_
  have hw0 : IntKind.i64.wrap (1099511627776 - a) = 1099511627776 - a := w64 (by omega)
  by_cases g4 : 1099511627776 < a + (s.length : Int)
  · have g4' : 1099511627776 - a < (s.length : Int) := by omega
    rw [if_pos g4] at hR
    refine Yg1 (fa2 @hw0 @g4') ?_
    refine Yt0 ?_
    refine Yg0 ?_
    refine Ye1 (fa4 @nodeL.eq_1 @piecesL.eq_1 @attrsL.eq_1 @acesL.eq_1) ?_;try (with_reducible exact trivial)
    rw [← hR];simp [g0]
  have g4' : ¬ 1099511627776 - a < (s.length : Int) := by omega
  rw [if_neg g4] at hR
  refine Yg1 (fa2 @hw0 @g4') ?_
  refine Yf0 ?_
  by_cases g5 : s = []
  · rw [if_pos g5] at hR
    refine Yg1 @g5 ?_
    refine Yt0 ?_
    refine Yg0 ?_
    refine Ye1 (fa4 @nodeL.eq_1 @piecesL.eq_1 @attrsL.eq_1 @acesL.eq_1) ?_;try (with_reducible exact trivial)
    rw [← hR];simp [g0]
  rw [if_neg g5] at hR
  have hw1 : IntKind.i64.wrap (a + (s.length : Int)) = a + s.length := w64 (by omega)
  refine Yg1 @g5 ?_
  refine Yf0 ?_
  refine Yg1 @hw1 ?_
  refine LW_slim (fun st => st.env 1 = intL a ∧ st.env 2 = strL s ∧ st.env 3 = .ptr 3 0 ∧ st.box 3 = some [intL n.kind,intL n.mt.mode,intL n.mt.uid,intL n.mt.gid,intL n.mt.time,.sl n.mt.attrs.length (n.mt.attrs.flatMap attrL) .no,.sl n.mt.acl.length (n.mt.acl.flatMap aceL) .no,intL n.size,.sl n.dat.length (n.dat.flatMap pieceL) .no,strL n.target,intL n.major,intL n.minor] ∧ st.env 6 = .ptr 6 0 ∧ st.box 6 = some zeroNode ∧ st.env 8 = intL (a + s.length) ∧ st.mode = fun _ => false) ⟨Yq0,Yq0,Yq0,(Yq1 @g0),Yq0,Yq0,Yq0,Yq0⟩ ?_
  rintro st ⟨e1,e2,e3,b3,e6,b6,e8,hmd⟩
  clear cm
  have hj := join_wrote hsep (a := a) (s := s) (by omega) (by omega) g5
  have hdis := around_dis hsep (a := a) (s := s) (by omega) (by omega) g5
  have hok := okP_snoc hsep.2 (a := a) (s := s) (by omega) (by omega) g5
  have hb1 := wrote_bytes hok
  have hb2 := wrote_len (n.dat ++ [(⟨a,s⟩ : Piece)])
  have cj := rjoined_L (aroundP n.dat a s) (by
    unfold aroundP
    have k1 := clipP_len n.dat 0 a
    have k2 := clipP_len n.dat (a + s.length) 1099511627777
    simp only [List.length_append,List.length_cons,List.length_nil];omega) hdis
  rw [hj] at cj
  have co := rclip_O n.dat 0 a h.2.2.1 hsep.2
  have cl := rclip_L n.dat (a + s.length) 1099511627777 h.2.2.1 hsep.2
  unfold aroundP at cj
  have k1 := clipP_len n.dat 0 a
  have k2 := clipP_len n.dat (a + s.length) 1099511627777
  have hR2 : (if 4000 < bytesP (wroteP (n.dat ++ [⟨a,s⟩])) ∨ 16 < (wroteP (n.dat ++ [⟨a,s⟩])).length then (n,13) else ({ n with size := max n.size (a + s.length),dat := wroteP (n.dat ++ [⟨a,s⟩]) },0)) = R := by
    rw [hb1,hb2];exact hR
  clear hR hb1 hb2 hj hdis hok
  have k3 : (wroteP (n.dat ++ [⟨a,s⟩])).length ≤ n.dat.length + 1 := by
    rw [wrote_len]
    have := norm_len (exts (n.dat ++ [⟨a,s⟩]))
    unfold exts at this
    rw [List.length_map,List.length_append] at this
    exact this
  have hbl := wrote_small hsep (a := a) (s := s) (by omega) (by omega) g5
  generalize hc1 : clipP n.dat 0 a = q1 at *
  generalize hc2 : clipP n.dat (a + s.length) 1099511627777 = q2 at *
  generalize hwp : wroteP (n.dat ++ [(⟨a,s⟩ : Piece)]) = wp at *
  simp only [piecesL,rowL,List.length_append,List.length_cons,List.length_nil,List.flatMap_append,List.flatMap_cons,List.flatMap_nil,pieceL,List.append_nil,Nat.zero_add] at cj cl
  have hf1 : (q1.flatMap pieceL).length = q1.length * 2 := pieceL_flen q1
  have hf2 : (q2.flatMap pieceL).length = q2.length * 2 := pieceL_flen q2
  have ho2 := pieceL_one q2
  have hs2 := pieceL_strip q2
  have hbl2 : ∀ p ∈ wp,p.dat.length ≤ 1000000 := fun p hp => by
    have h1 := bytesP_mem hp
    have h2 : bytesP n.dat ≤ 4000 := by have := isFile_ok hf;exact this.2.2.2.2.2.1
    omega
  (repeat (first | refine LW_seq ?_ | (refine LW_skip ?_;simp only [LSj,reduceIte,zze]) | refine LW_block ?_));refine LW_regionO [(47,⟨_,_,_,_,_,[],[(2000,1000)],_,[],(co).toS,rfl,rfl,rfl⟩)] ?_;intro K hK;simp only [LZ,zo,zc,reduceCtorEq,reduceIte,zz1,zz2,zz3,zz4,zz5,zz6,zz7,zz8,zz9,zza,zzb,zzc,zzd,zze,zzf,e1,e2,e3,b3,hmd,hf1]
  refine ⟨by (repeat' apply And.intro) <;> first | omega | (unfold maxLen;omega) | rfl,?_⟩
  refine ⟨by (repeat' apply And.intro) <;> first | omega | (unfold maxLen;omega) | rfl,?_⟩
  refine hK _ ?_;clear hK K;try refine Wh0 ?_
  refine Yr1 (fa7 @e1 @e2 @e3 @b3 @e8 @hmd @hf1) ?_;intro K hK
  refine Yc1 (cl) (fa10 @e1 @e2 @e3 @b3 @e8 @hmd @hf1 @hf2 @ho2 @hs2) ?_
  refine ⟨by (repeat' apply And.intro) <;> first | omega | (unfold maxLen;omega) | rfl | (simp only [List.length_append,List.length_cons,List.length_nil,hf1];omega),?_⟩
  refine Yc0 (cj) ?_
  refine hK _ ?_;clear hK K;try refine Wh0 ?_
  refine Yg1 (fa2 @e3 @b3) ?_
  obtain ⟨sz,hsz,hsz2⟩ : ∃ sz : Int,(if (a + (s.length : Int)) > n.size then (a + (s.length : Int)) else n.size) = sz ∧ sz = max n.size (a + s.length) := ⟨_,rfl,by split <;> omega⟩
  refine LW_slim (fun st => st.env 3 = .ptr 3 0 ∧ st.box 3 = some [intL n.kind,intL n.mt.mode,intL n.mt.uid,intL n.mt.gid,intL n.mt.time,.sl n.mt.attrs.length (n.mt.attrs.flatMap attrL) .no,.sl n.mt.acl.length (n.mt.acl.flatMap aceL) .no,intL n.size,.sl n.dat.length (n.dat.flatMap pieceL) .no,strL n.target,intL n.major,intL n.minor] ∧ st.env 6 = .ptr 6 0 ∧ st.box 6 = some zeroNode ∧ st.env 8 = intL (a + s.length) ∧ st.env 9 = .sl wp.length (wp.flatMap pieceL) .no ∧ st.env 10 = .ptr 10 0 ∧ st.box 10 = some [intL n.kind,intL n.mt.mode,intL n.mt.uid,intL n.mt.gid,intL n.mt.time,.sl n.mt.attrs.length (n.mt.attrs.flatMap attrL) .no,.sl n.mt.acl.length (n.mt.acl.flatMap aceL) .no,intL n.size,.sl n.dat.length (n.dat.flatMap pieceL) .no,strL n.target,intL n.major,intL n.minor] ∧ st.mode = fun _ => false) ⟨(Yq1 @e3),(Yq1 @b3),(Yq1 @e6),by simp only [LZ,zo,zc,reduceCtorEq,reduceIte,zz1,zz2,zz3,zz4,zz5,zz6,zz7,zz8,zz9,zza,zzb,zzc,zzd,zze,zzf,b6,zeroNode],(Yq1 @e8),Yq0,Yq0,(Yq1 (fa2 @e3 @b3)),(Yq1 @hmd)⟩ ?_
  clear e1 e2 e3 b3 e6 b6 e8 hmd st
  rintro st ⟨e3,b3,e6,b6,e8,e9,e10,b10,hmd⟩
  refine LW_join (fun st => st.env 3 = .ptr 3 0 ∧ st.box 3 = some [intL n.kind,intL n.mt.mode,intL n.mt.uid,intL n.mt.gid,intL n.mt.time,.sl n.mt.attrs.length (n.mt.attrs.flatMap attrL) .no,.sl n.mt.acl.length (n.mt.acl.flatMap aceL) .no,intL n.size,.sl n.dat.length (n.dat.flatMap pieceL) .no,strL n.target,intL n.major,intL n.minor] ∧ st.env 6 = .ptr 6 0 ∧ st.box 6 = some zeroNode ∧ st.env 10 = .ptr 10 0 ∧ st.box 10 = some [intL n.kind,intL n.mt.mode,intL n.mt.uid,intL n.mt.gid,intL n.mt.time,.sl n.mt.attrs.length (n.mt.attrs.flatMap attrL) .no,.sl n.mt.acl.length (n.mt.acl.flatMap aceL) .no,intL sz,.sl wp.length (wp.flatMap pieceL) .no,strL n.target,intL n.major,intL n.minor] ∧ st.mode = fun _ => false) ?_ ?_
  · (repeat (first | refine LW_seq ?_ | (refine LW_skip ?_;simp only [LSj,reduceIte,zze]) | refine LW_block ?_));refine LW_mix2 [] [] (fun _ => false) [(0,[]),(1,[3]),(2,[3]),(3,[]),(4,[]),(6,[3]),(8,[3])] [0,1,2,3,4] [[5,6,7,8]] rfl (by kernel_rfl) (by kernel_rfl) (by kernel_rfl) (by first | exact rfl | exact hmd | simp only [LZ,zo,zc,reduceCtorEq,reduceIte,zz1,zz2,zz3,zz4,zz5,zz6,zz7,zz8,zz9,zza,zzb,zzc,zzd,zze,zzf,e3,b3,e8,e9,e10,b10,hsz,hmd]) ?_;intro K hK;simp only [LZ,zo,zc,reduceCtorEq,reduceIte,zz1,zz2,zz3,zz4,zz5,zz6,zz7,zz8,zz9,zza,zzb,zzc,zzd,zze,zzf,e3,b3,e8,e9,e10,b10,hsz,hmd]
    (repeat' apply And.intro)
    all_goals first | omega | rfl | kernel_rfl | (refine hK _ ?_;clear hK K;simp only [LSj,reduceIte,zze];exact ⟨(Yq1 @e3),(Yq1 @b3),(Yq1 @e6),by simp only [LZ,zo,zc,reduceCtorEq,reduceIte,zz1,zz2,zz3,zz4,zz5,zz6,zz7,zz8,zz9,zza,zzb,zzc,zzd,zze,zzf,b6,zeroNode],(Yq1 @e10),Yq0,(Yq1 @hmd)⟩)
  clear e3 b3 e6 b6 e8 e9 e10 b10 hmd st
  rintro st ⟨e3,b3,e6,b6,e10,b10,hmd⟩
  have cb := rbytes_L ({ n with size := sz,dat := wp } : FNode) ⟨h.1,h.2.1,by show wp.length ≤ _;omega,hbl2⟩
  simp only [nodeL,attrsL,acesL,piecesL,rowL] at cb
  rw [show bytesN ({ n with size := sz,dat := wp } : FNode) = bytesP wp from rfl] at cb
  rw [← hsz2] at hR2
  by_cases g6 : (4000 : Int) < bytesP wp
  · rw [if_pos (.inl (by omega))] at hR2
    refine Yr1 (fa2 @e10 @b10) ?_;intro K hK
    refine Yc1 (cb) @g6 ?_
    refine hK _ ?_;clear hK K;try refine Wh0 ?_
    refine Yt0 ?_
    refine Yg1 (fa5 @e3 @b3 @e6 @b6 @zeroNode.eq_1) ?_
    refine Ye1 (fa8 @nodeL.eq_1 @piecesL.eq_1 @attrsL.eq_1 @acesL.eq_1 @e3 @b3 @e6 @b6) ?_;try (with_reducible exact trivial)
    rw [← hR2];simp [g0]
  by_cases g7 : (16 : Int) < wp.length
  · rw [if_pos (.inr (by omega))] at hR2
    refine Yr1 (fa2 @e10 @b10) ?_;intro K hK
    refine Yc1 (cb) (fa4 @e10 @b10 @g6 @g7) ?_
    refine hK _ ?_;clear hK K;try refine Wh0 ?_
    refine Yt0 ?_
    refine Yg1 (fa5 @e3 @b3 @e6 @b6 @zeroNode.eq_1) ?_
    refine Ye1 (fa8 @nodeL.eq_1 @piecesL.eq_1 @attrsL.eq_1 @acesL.eq_1 @e3 @b3 @e6 @b6) ?_;try (with_reducible exact trivial)
    rw [← hR2];simp [g0]
  rw [if_neg (by omega)] at hR2
  refine Yr1 (fa2 @e10 @b10) ?_;intro K hK
  refine Yc1 (cb) (fa4 @e10 @b10 @g6 @g7) ?_
  refine hK _ ?_;clear hK K;try refine Wh0 ?_
  refine Yf0 ?_
  refine Yg1 (fa5 @e10 @b10 @e6 @b6 @zeroNode.eq_1) ?_
  refine Ye1 (fa8 @nodeL.eq_1 @piecesL.eq_1 @attrsL.eq_1 @acesL.eq_1 @e10 @b10 @e6 @b6) ?_;try (with_reducible exact trivial)
  rw [← hR2];simp [g0]
end Go.Proofs.YteamlijbkldlhaaGreat
