import Derived.Test.YteamlijbkldlhaaDoorKUM
import Derived.Test.YteamlijbkldlhaaDoorKUH
set_option linter.unusedSimpArgs false
set_option linter.unusedVariables false
namespace Go.Proofs.YteamlijbkldlhaaDoor
open Nat renaming reduceAdd → zz1,reduceMul → zz2,reduceSub → zz3,reduceLT → zz4,reduceLeDiff → zz5,reduceEqDiff → zz6,reduceBEq → zzf
open Int renaming reduceAdd → zz7,reduceSub → zz8,reduceMul → zz9,reduceLT → zza,reduceLE → zzb,reduceEq → zzc,reduceNeg → zzd,reduceToNat → zze
open Op renaming operands → zo
open Call renaming operands → zc
open Go.RowKit Go.Proofs AclSpec MetaSpec NodeSpec RecSpec PathSpec

theorem set_bL (b : List UInt8) (k : Nat) (c : UInt8) (h : k < b.length) : (bL b).take k ++ byL c :: (bL b).drop (k + 1) = bL (b.set k c) := by
  unfold bL
  rw [List.set_eq_take_append_cons_drop,if_pos h,List.map_append,List.map_cons,List.map_take,List.map_drop]
  rfl
theorem getRec_small (b : List UInt8) (i : Int) : small (getRec b i).1.node := by
  have hz : small zeroN := tsmall (.inr (.inr rfl))
  unfold getRec
  split
  · exact hz
  · split
    · exact hz
    · exact rNode_small b _
set_option maxRecDepth 100000 in
set_option maxHeartbeats 8000000 in
theorem recBack_L (r : Rec) (ahead : List UInt8) (at' : Int) (c : UInt8) (ho : okLen r.node) (htm : r.node.mt.time < 9223372036854775808) (hw1 : -9223372036854775808 ≤ at') (hw2 : at' < 9223372036854775808) :
    LCalls Tryd.prog 3 [.agg (recL r),bytesL' ahead,intL at',byL c] (boolL true) := by
  have t0 := rtold_L
  have cf := rfew_L r ho
  simp only [boolL] at t0
  simp only [recL,nodeL,attrsL,acesL,piecesL,rowL,List.cons_append,List.nil_append] at cf
  refine LCalls.of (fun d => d == 49 || d == 51 || d == 53) Tryd.func3 rfl (by decide) Tryd.ntmps3 Tryd.results3 (by simp) ?_
  intro w0 S0 vs hgl hwf0 hsz hvs;clear hsz hvs hwf0 hgl
  refine Yg1 (fa7 @recL.eq_1 @nodeL.eq_1 @attrsL.eq_1 @acesL.eq_1 @piecesL.eq_1 @byL.eq_1 @bytesL'.eq_1) ?_
  cases hf : (decide (r.path.length ≤ 120) && fewN r.node)
  · rw [hf] at cf
    refine Yr0 ?_;intro K hK
    refine Yc0 (cf) ?_
    refine hK _ ?_;clear hK K;try refine Wh0 ?_
    refine Yt0 ?_
    refine Yr0 ?_;intro K hK
    refine Yc0 (t0) ?_
    refine hK _ ?_;clear hK K;try refine Wh0 ?_
    refine Ye0 ?_;try (with_reducible exact trivial)
  rw [hf] at cf
  rw [Bool.and_eq_true,decide_eq_true_eq] at hf
  obtain ⟨hs,_⟩ := fewN_small hf.2
  have cm := recmay_L r (by omega) hs
  simp only [recL,nodeL,attrsL,acesL,piecesL,rowL,List.cons_append,List.nil_append] at cm
  cases hm : mayRec r
  · rw [hm] at cm
    refine Yr0 ?_;intro K hK
    refine Yc0 (cf) ?_
    refine Yc0 (cm) ?_
    refine hK _ ?_;clear hK K;try refine Wh0 ?_
    refine Yt0 ?_
    refine Yr0 ?_;intro K hK
    refine Yc0 (t0) ?_
    refine hK _ ?_;clear hK K;try refine Wh0 ?_
    refine Ye0 ?_;try (with_reducible exact trivial)
  rw [hm] at cm
  by_cases h9 : 9 < ahead.length
  · have h9i : ((9 : Int) < (ahead.length : Int)) = True := eq_true (by omega)
    refine Yr1 @h9i ?_;intro K hK
    refine Yc1 (cf) @h9i ?_
    refine Yc1 (cm) @h9i ?_
    refine hK _ ?_;clear hK K;try refine Wh0 ?_
    refine Yt0 ?_
    refine Yr0 ?_;intro K hK
    refine Yc0 (t0) ?_
    refine hK _ ?_;clear hK K;try refine Wh0 ?_
    refine Ye0 ?_;try (with_reducible exact trivial)
  have h9i : ¬ ((9 : Int) < (ahead.length : Int)) := by omega
  have cp := rput_L r (by omega) hs htm
  rw [show putP r = (putRec r,0) by unfold putP;rw [if_pos hm]] at cp
  simp only [recL,nodeL,attrsL,acesL,piecesL,rowL,bytesL',List.cons_append,List.nil_append] at cp
  have hpl := putRec_len hm htm
  have hpne := putRec_ne r
  generalize hX : putRec r = X at *
  have hx0 : ¬ ((X.length : Int) = 0) := by omega
  refine Yr1 @h9i ?_;intro K hK
  refine Yc1 (cf) @h9i ?_
  refine Yc1 (cm) @h9i ?_
  refine hK _ ?_;clear hK K;try refine Wh0 ?_
  refine Yf0 ?_
  refine Yr0 ?_;intro K hK
  refine Yc0 (cp) ?_
  refine hK _ ?_;clear hK K;try refine Wh0 ?_
  refine Yg1 @hx0 ?_
  refine Yf0 ?_
  refine LW_slim (fun st => st.env 1 = bytesL' ahead ∧ st.env 2 = intL at' ∧ st.env 3 = byL c ∧ st.env 4 = .ptr 4 0 ∧ st.box 4 = some (recL r) ∧ st.env 9 = bytesL' X ∧ st.mode = fun d => d == 49 || d == 51 || d == 53) ⟨(Yq1 @bytesL'.eq_1),Yq0,(Yq1 @byL.eq_1),Yq0,(Yq1 (fa6 @recL.eq_1 @nodeL.eq_1 @piecesL.eq_1 @attrsL.eq_1 @acesL.eq_1 @rowL.eq_1)),(Yq1 @bytesL'.eq_1),rfl⟩ ?_
  rintro st ⟨e1,e2,e3,e4,b4,e9,hmd⟩
  have a1 := bL_len ahead
  have a2 := bL_one ahead
  have a3 := strip_bL ahead
  have x1 := bL_len X
  have x2 := bL_one X
  have x3 := strip_bL X
  have hBl : (ahead ++ X).length = ahead.length + X.length := List.length_append
  (repeat refine LW_seq ?_)
  refine LW_join (fun st => st.env 1 = bytesL' ahead ∧ st.env 2 = intL at' ∧ st.env 3 = byL c ∧ st.env 4 = .ptr 4 0 ∧ st.box 4 = some (recL r) ∧ st.env 9 = bytesL' X ∧ st.env 11 = .bsl 49 (ahead ++ X).length 5 ∧ st.arr 49 = some (bL (ahead ++ X)) ∧ st.mode = fun d => d == 49 || d == 51 || d == 53) ?_ ?_
  · simp only [bytesL'] at e1 e9
    by_cases h0 : ahead.length = 0
    · have hnil := List.eq_nil_of_length_eq_zero h0
      subst hnil
      have hb0 : bL [] = [] := rfl
      have hxn : ¬ X.length = 0 := by omega
      (repeat (first | refine LW_seq ?_ | (refine LW_skip ?_;simp only [LSj,reduceIte,zze]) | refine LW_block ?_));refine LW_region ?_;intro K hK;simp only [LZ,zo,zc,reduceCtorEq,reduceIte,zz1,zz2,zz3,zz4,zz5,zz6,zz7,zz8,zz9,zza,zzb,zzc,zzd,zze,zzf,e1,e9,hmd,x1,x2,x3,hb0,hxn,List.length_nil]
      (repeat' apply And.intro) <;> first | omega | (unfold maxLen;omega) | ((refine hK _ ?_;clear hK K;try refine Wh0 ?_);exact ⟨(by first | exact rfl | assumption | (simp only [LZ,zo,zc,reduceCtorEq,reduceIte,zz1,zz2,zz3,zz4,zz5,zz6,zz7,zz8,zz9,zza,zzb,zzc,zzd,zze,zzf,e1,bytesL',bL,List.map_nil] <;> exact rfl)),(Yq1 @e2),(Yq1 (fa2 @e3 @byL.eq_1)),(Yq1 @e4),(Yq1 (fa7 @b4 @recL.eq_1 @nodeL.eq_1 @piecesL.eq_1 @attrsL.eq_1 @acesL.eq_1 @rowL.eq_1)),(Yq1 (fa2 @e9 @bytesL'.eq_1)),by rw [hBl];exact (by first | exact rfl | assumption | (simp only [LZ,zo,zc,reduceCtorEq,reduceIte,zz1,zz2,zz3,zz4,zz5,zz6,zz7,zz8,zz9,zza,zzb,zzc,zzd,zze,zzf,List.length_nil,Nat.zero_add] <;> exact rfl)),by rw [bL_app];exact (by first | exact rfl | assumption | (simp only [LZ,zo,zc,reduceCtorEq,reduceIte,zz1,zz2,zz3,zz4,zz5,zz6,zz7,zz8,zz9,zza,zzb,zzc,zzd,zze,zzf,hb0,List.nil_append] <;> exact rfl)),(Yq1 @hmd)⟩)
    · refine Yr1 (fa10 @e1 @e9 @hmd @a1 @a2 @a3 @x1 @x2 @x3 @h0) ?_;intro K hK
      (repeat' apply And.intro) <;> first | omega | (unfold maxLen;omega) | ((refine hK _ ?_;clear hK K;try refine Wh0 ?_);exact ⟨(Yq1 (fa2 @e1 @bytesL'.eq_1)),(Yq1 @e2),(Yq1 (fa2 @e3 @byL.eq_1)),(Yq1 @e4),(Yq1 (fa7 @b4 @recL.eq_1 @nodeL.eq_1 @piecesL.eq_1 @attrsL.eq_1 @acesL.eq_1 @rowL.eq_1)),(Yq1 (fa2 @e9 @bytesL'.eq_1)),by rw [hBl];exact (by first | exact rfl | assumption | (simp only [LZ,zo,zc,reduceCtorEq,reduceIte,zz1,zz2,zz3,zz4,zz5,zz6,zz7,zz8,zz9,zza,zzb,zzc,zzd,zze,zzf,e1] <;> exact rfl)),by rw [bL_app];exact (Yq1 @e1),(Yq1 @hmd)⟩)
  clear e1 e2 e3 e4 b4 e9 hmd st
  rintro st ⟨e1,e2,e3,e4,b4,e9,e11,a49,hmd⟩
  have hxp : 0 < X.length := hpne
  obtain ⟨kk,hkk⟩ : ∃ kk,kk = uI at' % X.length := ⟨_,rfl⟩
  have hkl : kk < X.length := by rw [hkk];exact Nat.mod_lt _ hxp
  have hb1 := back_same hm htm ahead
  have hb2 := back_cut hm htm ahead (k := kk) (by rw [hX];exact hkl)
  rw [hX] at hb1 hb2
  have g1 := rgetB_S (ahead ++ X) (by omega) (ahead.length : Int)
  rw [hb1] at g1
  have g2 := rgetSub_S (ahead ++ X) (by omega) (ahead.length + kk) (by omega) (ahead.length : Int)
  rw [hb2] at g2
  have cs := recsame_L r r ho ho
  rw [decide_eq_true rfl] at cs
  simp only [recW,nodeW,List.cons_append,List.nil_append] at g1 g2
  simp only [recL,nodeL,attrsL,acesL,piecesL,rowL,List.cons_append,List.nil_append] at cs b4
  simp only [bytesL'] at e1 e9
  generalize hB : ahead ++ X = B at *
  have hBn : B.length = ahead.length + X.length := by rw [← hB];exact List.length_append
  (repeat (first | refine LW_seq ?_ | (refine LW_skip ?_;simp only [LSj,reduceIte,zze]) | refine LW_block ?_));refine LW_regionO [(58,⟨_,_,_,_,_,[(49,3000)],[(3000,49),(2001,1001),(2002,1002),(2003,1003)],_,[2000049],(g1).toS,rfl,rfl,rfl⟩)] ?_;intro K hK;simp only [LZ,zo,zc,reduceCtorEq,reduceIte,zz1,zz2,zz3,zz4,zz5,zz6,zz7,zz8,zz9,zza,zzb,zzc,zzd,zze,zzf,e1,e11,a49,hmd]
  refine hK _ ?_;clear hK K;try refine Wh0 ?_
  refine LW_slim (fun st => st.env 1 = bytesL' ahead ∧ st.env 2 = intL at' ∧ st.env 3 = byL c ∧ st.env 4 = .ptr 4 0 ∧ st.box 4 = some (recL r) ∧ st.env 9 = bytesL' X ∧ st.env 11 = .bsl 49 B.length 5 ∧ st.arr 49 = some (bL B) ∧ st.env 12 = .ptr 12 0 ∧ st.box 12 = some (recW r (.row 1001) (.row 1002) (.row 1003)) ∧ st.env 13 = intL B.length ∧ st.env 14 = intL 0 ∧ st.mode = fun d => d == 49 || d == 51 || d == 53) ⟨(Yq1 (fa2 @e1 @bytesL'.eq_1)),(Yq1 @e2),(Yq1 (fa2 @e3 @byL.eq_1)),(Yq1 @e4),(Yq1 (fa7 @b4 @recL.eq_1 @nodeL.eq_1 @piecesL.eq_1 @attrsL.eq_1 @acesL.eq_1 @rowL.eq_1)),(Yq1 (fa2 @e9 @bytesL'.eq_1)),(Yq1 @e11),Yq0,Yq0,(Yq1 (fa2 @recW.eq_1 @nodeW.eq_1)),Yq0,Yq0,(Yq1 @hmd)⟩ ?_
  clear e1 e2 e3 e4 b4 e9 e11 a49 hmd st
  rintro st ⟨e1,e2,e3,e4,b4,e9,e11,a49,e12,b12,e13,e14,hmd⟩
  simp only [recL,nodeL,attrsL,acesL,piecesL,rowL,List.cons_append,List.nil_append] at b4
  simp only [recW,nodeW,List.cons_append,List.nil_append] at b12
  simp only [bytesL'] at e1 e9
  refine Yr1 (fa7 @e4 @b4 @e11 @e12 @b12 @e13 @e14) ?_;intro K hK
  refine Yc1 (cs) (fa7 @e4 @b4 @e11 @e12 @b12 @e13 @e14) ?_
  refine hK _ ?_;clear hK K;try refine Wh0 ?_
  refine Yf0 ?_
  have hu1 := wuI at'
  have hu2 := wuN (n := X.length) (by omega)
  have hmod := nmod (uI at') X.length (X.length : Int) rfl
  rw [← hkk] at hmod
  have hx0n : ¬ ((X.length : Int) = 0) := by omega
  have hwk : IntKind.i64.wrap (kk : Int) = (kk : Int) := w64 (by omega)
  have hwa : IntKind.i64.wrap ((ahead.length : Int) + (kk : Int)) = ((ahead.length + kk : Nat) : Int) := by rw [show (ahead.length : Int) + (kk : Int) = ((ahead.length + kk : Nat) : Int) by omega];exact w64 (by omega)
  refine Yg1 (fa9 @e1 @e2 @e9 @hu1 @hu2 @hmod @hx0n @hwk @hwa) ?_
  refine LW_slim (fun st => st.env 1 = bytesL' ahead ∧ st.env 3 = byL c ∧ st.env 4 = .ptr 4 0 ∧ st.box 4 = some (recL r) ∧ st.env 11 = .bsl 49 B.length 5 ∧ st.arr 49 = some (bL B) ∧ st.env 15 = intL ((ahead.length + kk : Nat) : Int) ∧ st.mode = fun d => d == 49 || d == 51 || d == 53) ⟨(Yq1 (fa2 @e1 @bytesL'.eq_1)),(Yq1 (fa2 @e3 @byL.eq_1)),(Yq1 @e4),(Yq1 (fa7 @b4 @recL.eq_1 @nodeL.eq_1 @piecesL.eq_1 @attrsL.eq_1 @acesL.eq_1 @rowL.eq_1)),(Yq1 @e11),(Yq1 @a49),Yq0,(Yq1 @hmd)⟩ ?_
  clear e1 e2 e3 e4 b4 e9 e11 a49 e12 b12 e13 e14 hmd st
  rintro st ⟨e1,e3,e4,b4,e11,a49,e15,hmd⟩
  simp only [recL,nodeL,attrsL,acesL,piecesL,rowL,List.cons_append,List.nil_append] at b4
  simp only [bytesL'] at e1
  have hk0 : (0 : Int) ≤ ((ahead.length + kk : Nat) : Int) := by omega
  have hkB : ((ahead.length + kk : Nat) : Int) ≤ (B.length : Int) := by omega
  have hkL : ahead.length + kk < B.length := by omega
  have hal : (bL B).length = B.length := bL_len B
  have hBn0 : ¬ (B.length = 0) := by omega
  simp only [zeroRec,zeroN,List.length_nil,List.flatMap_nil] at g2
  (repeat (first | refine LW_seq ?_ | (refine LW_skip ?_;simp only [LSj,reduceIte,zze]) | refine LW_block ?_));refine LW_regionO [(92,⟨_,_,_,_,_,[(49,3000)],[(3000,49),(2001,1001),(2002,1002),(2003,1003)],_,[2000049],(g2).toS,rfl,rfl,rfl⟩)] ?_;intro K hK;simp only [LZ,zo,zc,reduceCtorEq,reduceIte,zz1,zz2,zz3,zz4,zz5,zz6,zz7,zz8,zz9,zza,zzb,zzc,zzd,zze,zzf,e1,e11,a49,e15,hk0,hkB,hal,hmd,hBn0,Nat.sub_zero]
  refine hK _ ?_;clear hK K;try refine Wh0 ?_
  refine Yg1 @e1 ?_
  refine Yf0 ?_
  obtain ⟨was,hwas⟩ := get_of_lt hkL
  have hwX : (putRec r)[kk]? = some was := by
    rw [hX,← hwas,← hB,List.getElem?_append_right (by omega),Nat.add_sub_cancel_left]
  have hd := bL_get hwas
  simp only [byL] at hd
  have hset := set_bL B (ahead.length + kk) c hkL
  simp only [byL] at hset
  obtain ⟨B2,hB2⟩ : ∃ B2,B2 = B.set (ahead.length + kk) c := ⟨_,rfl⟩
  rw [← hB2] at hset
  have hB2l : B2.length = B.length := by rw [hB2];exact List.length_set
  have hturn := fun u i j (h : getRec B2 ahead.length = (u,i,j)) => back_turn hm htm ahead (c := c) hwX (u := u) (i := i) (j := j) (by rw [hX,hB,← hB2];exact h)
  have g3 := rgetB_S B2 (by omega) (ahead.length : Int)
  have hsm : small (getRec B2 ahead.length).1.node := getRec_small B2 ahead.length
  generalize getRec B2 ahead.length = q at *
  obtain ⟨u,i3,j3⟩ := q
  have hturn := hturn u i3 j3 rfl
  rw [hX,hB] at hturn
  simp only at g3 hsm
  simp only [recW,nodeW,List.cons_append,List.nil_append,hB2l] at g3
  have cs3 := recsame_L u r (small_okLen hsm) ho
  simp only [recL,nodeL,attrsL,acesL,piecesL,rowL,List.cons_append,List.nil_append] at cs3
  refine Yg1 (fa7 @e11 @a49 @e15 @hk0 @hkL @hd @hal) ?_
  refine Yr1 (fa9 @e3 @e11 @a49 @e15 @hk0 @hkL @hd @hal @byL.eq_1) ?_;intro K hK
  refine ⟨by omega,?_⟩
  refine hK _ ?_;clear hK K;try refine Wh0 ?_
  refine LW_slim (fun st => st.env 1 = bytesL' ahead ∧ st.env 3 = byL c ∧ st.env 4 = .ptr 4 0 ∧ st.box 4 = some (recL r) ∧ st.env 11 = .bsl 49 B.length 5 ∧ st.arr 49 = some (bL B2) ∧ st.env 19 = byL was ∧ st.mode = fun d => d == 49 || d == 51 || d == 53) ⟨(Yq1 (fa2 @e1 @bytesL'.eq_1)),(Yq1 (fa2 @e3 @byL.eq_1)),(Yq1 @e4),(Yq1 (fa7 @b4 @recL.eq_1 @nodeL.eq_1 @piecesL.eq_1 @attrsL.eq_1 @acesL.eq_1 @rowL.eq_1)),(Yq1 @e11),?_,(Yq1 @byL.eq_1),(Yq1 @hmd)⟩ ?_
  · simp only [LZ,zo,zc,reduceCtorEq,reduceIte,zz1,zz2,zz3,zz4,zz5,zz6,zz7,zz8,zz9,zza,zzb,zzc,zzd,zze,zzf]
    rw [List.append_assoc]
    exact hset
  clear e1 e3 e4 b4 e11 a49 e15 hmd st
  rintro st ⟨e1,e3,e4,b4,e11,a49,e19,hmd⟩
  simp only [recL,nodeL,attrsL,acesL,piecesL,rowL,List.cons_append,List.nil_append] at b4
  simp only [bytesL'] at e1
  simp only [byL] at e3 e19
  (repeat (first | refine LW_seq ?_ | (refine LW_skip ?_;simp only [LSj,reduceIte,zze]) | refine LW_block ?_));refine LW_regionO [(116,⟨_,_,_,_,_,[(49,3000)],[(3000,49),(2001,1001),(2002,1002),(2003,1003)],_,[2000049],(g3).toS,rfl,rfl,rfl⟩)] ?_;intro K hK;simp only [LZ,zo,zc,reduceCtorEq,reduceIte,zz1,zz2,zz3,zz4,zz5,zz6,zz7,zz8,zz9,zza,zzb,zzc,zzd,zze,zzf,e1,e11,a49,hmd]
  refine hK _ ?_;clear hK K;try refine Wh0 ?_
  refine LW_slim (fun st => st.env 3 = byL c ∧ st.env 4 = .ptr 4 0 ∧ st.box 4 = some (recL r) ∧ st.env 11 = .bsl 49 B.length 5 ∧ st.env 19 = byL was ∧ st.env 20 = .ptr 20 0 ∧ st.box 20 = some (recW u (.row 1001) (.row 1002) (.row 1003)) ∧ st.env 21 = intL i3 ∧ st.env 22 = intL j3 ∧ st.mode = fun d => d == 49 || d == 51 || d == 53) ⟨(Yq1 (fa2 @e3 @byL.eq_1)),(Yq1 @e4),(Yq1 (fa7 @b4 @recL.eq_1 @nodeL.eq_1 @piecesL.eq_1 @attrsL.eq_1 @acesL.eq_1 @rowL.eq_1)),(Yq1 @e11),(Yq1 (fa2 @e19 @byL.eq_1)),Yq0,(Yq1 (fa2 @recW.eq_1 @nodeW.eq_1)),Yq0,Yq0,(Yq1 @hmd)⟩ ?_
  clear e1 e3 e4 b4 e11 a49 e19 hmd st
  rintro st ⟨e3,e4,b4,e11,e19,e20,b20,e21,e22,hmd⟩
  simp only [recL,nodeL,attrsL,acesL,piecesL,rowL,List.cons_append,List.nil_append] at b4
  simp only [recW,nodeW,List.cons_append,List.nil_append] at b20
  simp only [byL] at e3 e19
  have hcn : c = was ↔ (c.toNat : Int) = (was.toNat : Int) := ⟨fun h => by rw [h],fun h => UInt8.toNat_inj.1 (by omega)⟩
  by_cases j0 : j3 = 0
  · subst j0
    by_cases i0 : i3 = (B.length : Int)
    · subst i0
      by_cases hcw : c = was
      · have hci : ((c.toNat : Int) = (was.toNat : Int)) = True := eq_true (hcn.1 hcw)
        have hur : decide (u = r) = true := by
          rw [decide_eq_true hcw] at hturn
          simpa using hturn
        rw [hur] at cs3
        refine Yr1 (fa10 @e3 @e4 @b4 @e11 @e19 @e20 @b20 @e21 @e22 @hci) ?_;intro K hK
        refine Yc1 (t0) (fa10 @e3 @e4 @b4 @e11 @e19 @e20 @b20 @e21 @e22 @hci) ?_
        refine Yc1 (cs3) (fa10 @e3 @e4 @b4 @e11 @e19 @e20 @b20 @e21 @e22 @hci) ?_
        refine hK _ ?_;clear hK K;try refine Wh0 ?_
        refine Ye0 ?_;try (with_reducible exact trivial)
      · have hci : ¬ ((c.toNat : Int) = (was.toNat : Int)) := fun h => hcw (hcn.2 h)
        have hur : decide (u = r) = false := by
          rw [decide_eq_false hcw] at hturn
          simpa using hturn
        rw [hur] at cs3
        refine Yr1 (fa10 @e3 @e4 @b4 @e11 @e19 @e20 @b20 @e21 @e22 @hci) ?_;intro K hK
        refine Yc1 (t0) (fa10 @e3 @e4 @b4 @e11 @e19 @e20 @b20 @e21 @e22 @hci) ?_
        refine Yc1 (cs3) (fa10 @e3 @e4 @b4 @e11 @e19 @e20 @b20 @e21 @e22 @hci) ?_
        refine hK _ ?_;clear hK K;try refine Wh0 ?_
        refine Ye0 ?_;try (with_reducible exact trivial)
    · refine Yr1 (fa10 @e3 @e4 @b4 @e11 @e19 @e20 @b20 @e21 @e22 @i0) ?_;intro K hK
      refine Yc1 (t0) (fa10 @e3 @e4 @b4 @e11 @e19 @e20 @b20 @e21 @e22 @i0) ?_
      refine hK _ ?_;clear hK K;try refine Wh0 ?_
      refine Ye0 ?_;try (with_reducible exact trivial)
  · have hcw : ¬ (c = was) := by
      intro h
      rw [decide_eq_false j0,decide_eq_true h] at hturn
      simp at hturn
    have hci : ¬ ((c.toNat : Int) = (was.toNat : Int)) := fun h => hcw (hcn.2 h)
    refine Yr1 (fa11 @e3 @e4 @b4 @e11 @e19 @e20 @b20 @e21 @e22 @j0 @hci) ?_;intro K hK
    refine Yc1 (t0) (fa11 @e3 @e4 @b4 @e11 @e19 @e20 @b20 @e21 @e22 @j0 @hci) ?_
    refine hK _ ?_;clear hK K;try refine Wh0 ?_
    refine Ye0 ?_;try (with_reducible exact trivial)
end Go.Proofs.YteamlijbkldlhaaDoor
