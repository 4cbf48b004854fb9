import Derived.Test.YteamlijbkldlhaaGreatDoorKP6
set_option linter.unusedSimpArgs false
set_option linter.unusedVariables false
namespace Go.Proofs.YteamlijbkldlhaaGreatDoor
open Go.RowKit Go.Proofs AclSpec MetaSpec NodeSpec RecSpec PathSpec PageSpec

def oR (p : List UInt8) (l : Int) : Rec := ⟨p,l,zeroN,0⟩
def oP : Pg := ⟨true,[oR [] 1,oR [97] 0],[],[]⟩
def oQ : Pg := ⟨false,[],[[97]],[3]⟩
theorem oP_may : mayPg oP = true := by decide +kernel
theorem oQ_may : mayPg oQ = true := by decide +kernel
theorem oZ_may : mayPg zeroPg = false := by decide +kernel
theorem oP_put : putPg oP = [1,2,0,1,0,1,97,0,0] := by
 unfold putPg
 rw [if_pos (by rfl)]
 show 1 :: (putU 2 ++ (putRec (oR [] 1) ++ (putRec (oR [97] 0) ++ []))) = _
 have h1 : putRec (oR [] 1) = [0,1,0] := by
  unfold putRec putN putT putI
  rw [if_pos (by rfl)]
  show putU 0 ++ [] ++ putU (uI 1) ++ [0] = _
  rw [show uI 1 = 1 from rfl,putU_lo (by omega),putU_lo (by omega)];rfl
 have h2 : putRec (oR [97] 0) = [1,97,0,0] := by
  unfold putRec putN putT putI
  rw [if_pos (by rfl)]
  show putU 1 ++ [97] ++ putU (uI 0) ++ [0] = _
  rw [show uI 0 = 0 from rfl,putU_lo (by omega),putU_lo (by omega)];rfl
 rw [h1,h2,putU_lo (by omega)];rfl
theorem oQ_put : putPg oQ = [2,1,1,97,3] := by
 unfold putPg
 rw [if_neg (by decide)]
 show 2 :: (putU 1 ++ (putT [97] ++ putI 3 ++ [])) = _
 unfold putT putI
 show 2 :: (putU 1 ++ (putU 1 ++ [97] ++ putU (uI 3) ++ [])) = _
 rw [show uI 3 = 3 from rfl,putU_lo (by omega),putU_lo (by omega)];rfl
theorem o_small {p : Pg} (h : p = oP ∨ p = oQ ∨ p = zeroPg) : SmallP p ∧ okTime p ∧ okPg p := by
 have hz : small zeroN := tsmall (.inr (.inr rfl))
 rcases h with rfl | rfl | rfl
 ·refine ⟨⟨by decide,by decide,by decide,fun r hr => ?_,(fun k hk => by cases hk)⟩,fun r hr => ?_,by decide,by decide,by decide,fun r hr => ?_⟩ <;>
  ·simp only [oP,List.mem_cons,List.not_mem_nil,or_false] at hr
   rcases hr with rfl | rfl <;> first | exact ⟨by decide,hz⟩ | exact small_okLen hz | (show (0 : Int) < _;decide)
 ·refine ⟨⟨by decide,by decide,by decide,(fun r hr => by cases hr),fun k hk => ?_⟩,(fun r hr => by cases hr),by decide,by decide,by decide,(fun r hr => by cases hr)⟩
  simp only [oQ,List.mem_cons,List.not_mem_nil,or_false] at hk
  rw [hk];decide
 ·exact ⟨⟨by decide,by decide,by decide,(fun r hr => by cases hr),(fun k hk => by cases hk)⟩,(fun r hr => by cases hr),by decide,by decide,by decide,(fun r hr => by cases hr)⟩
theorem o_nil : getPg [] = (zeroPg,3) := parse_bad (by simp)
set_option maxRecDepth 100000 in
set_option maxHeartbeats 8000000 in
theorem ptold_L : LCalls Tryz.prog 15 [] (boolL true) := by
 obtain ⟨sP,tP,lP⟩ := o_small (p := oP) (.inl rfl)
 obtain ⟨sQ,tQ,lQ⟩ := o_small (p := oQ) (.inr (.inl rfl))
 obtain ⟨sZ,tZ,lZ⟩ := o_small (p := zeroPg) (.inr (.inr rfl))
 have c1 := pput_L oP sP tP
 rw [show pputP oP = ([1,2,0,1,0,1,97,0,0],0) by unfold pputP;rw [if_pos oP_may,oP_put]] at c1
 have c2 := pgetPg_L [1,2,0,1,0,1,97,0,0] (by decide)
 rw [← oP_put,page_back oP_may tP,oP_put] at c2
 have c3 := pput_L oQ sQ tQ
 rw [show pputP oQ = ([2,1,1,97,3],0) by unfold pputP;rw [if_pos oQ_may,oQ_put]] at c3
 have c4 := pgetPg_L [] (by decide)
 rw [o_nil] at c4
 have c5 := pput_L zeroPg sZ tZ
 rw [show pputP zeroPg = ([],1) by unfold pputP;rw [oZ_may];rfl] at c5
 have c6 := psame_L oP oP lP lP
 rw [decide_eq_true rfl] at c6
 have c7 := pfirst_L oQ sQ
 rw [show firstPg oQ = [97] by unfold firstPg;rw [oQ_may];rfl] at c7
 have c8 := pfirst_L zeroPg sZ
 rw [show firstPg zeroPg = [] by unfold firstPg;rw [oZ_may];rfl] at c8
 have c9 := ppmay_L oP sP
 rw [oP_may] at c9
 have cA := ppmay_L oQ sQ
 rw [oQ_may] at cA
 have cB := psame_L oP oQ lP lQ
 rw [show decide (oP = oQ) = false by decide] at cB
 simp only [oP,oQ,oR,zeroPg,zeroN,zeroRec,pgL,strsL,intsL,strE,intE,recL,bytesL',bL,nodeL,attrsL,acesL,piecesL,rowL,pieceL,List.map_cons,List.map_nil,List.flatMap_cons,List.flatMap_nil,List.cons_append,List.nil_append,List.append_nil,List.length_cons,List.length_nil,Nat.reduceAdd] at c1 c2 c3 c4 c5 c6 c7 c8 c9 cA cB
 refine LCalls.of (fun _ => false) Tryz.func15 rfl (by decide) Tryz.ntmps15 Tryz.results15 (by simp) ?_
 intro w0 S0 vs hgl hwf0 hsz hvs;clear hsz hvs hwf0 hgl
 refine Yg0 ?_
 refine Yr0 ?_;intro K hK
 refine Yc0 (c1) ?_
 refine hK _ ?_;clear hK K;try refine Wh0 ?_
 refine Yr0 ?_;intro K hK
 refine Yc0 (c2) ?_
 refine hK _ ?_;clear hK K;try refine Wh0 ?_
 refine Yr0 ?_;intro K hK
 refine Yc0 (c3) ?_
 refine hK _ ?_;clear hK K;try refine Wh0 ?_
 refine Yr0 ?_;intro K hK
 refine Yc0 (c4) ?_
 refine hK _ ?_;clear hK K;try refine Wh0 ?_
 refine Yr0 ?_;intro K hK
 refine Yc0 (c5) ?_
 refine hK _ ?_;clear hK K;try refine Wh0 ?_
 (repeat refine LW_seq ?_)
 refine LW_regionA (l := ?l) ?hl ?_
 case hl => (first | simp only [Array.append_eq_append,List.append_toArray,List.append_eq,List.cons_append,List.nil_append] | skip);exact rfl
 have hz1 : ((UInt8.toNat 1 : Nat) : Int) = 1 := rfl
 refine Yr1 @hz1 ?_;intro K hK
 refine Yc1 (c6) @hz1 ?_
 refine Yc1 (c7) @hz1 ?_
 refine Yc1 (c8) @hz1 ?_
 refine Yc1 (c9) @hz1 ?_
 refine Yc1 (cA) @hz1 ?_
 refine Yc1 (cB) @hz1 ?_
 refine hK _ ?_;clear hK K;try refine Wh0 ?_
 refine Ye0 ?_;try (with_reducible exact trivial)
end Go.Proofs.YteamlijbkldlhaaGreatDoor
