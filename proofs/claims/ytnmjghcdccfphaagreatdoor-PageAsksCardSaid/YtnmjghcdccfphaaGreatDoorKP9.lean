import Derived.Test.YtnmjghcdccfphaaGreatDoorKP6
section
set_option linter.unusedSimpArgs false
set_option linter.unusedVariables false
namespace Go.Proofs.YtnmjghcdccfphaaGreatDoor
open Go.RowKit Go.Proofs AclSpec MetaSpec NodeSpec RecSpec PathSpec PageSpec

def oR (p : List UInt8) (l : Int) : Rec := ⟨p,l,zeroN,0⟩
def oP : Pg := ⟨true,[oR [] 1,oR [97] 0],[],[]⟩
def oQ : Pg := ⟨false,[],[[97]],[3]⟩
theorem oP_may : mayPg oP = true := by decide +kernel
theorem oQ_may : mayPg oQ = true := by decide +kernel
theorem oZ_may : mayPg zeroPg = false := by decide +kernel
theorem oP_put : putPg oP = [1,2,0,1,0,1,97,0,0] := by
 unfold putPg
 rw [if_pos (by rfl)]
 show 1 :: (putU 2 ++ (putRec (oR [] 1) ++ (putRec (oR [97] 0) ++ []))) = _
 have h1 : putRec (oR [] 1) = [0,1,0] := by
  unfold putRec putN putT putI
  rw [if_pos (by rfl)]
  show putU 0 ++ [] ++ putU (uI 1) ++ [0] = _
  rw [show uI 1 = 1 from rfl,putU_lo (by omega),putU_lo (by omega)];rfl
 have h2 : putRec (oR [97] 0) = [1,97,0,0] := by
  unfold putRec putN putT putI
  rw [if_pos (by rfl)]
  show putU 1 ++ [97] ++ putU (uI 0) ++ [0] = _
  rw [show uI 0 = 0 from rfl,putU_lo (by omega),putU_lo (by omega)];rfl
 rw [h1,h2,putU_lo (by omega)];rfl
theorem oQ_put : putPg oQ = [2,1,1,97,3] := by
 unfold putPg
 rw [if_neg (by decide)]
 show 2 :: (putU 1 ++ (putT [97] ++ putI 3 ++ [])) = _
 unfold putT putI
 show 2 :: (putU 1 ++ (putU 1 ++ [97] ++ putU (uI 3) ++ [])) = _
 rw [show uI 3 = 3 from rfl,putU_lo (by omega),putU_lo (by omega)];rfl
theorem o_small {p : Pg} (h : p = oP ∨ p = oQ ∨ p = zeroPg) : SmallP p ∧ okTime p ∧ okPg p := by
 have hz : small zeroN := tsmall (.inr (.inr rfl))
 rcases h with rfl | rfl | rfl
 ·refine ⟨⟨by decide,by decide,by decide,fun r hr => ?_,(fun k hk => by cases hk)⟩,fun r hr => ?_,by decide,by decide,by decide,fun r hr => ?_⟩ <;>
  ·simp only [oP,List.mem_cons,List.not_mem_nil,or_false] at hr
   rcases hr with rfl | rfl <;> first | exact ⟨by decide,hz⟩ | exact small_okLen hz | (show (0 : Int) < _;decide)
 ·refine ⟨⟨by decide,by decide,by decide,(fun r hr => by cases hr),fun k hk => ?_⟩,(fun r hr => by cases hr),by decide,by decide,by decide,(fun r hr => by cases hr)⟩
  simp only [oQ,List.mem_cons,List.not_mem_nil,or_false] at hk
  rw [hk];decide
 ·exact ⟨⟨by decide,by decide,by decide,(fun r hr => by cases hr),(fun k hk => by cases hk)⟩,(fun r hr => by cases hr),by decide,by decide,by decide,(fun r hr => by cases hr)⟩
theorem o_nil : getPg [] = (zeroPg,3) := parse_bad (by simp)
set_option maxRecDepth 100000 in
set_option maxHeartbeats 8000000 in
theorem ptold_L : LCalls Tryz.prog 5 [] (boolL true) := by
 obtain ⟨sP,tP,lP⟩ := o_small (p := oP) (.inl rfl)
 obtain ⟨sQ,tQ,lQ⟩ := o_small (p := oQ) (.inr (.inl rfl))
 obtain ⟨sZ,tZ,lZ⟩ := o_small (p := zeroPg) (.inr (.inr rfl))
 have c1 := pput_L oP sP tP
 rw [show pputP oP = ([1,2,0,1,0,1,97,0,0],0) by unfold pputP;rw [if_pos oP_may,oP_put]] at c1
 have c2 := pgetPg_L [1,2,0,1,0,1,97,0,0] (by decide)
 rw [← oP_put,page_back oP_may tP,oP_put] at c2
 have c3 := pput_L oQ sQ tQ
 rw [show pputP oQ = ([2,1,1,97,3],0) by unfold pputP;rw [if_pos oQ_may,oQ_put]] at c3
 have c4 := pgetPg_L [] (by decide)
 rw [o_nil] at c4
 have c5 := pput_L zeroPg sZ tZ
 rw [show pputP zeroPg = ([],1) by unfold pputP;rw [oZ_may];rfl] at c5
 have c6 := psame_L oP oP lP lP
 rw [decide_eq_true rfl] at c6
 have c7 := pfirst_L oQ sQ
 rw [show firstPg oQ = [97] by unfold firstPg;rw [oQ_may];rfl] at c7
 have c8 := pfirst_L zeroPg sZ
 rw [show firstPg zeroPg = [] by unfold firstPg;rw [oZ_may];rfl] at c8
 have c9 := ppmay_L oP sP
 rw [oP_may] at c9
 have cA := ppmay_L oQ sQ
 rw [oQ_may] at cA
 have cB := psame_L oP oQ lP lQ
 rw [show decide (oP = oQ) = false by decide] at cB
 simp only [oP,oQ,oR,zeroPg,zeroN,zeroRec,pgL,strsL,intsL,strE,intE,recL,bytesL',bL,nodeL,attrsL,acesL,piecesL,rowL,pieceL,List.map_cons,List.map_nil,List.flatMap_cons,List.flatMap_nil,List.cons_append,List.nil_append,List.append_nil,List.length_cons,List.length_nil,Nat.reduceAdd] at c1 c2 c3 c4 c5 c6 c7 c8 c9 cA cB
 refine LCalls.of (fun _ => false) Tryz.func5 rfl (by decide) Tryz.ntmps5 Tryz.results5 (by simp) ?_
 intro w0 S0 vs hgl hwf0 hsz hvs;clear hsz hvs hwf0 hgl
 refine Yg0 ?_
 refine Yr0 ?_;intro K hK
 refine Yc0 (c1) ?_
 refine hK _ ?_;clear hK K;try refine Wh0 ?_
 refine Yr0 ?_;intro K hK
 refine Yc0 (c2) ?_
 refine hK _ ?_;clear hK K;try refine Wh0 ?_
 refine Yr0 ?_;intro K hK
 refine Yc0 (c3) ?_
 refine hK _ ?_;clear hK K;try refine Wh0 ?_
 refine Yr0 ?_;intro K hK
 refine Yc0 (c4) ?_
 refine hK _ ?_;clear hK K;try refine Wh0 ?_
 refine Yr0 ?_;intro K hK
 refine Yc0 (c5) ?_
 refine hK _ ?_;clear hK K;try refine Wh0 ?_
 (repeat refine LW_seq ?_)
 refine LW_regionA (l := ?l) ?hl ?_
 case hl => (first | simp only [Array.append_eq_append,List.append_toArray,List.append_eq,List.cons_append,List.nil_append] | skip);exact rfl
 have hz1 : ((UInt8.toNat 1 : Nat) : Int) = 1 := rfl
 refine Yr1 @hz1 ?_;intro K hK
 refine Yc1 (c6) @hz1 ?_
 refine Yc1 (c7) @hz1 ?_
 refine Yc1 (c8) @hz1 ?_
 refine Yc1 (c9) @hz1 ?_
 refine Yc1 (cA) @hz1 ?_
 refine Yc1 (cB) @hz1 ?_
 refine hK _ ?_;clear hK K;try refine Wh0 ?_
 refine Ye0 ?_;try (with_reducible exact trivial)
end Go.Proofs.YtnmjghcdccfphaaGreatDoor
end
section
set_option linter.unusedSimpArgs false
set_option linter.unusedVariables false
namespace Go.Proofs.YtnmjghcdccfphaaGreatDoor
open Go.RowKit Go.Proofs AclSpec MetaSpec NodeSpec RecSpec PathSpec PageSpec

def fewPg (p : Pg) : Bool := p.recs.all fewR && (p.keys.all (fun k => decide (k.length ≤ 120)) && (decide (p.recs.length ≤ 8) && (decide (p.keys.length ≤ 8) && decide (p.pages.length ≤ 8))))
theorem fewPg_small {p : Pg} (h : fewPg p = true) : SmallP p := by
 unfold fewPg at h
 simp only [Bool.and_eq_true,decide_eq_true_eq,List.all_eq_true] at h
 obtain ⟨h1,h2,h3,h4,h5⟩ := h
 refine ⟨by omega,by omega,by omega,fun r hr => ?_,fun k hk => ?_⟩
 ·have := h1 r hr
  unfold fewR at this
  rw [Bool.and_eq_true,decide_eq_true_eq] at this
  exact ⟨by omega,(fewN_small this.2).1⟩
 ·have := h2 k hk;omega
set_option maxRecDepth 100000 in
set_option maxHeartbeats 4000000 in
theorem pfew_L (p : Pg) (ho : okPg p) : LCalls Tryz.prog 4 [.agg (pgL p)] (boolL (fewPg p)) := by
 obtain ⟨hl1,hl2,hl3,hok⟩ := ho
 unfold maxLen at hl1 hl2 hl3
 refine LCalls.of (fun _ => false) Tryz.func4 rfl (by decide) Tryz.ntmps4 Tryz.results4 (by simp) ?_
 intro w0 S0 vs hgl hwf0 hsz hvs;clear hsz hvs hwf0 hgl
 generalize hR : fewPg p = R
 unfold fewPg at hR
 generalize hp : (fun k : List UInt8 => decide (k.length ≤ 120)) = pk at hR
 refine Yg1 (fa4 @pgL.eq_1 @rowL.eq_1 @strsL.eq_1 @intsL.eq_1) ?_
 refine LW_joinB (fun st => st.env 1 = .ptr 1 0 ∧ st.box 1 = some (pgL p) ∧ p.recs.all fewR = true) ?_ ?_
 ·refine LW_loop (fun k st => ∃ i : Nat,k + i = p.recs.length ∧ st.env 1 = .ptr 1 0 ∧ st.box 1 = some (pgL p) ∧ st.env 3 = intL i ∧ (p.recs.take i).all fewR = true) p.recs.length ⟨0,by omega,rfl,(Yq1 (fa4 @pgL.eq_1 @rowL.eq_1 @strsL.eq_1 @intsL.eq_1)),rfl,rfl⟩ ?_
  rintro k st ⟨i,hn,e1,b1,e3,hall⟩
  simp only [pgL,rowL,strsL,intsL] at b1
  by_cases hlt : i < p.recs.length
  rotate_left
  ·refine Yg1 (fa4 @e1 @b1 @e3 @hlt) ?_
   refine Yf1 @hlt ?_
   refine LW_exit ?_;simp only [thenL,jumpsL,inBlockL,twoL,reduceIte,Nat.reduceEqDiff]
   rw [List.take_of_length_le (by omega)] at hall
   exact ⟨(Yq1 @e1),(Yq1 (fa5 @b1 @pgL.eq_1 @rowL.eq_1 @strsL.eq_1 @intsL.eq_1)),hall⟩
  obtain ⟨a,ha⟩ := get_of_lt hlt
  have hd := drop_rec ha
  have cf := rfew_L a (hok a (List.mem_of_getElem? ha))
  simp only [recL,nodeL,attrsL,acesL,piecesL,rowL,List.cons_append,List.nil_append] at cf hd
  have hw := w64s (n := i) (by omega)
  have hip : (0 : Int) ≤ (i : Int) := by omega
  have hs := all_take_succ (p := fewR) ha
  have hfa : fewR a = (decide (a.path.length ≤ 120) && fewN a.node) := rfl
  refine Yg1 (fa4 @e1 @b1 @e3 @hlt) ?_
  refine Yt1 @hlt ?_
  cases g1 : fewR a
  ·rw [← hfa,g1] at cf
   refine Yr1 (fa6 @e1 @b1 @e3 @hlt @hip @hd) ?_;intro K hK
   refine Yc0 (cf) ?_
   refine hK _ ?_;clear hK K;try refine Wh0 ?_
   refine Yt0 ?_
   refine Yg0 ?_
   refine Ye0 ?_;try (with_reducible exact trivial)
   rw [← hR,all_false_of ha g1];rfl
  ·rw [← hfa,g1] at cf
   refine Yr1 (fa6 @e1 @b1 @e3 @hlt @hip @hd) ?_;intro K hK
   refine Yc0 (cf) ?_
   refine hK _ ?_;clear hK K;try refine Wh0 ?_
   refine Yf0 ?_
   refine Yg1 (fa2 @e3 @hw) ?_
   exact ⟨k - 1,by omega,i + 1,by omega,(Yq1 @e1),(Yq1 (fa5 @b1 @pgL.eq_1 @rowL.eq_1 @strsL.eq_1 @intsL.eq_1)),Yq0,by rw [hs,hall,g1];rfl⟩
 rintro st ⟨e1,b1,hall⟩
 rw [hall,Bool.true_and] at hR
 refine Yg1 @e1 ?_
 refine LW_joinB (fun st => st.env 1 = .ptr 1 0 ∧ st.box 1 = some (pgL p) ∧ p.keys.all pk = true) ?_ ?_
 ·refine LW_loop (fun k st => ∃ i : Nat,k + i = p.keys.length ∧ st.env 1 = .ptr 1 0 ∧ st.box 1 = some (pgL p) ∧ st.env 4 = intL i ∧ (p.keys.take i).all pk = true) p.keys.length ⟨0,by omega,(Yq1 @e1),(Yq1 @b1),Yq0,rfl⟩ ?_
  clear e1 b1 st
  rintro k st ⟨i,hn,e1,b1,e4,hall2⟩
  simp only [pgL,rowL,strsL,intsL] at b1
  by_cases hlt : i < p.keys.length
  rotate_left
  ·refine Yg1 (fa4 @e1 @b1 @e4 @hlt) ?_
   refine Yf1 @hlt ?_
   refine LW_exit ?_;simp only [thenL,jumpsL,inBlockL,twoL,reduceIte,Nat.reduceEqDiff]
   rw [List.take_of_length_le (by omega)] at hall2
   exact ⟨(Yq1 @e1),(Yq1 (fa5 @b1 @pgL.eq_1 @rowL.eq_1 @strsL.eq_1 @intsL.eq_1)),hall2⟩
  obtain ⟨a,ha⟩ := get_of_lt hlt
  have hd := drop_str ha
  have hw := w64s (n := i) (by omega)
  have hip : (0 : Int) ≤ (i : Int) := by omega
  have hs := all_take_succ (p := pk) ha
  refine Yg1 (fa4 @e1 @b1 @e4 @hlt) ?_
  refine Yt1 @hlt ?_
  by_cases g1 : (120 : Int) < a.length
  ·refine Yg1 (fa7 @e1 @b1 @e4 @hlt @hip @hd @g1) ?_
   refine Yt1 @g1 ?_
   refine Yg0 ?_
   refine Ye0 ?_;try (with_reducible exact trivial)
   have hpf : pk a = false := by rw [← hp];simp only;rw [decide_eq_false (by omega)]
   rw [← hR,all_false_of ha hpf];rfl
  ·refine Yg1 (fa7 @e1 @b1 @e4 @hlt @hip @hd @g1) ?_
   refine Yf1 @g1 ?_
   refine Yg1 (fa2 @e4 @hw) ?_
   have hpt : pk a = true := by rw [← hp];simp only;rw [decide_eq_true (by omega)]
   exact ⟨k - 1,by omega,i + 1,by omega,(Yq1 @e1),(Yq1 (fa5 @b1 @pgL.eq_1 @rowL.eq_1 @strsL.eq_1 @intsL.eq_1)),Yq0,by rw [hs,hall2,hpt];rfl⟩
 clear e1 b1 st
 rintro st ⟨e1,b1,hall2⟩
 simp only [pgL,rowL,strsL,intsL] at b1
 rw [hall2,Bool.true_and] at hR
 by_cases g1 : (p.recs.length : Int) ≤ 8
 ·rw [decide_eq_true (by omega),Bool.true_and] at hR
  by_cases g2 : (p.keys.length : Int) ≤ 8
  ·rw [decide_eq_true (by omega),Bool.true_and] at hR
   by_cases g3 : (p.pages.length : Int) ≤ 8
   ·rw [decide_eq_true (by omega)] at hR
    refine Yg1 (fa5 @e1 @b1 @g1 @g2 @g3) ?_
    refine Ye0 ?_;try (with_reducible exact trivial)
    exact hR
   ·rw [decide_eq_false (by omega)] at hR
    refine Yg1 (fa5 @e1 @b1 @g1 @g2 @g3) ?_
    refine Ye0 ?_;try (with_reducible exact trivial)
    exact hR
  ·rw [decide_eq_false (by omega),Bool.false_and] at hR
   refine Yg1 (fa4 @e1 @b1 @g1 @g2) ?_
   refine Ye0 ?_;try (with_reducible exact trivial)
   exact hR
 ·rw [decide_eq_false (by omega),Bool.false_and] at hR
  refine Yg1 (fa3 @e1 @b1 @g1) ?_
  refine Ye0 ?_;try (with_reducible exact trivial)
  exact hR
end Go.Proofs.YtnmjghcdccfphaaGreatDoor
end
section
set_option linter.unusedSimpArgs false
set_option linter.unusedVariables false
namespace Go.Proofs.YtnmjghcdccfphaaGreatDoor
open Go.RowKit Go.Proofs AclSpec MetaSpec NodeSpec RecSpec PathSpec PageSpec

theorem readRs_okLen {b : List UInt8} : ∀ {n : Nat} {i : Int} {q : List Rec × Int},readRs b n i = some q → q.1.length = n ∧ ∀ r ∈ q.1,okLen r.node
 | 0,i,q,h => by cases h;exact ⟨rfl,fun r hr => by cases hr⟩
 | n + 1,i,q,h => by
  rw [readRs.eq_def] at h
  simp only at h
  split at h
  ·obtain ⟨q',hq,rfl⟩ := Option.map_eq_some_iff.1 h
   obtain ⟨h1,h2⟩ := readRs_okLen hq
   refine ⟨by simp [h1],fun r hr => ?_⟩
   rcases List.mem_cons.1 hr with rfl | hr
   ·exact small_okLen (getRec_small' b i)
   ·exact h2 r hr
  ·cases h
theorem getPg_ok (b : List UInt8) : okPg (getPg b).1 := by
 rcases get_code b with h | h
 ·obtain ⟨q,c,hq⟩ : ∃ q c,getPg b = (q,c) := ⟨_,_,rfl⟩
  rw [hq] at h ⊢
  have h : c = 0 := h
  subst h
  obtain ⟨hm,_,_⟩ := get_inv hq
  have hr : ∀ r ∈ q.recs,okLen r.node := by
   unfold getPg at hq
   split at hq
   ·rename_i x hx
    split at hq
    ·have he : x.1 = q := congrArg (fun y => y.1) hq
     subst he
     unfold parsePg at hx
     split at hx
     ·split at hx
      ·obtain ⟨y,hy,rfl⟩ := Option.map_eq_some_iff.1 hx
       exact (readRs_okLen hy).2
      ·obtain ⟨y,hy,rfl⟩ := Option.map_eq_some_iff.1 hx
       exact fun r hr => by cases hr
     ·cases hx
    ·exact absurd (congrArg (fun y => y.2) hq) (by show ¬ (3 : Int) = 0;decide)
   ·exact absurd (congrArg (fun y => y.2) hq) (by show ¬ (3 : Int) = 0;decide)
  unfold mayPg at hm
  show okPg q
  by_cases hl : q.leaf = true
  ·rw [if_pos hl] at hm
   obtain ⟨_,h2,h3,h4,_⟩ := mayLeaf_parts hm
   exact ⟨by unfold maxLen;omega,by rw [h3];decide,by rw [h4];decide,hr⟩
  ·rw [if_neg hl] at hm
   obtain ⟨_,h2,h3,h4,_⟩ := mayInner_parts hm
   exact ⟨by rw [h4];decide,by unfold maxLen;omega,by unfold maxLen;omega,hr⟩
 ·rw [h]
  exact (o_small (p := zeroPg) (.inr (.inr rfl))).2.2
end Go.Proofs.YtnmjghcdccfphaaGreatDoor
end
