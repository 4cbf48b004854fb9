import Derived.Test.YtpficpldemickaaKTQ
import Derived.Test.YtpficpldemickaaKIT
import Derived.Test.YtpficpldemickaaIPart
set_option linter.unusedSimpArgs false
set_option linter.unusedVariables false
namespace Go.Proofs.Ytpficpldemickaa
open Nat renaming reduceAdd → zz1,reduceMul → zz2,reduceSub → zz3,reduceLT → zz4,reduceLeDiff → zz5,reduceEqDiff → zz6,reduceBEq → zzf
open Int renaming reduceAdd → zz7,reduceSub → zz8,reduceMul → zz9,reduceLT → zza,reduceLE → zzb,reduceEq → zzc,reduceNeg → zzd,reduceToNat → zze
open Op renaming operands → zo
open Call renaming operands → zc
open Go.RowKit Go.Proofs AclSpec MetaSpec NodeSpec PathSpec TreeSpec

theorem miss_step {b l : List TEnt} {i : Nat} {e : TEnt} (h : l[i]? = some e) : missT b (l.drop i) = if (findT b e.path).2 then missT b (l.drop (i + 1)) else e.path := by
  obtain ⟨hi,rfl⟩ := List.getElem?_eq_some_iff.1 h
  rw [List.drop_eq_getElem_cons hi];rfl
set_option maxRecDepth 100000 in
set_option maxHeartbeats 4000000 in
theorem isoParts_L (l : List Int) (which : Int) : LCalls Try.prog 6 [intsL l,intL which] (boolL true) := by
  have t0 := itold_L
  simp only [boolL] at t0
  have cm := make_L l
  have hm := make_may (l.map uN)
  generalize makeT fileU (l.map uN) = a at *
  obtain ⟨hsa,l1,l2,n1,n2⟩ := mayT_small hm
  obtain ⟨hw1,_⟩ := uN_eq which
  generalize uN which = wu0 at *
  have hnn : ¬ ((a.ents.length : Int) = 0) := by omega
  have f1 := wu (n := a.ents.length) (by omega)
  have f2 := umod wu0 a.ents.length _ rfl
  have hk : wu0 % a.ents.length < a.ents.length := Nat.mod_lt _ (by omega)
  generalize hk0 : wu0 % a.ents.length = k at *
  obtain ⟨e,he⟩ := get_of_lt hk
  have hde := drop_tent he
  have hem := List.mem_of_getElem? he
  have hv := mayT_valid hm
  have hq := hv.rise.2 e hem
  have hfe := findT_rise hv.rise.1 e hem
  have hql := may_len hq
  have cpo := rpartOf_L a hm e.path (by rw [hfe]) (by omega)
  obtain ⟨p1,p2,p3,p4,p5,p6,p7⟩ := part_law hm hq
  rw [p1] at cpo
  generalize normed (partU a e.path) = P at *
  obtain ⟨hsp,_⟩ := mayT_small p2
  have cN := inodes_L P a hsp hsa
  have cW := iwithin_L P a hsp hsa
  have cL := ilinks_L P a hsp hsa
  have cP := ipaths_L P a hsp hsa
  have cS := isame_L P a hsp hsa
  rw [p3] at cW
  rw [p4] at cL
  rw [p5] at cN
  rw [p6] at cP
  rw [p7] at cS
  simp only [treeL] at cm cpo cN cW cL cP cS
  have co := cpo.toO
  have hkp : (0 : Int) ≤ (k : Int) := by omega
  refine LCalls.of (fun _ => false) Try.func6 rfl (by decide) Try.ntmps6 Try.results6 (by simp) ?_
  intro w0 S0 vs hgl hwf0 hsz hvs;clear hsz hvs hwf0 hgl
  refine Yg0 ?_
  refine Yr1 @intsL.eq_1 ?_;intro K hK
  refine Yc1 (cm) @intsL.eq_1 ?_
  refine hK _ ?_;clear hK K;try refine Wh0 ?_
  refine LW_slim (fun st => st.env 1 = intL which ∧ st.env 5 = .ptr 5 0 ∧ st.box 5 = some (treeL a) ∧ st.mode = fun _ => false) ⟨Yq0,Yq0,(Yq1 @treeL.eq_1),rfl⟩ ?_
  rintro st ⟨e1,e5,b5,hmd⟩
  simp only [treeL] at b5
  (repeat refine LW_seq ?_)
  refine LW_join (fun st => st.env 5 = .ptr 5 0 ∧ st.box 5 = some (treeL a) ∧ st.env 6 = .ptr 6 0 ∧ st.box 6 = some (treeL P) ∧ st.env 7 = intL 0 ∧ st.mode = fun _ => false) ?_ ?_
  · (repeat (first | refine LW_seq ?_ | (refine LW_skip ?_;simp only [LSj,reduceIte,zze]) | refine LW_block ?_));refine LW_mix2 [(31,⟨_,_,_,_,_,[],[],co,rfl,rfl⟩)] [31] (fun _ => false) [(0,[5]),(1,[5]),(2,[5]),(3,[]),(4,[]),(5,[5]),(6,[5]),(7,[]),(8,[]),(9,[]),(10,[]),(11,[]),(12,[]),(13,[5]),(14,[5]),(15,[]),(16,[]),(17,[]),(18,[5]),(19,[])] [0,1,2,3,4,5,6,7,8,9,10,11,12] [[13,14,15,16,17,18,19,20],[13,14,15,16,18,17,19,20],[13,14,15,16,18,19,17,20],[13,14,15,17,16,18,19,20],[13,14,15,17,18,16,19,20],[13,14,15,18,16,17,19,20],[13,14,15,18,16,19,17,20],[13,14,15,18,17,16,19,20],[13,14,18,15,16,17,19,20],[13,14,18,15,16,19,17,20],[13,14,18,15,17,16,19,20],[13,18,14,15,16,17,19,20],[13,18,14,15,16,19,17,20],[13,18,14,15,17,16,19,20],[18,13,14,15,16,17,19,20],[18,13,14,15,16,19,17,20],[18,13,14,15,17,16,19,20]] rfl (by kernel_rfl) (by kernel_rfl) (by kernel_rfl) (by first | exact rfl | exact hmd | simp only [LZ,zo,zc,reduceCtorEq,reduceIte,zz1,zz2,zz3,zz4,zz5,zz6,zz7,zz8,zz9,zza,zzb,zzc,zzd,zze,zzf,e1,e5,b5,hmd,hnn,hw1,f1,f2,hkp,hk,hde]) ?_;intro K hK;simp only [LZ,zo,zc,reduceCtorEq,reduceIte,zz1,zz2,zz3,zz4,zz5,zz6,zz7,zz8,zz9,zza,zzb,zzc,zzd,zze,zzf,e1,e5,b5,hmd,hnn,hw1,f1,f2,hkp,hk,hde]
    refine ⟨by first | rfl | kernel_rfl,?_⟩
    (repeat' apply And.intro) <;> (refine hK _ ?_;clear hK K;try refine Wh0 ?_) <;> exact ⟨(Yq1 @e5),(Yq1 (fa2 @b5 @treeL.eq_1)),Yq0,(Yq1 @treeL.eq_1),Yq0,(Yq1 @hmd)⟩
  clear e1 e5 b5 hmd st
  rintro st ⟨e5,b5,e6,b6,e7,hmd⟩
  simp only [treeL] at b5
  refine Yg1 @e7 ?_
  refine Yf0 ?_
  have hlp : IntKind.i64.wrap ((a.ents.length : Int) - 1) = (a.ents.length : Int) - 1 := w64 (by omega)
  refine Yg1 (fa3 @e5 @b5 @hlp) ?_
  refine LW_joinB (fun st => st.env 5 = .ptr 5 0 ∧ st.box 5 = some (treeL a) ∧ st.env 6 = .ptr 6 0 ∧ st.box 6 = some (treeL P) ∧ st.env 8 = strL (missT P.ents a.ents)) ?_ ?_
  · refine LW_loop (fun m st => ∃ z : Int,z = (m : Int) - 1 ∧ m ≤ a.ents.length ∧ st.env 5 = .ptr 5 0 ∧ st.box 5 = some (treeL a) ∧ st.env 6 = .ptr 6 0 ∧ st.box 6 = some (treeL P) ∧ st.env 8 = strL (missT P.ents (a.ents.drop m)) ∧ st.env 9 = intL z ∧ st.mode = fun _ => false) a.ents.length ⟨(a.ents.length : Int) - 1,rfl,by omega,(Yq1 @e5),(Yq1 (fa2 @b5 @treeL.eq_1)),(Yq1 @e6),(Yq1 @b6),by rw [List.drop_length];exact Yq0,(Yq1 (fa3 @e5 @b5 @hlp)),(Yq1 @hmd)⟩ ?_
    clear e5 b5 e6 b6 e7 hmd st
    rintro m st ⟨z,hz,hml,e5,b5,e6,b6,e8,e9,hmd⟩
    simp only [treeL] at b5 b6
    cases m with
    | zero =>
      have hz0 : ¬ ((0 : Int) ≤ z) := by omega
      refine Yg1 (fa2 @e9 @hz0) ?_
      refine Yf0 ?_
      refine LW_exit ?_;simp only [thenL,jumpsL,inBlockL,twoL,reduceIte,Nat.reduceEqDiff]
      exact ⟨(Yq1 @e5),(Yq1 (fa2 @b5 @treeL.eq_1)),(Yq1 @e6),(Yq1 (fa2 @b6 @treeL.eq_1)),(Yq1 @e8)⟩
    | succ m =>
      have hzm : z = (m : Int) := by omega
      subst hzm
      have hm0 : (0 : Int) ≤ (m : Int) := by omega
      have hml2 : m < a.ents.length := by omega
      obtain ⟨x,hx⟩ := get_of_lt hml2
      have hd := drop_tent hx
      have hms := miss_step (b := P.ents) hx
      have cF := rfind_L P hsp x.path
      simp only [treeL] at cF
      have hwp : IntKind.i64.wrap ((m : Int) - 1) = (m : Int) - 1 := w64 (by omega)
      refine Yg1 (fa2 @e9 @hm0) ?_
      refine Yt0 ?_
      refine LW_skip ?_
      simp only [LSj,reduceIte,zze]
      refine LW_seq ?_
      refine LW_block ?_
      refine LW_joinB (fun st => st.env 5 = .ptr 5 0 ∧ st.box 5 = some (treeL a) ∧ st.env 6 = .ptr 6 0 ∧ st.box 6 = some (treeL P) ∧ st.env 8 = strL (missT P.ents (a.ents.drop m)) ∧ st.env 9 = intL m ∧ st.mode = fun _ => false) ?_ ?_
      rotate_left
      · clear e5 b5 e6 b6 e8 e9 hmd st
        rintro st ⟨e5,b5,e6,b6,e8,e9,hmd⟩
        refine Yg1 (fa2 @e9 @hwp) ?_
        exact ⟨m,by omega,(m : Int) - 1,rfl,by omega,(Yq1 @e5),(Yq1 @b5),(Yq1 @e6),(Yq1 @b6),(Yq1 @e8),Yq0,(Yq1 @hmd)⟩
      cases hf : (findT P.ents x.path).2
      · rw [hf] at cF hms
        simp only [Bool.false_eq_true,if_false] at hms
        refine Yn1 (fa9 @e5 @b5 @e6 @b6 @e9 @hm0 @hml2 @hd @hmd) ?_;intro K hK
        refine Yc1 (cF) (fa9 @e5 @b5 @e6 @b6 @e9 @hm0 @hml2 @hd @hmd) ?_
        refine hK _ ?_;clear hK K;try refine Wh0 ?_
        refine Yg0 ?_
        refine Yt0 ?_
        refine Yg1 (fa6 @e5 @b5 @e9 @hm0 @hml2 @hd) ?_
        exact ⟨(Yq1 @e5),(Yq1 (fa2 @b5 @treeL.eq_1)),(Yq1 @e6),(Yq1 (fa2 @b6 @treeL.eq_1)),(Yq1 @hms),(Yq1 @e9),(Yq1 @hmd)⟩
      · rw [hf] at cF hms
        simp only [if_true] at hms
        refine Yn1 (fa9 @e5 @b5 @e6 @b6 @e9 @hm0 @hml2 @hd @hmd) ?_;intro K hK
        refine Yc1 (cF) (fa9 @e5 @b5 @e6 @b6 @e9 @hm0 @hml2 @hd @hmd) ?_
        refine hK _ ?_;clear hK K;try refine Wh0 ?_
        refine Yg0 ?_
        refine Yf0 ?_
        exact ⟨(Yq1 @e5),(Yq1 (fa2 @b5 @treeL.eq_1)),(Yq1 @e6),(Yq1 (fa2 @b6 @treeL.eq_1)),(Yq1 (fa2 @e8 @hms)),(Yq1 @e9),(Yq1 @hmd)⟩
  clear e5 b5 e6 b6 e7 hmd st
  rintro st ⟨e5,b5,e6,b6,e8⟩
  simp only [treeL] at b5 b6
  refine Yr1 (fa4 @e5 @b5 @e6 @b6) ?_;intro K hK
  refine Yc1 (cN) (fa4 @e5 @b5 @e6 @b6) ?_
  refine hK _ ?_;clear hK K;try refine Wh0 ?_
  by_cases hM : missT P.ents a.ents = []
  · rw [hM] at cP e8
    rw [decide_eq_true hM] at cS
    refine Yr1 (fa5 @e5 @b5 @e6 @b6 @e8) ?_;intro K hK
    refine Yc1 (t0) (fa5 @e5 @b5 @e6 @b6 @e8) ?_
    refine Yc1 (cW) (fa5 @e5 @b5 @e6 @b6 @e8) ?_
    refine Yc1 (cL) (fa5 @e5 @b5 @e6 @b6 @e8) ?_
    refine Yc1 (cP) (fa5 @e5 @b5 @e6 @b6 @e8) ?_
    refine Yc1 (cS) (fa5 @e5 @b5 @e6 @b6 @e8) ?_
    refine hK _ ?_;clear hK K;try refine Wh0 ?_
    refine Ye0 ?_;try (with_reducible exact trivial)
  · rw [decide_eq_false hM] at cS
    refine Yr1 (fa6 @e5 @b5 @e6 @b6 @e8 @hM) ?_;intro K hK
    refine Yc1 (t0) (fa6 @e5 @b5 @e6 @b6 @e8 @hM) ?_
    refine Yc1 (cW) (fa6 @e5 @b5 @e6 @b6 @e8 @hM) ?_
    refine Yc1 (cL) (fa6 @e5 @b5 @e6 @b6 @e8 @hM) ?_
    refine Yc1 (cP) (fa6 @e5 @b5 @e6 @b6 @e8 @hM) ?_
    refine Yc1 (cS) (fa6 @e5 @b5 @e6 @b6 @e8 @hM) ?_
    refine hK _ ?_;clear hK K;try refine Wh0 ?_
    refine Ye0 ?_;try (with_reducible exact trivial)
end Go.Proofs.Ytpficpldemickaa
