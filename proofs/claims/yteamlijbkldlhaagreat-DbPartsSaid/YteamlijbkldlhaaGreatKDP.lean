import Derived.Test.YteamlijbkldlhaaGreatKD9
import Derived.Test.YteamlijbkldlhaaGreatKDM
import Derived.Test.YteamlijbkldlhaaGreatKDS
set_option linter.unusedSimpArgs false
set_option linter.unusedVariables false
namespace Go.Proofs.YteamlijbkldlhaaGreat
open Nat renaming reduceAdd → zz1,reduceMul → zz2,reduceSub → zz3,reduceLT → zz4,reduceLeDiff → zz5,reduceEqDiff → zz6,reduceBEq → zzf
open Int renaming reduceAdd → zz7,reduceSub → zz8,reduceMul → zz9,reduceLT → zza,reduceLE → zzb,reduceEq → zzc,reduceNeg → zzd,reduceToNat → zze
open Op renaming operands → zo
open Call renaming operands → zc
open Go.RowKit Go.Proofs AclSpec MetaSpec NodeSpec RecSpec PathSpec PageSpec TreeSpec DbSpec

theorem recL_stripP (l : List Rec) : (l.flatMap recL).map strip1 = l.flatMap recL := strip1_enc (fun _ => rfl) l
theorem recL_oneP (l : List Rec) : (l.flatMap recL).all oneL = true := by
  rw [List.all_flatMap,List.all_eq_true];intro x _;rfl
theorem rangeP_nil {R : List Rec} {x : List UInt8} (hx : mayB x = true) : rangeP R [] x = R.filter fun r => lessB r.path x := by
  unfold rangeP
  rw [if_pos ⟨by decide,hx⟩]
  refine List.filter_congr fun r _ => ?_
  rw [less_nil];rfl
theorem rangeP_two {R : List Rec} {x y : List UInt8} (hx : mayB x = true) (hy : mayB y = true) : rangeP R x y = R.filter fun r => !lessB r.path x && lessB r.path y := by
  unfold rangeP
  rw [if_pos ⟨hx,hy⟩]
set_option maxRecDepth 100000 in
set_option maxHeartbeats 16000000 in
theorem dbParts_L (l : List Int) (a b : Int) : LCalls Tryz.prog 7 [intsL l,intL a,intL b] (boolL true) := by
  have hmk : LCalls Tryz.prog 9 [intsL l] (.agg (treeL (madeT l))) := make_L l
  have hrc := madeRecs_L l
  have hmay := made_recs l
  have hsm := made_small l
  have c1 := dbuild_L (madeR l) hsm
  rw [made_build] at c1
  have hsp := buildP_small hsm
  have hgb := gather_build (madeR l)
  have hob := open_build hmay
  have hpl := buildP_len200 hmay
  obtain ⟨hR1,hR2,hR3,hR4⟩ := mayRecs_ok hmay
  generalize buildP (madeR l) = ps at *
  generalize madeR l = R at *
  generalize bytsT (madeT l) = B at *
  generalize madeT l = t at *
  have c2 := dopen_O ps (by omega) hsp _ _ (.inl ⟨hob,rfl,rfl⟩)
  have cA := dall_L ps (by omega) hsp (by rw [hgb];omega) 0
  rw [hgb] at cA
  have cR := fun lo hi h1 h2 => drange_L ps (by omega) hsp (by rw [hgb];omega) 0 lo hi h1 h2
  have cU := fun q h1 => dunder_L ps (by omega) hsp (by rw [hgb];omega) 0 q h1
  rw [hgb] at cR cU
  simp only [treeL,rowL] at hmk hrc c1
  simp only [dbL,rowL] at c2 cA cR cU
  obtain ⟨hxa,_⟩ := uN_eq a
  obtain ⟨hxb,_⟩ := uN_eq b
  generalize uN a = au at *
  generalize uN b = bu at *
  have hwu := wu (n := R.length) (by omega)
  have hwz : ¬ ((R.length : Int) = 0) := by omega
  have hma := umod au R.length _ rfl
  have hmb := umod bu R.length _ rfl
  have hil : au % R.length < R.length := Nat.mod_lt _ (by omega)
  have hjl : bu % R.length < R.length := Nat.mod_lt _ (by omega)
  generalize au % R.length = i at *
  generalize bu % R.length = j at *
  obtain ⟨ri,hri⟩ := get_of_lt hil
  obtain ⟨rj,hrj⟩ := get_of_lt hjl
  have hdi := drop_rec hri
  have hdj := drop_rec hrj
  have hip : (0 : Int) ≤ (i : Int) := by omega
  have hjp : (0 : Int) ≤ (j : Int) := by omega
  simp only [recL,nodeL,attrsL,acesL,piecesL,rowL,List.cons_append,List.nil_append] at hdi hdj
  refine LCalls.of (fun d => d == 81) Tryz.func7 rfl (by decide) Tryz.ntmps7 Tryz.results7 (by simp) ?_
  intro w0 S0 vs hgl hwf0 hsz hvs;clear hsz hvs hwf0 hgl
  refine Yg0 ?_
  refine Yr1 @intsL.eq_1 ?_;intro K hK
  refine Yc1 (hmk) @intsL.eq_1 ?_
  refine Yc1 (hrc) @intsL.eq_1 ?_
  refine hK _ ?_;clear hK K;try refine Wh0 ?_
  refine Yr0 ?_;intro K hK
  refine Yc0 (c1) ?_
  refine hK _ ?_;clear hK K;try refine Wh0 ?_
  (repeat (first | refine LW_seq ?_ | (refine LW_skip ?_;simp only [LSj,reduceIte,zze]) | refine LW_block ?_));refine LW_regionO [(36,⟨_,_,_,_,_,[],[(2000,1000)],_,[],(c2).toS,rfl,rfl,rfl⟩)] ?_;intro K hK;simp only [LZ,zo,zc,reduceCtorEq,reduceIte,zz1,zz2,zz3,zz4,zz5,zz6,zz7,zz8,zz9,zza,zzb,zzc,zzd,zze,zzf]
  refine hK _ ?_;clear hK K;try refine Wh0 ?_
  refine LW_slim (fun st => st.env 1 = intL a ∧ st.env 2 = intL b ∧ st.env 7 = .sl R.length (R.flatMap recL) .no ∧ st.env 9 = intL 0 ∧ st.env 11 = intL 0 ∧ st.env 12 = .ptr 1000 0 ∧ st.box 1000 = some [.sl ps.length (ps.flatMap pgL) .no,intL 0] ∧ st.env 13 = intL 0 ∧ st.mode = fun d => d == 81) ⟨Yq0,Yq0,Yq0,Yq0,Yq0,Yq0,Yq0,Yq0,Yq0⟩ ?_
  rintro st ⟨e1,e2,e7,e9,e11,e12,b1000,e13,hmd⟩
  refine Yg1 (fa6 @e9 @e11 @e12 @e13 @nilDb @undDb) ?_
  refine Yf0 ?_
  refine LW_pubBox (cs := [.sl ps.length (ps.flatMap pgL) .no,intL 0]) 12 e12 b1000 ?_
  (repeat refine LW_seq ?_)
  refine Yn1 (fa16 @e1 @e2 @e7 @hxa @hxb @hwu @hwz @hma @hmb @hil @hjl @hip @hjp @hdi @hdj @hmd) ?_;intro K hK
  refine hK _ ?_;clear hK K;try refine Wh0 ?_
  refine LW_slim (fun st => st.env 7 = .sl R.length (R.flatMap recL) .no ∧ st.env 12 = .ref [.sl ps.length (ps.flatMap pgL) .no,intL 0] ∧ st.env 14 = strL ri.path ∧ st.env 15 = strL rj.path ∧ st.mode = fun d => d == 81) ⟨(Yq1 @e7),Yq0,Yq0,Yq0,(Yq1 @hmd)⟩ ?_
  clear e1 e2 e7 e9 e11 e12 b1000 e13 hmd st
  rintro st ⟨e7,e12,e14,e15,hmd⟩
  have hmi := mayRec_path (hR3 ri (List.mem_of_getElem? hri))
  have hmj := mayRec_path (hR3 rj (List.mem_of_getElem? hrj))
  have hli := may_len hmi
  have hlj := may_len hmj
  have cl := rpless_L rj.path ri.path (by omega) (by omega)
  (repeat refine LW_seq ?_)
  refine Yr1 (fa5 @e7 @e12 @e14 @e15 @hmd) ?_;intro K hK
  refine Yc1 (cl) (fa5 @e7 @e12 @e14 @e15 @hmd) ?_
  refine hK _ ?_;clear hK K;try refine Wh0 ?_
  (repeat refine LW_seq ?_)
  refine LW_join (fun st => (∃ (i : Nat) (x : Rec) (y : List UInt8),R[i]? = some x ∧ mayB y = true ∧ (∀ p,lessB p x.path = true → lessB p y = true) ∧ st.env 14 = strL x.path ∧ st.env 15 = strL y) ∧ st.env 7 = .sl R.length (R.flatMap recL) .no ∧ st.env 12 = .ref [.sl ps.length (ps.flatMap pgL) .no,intL 0] ∧ st.mode = fun d => d == 81) ?_ ?_
  · cases hc : lessB rj.path ri.path
    · refine Yf1 @hc ?_
      refine Yg0 ?_
      refine ⟨⟨i,ri,rj.path,hri,hmj,fun p hp => ?_,(Yq1 @e14),(Yq1 @e15)⟩,(Yq1 @e7),(Yq1 @e12),(Yq1 @hmd)⟩
      rcases less_tri hmi hmj with c | c | c
      · exact less_trans hp c
      · rw [← c];exact hp
      · rw [hc] at c;cases c
    · refine Yt1 @hc ?_
      refine Yg1 (fa2 @e14 @e15) ?_
      exact ⟨⟨j,rj,ri.path,hrj,hmi,fun p hp => less_trans hp hc,(Yq1 @e15),(Yq1 @e14)⟩,(Yq1 @e7),(Yq1 @e12),(Yq1 @hmd)⟩
  clear e7 e12 e14 e15 hmd st cl hmi hmj hli hlj hri hrj hdi hdj hil hjl hip hjp hma hmb
  rintro st ⟨⟨i,x,y,hx,hmy,hxy,e14,e15⟩,e7,e12,hmd⟩
  have hmx := mayRec_path (hR3 x (List.mem_of_getElem? hx))
  have hlx := may_len hmx
  have hly := may_len hmy
  have c9 := cR [] x.path (by decide) (by omega)
  have c10 := cR x.path y (by omega) (by omega)
  have cu := cU x.path (by omega)
  rw [rangeP_nil hmx] at c9
  rw [rangeP_two hmx hmy] at c10
  have hjn := below_join hxy hR4
  have hbp := below_part hmay y
  obtain ⟨m,hm1,hm2,hun,hbef⟩ := under_part hmay hx
  rw [hun] at cu
  generalize hq1 : (R.filter fun r => lessB r.path x.path) = q1 at *
  generalize hq2 : (R.filter fun r => !lessB r.path x.path && lessB r.path y) = q2 at *
  have hl1 : q1.length ≤ 100 := by rw [← hq1];exact Nat.le_trans (List.length_filter_le _ _) hR2
  have hl2 : q2.length ≤ 100 := by rw [← hq2];exact Nat.le_trans (List.length_filter_le _ _) hR2
  have hf1 := recL_flen q1
  have hf2 := recL_flen q2
  have hs1 := recL_stripP q1
  have hs2 := recL_stripP q2
  have ho1 := recL_oneP q1
  have ho2 := recL_oneP q2
  (repeat refine LW_seq ?_)
  refine Yr1 (fa5 @e7 @e12 @e14 @e15 @hmd) ?_;intro K hK
  refine Yc1 (c9) (fa5 @e7 @e12 @e14 @e15 @hmd) ?_
  refine hK _ ?_;clear hK K;try refine Wh0 ?_
  (repeat refine LW_seq ?_)
  refine Yr1 (fa9 @e7 @e12 @e14 @e15 @hmd @hf1 @hf2 @hs1 @hs2) ?_;intro K hK
  refine ⟨by (repeat' apply And.intro) <;> first | omega | exact ho1 | (unfold maxLen;omega) | rfl,?_⟩
  refine Yc1 (c10) (fa9 @e7 @e12 @e14 @e15 @hmd @hf1 @hf2 @hs1 @hs2) ?_
  refine ⟨by (repeat' apply And.intro) <;> first | omega | exact ho2 | (unfold maxLen;omega) | rfl,?_⟩
  refine hK _ ?_;clear hK K;try refine Wh0 ?_
  obtain ⟨Y,hY⟩ : ∃ Y,Y = R.filter fun r => lessB r.path y := ⟨_,rfl⟩
  rw [← hY] at hjn hbp
  have hYc : Y.flatMap recL = q1.flatMap recL ++ q2.flatMap recL := by rw [← hjn,List.flatMap_append]
  have hYl : Y.length = q1.length + q2.length := by rw [← hjn,List.length_append]
  refine LW_slim (fun st => st.env 12 = .ref [.sl ps.length (ps.flatMap pgL) .no,intL 0] ∧ st.env 14 = strL x.path ∧ st.env 15 = strL y ∧ st.env 16 = .sl Y.length (Y.flatMap recL) (.row 81) ∧ st.mode = fun d => d == 81) ⟨(Yq1 @e12),(Yq1 @e14),(Yq1 @e15),by rw [hYc,hYl];exact (Yq1 (fa2 @hs1 @hs2)),(Yq1 @hmd)⟩ ?_
  clear e7 e12 e14 e15 hmd st
  rintro st ⟨e12,e14,e15,e16,hmd⟩
  refine LW_plain 16 e16 ?_
  (repeat refine LW_seq ?_)
  refine Yr1 (fa2 @e12 @hmd) ?_;intro K hK
  refine Yc1 (cA) (fa2 @e12 @hmd) ?_
  refine hK _ ?_;clear hK K;try refine Wh0 ?_
  refine Yg0 ?_
  refine LW_slim (fun st => st.env 12 = .ref [.sl ps.length (ps.flatMap pgL) .no,intL 0] ∧ st.env 14 = strL x.path ∧ st.env 15 = strL y ∧ st.env 16 = .sl Y.length (Y.flatMap recL) .no ∧ st.env 17 = .sl R.length (R.flatMap recL) .no ∧ st.env 18 = intL 0 ∧ st.env 19 = intL 0 ∧ st.mode = fun d => d == 81) ⟨(Yq1 @e12),(Yq1 @e14),(Yq1 @e15),Yq0,Yq0,Yq0,Yq0,(Yq1 @hmd)⟩ ?_
  clear e12 e14 e15 e16 hmd st
  rintro st ⟨e12,e14,e15,e16,e17,e18,e19,hmd⟩
  refine LW_joinB (fun st => st.env 12 = .ref [.sl ps.length (ps.flatMap pgL) .no,intL 0] ∧ st.env 14 = strL x.path ∧ st.env 16 = .sl Y.length (Y.flatMap recL) .no ∧ st.env 17 = .sl R.length (R.flatMap recL) .no ∧ st.env 18 = intL Y.length ∧ st.mode = fun d => d == 81) ?_ ?_
  · refine LW_loop (fun n st => ∃ k : Nat,n + k = R.length ∧ st.env 12 = .ref [.sl ps.length (ps.flatMap pgL) .no,intL 0] ∧ st.env 14 = strL x.path ∧ st.env 16 = .sl Y.length (Y.flatMap recL) .no ∧ st.env 17 = .sl R.length (R.flatMap recL) .no ∧ st.env 15 = strL y ∧ st.env 18 = intL ((R.take k).filter fun r => lessB r.path y).length ∧ st.env 19 = intL k ∧ st.mode = fun d => d == 81) R.length ⟨0,by omega,(Yq1 @e12),(Yq1 @e14),(Yq1 @e16),(Yq1 @e17),(Yq1 @e15),(Yq1 @e18),(Yq1 @e19),(Yq1 @hmd)⟩ ?_
    clear e12 e14 e15 e16 e17 e18 e19 hmd st
    rintro n st ⟨k,hn,e12,e14,e16,e17,e15,e18,e19,hmd⟩
    by_cases hlt : k < R.length
    rotate_left
    · have hll : ¬ ((k : Int) < (R.length : Int)) := by omega
      rw [List.take_of_length_le (by omega),← hY] at e18
      refine Yg1 (fa3 @e17 @e19 @hll) ?_
      refine Yf0 ?_
      refine LW_exit ?_;simp only [thenL,jumpsL,inBlockL,twoL,reduceIte,Nat.reduceEqDiff]
      exact ⟨(Yq1 @e12),(Yq1 @e14),(Yq1 @e16),(Yq1 @e17),(Yq1 @e18),(Yq1 @hmd)⟩
    obtain ⟨r,hr⟩ := get_of_lt hlt
    have hd := drop_rec hr
    have hlti : ((k : Int) < (R.length : Int)) = True := eq_true (by omega)
    have hkp : (0 : Int) ≤ (k : Int) := by omega
    have hwk := w64s (n := k) (by omega)
    have hmr := may_len (mayRec_path (hR3 r (List.mem_of_getElem? hr)))
    have cl := rpless_L r.path y (by omega) (by omega)
    have hnx : ((R.take (k + 1)).filter fun r => lessB r.path y).length = ((R.take k).filter fun r => lessB r.path y).length + (if lessB r.path y = true then 1 else 0) := by
      obtain ⟨hk2,rfl⟩ := List.getElem?_eq_some_iff.1 hr
      rw [List.take_succ_eq_append_getElem hk2,List.filter_append,List.length_append]
      congr 1
      cases hc : lessB R[k].path y <;> simp [hc]
    have hcl : ((R.take k).filter fun r => lessB r.path y).length ≤ 100 := by
      have := List.length_filter_le (fun r : Rec => lessB r.path y) (R.take k)
      rw [List.length_take] at this
      omega
    generalize ((R.take k).filter fun r => lessB r.path y).length = c at *
    have hwc := w64s (n := c) (by omega)
    simp only [recL,nodeL,attrsL,acesL,piecesL,rowL,List.cons_append,List.nil_append] at hd
    refine Yg1 (fa3 @e17 @e19 @hlti) ?_
    refine Yt0 ?_
    refine LW_skip ?_
    simp only [LSj,reduceIte,zze]
    refine LW_seq ?_
    refine LW_block ?_
    (repeat refine LW_seq ?_)
    refine Yr1 (fa7 @e15 @e17 @e19 @hlt @hkp @hd @hmd) ?_;intro K hK
    refine Yc1 (cl) (fa7 @e15 @e17 @e19 @hlt @hkp @hd @hmd) ?_
    refine hK _ ?_;clear hK K;try refine Wh0 ?_
    refine LW_joinB (fun st => st.env 12 = .ref [.sl ps.length (ps.flatMap pgL) .no,intL 0] ∧ st.env 14 = strL x.path ∧ st.env 16 = .sl Y.length (Y.flatMap recL) .no ∧ st.env 17 = .sl R.length (R.flatMap recL) .no ∧ st.env 15 = strL y ∧ st.env 18 = intL ((R.take (k + 1)).filter fun r => lessB r.path y).length ∧ st.env 19 = intL k ∧ st.mode = fun d => d == 81) ?_ ?_
    · rw [hnx]
      cases hc : lessB r.path y
      · rw [if_neg (by decide)]
        refine Yf1 @hc ?_
        refine Yg0 ?_
        exact ⟨(Yq1 @e12),(Yq1 @e14),(Yq1 @e16),(Yq1 @e17),(Yq1 @e15),(Yq1 @e18),(Yq1 @e19),(Yq1 @hmd)⟩
      · rw [if_pos rfl]
        refine Yt1 @hc ?_
        refine Yg1 (fa2 @e18 @hwc) ?_
        exact ⟨(Yq1 @e12),(Yq1 @e14),(Yq1 @e16),(Yq1 @e17),(Yq1 @e15),(Yq1 @hwc),(Yq1 @e19),(Yq1 @hmd)⟩
    clear e12 e14 e15 e16 e17 e18 e19 hmd st
    rintro st ⟨e12,e14,e16,e17,e15,e18,e19,hmd⟩
    refine Yg1 (fa2 @e19 @hwk) ?_
    exact ⟨n - 1,by omega,k + 1,by omega,(Yq1 @e12),(Yq1 @e14),(Yq1 @e16),(Yq1 @e17),(Yq1 @e15),(Yq1 @e18),(Yq1 @hwk),(Yq1 @hmd)⟩
  clear e12 e14 e15 e16 e17 e18 e19 hmd st
  rintro st ⟨e12,e14,e16,e17,e18,hmd⟩
  obtain ⟨U,hU⟩ : ∃ U,U = (R.drop i).take m := ⟨_,rfl⟩
  rw [← hU] at cu
  have hUl : U.length = m := by rw [hU,List.length_take,List.length_drop];omega
  have hU0 : U[0]? = some x := by
    rw [hU,List.getElem?_take,if_pos (by omega),List.getElem?_drop];exact hx
  have hdU := drop_rec hU0
  rw [Nat.zero_mul,List.drop_zero] at hdU
  have hil := (List.getElem?_eq_some_iff.1 hx).1
  have hUp : 0 < U.length := by omega
  have hUp2 : (0 : Int) < (U.length : Int) := by omega
  have hU1 : ((U.length : Int) < 1) = False := eq_false (by omega)
  simp only [recL,nodeL,attrsL,acesL,piecesL,rowL,List.cons_append,List.nil_append] at hdU
  (repeat refine LW_seq ?_)
  refine Yr1 (fa3 @e12 @e14 @hmd) ?_;intro K hK
  refine Yc1 (cu) (fa3 @e12 @e14 @hmd) ?_
  refine hK _ ?_;clear hK K;try refine Wh0 ?_
  refine LW_slim (fun st => st.env 14 = strL x.path ∧ st.env 16 = .sl Y.length (Y.flatMap recL) .no ∧ st.env 17 = .sl R.length (R.flatMap recL) .no ∧ st.env 18 = intL Y.length ∧ st.env 20 = .sl U.length (U.flatMap recL) .no ∧ st.mode = fun d => d == 81) ⟨(Yq1 @e14),(Yq1 @e16),(Yq1 @e17),(Yq1 @e18),Yq0,(Yq1 @hmd)⟩ ?_
  clear e12 e14 e16 e17 e18 hmd st
  rintro st ⟨e14,e16,e17,e18,e20,hmd⟩
  (repeat refine LW_seq ?_)
  refine Yo1 (fa6 @e14 @e20 @hU1 @hUp @hUp2 @hdU) ?_
  (repeat refine LW_seq ?_)
  refine Yf0 ?_
  refine Yg0 ?_
  refine LW_joinB (fun st => st.env 14 = strL x.path ∧ st.env 16 = .sl Y.length (Y.flatMap recL) .no ∧ st.env 17 = .sl R.length (R.flatMap recL) .no ∧ st.env 18 = intL Y.length ∧ st.env 20 = .sl U.length (U.flatMap recL) .no ∧ st.env 21 = intL i ∧ st.mode = fun d => d == 81) ?_ ?_
  · refine LW_loop (fun n st => ∃ k : Nat,n + k = i ∧ st.env 14 = strL x.path ∧ st.env 16 = .sl Y.length (Y.flatMap recL) .no ∧ st.env 17 = .sl R.length (R.flatMap recL) .no ∧ st.env 18 = intL Y.length ∧ st.env 20 = .sl U.length (U.flatMap recL) .no ∧ st.env 21 = intL k ∧ st.mode = fun d => d == 81) i ⟨0,by omega,(Yq1 @e14),(Yq1 @e16),(Yq1 @e17),(Yq1 @e18),(Yq1 @e20),Yq0,(Yq1 @hmd)⟩ ?_
    clear e14 e16 e17 e18 e20 hmd st
    rintro n st ⟨k,hn,e14,e16,e17,e18,e20,e21,hmd⟩
    have hlt : k < R.length := by omega
    obtain ⟨r,hr⟩ := get_of_lt hlt
    have hd := drop_rec hr
    have hlti : ((k : Int) < (R.length : Int)) = True := eq_true (by omega)
    have hkp : (0 : Int) ≤ (k : Int) := by omega
    have hwk := w64s (n := k) (by omega)
    simp only [recL,nodeL,attrsL,acesL,piecesL,rowL,List.cons_append,List.nil_append] at hd
    by_cases hki : k < i
    rotate_left
    · have hke : k = i := by omega
      have hxr : (r.path = x.path) = True := by
        rw [hke,hx] at hr
        cases hr
        exact eq_true rfl
      refine Yg1 (fa8 @e14 @e17 @e21 @hlt @hlti @hkp @hd @hxr) ?_
      refine Yf0 ?_
      refine LW_exit ?_;simp only [thenL,jumpsL,inBlockL,twoL,reduceIte,Nat.reduceEqDiff]
      exact ⟨(Yq1 @e14),(Yq1 @e16),(Yq1 @e17),(Yq1 @e18),(Yq1 @e20),by rw [← hke];exact (Yq1 @e21),(Yq1 @hmd)⟩
    have hxr : (r.path = x.path) = False := eq_false (hbef k r hki hr)
    refine Yg1 (fa8 @e14 @e17 @e21 @hlt @hlti @hkp @hd @hxr) ?_
    refine Yt0 ?_
    refine Yg1 (fa2 @e21 @hwk) ?_
    exact ⟨n - 1,by omega,k + 1,by omega,(Yq1 @e14),(Yq1 @e16),(Yq1 @e17),(Yq1 @e18),(Yq1 @e20),(Yq1 @hwk),(Yq1 @hmd)⟩
  clear e14 e16 e17 e18 e20 hmd st
  rintro st ⟨e14,e16,e17,e18,e20,e21,hmd⟩
  obtain ⟨z,hz⟩ : ∃ z,z = i + U.length := ⟨_,rfl⟩
  have hwz2 : IntKind.i64.wrap ((i : Int) + (U.length : Int)) = (z : Int) := by rw [w64 (by omega)];omega
  have hzl : ((R.length : Int) < (z : Int)) = False := eq_false (by omega)
  have hYR : Y.length ≤ R.length := by rw [hY];exact List.length_filter_le _ _
  have t0 := dtold_L
  have hsR : ∀ r ∈ R,small r.node := fun r hr => (hsm.one r hr).2
  have sY := sameRecs_L Y (by omega) (fun r hr => hsR r (by rw [hY] at hr;exact (List.mem_filter.1 hr).1))
  have sU := sameRecs_L U (by omega) (fun r hr => hsR r (by rw [hU] at hr;exact List.mem_of_mem_drop (List.mem_of_mem_take hr)))
  have hcY : (R.flatMap recL).take (Y.length * 15) = Y.flatMap recL := by
    rw [take_flat' recL 15 (fun _ => rfl),← hbp]
  have hcU : ((R.flatMap recL).take (z * 15)).drop (i * 15) = U.flatMap recL := by
    rw [recs_cut,hU,hz,List.drop_take,show i + U.length - i = m by omega]
  have hb1 : (0 : Int) ≤ (i : Int) := by omega
  have hb2 : (i : Int) ≤ (z : Int) := by omega
  have hb3 : (z : Int) ≤ (R.length : Int) := by omega
  have hb4 : (0 : Int) ≤ (Y.length : Int) := by omega
  have hb5 : (Y.length : Int) ≤ (R.length : Int) := by omega
  have hzi : z - i = U.length := by omega
  simp only [rowL] at sY sU
  (repeat refine LW_seq ?_)
  refine Yo1 (fa5 @e17 @e20 @e21 @hwz2 @hzl) ?_
  (repeat refine LW_seq ?_)
  refine Yf0 ?_
  refine Yr1 (fa16 @e16 @e17 @e18 @e20 @e21 @hwz2 @hcY @hcU @hb1 @hb2 @hb3 @hb4 @hb5 @hzi @Nat.sub_zero @hmd) ?_;intro K hK
  refine Yc1 (t0) (fa16 @e16 @e17 @e18 @e20 @e21 @hwz2 @hcY @hcU @hb1 @hb2 @hb3 @hb4 @hb5 @hzi @Nat.sub_zero @hmd) ?_
  refine Yc1 (sY) (fa16 @e16 @e17 @e18 @e20 @e21 @hwz2 @hcY @hcU @hb1 @hb2 @hb3 @hb4 @hb5 @hzi @Nat.sub_zero @hmd) ?_
  refine Yc1 (sU) (fa16 @e16 @e17 @e18 @e20 @e21 @hwz2 @hcY @hcU @hb1 @hb2 @hb3 @hb4 @hb5 @hzi @Nat.sub_zero @hmd) ?_
  refine hK _ ?_;clear hK K;try refine Wh0 ?_
  refine Ye0 ?_;try (with_reducible exact trivial)
end Go.Proofs.YteamlijbkldlhaaGreat
