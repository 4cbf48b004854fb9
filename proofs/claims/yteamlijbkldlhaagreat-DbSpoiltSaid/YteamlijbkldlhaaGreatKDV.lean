import Derived.Test.YteamlijbkldlhaaGreatKD9
import Derived.Test.YteamlijbkldlhaaGreatKDM
import Derived.Test.YteamlijbkldlhaaGreatKTM
import Derived.Test.YteamlijbkldlhaaGreatDSpoil
import Derived.Test.YteamlijbkldlhaaGreatL28
set_option linter.unusedSimpArgs false
set_option linter.unusedVariables false
namespace Go.Proofs.YteamlijbkldlhaaGreat
open Nat renaming reduceAdd → zz1,reduceMul → zz2,reduceSub → zz3,reduceLT → zz4,reduceLeDiff → zz5,reduceEqDiff → zz6,reduceBEq → zzf
open Int renaming reduceAdd → zz7,reduceSub → zz8,reduceMul → zz9,reduceLT → zza,reduceLE → zzb,reduceEq → zzc,reduceNeg → zzd,reduceToNat → zze
open Op renaming operands → zo
open Call renaming operands → zc
open Go.RowKit Go.Proofs AclSpec MetaSpec NodeSpec RecSpec PathSpec PageSpec TreeSpec DbSpec

theorem set_pg {ps : List Pg} {k : Nat} {x : Pg} (h : ps[k]? = some x) (y : Pg) : (ps.set k y).flatMap pgL = (ps.flatMap pgL).take (k * 4) ++ (pgL y ++ (ps.drop (k + 1)).flatMap pgL) := by
  obtain ⟨hk,rfl⟩ := List.getElem?_eq_some_iff.1 h
  rw [List.set_eq_take_append_cons_drop,if_pos hk,List.flatMap_append,List.flatMap_cons,take_flat' pgL 4 pgL_len]
theorem drop_pgj {ps : List Pg} {k : Nat} {x : Pg} (h : ps[k]? = some x) (j : Nat) : (ps.flatMap pgL).drop (k * 4 + j) = (pgL x ++ (ps.drop (k + 1)).flatMap pgL).drop j := by
  rw [← List.drop_drop,drop_pg h]
theorem take_pgj {ps : List Pg} {k : Nat} {x : Pg} (h : ps[k]? = some x) (j : Nat) : (ps.flatMap pgL).take (k * 4 + j) = (ps.flatMap pgL).take (k * 4) ++ (pgL x ++ (ps.drop (k + 1)).flatMap pgL).take j := by
  rw [List.take_add,drop_pg h]
theorem strE_strip (l : List (List UInt8)) : (l.flatMap strE).map strip1 = l.flatMap strE := strip1_enc (fun _ => rfl) l
theorem strE_all (l : List (List UInt8)) : (l.flatMap strE).all oneL = true := by
  rw [List.all_flatMap,List.all_eq_true];intro x _;rfl
theorem pgL_one (l : List Pg) : (l.flatMap pgL).all oneL = true := by
  rw [List.all_flatMap,List.all_eq_true];intro x _;rfl
theorem pages_cut (l : List Pg) (a b : Nat) : ((l.flatMap pgL).take (b * 4)).drop (a * 4) = ((l.take b).drop a).flatMap pgL := by
  rw [take_flat' pgL 4 pgL_len,drop_flat' pgL 4 pgL_len]
set_option maxRecDepth 100000 in
set_option maxHeartbeats 16000000 in
theorem dbSpoilt_L (l : List Int) (which how : Int) : LCalls Tryz.prog 6 [intsL l,intL which,intL how] (boolL true) := by
  have t0 := dtold_L
  have hmk : LCalls Tryz.prog 9 [intsL l] (.agg (treeL (madeT l))) := make_L l
  have hrc := madeRecs_L l
  have hmay := made_recs l
  have hsm := made_small l
  have c1 := dbuild_L (madeR l) hsm
  rw [made_build] at c1
  have hsp := buildP_small hsm
  have hpl := buildP_len200 hmay
  obtain ⟨b0,hI,hb0⟩ := build_inv hmay
  have hpos : 0 < (buildP (madeR l)).length := by omega
  have hkeys : ∀ x ∈ buildP (madeR l),x.keys.length ≤ 4 := fun x hx => by
    have hm := hI.may x hx
    unfold mayPg at hm
    cases hlf : x.leaf
    · rw [hlf,if_neg (by decide)] at hm
      unfold mayInner at hm
      simp only [Bool.and_eq_true,Bool.not_eq_true',decide_eq_true_eq,decide_eq_false_iff_not] at hm
      omega
    · rw [hlf,if_pos rfl] at hm
      unfold mayLeaf at hm
      simp only [Bool.and_eq_true,Bool.not_eq_true',decide_eq_true_eq,decide_eq_false_iff_not] at hm
      omega
  have z0 := fun {k : Nat} {x : Pg} (h : (buildP (madeR l))[k]? = some x) => spoil_out hmay h
  have z1 := fun {k : Nat} {x : Pg} (h : (buildP (madeR l))[k]? = some x) => spoil_twice hmay h
  have z2 := fun {k : Nat} {x : Pg} (h : (buildP (madeR l))[k]? = some x) => spoil_leaf hmay h
  have z3 := fun {k : Nat} {x : Pg} (h : (buildP (madeR l))[k]? = some x) => spoil_key hmay h [122,122]
  have z4 := fun {k : Nat} {x : Pg} (h : (buildP (madeR l))[k]? = some x) => spoil_zero (R := madeR l) h
  clear hI hb0 b0
  generalize buildP (madeR l) = ps at *
  generalize madeR l = R at *
  generalize bytsT (madeT l) = B at *
  generalize madeT l = t at *
  simp only [treeL,rowL] at hmk hrc c1
  obtain ⟨hxa,_⟩ := uN_eq which
  obtain ⟨hxb,_⟩ := uN_eq how
  generalize uN which = au at *
  generalize uN how = bu at *
  have hwu := wu (n := ps.length) (by omega)
  have hwz : ¬ ((ps.length : Int) = 0) := by omega
  have hma := umod au ps.length _ rfl
  have hmb := umod bu 5 5 rfl
  have hkl : au % ps.length < ps.length := Nat.mod_lt _ (by omega)
  have hm5 : bu % 5 < 5 := Nat.mod_lt _ (by omega)
  generalize au % ps.length = k at *
  generalize bu % 5 = m at *
  have hwk : IntKind.i64.wrap (k : Int) = (k : Int) := w64 (by omega)
  obtain ⟨x,hx⟩ := get_of_lt hkl
  have hxm := List.mem_of_getElem? hx
  have hd := drop_pg hx
  have hC := pgL_flen ps
  have hCs := pgL_strip ps
  have hCo := pgL_one ps
  have hn0 : ¬ (ps.length = 0) := by omega
  refine LCalls.of (fun d => d == 46 || d == 48 || d == 69 || d == 102) Tryz.func6 rfl (by decide) Tryz.ntmps6 Tryz.results6 (by simp) ?_
  intro w0 S0 vs hgl hwf0 hsz hvs;clear hsz hvs hwf0 hgl
  refine Yg0 ?_
  refine Yr1 @intsL.eq_1 ?_;intro K hK
  refine Yc1 (hmk) @intsL.eq_1 ?_
  refine Yc1 (hrc) @intsL.eq_1 ?_
  refine hK _ ?_;clear hK K;try refine Wh0 ?_
  refine Yr0 ?_;intro K hK
  refine Yc0 (c1) ?_
  refine hK _ ?_;clear hK K;try refine Wh0 ?_
  refine LW_slim (fun st => st.env 1 = intL which ∧ st.env 2 = intL how ∧ st.env 9 = intL 0 ∧ st.env 10 = .sl ps.length (ps.flatMap pgL) .no ∧ st.env 11 = intL 0 ∧ st.mode = fun d => d == 46 || d == 48 || d == 69 || d == 102) ⟨Yq0,Yq0,Yq0,Yq0,Yq0,Yq0⟩ ?_
  rintro st ⟨e1,e2,e9,e10,e11,hmd⟩
  refine Yg1 (fa4 @e9 @e10 @e11 @hwz) ?_
  refine Yf0 ?_
  (repeat refine LW_seq ?_)
  refine Yo1 (fa7 @e1 @e10 @hxa @hwu @hwz @hma @hwk) ?_
  (repeat refine LW_seq ?_)
  refine Yr1 (fa5 @e10 @hmd @hC @hCs @hn0) ?_;intro K hK
  refine ⟨by (repeat' apply And.intro) <;> first | omega | exact hCo | (unfold maxLen;omega) | rfl,?_⟩
  refine hK _ ?_;clear hK K;try refine Wh0 ?_
  refine LW_slim (fun st => st.env 2 = intL how ∧ st.env 12 = intL k ∧ st.env 13 = .bsl 46 ps.length 36 ∧ st.arr 46 = some (ps.flatMap pgL) ∧ st.mode = fun d => d == 46 || d == 48 || d == 69 || d == 102) ⟨(Yq1 @e2),Yq0,(Yq1 @hCs),(Yq1 @hCs),(Yq1 @hmd)⟩ ?_
  clear e1 e2 e9 e10 e11 hmd st
  rintro st ⟨e2,e12,e13,a46,hmd⟩
  (repeat refine LW_seq ?_)
  refine Yo1 (fa3 @e2 @hxb @hmb) ?_
  refine LW_slim (fun st => st.env 12 = intL k ∧ st.env 13 = .bsl 46 ps.length 36 ∧ st.arr 46 = some (ps.flatMap pgL) ∧ st.env 51 = .lit (.int .u64 m) ∧ st.mode = fun d => d == 46 || d == 48 || d == 69 || d == 102) ⟨(Yq1 @e12),(Yq1 @e13),(Yq1 @a46),Yq0,(Yq1 @hmd)⟩ ?_
  clear e2 e12 e13 a46 hmd st
  rintro st ⟨e12,e13,a46,e51,hmd⟩
  have hk0 : (0 : Int) ≤ (k : Int) := by omega
  have hkp : (k : Int) ≤ (ps.length : Int) := by omega
  have hw1 := w64s (n := k) (by omega)
  have hself : (ps.length ≤ ps.length) = True := eq_true (Nat.le_refl _)
  have hk10 : (0 : Int) ≤ ((k + 1 : Nat) : Int) := by omega
  have hk1p : ((k + 1 : Nat) : Int) ≤ (ps.length : Int) := by omega
  have hhead : (ps.flatMap pgL).take (k * 4) = (ps.take k).flatMap pgL := take_flat' pgL 4 pgL_len ps k
  have hhead1 : (ps.flatMap pgL).take ((k + 1) * 4) = (ps.take (k + 1)).flatMap pgL := take_flat' pgL 4 pgL_len ps (k + 1)
  have htail : ((ps.flatMap pgL).take (ps.length * 4)).drop ((k + 1) * 4) = (ps.drop (k + 1)).flatMap pgL := by
    rw [pages_cut,List.take_length]
  have hAl := pgL_flen (ps.take k)
  have hA1l := pgL_flen (ps.take (k + 1))
  have hDl := pgL_flen (ps.drop (k + 1))
  have hAs := pgL_strip (ps.take k)
  have hA1s := pgL_strip (ps.take (k + 1))
  have hDs := pgL_strip (ps.drop (k + 1))
  have hDo := pgL_one (ps.drop (k + 1))
  have hA1o := pgL_one (ps.take (k + 1))
  have l1 : (ps.take k).length = k := by rw [List.length_take];omega
  have l2 : (ps.take (k + 1)).length = k + 1 := by rw [List.length_take];omega
  have l3 : (ps.drop (k + 1)).length = ps.length - (k + 1) := List.length_drop
  rw [l1] at hAl
  rw [l2] at hA1l
  rw [l3] at hDl
  (repeat refine LW_seq ?_)
  refine LW_block ?_
  refine LW_joinB (fun st => ∃ qs : List Pg,openB qs = false ∧ (∀ y ∈ qs,SmallP y) ∧ qs.length ≤ 1000 ∧ ((∃ tk,st.env 13 = .sl qs.length (qs.flatMap pgL) tk) ∨ (st.env 13 = .bsl 46 qs.length 36 ∧ st.arr 46 = some (qs.flatMap pgL))) ∧ st.mode = fun d => d == 46 || d == 48 || d == 69 || d == 102) ?_ ?_
  · by_cases m0 : m = 0
    · have hi : ((m : Int) = 0) = True := eq_true (by omega)
      refine Yg1 (fa2 @e51 @hi) ?_
      refine Yt0 ?_
      refine LW_publish 13 (d := 46) (n := ps.length) (e := 36) (cs := ps.flatMap pgL) (Yq1 @e13) (Yq1 @a46) (by rw [hC];exact Yq0) ?_
      refine LW_slim (fun st => st.env 12 = intL k ∧ st.env 13 = .sl ps.length (ps.flatMap pgL) .no ∧ st.mode = fun d => d == 46 || d == 48 || d == 69 || d == 102) ⟨(Yq1 @e12),Yq0,(Yq1 @hmd)⟩ ?_
      clear e12 e13 a46 e51 hmd st
      rintro st ⟨e12,e13,hmd⟩
      (repeat refine LW_seq ?_)
      refine LW_stillTail 8 (by kernel_rfl) (by kernel_rfl) ?_
      simp only [List.take_succ_cons,List.take_zero,List.drop_succ_cons,List.drop_zero]
      refine still_pv (x := .sl ps.length (ps.flatMap pgL) .no) rfl (by simp only [LZ,zo,zc,reduceCtorEq,reduceIte,zz1,zz2,zz3,zz4,zz5,zz6,zz7,zz8,zz9,zza,zzb,zzc,zzd,zze,zzf,e12,e13]) rfl ?_
      refine still_pv (x := intL k) rfl (by simp only [LZ,zo,zc,reduceCtorEq,reduceIte,zz1,zz2,zz3,zz4,zz5,zz6,zz7,zz8,zz9,zza,zzb,zzc,zzd,zze,zzf,e12,e13]) rfl ?_
      refine still_pv (x := intL k) rfl (by simp only [LZ,zo,zc,reduceCtorEq,reduceIte,zz1,zz2,zz3,zz4,zz5,zz6,zz7,zz8,zz9,zza,zzb,zzc,zzd,zze,zzf,e12,e13]) rfl ?_
      refine still_full (n := ps.length) (k := k) (cs := ps.flatMap pgL) (tk := .no) (ik := .i64) (ik' := .i64) (e := 36) (sz := 4) (by simp only [LZ,zo,zc,reduceCtorEq,reduceIte,zz1,zz2,zz3,zz4,zz5,zz6,zz7,zz8,zz9,zza,zzb,zzc,zzd,zze,zzf,e12,e13]) (by simp only [LZ,zo,zc,reduceCtorEq,reduceIte,zz1,zz2,zz3,zz4,zz5,zz6,zz7,zz8,zz9,zza,zzb,zzc,zzd,zze,zzf,e12,e13]) (by simp only [LZ,zo,zc,reduceCtorEq,reduceIte,zz1,zz2,zz3,zz4,zz5,zz6,zz7,zz8,zz9,zza,zzb,zzc,zzd,zze,zzf,e12,e13]) (by simp only [LZ,zo,zc,reduceCtorEq,reduceIte,zz1,zz2,zz3,zz4,zz5,zz6,zz7,zz8,zz9,zza,zzb,zzc,zzd,zze,zzf]) (by omega) (by decide) fun p => ?_
      refine still_pv (x := .sl ps.length (ps.flatMap pgL) .no) rfl (by simp only [LZ,zo,zc,reduceCtorEq,reduceIte,zz1,zz2,zz3,zz4,zz5,zz6,zz7,zz8,zz9,zza,zzb,zzc,zzd,zze,zzf,LSt.putV,e12,e13]) rfl ?_
      refine still_pv (x := intL k) rfl (by simp only [LZ,zo,zc,reduceCtorEq,reduceIte,zz1,zz2,zz3,zz4,zz5,zz6,zz7,zz8,zz9,zza,zzb,zzc,zzd,zze,zzf,LSt.putV,e12,e13]) rfl ?_
      refine still_pv (x := intL (k + 1 : Nat)) rfl (by simp only [LZ,zo,zc,reduceCtorEq,reduceIte,zz1,zz2,zz3,zz4,zz5,zz6,zz7,zz8,zz9,zza,zzb,zzc,zzd,zze,zzf,LSt.putV,e12,e13,hw1]) rfl ?_
      refine still_pv (x := .sl (ps.length - (k + 1)) ((ps.drop (k + 1)).flatMap pgL) .no) rfl (by simp only [LZ,zo,zc,reduceCtorEq,reduceIte,zz1,zz2,zz3,zz4,zz5,zz6,zz7,zz8,zz9,zza,zzb,zzc,zzd,zze,zzf,LSt.putV,e12,e13,hk10,hk1p,htail,hself]) rfl ?_
      refine still_nil ?_
      refine seg_one rfl ?_
      refine full_append' (e := 36) (sz := 4) (k := k) (m := ps.length - (k + 1)) (cs := (ps.flatMap pgL).take (k * 4)) (ds := (ps.drop (k + 1)).flatMap pgL) (tk := .no) (tk' := .no) (p := p) (by simp only [LZ,zo,zc,reduceCtorEq,reduceIte,zz1,zz2,zz3,zz4,zz5,zz6,zz7,zz8,zz9,zza,zzb,zzc,zzd,zze,zzf]) (by decide) hDo (by simp only [LZ,zo,zc,reduceCtorEq,reduceIte,zz1,zz2,zz3,zz4,zz5,zz6,zz7,zz8,zz9,zza,zzb,zzc,zzd,zze,zzf]) (by simp only [LZ,zo,zc,reduceCtorEq,reduceIte,zz1,zz2,zz3,zz4,zz5,zz6,zz7,zz8,zz9,zza,zzb,zzc,zzd,zze,zzf];omega) (by unfold maxLen;omega) (by simp only [LZ,zo,zc,reduceCtorEq,reduceIte,zz1,zz2,zz3,zz4,zz5,zz6,zz7,zz8,zz9,zza,zzb,zzc,zzd,zze,zzf,LSt.putV]) (by simp only [LZ,zo,zc,reduceCtorEq,reduceIte,zz1,zz2,zz3,zz4,zz5,zz6,zz7,zz8,zz9,zza,zzb,zzc,zzd,zze,zzf,LSt.putV]) (by rw [hhead,hAl]) (by simp only [LZ,zo,zc,reduceCtorEq,reduceIte,zz1,zz2,zz3,zz4,zz5,zz6,zz7,zz8,zz9,zza,zzb,zzc,zzd,zze,zzf,LSt.putV]) hDl (by decide) ?_
      refine seg_ops 1 ?_
      intro K hK
      simp only [LZ,zo,zc,reduceCtorEq,reduceIte,zz1,zz2,zz3,zz4,zz5,zz6,zz7,zz8,zz9,zza,zzb,zzc,zzd,zze,zzf]
      refine hK _ ?_
      clear hK K
      refine seg_nil ?_
      simp only [LZ,zo,zc,reduceCtorEq,reduceIte,zz1,zz2,zz3,zz4,zz5,zz6,zz7,zz8,zz9,zza,zzb,zzc,zzd,zze,zzf,LSt.putV]
      refine ⟨ps.take k ++ ps.drop (k + 1),z0 hx,fun y hy => ?_,by rw [List.length_append];omega,.inl ⟨.no,?_⟩,(Yq1 @hmd)⟩
      · rcases List.mem_append.1 hy with hy | hy
        · exact hsp y (List.mem_of_mem_take hy)
        · exact hsp y (List.mem_of_mem_drop hy)
      · rw [List.length_append,l1,l3,List.flatMap_append,← hhead]
        exact Yq0
    have hi0 : ¬ ((m : Int) = 0) := by omega
    by_cases m1 : m = 1
    · have hi : ((m : Int) = 1) = True := eq_true (by omega)
      refine Yg1 (fa2 @e51 @hi0) ?_
      refine Yf0 ?_
      refine Yg1 (fa2 @e51 @hi) ?_
      refine Yt0 ?_
      refine LW_publish 13 (d := 46) (n := ps.length) (e := 36) (cs := ps.flatMap pgL) (Yq1 @e13) (Yq1 @a46) (by rw [hC];exact Yq0) ?_
      refine LW_slim (fun st => st.env 12 = intL k ∧ st.env 13 = .sl ps.length (ps.flatMap pgL) .no ∧ st.mode = fun d => d == 46 || d == 48 || d == 69 || d == 102) ⟨(Yq1 @e12),Yq0,(Yq1 @hmd)⟩ ?_
      clear e12 e13 a46 e51 hmd st
      rintro st ⟨e12,e13,hmd⟩
      simp only [pgL,rowL,strsL,intsL,List.cons_append,List.nil_append] at hd
      have hpx : pgL x = [boolL x.leaf,rowL recL x.recs,strsL x.keys,intsL x.pages] := rfl
      simp only [rowL,strsL,intsL] at hpx
      (repeat (first | refine LW_seq ?_ | (refine LW_skip ?_;simp only [LSj,reduceIte,zze]) | refine LW_block ?_));refine LW_mix2 [] [] (fun d => d == 46 || d == 48 || d == 69 || d == 102) [(1,[]),(2,[]),(3,[]),(4,[]),(6,[]),(7,[]),(8,[]),(9,[]),(12,[]),(13,[]),(14,[]),(15,[])] [1,2,3,4,6,7,8,9,12,13,14,15] [[0,5,10,11,16,17],[0,10,5,11,16,17],[10,0,5,11,16,17]] rfl (by kernel_rfl) (by kernel_rfl) (by kernel_rfl) (by first | exact rfl | exact hmd | simp only [LZ,zo,zc,reduceCtorEq,reduceIte,zz1,zz2,zz3,zz4,zz5,zz6,zz7,zz8,zz9,zza,zzb,zzc,zzd,zze,zzf,e12,e13,hmd,hk0,hkl,hw1,hk10,hk1p,hhead1,htail,hd,hA1l,hDl,hA1s,hDs,Nat.sub_zero,hself]) ?_;intro K hK;simp only [LZ,zo,zc,reduceCtorEq,reduceIte,zz1,zz2,zz3,zz4,zz5,zz6,zz7,zz8,zz9,zza,zzb,zzc,zzd,zze,zzf,e12,e13,hmd,hk0,hkl,hw1,hk10,hk1p,hhead1,htail,hd,hA1l,hDl,hA1s,hDs,Nat.sub_zero,hself]
      have q1 : (ps.take (k + 1) ++ x :: ps.drop (k + 1)).flatMap pgL = (ps.take (k + 1)).flatMap pgL ++ pgL x ++ (ps.drop (k + 1)).flatMap pgL := by rw [List.flatMap_append,List.flatMap_cons,List.append_assoc]
      have q2 : (ps.take (k + 1) ++ x :: ps.drop (k + 1)).length = k + 1 + 1 + (ps.length - (k + 1)) := by rw [List.length_append,List.length_cons,l2,l3];omega
      have q3 : ∀ y ∈ ps.take (k + 1) ++ x :: ps.drop (k + 1),SmallP y := fun y hy => by
        rcases List.mem_append.1 hy with hy | hy
        · exact hsp y (List.mem_of_mem_take hy)
        · rcases List.mem_cons.1 hy with rfl | hy
          · exact hsp _ hxm
          · exact hsp y (List.mem_of_mem_drop hy)
      have q4 := z1 hx
      rw [hpx] at q1
      (repeat' apply And.intro) <;> first | omega | exact hA1o | exact hDo | (unfold maxLen;omega) | rfl | (refine hK _ ?_;clear hK K;refine ⟨ps.take (k + 1) ++ x :: ps.drop (k + 1),q4,q3,by omega,.inl ⟨.row 69,?_⟩,(Yq1 @hmd)⟩;rw [q1,q2];exact Yq0)
    have hi1 : ¬ ((m : Int) = 1) := by omega
    by_cases m2 : m = 2
    · have hi : ((m : Int) = 2) = True := eq_true (by omega)
      have hdb := hd
      simp only [pgL,rowL,strsL,intsL,List.cons_append,List.nil_append] at hdb
      have hcl : k * 4 + 1 ≤ (ps.flatMap pgL).length := by rw [hC];omega
      have hset : (ps.set k { x with leaf := !x.leaf }).flatMap pgL = (ps.flatMap pgL).take (k * 4) ++ [boolL (!x.leaf)] ++ (ps.flatMap pgL).drop (k * 4 + 1) := by
        rw [set_pg hx,drop_pgj hx 1,List.append_assoc];rfl
      refine Yg1 (fa2 @e51 @hi0) ?_
      refine Yf0 ?_
      refine Yg1 (fa2 @e51 @hi1) ?_
      refine Yf0 ?_
      refine Yg1 (fa2 @e51 @hi) ?_
      refine Yt0 ?_
      refine Yr1 (fa6 @e12 @e13 @a46 @hk0 @hkl @hdb) ?_;intro K hK
      refine ⟨hcl,?_⟩
      refine hK _ ?_;clear hK K;try refine Wh0 ?_
      refine ⟨ps.set k { x with leaf := !x.leaf },z2 hx,fun y hy => ?_,by rw [List.length_set];omega,.inr ⟨by rw [List.length_set];exact (Yq1 @e13),by rw [hset];exact Yq0⟩,(Yq1 @hmd)⟩
      rcases List.mem_or_eq_of_mem_set hy with hy | rfl
      · exact hsp y hy
      · exact ⟨(hsp x hxm).recs,(hsp x hxm).keys,(hsp x hxm).pages,(hsp x hxm).one,(hsp x hxm).key⟩
    have hi2 : ¬ ((m : Int) = 2) := by omega
    by_cases m3 : m = 3
    · have hi : ((m : Int) = 3) = True := eq_true (by omega)
      have hdb := drop_pgj hx 2
      simp only [pgL,rowL,strsL,intsL,List.cons_append,List.nil_append,List.drop_succ_cons,List.drop_zero] at hdb
      have hcl : k * 4 + 2 + 1 ≤ (ps.flatMap pgL).length := by rw [hC];omega
      have hk4 := hkeys x hxm
      have hkf := strE_flen x.keys
      have hks := strE_strip x.keys
      have hko := strE_all x.keys
      have hset : (ps.set k { x with keys := x.keys ++ [[122,122]] }).flatMap pgL = (ps.flatMap pgL).take (k * 4 + 2) ++ [.sl (x.keys.length + 1) (x.keys.flatMap strE ++ [strL [122,122]]) .no] ++ (ps.flatMap pgL).drop (k * 4 + 2 + 1) := by
        rw [set_pg hx,drop_pgj hx 3,take_pgj hx 2]
        simp only [pgL,rowL,strsL,intsL,List.cons_append,List.nil_append,List.drop_succ_cons,List.drop_zero,List.take_succ_cons,List.take_zero,List.append_assoc,str_snoc,List.length_append,List.length_singleton]
      refine Yg1 (fa2 @e51 @hi0) ?_
      refine Yf0 ?_
      refine Yg1 (fa2 @e51 @hi1) ?_
      refine Yf0 ?_
      refine Yg1 (fa2 @e51 @hi2) ?_
      refine Yf0 ?_
      refine Yg1 (fa2 @e51 @hi) ?_
      refine Yt0 ?_
      refine Yr1 (fa9 @e12 @e13 @a46 @hk0 @hkl @hdb @hmd @hkf @hks) ?_;intro K hK
      refine ⟨by (repeat' apply And.intro) <;> first | omega | exact hko | (unfold maxLen;omega) | rfl,?_⟩
      refine ⟨⟨by omega,by unfold maxLen;omega⟩,hcl,?_⟩
      refine hK _ ?_;clear hK K;try refine Wh0 ?_
      refine ⟨ps.set k { x with keys := x.keys ++ [[122,122]] },z3 hx,fun y hy => ?_,by rw [List.length_set];omega,.inr ⟨by rw [List.length_set];exact (Yq1 @e13),by rw [hset];exact Yq0⟩,(Yq1 @hmd)⟩
      rcases List.mem_or_eq_of_mem_set hy with hy | rfl
      · exact hsp y hy
      · refine ⟨(hsp x hxm).recs,by rw [List.length_append,List.length_singleton];omega,(hsp x hxm).pages,(hsp x hxm).one,fun z hz => ?_⟩
        rcases List.mem_append.1 hz with hz | hz
        · exact (hsp x hxm).key z hz
        · rw [List.mem_singleton.1 hz];decide
    have hi3 : ¬ ((m : Int) = 3) := by omega
    have hcl : k * 4 + 4 ≤ (ps.flatMap pgL).length := by rw [hC];omega
    have hset : (ps.set k zeroPg).flatMap pgL = (ps.flatMap pgL).take (k * 4) ++ [boolL false,.sl 0 [] .no,.sl 0 [] .no,.sl 0 [] .no] ++ (ps.flatMap pgL).drop (k * 4 + 4) := by
      rw [set_pg hx,drop_pgj hx 4,List.append_assoc];rfl
    refine Yg1 (fa2 @e51 @hi0) ?_
    refine Yf0 ?_
    refine Yg1 (fa2 @e51 @hi1) ?_
    refine Yf0 ?_
    refine Yg1 (fa2 @e51 @hi2) ?_
    refine Yf0 ?_
    refine Yg1 (fa2 @e51 @hi3) ?_
    refine Yf0 ?_
    refine Yr1 (fa6 @e12 @e13 @a46 @hk0 @hkl @hmd) ?_;intro K hK
    refine ⟨hcl,?_⟩
    refine hK _ ?_;clear hK K;try refine Wh0 ?_
    refine ⟨ps.set k zeroPg,z4 hx,fun y hy => ?_,by rw [List.length_set];omega,.inr ⟨by rw [List.length_set];exact (Yq1 @e13),by rw [hset];exact Yq0⟩,(Yq1 @hmd)⟩
    rcases List.mem_or_eq_of_mem_set hy with hy | rfl
    · exact hsp y hy
    · exact ⟨by decide,by decide,by decide,(fun r hr => by cases hr),(fun r hr => by cases hr)⟩
  clear e12 e13 a46 e51 hmd st
  rintro st ⟨qs,ho,hqs,hql,h13,hmd⟩
  have c2 := (dopen_O qs (by omega) hqs _ _ (.inr ⟨ho,rfl,rfl⟩)).toL
  simp only [rowL] at c2
  rcases h13 with ⟨tk,e13⟩ | ⟨e13,a46⟩
  · refine LW_plain 13 e13 ?_
    (repeat refine LW_seq ?_)
    refine Yr0 ?_;intro K hK
    refine Yc0 (c2) ?_
    refine hK _ ?_;clear hK K;try refine Wh0 ?_
    refine LW_slim (fun st => st.env 14 = .lit (.pointer none) ∧ st.env 15 = intL 3) ⟨Yq0,Yq0⟩ ?_
    clear e13 hmd st
    rintro st ⟨e14,e15⟩
    (repeat refine LW_seq ?_)
    refine Yr1 (fa4 @e14 @e15 @nilDb @undDb) ?_;intro K hK
    refine Yc1 (t0) (fa4 @e14 @e15 @nilDb @undDb) ?_
    refine hK _ ?_;clear hK K;try refine Wh0 ?_
    refine Ye0 ?_;try (with_reducible exact trivial)
  · refine LW_publish 13 e13 a46 (by rw [pgL_flen];exact Yq0) ?_
    clear a46
    (repeat refine LW_seq ?_)
    refine Yr0 ?_;intro K hK
    refine Yc0 (c2) ?_
    refine hK _ ?_;clear hK K;try refine Wh0 ?_
    refine LW_slim (fun st => st.env 14 = .lit (.pointer none) ∧ st.env 15 = intL 3) ⟨Yq0,Yq0⟩ ?_
    clear e13 hmd st
    rintro st ⟨e14,e15⟩
    (repeat refine LW_seq ?_)
    refine Yr1 (fa4 @e14 @e15 @nilDb @undDb) ?_;intro K hK
    refine Yc1 (t0) (fa4 @e14 @e15 @nilDb @undDb) ?_
    refine hK _ ?_;clear hK K;try refine Wh0 ?_
    refine Ye0 ?_;try (with_reducible exact trivial)
end Go.Proofs.YteamlijbkldlhaaGreat
