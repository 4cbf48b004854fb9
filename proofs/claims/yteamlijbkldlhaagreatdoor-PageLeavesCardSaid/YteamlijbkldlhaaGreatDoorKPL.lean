import Derived.Test.YteamlijbkldlhaaGreatDoorKDN
import Derived.Test.YteamlijbkldlhaaGreatDoorKP7
set_option linter.unusedSimpArgs false
set_option linter.unusedVariables false
namespace Go.Proofs.YteamlijbkldlhaaGreatDoor
open Nat renaming reduceAdd → zz1,reduceMul → zz2,reduceSub → zz3,reduceLT → zz4,reduceLeDiff → zz5,reduceEqDiff → zz6,reduceBEq → zzf
open Int renaming reduceAdd → zz7,reduceSub → zz8,reduceMul → zz9,reduceLT → zza,reduceLE → zzb,reduceEq → zzc,reduceNeg → zzd,reduceToNat → zze
open Op renaming operands → zo
open Call renaming operands → zc
open Go.RowKit Go.Proofs AclSpec MetaSpec NodeSpec RecSpec PathSpec PageSpec TreeSpec DbSpec

def leafL (l : List Rec) : Pg := ⟨true,l,[],[]⟩
theorem leafL_may {R : List Rec} (h : mayRecs R = true) {k : Nat} (hk : k + 4 ≤ R.length) : mayPg (leafL ((R.drop k).take 4)) = true ∧ ∃ r,R[k]? = some r ∧ firstPg (leafL ((R.drop k).take 4)) = r.path := by
 obtain ⟨h1,h2,h3,h4⟩ := mayRecs_ok h
 have hlt : k < R.length := by omega
 have hm : mayPg (leafL ((R.drop k).take 4)) = true := by
  unfold mayPg leafL
  rw [if_pos rfl]
  unfold mayLeaf
  have hr : risesR none ((R.drop k).take 4) = true := rises_of (fun r hr => h3 r (List.mem_of_mem_drop (List.mem_of_mem_take hr))) (pair_take h4 _ _) (fun p hp => by cases hp)
  rw [hr]
  have hl : ((R.drop k).take 4).length = min 4 (R.length - k) := by rw [List.length_take,List.length_drop]
  simp only [Bool.and_eq_true,Bool.not_eq_true',decide_eq_false_iff_not,List.length_nil,hl]
  refine ⟨⟨⟨⟨?_,?_⟩,?_⟩,?_⟩,trivial⟩ <;> omega
 refine ⟨hm,R[k],List.getElem?_eq_getElem hlt,?_⟩
 unfold firstPg
 rw [if_pos hm]
 unfold leafL
 rw [if_pos rfl]
 simp only
 rw [List.drop_eq_getElem_cons hlt,List.take_succ_cons];rfl
theorem leafL_long {l : List Rec} (h : l.length = 5) : mayPg (leafL l) = false := by
 unfold mayPg leafL
 rw [if_pos rfl]
 unfold mayLeaf
 simp only [h]
 rfl
theorem leafL_turned {R : List Rec} (h : mayRecs R = true) {k : Nat} {a b : Rec} (ha : R[k]? = some a) (hb : R[k + 1]? = some b) : mayPg (leafL [b,a]) = false := by
 obtain ⟨h1,h2,h3,h4⟩ := mayRecs_ok h
 obtain ⟨i1,rfl⟩ := List.getElem?_eq_some_iff.1 ha
 obtain ⟨i2,rfl⟩ := List.getElem?_eq_some_iff.1 hb
 have hl := List.pairwise_iff_getElem.1 h4 _ _ i1 i2 (by omega)
 have hn : lessB R[k + 1].path R[k].path = false := by
  cases hc : lessB R[k + 1].path R[k].path
  ·rfl
  ·have := less_trans hl hc
   rw [less_irr] at this;cases this
 unfold mayPg leafL
 rw [if_pos rfl]
 unfold mayLeaf
 simp only [risesR,hn]
 simp
theorem leafL_small {l : List Rec} (h : l.length ≤ 1000) (h2 : ∀ r ∈ l,r.path.length < 1000000 ∧ small r.node) : SmallP (leafL l) :=
 ⟨by show l.length ≤ _;omega,Nat.zero_le _,Nat.zero_le _,h2,(fun k hk => by cases hk)⟩
theorem recs_cutL (l : List Rec) (a b : Nat) : ((l.flatMap recL).take (b * 15)).drop (a * 15) = ((l.take b).drop a).flatMap recL := by
 rw [take_flat' recL 15 (fun _ => rfl),drop_flat' recL 15 (fun _ => rfl)]
theorem drop_recL {l : List Rec} {i : Nat} {a : Rec} (h : l[i]? = some a) : (l.flatMap recL).drop (i * 15) = recL a ++ (l.drop (i + 1)).flatMap recL := drop_flat recL 15 (fun _ => rfl) h
def pgZ (n : Nat) (cs : List LV) (tk : Tok) : List LV := [boolL true,.sl n cs tk,.sl 0 [] .nil,.sl 0 [] .nil]
def pgY (n : Nat) (cs : List LV) : List LV := [boolL true,.sl n cs .no,.sl 0 [] .no,.sl 0 [] .no]
theorem pgZ_plain (n : Nat) (cs : List LV) (tk : Tok) : (pgZ n cs tk).map plain1 = pgY n cs := rfl
set_option maxRecDepth 100000 in
set_option maxHeartbeats 16000000 in
theorem pageLeaves_L (l : List Int) (x : Int) : LCalls Tryz.prog 7 [intsL l,intL x] (boolL true) := by
 have hmk : LCalls Tryz.prog 28 [intsL l] (.agg (treeL (madeT l))) := make_L l
 have hrc := madeRecs_L l
 have hmay := made_recs l
 obtain ⟨hR2,hsm⟩ := made_few l
 generalize madeR l = R at *
 generalize bytsT (madeT l) = B at *
 generalize madeT l = t at *
 obtain ⟨hx1,_⟩ := uN_eq x
 generalize uN x = xu at *
 simp only [treeL,rowL] at hmk hrc
 have t0 := ptold_L
 refine LCalls.of (fun _ => false) Tryz.func7 rfl (by decide) Tryz.ntmps7 Tryz.results7 (by simp) ?_
 intro w0 S0 vs hgl hwf0 hsz hvs;clear hsz hvs hwf0 hgl
 refine Yg0 ?_
 refine Yr1 @intsL.eq_1 ?_;intro K hK
 refine Yc1 (hmk) @intsL.eq_1 ?_
 refine Yc1 (hrc) @intsL.eq_1 ?_
 refine hK _ ?_;clear hK K;try refine Wh0 ?_
 by_cases h5 : R.length < 5
 ·have h5t : ((R.length : Int) < 5) = True := eq_true (by omega)
  refine Yg1 @h5t ?_
  refine Yt0 ?_
  refine Yr0 ?_;intro K hK
  refine Yc0 (t0) ?_
  refine hK _ ?_;clear hK K;try refine Wh0 ?_
  refine Ye0 ?_;try (with_reducible exact trivial)
 have h5f : ((R.length : Int) < 5) = False := eq_false (by omega)
 obtain ⟨w,hw⟩ : ∃ w,w = R.length - 4 := ⟨_,rfl⟩
 have hw4 : IntKind.i64.wrap ((R.length : Int) - 4) = (w : Int) := by rw [w64 (by omega)];omega
 have hwu := wu (n := w) (by omega)
 have hwz : ¬ ((w : Int) = 0) := by omega
 have hmod := umod xu w _ rfl
 obtain ⟨k,hk⟩ : ∃ k,k = xu % w := ⟨_,rfl⟩
 have hkw : k < w := by rw [hk];exact Nat.mod_lt _ (by omega)
 rw [← hk] at hmod
 have hkk : IntKind.i64.wrap (k : Int) = (k : Int) := w64 (by omega)
 have hkk2 : IntKind.u64.wrap (k : Int) = (k : Int) := wu (by omega)
 refine Yg1 @h5f ?_
 refine Yf0 ?_
 (repeat refine LW_seq ?_)
 refine Yo1 (fa7 @hw4 @hwu @hwz @hx1 @hmod @hkk @hkk2) ?_
 refine LW_slim (fun st => st.env 5 = .sl R.length (R.flatMap recL) .no ∧ st.env 8 = intL k ∧ st.mode = fun _ => false) ⟨Yq0,(Yq1 (fa7 @hw4 @hwu @hwz @hx1 @hmod @hkk @hkk2)),Yq0⟩ ?_
 rintro st ⟨e5,e8,hmd⟩
 obtain ⟨m4,hm4⟩ : ∃ m,m = k + 4 := ⟨_,rfl⟩
 obtain ⟨m5,hm5⟩ : ∃ m,m = k + 5 := ⟨_,rfl⟩
 have hw41 : IntKind.i64.wrap ((k : Int) + 4) = (m4 : Int) := by rw [w64 (by omega)];omega
 have hw51 : IntKind.i64.wrap ((k : Int) + 5) = (m5 : Int) := by rw [w64 (by omega)];omega
 have hb1 : (0 : Int) ≤ (k : Int) := by omega
 have hb2 : (k : Int) ≤ (m4 : Int) := by omega
 have hb3 : (m4 : Int) ≤ (R.length : Int) := by omega
 have hb4 : (k : Int) ≤ (m5 : Int) := by omega
 have hb5 : (m5 : Int) ≤ (R.length : Int) := by omega
 have hc4 := recs_cutL R k m4
 have hc5 := recs_cutL R k m5
 have ht4 : (R.take m4).drop k = (R.drop k).take 4 := by rw [List.drop_take,show m4 - k = 4 by omega]
 have ht5 : (R.take m5).drop k = (R.drop k).take 5 := by rw [List.drop_take,show m5 - k = 5 by omega]
 rw [ht4] at hc4
 rw [ht5] at hc5
 have hl4 : ((R.drop k).take 4).length = m4 - k := by rw [List.length_take,List.length_drop];omega
 have hl5 : ((R.drop k).take 5).length = m5 - k := by rw [List.length_take,List.length_drop];omega
 obtain ⟨p1,r0,hr0,p2⟩ := leafL_may hmay (k := k) (by omega)
 have p3 := leafL_long (l := (R.drop k).take 5) (by omega)
 obtain ⟨r1,hr1⟩ := get_of_lt (l := R) (i := k + 1) (by omega)
 have p4 := leafL_turned hmay hr0 hr1
 have s4 : SmallP (leafL ((R.drop k).take 4)) := leafL_small (by omega) (fun r hr => hsm r (List.mem_of_mem_drop (List.mem_of_mem_take hr)))
 have s5 : SmallP (leafL ((R.drop k).take 5)) := leafL_small (by omega) (fun r hr => hsm r (List.mem_of_mem_drop (List.mem_of_mem_take hr)))
 have s2 : SmallP (leafL [r1,r0]) := leafL_small (by simp) (fun r hr => by
  simp only [List.mem_cons,List.not_mem_nil,or_false] at hr
  rcases hr with rfl | rfl
  ·exact hsm _ (List.mem_of_getElem? hr1)
  ·exact hsm _ (List.mem_of_getElem? hr0))
 have ca := ppmay_L _ s4
 have cb := ppmay_L _ s5
 have cc := ppmay_L _ s2
 have cf := pfirst_L _ s4
 rw [p1] at ca
 rw [p3] at cb
 rw [p4] at cc
 rw [p2] at cf
 have hd0 := drop_recL hr0
 have hd1 := drop_recL hr1
 have hw11 := w64s (n := k) (by omega)
 have hk1 : k < R.length := by omega
 have hk2 : k + 1 < R.length := by omega
 have hb6 : (0 : Int) ≤ ((k + 1 : Nat) : Int) := by omega
 generalize (R.drop k).take 4 = q4 at *
 generalize (R.drop k).take 5 = q5 at *
 simp only [leafL,pgL,rowL,strsL,intsL,hl4,hl5,recL,nodeL,attrsL,acesL,piecesL,List.flatMap_cons,List.flatMap_nil,List.cons_append,List.nil_append,List.append_nil,List.length_nil,List.length_cons,Nat.zero_add,Nat.reduceAdd] at ca cb cc cf
 simp only [recL,nodeL,attrsL,acesL,piecesL,rowL,List.cons_append,List.nil_append] at hd0 hd1
 (repeat refine LW_seq ?_)
 refine Yo1 (fa7 @e5 @e8 @hw41 @hb1 @hb2 @hb3 @hc4) ?_
 (repeat refine LW_seq ?_)
 refine Yo1 (fa7 @e5 @e8 @hw51 @hb1 @hb4 @hb5 @hc5) ?_
 (repeat refine LW_seq ?_)
 refine LW_plainBox 9 (cs := pgZ (m4 - k) (q4.flatMap recL) .no) (Yq1 @pgZ.eq_1) ?_
 refine LW_plainBox 10 (cs := pgZ (m5 - k) (q5.flatMap recL) .no) (Yq1 @pgZ.eq_1) ?_
 rw [pgZ_plain,pgZ_plain]
 refine LW_slim (fun st => st.env 5 = .sl R.length (R.flatMap recL) .no ∧ st.env 8 = intL k ∧ st.env 9 = .ptr 9 0 ∧ st.box 9 = some (pgY (m4 - k) (q4.flatMap recL)) ∧ st.env 10 = .ptr 10 0 ∧ st.box 10 = some (pgY (m5 - k) (q5.flatMap recL)) ∧ st.mode = fun _ => false) ⟨(Yq1 @e5),(Yq1 @e8),Yq0,Yq0,Yq0,Yq0,(Yq1 @hmd)⟩ ?_
 clear e5 e8 hmd st
 rintro st ⟨e5,e8,e9,b9,e10,b10,hmd⟩
 simp only [pgY] at b9 b10
 obtain ⟨cs,hcs⟩ : ∃ cs,cs = recL r1 ++ recL r0 := ⟨_,rfl⟩
 simp only [recL,nodeL,attrsL,acesL,piecesL,rowL,List.cons_append,List.nil_append] at hcs
 refine LW_join (fun st => st.env 5 = .sl R.length (R.flatMap recL) .no ∧ st.env 8 = intL k ∧ st.env 9 = .ptr 9 0 ∧ st.box 9 = some (pgY (m4 - k) (q4.flatMap recL)) ∧ st.env 10 = .ptr 10 0 ∧ st.box 10 = some (pgY (m5 - k) (q5.flatMap recL)) ∧ st.env 11 = .ptr 11 0 ∧ st.box 11 = some (pgZ 2 cs .no) ∧ st.mode = fun _ => false) ?_ ?_
 ·(repeat (first | refine LW_seq ?_ | (refine LW_skip ?_;simp only [LSj,reduceIte,zze]) | refine LW_block ?_));refine LW_mix2 [] [] (fun _ => false) [(0,[]),(1,[]),(2,[]),(3,[]),(4,[]),(5,[]),(6,[]),(7,[]),(8,[])] [0,1,2,3,4,5,6,7,8] [[9,10,11,12],[9,11,10,12],[11,9,10,12]] rfl (by kernel_rfl) (by kernel_rfl) (by kernel_rfl) (by first | exact rfl | exact hmd | simp only [LZ,zo,zc,reduceCtorEq,reduceIte,zz1,zz2,zz3,zz4,zz5,zz6,zz7,zz8,zz9,zza,zzb,zzc,zzd,zze,zzf,e5,e8,hw11,hb1,hb6,hk1,hk2,hd0,hd1,hmd]) ?_;intro K hK;simp only [LZ,zo,zc,reduceCtorEq,reduceIte,zz1,zz2,zz3,zz4,zz5,zz6,zz7,zz8,zz9,zza,zzb,zzc,zzd,zze,zzf,e5,e8,hw11,hb1,hb6,hk1,hk2,hd0,hd1,hmd]
  refine ⟨?_,?_,?_⟩ <;> (refine hK _ ?_;clear hK K;try refine Wh0 ?_) <;> exact ⟨(Yq1 @e5),(Yq1 @e8),(Yq1 @e9),(Yq1 (fa2 @b9 @pgY.eq_1)),(Yq1 @e10),(Yq1 (fa2 @b10 @pgY.eq_1)),Yq0,(Yq1 (fa2 @pgZ.eq_1 @hcs)),(Yq1 @hmd)⟩
 clear e5 e8 e9 b9 e10 b10 hmd st
 rintro st ⟨e5,e8,e9,b9,e10,b10,e11,b11,hmd⟩
 refine LW_plainBox 11 b11 ?_
 rw [pgZ_plain]
 refine LW_slim (fun st => st.env 5 = .sl R.length (R.flatMap recL) .no ∧ st.env 8 = intL k ∧ st.env 9 = .ptr 9 0 ∧ st.box 9 = some (pgY (m4 - k) (q4.flatMap recL)) ∧ st.env 10 = .ptr 10 0 ∧ st.box 10 = some (pgY (m5 - k) (q5.flatMap recL)) ∧ st.env 11 = .ptr 11 0 ∧ st.box 11 = some (pgY 2 cs) ∧ st.mode = fun _ => false) ⟨(Yq1 @e5),(Yq1 @e8),(Yq1 @e9),(Yq1 @b9),(Yq1 @e10),(Yq1 @b10),(Yq1 @e11),Yq0,(Yq1 @hmd)⟩ ?_
 clear e5 e8 e9 b9 e10 b10 e11 b11 hmd st
 rintro st ⟨e5,e8,e9,b9,e10,b10,e11,b11,hmd⟩
 rw [hcs] at b11
 simp only [pgY] at b9 b10 b11
 refine Yn1 (fa12 @e5 @e8 @e9 @b9 @e10 @b10 @e11 @b11 @hb1 @hk1 @hd0 @hmd) ?_;intro K hK
 refine Yc1 (t0) (fa12 @e5 @e8 @e9 @b9 @e10 @b10 @e11 @b11 @hb1 @hk1 @hd0 @hmd) ?_
 refine Yc1 (ca) (fa12 @e5 @e8 @e9 @b9 @e10 @b10 @e11 @b11 @hb1 @hk1 @hd0 @hmd) ?_
 refine Yc1 (cb) (fa12 @e5 @e8 @e9 @b9 @e10 @b10 @e11 @b11 @hb1 @hk1 @hd0 @hmd) ?_
 refine Yc1 (cc) (fa12 @e5 @e8 @e9 @b9 @e10 @b10 @e11 @b11 @hb1 @hk1 @hd0 @hmd) ?_
 refine Yc1 (cf) (fa12 @e5 @e8 @e9 @b9 @e10 @b10 @e11 @b11 @hb1 @hk1 @hd0 @hmd) ?_
 refine hK _ ?_;clear hK K;try refine Wh0 ?_
 refine Ye0 ?_;try (with_reducible exact trivial)
end Go.Proofs.YteamlijbkldlhaaGreatDoor
