import Derived.Test.YteamlijbkldlhaaGreatKD3
import Derived.Test.YteamlijbkldlhaaGreatKPD
section
set_option linter.unusedSimpArgs false
set_option linter.unusedVariables false
namespace Go.Proofs.YteamlijbkldlhaaGreat
open Nat renaming reduceAdd → zz1,reduceMul → zz2,reduceSub → zz3,reduceLT → zz4,reduceLeDiff → zz5,reduceEqDiff → zz6,reduceBEq → zzf
open Int renaming reduceAdd → zz7,reduceSub → zz8,reduceMul → zz9,reduceLT → zza,reduceLE → zzb,reduceEq → zzc,reduceNeg → zzd,reduceToNat → zze
open Op renaming operands → zo
open Call renaming operands → zc
open Go.RowKit Go.Proofs AclSpec MetaSpec NodeSpec RecSpec PathSpec PageSpec DbSpec

structure SmallR (l : List Rec) : Prop where
  len : l.length ≤ 100000
  one : ∀ r ∈ l,r.path.length < 1000000 ∧ small r.node
set_option maxRecDepth 100000 in
set_option maxHeartbeats 4000000 in
theorem dmay_L (l : List Rec) (h : SmallR l) : LCalls Tryz.prog 37 [rowL recL l] (boolL (mayRecs l)) := by
  have hl := h.len
  refine LCalls.of (fun _ => false) Tryz.func37 rfl (by decide) Tryz.ntmps37 Tryz.results37 (by simp) ?_
  intro w0 S0 vs hgl hwf0 hsz hvs;clear hsz hvs hwf0 hgl
  generalize hR : mayRecs l = R
  unfold mayRecs at hR
  refine Yg1 @rowL.eq_1 ?_
  refine LW_lab1 (fun n st => ∃ (i : Nat) (o : Option (List UInt8)),n + i = l.length ∧ ((i = 0 ∧ o = none) ∨ (0 < i ∧ ∃ r,l[i - 1]? = some r ∧ o = some r.path)) ∧ st.env 0 = rowL recL l ∧ st.env 3 = intL i ∧ risesR o (l.drop i) = R ∧ st.mode = fun _ => false) rfl ?_ ?_
  · intro hJ
    by_cases h1 : l.length < 1
    · have h1i : ((l.length : Int) < 1) = True := eq_true (by omega)
      refine Yg1 @h1i ?_
      refine Yt0 ?_
      refine Yg0 ?_
      refine Ye0 ?_;try (with_reducible exact trivial)
      rw [← hR];simp [h1]
    have h1i : ¬ ((l.length : Int) < 1) := by omega
    by_cases h2 : 100 < l.length
    · have h2i : (100 < (l.length : Int)) = True := eq_true (by omega)
      refine Yg1 (fa2 @h1i @h2i) ?_
      refine Yt0 ?_
      refine Yg0 ?_
      refine Ye0 ?_;try (with_reducible exact trivial)
      rw [← hR];simp [h2]
    have h2i : ¬ (100 < (l.length : Int)) := by omega
    rw [decide_eq_false h1,decide_eq_false h2] at hR
    simp only [Bool.not_false,Bool.true_and] at hR
    refine Yg1 (fa2 @h1i @h2i) ?_
    refine Yf0 ?_
    refine Yl0 ?_
    exact hJ.out l.length _ ⟨0,none,by omega,.inl ⟨rfl,rfl⟩,(Yq1 @rowL.eq_1),Yq0,hR,rfl⟩
  · rintro n st ⟨i,o,hn,ho,e0,e3,hr,hmd⟩
    simp only [rowL] at e0
    by_cases hlt : i < l.length
    rotate_left
    · rw [List.drop_of_length_le (by omega),risesR.eq_def] at hr
      have hin : ((i : Int) = (l.length : Int)) = True := eq_true (by omega)
      refine Yg1 (fa3 @e0 @e3 @hin) ?_
      refine Yt0 ?_
      refine Yg0 ?_
      refine Ye0 ?_;try (with_reducible exact trivial)
      exact hr
    have hin : ¬ ((i : Int) = (l.length : Int)) := by omega
    obtain ⟨r,hre⟩ := get_of_lt hlt
    have hd := drop_rec hre
    have hw := w64s (n := i) (by omega)
    have hip : (0 : Int) ≤ (i : Int) := by omega
    obtain ⟨hpl,hsm⟩ := h.one r (List.mem_of_getElem? hre)
    have cm := recmay_L r hpl hsm
    rw [risesR_cons hre] at hr
    simp only [recL,nodeL,attrsL,acesL,piecesL,rowL,List.cons_append,List.nil_append] at cm hd
    refine Yg1 (fa3 @e0 @e3 @hin) ?_
    refine Yf0 ?_
    cases hm : mayRec r
    · rw [hm] at cm hr
      refine Yr1 (fa5 @e0 @e3 @hip @hlt @hd) ?_;intro K hK
      refine Yc1 (cm) (fa5 @e0 @e3 @hip @hlt @hd) ?_
      refine hK _ ?_;clear hK K;try refine Wh0 ?_
      refine Yt0 ?_
      refine Yg0 ?_
      refine Ye0 ?_;try (with_reducible exact trivial)
      exact hr
    rw [hm] at cm hr
    refine Yr1 (fa5 @e0 @e3 @hip @hlt @hd) ?_;intro K hK
    refine Yc1 (cm) (fa5 @e0 @e3 @hip @hlt @hd) ?_
    refine hK _ ?_;clear hK K;try refine Wh0 ?_
    refine Yf0 ?_
    rcases ho with ⟨rfl,rfl⟩ | ⟨hi0,q,hq,rfl⟩
    · simp only [Bool.true_and] at hr
      refine Yn1 (fa2 @e3 @hmd) ?_;intro K hK
      refine hK _ ?_;clear hK K;try refine Wh0 ?_
      refine Yf0 ?_
      refine Yg1 (fa2 @e3 @hw) ?_
      refine LW_goto ?_;simp only [thenL,jumpsL,inBlockL,twoL,true_and]
      exact ⟨n - 1,by omega,0 + 1,some r.path,by omega,.inr ⟨by omega,r,hre,rfl⟩,(Yq1 (fa2 @e0 @rowL.eq_1)),(Yq1 @hw),hr,(Yq1 @hmd)⟩
    · obtain ⟨j,rfl⟩ : ∃ j,i = j + 1 := ⟨i - 1,by omega⟩
      rw [Nat.add_sub_cancel] at hq
      have hdq := drop_rec hq
      obtain ⟨hql,_⟩ := h.one q (List.mem_of_getElem? hq)
      have cl := pless_L q.path r.path hql hpl
      have hip2 : ((0 : Int) < ((j + 1 : Nat) : Int)) = True := eq_true (by omega)
      have hj : IntKind.i64.wrap (((j + 1 : Nat) : Int) - 1) = (j : Int) := w64p (n := j + 1) (by omega) (by omega)
      have hj0 : (0 : Int) ≤ (j : Int) := by omega
      have hjl : j < l.length := by omega
      simp only [recL,nodeL,attrsL,acesL,piecesL,rowL,List.cons_append,List.nil_append] at hdq
      simp only [Bool.true_and] at hr
      cases hle : lessB q.path r.path
      · rw [hle] at cl hr
        refine Yn1 (fa11 @e0 @e3 @hip @hip2 @hlt @hd @hdq @hj @hj0 @hjl @hmd) ?_;intro K hK
        refine Yc1 (cl) (fa10 @e0 @e3 @hip @hip2 @hlt @hd @hdq @hj @hj0 @hjl) ?_
        refine hK _ ?_;clear hK K;try refine Wh0 ?_
        refine Yt0 ?_
        refine Yg0 ?_
        refine Ye0 ?_;try (with_reducible exact trivial)
        exact hr
      · rw [hle] at cl hr
        refine Yn1 (fa11 @e0 @e3 @hip @hip2 @hlt @hd @hdq @hj @hj0 @hjl @hmd) ?_;intro K hK
        refine Yc1 (cl) (fa10 @e0 @e3 @hip @hip2 @hlt @hd @hdq @hj @hj0 @hjl) ?_
        refine hK _ ?_;clear hK K;try refine Wh0 ?_
        refine Yf0 ?_
        refine Yg1 (fa2 @e3 @hw) ?_
        refine LW_goto ?_;simp only [thenL,jumpsL,inBlockL,twoL,true_and]
        exact ⟨n - 1,by omega,j + 1 + 1,some r.path,by omega,.inr ⟨by omega,r,by rw [Nat.add_sub_cancel];exact hre,rfl⟩,(Yq1 (fa2 @e0 @rowL.eq_1)),(Yq1 @hw),hr,(Yq1 @hmd)⟩
theorem leavesP_small {l : List Rec} (h : SmallR l) : ∀ x ∈ leavesP l,SmallP x := by
  intro x hx
  obtain ⟨j,_,rfl⟩ := List.mem_map.1 hx
  refine ⟨?_,by simp [leafP],by simp [leafP],fun r hr => h.one r ?_,(fun k hk => by cases hk)⟩
  · show ((l.drop (4 * j)).take 4).length ≤ 1000000
    rw [List.length_take];omega
  · exact List.mem_of_mem_drop (List.mem_of_mem_take hr)
theorem levelP_small {p : List Pg} (hs : ∀ x ∈ p,SmallP x) (a b : Nat) : ∀ x ∈ p ++ levelP p a b,SmallP x := by
  intro x hx
  rcases List.mem_append.1 hx with hx | hx
  · exact hs x hx
  · obtain ⟨j,_,rfl⟩ := List.mem_map.1 hx
    exact innerP_small p hs _ _ (by omega)
theorem pow4 (f : Nat) : 4 ^ (f + 1) = 4 * 4 ^ f := by rw [Nat.pow_succ,Nat.mul_comm]
set_option maxRecDepth 100000 in
set_option maxHeartbeats 4000000 in
theorem dbuild_L (l : List Rec) (h : SmallR l) : LCalls Tryz.prog 10 [rowL recL l] (.tup [rowL pgL (buildA l).1,intL (buildA l).2]) := by
  have hl := h.len
  have cm := dmay_L l h
  have cl := dleaves_O l hl (fun r hr => (h.one r hr).2)
  simp only [rowL] at cm cl
  refine LCalls.of (fun _ => false) Tryz.func10 rfl (by decide) Tryz.ntmps10 Tryz.results10 (by simp) ?_
  intro w0 S0 vs hgl hwf0 hsz hvs;clear hsz hvs hwf0 hgl
  generalize hR : buildA l = R
  unfold buildA at hR
  refine Yg1 @rowL.eq_1 ?_
  cases hm : mayRecs l
  · rw [hm] at cm
    rw [hm,if_neg (by decide)] at hR
    subst hR
    refine LW_scope_straight ?_
    refine Yr0 ?_;intro K hK
    refine Yc0 (cm) ?_
    refine hK _ ?_;clear hK K;try refine Wh0 ?_
    refine Yt0 ?_
    refine Yg0 ?_
    refine Ye1 @rowL.eq_1 ?_;try (with_reducible exact trivial)
    (repeat' apply And.intro) <;> rfl
  rw [hm] at cm
  rw [hm,if_pos rfl] at hR
  subst hR
  refine LW_lab1 (fun n st => ∃ (p : List Pg) (a : Nat),levelsP n p a = buildP l ∧ a ≤ p.length ∧ p.length - a ≤ 4 ^ n ∧ p.length + 2 * (p.length - a) ≤ 200 ∧ (∀ x ∈ p,SmallP x) ∧ st.env 4 = .sl p.length (p.flatMap pgL) (.row 1000) ∧ st.row 1000 = some (36,p.length) ∧ st.env 5 = intL a ∧ st.mode = fun _ => false) rfl ?_ ?_
  · intro hJ
    have hmm := hm
    unfold mayRecs at hmm
    simp only [Bool.and_eq_true,Bool.not_eq_true',decide_eq_false_iff_not] at hmm
    have hll := leavesP_len l
    refine Yr0 ?_;intro K hK
    refine Yc0 (cm) ?_
    refine hK _ ?_;clear hK K;try refine Wh0 ?_
    refine Yf0 ?_
    (repeat (first | refine LW_seq ?_ | (refine LW_skip ?_;simp only [LSj,reduceIte,zze]) | refine LW_block ?_));refine LW_regionO [(11,⟨_,_,_,_,_,[],[(2000,1000)],_,[],(cl).toS,rfl,rfl,rfl⟩)] ?_;intro K hK;simp only [LZ,zo,zc,reduceCtorEq,reduceIte,zz1,zz2,zz3,zz4,zz5,zz6,zz7,zz8,zz9,zza,zzb,zzc,zzd,zze,zzf]
    refine hK _ ?_;clear hK K;try refine Wh0 ?_
    refine Yl0 ?_
    exact hJ.out 4 _ ⟨leavesP l,0,rfl,by omega,by rw [hll];have : 4 ^ 4 = 256 := rfl;omega,by rw [hll];omega,leavesP_small h,Yq0,Yq0,Yq0,Yq0⟩
  · rintro n st ⟨p,a,hb,ha,hn,hpl,hs,e4,r1000,e5,hmd⟩
    have hw := w64 (x := (p.length : Int) - (a : Int)) (by omega)
    have hsub : (p.length : Int) - (a : Int) = ((p.length - a : Nat) : Int) := by omega
    rw [hsub] at hw
    by_cases h1 : 1 < p.length - a
    rotate_left
    · have h1i : ¬ ((1 : Int) < ((p.length - a : Nat) : Int)) := by omega
      have hbp : p = buildP l := by
        rw [← hb]
        cases n with
        | zero => rfl
        | succ n => rw [levelsP,if_neg h1]
      rw [hbp] at e4
      have hfp : (buildP l).length - a = p.length - a := by rw [hbp]
      have hsub2 : ((buildP l).length : Int) - (a : Int) = ((p.length - a : Nat) : Int) := by rw [← hbp];exact hsub
      refine Yg1 (fa5 @e4 @e5 @hsub2 @hw @h1i) ?_
      refine Yf0 ?_
      refine LW_plain 4 (n := (buildP l).length) (cs := (buildP l).flatMap pgL) (t := .row 1000) (Yq1 @e4) ?_
      refine Yg0 ?_
      refine Ye1 @rowL.eq_1 ?_;try (with_reducible exact trivial)
    have h1i : ((1 : Int) < ((p.length - a : Nat) : Int)) = True := eq_true (by omega)
    obtain ⟨f,rfl⟩ : ∃ f,n = f + 1 := by
      cases n with
      | zero => rw [Nat.pow_zero] at hn;omega
      | succ f => exact ⟨f,rfl⟩
    rw [levelsP,if_pos h1] at hb
    rw [pow4] at hn
    have hll := levelP_len p a p.length
    have co := dover_O p (by omega) hs a p.length ha (Nat.le_refl _)
    have hs2 := levelP_small hs a p.length
    have hql : (p ++ levelP p a p.length).length = p.length + (p.length - a + 3) / 4 := by rw [List.length_append,hll]
    generalize p ++ levelP p a p.length = q at *
    refine Yg1 (fa5 @e4 @e5 @hsub @hw @h1i) ?_
    refine Yt0 ?_
    (repeat (first | refine LW_seq ?_ | (refine LW_skip ?_;simp only [LSj,reduceIte,zze]) | refine LW_block ?_));refine LW_regionO [(21,⟨_,_,_,_,_,[(1000,1000)],[(2000,1000)],_,[],(co).toS,rfl,rfl,rfl⟩)] ?_;intro K hK;simp only [LZ,zo,zc,reduceCtorEq,reduceIte,zz1,zz2,zz3,zz4,zz5,zz6,zz7,zz8,zz9,zza,zzb,zzc,zzd,zze,zzf,e4,e5,r1000,hmd]
    refine hK _ ?_;clear hK K;try refine Wh0 ?_
    refine Yg0 ?_
    refine LW_goto ?_;simp only [thenL,jumpsL,inBlockL,twoL,true_and]
    exact ⟨f,by omega,q,p.length,hb,by omega,by omega,by omega,hs2,Yq0,Yq0,Yq0,(Yq1 @hmd)⟩
end Go.Proofs.YteamlijbkldlhaaGreat
end
section
set_option linter.unusedSimpArgs false
set_option linter.unusedVariables false
namespace Go.Proofs.YteamlijbkldlhaaGreat
open Nat renaming reduceAdd → zz1,reduceMul → zz2,reduceSub → zz3,reduceLT → zz4,reduceLeDiff → zz5,reduceEqDiff → zz6,reduceBEq → zzf
open Int renaming reduceAdd → zz7,reduceSub → zz8,reduceMul → zz9,reduceLT → zza,reduceLE → zzb,reduceEq → zzc,reduceNeg → zzd,reduceToNat → zze
open Op renaming operands → zo
open Call renaming operands → zc
open Go.RowKit Go.Proofs AclSpec MetaSpec NodeSpec RecSpec PathSpec PageSpec DbSpec

theorem SmallP.ok {p : Pg} (h : SmallP p) : okPg p := ⟨by have := h.recs;unfold maxLen;omega,by have := h.keys;unfold maxLen;omega,by have := h.pages;unfold maxLen;omega,fun r hr => okLen_of_small (h.one r hr).2⟩
theorem levelsP_small : ∀ (n : Nat) {p : List Pg} (a : Nat),(∀ x ∈ p,SmallP x) → ∀ x ∈ levelsP n p a,SmallP x
  | 0,p,a,h => h
  | n + 1,p,a,h => by
    rw [levelsP]
    split
    · exact levelsP_small n _ (levelP_small h a p.length)
    · exact h
theorem buildP_small {l : List Rec} (h : SmallR l) : ∀ x ∈ buildP l,SmallP x := levelsP_small 4 0 (leavesP_small h)
theorem gatherA_drop {ps : List Pg} {i : Nat} {p : Pg} (h : ps[i]? = some p) (acc : List Rec) : gatherA (ps.drop i) acc = if p.leaf = true then (if 4 < p.recs.length ∨ 100 < acc.length then none else gatherA (ps.drop (i + 1)) (acc ++ p.recs)) else some acc := by
  obtain ⟨hi,rfl⟩ := List.getElem?_eq_some_iff.1 h
  rw [List.drop_eq_getElem_cons hi,gatherA]
theorem openB_none {ps : List Pg} (h : gatherA ps [] = none) : openB ps = false := by unfold openB;rw [h]
theorem openB_some {ps : List Pg} {l : List Rec} (h : gatherA ps [] = some l) : openB ps = (mayRecs l && decide (buildP l = ps)) := by unfold openB;rw [h]
theorem take_eq_len {α : Type} {l m : List α} (h : l.length = m.length) (ht : l.take l.length = m.take l.length) : l = m := by
  rw [List.take_length,h,List.take_length] at ht;exact ht
theorem buildP_len200 {l : List Rec} (h : mayRecs l = true) : (buildP l).length ≤ 200 := by
  unfold mayRecs at h
  simp only [Bool.and_eq_true,Bool.not_eq_true',decide_eq_false_iff_not] at h
  have hb : ∀ (n : Nat) (p : List Pg) (a : Nat),a ≤ p.length → p.length + 2 * (p.length - a) ≤ 200 → (levelsP n p a).length ≤ 200 := by
    intro n
    induction n with
    | zero => intro p a _ h;show p.length ≤ 200;omega
    | succ n ih =>
      intro p a ha hp
      rw [levelsP]
      split
      · have := levelP_len p a p.length
        refine ih _ _ (by rw [List.length_append];omega) ?_
        rw [List.length_append,this];omega
      · omega
  refine hb 4 _ 0 (by omega) ?_
  rw [leavesP_len];omega
set_option maxRecDepth 100000 in
set_option maxHeartbeats 8000000 in
theorem dopen_O (ps : List Pg) (hp : ps.length ≤ 100000) (hs : ∀ x ∈ ps,SmallP x) (r : LV) (R : Own)
    (h : (openB ps = true ∧ r = .tup [.ptr 2000 0,intL 0] ∧ R = ⟨[],[],[(2000,[rowL pgL ps,intL 0])]⟩) ∨ (openB ps = false ∧ r = .tup [.lit (.pointer none),intL 3] ∧ R = ⟨[],[],[]⟩)) :
    OCalls Tryz.prog 15 [rowL pgL ps] ⟨[],[],[]⟩ r R := by
  have bad : openB ps = false → r = .tup [.lit (.pointer none),intL 3] ∧ R = ⟨[],[],[]⟩ := fun hb => by
    rcases h with ⟨h1,_⟩ | ⟨_,h2⟩
    · rw [hb] at h1;cases h1
    · exact h2
  have good : openB ps = true → r = .tup [.ptr 2000 0,intL 0] ∧ R = ⟨[],[],[(2000,[rowL pgL ps,intL 0])]⟩ := fun hb => by
    rcases h with ⟨_,h2⟩ | ⟨h1,_⟩
    · exact h2
    · rw [hb] at h1;cases h1
  clear h
  refine OCalls.of (fun _ => false) Tryz.func15 rfl (by decide) Tryz.ntmps15 Tryz.results15 (by simp) ?_
  intro w0 S0 vs
  refine Yg1 @rowL.eq_1 ?_
  refine LW_lab2
    (fun n st => ∃ (i : Nat) (acc : List Rec),n + i = 2 * ps.length + 1 ∧ i ≤ ps.length ∧ acc.length ≤ 104 ∧ (∀ r ∈ acc,r.path.length < 1000000 ∧ small r.node) ∧ gatherA (ps.drop i) acc = gatherA ps [] ∧ st.env 0 = rowL pgL ps ∧ st.env 4 = .sl acc.length (acc.flatMap recL) (.row 1000) ∧ st.row 1000 = some (48,acc.length) ∧ st.env 5 = intL i ∧ st.mode = fun _ => false)
    (fun n st => ∃ (i : Nat) (bp : List Pg),n + i = ps.length ∧ openB ps = decide (bp = ps) ∧ bp.length = ps.length ∧ (∀ x ∈ bp,SmallP x) ∧ bp.take i = ps.take i ∧ st.env 0 = rowL pgL ps ∧ st.env 6 = rowL pgL bp ∧ st.env 5 = intL i ∧ st.mode = fun _ => false) rfl rfl ?_ ?_ ?_
  · intro hJ0 hJ1
    refine Yo0 ?_
    refine LW_nil (k := 4) (q := 1000) (e := 48) Yq0 ?_
    refine Yl0 ?_
    exact hJ0.out (2 * ps.length + 1) _ ⟨0,[],by omega,by omega,by simp,(fun r hr => by cases hr),rfl,(Yq1 @rowL.eq_1),Yq0,Yq0,Yq0,Yq0⟩
  · rintro n st ⟨i,acc,hn,hi,hal,hac,hG,e0,e4,r1000,e5,hmd⟩ hJ1
    simp only [rowL] at e0
    have hfl := recL_flen acc
    (repeat refine LW_seq ?_)
    refine LW_joinC (fun st => gatherA ps [] = some acc ∧ st.env 0 = rowL pgL ps ∧ st.env 4 = .sl acc.length (acc.flatMap recL) (.row 1000) ∧ st.mode = fun _ => false) ?_ ?_
    · by_cases hlt : i < ps.length
      rotate_left
      · have hlti : ¬ ((i : Int) < (ps.length : Int)) := by omega
        refine Yg1 (fa3 @e0 @e5 @hlti) ?_
        refine Yf0 ?_
        exact ⟨by rw [← hG,List.drop_of_length_le (by omega)];rfl,(Yq1 (fa2 @e0 @rowL.eq_1)),(Yq1 @e4),(Yq1 @hmd)⟩
      have hlti : ((i : Int) < (ps.length : Int)) = True := eq_true (by omega)
      obtain ⟨p,hpi⟩ := get_of_lt hlt
      have hsp := hs p (List.mem_of_getElem? hpi)
      have hd := drop_pg hpi
      have hip : (0 : Int) ≤ (i : Int) := by omega
      have hw := w64s (n := i) (by omega)
      rw [gatherA_drop hpi] at hG
      have hap : (acc ++ p.recs).flatMap recL = acc.flatMap recL ++ p.recs.flatMap recL := by rw [List.flatMap_append]
      have hal2 : (acc ++ p.recs).length = acc.length + p.recs.length := List.length_append
      have hfp := recL_flen p.recs
      have hst := recL_strip p.recs
      have hso := recL_one p.recs
      have hr1 := hsp.recs
      have hone := hsp.one
      obtain ⟨lf,recs,keys,pages⟩ := p
      simp only at hG hap hal2 hfp hst hso hr1 hone
      simp only [pgL,rowL,strsL,intsL,List.cons_append,List.nil_append] at hd
      cases lf
      · rw [if_neg (by decide)] at hG
        refine Yg1 (fa6 @e0 @e5 @hip @hlti @hlt @hd) ?_
        refine Yf0 ?_
        exact ⟨hG.symm,(Yq1 (fa2 @e0 @rowL.eq_1)),(Yq1 @e4),(Yq1 @hmd)⟩
      rw [if_pos rfl] at hG
      refine Yg1 (fa6 @e0 @e5 @hip @hlti @hlt @hd) ?_
      refine Yt0 ?_
      by_cases h4 : 4 < recs.length
      · have h4i : ((4 : Int) < (recs.length : Int)) = True := eq_true (by omega)
        rw [if_pos (.inl h4)] at hG
        obtain ⟨rfl,rfl⟩ := bad (openB_none hG.symm)
        refine Yg1 (fa8 @e0 @e4 @e5 @hip @hlti @hlt @hd @h4i) ?_
        refine Yt0 ?_
        refine Yg0 ?_
        refine LW_ret ?_;simp only [thenL,jumpsL,inBlockL,twoL,bodyO];refine ⟨[],rfl,?_⟩;simp only [thenL,jumpsL,inBlockL,twoL,bodyQ,LV.lit.injEq,LV.tup.injEq,LV.agg.injEq,LV.sl.injEq,List.cons.injEq,Value.int.injEq,Value.bool.injEq,Value.string.injEq,ByteArray.mk.injEq,exists_eq_left',exists_eq_left,exists_eq_right,LZ,zo,zc,reduceCtorEq,reduceIte,zz1,zz2,zz3,zz4,zz5,zz6,zz7,zz8,zz9,zza,zzb,zzc,zzd,zze,zzf]
      have h4i : ¬ ((4 : Int) < (recs.length : Int)) := by omega
      by_cases h100 : 100 < acc.length
      · have h100i : ((100 : Int) < (acc.length : Int)) = True := eq_true (by omega)
        rw [if_pos (.inr h100)] at hG
        obtain ⟨rfl,rfl⟩ := bad (openB_none hG.symm)
        refine Yg1 (fa9 @e0 @e4 @e5 @hip @hlti @hlt @hd @h4i @h100i) ?_
        refine Yt0 ?_
        refine Yg0 ?_
        refine LW_ret ?_;simp only [thenL,jumpsL,inBlockL,twoL,bodyO];refine ⟨[],rfl,?_⟩;simp only [thenL,jumpsL,inBlockL,twoL,bodyQ,LV.lit.injEq,LV.tup.injEq,LV.agg.injEq,LV.sl.injEq,List.cons.injEq,Value.int.injEq,Value.bool.injEq,Value.string.injEq,ByteArray.mk.injEq,exists_eq_left',exists_eq_left,exists_eq_right,LZ,zo,zc,reduceCtorEq,reduceIte,zz1,zz2,zz3,zz4,zz5,zz6,zz7,zz8,zz9,zza,zzb,zzc,zzd,zze,zzf]
      have h100i : ¬ ((100 : Int) < (acc.length : Int)) := by omega
      rw [if_neg (by rintro (c | c) <;> omega)] at hG
      refine Yg1 (fa9 @e0 @e4 @e5 @hip @hlti @hlt @hd @h4i @h100i) ?_
      refine Yf0 ?_
      refine Yr1 (fa13 @e0 @e4 @e5 @r1000 @hmd @hip @hlti @hlt @hd @hfl @hfp @hst @hso) ?_;intro K hK
      refine ⟨by (repeat' apply And.intro) <;> first | omega | (unfold maxLen;omega) | (intro _;omega) | decide,?_⟩
      refine hK _ ?_;clear hK K;try refine Wh0 ?_
      refine Yg1 (fa2 @e5 @hw) ?_
      refine LW_goto ?_;simp only [thenL,jumpsL,inBlockL,twoL,true_and]
      refine ⟨n - 1,by omega,i + 1,acc ++ recs,by omega,by omega,by omega,fun r hr => ?_,hG,(Yq1 (fa2 @e0 @rowL.eq_1)),?_,?_,(Yq1 @hw),(Yq1 @hmd)⟩
      · rcases List.mem_append.1 hr with hr | hr
        · exact hac r hr
        · exact hone r hr
      · rw [hal2,hap];exact Yq0
      · rw [hal2];exact Yq0
    clear e0 e4 r1000 e5 hmd hG
    rintro st ⟨hG,e0,e4,hmd⟩
    simp only [rowL] at e0
    have hsr : SmallR acc := ⟨by omega,hac⟩
    have cb := dbuild_L acc hsr
    have hob := openB_some hG
    unfold buildA at cb
    cases hm : mayRecs acc
    · rw [hm,if_neg (by decide)] at cb
      rw [hm] at hob
      obtain ⟨rfl,rfl⟩ := bad hob
      simp only [rowL] at cb
      refine Yr1 (fa2 @e0 @e4) ?_;intro K hK
      refine Yc1 (cb) (fa2 @e0 @e4) ?_
      refine hK _ ?_;clear hK K;try refine Wh0 ?_
      refine Yg1 @e0 ?_
      refine Yt0 ?_
      refine Yg0 ?_
      refine LW_ret ?_;simp only [thenL,jumpsL,inBlockL,twoL,bodyO];refine ⟨[],rfl,?_⟩;simp only [thenL,jumpsL,inBlockL,twoL,bodyQ,LV.lit.injEq,LV.tup.injEq,LV.agg.injEq,LV.sl.injEq,List.cons.injEq,Value.int.injEq,Value.bool.injEq,Value.string.injEq,ByteArray.mk.injEq,exists_eq_left',exists_eq_left,exists_eq_right,LZ,zo,zc,reduceCtorEq,reduceIte,zz1,zz2,zz3,zz4,zz5,zz6,zz7,zz8,zz9,zza,zzb,zzc,zzd,zze,zzf]
    rw [hm,if_pos rfl] at cb
    rw [hm,Bool.true_and] at hob
    have hbs := buildP_small hsr
    have hb2 := buildP_len200 hm
    generalize buildP acc = bp at *
    simp only [rowL] at cb
    refine Yr1 (fa2 @e0 @e4) ?_;intro K hK
    refine Yc1 (cb) (fa2 @e0 @e4) ?_
    refine hK _ ?_;clear hK K;try refine Wh0 ?_
    by_cases hbl : bp.length = ps.length
    rotate_left
    · have hbli : ¬ ((bp.length : Int) = (ps.length : Int)) := by omega
      obtain ⟨rfl,rfl⟩ := bad (by rw [hob,decide_eq_false];rintro rfl;exact hbl rfl)
      refine Yg1 (fa2 @e0 @hbli) ?_
      refine Yt0 ?_
      refine Yg0 ?_
      refine LW_ret ?_;simp only [thenL,jumpsL,inBlockL,twoL,bodyO];refine ⟨[],rfl,?_⟩;simp only [thenL,jumpsL,inBlockL,twoL,bodyQ,LV.lit.injEq,LV.tup.injEq,LV.agg.injEq,LV.sl.injEq,List.cons.injEq,Value.int.injEq,Value.bool.injEq,Value.string.injEq,ByteArray.mk.injEq,exists_eq_left',exists_eq_left,exists_eq_right,LZ,zo,zc,reduceCtorEq,reduceIte,zz1,zz2,zz3,zz4,zz5,zz6,zz7,zz8,zz9,zza,zzb,zzc,zzd,zze,zzf]
    have hbli : ((bp.length : Int) = (ps.length : Int)) = True := eq_true (by omega)
    refine Yg1 (fa2 @e0 @hbli) ?_
    refine Yf0 ?_
    refine Yl0 ?_
    exact hJ1.out ps.length _ (by omega) ⟨0,bp,by omega,hob,hbl,hbs,by simp,(Yq1 (fa2 @e0 @rowL.eq_1)),(Yq1 @rowL.eq_1),Yq0,(Yq1 @hmd)⟩
  · rintro n st ⟨i,bp,hn,hob,hbl,hbs,htk,e0,e6,e5,hmd⟩ hJ0
    simp only [rowL] at e0 e6
    by_cases hlt : i < bp.length
    rotate_left
    · have hlti : ¬ ((i : Int) < (bp.length : Int)) := by omega
      have hbp : bp = ps := take_eq_len hbl (by rw [show bp.length = i by omega];exact htk)
      obtain ⟨rfl,rfl⟩ := good (by rw [hob,decide_eq_true hbp])
      subst hbp
      refine Yg1 (fa3 @e5 @e6 @hlti) ?_
      refine Yf0 ?_
      refine Yg1 @e6 ?_
      refine LW_ret ?_;simp only [thenL,jumpsL,inBlockL,twoL,bodyO];refine ⟨[(72,2000)],rfl,?_⟩;simp only [thenL,jumpsL,inBlockL,twoL,bodyQ,LV.lit.injEq,LV.tup.injEq,LV.agg.injEq,LV.sl.injEq,List.cons.injEq,Value.int.injEq,Value.bool.injEq,Value.string.injEq,ByteArray.mk.injEq,exists_eq_left',exists_eq_left,exists_eq_right,LZ,zo,zc,reduceCtorEq,reduceIte,zz1,zz2,zz3,zz4,zz5,zz6,zz7,zz8,zz9,zza,zzb,zzc,zzd,zze,zzf,rowL]
    have hlti : ((i : Int) < (bp.length : Int)) = True := eq_true (by omega)
    have hltp : i < ps.length := by omega
    obtain ⟨x,hx⟩ := get_of_lt hlt
    obtain ⟨y,hy⟩ := get_of_lt hltp
    have hdx := drop_pg hx
    have hdy := drop_pg hy
    have hip : (0 : Int) ≤ (i : Int) := by omega
    have hw := w64s (n := i) (by omega)
    have cs := psame_L x y (hbs x (List.mem_of_getElem? hx)).ok (hs y (List.mem_of_getElem? hy)).ok
    simp only [pgL,rowL,strsL,intsL,List.cons_append,List.nil_append] at cs hdx hdy
    by_cases he : x = y
    · rw [decide_eq_true he] at cs
      refine Yg1 (fa3 @e5 @e6 @hlti) ?_
      refine Yt0 ?_
      refine Yn1 (fa9 @e0 @e5 @e6 @hip @hlt @hltp @hdx @hdy @hmd) ?_;intro K hK
      refine Yc1 (cs) (fa8 @e0 @e5 @e6 @hip @hlt @hltp @hdx @hdy) ?_
      refine hK _ ?_;clear hK K;try refine Wh0 ?_
      refine Yf0 ?_
      refine Yg1 (fa2 @e5 @hw) ?_
      refine LW_goto ?_;simp only [thenL,jumpsL,inBlockL,twoL,true_and]
      exact ⟨n - 1,by omega,i + 1,bp,by omega,hob,hbl,hbs,take_succ_eq htk hx hy he,(Yq1 (fa2 @e0 @rowL.eq_1)),(Yq1 (fa2 @e6 @rowL.eq_1)),(Yq1 @hw),(Yq1 @hmd)⟩
    · rw [decide_eq_false he] at cs
      obtain ⟨rfl,rfl⟩ := bad (by rw [hob,decide_eq_false];rintro rfl;rw [hx] at hy;exact he (Option.some.inj hy))
      refine Yg1 (fa3 @e5 @e6 @hlti) ?_
      refine Yt0 ?_
      refine Yn1 (fa9 @e0 @e5 @e6 @hip @hlt @hltp @hdx @hdy @hmd) ?_;intro K hK
      refine Yc1 (cs) (fa8 @e0 @e5 @e6 @hip @hlt @hltp @hdx @hdy) ?_
      refine hK _ ?_;clear hK K;try refine Wh0 ?_
      refine Yt0 ?_
      refine Yg0 ?_
      refine LW_ret ?_;simp only [thenL,jumpsL,inBlockL,twoL,bodyO];refine ⟨[],rfl,?_⟩;simp only [thenL,jumpsL,inBlockL,twoL,bodyQ,LV.lit.injEq,LV.tup.injEq,LV.agg.injEq,LV.sl.injEq,List.cons.injEq,Value.int.injEq,Value.bool.injEq,Value.string.injEq,ByteArray.mk.injEq,exists_eq_left',exists_eq_left,exists_eq_right,LZ,zo,zc,reduceCtorEq,reduceIte,zz1,zz2,zz3,zz4,zz5,zz6,zz7,zz8,zz9,zza,zzb,zzc,zzd,zze,zzf]
end Go.Proofs.YteamlijbkldlhaaGreat
end
