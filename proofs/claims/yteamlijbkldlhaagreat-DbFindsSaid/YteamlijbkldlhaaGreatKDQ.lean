import Derived.Test.YteamlijbkldlhaaGreatKR4
import Derived.Test.YteamlijbkldlhaaGreatKPC
import Derived.Test.YteamlijbkldlhaaGreatDTab
import Derived.Test.YteamlijbkldlhaaGreatKTB
import Derived.Test.YteamlijbkldlhaaGreatKD9
section
set_option linter.unusedSimpArgs false
set_option linter.unusedVariables false
namespace Go.Proofs.YteamlijbkldlhaaGreat
open Nat renaming reduceAdd → zz1,reduceMul → zz2,reduceSub → zz3,reduceLT → zz4,reduceLeDiff → zz5,reduceEqDiff → zz6,reduceBEq → zzf
open Int renaming reduceAdd → zz7,reduceSub → zz8,reduceMul → zz9,reduceLT → zza,reduceLE → zzb,reduceEq → zzc,reduceNeg → zzd,reduceToNat → zze
open Go.RowKit Go.Proofs AclSpec MetaSpec NodeSpec RecSpec PathSpec PageSpec DbSpec

set_option maxRecDepth 100000 in
set_option maxHeartbeats 4000000 in
theorem sameRec_L (a : Rec) (ha : small a.node) : LCalls Tryz.prog 22 [.agg (recL a),.agg (recL a)] (boolL true) := by
  have cs := rsameNode_L a.node a.node (okLen_of_small ha) (okLen_of_small ha)
  rw [decide_eq_true rfl] at cs
  simp only [nodeL,attrsL,acesL,piecesL,rowL] at cs
  refine LCalls.of (fun _ => false) Tryz.func22 rfl (by decide) Tryz.ntmps22 Tryz.results22 (by simp) ?_
  intro w0 S0 vs hgl hwf0 hsz hvs;clear hsz hvs hwf0 hgl
  refine Yo1 (fa6 @recL.eq_1 @nodeL.eq_1 @attrsL.eq_1 @acesL.eq_1 @piecesL.eq_1 @rowL.eq_1) ?_
  refine Yr0 ?_;intro K hK
  refine Yc0 (cs) ?_
  refine hK _ ?_;clear hK K;try refine Wh0 ?_
  refine Ye0 ?_;try (with_reducible exact trivial)
theorem drop_recS {l : List Rec} {i : Nat} {a : Rec} (h : l[i]? = some a) : (l.flatMap recL).drop (i * 15) = recL a ++ (l.drop (i + 1)).flatMap recL := drop_flat recL 15 (fun _ => rfl) h
set_option maxRecDepth 100000 in
set_option maxHeartbeats 4000000 in
theorem sameRecs_L (l : List Rec) (hl : l.length ≤ 1000000) (hs : ∀ r ∈ l,small r.node) : LCalls Tryz.prog 24 [rowL recL l,rowL recL l] (boolL true) := by
  refine LCalls.of (fun _ => false) Tryz.func24 rfl (by decide) Tryz.ntmps24 Tryz.results24 (by simp) ?_
  intro w0 S0 vs hgl hwf0 hsz hvs;clear hsz hvs hwf0 hgl
  refine Yg1 @rowL.eq_1 ?_
  refine Yf0 ?_
  refine Yg0 ?_
  refine LW_joinB (fun st => True) ?_ ?_
  · refine LW_loop (fun n st => ∃ i : Nat,n + i = l.length ∧ st.env 0 = rowL recL l ∧ st.env 1 = rowL recL l ∧ st.env 5 = intL i ∧ st.mode = fun _ => false) l.length ⟨0,by omega,(Yq1 @rowL.eq_1),(Yq1 @rowL.eq_1),Yq0,Yq0⟩ ?_
    rintro n st ⟨i,hn,e0,e1,e5,hmd⟩
    simp only [rowL] at e0 e1
    by_cases hlt : i < l.length
    rotate_left
    · have hll : ¬ ((i : Int) < (l.length : Int)) := by omega
      refine Yg1 (fa3 @e0 @e5 @hll) ?_
      refine Yf0 ?_
      refine LW_exit ?_;simp only [thenL,jumpsL,inBlockL,twoL,reduceIte,Nat.reduceEqDiff]
    obtain ⟨r,hr⟩ := get_of_lt hlt
    have hd := drop_recS hr
    have cs := sameRec_L r (hs r (List.mem_of_getElem? hr))
    have hlti : ((i : Int) < (l.length : Int)) = True := eq_true (by omega)
    have hip : (0 : Int) ≤ (i : Int) := by omega
    have hw := w64s (n := i) (by omega)
    simp only [recL,nodeL,attrsL,acesL,piecesL,rowL,List.cons_append,List.nil_append] at hd cs
    refine Yg1 (fa3 @e0 @e5 @hlti) ?_
    refine Yt0 ?_
    refine LW_skip ?_
    simp only [LSj,reduceIte,zze]
    refine LW_seq ?_
    refine LW_block ?_
    (repeat refine LW_seq ?_)
    refine Yn1 (fa7 @e0 @e1 @e5 @hlt @hip @hd @hmd) ?_;intro K hK
    refine Yc1 (cs) (fa7 @e0 @e1 @e5 @hlt @hip @hd @hmd) ?_
    refine hK _ ?_;clear hK K;try refine Wh0 ?_
    refine Yf0 ?_
    refine Yg1 (fa2 @e5 @hw) ?_
    exact ⟨n - 1,by omega,i + 1,by omega,(Yq1 (fa2 @e0 @rowL.eq_1)),(Yq1 (fa2 @e1 @rowL.eq_1)),(Yq1 @hw),(Yq1 @hmd)⟩
  rintro st -
  refine Yg0 ?_
  refine Ye0 ?_;try (with_reducible exact trivial)
theorem quo_four {m : Nat} (h : m ≤ 1000000) : IntKind.i64.wrap ((m : Int) + 4) = ((m + 4 : Nat) : Int) ∧ IntKind.i64.wrap (((m + 4 : Nat) : Int) - 1) = ((m + 3 : Nat) : Int) ∧ IntKind.i64.wrap (((m + 3 : Nat) : Int).tdiv 4) = (((m + 3) / 4 : Nat) : Int) := by
  refine ⟨by rw [w64 (by omega)];omega,by rw [w64 (by omega)];omega,?_⟩
  rw [Int.tdiv_eq_ediv_of_nonneg (by omega),w64 (by omega)];omega
set_option maxRecDepth 100000 in
set_option maxHeartbeats 4000000 in
theorem refHeight_L (n : Nat) (hn : n ≤ 100) : LCalls Tryz.prog 21 [intL n] (intL (1 + upP 4 ((n + 3) / 4) : Nat)) := by
  obtain ⟨q1,q2,q3⟩ := quo_four (m := n) (by omega)
  refine LCalls.of (fun _ => false) Tryz.func21 rfl (by decide) Tryz.ntmps21 Tryz.results21 (by simp) ?_
  intro w0 S0 vs hgl hwf0 hsz hvs;clear hsz hvs hwf0 hgl
  refine Yg1 (fa3 @q1 @q2 @q3) ?_
  refine LW_joinB (fun st => st.env 3 = intL (1 + upP 4 ((n + 3) / 4) : Nat)) ?_ ?_
  · refine LW_loop (fun f st => ∃ m h : Nat,h + upP f m = 1 + upP 4 ((n + 3) / 4) ∧ m ≤ 4 ^ f ∧ f + h ≤ 5 ∧ st.env 0 = intL m ∧ st.env 3 = intL h) 4 ⟨(n + 3) / 4,1,rfl,by have : 4 ^ 4 = 256 := rfl;omega,by omega,(Yq1 (fa3 @q1 @q2 @q3)),Yq0⟩ ?_
    rintro f st ⟨m,h,hh,hm,hf,e0,e3⟩
    by_cases h1 : 1 < m
    rotate_left
    · have hll : ¬ ((1 : Int) < (m : Int)) := by omega
      have hz : upP f m = 0 := by
        cases f with
        | zero => rfl
        | succ f => rw [upP,if_neg h1]
      rw [hz] at hh
      refine Yg1 (fa2 @e0 @hll) ?_
      refine Yf0 ?_
      refine LW_exit ?_;simp only [thenL,jumpsL,inBlockL,twoL,reduceIte,Nat.reduceEqDiff]
      rw [← hh];exact (Yq1 @e3)
    cases f with
    | zero => rw [Nat.pow_zero] at hm;omega
    | succ f =>
      rw [upP,if_pos h1] at hh
      have hp : 4 ^ (f + 1) = 4 * 4 ^ f := by rw [Nat.pow_succ,Nat.mul_comm]
      have hml : m ≤ 1000000 := by
        have : 4 ^ (f + 1) ≤ 4 ^ 5 := Nat.pow_le_pow_right (by omega) (by omega)
        have h5 : 4 ^ 5 = 1024 := rfl
        omega
      obtain ⟨p1,p2,p3⟩ := quo_four (m := m) hml
      have hlt : ((1 : Int) < (m : Int)) = True := eq_true (by omega)
      have hw := w64s (n := h) (by omega)
      refine Yg1 (fa2 @e0 @hlt) ?_
      refine Yt0 ?_
      refine Yg1 (fa6 @e0 @e3 @hw @p1 @p2 @p3) ?_
      exact ⟨f,by omega,(m + 3) / 4,h + 1,by omega,by omega,by omega,(Yq1 (fa3 @p1 @p2 @p3)),(Yq1 @hw)⟩
  rintro st e3
  refine Yg1 @e3 ?_
  refine Ye0 ?_;try (with_reducible exact trivial)
end Go.Proofs.YteamlijbkldlhaaGreat
end
section
set_option linter.unusedSimpArgs false
set_option linter.unusedVariables false
namespace Go.Proofs.YteamlijbkldlhaaGreat
open Go.RowKit Go.Proofs PathSpec

set_option maxRecDepth 100000 in
theorem runder_L' (s t : List UInt8) (hs : s.length < 1000000) (ht : t.length < 1000000) : LCalls Tryz.prog 19 [strL s,strL t] (boolL (underB s t)) := by
  have c1 := rpmay_L s hs
  have c2 := rpmay_L t ht
  refine LCalls.of (fun _ => false) Tryz.func19 rfl (by decide) Tryz.ntmps19 Tryz.results19 (by simp) ?_
  intro w0 S0 vs hgl hwf0 hsz hvs;clear hsz hvs hwf0 hgl
  generalize hR : underB s t = R
  unfold underB at hR
  refine Yg0 ?_
  cases h1 : mayB s
  · rw [h1] at c1 hR
    refine Yr0 ?_;intro K hK
    refine Yc0 (c1) ?_
    refine hK _ ?_;clear hK K;try refine Wh0 ?_
    refine Yt0 ?_
    refine Yg0 ?_
    refine Ye0 ?_;try (with_reducible exact trivial)
    rw [← hR];rfl
  rw [h1] at c1 hR
  cases h2 : mayB t
  · rw [h2] at c2 hR
    refine Yr0 ?_;intro K hK
    refine Yc0 (c1) ?_
    refine Yc0 (c2) ?_
    refine hK _ ?_;clear hK K;try refine Wh0 ?_
    refine Yt0 ?_
    refine Yg0 ?_
    refine Ye0 ?_;try (with_reducible exact trivial)
    rw [← hR];rfl
  rw [h2] at c2 hR
  refine Yr0 ?_;intro K hK
  refine Yc0 (c1) ?_
  refine Yc0 (c2) ?_
  refine hK _ ?_;clear hK K;try refine Wh0 ?_
  refine Yf0 ?_
  simp only [Bool.true_and] at hR
  by_cases h0 : t = []
  · have : R = true := by rw [← hR,h0];rfl
    subst this
    refine Yg1 @h0 ?_
    refine Ye0 ?_;try (with_reducible exact trivial)
  have hte : t.isEmpty = false := by cases t <;> simp_all
  rw [hte,Bool.false_or] at hR
  by_cases h3 : s = t
  · have : R = true := by rw [← hR,h3];simp
    subst this
    have h3t : (s = t) = True := eq_true h3
    refine Yg1 (fa2 @h0 @h3t) ?_
    refine Ye0 ?_;try (with_reducible exact trivial)
  have hse : (s == t) = false := by simpa using h3
  rw [hse,Bool.false_or] at hR
  by_cases h4 : t.length < s.length
  rotate_left
  · rw [under_short s t h4] at hR
    subst hR
    have h4i : ¬ ((t.length : Int) < (s.length : Int)) := by omega
    refine Yg1 (fa4 @h0 @h3 @h4i @h4) ?_
    refine Ye0 ?_;try (with_reducible exact trivial)
  rw [under_pre s t h4] at hR
  have h4i : ((t.length : Int) < (s.length : Int)) = True := eq_true (by omega)
  have h4l : ((t.length : Int) ≤ (s.length : Int)) = True := eq_true (by omega)
  have h4m : (t.length ≤ s.length) = True := eq_true (by omega)
  have h4n : (t.length < s.length) = True := eq_true h4
  by_cases h5 : s.take t.length = t
  rotate_left
  · have : R = false := by rw [← hR];simp [h5]
    subst this
    refine Yg1 (fa7 @h0 @h3 @h4i @h4l @h4m @h4n @h5) ?_
    refine Ye0 ?_;try (with_reducible exact trivial)
  have h5t : (s.take t.length = t) = True := eq_true h5
  have hg := List.getElem?_eq_getElem h4
  by_cases h6 : s[t.length] = 47
  · have : R = true := by rw [← hR,h6];simp [h5]
    subst this
    have h6i : ((s[t.length].toNat : Int) = 47) = True := eq_true (by rw [h6];rfl)
    refine Yg1 (fa9 @h0 @h3 @h4i @h4l @h4m @h4n @h5t @hg @h6i) ?_
    refine Ye0 ?_;try (with_reducible exact trivial)
  · have : R = false := by rw [← hR];simp [h6]
    subst this
    have h6i : ¬ ((s[t.length].toNat : Int) = 47) := fun c => h6 (by apply UInt8.toNat_inj.1;rw [show (47 : UInt8).toNat = 47 from rfl];omega)
    refine Yg1 (fa9 @h0 @h3 @h4i @h4l @h4m @h4n @h5t @hg @h6i) ?_
    refine Ye0 ?_;try (with_reducible exact trivial)
end Go.Proofs.YteamlijbkldlhaaGreat
end
section
set_option linter.unusedSimpArgs false
set_option linter.unusedVariables false
namespace Go.Proofs.YteamlijbkldlhaaGreat
open Nat renaming reduceAdd → zz1,reduceMul → zz2,reduceSub → zz3,reduceLT → zz4,reduceLeDiff → zz5,reduceEqDiff → zz6,reduceBEq → zzf
open Int renaming reduceAdd → zz7,reduceSub → zz8,reduceMul → zz9,reduceLT → zza,reduceLE → zzb,reduceEq → zzc,reduceNeg → zzd,reduceToNat → zze
open Op renaming operands → zo
open Call renaming operands → zc
open Go.RowKit Go.Proofs AclSpec MetaSpec NodeSpec RecSpec PathSpec PageSpec DbSpec

set_option maxRecDepth 100000 in
set_option maxHeartbeats 8000000 in
theorem dthose_S (ps : List Pg) (hl : ps.length ≤ 1000) (hs : ∀ x ∈ ps,SmallP x) (hg : (gatherP ps).length ≤ 100000) (k : Int) (fv : LV) (f : FuncId) (cs : List LV) (hfv : ∀ w g v,Rep Tryz.prog w g fv v → Rep Tryz.prog w g (.fn f cs) v) (pred : List UInt8 → Bool)
    (hf : ∀ p : List UInt8,p.length < 1000000 → LCalls Tryz.prog f (strL p :: cs) (boolL (pred p))) :
    SCalls Tryz.prog 52 [.ptr 1000 0,fv] ⟨[],[],[(1000,dbL ps k)]⟩ (rowL recL ((gatherP ps).filter fun r => pred r.path)) ⟨[],[],[(2000,dbL ps k)]⟩ [(1000,2000)] := by
  refine SCalls.of (fun _ => false) [(1000,2000)] 0 Tryz.func52 rfl (by decide) Tryz.ntmps52 Tryz.results52 (by simp) (.inr ⟨_,_,rfl,by decide,rfl⟩) ?_
  intro w0 S0 vs
  generalize hR : (gatherP ps).filter (fun r => pred r.path) = R
  have hRl : R.length ≤ 100000 := by rw [← hR];exact Nat.le_trans (List.length_filter_le _ _) hg
  refine LW_weak 1 (x := .fn f cs) hfv ?_
  refine Yg1 (fa2 @dbL.eq_1 @rowL.eq_1) ?_
  refine LW_lab1 (fun n st => ∃ (a i : Nat) (out : List Rec),n + i = stepsP (ps.drop a) + 1 ∧ (∀ p,ps[a]? = some p → i ≤ p.recs.length) ∧ a ≤ ps.length ∧ out ++ (restP ps a i).filter (fun r => pred r.path) = R ∧ st.env 0 = .ptr 1000 0 ∧ st.val 0 = vs[0]? ∧ st.box 1000 = some (dbL ps k) ∧ st.env 1 = .fn f cs ∧ st.env 5 = .sl out.length (out.flatMap recL) (.row 1001) ∧ st.row 1001 = some (48,out.length) ∧ st.env 6 = intL a ∧ st.env 7 = intL i ∧ st.mode = fun _ => false) rfl ?_ ?_
  · intro hJ
    refine Yg1 (fa2 @nilDb @undDb) ?_
    refine Yf0 ?_
    refine Yo0 ?_
    refine LW_nil (k := 5) (q := 1001) (e := 48) Yq0 ?_
    refine Yl0 ?_
    exact hJ.out (stepsP ps + 1) _ ⟨0,0,[],by rw [List.drop_zero],(fun p _ => by omega),by omega,by rw [restP_zero,hR];rfl,Yq0,Yq0,(Yq1 (fa2 @dbL.eq_1 @rowL.eq_1)),Yq0,Yq0,Yq0,Yq0,Yq0,Yq0⟩
  · rintro n st ⟨a,i,out,hn,hi,hal,hr,e0,v0,b1000,e1,e5,r1000,e6,e7,hmd⟩
    simp only [dbL,rowL] at b1000
    have hol : out.length ≤ 100000 := by
      have := congrArg List.length hr
      rw [List.length_append] at this;omega
    have hof := recL_flen out
    by_cases hlt : a < ps.length
    rotate_left
    · have hai : ((a : Int) = (ps.length : Int)) = True := eq_true (by omega)
      rw [restP_end ps (by omega)] at hr
      have hr : out ++ [] = R := hr
      rw [List.append_nil] at hr
      subst hr
      refine Yg1 (fa4 @e0 @b1000 @e6 @hai) ?_
      refine Yt0 ?_
      refine LW_plain 5 (n := out.length) (cs := out.flatMap recL) (t := .row 1001) (Yq1 @e5) ?_
      refine Yg0 ?_
      refine LW_ret ?_;simp only [thenL,jumpsL,inBlockL,twoL,bodyS];refine ⟨[(1000,2000)],rfl,.inr ⟨_,_,_,rfl,rfl,(by first | exact rfl | assumption | (simp only [LZ,zo,zc,reduceCtorEq,reduceIte,zz1,zz2,zz3,zz4,zz5,zz6,zz7,zz8,zz9,zza,zzb,zzc,zzd,zze,zzf,e0,v0,b1000,dbL,rowL] <;> exact rfl)),(by first | exact rfl | assumption | (simp only [LZ,zo,zc,reduceCtorEq,reduceIte,zz1,zz2,zz3,zz4,zz5,zz6,zz7,zz8,zz9,zza,zzb,zzc,zzd,zze,zzf,e0,v0,b1000,dbL,rowL] <;> exact rfl))⟩,?_⟩;simp only [thenL,jumpsL,inBlockL,twoL,bodyQ,LV.lit.injEq,LV.tup.injEq,LV.agg.injEq,LV.sl.injEq,List.cons.injEq,Value.int.injEq,Value.bool.injEq,Value.string.injEq,ByteArray.mk.injEq,exists_eq_left',exists_eq_left,exists_eq_right,LZ,zo,zc,reduceCtorEq,reduceIte,zz1,zz2,zz3,zz4,zz5,zz6,zz7,zz8,zz9,zza,zzb,zzc,zzd,zze,zzf,e0,v0,b1000,dbL,rowL]
    have hai : ¬ ((a : Int) = (ps.length : Int)) := by omega
    obtain ⟨x,hx⟩ := get_of_lt hlt
    have hsx := hs x (List.mem_of_getElem? hx)
    have hd := drop_pg hx
    have hap : (0 : Int) ≤ (a : Int) := by omega
    have hwa := w64s (n := a) (by omega)
    have hix := hi x hx
    have hxr := hsx.recs
    rw [restP_at hx] at hr
    simp only [pgL,rowL,strsL,intsL,List.cons_append,List.nil_append] at hd
    cases hlf : x.leaf
    · rw [hlf,if_neg (by decide)] at hr
      have hr : out ++ [] = R := hr
      rw [List.append_nil] at hr
      subst hr
      rw [hlf] at hd
      refine Yg1 (fa7 @e0 @b1000 @e6 @hai @hap @hlt @hd) ?_
      refine Yt0 ?_
      refine LW_plain 5 (n := out.length) (cs := out.flatMap recL) (t := .row 1001) (Yq1 @e5) ?_
      refine Yg0 ?_
      refine LW_ret ?_;simp only [thenL,jumpsL,inBlockL,twoL,bodyS];refine ⟨[(1000,2000)],rfl,.inr ⟨_,_,_,rfl,rfl,(by first | exact rfl | assumption | (simp only [LZ,zo,zc,reduceCtorEq,reduceIte,zz1,zz2,zz3,zz4,zz5,zz6,zz7,zz8,zz9,zza,zzb,zzc,zzd,zze,zzf,e0,v0,b1000,dbL,rowL] <;> exact rfl)),(by first | exact rfl | assumption | (simp only [LZ,zo,zc,reduceCtorEq,reduceIte,zz1,zz2,zz3,zz4,zz5,zz6,zz7,zz8,zz9,zza,zzb,zzc,zzd,zze,zzf,e0,v0,b1000,dbL,rowL] <;> exact rfl))⟩,?_⟩;simp only [thenL,jumpsL,inBlockL,twoL,bodyQ,LV.lit.injEq,LV.tup.injEq,LV.agg.injEq,LV.sl.injEq,List.cons.injEq,Value.int.injEq,Value.bool.injEq,Value.string.injEq,ByteArray.mk.injEq,exists_eq_left',exists_eq_left,exists_eq_right,LZ,zo,zc,reduceCtorEq,reduceIte,zz1,zz2,zz3,zz4,zz5,zz6,zz7,zz8,zz9,zza,zzb,zzc,zzd,zze,zzf,e0,v0,b1000,dbL,rowL]
    rw [hlf,if_pos rfl] at hr
    rw [hlf] at hd
    refine Yg1 (fa7 @e0 @b1000 @e6 @hai @hap @hlt @hd) ?_
    refine Yf0 ?_
    have hstep := stepsP_cons hx
    by_cases hil : i < x.recs.length
    rotate_left
    · have hii : ((i : Int) = (x.recs.length : Int)) = True := eq_true (by omega)
      rw [List.drop_of_length_le (by omega),List.nil_append] at hr
      refine Yg1 (fa8 @e0 @b1000 @e6 @e7 @hap @hlt @hd @hii) ?_
      refine Yt0 ?_
      refine Yg1 (fa2 @e6 @hwa) ?_
      refine LW_goto ?_;simp only [thenL,jumpsL,inBlockL,twoL,true_and]
      exact ⟨stepsP (ps.drop (a + 1)) + 1,by omega,a + 1,0,out,by omega,(fun p _ => by omega),by omega,hr,(Yq1 @e0),(Yq1 @v0),(Yq1 (fa3 @b1000 @dbL.eq_1 @rowL.eq_1)),(Yq1 @e1),(Yq1 @e5),(Yq1 @r1000),(Yq1 @hwa),Yq0,(Yq1 @hmd)⟩
    have hii : ¬ ((i : Int) = (x.recs.length : Int)) := by omega
    obtain ⟨r,hri⟩ := get_of_lt hil
    have hrm := List.mem_of_getElem? hri
    obtain ⟨hrp,hrs⟩ := hsx.one r hrm
    have hdr := drop_rec hri
    have hip : (0 : Int) ≤ (i : Int) := by omega
    have hwi := w64s (n := i) (by omega)
    have cw := hf r.path hrp
    have cc := dclone_L r hrs
    rw [show x.recs.drop i = r :: x.recs.drop (i + 1) by
      obtain ⟨h1,h2⟩ := List.getElem?_eq_some_iff.1 hri
      rw [← h2];exact List.drop_eq_getElem_cons h1,List.cons_append,List.filter_cons] at hr
    simp only [recL,nodeL,attrsL,acesL,piecesL,rowL,List.cons_append,List.nil_append] at cc hdr
    have hsn : (out ++ [r]).flatMap recL = out.flatMap recL ++ recL r := by rw [List.flatMap_append];simp
    have hsl : (out ++ [r]).length = out.length + 1 := by simp
    simp only [recL,nodeL,attrsL,acesL,piecesL,rowL,List.cons_append,List.nil_append] at hsn
    refine Yg1 (fa8 @e0 @b1000 @e6 @e7 @hap @hlt @hd @hii) ?_
    refine Yf0 ?_
    (repeat (first | refine LW_seq ?_ | (refine LW_skip ?_;simp only [LSj,reduceIte,zze]) | refine LW_block ?_));refine LW_mid 13 rfl rfl ?_;intro K hK;simp only [LZ,zo,zc,reduceCtorEq,reduceIte,zz1,zz2,zz3,zz4,zz5,zz6,zz7,zz8,zz9,zza,zzb,zzc,zzd,zze,zzf,e0,b1000,e1,e6,e7,hap,hlt,hd,hip,hil,hdr];refine hK _ ?_;clear hK K
    refine fnCall_last (f := f) (cs := cs) (r := boolL (pred r.path)) (Yq1 @e1) (by simp only [LZ,zo,zc,reduceCtorEq,reduceIte,zz1,zz2,zz3,zz4,zz5,zz6,zz7,zz8,zz9,zza,zzb,zzc,zzd,zze,zzf];exact cw) (by decide) ?_
    intro K hK
    simp only [LZ,zo,zc,reduceCtorEq,reduceIte,zz1,zz2,zz3,zz4,zz5,zz6,zz7,zz8,zz9,zza,zzb,zzc,zzd,zze,zzf]
    refine hK _ ?_;clear hK K;try refine Wh0 ?_
    have hrest : restP ps a (i + 1) = x.recs.drop (i + 1) ++ restP ps (a + 1) 0 := by rw [restP_at hx,hlf,if_pos rfl]
    cases hpr : pred r.path
    · rw [hpr,if_neg (by decide),← hrest] at hr
      refine Yf1 @hpr ?_
      refine Yg1 (fa2 @e7 @hwi) ?_
      refine LW_goto ?_;simp only [thenL,jumpsL,inBlockL,twoL,true_and]
      exact ⟨n - 1,by omega,a,i + 1,out,by omega,(fun p hp => by rw [hx] at hp;cases hp;omega),by omega,hr,(Yq1 @e0),(Yq1 @v0),(Yq1 (fa3 @b1000 @dbL.eq_1 @rowL.eq_1)),(Yq1 @e1),(Yq1 @e5),(Yq1 @r1000),(Yq1 @e6),(Yq1 @hwi),(Yq1 @hmd)⟩
    · rw [hpr,if_pos rfl,← hrest,← List.singleton_append,← List.append_assoc] at hr
      refine Yt1 @hpr ?_
      refine Yr1 (fa14 @e0 @b1000 @e5 @e6 @e7 @r1000 @hmd @hap @hlt @hd @hip @hil @hdr @hof) ?_;intro K hK
      refine Yc1 (cc) (fa14 @e0 @b1000 @e5 @e6 @e7 @r1000 @hmd @hap @hlt @hd @hip @hil @hdr @hof) ?_
      refine ⟨by (repeat' apply And.intro) <;> first | omega | (unfold maxLen;omega) | (intro _;omega) | decide,?_⟩
      refine hK _ ?_;clear hK K;try refine Wh0 ?_
      refine Yg1 (fa2 @e7 @hwi) ?_
      refine LW_goto ?_;simp only [thenL,jumpsL,inBlockL,twoL,true_and]
      exact ⟨n - 1,by omega,a,i + 1,out ++ [r],by omega,(fun p hp => by rw [hx] at hp;cases hp;omega),by omega,hr,(Yq1 @e0),(Yq1 @v0),(Yq1 (fa3 @b1000 @dbL.eq_1 @rowL.eq_1)),(Yq1 @e1),by rw [hsl,hsn];exact Yq0,by rw [hsl];exact Yq0,(Yq1 @e6),(Yq1 @hwi),(Yq1 @hmd)⟩
set_option maxRecDepth 100000 in
theorem dunder_S (ps : List Pg) (hl : ps.length ≤ 1000) (hs : ∀ x ∈ ps,SmallP x) (hg : (gatherP ps).length ≤ 100000) (k : Int) (t : List UInt8) (ht : t.length < 1000000) :
    SCalls Tryz.prog 26 [.ptr 1000 0,strL t] ⟨[],[],[(1000,dbL ps k)]⟩ (rowL recL ((gatherP ps).filter fun r => underB r.path t)) ⟨[],[],[(2000,dbL ps k)]⟩ [(1000,2000)] := by
  have ct := dthose_S ps hl hs hg k (.fn 55 [.ref [strL t]]) 55 [.ref [strL t]] (fun _ _ _ h => h) (fun p => underB p t) (fun p hp => dunder1_L p t hp ht)
  simp only [dbL,rowL] at ct
  refine SCalls.of (fun _ => false) [(1000,2000)] 0 Tryz.func26 rfl (by decide) Tryz.ntmps26 Tryz.results26 (by simp) (.inr ⟨_,_,rfl,by decide,rfl⟩) ?_
  intro w0 S0 vs
  refine Yg1 (fa2 @dbL.eq_1 @rowL.eq_1) ?_
  refine LW_pubBox (cs := [strL t]) 3 Yq0 Yq0 ?_
  (repeat (first | refine LW_seq ?_ | (refine LW_skip ?_;simp only [LSj,reduceIte,zze]) | refine LW_block ?_));refine LW_regionO [(7,⟨_,_,_,_,_,[(1000,1000)],[(2000,1000)],_,[1001000],(ct).toS,rfl,rfl,rfl⟩)] ?_;intro K hK;simp only [LZ,zo,zc,reduceCtorEq,reduceIte,zz1,zz2,zz3,zz4,zz5,zz6,zz7,zz8,zz9,zza,zzb,zzc,zzd,zze,zzf,dbL,rowL]
  refine hK _ ?_;clear hK K;try refine Wh0 ?_
  refine LW_ret ?_;simp only [thenL,jumpsL,inBlockL,twoL,bodyS];refine ⟨[(1000,2000)],rfl,.inr ⟨_,_,_,rfl,rfl,(by first | exact rfl | assumption | (simp only [LZ,zo,zc,reduceCtorEq,reduceIte,zz1,zz2,zz3,zz4,zz5,zz6,zz7,zz8,zz9,zza,zzb,zzc,zzd,zze,zzf,dbL,rowL] <;> exact rfl)),(by first | exact rfl | assumption | (simp only [LZ,zo,zc,reduceCtorEq,reduceIte,zz1,zz2,zz3,zz4,zz5,zz6,zz7,zz8,zz9,zza,zzb,zzc,zzd,zze,zzf,dbL,rowL] <;> exact rfl))⟩,?_⟩;simp only [thenL,jumpsL,inBlockL,twoL,bodyQ,LV.lit.injEq,LV.tup.injEq,LV.agg.injEq,LV.sl.injEq,List.cons.injEq,Value.int.injEq,Value.bool.injEq,Value.string.injEq,ByteArray.mk.injEq,exists_eq_left',exists_eq_left,exists_eq_right,LZ,zo,zc,reduceCtorEq,reduceIte,zz1,zz2,zz3,zz4,zz5,zz6,zz7,zz8,zz9,zza,zzb,zzc,zzd,zze,zzf,dbL,rowL]
set_option maxRecDepth 100000 in
theorem drange_S (ps : List Pg) (hl : ps.length ≤ 1000) (hs : ∀ x ∈ ps,SmallP x) (hg : (gatherP ps).length ≤ 100000) (k : Int) (lo hi : List UInt8) (h1 : lo.length < 1000000) (h2 : hi.length < 1000000) :
    SCalls Tryz.prog 25 [.ptr 1000 0,strL lo,strL hi] ⟨[],[],[(1000,dbL ps k)]⟩ (rowL recL (rangeP (gatherP ps) lo hi)) ⟨[],[],[(2000,dbL ps k)]⟩ [(1000,2000)] := by
  have ct := dthose_S ps hl hs hg k (.fn 53 [.ref [strL lo],.ref [strL hi]]) 53 [.ref [strL lo],.ref [strL hi]] (fun _ _ _ h => h) (fun p => !lessB p lo && lessB p hi) (fun p hp => drange1_L p lo hi hp h1 h2)
  have c1 := pmay_L lo h1
  have c2 := pmay_L hi h2
  simp only [dbL,rowL] at ct
  refine SCalls.of (fun _ => false) [(1000,2000)] 0 Tryz.func25 rfl (by decide) Tryz.ntmps25 Tryz.results25 (by simp) (.inr ⟨_,_,rfl,by decide,rfl⟩) ?_
  intro w0 S0 vs
  generalize hR : rangeP (gatherP ps) lo hi = R
  unfold rangeP at hR
  refine Yg1 (fa2 @dbL.eq_1 @rowL.eq_1) ?_
  cases m1 : mayB lo
  · rw [m1] at c1
    rw [m1,if_neg (by simp)] at hR
    subst hR
    refine Yr0 ?_;intro K hK
    refine Yc0 (c1) ?_
    refine hK _ ?_;clear hK K;try refine Wh0 ?_
    refine Yt0 ?_
    refine Yg0 ?_
    refine LW_ret ?_;simp only [thenL,jumpsL,inBlockL,twoL,bodyS];refine ⟨[(1000,2000)],rfl,.inr ⟨_,_,_,rfl,rfl,(by first | exact rfl | assumption | (simp only [LZ,zo,zc,reduceCtorEq,reduceIte,zz1,zz2,zz3,zz4,zz5,zz6,zz7,zz8,zz9,zza,zzb,zzc,zzd,zze,zzf,dbL,rowL] <;> exact rfl)),(by first | exact rfl | assumption | (simp only [LZ,zo,zc,reduceCtorEq,reduceIte,zz1,zz2,zz3,zz4,zz5,zz6,zz7,zz8,zz9,zza,zzb,zzc,zzd,zze,zzf,dbL,rowL] <;> exact rfl))⟩,?_⟩;simp only [thenL,jumpsL,inBlockL,twoL,bodyQ,LV.lit.injEq,LV.tup.injEq,LV.agg.injEq,LV.sl.injEq,List.cons.injEq,Value.int.injEq,Value.bool.injEq,Value.string.injEq,ByteArray.mk.injEq,exists_eq_left',exists_eq_left,exists_eq_right,LZ,zo,zc,reduceCtorEq,reduceIte,zz1,zz2,zz3,zz4,zz5,zz6,zz7,zz8,zz9,zza,zzb,zzc,zzd,zze,zzf,dbL,rowL]
    (repeat' apply And.intro) <;> rfl
  rw [m1] at c1
  cases m2 : mayB hi
  · rw [m2] at c2
    rw [m2,if_neg (by simp)] at hR
    subst hR
    refine Yr0 ?_;intro K hK
    refine Yc0 (c1) ?_
    refine Yc0 (c2) ?_
    refine hK _ ?_;clear hK K;try refine Wh0 ?_
    refine Yt0 ?_
    refine Yg0 ?_
    refine LW_ret ?_;simp only [thenL,jumpsL,inBlockL,twoL,bodyS];refine ⟨[(1000,2000)],rfl,.inr ⟨_,_,_,rfl,rfl,(by first | exact rfl | assumption | (simp only [LZ,zo,zc,reduceCtorEq,reduceIte,zz1,zz2,zz3,zz4,zz5,zz6,zz7,zz8,zz9,zza,zzb,zzc,zzd,zze,zzf,dbL,rowL] <;> exact rfl)),(by first | exact rfl | assumption | (simp only [LZ,zo,zc,reduceCtorEq,reduceIte,zz1,zz2,zz3,zz4,zz5,zz6,zz7,zz8,zz9,zza,zzb,zzc,zzd,zze,zzf,dbL,rowL] <;> exact rfl))⟩,?_⟩;simp only [thenL,jumpsL,inBlockL,twoL,bodyQ,LV.lit.injEq,LV.tup.injEq,LV.agg.injEq,LV.sl.injEq,List.cons.injEq,Value.int.injEq,Value.bool.injEq,Value.string.injEq,ByteArray.mk.injEq,exists_eq_left',exists_eq_left,exists_eq_right,LZ,zo,zc,reduceCtorEq,reduceIte,zz1,zz2,zz3,zz4,zz5,zz6,zz7,zz8,zz9,zza,zzb,zzc,zzd,zze,zzf,dbL,rowL]
    (repeat' apply And.intro) <;> rfl
  rw [m2] at c2
  rw [m1,m2,if_pos ⟨rfl,rfl⟩] at hR
  rw [hR] at ct
  refine Yr0 ?_;intro K hK
  refine Yc0 (c1) ?_
  refine Yc0 (c2) ?_
  refine hK _ ?_;clear hK K;try refine Wh0 ?_
  refine Yf0 ?_
  refine LW_pubBox (cs := [strL lo]) 4 Yq0 Yq0 ?_
  refine LW_pubBox (cs := [strL hi]) 5 Yq0 Yq0 ?_
  (repeat (first | refine LW_seq ?_ | (refine LW_skip ?_;simp only [LSj,reduceIte,zze]) | refine LW_block ?_));refine LW_regionO [(17,⟨_,_,_,_,_,[(1000,1000)],[(2000,1000)],_,[1001000],(ct).toS,rfl,rfl,rfl⟩)] ?_;intro K hK;simp only [LZ,zo,zc,reduceCtorEq,reduceIte,zz1,zz2,zz3,zz4,zz5,zz6,zz7,zz8,zz9,zza,zzb,zzc,zzd,zze,zzf,dbL,rowL]
  refine hK _ ?_;clear hK K;try refine Wh0 ?_
  refine LW_ret ?_;simp only [thenL,jumpsL,inBlockL,twoL,bodyS];refine ⟨[(1000,2000)],rfl,.inr ⟨_,_,_,rfl,rfl,(by first | exact rfl | assumption | (simp only [LZ,zo,zc,reduceCtorEq,reduceIte,zz1,zz2,zz3,zz4,zz5,zz6,zz7,zz8,zz9,zza,zzb,zzc,zzd,zze,zzf,dbL,rowL] <;> exact rfl)),(by first | exact rfl | assumption | (simp only [LZ,zo,zc,reduceCtorEq,reduceIte,zz1,zz2,zz3,zz4,zz5,zz6,zz7,zz8,zz9,zza,zzb,zzc,zzd,zze,zzf,dbL,rowL] <;> exact rfl))⟩,?_⟩;simp only [thenL,jumpsL,inBlockL,twoL,bodyQ,LV.lit.injEq,LV.tup.injEq,LV.agg.injEq,LV.sl.injEq,List.cons.injEq,Value.int.injEq,Value.bool.injEq,Value.string.injEq,ByteArray.mk.injEq,exists_eq_left',exists_eq_left,exists_eq_right,LZ,zo,zc,reduceCtorEq,reduceIte,zz1,zz2,zz3,zz4,zz5,zz6,zz7,zz8,zz9,zza,zzb,zzc,zzd,zze,zzf,dbL,rowL]
end Go.Proofs.YteamlijbkldlhaaGreat
end
