import Derived.Test.YteamlijbkldlhaaGreatKD7
import Derived.Test.YteamlijbkldlhaaGreatDTab
section
set_option linter.unusedSimpArgs false
set_option linter.unusedVariables false
namespace Go.Proofs.YteamlijbkldlhaaGreat
open Nat renaming reduceAdd → zz1,reduceMul → zz2,reduceSub → zz3,reduceLT → zz4,reduceLeDiff → zz5,reduceEqDiff → zz6,reduceBEq → zzf
open Int renaming reduceAdd → zz7,reduceSub → zz8,reduceMul → zz9,reduceLT → zza,reduceLE → zzb,reduceEq → zzc,reduceNeg → zzd,reduceToNat → zze
open Op renaming operands → zo
open Call renaming operands → zc
open Go.RowKit Go.Proofs AclSpec MetaSpec NodeSpec RecSpec PathSpec PageSpec DbSpec

set_option maxRecDepth 100000 in
theorem punder_L (s t : List UInt8) (hs : s.length < 1000000) (ht : t.length < 1000000) : LCalls Tryz.prog 56 [strL s,strL t] (boolL (underB s t)) := by
  have c1 := pmay_L s hs
  have c2 := pmay_L t ht
  have ch := hasp_L s (t ++ [47])
  have htl : t.length + 1 ≤ 9223372036854775807 := by omega
  refine LCalls.of (fun _ => false) Tryz.func56 rfl (by decide) Tryz.ntmps56 Tryz.results56 (by simp) ?_
  intro w0 S0 vs hgl hwf0 hsz hvs;clear hsz hvs hwf0 hgl
  generalize hR : underB s t = R
  unfold underB at hR
  refine Yg0 ?_
  cases h1 : mayB s
  · rw [h1] at c1 hR
    refine Yr0 ?_;intro K hK
    refine Yc0 (c1) ?_
    refine hK _ ?_;clear hK K;try refine Wh0 ?_
    refine Yt0 ?_
    refine Yg0 ?_
    refine Ye0 ?_;try (with_reducible exact trivial)
    rw [← hR];rfl
  rw [h1] at c1 hR
  cases h2 : mayB t
  · rw [h2] at c2 hR
    refine Yr0 ?_;intro K hK
    refine Yc0 (c1) ?_
    refine Yc0 (c2) ?_
    refine hK _ ?_;clear hK K;try refine Wh0 ?_
    refine Yt0 ?_
    refine Yg0 ?_
    refine Ye0 ?_;try (with_reducible exact trivial)
    rw [← hR];rfl
  rw [h2] at c2 hR
  refine Yr0 ?_;intro K hK
  refine Yc0 (c1) ?_
  refine Yc0 (c2) ?_
  refine hK _ ?_;clear hK K;try refine Wh0 ?_
  refine Yf0 ?_
  simp only [Bool.true_and] at hR
  by_cases h0 : t = []
  · have : R = true := by rw [← hR,h0];rfl
    subst this
    refine Yr1 @h0 ?_;intro K hK
    refine hK _ ?_;clear hK K;try refine Wh0 ?_
    refine Ye0 ?_;try (with_reducible exact trivial)
  have hte : t.isEmpty = false := by cases t <;> simp_all
  rw [hte,Bool.false_or] at hR
  by_cases h3 : s = t
  · have : R = true := by rw [← hR,h3];simp
    subst this
    have h3t : (s = t) = True := eq_true h3
    refine Yr1 (fa2 @h0 @h3t) ?_;intro K hK
    refine hK _ ?_;clear hK K;try refine Wh0 ?_
    refine Ye0 ?_;try (with_reducible exact trivial)
  have hse : (s == t) = false := by simpa using h3
  rw [hse,Bool.false_or] at hR
  rw [hR] at ch
  refine Yr1 (fa3 @h0 @h3 @htl) ?_;intro K hK
  refine Yc1 (ch) (fa3 @h0 @h3 @htl) ?_
  refine hK _ ?_;clear hK K;try refine Wh0 ?_
  refine Ye0 ?_;try (with_reducible exact trivial)
def restP (ps : List Pg) (a i : Nat) : List Rec := match ps.drop a with
  | [] => []
  | p :: r => if p.leaf = true then p.recs.drop i ++ gatherP r else []
theorem restP_end (ps : List Pg) {a : Nat} (h : ps.length ≤ a) (i : Nat) : restP ps a i = [] := by unfold restP;rw [List.drop_of_length_le h]
theorem restP_at {ps : List Pg} {a : Nat} {p : Pg} (h : ps[a]? = some p) (i : Nat) : restP ps a i = if p.leaf = true then p.recs.drop i ++ restP ps (a + 1) 0 else [] := by
  obtain ⟨hi,rfl⟩ := List.getElem?_eq_some_iff.1 h
  have e : restP ps (a + 1) 0 = gatherP (ps.drop (a + 1)) := by
    unfold restP
    cases ps.drop (a + 1) with
    | nil => rfl
    | cons q r => rw [gatherP];simp
  unfold restP at e ⊢
  rw [List.drop_eq_getElem_cons hi,e]
theorem restP_zero (ps : List Pg) : restP ps 0 0 = gatherP ps := by
  unfold restP
  rw [List.drop_zero]
  cases ps with
  | nil => rfl
  | cons p r => rw [gatherP];simp
def stepsP (ps : List Pg) : Nat := (ps.map fun p => p.recs.length + 1).sum
theorem stepsP_cons {ps : List Pg} {a : Nat} {p : Pg} (h : ps[a]? = some p) : stepsP (ps.drop a) = p.recs.length + 1 + stepsP (ps.drop (a + 1)) := by
  obtain ⟨hi,rfl⟩ := List.getElem?_eq_some_iff.1 h
  unfold stepsP
  rw [List.drop_eq_getElem_cons hi,List.map_cons,List.sum_cons]
set_option maxRecDepth 100000 in
set_option maxHeartbeats 8000000 in
theorem dthose_L (ps : List Pg) (hl : ps.length ≤ 1000) (hs : ∀ x ∈ ps,SmallP x) (hg : (gatherP ps).length ≤ 100000) (k : Int) (fv : LV) (f : FuncId) (cs : List LV) (hfv : ∀ w g v,Rep Tryz.prog w g fv v → Rep Tryz.prog w g (.fn f cs) v) (pred : List UInt8 → Bool)
    (hf : ∀ p : List UInt8,p.length < 1000000 → LCalls Tryz.prog f (strL p :: cs) (boolL (pred p))) :
    LCalls Tryz.prog 52 [.ref (dbL ps k),fv] (rowL recL ((gatherP ps).filter fun r => pred r.path)) := by
  refine LCalls.of (fun _ => false) Tryz.func52 rfl (by decide) Tryz.ntmps52 Tryz.results52 (by simp) ?_
  intro w0 S0 vs hgl hwf0 hsz hvs;clear hsz hvs hwf0 hgl
  generalize hR : (gatherP ps).filter (fun r => pred r.path) = R
  have hRl : R.length ≤ 100000 := by rw [← hR];exact Nat.le_trans (List.length_filter_le _ _) hg
  refine LW_weak 1 (x := .fn f cs) hfv ?_
  refine Yg1 (fa2 @dbL.eq_1 @rowL.eq_1) ?_
  refine LW_lab1 (fun n st => ∃ (a i : Nat) (out : List Rec),n + i = stepsP (ps.drop a) + 1 ∧ (∀ p,ps[a]? = some p → i ≤ p.recs.length) ∧ a ≤ ps.length ∧ out ++ (restP ps a i).filter (fun r => pred r.path) = R ∧ st.env 0 = .ref (dbL ps k) ∧ st.env 1 = .fn f cs ∧ st.env 5 = .sl out.length (out.flatMap recL) (.row 1000) ∧ st.row 1000 = some (48,out.length) ∧ st.env 6 = intL a ∧ st.env 7 = intL i ∧ st.mode = fun _ => false) rfl ?_ ?_
  · intro hJ
    refine Yg1 (fa2 @nilDb @undDb) ?_
    refine Yf0 ?_
    refine Yo0 ?_
    refine LW_nil (k := 5) (q := 1000) (e := 48) Yq0 ?_
    refine Yl0 ?_
    exact hJ.out (stepsP ps + 1) _ ⟨0,0,[],by rw [List.drop_zero],(fun p _ => by omega),by omega,by rw [restP_zero,hR];rfl,(Yq1 (fa2 @dbL.eq_1 @rowL.eq_1)),Yq0,Yq0,Yq0,Yq0,Yq0,Yq0⟩
  · rintro n st ⟨a,i,out,hn,hi,hal,hr,e0,e1,e5,r1000,e6,e7,hmd⟩
    simp only [dbL,rowL] at e0
    have hol : out.length ≤ 100000 := by
      have := congrArg List.length hr
      rw [List.length_append] at this;omega
    have hof := recL_flen out
    by_cases hlt : a < ps.length
    rotate_left
    · have hai : ((a : Int) = (ps.length : Int)) = True := eq_true (by omega)
      rw [restP_end ps (by omega)] at hr
      have hr : out ++ [] = R := hr
      rw [List.append_nil] at hr
      subst hr
      refine Yg1 (fa3 @e0 @e6 @hai) ?_
      refine Yt0 ?_
      refine LW_plain 5 (n := out.length) (cs := out.flatMap recL) (t := .row 1000) (Yq1 @e5) ?_
      refine Yg0 ?_
      refine Ye1 @rowL.eq_1 ?_;try (with_reducible exact trivial)
    have hai : ¬ ((a : Int) = (ps.length : Int)) := by omega
    obtain ⟨x,hx⟩ := get_of_lt hlt
    have hsx := hs x (List.mem_of_getElem? hx)
    have hd := drop_pg hx
    have hap : (0 : Int) ≤ (a : Int) := by omega
    have hwa := w64s (n := a) (by omega)
    have hix := hi x hx
    have hxr := hsx.recs
    rw [restP_at hx] at hr
    simp only [pgL,rowL,strsL,intsL,List.cons_append,List.nil_append] at hd
    cases hlf : x.leaf
    · rw [hlf,if_neg (by decide)] at hr
      have hr : out ++ [] = R := hr
      rw [List.append_nil] at hr
      subst hr
      rw [hlf] at hd
      refine Yg1 (fa6 @e0 @e6 @hai @hap @hlt @hd) ?_
      refine Yt0 ?_
      refine LW_plain 5 (n := out.length) (cs := out.flatMap recL) (t := .row 1000) (Yq1 @e5) ?_
      refine Yg0 ?_
      refine Ye1 @rowL.eq_1 ?_;try (with_reducible exact trivial)
    rw [hlf,if_pos rfl] at hr
    rw [hlf] at hd
    refine Yg1 (fa6 @e0 @e6 @hai @hap @hlt @hd) ?_
    refine Yf0 ?_
    have hstep := stepsP_cons hx
    by_cases hil : i < x.recs.length
    rotate_left
    · have hii : ((i : Int) = (x.recs.length : Int)) = True := eq_true (by omega)
      rw [List.drop_of_length_le (by omega),List.nil_append] at hr
      refine Yg1 (fa7 @e0 @e6 @e7 @hap @hlt @hd @hii) ?_
      refine Yt0 ?_
      refine Yg1 (fa2 @e6 @hwa) ?_
      refine LW_goto ?_;simp only [thenL,jumpsL,inBlockL,twoL,true_and]
      exact ⟨stepsP (ps.drop (a + 1)) + 1,by omega,a + 1,0,out,by omega,(fun p _ => by omega),by omega,hr,(Yq1 (fa3 @e0 @dbL.eq_1 @rowL.eq_1)),(Yq1 @e1),(Yq1 @e5),(Yq1 @r1000),(Yq1 @hwa),Yq0,(Yq1 @hmd)⟩
    have hii : ¬ ((i : Int) = (x.recs.length : Int)) := by omega
    obtain ⟨r,hri⟩ := get_of_lt hil
    have hrm := List.mem_of_getElem? hri
    obtain ⟨hrp,hrs⟩ := hsx.one r hrm
    have hdr := drop_rec hri
    have hip : (0 : Int) ≤ (i : Int) := by omega
    have hwi := w64s (n := i) (by omega)
    have cw := hf r.path hrp
    have cc := dclone_L r hrs
    rw [show x.recs.drop i = r :: x.recs.drop (i + 1) by
      obtain ⟨h1,h2⟩ := List.getElem?_eq_some_iff.1 hri
      rw [← h2];exact List.drop_eq_getElem_cons h1,List.cons_append,List.filter_cons] at hr
    simp only [recL,nodeL,attrsL,acesL,piecesL,rowL,List.cons_append,List.nil_append] at cc hdr
    have hsn : (out ++ [r]).flatMap recL = out.flatMap recL ++ recL r := by rw [List.flatMap_append];simp
    have hsl : (out ++ [r]).length = out.length + 1 := by simp
    simp only [recL,nodeL,attrsL,acesL,piecesL,rowL,List.cons_append,List.nil_append] at hsn
    refine Yg1 (fa7 @e0 @e6 @e7 @hap @hlt @hd @hii) ?_
    refine Yf0 ?_
    (repeat (first | refine LW_seq ?_ | (refine LW_skip ?_;simp only [LSj,reduceIte,zze]) | refine LW_block ?_));refine LW_mid 13 rfl rfl ?_;intro K hK;simp only [LZ,zo,zc,reduceCtorEq,reduceIte,zz1,zz2,zz3,zz4,zz5,zz6,zz7,zz8,zz9,zza,zzb,zzc,zzd,zze,zzf,e0,e1,e6,e7,hap,hlt,hd,hip,hil,hdr];refine hK _ ?_;clear hK K
    refine fnCall_last (f := f) (cs := cs) (r := boolL (pred r.path)) (Yq1 @e1) (by simp only [LZ,zo,zc,reduceCtorEq,reduceIte,zz1,zz2,zz3,zz4,zz5,zz6,zz7,zz8,zz9,zza,zzb,zzc,zzd,zze,zzf];exact cw) (by decide) ?_
    intro K hK
    simp only [LZ,zo,zc,reduceCtorEq,reduceIte,zz1,zz2,zz3,zz4,zz5,zz6,zz7,zz8,zz9,zza,zzb,zzc,zzd,zze,zzf]
    refine hK _ ?_;clear hK K;try refine Wh0 ?_
    have hrest : restP ps a (i + 1) = x.recs.drop (i + 1) ++ restP ps (a + 1) 0 := by rw [restP_at hx,hlf,if_pos rfl]
    cases hpr : pred r.path
    · rw [hpr,if_neg (by decide),← hrest] at hr
      refine Yf1 @hpr ?_
      refine Yg1 (fa2 @e7 @hwi) ?_
      refine LW_goto ?_;simp only [thenL,jumpsL,inBlockL,twoL,true_and]
      exact ⟨n - 1,by omega,a,i + 1,out,by omega,(fun p hp => by rw [hx] at hp;cases hp;omega),by omega,hr,(Yq1 (fa3 @e0 @dbL.eq_1 @rowL.eq_1)),(Yq1 @e1),(Yq1 @e5),(Yq1 @r1000),(Yq1 @e6),(Yq1 @hwi),(Yq1 @hmd)⟩
    · rw [hpr,if_pos rfl,← hrest,← List.singleton_append,← List.append_assoc] at hr
      refine Yt1 @hpr ?_
      refine Yr1 (fa13 @e0 @e5 @e6 @e7 @r1000 @hmd @hap @hlt @hd @hip @hil @hdr @hof) ?_;intro K hK
      refine Yc1 (cc) (fa13 @e0 @e5 @e6 @e7 @r1000 @hmd @hap @hlt @hd @hip @hil @hdr @hof) ?_
      refine ⟨by (repeat' apply And.intro) <;> first | omega | (unfold maxLen;omega) | (intro _;omega) | decide,?_⟩
      refine hK _ ?_;clear hK K;try refine Wh0 ?_
      refine Yg1 (fa2 @e7 @hwi) ?_
      refine LW_goto ?_;simp only [thenL,jumpsL,inBlockL,twoL,true_and]
      exact ⟨n - 1,by omega,a,i + 1,out ++ [r],by omega,(fun p hp => by rw [hx] at hp;cases hp;omega),by omega,hr,(Yq1 (fa3 @e0 @dbL.eq_1 @rowL.eq_1)),(Yq1 @e1),by rw [hsl,hsn];exact Yq0,by rw [hsl];exact Yq0,(Yq1 @e6),(Yq1 @hwi),(Yq1 @hmd)⟩
set_option maxRecDepth 100000 in
theorem dall1_L (p : List UInt8) : LCalls Tryz.prog 57 [strL p] (boolL true) := by
  refine LCalls.of (fun _ => false) Tryz.func57 rfl (by decide) Tryz.ntmps57 Tryz.results57 (by simp) ?_
  intro w0 S0 vs hgl hwf0 hsz hvs;clear hsz hvs hwf0 hgl
  refine Yg0 ?_
  refine Ye0 ?_;try (with_reducible exact trivial)
set_option maxRecDepth 100000 in
theorem dall_L (ps : List Pg) (hl : ps.length ≤ 1000) (hs : ∀ x ∈ ps,SmallP x) (hg : (gatherP ps).length ≤ 100000) (k : Int) : LCalls Tryz.prog 27 [.ref (dbL ps k)] (rowL recL (gatherP ps)) := by
  have ct := dthose_L ps hl hs hg k (.lit (.func (.func 57) #[] #[])) 57 [] (fun w g v h => by rw [h.inv_lit];exact .fn _ _ [] #[] rfl (fun i c u hc => by cases hc)) (fun _ => true) (fun p _ => dall1_L p)
  rw [List.filter_eq_self.2 (fun _ _ => rfl)] at ct
  simp only [dbL,rowL] at ct
  refine LCalls.of (fun _ => false) Tryz.func27 rfl (by decide) Tryz.ntmps27 Tryz.results27 (by simp) ?_
  intro w0 S0 vs hgl hwf0 hsz hvs;clear hsz hvs hwf0 hgl
  refine Yg1 (fa2 @dbL.eq_1 @rowL.eq_1) ?_
  refine Yr0 ?_;intro K hK
  refine Yc0 (ct) ?_
  refine hK _ ?_;clear hK K;try refine Wh0 ?_
  refine Ye1 @rowL.eq_1 ?_;try (with_reducible exact trivial)
set_option maxRecDepth 100000 in
theorem dunder1_L (p t : List UInt8) (hp : p.length < 1000000) (ht : t.length < 1000000) : LCalls Tryz.prog 55 [strL p,.ref [strL t]] (boolL (underB p t)) := by
  have cu := punder_L p t hp ht
  refine LCalls.of (fun _ => false) Tryz.func55 rfl (by decide) Tryz.ntmps55 Tryz.results55 (by simp) ?_
  intro w0 S0 vs hgl hwf0 hsz hvs;clear hsz hvs hwf0 hgl
  refine Yg0 ?_
  refine Yr0 ?_;intro K hK
  refine Yc0 (cu) ?_
  refine hK _ ?_;clear hK K;try refine Wh0 ?_
  refine Ye0 ?_;try (with_reducible exact trivial)
set_option maxRecDepth 100000 in
theorem dunder_L (ps : List Pg) (hl : ps.length ≤ 1000) (hs : ∀ x ∈ ps,SmallP x) (hg : (gatherP ps).length ≤ 100000) (k : Int) (t : List UInt8) (ht : t.length < 1000000) : LCalls Tryz.prog 26 [.ref (dbL ps k),strL t] (rowL recL ((gatherP ps).filter fun r => underB r.path t)) := by
  have ct := dthose_L ps hl hs hg k (.fn 55 [.ref [strL t]]) 55 [.ref [strL t]] (fun _ _ _ h => h) (fun p => underB p t) (fun p hp => dunder1_L p t hp ht)
  simp only [dbL,rowL] at ct
  refine LCalls.of (fun _ => false) Tryz.func26 rfl (by decide) Tryz.ntmps26 Tryz.results26 (by simp) ?_
  intro w0 S0 vs hgl hwf0 hsz hvs;clear hsz hvs hwf0 hgl
  refine Yg1 (fa2 @dbL.eq_1 @rowL.eq_1) ?_
  refine LW_pubBox (cs := [strL t]) 3 Yq0 Yq0 ?_
  refine Yr0 ?_;intro K hK
  refine Yc0 (ct) ?_
  refine hK _ ?_;clear hK K;try refine Wh0 ?_
  refine Ye1 @rowL.eq_1 ?_;try (with_reducible exact trivial)
set_option maxRecDepth 100000 in
theorem drange1_L (p lo hi : List UInt8) (hp : p.length < 1000000) (h1 : lo.length < 1000000) (h2 : hi.length < 1000000) : LCalls Tryz.prog 53 [strL p,.ref [strL lo],.ref [strL hi]] (boolL (!lessB p lo && lessB p hi)) := by
  have c1 := pless_L p lo hp h1
  have c2 := pless_L p hi hp h2
  refine LCalls.of (fun _ => false) Tryz.func53 rfl (by decide) Tryz.ntmps53 Tryz.results53 (by simp) ?_
  intro w0 S0 vs hgl hwf0 hsz hvs;clear hsz hvs hwf0 hgl
  refine Yg0 ?_
  cases hb : lessB p lo
  · rw [hb] at c1
    refine Yr0 ?_;intro K hK
    refine Yc0 (c1) ?_
    refine Yc0 (c2) ?_
    refine hK _ ?_;clear hK K;try refine Wh0 ?_
    refine Ye0 ?_;try (with_reducible exact trivial)
  · rw [hb] at c1
    refine Yr0 ?_;intro K hK
    refine Yc0 (c1) ?_
    refine hK _ ?_;clear hK K;try refine Wh0 ?_
    refine Ye0 ?_;try (with_reducible exact trivial)
def rangeP (l : List Rec) (lo hi : List UInt8) : List Rec := if mayB lo = true ∧ mayB hi = true then l.filter (fun r => !lessB r.path lo && lessB r.path hi) else []
set_option maxRecDepth 100000 in
theorem drange_L (ps : List Pg) (hl : ps.length ≤ 1000) (hs : ∀ x ∈ ps,SmallP x) (hg : (gatherP ps).length ≤ 100000) (k : Int) (lo hi : List UInt8) (h1 : lo.length < 1000000) (h2 : hi.length < 1000000) : LCalls Tryz.prog 25 [.ref (dbL ps k),strL lo,strL hi] (rowL recL (rangeP (gatherP ps) lo hi)) := by
  have ct := dthose_L ps hl hs hg k (.fn 53 [.ref [strL lo],.ref [strL hi]]) 53 [.ref [strL lo],.ref [strL hi]] (fun _ _ _ h => h) (fun p => !lessB p lo && lessB p hi) (fun p hp => drange1_L p lo hi hp h1 h2)
  have c1 := pmay_L lo h1
  have c2 := pmay_L hi h2
  simp only [dbL,rowL] at ct
  refine LCalls.of (fun _ => false) Tryz.func25 rfl (by decide) Tryz.ntmps25 Tryz.results25 (by simp) ?_
  intro w0 S0 vs hgl hwf0 hsz hvs;clear hsz hvs hwf0 hgl
  generalize hR : rangeP (gatherP ps) lo hi = R
  unfold rangeP at hR
  refine Yg1 (fa2 @dbL.eq_1 @rowL.eq_1) ?_
  cases m1 : mayB lo
  · rw [m1] at c1
    rw [m1,if_neg (by simp)] at hR
    subst hR
    refine Yr0 ?_;intro K hK
    refine Yc0 (c1) ?_
    refine hK _ ?_;clear hK K;try refine Wh0 ?_
    refine Yt0 ?_
    refine Yg0 ?_
    refine Ye1 @rowL.eq_1 ?_;try (with_reducible exact trivial)
    (repeat' apply And.intro) <;> rfl
  rw [m1] at c1
  cases m2 : mayB hi
  · rw [m2] at c2
    rw [m2,if_neg (by simp)] at hR
    subst hR
    refine Yr0 ?_;intro K hK
    refine Yc0 (c1) ?_
    refine Yc0 (c2) ?_
    refine hK _ ?_;clear hK K;try refine Wh0 ?_
    refine Yt0 ?_
    refine Yg0 ?_
    refine Ye1 @rowL.eq_1 ?_;try (with_reducible exact trivial)
    (repeat' apply And.intro) <;> rfl
  rw [m2] at c2
  rw [m1,m2,if_pos ⟨rfl,rfl⟩] at hR
  rw [hR] at ct
  refine Yr0 ?_;intro K hK
  refine Yc0 (c1) ?_
  refine Yc0 (c2) ?_
  refine hK _ ?_;clear hK K;try refine Wh0 ?_
  refine Yf0 ?_
  refine LW_pubBox (cs := [strL lo]) 4 Yq0 Yq0 ?_
  refine LW_pubBox (cs := [strL hi]) 5 Yq0 Yq0 ?_
  refine Yr0 ?_;intro K hK
  refine Yc0 (ct) ?_
  refine hK _ ?_;clear hK K;try refine Wh0 ?_
  refine Ye1 @rowL.eq_1 ?_;try (with_reducible exact trivial)
end Go.Proofs.YteamlijbkldlhaaGreat
end
section
set_option linter.unusedSimpArgs false
set_option linter.unusedVariables false
namespace Go.Proofs.YteamlijbkldlhaaGreat
open Nat renaming reduceAdd → zz1,reduceMul → zz2,reduceSub → zz3,reduceLT → zz4,reduceLeDiff → zz5,reduceEqDiff → zz6,reduceBEq → zzf
open Int renaming reduceAdd → zz7,reduceSub → zz8,reduceMul → zz9,reduceLT → zza,reduceLE → zzb,reduceEq → zzc,reduceNeg → zzd,reduceToNat → zze
open Op renaming operands → zo
open Call renaming operands → zc
open Go.RowKit Go.Proofs AclSpec MetaSpec NodeSpec RecSpec PathSpec PageSpec DbSpec

set_option maxRecDepth 100000 in
theorem dlooked_S (ps : List Pg) (k : Int) : SCalls Tryz.prog 23 [.ptr 1000 0] ⟨[],[],[(1000,dbL ps k)]⟩ (intL k) ⟨[],[],[(2000,dbL ps k)]⟩ [(1000,2000)] := by
  refine SCalls.of (fun _ => false) [(1000,2000)] 0 Tryz.func23 rfl (by decide) Tryz.ntmps23 Tryz.results23 (by simp) (.inr ⟨_,_,rfl,by decide,rfl⟩) ?_
  intro w0 S0 vs
  refine Yg1 (fa4 @dbL.eq_1 @rowL.eq_1 @nilDb @undDb) ?_
  refine Yf0 ?_
  refine Yg0 ?_
  refine LW_ret ?_;simp only [thenL,jumpsL,inBlockL,twoL,bodyS];refine ⟨[(1000,2000)],rfl,.inr ⟨_,_,_,rfl,rfl,(by first | exact rfl | assumption | (simp only [LZ,zo,zc,reduceCtorEq,reduceIte,zz1,zz2,zz3,zz4,zz5,zz6,zz7,zz8,zz9,zza,zzb,zzc,zzd,zze,zzf,dbL,rowL] <;> exact rfl)),(by first | exact rfl | assumption | (simp only [LZ,zo,zc,reduceCtorEq,reduceIte,zz1,zz2,zz3,zz4,zz5,zz6,zz7,zz8,zz9,zza,zzb,zzc,zzd,zze,zzf,dbL,rowL] <;> exact rfl))⟩,?_⟩;simp only [thenL,jumpsL,inBlockL,twoL,bodyQ,LV.lit.injEq,LV.tup.injEq,LV.agg.injEq,LV.sl.injEq,List.cons.injEq,Value.int.injEq,Value.bool.injEq,Value.string.injEq,ByteArray.mk.injEq,exists_eq_left',exists_eq_left,exists_eq_right,LZ,zo,zc,reduceCtorEq,reduceIte,zz1,zz2,zz3,zz4,zz5,zz6,zz7,zz8,zz9,zza,zzb,zzc,zzd,zze,zzf,dbL,rowL]
def dR (p : List UInt8) : Rec := ⟨p,0,zeroN,0⟩
def dT : List Rec := [dR [],dR [97],dR [98],dR [99],dR [100]]
theorem dT_may : mayRecs dT = true := by decide +kernel
theorem dT_small : SmallR dT := by
  have hz : small zeroN := ⟨by decide,by decide,by decide,(fun p hp => by cases hp)⟩
  refine ⟨by decide,fun r hr => ?_⟩
  simp only [dT,List.mem_cons,List.not_mem_nil,or_false] at hr
  rcases hr with rfl | rfl | rfl | rfl | rfl <;> exact ⟨by decide,hz⟩
theorem dT_len : (buildP dT).length = 3 := by decide +kernel
theorem dT_find1 : findP (buildP dT) [98] = (2,(dR [98],true)) := by decide +kernel
theorem dT_find2 : findP (buildP dT) [120] = (2,(zeroRec,false)) := by decide +kernel
theorem dT_range : (rangeP dT [97] [99]).length = 2 := by decide +kernel
theorem dT_under0 : (dT.filter fun r => underB r.path []).length = 5 := by decide +kernel
theorem dT_under1 : (dT.filter fun r => underB r.path [97]).length = 1 := by decide +kernel
theorem nil_may : mayRecs [] = false := by decide +kernel
theorem nil_open : openB [] = false := by decide +kernel
set_option maxRecDepth 100000 in
set_option maxHeartbeats 8000000 in
theorem dtold_L : LCalls Tryz.prog 12 [] (boolL true) := by
  have hsp := buildP_small dT_small
  have htb := build_table dT_may
  have hgb := gather_build dT
  have hob := open_build dT_may
  have hhb := build_high dT_may
  have c1 := dbuild_L dT dT_small
  rw [show buildA dT = (buildP dT,0) by unfold buildA;rw [if_pos dT_may]] at c1
  have f1 := dT_find1
  have f2 := dT_find2
  have hpl := dT_len
  have c3 := dbuild_L [] ⟨by decide,(fun r hr => by cases hr)⟩
  rw [show buildA [] = ([],1) by unfold buildA;rw [nil_may];rfl] at c3
  have c4 := (dopen_O [] (by decide) (fun x hx => by cases hx) _ _ (.inr ⟨nil_open,rfl,rfl⟩)).toL
  generalize buildP dT = ps at *
  have c2 := dopen_O ps (by omega) hsp _ _ (.inl ⟨hob,rfl,rfl⟩)
  have hps : ps ≠ [] := by rintro rfl;simp at hpl
  have c5 := dfind_S ps (by omega) hsp htb [98] (by decide) 0
  rw [f1] at c5
  have c6 := dfind_S ps (by omega) hsp htb [120] (by decide) 2
  rw [f2] at c6
  have c7 := dfind0_L []
  have c8 := dheight_L ps (by omega) htb hps 2
  rw [hhb,show 1 + upP 4 ((dT.length + 3) / 4) = 2 from rfl] at c8
  have c9 := dall_L ps (by omega) hsp (by rw [hgb];decide) 2
  have cA := drange_L ps (by omega) hsp (by rw [hgb];decide) 2 [97] [99] (by decide) (by decide)
  have cB := dunder_L ps (by omega) hsp (by rw [hgb];decide) 2 [] (by decide)
  have cC := dunder_L ps (by omega) hsp (by rw [hgb];decide) 2 [97] (by decide)
  have cD := dheight0_L
  have cE := dlooked_S ps 2
  rw [hgb] at c9 cA cB cC
  have g1 := dT_range
  have g2 := dT_under0
  have g3 := dT_under1
  generalize rangeP dT [97] [99] = o1 at *
  generalize (dT.filter fun r => underB r.path []) = o2 at *
  generalize (dT.filter fun r => underB r.path [97]) = o3 at *
  simp only [dT,dR,zeroN,zeroRec,recL,bytesL',bL,nodeL,attrsL,acesL,piecesL,rowL,pieceL,List.map_cons,List.map_nil,List.flatMap_cons,List.flatMap_nil,List.cons_append,List.nil_append,List.append_nil,List.length_cons,List.length_nil,Nat.reduceAdd,hpl] at c1 c2 c3 c4 c5 c6 c7
  refine LCalls.of (fun _ => false) Tryz.func12 rfl (by decide) Tryz.ntmps12 Tryz.results12 (by simp) ?_
  intro w0 S0 vs hgl hwf0 hsz hvs;clear hsz hvs hwf0 hgl
  refine Yg0 ?_
  refine Yr0 ?_;intro K hK
  refine Yc0 (c1) ?_
  refine hK _ ?_;clear hK K;try refine Wh0 ?_
  (repeat (first | refine LW_seq ?_ | (refine LW_skip ?_;simp only [LSj,reduceIte,zze]) | refine LW_block ?_));refine LW_regionO [(31,⟨_,_,_,_,_,[],[(2000,1000)],_,[],(c2).toS,rfl,rfl,rfl⟩)] ?_;intro K hK;simp only [LZ,zo,zc,reduceCtorEq,reduceIte,zz1,zz2,zz3,zz4,zz5,zz6,zz7,zz8,zz9,zza,zzb,zzc,zzd,zze,zzf]
  refine hK _ ?_;clear hK K;try refine Wh0 ?_
  refine Yr0 ?_;intro K hK
  refine Yc0 (c3) ?_
  refine hK _ ?_;clear hK K;try refine Wh0 ?_
  refine Yr0 ?_;intro K hK
  refine Yc0 (c4) ?_
  refine hK _ ?_;clear hK K;try refine Wh0 ?_
  refine LW_slim (fun st => (∃ n cs,st.env 2 = .sl n cs .no ∧ n = 3) ∧ st.env 3 = intL 0 ∧ st.env 4 = .ptr 1000 0 ∧ st.box 1000 = some (dbL ps 0) ∧ st.env 5 = intL 0 ∧ st.env 7 = intL 1 ∧ st.env 9 = intL 3 ∧ st.mode = fun _ => false) ⟨⟨_,_,Yq0,rfl⟩,Yq0,Yq0,(Yq1 (fa3 @dbL.eq_1 @rowL.eq_1 @hpl)),Yq0,Yq0,Yq0,Yq0⟩ ?_
  rintro st ⟨⟨_,cs,e2,rfl⟩,e3,e4,b1000,e5,e7,e9,hmd⟩
  simp only [dbL,rowL,hpl] at b1000 c5 c6 c8 c9 cA cB cC cE
  refine Yg1 (fa3 @e4 @nilDb @undDb) ?_
  refine Yf0 ?_
  (repeat (first | refine LW_seq ?_ | (refine LW_skip ?_;simp only [LSj,reduceIte,zze]) | refine LW_block ?_));refine LW_regionO [(46,⟨_,_,_,_,_,[(1000,1000)],[(2000,1000)],_,[1001000],(c5).toS,rfl,rfl,rfl⟩)] ?_;intro K hK;simp only [LZ,zo,zc,reduceCtorEq,reduceIte,zz1,zz2,zz3,zz4,zz5,zz6,zz7,zz8,zz9,zza,zzb,zzc,zzd,zze,zzf,e4,b1000]
  refine hK _ ?_;clear hK K;try refine Wh0 ?_
  refine LW_slim (fun st => st.env 2 = .sl 3 cs .no ∧ st.env 3 = intL 0 ∧ st.env 4 = .ptr 1000 0 ∧ st.box 1000 = some [.sl 3 (ps.flatMap pgL) .no,intL 2] ∧ st.env 5 = intL 0 ∧ st.env 7 = intL 1 ∧ st.env 9 = intL 3 ∧ st.env 10 = .ptr 10 0 ∧ st.box 10 = some (recL (dR [98])) ∧ st.env 11 = boolL true ∧ st.mode = fun _ => false) ⟨(Yq1 @e2),(Yq1 @e3),(Yq1 @e4),Yq0,(Yq1 @e5),(Yq1 @e7),(Yq1 @e9),Yq0,(Yq1 (fa8 @dR.eq_1 @zeroN.eq_1 @recL.eq_1 @nodeL.eq_1 @attrsL.eq_1 @acesL.eq_1 @piecesL.eq_1 @rowL.eq_1)),Yq0,(Yq1 @hmd)⟩ ?_
  clear e2 e3 e4 b1000 e5 e7 e9 hmd st
  rintro st ⟨e2,e3,e4,b1000,e5,e7,e9,e10,b10,e11,hmd⟩
  simp only [dR,zeroN,recL,nodeL,attrsL,acesL,piecesL,rowL,List.cons_append,List.nil_append,List.flatMap_nil,List.length_nil] at b10
  (repeat (first | refine LW_seq ?_ | (refine LW_skip ?_;simp only [LSj,reduceIte,zze]) | refine LW_block ?_));refine LW_regionO [(50,⟨_,_,_,_,_,[(1000,1000)],[(2000,1000)],_,[1001000],(cE).toS,rfl,rfl,rfl⟩)] ?_;intro K hK;simp only [LZ,zo,zc,reduceCtorEq,reduceIte,zz1,zz2,zz3,zz4,zz5,zz6,zz7,zz8,zz9,zza,zzb,zzc,zzd,zze,zzf,e4,b1000]
  refine hK _ ?_;clear hK K;try refine Wh0 ?_
  (repeat (first | refine LW_seq ?_ | (refine LW_skip ?_;simp only [LSj,reduceIte,zze]) | refine LW_block ?_));refine LW_regionO [(53,⟨_,_,_,_,_,[(1000,1000)],[(2000,1000)],_,[1001000],(c6).toS,rfl,rfl,rfl⟩)] ?_;intro K hK;simp only [LZ,zo,zc,reduceCtorEq,reduceIte,zz1,zz2,zz3,zz4,zz5,zz6,zz7,zz8,zz9,zza,zzb,zzc,zzd,zze,zzf,e4,b1000]
  refine hK _ ?_;clear hK K;try refine Wh0 ?_
  refine Yg0 ?_
  refine Yr0 ?_;intro K hK
  refine Yc0 (c7) ?_
  refine hK _ ?_;clear hK K;try refine Wh0 ?_
  refine LW_slim (fun st => st.env 2 = .sl 3 cs .no ∧ st.env 3 = intL 0 ∧ st.env 4 = .ptr 1000 0 ∧ st.box 1000 = some [.sl 3 (ps.flatMap pgL) .no,intL 2] ∧ st.env 5 = intL 0 ∧ st.env 7 = intL 1 ∧ st.env 9 = intL 3 ∧ st.env 10 = .ptr 10 0 ∧ st.box 10 = some (recL (dR [98])) ∧ st.env 11 = boolL true ∧ st.env 12 = intL 2 ∧ st.env 14 = boolL false ∧ st.env 15 = .lit (.pointer none) ∧ st.env 17 = boolL false ∧ st.mode = fun _ => false) ⟨(Yq1 @e2),(Yq1 @e3),(Yq1 @e4),(Yq1 @b1000),(Yq1 @e5),(Yq1 @e7),(Yq1 @e9),(Yq1 @e10),(Yq1 (fa9 @b10 @dR.eq_1 @zeroN.eq_1 @recL.eq_1 @nodeL.eq_1 @attrsL.eq_1 @acesL.eq_1 @piecesL.eq_1 @rowL.eq_1)),(Yq1 @e11),Yq0,Yq0,Yq0,Yq0,(Yq1 @hmd)⟩ ?_
  clear e2 e3 e4 b1000 e5 e7 e9 e10 b10 e11 hmd st
  rintro st ⟨e2,e3,e4,b1000,e5,e7,e9,e10,b10,e11,e12,e14,e15,e17,hmd⟩
  simp only [dR,zeroN,recL,nodeL,attrsL,acesL,piecesL,rowL,List.cons_append,List.nil_append,List.flatMap_nil,List.length_nil] at b10
  refine LW_pubBox (cs := [.sl 3 (ps.flatMap pgL) .no,intL 2]) 4 e4 b1000 ?_
  have hdl : dT.length = 5 := rfl
  rw [hdl] at c9
  rw [g1] at cA
  rw [g2] at cB
  rw [g3] at cC
  (repeat refine LW_seq ?_)
  refine LW_regionA (l := ?l) ?hl ?_
  case hl => (first | simp only [Array.append_eq_append,List.append_toArray,List.append_eq,List.cons_append,List.nil_append] | skip);exact rfl
  refine Yr1 (fa12 @e2 @e3 @e5 @e7 @e9 @e10 @b10 @e11 @e12 @e14 @e15 @e17) ?_;intro K hK
  refine Yc1 (c8) (fa12 @e2 @e3 @e5 @e7 @e9 @e10 @b10 @e11 @e12 @e14 @e15 @e17) ?_
  refine Yc1 (c9) (fa12 @e2 @e3 @e5 @e7 @e9 @e10 @b10 @e11 @e12 @e14 @e15 @e17) ?_
  refine Yc1 (cA) (fa12 @e2 @e3 @e5 @e7 @e9 @e10 @b10 @e11 @e12 @e14 @e15 @e17) ?_
  refine Yc1 (cB) (fa12 @e2 @e3 @e5 @e7 @e9 @e10 @b10 @e11 @e12 @e14 @e15 @e17) ?_
  refine Yc1 (cC) (fa12 @e2 @e3 @e5 @e7 @e9 @e10 @b10 @e11 @e12 @e14 @e15 @e17) ?_
  refine Yc1 (cD) (fa12 @e2 @e3 @e5 @e7 @e9 @e10 @b10 @e11 @e12 @e14 @e15 @e17) ?_
  refine hK _ ?_;clear hK K;try refine Wh0 ?_
  refine Ye0 ?_;try (with_reducible exact trivial)
end Go.Proofs.YteamlijbkldlhaaGreat
end
