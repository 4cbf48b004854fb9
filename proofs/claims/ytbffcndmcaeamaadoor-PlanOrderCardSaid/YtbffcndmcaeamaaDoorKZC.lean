import Derived.Test.YtbffcndmcaeamaaDoorKZA
import Derived.Test.YtbffcndmcaeamaaDoorZOrder
import Derived.Test.YtbffcndmcaeamaaDoorL26
set_option linter.unusedSimpArgs false
set_option linter.unusedVariables false
namespace Go.Proofs.YtbffcndmcaeamaaDoor
open Nat renaming reduceAdd → zz1,reduceMul → zz2,reduceSub → zz3,reduceLT → zz4,reduceLeDiff → zz5,reduceEqDiff → zz6,reduceBEq → zzf
open Int renaming reduceAdd → zz7,reduceSub → zz8,reduceMul → zz9,reduceLT → zza,reduceLE → zzb,reduceEq → zzc,reduceNeg → zzd,reduceToNat → zze
open Op renaming operands → zo
open Call renaming operands → zc
open Go.RowKit Go.Proofs AclSpec MetaSpec NodeSpec PathSpec TreeSpec PlanSpec

def classTo (l : List TEnt) (n : Int) : List (List UInt8) := (l.filter fun e => decide (e.node = n)).map (·.path)
theorem classTo_succ {l : List TEnt} {i : Nat} {e : TEnt} (n : Int) (h : l[i]? = some e) : classTo (l.take (i + 1)) n = classTo (l.take i) n ++ if e.node = n then [e.path] else [] := by
  obtain ⟨hi,rfl⟩ := List.getElem?_eq_some_iff.1 h
  unfold classTo
  rw [List.take_succ_eq_append_getElem hi,List.filter_append,List.map_append]
  congr 1
  by_cases hn : l[i].node = n
  · rw [if_pos hn,List.filter_cons_of_pos (by simpa using hn)];rfl
  · rw [if_neg hn,List.filter_cons_of_neg (by simpa using hn)];rfl
theorem class_head : ∀ {l : List TEnt} {n : Int},(∃ e ∈ l,e.node = n) → ∃ r,classTo l n = leadP l n :: r
  | [],_,⟨_,h,_⟩ => by cases h
  | x :: r,n,⟨e,he,hn⟩ => by
    unfold classTo
    rw [leadP]
    by_cases hx : x.node = n
    · rw [if_pos hx,List.filter_cons_of_pos (by simpa using hx)];exact ⟨_,rfl⟩
    · rw [if_neg hx,List.filter_cons_of_neg (by simpa using hx)]
      rcases List.mem_cons.1 he with rfl | he
      · exact absurd hn hx
      · exact class_head (l := r) ⟨e,he,hn⟩
set_option maxRecDepth 100000 in
set_option maxHeartbeats 4000000 in
theorem rclass_L (t : FTree) (h : SmallT t) (p : List UInt8) (hf : (findT t.ents p).2 = true) : LCalls Tryd.prog 9 [.agg (treeL t),strL p] (strsL (classTo t.ents (findT t.ents p).1)) := by
  have hll := h.ents
  have cf := rfind_L t h p
  rw [hf] at cf
  generalize (findT t.ents p).1 = n0 at *
  simp only [treeL] at cf
  refine LCalls.of (fun _ => false) Tryd.func9 rfl (by decide) Tryd.ntmps9 Tryd.results9 (by simp) ?_
  intro w0 S0 vs hgl hwf0 hsz hvs;clear hsz hvs hwf0 hgl
  generalize hR : classTo t.ents n0 = R
  refine Yg1 @treeL.eq_1 ?_
  refine Yr0 ?_;intro K hK
  refine Yc0 (cf) ?_
  refine hK _ ?_;clear hK K;try refine Wh0 ?_
  refine Yo0 ?_
  refine LW_nil (k := 7) (q := 1000) (e := 9) Yq0 ?_
  refine LW_slim (fun st => st.env 2 = .ptr 2 0 ∧ st.box 2 = some (treeL t) ∧ st.env 5 = intL n0 ∧ st.env 6 = boolL true ∧ st.env 7 = .sl 0 [] (.row 1000) ∧ st.row 1000 = some (9,0) ∧ st.mode = fun _ => false) ⟨Yq0,(Yq1 @treeL.eq_1),Yq0,Yq0,Yq0,Yq0,Yq0⟩ ?_
  rintro st ⟨e2,b2,e5,e6,e7,r1000,hmd⟩
  refine Yg0 ?_
  refine LW_joinB (fun st => st.env 7 = .sl R.length (R.flatMap strE) (.row 1000)) ?_ ?_
  rotate_left
  · rintro st e7
    refine Yg1 @e7 ?_
    refine Ye1 (fa2 @strsL.eq_1 @rowL.eq_1) ?_;try (with_reducible exact trivial)
  refine LW_loop (fun n st => ∃ (i : Nat) (cl : List (List UInt8)),n + i = t.ents.length ∧ cl = classTo (t.ents.take i) n0 ∧ cl.length ≤ i ∧ st.env 2 = .ptr 2 0 ∧ st.box 2 = some (treeL t) ∧ st.env 5 = intL n0 ∧ st.env 6 = boolL true ∧ st.env 7 = .sl cl.length (cl.flatMap strE) (.row 1000) ∧ st.row 1000 = some (9,cl.length) ∧ st.env 8 = intL i ∧ st.mode = fun _ => false) t.ents.length ⟨0,[],by omega,by simp [classTo],by simp,(Yq1 @e2),(Yq1 @b2),(Yq1 @e5),(Yq1 @e6),(Yq1 @e7),(Yq1 @r1000),Yq0,(Yq1 @hmd)⟩ ?_
  clear e2 b2 e5 e6 e7 r1000 hmd st
  rintro n st ⟨i,cl,hn,hcl,hcll,e2,b2,e5,e6,e7,r1000,e8,hmd⟩
  simp only [treeL] at b2
  by_cases hlt : i < t.ents.length
  rotate_left
  · have hil : i = t.ents.length := by omega
    rw [hil,List.take_length,hR] at hcl
    subst hcl
    refine Yg1 (fa5 @e2 @b2 @e6 @e8 @hlt) ?_
    refine Yf1 @hlt ?_
    refine LW_exit ?_;simp only [thenL,jumpsL,inBlockL,twoL,reduceIte,Nat.reduceEqDiff]
    exact (Yq1 @e7)
  obtain ⟨e,he⟩ := get_of_lt hlt
  have hd := drop_tent he
  have hip : (0 : Int) ≤ (i : Int) := by omega
  have hw := w64s (n := i) (by omega)
  have hc := classTo_succ n0 he
  rw [← hcl] at hc
  have hfl := strE_flen cl
  have s1 := str_snoc cl e.path
  have s2 : (cl ++ [e.path]).length = cl.length + 1 := by simp
  refine Yg1 (fa5 @e2 @b2 @e6 @e8 @hlt) ?_
  refine Yt1 @hlt ?_
  by_cases hk : e.node = n0
  · rw [if_pos hk] at hc
    refine Yg1 (fa8 @e2 @b2 @e5 @e8 @hlt @hip @hd @hk) ?_
    refine Yt0 ?_
    refine Yr1 (fa10 @e2 @b2 @e7 @r1000 @e8 @hmd @hlt @hip @hd @hfl) ?_;intro K hK
    refine ⟨by (repeat' apply And.intro) <;> first | omega | (unfold maxLen;omega) | (intro _;omega) | decide,?_⟩
    refine hK _ ?_;clear hK K;try refine Wh0 ?_
    refine Yg1 (fa2 @e8 @hw) ?_
    exact ⟨n - 1,by omega,i + 1,cl ++ [e.path],by omega,hc.symm,by rw [s2];omega,(Yq1 @e2),(Yq1 (fa2 @b2 @treeL.eq_1)),(Yq1 @e5),(Yq1 @e6),by rw [s1,s2];exact Yq0,by rw [s2];exact Yq0,(Yq1 @hw),(Yq1 @hmd)⟩
  · rw [if_neg hk,List.append_nil] at hc
    refine Yg1 (fa8 @e2 @b2 @e5 @e8 @hlt @hip @hd @hk) ?_
    refine Yf0 ?_
    refine Yg1 (fa2 @e8 @hw) ?_
    exact ⟨n - 1,by omega,i + 1,cl,by omega,hc.symm,by omega,(Yq1 @e2),(Yq1 (fa2 @b2 @treeL.eq_1)),(Yq1 @e5),(Yq1 @e6),(Yq1 @e7),(Yq1 @r1000),(Yq1 @hw),(Yq1 @hmd)⟩
theorem stepO_made {st st' : OSt} {i : Nat} {s : PStep} (hk : s.kind = 1 ∨ s.kind = 2 ∨ s.kind = 5) (h : stepO st i s = some st') :
    mapH st.made (parentB s.path).1 = true ∧ mapH st.made s.path = false ∧ ¬ (i : Int) ≤ mapG st.made (parentB s.path).1 ∧ mapH st.timed (parentB s.path).1 = false ∧ (s.kind = 5 → mapH st.made s.other = true) ∧ st' = ⟨mapS st.made s.path i,st.timed⟩ := by
  unfold stepO at h
  rw [if_pos hk] at h
  split at h
  · cases h
  rename_i h1
  split at h
  · cases h
  rename_i h2
  split at h
  · cases h
  rename_i h3
  simp only [not_or,Bool.not_eq_false,Bool.not_eq_true,not_and] at h1 h2 h3
  exact ⟨h1.1,h1.2.1,h1.2.2,h2,h3,(Option.some.inj h).symm⟩
theorem stepO_timed {st st' : OSt} {i : Nat} {s : PStep} (hk : s.kind = 10) (h : stepO st i s = some st') : mapH st.timed s.path = false ∧ st' = ⟨st.made,mapS st.timed s.path i⟩ := by
  unfold stepO at h
  rw [if_neg (by omega),if_pos hk] at h
  split at h
  · cases h
  rename_i h1
  exact ⟨by simpa using h1,(Option.some.inj h).symm⟩
theorem stepO_else {st st' : OSt} {i : Nat} {s : PStep} (hk : ¬ (s.kind = 1 ∨ s.kind = 2 ∨ s.kind = 5)) (hk2 : ¬ s.kind = 10) (h : stepO st i s = some st') : mapH st.made s.path = true ∧ st' = st := by
  unfold stepO at h
  rw [if_neg hk,if_neg hk2] at h
  split at h
  · cases h
  rename_i h1
  exact ⟨by simpa using h1,(Option.some.inj h).symm⟩
theorem runO_drop {l : List PStep} {i : Nat} {s : PStep} {st fin : OSt} (hs : l[i]? = some s) (h : runO (l.drop i) i st = some fin) : ∃ st',stepO st i s = some st' ∧ runO (l.drop (i + 1)) (i + 1) st' = some fin := by
  obtain ⟨hi,rfl⟩ := List.getElem?_eq_some_iff.1 hs
  rw [List.drop_eq_getElem_cons hi,runO] at h
  split at h
  · cases h
  · rename_i st' hst
    exact ⟨st',hst,h⟩
abbrev OrB (t : FTree) (X : List PStep) (o : OSt) (i : Nat) (st : LSt) : Prop := st.env 3 = .ptr 3 0 ∧ st.box 3 = some (treeL t) ∧ st.env 4 = stepsL X ∧ st.env 6 = .mp 42 o.made ∧ st.env 7 = .mp 44 o.timed ∧ st.env 8 = intL i ∧ st.mode = fun _ => false
set_option maxRecDepth 100000 in
set_option maxHeartbeats 16000000 in
theorem planOrder_L (l : List Int) : LCalls Tryd.prog 3 [intsL l] (boolL true) := by
  have hm := make_may (l.map uN)
  obtain ⟨hs,hp1,hp2,hp3,hp4⟩ := mayT_smallZ hm
  have c1 := make_L l
  have t0 := ztold_L
  generalize makeT fileU (l.map uN) = t at *
  have c2 := pall_L t hs [] (by decide)
  rw [planP_may hm] at c2
  obtain ⟨fin,hrun,hent,hml,htl⟩ := plan_order hm
  have hst := planS_step t []
  have hXl := planS_len hm hs []
  have hv := mayT_valid hm
  generalize planS t [] = X at *
  simp only [treeL,intsL,strsL,stepsL,rowL,List.flatMap_nil,List.length_nil] at c1 c2
  refine LCalls.of (fun _ => false) Tryd.func3 rfl (by decide) Tryd.ntmps3 Tryd.results3 (by simp) ?_
  intro w0 S0 vs hgl hwf0 hsz hvs;clear hsz hvs hwf0 hgl
  refine Yg1 (fa2 @intsL.eq_1 @rowL.eq_1) ?_
  refine Yr0 ?_;intro K hK
  refine Yc0 (c1) ?_
  refine hK _ ?_;clear hK K;try refine Wh0 ?_
  refine Yr0 ?_;intro K hK
  refine Yc0 (c2) ?_
  refine hK _ ?_;clear hK K;try refine Wh0 ?_
  refine Yg0 ?_
  refine Yf0 ?_
  refine Yg0 ?_
  refine LW_slim (fun st => OrB t X ⟨[([],-1)],[]⟩ 0 st) ⟨Yq0,(Yq1 @treeL.eq_1),(Yq1 (fa2 @stepsL.eq_1 @rowL.eq_1)),Yq0,Yq0,Yq0,Yq0⟩ ?_
  rintro st ⟨e3,b3,e4,e6,e7,e8,hmd⟩
  refine LW_joinB (fun st => OrB t X fin X.length st) ?_ ?_
  · refine LW_loop (fun n st => ∃ (i : Nat) (o : OSt),n + i = X.length ∧ runO (X.drop i) i o = some fin ∧ OrB t X o i st) X.length ⟨0,⟨[([],-1)],[]⟩,by omega,hrun,e3,b3,e4,e6,e7,e8,hmd⟩ ?_
    clear e3 b3 e4 e6 e7 e8 hmd hrun st
    rintro n st ⟨i,o,hn,hrun,e3,b3,e4,e6,e7,e8,hmd⟩
    simp only [stepsL,rowL] at e4
    by_cases hlt : i < X.length
    rotate_left
    · have hil : i = X.length := by omega
      rw [hil,List.drop_of_length_le (Nat.le_refl _),runO] at hrun
      cases hrun
      refine Yg1 (fa3 @e4 @e8 @hlt) ?_
      refine Yf1 @hlt ?_
      refine LW_exit ?_;simp only [thenL,jumpsL,inBlockL,twoL,reduceIte,Nat.reduceEqDiff]
      exact ⟨(Yq1 @e3),(Yq1 @b3),(Yq1 (fa3 @e4 @stepsL.eq_1 @rowL.eq_1)),(Yq1 @e6),(Yq1 @e7),by rw [← hil];exact (Yq1 @e8),(Yq1 @hmd)⟩
    obtain ⟨s,hsx⟩ := get_of_lt hlt
    obtain ⟨o',hstep,hrun'⟩ := runO_drop hsx hrun
    obtain ⟨⟨hk1,hk2⟩,e,he,hpe⟩ := hst s (List.mem_of_getElem? hsx)
    have hpl : s.path.length < 1000000 := by rw [hpe];exact hs.path e he
    have cp := rpparent_L s.path hpl
    have hd := drop_step hsx
    have hip : (0 : Int) ≤ (i : Int) := by omega
    have hw := w64s (n := i) (by omega)
    generalize hup : (parentB s.path).1 = up at *
    generalize (parentB s.path).2 = upb at *
    refine Yg1 (fa3 @e4 @e8 @hlt) ?_
    refine Yt1 @hlt ?_
    refine LW_skip ?_
    simp only [LSj,reduceIte,zze]
    (repeat refine LW_seq ?_)
    refine LW_block ?_
    refine LW_joinB (fun st => OrB t X o' i st) ?_ ?_
    rotate_left
    · clear e3 b3 e4 e6 e7 e8 hmd st
      rintro st ⟨e3,b3,e4,e6,e7,e8,hmd⟩
      refine Yg1 (fa2 @e8 @hw) ?_
      exact ⟨n - 1,by omega,i + 1,o',by omega,hrun',(Yq1 @e3),(Yq1 @b3),(Yq1 @e4),(Yq1 @e6),(Yq1 @e7),(Yq1 @hw),(Yq1 @hmd)⟩
    refine Yg1 (fa5 @e4 @e8 @hlt @hip @hd) ?_
    refine Yr0 ?_;intro K hK
    refine Yc0 (cp) ?_
    refine hK _ ?_;clear hK K;try refine Wh0 ?_
    refine LW_slim (fun st => OrB t X o i st ∧ st.env 9 = .ptr 9 0 ∧ st.box 9 = some (stepL s) ∧ st.env 10 = strL up) ⟨⟨(Yq1 @e3),(Yq1 @b3),(Yq1 (fa3 @e4 @stepsL.eq_1 @rowL.eq_1)),(Yq1 @e6),(Yq1 @e7),(Yq1 @e8),(Yq1 @hmd)⟩,Yq0,(Yq1 @stepL.eq_1),Yq0⟩ ?_
    clear e3 b3 e4 e6 e7 e8 hmd hd st
    rintro st ⟨⟨e3,b3,e4,e6,e7,e8,hmd⟩,e9,b9,e10⟩
    simp only [stepL] at b9
    by_cases hA : s.kind = 1 ∨ s.kind = 2 ∨ s.kind = 5
    · obtain ⟨g1,g2,g3,g4,g5,rfl⟩ := stepO_made hA hstep
      rw [hup] at g1 g3 g4
      rcases hA with hk | hk | hk
      · refine Yg1 (fa3 @e9 @b9 @hk) ?_
        (repeat (first | (refine Yt0 ?_;refine Yg1 (fa11 @e6 @e7 @e8 @e9 @b9 @e10 @g1 @g2 @g3 @g4 @hk) ?_) | (refine Yf0 ?_;refine Yg1 (fa11 @e6 @e7 @e8 @e9 @b9 @e10 @g1 @g2 @g3 @g4 @hk) ?_)))
        exact ⟨(Yq1 @e3),(Yq1 @b3),(Yq1 @e4),(Yq1 @e6),(Yq1 @e7),(Yq1 @e8),(Yq1 @hmd)⟩
      · refine Yg1 (fa3 @e9 @b9 @hk) ?_
        (repeat (first | (refine Yt0 ?_;refine Yg1 (fa11 @e6 @e7 @e8 @e9 @b9 @e10 @g1 @g2 @g3 @g4 @hk) ?_) | (refine Yf0 ?_;refine Yg1 (fa11 @e6 @e7 @e8 @e9 @b9 @e10 @g1 @g2 @g3 @g4 @hk) ?_)))
        exact ⟨(Yq1 @e3),(Yq1 @b3),(Yq1 @e4),(Yq1 @e6),(Yq1 @e7),(Yq1 @e8),(Yq1 @hmd)⟩
      · have g6 := g5 hk
        refine Yg1 (fa3 @e9 @b9 @hk) ?_
        (repeat (first | (refine Yt0 ?_;refine Yg1 (fa12 @e6 @e7 @e8 @e9 @b9 @e10 @g1 @g2 @g3 @g4 @hk @g6) ?_) | (refine Yf0 ?_;refine Yg1 (fa12 @e6 @e7 @e8 @e9 @b9 @e10 @g1 @g2 @g3 @g4 @hk @g6) ?_)))
        exact ⟨(Yq1 @e3),(Yq1 @b3),(Yq1 @e4),(Yq1 @e6),(Yq1 @e7),(Yq1 @e8),(Yq1 @hmd)⟩
    · have hA2 : ¬ s.kind = 1 ∧ ¬ s.kind = 2 ∧ ¬ s.kind = 5 := ⟨fun h => hA (.inl h),fun h => hA (.inr (.inl h)),fun h => hA (.inr (.inr h))⟩
      obtain ⟨n1,n2,n5⟩ := hA2
      by_cases hB : s.kind = 10
      · obtain ⟨g1,rfl⟩ := stepO_timed hB hstep
        refine Yg1 (fa3 @e9 @b9 @hB) ?_
        (repeat (first | (refine Yt0 ?_;refine Yg1 (fa8 @e6 @e7 @e8 @e9 @b9 @e10 @g1 @hB) ?_) | (refine Yf0 ?_;refine Yg1 (fa8 @e6 @e7 @e8 @e9 @b9 @e10 @g1 @hB) ?_)))
        exact ⟨(Yq1 @e3),(Yq1 @b3),(Yq1 @e4),(Yq1 @e6),(Yq1 @e7),(Yq1 @e8),(Yq1 @hmd)⟩
      · obtain ⟨g1,rfl⟩ := stepO_else hA hB hstep
        refine Yg1 (fa6 @e9 @b9 @n1 @n2 @n5 @hB) ?_
        (repeat (first | (refine Yt0 ?_;refine Yg1 (fa11 @e6 @e7 @e8 @e9 @b9 @e10 @g1 @n1 @n2 @n5 @hB) ?_) | (refine Yf0 ?_;refine Yg1 (fa11 @e6 @e7 @e8 @e9 @b9 @e10 @g1 @n1 @n2 @n5 @hB) ?_)))
        exact ⟨(Yq1 @e3),(Yq1 @b3),(Yq1 @e4),(Yq1 @e6),(Yq1 @e7),(Yq1 @e8),(Yq1 @hmd)⟩
  clear e3 b3 e4 e6 e7 e8 hmd hrun st
  rintro st ⟨e3,b3,e4,e6,e7,e8,hmd⟩
  refine Yg0 ?_
  refine LW_joinB (fun st => st.env 3 = .ptr 3 0 ∧ st.box 3 = some (treeL t) ∧ st.env 6 = .mp 42 fin.made ∧ st.env 7 = .mp 44 fin.timed ∧ st.mode = fun _ => false) ?_ ?_
  rotate_left
  · clear e3 b3 e4 e6 e7 e8 hmd st
    rintro st ⟨e3,b3,e6,e7,hmd⟩
    simp only [treeL] at b3
    refine Yr1 (fa6 @e3 @b3 @e6 @e7 @hml @htl) ?_;intro K hK
    refine Yc1 (t0) (fa6 @e3 @b3 @e6 @e7 @hml @htl) ?_
    refine hK _ ?_;clear hK K;try refine Wh0 ?_
    refine Ye0 ?_;try (with_reducible exact trivial)
  refine LW_loop (fun n st => ∃ i : Nat,n + i = t.ents.length ∧ st.env 3 = .ptr 3 0 ∧ st.box 3 = some (treeL t) ∧ st.env 6 = .mp 42 fin.made ∧ st.env 7 = .mp 44 fin.timed ∧ st.env 24 = intL i ∧ st.mode = fun _ => false) t.ents.length ⟨0,by omega,(Yq1 @e3),(Yq1 @b3),(Yq1 @e6),(Yq1 @e7),Yq0,(Yq1 @hmd)⟩ ?_
  clear e3 b3 e4 e6 e7 e8 hmd st
  rintro n st ⟨i,hn,e3,b3,e6,e7,e24,hmd⟩
  simp only [treeL] at b3
  by_cases hlt : i < t.ents.length
  rotate_left
  · refine Yg1 (fa4 @e3 @b3 @e24 @hlt) ?_
    refine Yf1 @hlt ?_
    refine LW_exit ?_;simp only [thenL,jumpsL,inBlockL,twoL,reduceIte,Nat.reduceEqDiff]
    exact ⟨(Yq1 @e3),(Yq1 (fa2 @b3 @treeL.eq_1)),(Yq1 @e6),(Yq1 @e7),(Yq1 @hmd)⟩
  obtain ⟨e,he⟩ := get_of_lt hlt
  have hem := List.mem_of_getElem? he
  have hr := hv.range e hem
  obtain ⟨c,hc⟩ : ∃ c : Nat,e.node = (c : Int) := ⟨e.node.toNat,by omega⟩
  have hcn : c < t.nodes.length := by omega
  have hip : (0 : Int) ≤ (i : Int) := by omega
  have hc0 : (0 : Int) ≤ (c : Int) := by omega
  obtain ⟨nd,hnd⟩ := get_of_lt hcn
  have hG : nodeG t.nodes e.node = nd := by unfold nodeG;rw [hc,Int.toNat_natCast,hnd];rfl
  have hd := drop_tent he
  have hdn := drop_node hnd
  simp only [nodeL,attrsL,acesL,piecesL,rowL,List.cons_append,List.nil_append] at hdn
  have hw := w64s (n := i) (by omega)
  have hen := hent e hem
  unfold PlanSpec.entryO at hen
  have hfe := find_ent hm he
  have cc := rclass_L t hs e.path (by rw [hfe])
  rw [hfe] at cc hen
  obtain ⟨rest,hcr⟩ := class_head (l := t.ents) (n := e.node) ⟨e,hem,rfl⟩
  rw [hcr] at cc
  rw [hG] at hen
  have cp := rpparent_L e.path (hs.path e hem)
  simp only [treeL,strsL,rowL,strE,List.flatMap_cons,List.length_cons,List.cons_append,List.nil_append] at cc
  rw [hc] at hd
  simp only at hen
  simp only [Bool.and_eq_true,Bool.not_eq_true',beq_iff_eq] at hen
  obtain ⟨⟨g1,g2⟩,g3⟩ := hen
  generalize leadP t.ents e.node = ld at *
  generalize (parentB e.path).1 = up at *
  generalize (parentB e.path).2 = below at *
  refine Yg1 (fa4 @e3 @b3 @e24 @hlt) ?_
  refine Yt1 @hlt ?_
  refine LW_skip ?_
  simp only [LSj,reduceIte,zze]
  (repeat refine LW_seq ?_)
  refine LW_block ?_
  refine LW_joinB (fun st => st.env 3 = .ptr 3 0 ∧ st.box 3 = some (treeL t) ∧ st.env 6 = .mp 42 fin.made ∧ st.env 7 = .mp 44 fin.timed ∧ st.env 24 = intL i ∧ st.mode = fun _ => false) ?_ ?_
  rotate_left
  · clear e3 b3 e6 e7 e24 hmd st
    rintro st ⟨e3,b3,e6,e7,e24,hmd⟩
    refine Yg1 (fa2 @e24 @hw) ?_
    exact ⟨n - 1,by omega,i + 1,by omega,(Yq1 @e3),(Yq1 @b3),(Yq1 @e6),(Yq1 @e7),(Yq1 @hw),(Yq1 @hmd)⟩
  refine Yg1 (fa7 @e3 @b3 @e7 @e24 @hlt @hip @hd) ?_
  (repeat (first | refine LW_seq ?_ | (refine LW_skip ?_;simp only [LSj,reduceIte,zze]) | refine LW_block ?_));refine LW_mix2 [] [] (fun _ => false) [(0,[3]),(1,[3]),(2,[3]),(3,[3]),(4,[3]),(5,[3]),(6,[3]),(7,[3]),(8,[3]),(9,[3]),(10,[3]),(11,[3])] [0,1,2,3,4,5,6,7,8,9] [[10,11]] rfl (by kernel_rfl) (by kernel_rfl) (by kernel_rfl) (by first | exact rfl | exact hmd | simp only [LZ,zo,zc,reduceCtorEq,reduceIte,zz1,zz2,zz3,zz4,zz5,zz6,zz7,zz8,zz9,zza,zzb,zzc,zzd,zze,zzf,e3,b3,e24,hmd,hlt,hip,hd,hc0,hcn,hdn]) ?_;intro K hK;simp only [LZ,zo,zc,reduceCtorEq,reduceIte,zz1,zz2,zz3,zz4,zz5,zz6,zz7,zz8,zz9,zza,zzb,zzc,zzd,zze,zzf,e3,b3,e24,hmd,hlt,hip,hd,hc0,hcn,hdn]
  refine hK _ ?_;clear hK K;try refine Wh0 ?_
  refine LW_slim (fun st => st.env 3 = .ptr 3 0 ∧ st.box 3 = some (treeL t) ∧ st.env 6 = .mp 42 fin.made ∧ st.env 7 = .mp 44 fin.timed ∧ st.env 24 = intL i ∧ st.env 25 = strL e.path ∧ st.env 26 = intL (mapG fin.timed e.path) ∧ st.env 27 = boolL (mapH fin.timed e.path) ∧ st.env 28 = .ptr 28 0 ∧ st.box 28 = some (nodeL nd) ∧ st.mode = fun _ => false) ⟨(Yq1 @e3),(Yq1 (fa2 @b3 @treeL.eq_1)),(Yq1 @e6),(Yq1 @e7),(Yq1 @e24),Yq0,(Yq1 @e7),(Yq1 @e7),Yq0,(Yq1 (fa5 @nodeL.eq_1 @attrsL.eq_1 @acesL.eq_1 @piecesL.eq_1 @rowL.eq_1)),(Yq1 @hmd)⟩ ?_
  clear e3 b3 e6 e7 e24 hmd st
  rintro st ⟨e3,b3,e6,e7,e24,e25,e26,e27,e28,b28,hmd⟩
  simp only [treeL] at b3
  simp only [nodeL,attrsL,acesL,piecesL,rowL] at b28
  have hz : (0 : Int) < ((rest.length + 1 : Nat) : Int) := by omega
  have hz2 : 0 < rest.length + 1 := by omega
  refine Yg1 (fa3 @e6 @e25 @g1) ?_
  refine Yr1 (fa8 @e3 @b3 @e25 @e27 @g1 @g2 @hz @hz2) ?_;intro K hK
  refine Yc1 (cc) (fa8 @e3 @b3 @e25 @e27 @g1 @g2 @hz @hz2) ?_
  refine hK _ ?_;clear hK K;try refine Wh0 ?_
  refine Yf0 ?_
  refine Yr1 @e25 ?_;intro K hK
  refine Yc1 (cp) @e25 ?_
  refine hK _ ?_;clear hK K;try refine Wh0 ?_
  cases below
  · refine Yg1 (fa5 @e7 @e26 @e27 @e28 @b28) ?_
    refine Yf0 ?_
    refine Yg0 ?_
    exact ⟨(Yq1 @e3),(Yq1 (fa2 @b3 @treeL.eq_1)),(Yq1 @e6),(Yq1 @e7),(Yq1 @e24),(Yq1 @hmd)⟩
  by_cases hmT : mapH fin.timed e.path = true
  rotate_left
  · have hmT : mapH fin.timed e.path = false := by simpa using hmT
    refine Yg1 (fa6 @e7 @e26 @e27 @e28 @b28 @hmT) ?_
    refine Yf0 ?_
    refine Yg0 ?_
    exact ⟨(Yq1 @e3),(Yq1 (fa2 @b3 @treeL.eq_1)),(Yq1 @e6),(Yq1 @e7),(Yq1 @e24),(Yq1 @hmd)⟩
  by_cases k1 : nd.kind = 1
  rotate_left
  · refine Yg1 (fa7 @e7 @e26 @e27 @e28 @b28 @hmT @k1) ?_
    refine Yf0 ?_
    refine Yg0 ?_
    exact ⟨(Yq1 @e3),(Yq1 (fa2 @b3 @treeL.eq_1)),(Yq1 @e6),(Yq1 @e7),(Yq1 @e24),(Yq1 @hmd)⟩
  have hlt2 : ¬ mapG fin.timed up < mapG fin.timed e.path := by
    rw [hmT,decide_eq_true k1,Bool.true_and,Bool.true_and,Bool.true_and] at g3
    exact of_decide_eq_false g3
  refine Yg1 (fa8 @e7 @e26 @e27 @e28 @b28 @hmT @k1 @hlt2) ?_
  refine Yf0 ?_
  refine Yg0 ?_
  exact ⟨(Yq1 @e3),(Yq1 (fa2 @b3 @treeL.eq_1)),(Yq1 @e6),(Yq1 @e7),(Yq1 @e24),(Yq1 @hmd)⟩
end Go.Proofs.YtbffcndmcaeamaaDoor
