import Derived.Test.YtbffcndmcaeamaaDoorKZ5
import Derived.Test.YtbffcndmcaeamaaDoorKTM
section
set_option linter.unusedSimpArgs false
set_option linter.unusedVariables false
namespace Go.Proofs.YtbffcndmcaeamaaDoor
open Go.RowKit Go.Proofs AclSpec MetaSpec NodeSpec PathSpec TreeSpec PlanSpec

theorem mayT_smallZ {t : FTree} (h : mayT t = true) : SmallT t ∧ 1 ≤ t.ents.length ∧ t.ents.length ≤ 100 ∧ 1 ≤ t.nodes.length ∧ t.nodes.length ≤ 100 := by
  have hn := mayT_num h
  have hp := mayT_pos h
  have h100 : t.ents.length ≤ 100 := by
    have := h
    unfold mayT at this
    simp only [Bool.and_eq_true,decide_eq_true_eq] at this
    exact this.1.1.1.2
  have hu : ∀ i : Nat,i ≤ t.ents.length → usedAt t.ents i ≤ i := by
    intro i
    induction i with
    | zero => intro _;simp [usedAt]
    | succ i ih =>
      intro hi
      have he := List.getElem?_eq_getElem (show i < t.ents.length by omega)
      rw [usedAt_succ he]
      unfold nextU
      have := ih (by omega)
      split <;> omega
  have hl := hu t.ents.length (Nat.le_refl _)
  rw [hn.last] at hl
  refine ⟨⟨by omega,by omega,fun e he => ?_,fun n hm => ?_⟩,hp.2,h100,hp.1,by omega⟩
  · have := may_len ((mayT_valid h).rise.2 e he)
    omega
  · obtain ⟨a,b⟩ := mayN_small (hn.may n hm)
    exact ⟨a,by unfold maxLen;omega⟩
theorem told_plan : planP (makeT fileU []) [] = (last5 [],0) := by decide +kernel
theorem told_none : planP ⟨[],[]⟩ [] = ([],1) := by decide +kernel
set_option maxRecDepth 100000 in
set_option maxHeartbeats 4000000 in
theorem ztold_L : LCalls Tryd.prog 10 [] (boolL true) := by
  have hs := (mayT_smallZ (make_may [])).1
  have c1 := make_L []
  rw [List.map_nil] at c1
  have c2 := pall_L (makeT fileU []) hs [] (by decide)
  rw [told_plan] at c2
  have c3 := pall_L ⟨[],[]⟩ ⟨by decide,by decide,(fun e he => by cases he),(fun n hn => by cases hn)⟩ [] (by decide)
  rw [told_none] at c3
  have c4 := pcalls_L (makeT fileU []) (last5 [])
  rw [show (last5 []).length = 5 from rfl] at c4
  generalize makeT fileU [] = t at *
  simp only [treeL,intsL,strsL,stepsL,rowL,List.flatMap_nil,List.length_nil] at c1 c2 c3 c4
  rw [show (last5 []).flatMap stepL = [intL 6,strL [],strL [],intL 0,intL 7,strL [],strL [],intL 0,intL 8,strL [],strL [],intL 0,intL 9,strL [],strL [],intL 0,intL 10,strL [],strL [],intL 0] from rfl,show (last5 []).length = 5 from rfl] at c2 c4
  refine LCalls.of (fun _ => false) Tryd.func10 rfl (by decide) Tryd.ntmps10 Tryd.results10 (by simp) ?_
  intro w0 S0 vs hgl hwf0 hsz hvs;clear hsz hvs hwf0 hgl
  refine Yg0 ?_
  refine Yr0 ?_;intro K hK
  refine Yc0 (c1) ?_
  refine hK _ ?_;clear hK K;try refine Wh0 ?_
  refine Yr0 ?_;intro K hK
  refine Yc0 (c2) ?_
  refine hK _ ?_;clear hK K;try refine Wh0 ?_
  refine Yr0 ?_;intro K hK
  refine Yc0 (c3) ?_
  refine hK _ ?_;clear hK K;try refine Wh0 ?_
  refine Yr0 ?_;intro K hK
  refine Yc0 (c4) ?_
  refine hK _ ?_;clear hK K;try refine Wh0 ?_
  refine Ye0 ?_;try (with_reducible exact trivial)
end Go.Proofs.YtbffcndmcaeamaaDoor
end
section
set_option linter.unusedSimpArgs false
set_option linter.unusedVariables false
namespace Go.Proofs.YtbffcndmcaeamaaDoor
open Nat renaming reduceAdd → zz1,reduceMul → zz2,reduceSub → zz3,reduceLT → zz4,reduceLeDiff → zz5,reduceEqDiff → zz6,reduceBEq → zzf
open Int renaming reduceAdd → zz7,reduceSub → zz8,reduceMul → zz9,reduceLT → zza,reduceLE → zzb,reduceEq → zzc,reduceNeg → zzd,reduceToNat → zze
open Go.RowKit Go.Proofs AclSpec MetaSpec NodeSpec PathSpec TreeSpec PlanSpec

theorem planP_may {t : FTree} (h : mayT t = true) (there : List (List UInt8)) : planP t there = (planS t there,0) := by unfold planP;rw [if_pos h]
theorem planS_len {t : FTree} (hm : mayT t = true) (h : SmallT t) (there : List (List UInt8)) : (planS t there).length ≤ 10000 := by
  have h100 : t.ents.length ≤ 100 := (mayT_smallZ hm).2.2.1
  unfold planS
  rw [List.length_append,List.length_append]
  have h1 := upTo_len (entS_len t h hm there) t.ents.length
  have h2 := upTo_len (othS_len t) t.ents.length
  have h3 := upTo_len (f := levS t) (c := 5 * 100) (fun j => by have := upTo_len (dirS_len t (8 - (j : Int))) t.ents.length;unfold levS;omega) 9
  omega
theorem upTo_all {α : Type} {Q : α → Prop} {f : Nat → List α} : ∀ {n : Nat},(∀ i,∀ s ∈ f i,Q s) → ∀ s ∈ upTo f n,Q s
  | 0,_,s,hs => by cases hs
  | n + 1,h,s,hs => by
    rw [upTo] at hs
    rcases List.mem_append.1 hs with hs | hs
    · exact upTo_all h s hs
    · exact h n s hs
theorem planS_step (t : FTree) (there : List (List UInt8)) : ∀ s ∈ planS t there,(1 ≤ s.kind ∧ s.kind ≤ 10) ∧ ∃ e ∈ t.ents,s.path = e.path := by
  have five : ∀ {p : List UInt8} {s : PStep},s ∈ last5 p → (1 ≤ s.kind ∧ s.kind ≤ 10) ∧ s.path = p := by
    intro p s hs
    unfold last5 at hs
    simp only [List.mem_cons,List.not_mem_nil,or_false] at hs
    rcases hs with rfl | rfl | rfl | rfl | rfl <;> exact ⟨⟨by simp,by simp⟩,rfl⟩
  intro s hs
  unfold planS at hs
  rcases List.mem_append.1 hs with hs | hs
  · rcases List.mem_append.1 hs with hs | hs
    · refine upTo_all (Q := fun s => (1 ≤ s.kind ∧ s.kind ≤ 10) ∧ ∃ e ∈ t.ents,s.path = e.path) (fun i s hs => ?_) s hs
      unfold entS at hs
      split at hs
      · cases hs
      rename_i e he
      have hm := List.mem_of_getElem? he
      split at hs
      · cases hs
      split at hs
      · cases hs
      unfold made1 at hs
      split at hs
      · rw [List.mem_singleton.1 hs];exact ⟨⟨by simp,by simp⟩,e,hm,rfl⟩
      split at hs
      · rw [List.mem_singleton.1 hs];exact ⟨⟨by simp,by simp⟩,e,hm,rfl⟩
      unfold fileS at hs
      rcases List.mem_cons.1 hs with rfl | hs
      · exact ⟨⟨by simp,by simp⟩,e,hm,rfl⟩
      split at hs
      · rcases List.mem_append.1 hs with hs | hs
        · unfold writesP at hs
          obtain ⟨j,_,rfl⟩ := List.mem_map.1 hs
          exact ⟨⟨by simp,by simp⟩,e,hm,rfl⟩
        · split at hs
          · cases hs
          · rw [List.mem_singleton.1 hs];exact ⟨⟨by simp,by simp⟩,e,hm,rfl⟩
      · cases hs
    · refine upTo_all (Q := fun s => (1 ≤ s.kind ∧ s.kind ≤ 10) ∧ ∃ e ∈ t.ents,s.path = e.path) (fun i s hs => ?_) s hs
      unfold othS at hs
      split at hs
      · cases hs
      rename_i e he
      split at hs
      · exact ⟨(five hs).1,e,List.mem_of_getElem? he,(five hs).2⟩
      · cases hs
  · refine upTo_all (Q := fun s => (1 ≤ s.kind ∧ s.kind ≤ 10) ∧ ∃ e ∈ t.ents,s.path = e.path) (fun k s hs => ?_) s hs
    unfold levS at hs
    refine upTo_all (Q := fun s => (1 ≤ s.kind ∧ s.kind ≤ 10) ∧ ∃ e ∈ t.ents,s.path = e.path) (fun i s hs => ?_) s hs
    unfold dirS at hs
    split at hs
    · cases hs
    rename_i e he
    split at hs
    · exact ⟨(five hs).1,e,List.mem_of_getElem? he,(five hs).2⟩
    · cases hs
theorem count_take (q : PStep → Bool) {l : List PStep} {i : Nat} {s : PStep} (h : l[i]? = some s) : (l.take (i + 1)).countP q = (l.take i).countP q + if q s = true then 1 else 0 := by
  obtain ⟨hi,rfl⟩ := List.getElem?_eq_some_iff.1 h
  rw [List.take_succ_eq_append_getElem hi,List.countP_append,List.countP_cons,List.countP_nil,Nat.zero_add]
theorem sum_take {l : List FNode} {i : Nat} {n : FNode} (h : l[i]? = some n) : ((l.take (i + 1)).map fun n => n.dat.length).sum = ((l.take i).map fun n => n.dat.length).sum + n.dat.length := by
  obtain ⟨hi,rfl⟩ := List.getElem?_eq_some_iff.1 h
  rw [List.take_succ_eq_append_getElem hi,List.map_append,List.sum_append];simp
theorem sum_le (l : List FNode) (h : ∀ n ∈ l,n.dat.length ≤ 1000000) : (l.map fun n => n.dat.length).sum ≤ 1000000 * l.length := by
  induction l with
  | nil => simp
  | cons a r ih =>
    rw [List.map_cons,List.sum_cons,List.length_cons]
    have := ih fun n hn => h n (by simp [hn])
    have := h a (by simp)
    omega
set_option maxRecDepth 100000 in
set_option maxHeartbeats 8000000 in
theorem planCounts_L (l : List Int) : LCalls Tryd.prog 4 [intsL l] (boolL true) := by
  have hm := make_may (l.map uN)
  obtain ⟨hs,hp1,hp2,hp3,hp4⟩ := mayT_smallZ hm
  have c1 := make_L l
  have c2 := pall_L (makeT fileU (l.map uN)) hs [] (by decide)
  have c4 := pcalls_L (makeT fileU (l.map uN)) (planS (makeT fileU (l.map uN)) [])
  rw [planP_may hm] at c2
  have n1 := plan_made hm
  have n2 := plan_write hm
  have n3 := plan_rest hm
  have hkd := fun s hs => (planS_step (makeT fileU (l.map uN)) [] s hs).1
  have hXl := planS_len hm hs []
  have t0 := ztold_L
  generalize planS (makeT fileU (l.map uN)) [] = X at *
  generalize makeT fileU (l.map uN) = t at *
  have f1 := stepL_flen X
  simp only [treeL,intsL,strsL,stepsL,rowL,List.flatMap_nil,List.length_nil] at c1 c2 c4
  refine LCalls.of (fun _ => false) Tryd.func4 rfl (by decide) Tryd.ntmps4 Tryd.results4 (by simp) ?_
  intro w0 S0 vs hgl hwf0 hsz hvs;clear hsz hvs hwf0 hgl
  refine Yg1 (fa2 @intsL.eq_1 @rowL.eq_1) ?_
  refine Yr0 ?_;intro K hK
  refine Yc0 (c1) ?_
  refine hK _ ?_;clear hK K;try refine Wh0 ?_
  refine Yr0 ?_;intro K hK
  refine Yc0 (c2) ?_
  refine hK _ ?_;clear hK K;try refine Wh0 ?_
  refine LW_slim (fun st => st.env 3 = .ptr 3 0 ∧ st.box 3 = some (treeL t) ∧ st.env 4 = stepsL X ∧ st.env 5 = intL 0 ∧ st.mode = fun _ => false) ⟨Yq0,(Yq1 @treeL.eq_1),(Yq1 (fa2 @stepsL.eq_1 @rowL.eq_1)),Yq0,Yq0⟩ ?_
  rintro st ⟨e3,b3,e4,e5,hmd⟩
  simp only [treeL] at b3
  simp only [stepsL,rowL] at e4
  refine Yg0 ?_
  refine LW_joinB (fun st => st.env 3 = .ptr 3 0 ∧ st.box 3 = some (treeL t) ∧ st.env 4 = stepsL X ∧ st.env 5 = intL 0 ∧ st.env 6 = intL (X.countP isMade) ∧ st.env 7 = intL (X.countP isWrite) ∧ st.env 8 = intL 0 ∧ st.env 9 = intL (X.countP isRest) ∧ st.mode = fun _ => false) ?_ ?_
  · refine LW_loop (fun n st => ∃ i : Nat,n + i = X.length ∧ st.env 3 = .ptr 3 0 ∧ st.box 3 = some (treeL t) ∧ st.env 4 = stepsL X ∧ st.env 5 = intL 0 ∧ st.env 6 = intL ((X.take i).countP isMade) ∧ st.env 7 = intL ((X.take i).countP isWrite) ∧ st.env 8 = intL 0 ∧ st.env 9 = intL ((X.take i).countP isRest) ∧ st.env 10 = intL i ∧ st.mode = fun _ => false) X.length ⟨0,by omega,(Yq1 @e3),(Yq1 (fa2 @b3 @treeL.eq_1)),(Yq1 (fa3 @e4 @stepsL.eq_1 @rowL.eq_1)),(Yq1 @e5),Yq0,Yq0,Yq0,Yq0,Yq0,(Yq1 @hmd)⟩ ?_
    clear e3 b3 e4 e5 hmd st
    rintro n st ⟨i,hn,e3,b3,e4,e5,e6,e7,e8,e9,e10,hmd⟩
    simp only [stepsL,rowL] at e4
    by_cases hlt : i < X.length
    rotate_left
    · have hil : i = X.length := by omega
      rw [hil,List.take_length] at e6 e7 e9
      refine Yg1 (fa3 @e4 @e10 @hlt) ?_
      refine Yf1 @hlt ?_
      refine LW_exit ?_;simp only [thenL,jumpsL,inBlockL,twoL,reduceIte,Nat.reduceEqDiff]
      exact ⟨(Yq1 @e3),(Yq1 @b3),(Yq1 (fa3 @e4 @stepsL.eq_1 @rowL.eq_1)),(Yq1 @e5),(Yq1 @e6),(Yq1 @e7),(Yq1 @e8),(Yq1 @e9),(Yq1 @hmd)⟩
    obtain ⟨s,hsx⟩ := get_of_lt hlt
    have hd := drop_step hsx
    have hip : (0 : Int) ≤ (i : Int) := by omega
    have hw := w64s (n := i) (by omega)
    have k1 := count_take isMade hsx
    have k2 := count_take isWrite hsx
    have k3 := count_take isRest hsx
    have hk := hkd s (List.mem_of_getElem? hsx)
    have l1 : (X.take i).countP isMade ≤ i := Nat.le_trans List.countP_le_length (by rw [List.length_take];omega)
    have l2 : (X.take i).countP isWrite ≤ i := Nat.le_trans List.countP_le_length (by rw [List.length_take];omega)
    have l3 : (X.take i).countP isRest ≤ i := Nat.le_trans List.countP_le_length (by rw [List.length_take];omega)
    generalize (X.take i).countP isMade = a at *
    generalize (X.take i).countP isWrite = b at *
    generalize (X.take i).countP isRest = c at *
    generalize ha' : (X.take (i + 1)).countP isMade = a' at *
    generalize hb' : (X.take (i + 1)).countP isWrite = b' at *
    generalize hc' : (X.take (i + 1)).countP isRest = c' at *
    have w1 := w64s (n := a) (by omega)
    have w2 := w64s (n := b) (by omega)
    have w3 := w64s (n := c) (by omega)
    refine Yg1 (fa3 @e4 @e10 @hlt) ?_
    refine Yt1 @hlt ?_
    refine LW_skip ?_
    simp only [LSj,reduceIte,zze]
    (repeat refine LW_seq ?_)
    refine LW_block ?_
    refine LW_joinB (fun st => st.env 3 = .ptr 3 0 ∧ st.box 3 = some (treeL t) ∧ st.env 4 = stepsL X ∧ st.env 5 = intL 0 ∧ st.env 6 = intL a' ∧ st.env 7 = intL b' ∧ st.env 8 = intL 0 ∧ st.env 9 = intL c' ∧ st.env 10 = intL i ∧ st.mode = fun _ => false) ?_ ?_
    rotate_left
    · clear e3 b3 e4 e5 e6 e7 e8 e9 e10 hmd st
      rintro st ⟨e3,b3,e4,e5,e6,e7,e8,e9,e10,hmd⟩
      refine Yg1 (fa2 @e10 @hw) ?_
      exact ⟨n - 1,by omega,i + 1,by omega,(Yq1 @e3),(Yq1 @b3),(Yq1 @e4),(Yq1 @e5),by rw [ha'];exact (Yq1 @e6),by rw [hb'];exact (Yq1 @e7),(Yq1 @e8),by rw [hc'];exact (Yq1 @e9),Yq0,(Yq1 @hmd)⟩
    have hk10 : s.kind = 1 ∨ s.kind = 2 ∨ s.kind = 3 ∨ s.kind = 4 ∨ s.kind = 5 ∨ s.kind = 6 ∨ s.kind = 7 ∨ s.kind = 8 ∨ s.kind = 9 ∨ s.kind = 10 := by omega
    rcases hk10 with hk | hk | hk | hk | hk | hk | hk | hk | hk | hk <;> simp [isMade,isWrite,isRest,hk] at k1 k2 k3 <;> subst k1 <;> subst k2 <;> subst k3
    all_goals (refine Yg1 (fa6 @e4 @e10 @hlt @hip @hd @hk) ?_)
    all_goals (repeat (first | (refine Yt0 ?_;refine Yg1 (fa6 @e6 @e7 @e9 @w1 @w2 @w3) ?_) | (refine Yf0 ?_;refine Yg1 (fa6 @e6 @e7 @e9 @w1 @w2 @w3) ?_)))
    all_goals exact ⟨(Yq1 @e3),(Yq1 @b3),(Yq1 (fa3 @e4 @stepsL.eq_1 @rowL.eq_1)),(Yq1 @e5),(Yq1 (fa2 @e6 @w1)),(Yq1 (fa2 @e7 @w2)),(Yq1 @e8),(Yq1 (fa2 @e9 @w3)),(Yq1 @e10),(Yq1 @hmd)⟩
  clear e3 b3 e4 e5 hmd st
  rintro st ⟨e3,b3,e4,e5,e6,e7,e8,e9,hmd⟩
  refine Yg0 ?_
  refine LW_joinB (fun st => st.env 3 = .ptr 3 0 ∧ st.box 3 = some (treeL t) ∧ st.env 4 = stepsL X ∧ st.env 5 = intL 0 ∧ st.env 6 = intL (X.countP isMade) ∧ st.env 7 = intL (X.countP isWrite) ∧ st.env 8 = intL ((t.nodes.map fun n => n.dat.length).sum : Nat) ∧ st.env 9 = intL (X.countP isRest) ∧ st.mode = fun _ => false) ?_ ?_
  · refine LW_loop (fun n st => ∃ i : Nat,n + i = t.nodes.length ∧ st.env 3 = .ptr 3 0 ∧ st.box 3 = some (treeL t) ∧ st.env 4 = stepsL X ∧ st.env 5 = intL 0 ∧ st.env 6 = intL (X.countP isMade) ∧ st.env 7 = intL (X.countP isWrite) ∧ st.env 8 = intL (((t.nodes.take i).map fun n => n.dat.length).sum : Nat) ∧ st.env 9 = intL (X.countP isRest) ∧ st.env 11 = intL i ∧ st.mode = fun _ => false) t.nodes.length ⟨0,by omega,(Yq1 @e3),(Yq1 @b3),(Yq1 @e4),(Yq1 @e5),(Yq1 @e6),(Yq1 @e7),(Yq1 @e8),(Yq1 @e9),Yq0,(Yq1 @hmd)⟩ ?_
    clear e3 b3 e4 e5 e6 e7 e8 e9 hmd st
    rintro n st ⟨i,hn,e3,b3,e4,e5,e6,e7,e8,e9,e11,hmd⟩
    simp only [treeL] at b3
    by_cases hlt : i < t.nodes.length
    rotate_left
    · have hil : i = t.nodes.length := by omega
      rw [hil,List.take_length] at e8
      refine Yg1 (fa4 @e3 @b3 @e11 @hlt) ?_
      refine Yf1 @hlt ?_
      refine LW_exit ?_;simp only [thenL,jumpsL,inBlockL,twoL,reduceIte,Nat.reduceEqDiff]
      exact ⟨(Yq1 @e3),(Yq1 (fa2 @b3 @treeL.eq_1)),(Yq1 @e4),(Yq1 @e5),(Yq1 @e6),(Yq1 @e7),(Yq1 @e8),(Yq1 @e9),(Yq1 @hmd)⟩
    obtain ⟨nd,hnd⟩ := get_of_lt hlt
    have hdn := drop_node hnd
    simp only [nodeL,attrsL,acesL,piecesL,rowL,List.cons_append,List.nil_append] at hdn
    have hdn8 : (t.nodes.flatMap nodeL).drop (i * 12 + 8) = .sl nd.dat.length (nd.dat.flatMap pieceL) .no :: strL nd.target :: intL nd.major :: intL nd.minor :: (t.nodes.drop (i + 1)).flatMap nodeL := by
      have hd := congrArg (List.drop 8) hdn
      rw [List.drop_drop] at hd
      exact hd
    have hip : (0 : Int) ≤ (i : Int) := by omega
    have hw := w64s (n := i) (by omega)
    have hst := sum_take hnd
    have hle := sum_le (t.nodes.take i) fun n hn => (hs.node n (List.mem_of_mem_take hn)).1.2.2.1
    have hnl := (hs.node nd (List.mem_of_getElem? hnd)).1.2.2.1
    rw [List.length_take] at hle
    have hw8 : IntKind.i64.wrap ((((t.nodes.take i).map fun n => n.dat.length).sum : Nat) + (nd.dat.length : Int)) = ((((t.nodes.take (i + 1)).map fun n => n.dat.length).sum : Nat) : Int) := by
      rw [hst,w64 (by omega)];omega
    generalize ((t.nodes.take i).map fun n => n.dat.length).sum = a at *
    generalize hsa : ((t.nodes.take (i + 1)).map fun n => n.dat.length).sum = a' at *
    refine Yg1 (fa4 @e3 @b3 @e11 @hlt) ?_
    refine Yt1 @hlt ?_
    refine Yg1 (fa9 @e3 @b3 @e8 @e11 @hlt @hip @hdn @hdn8 @hw8) ?_
    refine Yg1 (fa2 @e11 @hw) ?_
    exact ⟨n - 1,by omega,i + 1,by omega,(Yq1 @e3),(Yq1 (fa2 @b3 @treeL.eq_1)),(Yq1 @e4),(Yq1 @e5),(Yq1 @e6),(Yq1 @e7),by rw [hsa];exact Yq0,(Yq1 @e9),(Yq1 @hw),(Yq1 @hmd)⟩
  clear e3 b3 e4 e5 e6 e7 e8 e9 hmd st
  rintro st ⟨e3,b3,e4,e5,e6,e7,e8,e9,hmd⟩
  simp only [treeL] at b3
  simp only [stepsL,rowL] at e4
  rw [n1] at e6
  rw [n2] at e7
  rw [n3] at e9
  have wE : IntKind.i64.wrap ((t.ents.length : Int) - 1) = ((t.ents.length - 1 : Nat) : Int) := by rw [show (t.ents.length : Int) - 1 = ((t.ents.length - 1 : Nat) : Int) by omega];exact w64 (by omega)
  have wN : IntKind.i64.wrap (5 * (t.nodes.length : Int)) = ((5 * t.nodes.length : Nat) : Int) := by rw [show 5 * (t.nodes.length : Int) = ((5 * t.nodes.length : Nat) : Int) by omega];exact w64 (by omega)
  generalize (t.nodes.map fun n => n.dat.length).sum = sm at *
  generalize t.ents.length - 1 = em at *
  refine Yr1 (fa10 @e3 @b3 @e4 @e5 @e6 @e7 @e8 @e9 @wE @wN) ?_;intro K hK
  refine Yc1 (t0) (fa10 @e3 @b3 @e4 @e5 @e6 @e7 @e8 @e9 @wE @wN) ?_
  refine Yc1 (c4) (fa10 @e3 @b3 @e4 @e5 @e6 @e7 @e8 @e9 @wE @wN) ?_
  refine hK _ ?_;clear hK K;try refine Wh0 ?_
  refine Ye0 ?_;try (with_reducible exact trivial)
end Go.Proofs.YtbffcndmcaeamaaDoor
end
