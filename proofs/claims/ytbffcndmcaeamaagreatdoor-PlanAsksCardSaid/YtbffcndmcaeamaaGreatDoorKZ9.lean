import Derived.Test.YtbffcndmcaeamaaGreatDoorKZ5
import Derived.Test.YtbffcndmcaeamaaGreatDoorKTM
import Derived.Test.YtbffcndmcaeamaaGreatDoorKZ7
import Derived.Test.YtbffcndmcaeamaaGreatDoorKIT
import Derived.Test.YtbffcndmcaeamaaGreatDoorOTree
section
set_option linter.unusedSimpArgs false
set_option linter.unusedVariables false
namespace Go.Proofs.YtbffcndmcaeamaaGreatDoor
open Go.RowKit Go.Proofs AclSpec MetaSpec NodeSpec PathSpec TreeSpec PlanSpec

theorem mayT_smallZ {t : FTree} (h : mayT t = true) : SmallT t ∧ 1 ≤ t.ents.length ∧ t.ents.length ≤ 100 ∧ 1 ≤ t.nodes.length ∧ t.nodes.length ≤ 100 := by
  have hn := mayT_num h
  have hp := mayT_pos h
  have h100 : t.ents.length ≤ 100 := by
    have := h
    unfold mayT at this
    simp only [Bool.and_eq_true,decide_eq_true_eq] at this
    exact this.1.1.1.2
  have hu : ∀ i : Nat,i ≤ t.ents.length → usedAt t.ents i ≤ i := by
    intro i
    induction i with
    | zero => intro _;simp [usedAt]
    | succ i ih =>
      intro hi
      have he := List.getElem?_eq_getElem (show i < t.ents.length by omega)
      rw [usedAt_succ he]
      unfold nextU
      have := ih (by omega)
      split <;> omega
  have hl := hu t.ents.length (Nat.le_refl _)
  rw [hn.last] at hl
  refine ⟨⟨by omega,by omega,fun e he => ?_,fun n hm => ?_⟩,hp.2,h100,hp.1,by omega⟩
  · have := may_len ((mayT_valid h).rise.2 e he)
    omega
  · obtain ⟨a,b⟩ := mayN_small (hn.may n hm)
    exact ⟨a,by unfold maxLen;omega⟩
set_option maxRecDepth 100000 in
theorem zsteps_L (l : List PStep) (hl : l.length ≤ 1000000) : LCalls Tryz.prog 8 [stepsL l,stepsL l] (boolL true) := by
  refine LCalls.of (fun _ => false) Tryz.func8 rfl (by decide) Tryz.ntmps8 Tryz.results8 (by simp) ?_
  intro w0 S0 vs hgl hwf0 hsz hvs;clear hsz hvs hwf0 hgl
  have hne : ¬ ¬ (l.length : Int) = (l.length : Int) := fun h => h rfl
  refine Yg1 (fa2 @stepsL.eq_1 @rowL.eq_1) ?_
  refine Yf0 ?_
  refine Yg0 ?_
  refine LW_joinB (fun st => True) ?_ ?_
  · refine LW_loop (fun n st => ∃ i : Nat,n + i = l.length ∧ st.env 0 = stepsL l ∧ st.env 1 = stepsL l ∧ st.env 5 = intL i ∧ st.mode = fun _ => false) l.length ⟨0,by omega,(Yq1 (fa2 @stepsL.eq_1 @rowL.eq_1)),(Yq1 (fa2 @stepsL.eq_1 @rowL.eq_1)),Yq0,Yq0⟩ ?_
    rintro n st ⟨i,hn,e0,e1,e5,hmd⟩
    simp only [stepsL,rowL] at e0 e1
    by_cases hlt : i < l.length
    rotate_left
    · refine Yg1 (fa3 @e0 @e5 @hlt) ?_
      refine Yf1 @hlt ?_
      refine LW_exit ?_;simp only [thenL,jumpsL,inBlockL,twoL,reduceIte,Nat.reduceEqDiff]
    obtain ⟨s,hs⟩ := get_of_lt hlt
    have hd := drop_step hs
    have hip : (0 : Int) ≤ (i : Int) := by omega
    have hw := w64s (n := i) (by omega)
    refine Yg1 (fa3 @e0 @e5 @hlt) ?_
    refine Yt1 @hlt ?_
    refine Yg0 ?_
    refine Yn1 (fa7 @e0 @e1 @e5 @hmd @hlt @hip @hd) ?_;intro K hK
    refine hK _ ?_;clear hK K;try refine Wh0 ?_
    refine Yf0 ?_
    refine Yg1 (fa2 @e5 @hw) ?_
    exact ⟨n - 1,by omega,i + 1,by omega,(Yq1 (fa3 @e0 @stepsL.eq_1 @rowL.eq_1)),(Yq1 (fa3 @e1 @stepsL.eq_1 @rowL.eq_1)),Yq0,(Yq1 @hmd)⟩
  · intro st _
    refine Yg0 ?_
    refine Ye0 ?_;try (with_reducible exact trivial)
theorem told_plan : planP (makeT fileU []) [] = (last5 [],0) := by decide +kernel
theorem told_none : planP ⟨[],[]⟩ [] = ([],1) := by decide +kernel
set_option maxRecDepth 100000 in
set_option maxHeartbeats 4000000 in
theorem ztold_L : LCalls Tryz.prog 5 [] (boolL true) := by
  have hs := (mayT_smallZ (make_may [])).1
  have c1 := make_L []
  rw [List.map_nil] at c1
  have c2 := pall_L (makeT fileU []) hs [] (by decide)
  rw [told_plan] at c2
  have c3 := pall_L ⟨[],[]⟩ ⟨by decide,by decide,(fun e he => by cases he),(fun n hn => by cases hn)⟩ [] (by decide)
  rw [told_none] at c3
  have c4 := pcalls_L (makeT fileU []) (last5 [])
  rw [show (last5 []).length = 5 from rfl] at c4
  generalize makeT fileU [] = t at *
  simp only [treeL,intsL,strsL,stepsL,rowL,List.flatMap_nil,List.length_nil] at c1 c2 c3 c4
  rw [show (last5 []).flatMap stepL = [intL 6,strL [],strL [],intL 0,intL 7,strL [],strL [],intL 0,intL 8,strL [],strL [],intL 0,intL 9,strL [],strL [],intL 0,intL 10,strL [],strL [],intL 0] from rfl,show (last5 []).length = 5 from rfl] at c2 c4
  refine LCalls.of (fun _ => false) Tryz.func5 rfl (by decide) Tryz.ntmps5 Tryz.results5 (by simp) ?_
  intro w0 S0 vs hgl hwf0 hsz hvs;clear hsz hvs hwf0 hgl
  refine Yg0 ?_
  refine Yr0 ?_;intro K hK
  refine Yc0 (c1) ?_
  refine hK _ ?_;clear hK K;try refine Wh0 ?_
  refine Yr0 ?_;intro K hK
  refine Yc0 (c2) ?_
  refine hK _ ?_;clear hK K;try refine Wh0 ?_
  refine Yr0 ?_;intro K hK
  refine Yc0 (c3) ?_
  refine hK _ ?_;clear hK K;try refine Wh0 ?_
  refine Yr0 ?_;intro K hK
  refine Yc0 (c4) ?_
  refine hK _ ?_;clear hK K;try refine Wh0 ?_
  refine Ye0 ?_;try (with_reducible exact trivial)
end Go.Proofs.YtbffcndmcaeamaaGreatDoor
end
section
set_option linter.unusedSimpArgs false
set_option linter.unusedVariables false
namespace Go.Proofs.YtbffcndmcaeamaaGreatDoor
open Go.RowKit Go.Proofs AclSpec MetaSpec NodeSpec PathSpec TreeSpec PlanSpec

theorem planP_len (t : FTree) (h : SmallT t) (there : List (List UInt8)) : (planP t there).1.length ≤ 10000 := by
  unfold planP
  cases hm : mayT t
  · simp
  · have h100 : t.ents.length ≤ 100 := by
      have := hm
      unfold mayT at this
      simp only [Bool.and_eq_true,decide_eq_true_eq] at this
      exact this.1.1.1.2
    rw [if_pos rfl]
    unfold planS
    rw [List.length_append,List.length_append]
    have h1 := upTo_len (entS_len t h hm there) t.ents.length
    have h2 := upTo_len (othS_len t) t.ents.length
    have h3 := upTo_len (f := levS t) (c := 5 * 100) (fun j => by have := upTo_len (dirS_len t (8 - (j : Int))) t.ents.length;unfold levS;omega) 9
    omega
theorem opens_strs {H : Type} {enc : TypeId × Value → H} {w : World} : Opens enc Tryz.prog w 26 (fun l => l.length ≤ maxLen ∧ ∀ a ∈ l,List.length a ≤ maxLen) (fun l => [strsL l]) :=
  opens_slice Tryz.underlying26 (k := 1) (by kernel_rfl) (by decide) (fun _ => rfl) opens_str
set_option maxRecDepth 100000 in
set_option maxHeartbeats 4000000 in
theorem planAsks_L (t : FTree) (ho : okLenT t) (there : List (List UInt8)) (hth : there.length ≤ maxLen) : LCalls Tryz.prog 3 [.agg (treeL t),strsL there] (boolL true) := by
  have f1 := tfew_L t ho
  have t0 := ztold_L
  simp only [treeL] at f1
  refine LCalls.of (fun _ => false) Tryz.func3 rfl (by decide) Tryz.ntmps3 Tryz.results3 (by simp) ?_
  intro w0 S0 vs hgl hwf0 hsz hvs;clear hsz hvs hwf0 hgl
  refine Yg1 (fa3 @treeL.eq_1 @strsL.eq_1 @rowL.eq_1) ?_
  cases h1 : fewT t
  · rw [h1] at f1
    refine Yr0 ?_;intro K hK
    refine Yc0 (f1) ?_
    refine hK _ ?_;clear hK K;try refine Wh0 ?_
    refine Yt0 ?_
    refine Yr0 ?_;intro K hK
    refine Yc0 (t0) ?_
    refine hK _ ?_;clear hK K;try refine Wh0 ?_
    refine Ye0 ?_;try (with_reducible exact trivial)
  rw [h1] at f1
  by_cases h6 : 6 < there.length
  · have h6i : ((6 : Int) < (there.length : Int)) = True := eq_true (by omega)
    refine Yr0 ?_;intro K hK
    refine Yc1 (f1) @h6i ?_
    refine hK _ ?_;clear hK K;try refine Wh0 ?_
    refine Yt1 @h6 ?_
    refine Yr0 ?_;intro K hK
    refine Yc0 (t0) ?_
    refine hK _ ?_;clear hK K;try refine Wh0 ?_
    refine Ye0 ?_;try (with_reducible exact trivial)
  have h6i : ¬ ((6 : Int) < (there.length : Int)) := by omega
  have st := fewT_small h1
  have c1 := pall_L t st there (by omega)
  have c2 := rplan_L t st there (by omega)
  rw [plan_eq] at c2
  have hlen := planP_len t st there
  generalize planP t there = X at *
  obtain ⟨l,z⟩ := X
  simp only at c1 c2 hlen
  have c3 := zsteps_L l (by omega)
  have c4 := pcalls_L t l
  simp only [treeL,strsL,stepsL,rowL] at c1 c2 c3 c4
  refine Yr0 ?_;intro K hK
  refine Yc1 (f1) @h6i ?_
  refine hK _ ?_;clear hK K;try refine Wh0 ?_
  refine Yf1 @h6i ?_
  refine Yr0 ?_;intro K hK
  refine Yc0 (c1) ?_
  refine hK _ ?_;clear hK K;try refine Wh0 ?_
  refine Yr0 ?_;intro K hK
  refine Yc0 (c2) ?_
  refine hK _ ?_;clear hK K;try refine Wh0 ?_
  refine Yr0 ?_;intro K hK
  refine Yc0 (t0) ?_
  refine Yc0 (c3) ?_
  refine Yc0 (c4) ?_
  refine hK _ ?_;clear hK K;try refine Wh0 ?_
  refine Ye0 ?_;try (with_reducible exact trivial)
end Go.Proofs.YtbffcndmcaeamaaGreatDoor
end
