import Derived.Test.YtbffcndmcaeamaaDoorKZA
import Derived.Test.YtbffcndmcaeamaaDoorZThere
import Derived.Test.YtbffcndmcaeamaaDoorL26
set_option linter.unusedSimpArgs false
set_option linter.unusedVariables false
namespace Go.Proofs.YtbffcndmcaeamaaDoor
open Go.RowKit Go.Proofs AclSpec MetaSpec NodeSpec PathSpec TreeSpec PlanSpec

def shM (mask : Int) (i : Nat) : Int := bits .and .i64 (mask.fdiv (2 ^ (min (IntKind.u64.wrap (bits .and .i64 (i : Int) 31)).toNat IntKind.i64.bits))) 1
def selM (mask : Int) (i : Nat) : Bool := decide (shM mask i = 1)
theorem wrap_nn (x : Int) : ¬ IntKind.u64.wrap x < 0 := by
  have h : IntKind.u64.wrap x = x % 18446744073709551616 := by unfold IntKind.wrap;rfl
  rw [h];omega
theorem thereTo_succ (t : FTree) (sel : Nat → Bool) {i : Nat} (h0 : i ≠ 0) : thereTo t sel (i + 1) = thereTo t sel i ++ if sel i = true then [pathI t.ents i] else [] := by
  rw [thereTo]
  by_cases h : sel i = true
  · rw [if_pos ⟨h0,h⟩,if_pos h]
  · rw [if_neg (fun hx => h hx.2),if_neg h]
theorem dirsTo_succ (t : FTree) (sel : Nat → Bool) {i : Nat} (h0 : i ≠ 0) : dirsTo t sel (i + 1) = dirsTo t sel i + if sel i = true ∧ isDirI t i = true then 1 else 0 := by
  unfold dirsTo
  rw [sumTo]
  by_cases h : sel i = true ∧ isDirI t i = true
  · rw [if_pos ⟨h0,h⟩,if_pos h]
  · rw [if_neg (fun hx => h hx.2),if_neg h]
theorem greedy_drop {a b : List PStep} {i j : Nat} {x y : PStep} (hx : a[i]? = some x) (hy : b[j]? = some y) : greedy (a.drop i) (b.drop j) = if x = y then greedy (a.drop (i + 1)) (b.drop (j + 1)) else if x.kind = 1 then greedy (a.drop (i + 1)) (b.drop j) else false := by
  obtain ⟨hi,rfl⟩ := List.getElem?_eq_some_iff.1 hx
  obtain ⟨hj,rfl⟩ := List.getElem?_eq_some_iff.1 hy
  rw [List.drop_eq_getElem_cons hi,List.drop_eq_getElem_cons hj,greedy]
theorem step_ne {x y : PStep} : x = y ↔ x.kind = y.kind ∧ x.path = y.path ∧ x.other = y.other ∧ x.n = y.n := by
  obtain ⟨a,b,c,d⟩ := x
  obtain ⟨a',b',c',d'⟩ := y
  simp
set_option maxRecDepth 100000 in
set_option maxHeartbeats 8000000 in
theorem planThere_L (l : List Int) (mask : Int) : LCalls Tryd.prog 5 [intsL l,intL mask] (boolL true) := by
  have hm := make_may (l.map uN)
  obtain ⟨hs,hp1,hp2,hp3,hp4⟩ := mayT_smallZ hm
  have c1 := make_L l
  have t0 := ztold_L
  generalize makeT fileU (l.map uN) = t at *
  have c2 := pall_L t hs [] (by decide)
  rw [planP_may hm] at c2
  have cM := rmayTree_L t hs
  rw [may_eq,hm] at cM
  have hrange := (mayT_valid hm).range
  simp only [treeL,intsL,strsL,stepsL,rowL,List.flatMap_nil,List.length_nil] at c1 c2 cM
  have hpt := plan_there hm (selM mask)
  have hA := planS_len hm hs []
  refine LCalls.of (fun _ => false) Tryd.func5 rfl (by decide) Tryd.ntmps5 Tryd.results5 (by simp) ?_
  intro w0 S0 vs hgl hwf0 hsz hvs;clear hsz hvs hwf0 hgl
  refine Yg1 (fa2 @intsL.eq_1 @rowL.eq_1) ?_
  refine Yr0 ?_;intro K hK
  refine Yc0 (c1) ?_
  refine hK _ ?_;clear hK K;try refine Wh0 ?_
  refine Yo0 ?_
  refine LW_nil (k := 6) (q := 1000) (e := 9) Yq0 ?_
  refine LW_slim (fun st => st.env 1 = intL mask ∧ st.env 5 = .ptr 5 0 ∧ st.box 5 = some (treeL t) ∧ st.env 6 = .sl 0 [] (.row 1000) ∧ st.row 1000 = some (9,0) ∧ st.mode = fun _ => false) ⟨Yq0,Yq0,(Yq1 @treeL.eq_1),Yq0,Yq0,Yq0⟩ ?_
  rintro st ⟨e1,e5,b5,e6,r1000,hmd⟩
  simp only [treeL] at b5
  refine Yg0 ?_
  refine LW_joinB (fun st => st.env 5 = .ptr 5 0 ∧ st.box 5 = some (treeL t) ∧ (∃ th,th = thereTo t (selM mask) t.ents.length ∧ th.length ≤ t.ents.length ∧ st.env 6 = .sl th.length (th.flatMap strE) (.row 1000)) ∧ st.env 7 = intL (dirsTo t (selM mask) t.ents.length) ∧ st.mode = fun _ => false) ?_ ?_
  · refine LW_loop (fun n st => ∃ (i : Nat) (th : List (List UInt8)),n + i = t.ents.length ∧ i ≠ 0 ∧ th = thereTo t (selM mask) i ∧ th.length ≤ i ∧ dirsTo t (selM mask) i ≤ i ∧ st.env 1 = intL mask ∧ st.env 5 = .ptr 5 0 ∧ st.box 5 = some (treeL t) ∧ st.env 6 = .sl th.length (th.flatMap strE) (.row 1000) ∧ st.row 1000 = some (9,th.length) ∧ st.env 7 = intL (dirsTo t (selM mask) i) ∧ st.env 8 = intL i ∧ st.mode = fun _ => false) (t.ents.length - 1) ⟨1,[],by omega,by omega,by simp [thereTo],by simp,by simp [dirsTo,sumTo],(Yq1 @e1),(Yq1 @e5),(Yq1 (fa2 @b5 @treeL.eq_1)),(Yq1 @e6),(Yq1 @r1000),by rw [show dirsTo t (selM mask) 1 = 0 by simp [dirsTo,sumTo]];exact Yq0,Yq0,(Yq1 @hmd)⟩ ?_
    clear e1 e5 b5 e6 r1000 hmd st
    rintro n st ⟨i,th,hn,h0,hth,hthl,hdl,e1,e5,b5,e6,r1000,e7,e8,hmd⟩
    simp only [treeL] at b5
    by_cases hlt : i < t.ents.length
    rotate_left
    · have hil : i = t.ents.length := by omega
      rw [hil] at hth e7
      refine Yg1 (fa4 @e5 @b5 @e8 @hlt) ?_
      refine Yf1 @hlt ?_
      refine LW_exit ?_;simp only [thenL,jumpsL,inBlockL,twoL,reduceIte,Nat.reduceEqDiff]
      exact ⟨(Yq1 @e5),(Yq1 (fa2 @b5 @treeL.eq_1)),⟨th,hth,by omega,(Yq1 @e6)⟩,(Yq1 @e7),(Yq1 @hmd)⟩
    obtain ⟨e,he⟩ := get_of_lt hlt
    have hr := hrange e (List.mem_of_getElem? he)
    obtain ⟨c,hc⟩ : ∃ c : Nat,e.node = (c : Int) := ⟨e.node.toNat,by omega⟩
    have hcn : c < t.nodes.length := by omega
    have hip : (0 : Int) ≤ (i : Int) := by omega
    have hc0 : (0 : Int) ≤ (c : Int) := by omega
    obtain ⟨nd,hnd⟩ := get_of_lt hcn
    have hG : nodeG t.nodes e.node = nd := by unfold nodeG;rw [hc,Int.toNat_natCast,hnd];rfl
    have hd := drop_tent he
    have hdn := drop_node hnd
    simp only [nodeL,attrsL,acesL,piecesL,rowL,List.cons_append,List.nil_append] at hdn
    rw [hc] at hd
    have hw := w64s (n := i) (by omega)
    have hsv : shV .shr .i64 mask (IntKind.u64.wrap (bits .and .i64 (i : Int) 31)) = some (.int .i64 (mask.fdiv (2 ^ (min (IntKind.u64.wrap (bits .and .i64 (i : Int) 31)).toNat IntKind.i64.bits)))) := by
      show (if _ < 0 then none else _) = _
      rw [if_neg (wrap_nn _)]
    have hS := thereTo_succ t (selM mask) h0
    have hD := dirsTo_succ t (selM mask) h0
    have hpI : pathI t.ents i = e.path := by unfold pathI;rw [he];rfl
    have hdI : isDirI t i = decide (nd.kind = 1) := by unfold isDirI;rw [he];simp only;rw [hG]
    rw [hpI,← hth] at hS
    rw [hdI] at hD
    have hfl := strE_flen th
    have hsn : (th ++ [e.path]).flatMap strE = th.flatMap strE ++ [strL e.path] ∧ (th ++ [e.path]).length = th.length + 1 := ⟨str_snoc th e.path,by simp⟩
    obtain ⟨s1,s2⟩ := hsn
    generalize dirsTo t (selM mask) i = dd at *
    generalize hdd : dirsTo t (selM mask) (i + 1) = dd' at *
    have hwd := w64s (n := dd) (by omega)
    refine Yg1 (fa4 @e5 @b5 @e8 @hlt) ?_
    refine Yt1 @hlt ?_
    by_cases hsel : shM mask i = 1
    rotate_left
    · have hse : selM mask i = false := by unfold selM;exact decide_eq_false hsel
      rw [hse] at hS hD
      rw [if_neg (by decide),List.append_nil] at hS
      rw [if_neg (fun hx => by cases hx.1)] at hD
      have hsel2 := hsel
      unfold shM at hsel2
      refine Yg1 (fa4 @e1 @e8 @hsv @hsel2) ?_
      refine Yf0 ?_
      refine Yg1 (fa2 @e8 @hw) ?_
      exact ⟨n - 1,by omega,i + 1,th,by omega,by omega,hS.symm,by omega,by rw [hdd];omega,(Yq1 @e1),(Yq1 @e5),(Yq1 (fa2 @b5 @treeL.eq_1)),(Yq1 @e6),(Yq1 @r1000),by rw [hdd,hD];exact (Yq1 @e7),(Yq1 @hw),(Yq1 @hmd)⟩
    have hse : selM mask i = true := by unfold selM;exact decide_eq_true hsel
    rw [hse] at hS hD
    rw [if_pos rfl] at hS
    have hsel2 := hsel
    unfold shM at hsel2
    refine Yg1 (fa4 @e1 @e8 @hsv @hsel2) ?_
    refine Yt0 ?_
    refine Yr1 (fa10 @e5 @b5 @e6 @r1000 @e8 @hmd @hlt @hip @hd @hfl) ?_;intro K hK
    refine ⟨by (repeat' apply And.intro) <;> first | omega | (unfold maxLen;omega) | (intro _;omega) | decide,?_⟩
    refine hK _ ?_;clear hK K;try refine Wh0 ?_
    by_cases k1 : nd.kind = 1
    · rw [if_pos ⟨rfl,decide_eq_true k1⟩] at hD
      refine Yn1 (fa11 @e5 @b5 @e8 @hmd @hlt @hip @hd @hc0 @hcn @hdn @k1) ?_;intro K hK
      refine hK _ ?_;clear hK K;try refine Wh0 ?_
      refine Yt0 ?_
      refine Yg1 (fa2 @e7 @hwd) ?_
      refine Yg1 (fa2 @e8 @hw) ?_
      exact ⟨n - 1,by omega,i + 1,th ++ [e.path],by omega,by omega,hS.symm,by rw [s2];omega,by rw [hdd];omega,(Yq1 @e1),(Yq1 @e5),(Yq1 (fa2 @b5 @treeL.eq_1)),by rw [s1,s2];exact Yq0,by rw [s2];exact Yq0,by rw [hdd,hD];exact (Yq1 @hwd),(Yq1 @hw),(Yq1 @hmd)⟩
    · have hk : ¬ (true = true ∧ decide (nd.kind = 1) = true) := fun hx => k1 (of_decide_eq_true hx.2)
      rw [if_neg hk] at hD
      refine Yn1 (fa11 @e5 @b5 @e8 @hmd @hlt @hip @hd @hc0 @hcn @hdn @k1) ?_;intro K hK
      refine hK _ ?_;clear hK K;try refine Wh0 ?_
      refine Yf0 ?_
      refine Yg1 (fa2 @e8 @hw) ?_
      exact ⟨n - 1,by omega,i + 1,th ++ [e.path],by omega,by omega,hS.symm,by rw [s2];omega,by rw [hdd];omega,(Yq1 @e1),(Yq1 @e5),(Yq1 (fa2 @b5 @treeL.eq_1)),by rw [s1,s2];exact Yq0,by rw [s2];exact Yq0,by rw [hdd,hD];exact (Yq1 @e7),(Yq1 @hw),(Yq1 @hmd)⟩
  clear e1 e5 b5 e6 r1000 hmd st
  rintro st ⟨e5,b5,⟨th,hth,hthl,e6⟩,e7,hmd⟩
  simp only [treeL] at b5
  have c3 := pall_L t hs th (by omega)
  rw [planP_may hm] at c3
  rw [← hth] at hpt
  have hB := planS_len hm hs th
  obtain ⟨hp5,hg⟩ := hpt
  simp only [treeL,strsL,stepsL,rowL] at c3
  generalize planS t [] = A at *
  generalize planS t th = B at *
  generalize dirsTo t (selM mask) t.ents.length = dd at *
  have hwl : IntKind.i64.wrap ((B.length : Int) + (dd : Int)) = (A.length : Int) := by rw [hp5];rw [show (B.length : Int) + (dd : Int) = ((B.length + dd : Nat) : Int) by omega];exact w64 (by omega)
  have hne : ¬ ¬ (A.length : Int) = (A.length : Int) := fun h => h rfl
  refine Yg0 ?_
  refine Yr1 (fa2 @e5 @b5) ?_;intro K hK
  refine Yc1 (c2) (fa2 @e5 @b5) ?_
  refine hK _ ?_;clear hK K;try refine Wh0 ?_
  refine Yr1 (fa3 @e5 @b5 @e6) ?_;intro K hK
  refine Yc1 (c3) (fa3 @e5 @b5 @e6) ?_
  refine hK _ ?_;clear hK K;try refine Wh0 ?_
  refine LW_slim (fun st => st.env 5 = .ptr 5 0 ∧ st.box 5 = some (treeL t) ∧ st.env 7 = intL dd ∧ st.env 9 = stepsL A ∧ st.env 10 = intL 0 ∧ st.env 11 = stepsL B ∧ st.env 12 = intL 0 ∧ st.mode = fun _ => false) ⟨(Yq1 @e5),(Yq1 (fa2 @b5 @treeL.eq_1)),(Yq1 @e7),(Yq1 (fa2 @stepsL.eq_1 @rowL.eq_1)),Yq0,(Yq1 (fa2 @stepsL.eq_1 @rowL.eq_1)),Yq0,(Yq1 @hmd)⟩ ?_
  clear e5 b5 e6 e7 hmd st
  rintro st ⟨e5,b5,e7,e9,e10,e11,e12,hmd⟩
  simp only [stepsL,rowL] at e9 e11
  refine Yg1 (fa6 @e7 @e9 @e10 @e11 @e12 @hwl) ?_
  refine Yf0 ?_
  refine Yg0 ?_
  refine LW_joinB (fun st => st.env 5 = .ptr 5 0 ∧ st.box 5 = some (treeL t) ∧ st.env 11 = stepsL B ∧ st.env 13 = intL B.length ∧ st.mode = fun _ => false) ?_ ?_
  rotate_left
  · clear e5 b5 e7 e9 e10 e11 e12 hmd st
    rintro st ⟨e5,b5,e11,e13,hmd⟩
    simp only [treeL] at b5
    simp only [stepsL,rowL] at e11
    refine Yr1 (fa4 @e5 @b5 @e11 @e13) ?_;intro K hK
    refine Yc1 (t0) (fa4 @e5 @b5 @e11 @e13) ?_
    refine Yc1 (cM) (fa4 @e5 @b5 @e11 @e13) ?_
    refine hK _ ?_;clear hK K;try refine Wh0 ?_
    refine Ye0 ?_;try (with_reducible exact trivial)
  refine LW_loop (fun n st => ∃ i j : Nat,n + i = A.length ∧ j ≤ B.length ∧ greedy (A.drop i) (B.drop j) = true ∧ st.env 5 = .ptr 5 0 ∧ st.box 5 = some (treeL t) ∧ st.env 9 = stepsL A ∧ st.env 11 = stepsL B ∧ st.env 13 = intL j ∧ st.env 14 = intL i ∧ st.mode = fun _ => false) A.length ⟨0,0,by omega,by omega,by simpa using hg,(Yq1 @e5),(Yq1 @b5),(Yq1 (fa3 @e9 @stepsL.eq_1 @rowL.eq_1)),(Yq1 (fa3 @e11 @stepsL.eq_1 @rowL.eq_1)),Yq0,Yq0,(Yq1 @hmd)⟩ ?_
  clear e5 b5 e7 e9 e10 e11 e12 hmd hg st
  rintro n st ⟨i,j,hn,hj,hg,e5,b5,e9,e11,e13,e14,hmd⟩
  simp only [stepsL,rowL] at e9 e11
  by_cases hltj : j < B.length
  rotate_left
  · have hjl : j = B.length := by omega
    rw [hjl] at e13
    have hnl : ¬ ((B.length : Int) < (B.length : Int)) := by omega
    by_cases hlti : i < A.length
    · refine Yg1 (fa6 @e9 @e11 @e13 @e14 @hlti @hnl) ?_
      refine Yf0 ?_
      refine LW_exit ?_;simp only [thenL,jumpsL,inBlockL,twoL,reduceIte,Nat.reduceEqDiff]
      exact ⟨(Yq1 @e5),(Yq1 @b5),(Yq1 (fa3 @e11 @stepsL.eq_1 @rowL.eq_1)),(Yq1 @e13),(Yq1 @hmd)⟩
    · refine Yg1 (fa6 @e9 @e11 @e13 @e14 @hlti @hnl) ?_
      refine Yf0 ?_
      refine LW_exit ?_;simp only [thenL,jumpsL,inBlockL,twoL,reduceIte,Nat.reduceEqDiff]
      exact ⟨(Yq1 @e5),(Yq1 @b5),(Yq1 (fa3 @e11 @stepsL.eq_1 @rowL.eq_1)),(Yq1 @e13),(Yq1 @hmd)⟩
  have hlti : i < A.length := by
    by_cases h : i < A.length
    · exact h
    · rw [List.drop_of_length_le (show A.length ≤ i by omega),List.drop_eq_getElem_cons hltj,greedy] at hg
      cases hg
  obtain ⟨x,hx⟩ := get_of_lt hlti
  obtain ⟨y,hy⟩ := get_of_lt hltj
  rw [greedy_drop hx hy] at hg
  have hdx := drop_step hx
  have hdy := drop_step hy
  have hip : (0 : Int) ≤ (i : Int) := by omega
  have hjp : (0 : Int) ≤ (j : Int) := by omega
  have hw := w64s (n := i) (by omega)
  have hwj := w64s (n := j) (by omega)
  refine Yg1 (fa6 @e9 @e11 @e13 @e14 @hlti @hltj) ?_
  refine Yt0 ?_
  refine Yg0 ?_
  by_cases hxy : x = y
  · subst hxy
    rw [if_pos rfl] at hg
    refine Yn1 (fa11 @e9 @e11 @e13 @e14 @hmd @hlti @hltj @hip @hjp @hdx @hdy) ?_;intro K hK
    refine hK _ ?_;clear hK K;try refine Wh0 ?_
    refine Yt0 ?_
    refine Yg1 (fa2 @e13 @hwj) ?_
    refine Yg1 (fa2 @e14 @hw) ?_
    exact ⟨n - 1,by omega,i + 1,j + 1,by omega,by omega,hg,(Yq1 @e5),(Yq1 @b5),(Yq1 (fa3 @e9 @stepsL.eq_1 @rowL.eq_1)),(Yq1 (fa3 @e11 @stepsL.eq_1 @rowL.eq_1)),(Yq1 @hwj),(Yq1 @hw),(Yq1 @hmd)⟩
  rw [if_neg hxy] at hg
  have hk1 : x.kind = 1 := by
    by_cases h : x.kind = 1
    · exact h
    · rw [if_neg h] at hg;cases hg
  rw [if_pos hk1] at hg
  have hb : (decide (x.kind = y.kind) && (decide (x.path = y.path) && (decide (x.other = y.other) && decide (x.n = y.n)))) = false := by
    cases h : (decide (x.kind = y.kind) && (decide (x.path = y.path) && (decide (x.other = y.other) && decide (x.n = y.n))))
    · rfl
    · simp only [Bool.and_eq_true,decide_eq_true_eq] at h
      exact absurd (step_ne.2 h) hxy
  refine Yn1 (fa12 @e9 @e11 @e13 @e14 @hmd @hlti @hltj @hip @hjp @hdx @hdy @hb) ?_;intro K hK
  refine hK _ ?_;clear hK K;try refine Wh0 ?_
  refine Yf0 ?_
  refine Yg1 (fa6 @e9 @e14 @hlti @hip @hdx @hk1) ?_
  refine Yf0 ?_
  refine Yg1 (fa2 @e14 @hw) ?_
  exact ⟨n - 1,by omega,i + 1,j,by omega,by omega,hg,(Yq1 @e5),(Yq1 @b5),(Yq1 (fa3 @e9 @stepsL.eq_1 @rowL.eq_1)),(Yq1 (fa3 @e11 @stepsL.eq_1 @rowL.eq_1)),(Yq1 @e13),(Yq1 @hw),(Yq1 @hmd)⟩
end Go.Proofs.YtbffcndmcaeamaaDoor
