import Derived.Test.YtpficpldemickaaKTN
import Derived.Test.YtpficpldemickaaKR5
import Derived.Test.YtpficpldemickaaIPart
set_option linter.unusedSimpArgs false
set_option linter.unusedVariables false
namespace Go.Proofs.Ytpficpldemickaa
open Nat renaming reduceAdd → zz1,reduceMul → zz2,reduceSub → zz3,reduceLT → zz4,reduceLeDiff → zz5,reduceEqDiff → zz6,reduceBEq → zzf
open Int renaming reduceAdd → zz7,reduceSub → zz8,reduceMul → zz9,reduceLT → zza,reduceLE → zzb,reduceEq → zzc,reduceNeg → zzd,reduceToNat → zze
open Go.RowKit Go.Proofs AclSpec MetaSpec NodeSpec PathSpec TreeSpec

theorem small_okLen {n : FNode} (h : small n) : okLen n := ⟨by have := h.1;unfold maxLen;omega,by have := h.2.1;unfold maxLen;omega,by have := h.2.2.1;unfold maxLen;omega⟩
theorem take_eq_succ {α : Type} {l m : List α} {i : Nat} {x : α} (hx : l[i]? = some x) (hy : m[i]? = some x) (h : l.take i = m.take i) : l.take (i + 1) = m.take (i + 1) := by
  obtain ⟨h1,h2⟩ := List.getElem?_eq_some_iff.1 hx
  obtain ⟨h3,h4⟩ := List.getElem?_eq_some_iff.1 hy
  rw [List.take_succ_eq_append_getElem h1,List.take_succ_eq_append_getElem h3,h,h2,h4]
set_option maxRecDepth 100000 in
theorem alike_L (a b : FTree) (ha : SmallT a) (hb : SmallT b) : LCalls Try.prog 21 [.agg (treeL a),.agg (treeL b)] (boolL (decide (a = b))) := by
  have l1 := ha.ents
  have l2 := ha.nodes
  have l3 := hb.ents
  have l4 := hb.nodes
  refine LCalls.of (fun _ => false) Try.func21 rfl (by decide) Try.ntmps21 Try.results21 (by simp) ?_
  intro w0 S0 vs hgl hwf0 hsz hvs;clear hsz hvs hwf0 hgl
  generalize hR : decide (a = b) = R
  by_cases h1 : a.ents.length = b.ents.length
  rotate_left
  · have h1i : ¬ ((a.ents.length : Int) = (b.ents.length : Int)) := by omega
    rw [decide_eq_false (by rintro rfl;exact h1 rfl)] at hR
    refine Yg1 (fa2 @treeL.eq_1 @h1i) ?_
    refine Yt0 ?_
    refine Yg0 ?_
    refine Ye0 ?_;try (with_reducible exact trivial)
    rw [← hR]
  by_cases h2 : a.nodes.length = b.nodes.length
  rotate_left
  · have h1i : ((a.ents.length : Int) = (b.ents.length : Int)) = True := eq_true (by omega)
    have h2i : ¬ ((a.nodes.length : Int) = (b.nodes.length : Int)) := by omega
    rw [decide_eq_false (by rintro rfl;exact h2 rfl)] at hR
    refine Yg1 (fa3 @treeL.eq_1 @h1i @h2i) ?_
    refine Yt0 ?_
    refine Yg0 ?_
    refine Ye0 ?_;try (with_reducible exact trivial)
    rw [← hR]
  have h1i : ((a.ents.length : Int) = (b.ents.length : Int)) = True := eq_true (by omega)
  have h2i : ((a.nodes.length : Int) = (b.nodes.length : Int)) = True := eq_true (by omega)
  refine Yg1 (fa3 @treeL.eq_1 @h1i @h2i) ?_
  refine Yf0 ?_
  refine Yg0 ?_
  refine LW_joinB (fun st => a.ents = b.ents ∧ st.env 2 = .ptr 2 0 ∧ st.box 2 = some (treeL a) ∧ st.env 3 = .ptr 3 0 ∧ st.box 3 = some (treeL b) ∧ st.mode = fun _ => false) ?_ ?_
  · refine LW_loop (fun n st => ∃ i : Nat,n + i = a.ents.length ∧ a.ents.take i = b.ents.take i ∧ st.env 2 = .ptr 2 0 ∧ st.box 2 = some (treeL a) ∧ st.env 3 = .ptr 3 0 ∧ st.box 3 = some (treeL b) ∧ st.env 5 = intL i ∧ st.mode = fun _ => false) a.ents.length ⟨0,by omega,rfl,Yq0,(Yq1 @treeL.eq_1),Yq0,(Yq1 @treeL.eq_1),Yq0,rfl⟩ ?_
    rintro n st ⟨i,hn,hp,e2,b2,e3,b3,e5,hmd⟩
    simp only [treeL] at b2 b3
    by_cases hlt : i < a.ents.length
    rotate_left
    · rw [List.take_of_length_le (by omega),List.take_of_length_le (by omega)] at hp
      refine Yg1 (fa4 @e2 @b2 @e5 @hlt) ?_
      refine Yf1 @hlt ?_
      refine LW_exit ?_;simp only [thenL,jumpsL,inBlockL,twoL,reduceIte,Nat.reduceEqDiff]
      exact ⟨hp,(Yq1 @e2),(Yq1 (fa2 @b2 @treeL.eq_1)),(Yq1 @e3),(Yq1 (fa2 @b3 @treeL.eq_1)),(Yq1 @hmd)⟩
    obtain ⟨x,hx⟩ := get_of_lt hlt
    have hltb : i < b.ents.length := by omega
    obtain ⟨y,hy⟩ := get_of_lt hltb
    have hdx := drop_tent hx
    have hdy := drop_tent hy
    have hip : (0 : Int) ≤ (i : Int) := by omega
    have hw := w64s (n := i) (by omega)
    refine Yg1 (fa4 @e2 @b2 @e5 @hlt) ?_
    refine Yt1 @hlt ?_
    refine LW_skip ?_
    simp only [LSj,reduceIte,zze]
    refine LW_seq ?_
    refine LW_block ?_
    have hex : x ≠ y → R = false := by
      intro c
      rw [← hR]
      apply decide_eq_false
      rintro rfl
      rw [hx] at hy
      exact c (Option.some.inj hy)
    by_cases p1 : x.path = y.path
    rotate_left
    · have := hex fun c => p1 (by rw [c])
      subst this
      refine Yn1 (fa12 @e2 @b2 @e3 @b3 @e5 @hlt @hltb @hip @hdx @hdy @p1 @hmd) ?_;intro K hK
      refine hK _ ?_;clear hK K;try refine Wh0 ?_
      refine Yt0 ?_
      refine Yg0 ?_
      refine Ye0 ?_;try (with_reducible exact trivial)
    by_cases p2 : x.node = y.node
    rotate_left
    · have := hex fun c => p2 (by rw [c])
      subst this
      have p1t : (x.path = y.path) = True := eq_true p1
      refine Yn1 (fa13 @e2 @b2 @e3 @b3 @e5 @hlt @hltb @hip @hdx @hdy @p1t @p2 @hmd) ?_;intro K hK
      refine hK _ ?_;clear hK K;try refine Wh0 ?_
      refine Yt0 ?_
      refine Yg0 ?_
      refine Ye0 ?_;try (with_reducible exact trivial)
    have p1t : (x.path = y.path) = True := eq_true p1
    have p2t : (x.node = y.node) = True := eq_true p2
    have hxy : x = y := by cases x;cases y;simp_all
    rw [← hxy] at hy
    refine Yn1 (fa13 @e2 @b2 @e3 @b3 @e5 @hlt @hltb @hip @hdx @hdy @p1t @p2t @hmd) ?_;intro K hK
    refine hK _ ?_;clear hK K;try refine Wh0 ?_
    refine Yf0 ?_
    refine Yg1 (fa2 @e5 @hw) ?_
    exact ⟨n - 1,by omega,i + 1,by omega,take_eq_succ hx hy hp,(Yq1 @e2),(Yq1 (fa2 @b2 @treeL.eq_1)),(Yq1 @e3),(Yq1 (fa2 @b3 @treeL.eq_1)),Yq0,(Yq1 @hmd)⟩
  rintro st ⟨he,e2,b2,e3,b3,hmd⟩
  refine Yg0 ?_
  refine LW_joinB (fun st => a.nodes = b.nodes) ?_ ?_
  · refine LW_loop (fun n st => ∃ i : Nat,n + i = a.nodes.length ∧ a.nodes.take i = b.nodes.take i ∧ st.env 2 = .ptr 2 0 ∧ st.box 2 = some (treeL a) ∧ st.env 3 = .ptr 3 0 ∧ st.box 3 = some (treeL b) ∧ st.env 6 = intL i ∧ st.mode = fun _ => false) a.nodes.length ⟨0,by omega,rfl,(Yq1 @e2),(Yq1 @b2),(Yq1 @e3),(Yq1 @b3),Yq0,(Yq1 @hmd)⟩ ?_
    clear e2 b2 e3 b3 hmd st
    rintro n st ⟨i,hn,hp,e2,b2,e3,b3,e6,hmd⟩
    simp only [treeL] at b2 b3
    by_cases hlt : i < a.nodes.length
    rotate_left
    · rw [List.take_of_length_le (by omega),List.take_of_length_le (by omega)] at hp
      refine Yg1 (fa4 @e2 @b2 @e6 @hlt) ?_
      refine Yf1 @hlt ?_
      refine LW_exit ?_;simp only [thenL,jumpsL,inBlockL,twoL,reduceIte,Nat.reduceEqDiff]
      exact hp
    obtain ⟨x,hx⟩ := get_of_lt hlt
    have hltb : i < b.nodes.length := by omega
    obtain ⟨y,hy⟩ := get_of_lt hltb
    have hdx := drop_node hx
    have hdy := drop_node hy
    have cs := rsameNode_L x y (small_okLen (ha.node x (List.mem_of_getElem? hx)).1) (small_okLen (hb.node y (List.mem_of_getElem? hy)).1)
    simp only [nodeL,attrsL,acesL,piecesL,rowL,List.cons_append,List.nil_append] at hdx hdy cs
    have hip : (0 : Int) ≤ (i : Int) := by omega
    have hw := w64s (n := i) (by omega)
    refine Yg1 (fa4 @e2 @b2 @e6 @hlt) ?_
    refine Yt1 @hlt ?_
    refine LW_skip ?_
    simp only [LSj,reduceIte,zze]
    refine LW_seq ?_
    refine LW_block ?_
    by_cases hxy : x = y
    · rw [decide_eq_true hxy] at cs
      refine Yn1 (fa11 @e2 @b2 @e3 @b3 @e6 @hlt @hltb @hip @hdx @hdy @hmd) ?_;intro K hK
      refine Yc1 (cs) (fa11 @e2 @b2 @e3 @b3 @e6 @hlt @hltb @hip @hdx @hdy @hmd) ?_
      refine hK _ ?_;clear hK K;try refine Wh0 ?_
      refine Yf0 ?_
      refine Yg1 (fa2 @e6 @hw) ?_
      rw [← hxy] at hy
      exact ⟨n - 1,by omega,i + 1,by omega,take_eq_succ hx hy hp,(Yq1 @e2),(Yq1 (fa2 @b2 @treeL.eq_1)),(Yq1 @e3),(Yq1 (fa2 @b3 @treeL.eq_1)),Yq0,(Yq1 @hmd)⟩
    · rw [decide_eq_false hxy] at cs
      have : R = false := by
        rw [← hR]
        apply decide_eq_false
        rintro rfl
        rw [hx] at hy
        exact hxy (Option.some.inj hy)
      subst this
      refine Yn1 (fa11 @e2 @b2 @e3 @b3 @e6 @hlt @hltb @hip @hdx @hdy @hmd) ?_;intro K hK
      refine Yc1 (cs) (fa11 @e2 @b2 @e3 @b3 @e6 @hlt @hltb @hip @hdx @hdy @hmd) ?_
      refine hK _ ?_;clear hK K;try refine Wh0 ?_
      refine Yt0 ?_
      refine Yg0 ?_
      refine Ye0 ?_;try (with_reducible exact trivial)
  rintro st hns
  have : a = b := by cases a;cases b;simp_all
  rw [decide_eq_true this] at hR
  refine Yg0 ?_
  refine Ye0 ?_;try (with_reducible exact trivial)
  rw [← hR]

set_option maxRecDepth 100000 in
theorem runder_L (s t : List UInt8) (hs : s.length < 1000000) (ht : t.length < 1000000) : LCalls Try.prog 40 [strL s,strL t] (boolL (underB s t)) := by
  have c1 := rpmay_L s hs
  have c2 := rpmay_L t ht
  refine LCalls.of (fun _ => false) Try.func40 rfl (by decide) Try.ntmps40 Try.results40 (by simp) ?_
  intro w0 S0 vs hgl hwf0 hsz hvs;clear hsz hvs hwf0 hgl
  generalize hR : underB s t = R
  unfold underB at hR
  refine Yg0 ?_
  cases h1 : mayB s
  · rw [h1] at c1 hR
    refine Yr0 ?_;intro K hK
    refine Yc0 (c1) ?_
    refine hK _ ?_;clear hK K;try refine Wh0 ?_
    refine Yt0 ?_
    refine Yg0 ?_
    refine Ye0 ?_;try (with_reducible exact trivial)
    rw [← hR];rfl
  rw [h1] at c1 hR
  cases h2 : mayB t
  · rw [h2] at c2 hR
    refine Yr0 ?_;intro K hK
    refine Yc0 (c1) ?_
    refine Yc0 (c2) ?_
    refine hK _ ?_;clear hK K;try refine Wh0 ?_
    refine Yt0 ?_
    refine Yg0 ?_
    refine Ye0 ?_;try (with_reducible exact trivial)
    rw [← hR];rfl
  rw [h2] at c2 hR
  refine Yr0 ?_;intro K hK
  refine Yc0 (c1) ?_
  refine Yc0 (c2) ?_
  refine hK _ ?_;clear hK K;try refine Wh0 ?_
  refine Yf0 ?_
  simp only [Bool.true_and] at hR
  by_cases h0 : t = []
  · have : R = true := by rw [← hR,h0];rfl
    subst this
    refine Yg1 @h0 ?_
    refine Ye0 ?_;try (with_reducible exact trivial)
  have hte : t.isEmpty = false := by cases t <;> simp_all
  rw [hte,Bool.false_or] at hR
  by_cases h3 : s = t
  · have : R = true := by rw [← hR,h3];simp
    subst this
    have h3t : (s = t) = True := eq_true h3
    refine Yg1 (fa2 @h0 @h3t) ?_
    refine Ye0 ?_;try (with_reducible exact trivial)
  have hse : (s == t) = false := by simpa using h3
  rw [hse,Bool.false_or] at hR
  by_cases h4 : t.length < s.length
  rotate_left
  · rw [under_short s t h4] at hR
    subst hR
    have h4i : ¬ ((t.length : Int) < (s.length : Int)) := by omega
    refine Yg1 (fa4 @h0 @h3 @h4i @h4) ?_
    refine Ye0 ?_;try (with_reducible exact trivial)
  rw [under_pre s t h4] at hR
  have h4i : ((t.length : Int) < (s.length : Int)) = True := eq_true (by omega)
  have h4l : ((t.length : Int) ≤ (s.length : Int)) = True := eq_true (by omega)
  have h4m : (t.length ≤ s.length) = True := eq_true (by omega)
  have h4n : (t.length < s.length) = True := eq_true h4
  by_cases h5 : s.take t.length = t
  rotate_left
  · have : R = false := by rw [← hR];simp [h5]
    subst this
    refine Yg1 (fa7 @h0 @h3 @h4i @h4l @h4m @h4n @h5) ?_
    refine Ye0 ?_;try (with_reducible exact trivial)
  have h5t : (s.take t.length = t) = True := eq_true h5
  have hg := List.getElem?_eq_getElem h4
  by_cases h6 : s[t.length] = 47
  · have : R = true := by rw [← hR,h6];simp [h5]
    subst this
    have h6i : ((s[t.length].toNat : Int) = 47) = True := eq_true (by rw [h6];rfl)
    refine Yg1 (fa9 @h0 @h3 @h4i @h4l @h4m @h4n @h5t @hg @h6i) ?_
    refine Ye0 ?_;try (with_reducible exact trivial)
  · have : R = false := by rw [← hR];simp [h6]
    subst this
    have h6i : ¬ ((s[t.length].toNat : Int) = 47) := fun c => h6 (by apply UInt8.toNat_inj.1;rw [show (47 : UInt8).toNat = 47 from rfl];omega)
    refine Yg1 (fa9 @h0 @h3 @h4i @h4l @h4m @h4n @h5t @hg @h6i) ?_
    refine Ye0 ?_;try (with_reducible exact trivial)
end Go.Proofs.Ytpficpldemickaa
