import Derived.Test.YtpficpldemickaaKTP
import Derived.Test.YtpficpldemickaaKTM
set_option linter.unusedSimpArgs false
set_option linter.unusedVariables false
namespace Go.Proofs.Ytpficpldemickaa
open Nat renaming reduceAdd → zz1,reduceMul → zz2,reduceSub → zz3,reduceLT → zz4,reduceLeDiff → zz5,reduceEqDiff → zz6,reduceBEq → zzf
open Int renaming reduceAdd → zz7,reduceSub → zz8,reduceMul → zz9,reduceLT → zza,reduceLE → zzb,reduceEq → zzc,reduceNeg → zzd,reduceToNat → zze
open Op renaming operands → zo
open Call renaming operands → zc
open Go.RowKit Go.Proofs AclSpec MetaSpec NodeSpec PathSpec TreeSpec

theorem ordG_len {ns : List FNode} : ∀ {l : List TEnt} {p : Option (List UInt8)} {used : Nat},ordG ns p used l = true → ns.length ≤ used + l.length
  | [],_,used,h => by
    unfold ordG at h
    have := of_decide_eq_true h
    simp;omega
  | e :: l,p,used,h => by
    unfold ordG at h
    rw [Bool.and_eq_true] at h
    have := ordG_len h.2
    have hu : nextU used e ≤ used + 1 := by unfold nextU;split <;> omega
    rw [List.length_cons];omega
theorem ordG_nodes {ns : List FNode} : ∀ {l : List TEnt} {p : Option (List UInt8)} {used : Nat},ordG ns p used l = true → ∀ k : Nat,used ≤ k → k < ns.length → mayAt ns k = true
  | [],p,used,h,k,h1,h2 => by
    unfold ordG at h
    have := of_decide_eq_true h
    omega
  | e :: l,p,used,h,k,h1,h2 => by
    unfold ordG at h
    rw [Bool.and_eq_true] at h
    have h3 := h.1
    rw [entOk_head] at h3
    simp only [Bool.and_eq_true,Bool.or_eq_true,Bool.not_eq_true',decide_eq_false_iff_not] at h3
    by_cases c : k = used ∧ e.node = used
    · rcases h3.2 with d | d
      · exact absurd c.2 d
      · rw [c.1];exact d
    · refine ordG_nodes h.2 k ?_ h2
      unfold nextU
      split
      · rename_i d
        have : k ≠ used := fun x => c ⟨x,d⟩
        omega
      · exact h1
theorem mayT_small {t : FTree} (h : mayT t = true) : SmallT t ∧ 1 ≤ t.ents.length ∧ t.ents.length ≤ 100 ∧ 1 ≤ t.nodes.length ∧ t.nodes.length ≤ 100 := by
  have ho := mayT_ord h
  have hl := ordG_len ho
  have hv := mayT_valid h
  have hr := hv.rise
  have hrg := hv.range
  obtain ⟨e,r,he,_⟩ := hv.head
  have h2 : t.ents.length ≤ 100 := by
    unfold mayT at h
    simp only [Bool.and_eq_true,decide_eq_true_eq] at h
    exact h.1.1.1.2
  have h1 : 1 ≤ t.ents.length := by rw [he];simp
  refine ⟨⟨by omega,by omega,fun e he => ?_,fun n hn => ?_⟩,h1,h2,?_,by omega⟩
  · have := may_len (hr.2 e he);omega
  · obtain ⟨k,hk⟩ := List.mem_iff_getElem?.1 hn
    have hkl := (List.getElem?_eq_some_iff.1 hk).1
    have := ordG_nodes ho k (by omega) hkl
    rw [mayAt_get hk] at this
    obtain ⟨a1,a2⟩ := mayN_small this
    exact ⟨a1,by unfold maxLen;omega⟩
  · have := hrg e (by rw [he];simp)
    omega
theorem part_small {t : FTree} (h : SmallT t) (q : List UInt8) : SmallT (partU t q) := by
  refine ⟨?_,h.nodes,fun e he => h.path e (List.mem_filter.1 he).1,h.node⟩
  have := List.length_filter_le (keepE q) t.ents
  have := h.ents
  show (t.ents.filter (keepE q)).length ≤ _
  omega
theorem filter_succ {l : List TEnt} {i : Nat} {e : TEnt} (p : TEnt → Bool) (h : l[i]? = some e) : (l.take (i + 1)).filter p = (l.take i).filter p ++ (if p e then [e] else []) := by
  obtain ⟨hi,rfl⟩ := List.getElem?_eq_some_iff.1 h
  rw [List.take_succ_eq_append_getElem hi,List.filter_append]
  congr 1
  by_cases hp : p l[i] = true <;> simp [hp]
set_option maxRecDepth 100000 in
theorem rpartOf_L (t : FTree) (hv : mayT t = true) (q : List UInt8) (hq : (findT t.ents q).2 = true) (hql : q.length < 1000000) : LCalls Try.prog 22 [.agg (treeL t),.sl 1 [strL q] .no] (.tup [.agg (treeL (normTree (partU t q)).1),intL (normTree (partU t q)).2]) := by
  obtain ⟨h,hl1,hl,_⟩ := mayT_small hv
  have cM := rmayTree_L t h
  rw [may_eq,hv] at cM
  have cF := rfind_L t h q
  rw [hq] at cF
  have cn := rnormTree_L (partU t q) (part_small h q)
  simp only [treeL,partU] at cM cF cn
  refine LCalls.of (fun _ => false) Try.func22 rfl (by decide) Try.ntmps22 Try.results22 (by simp) ?_
  intro w0 S0 vs hgl hwf0 hsz hvs;clear hsz hvs hwf0 hgl
  generalize hR : normTree (partU t q) = R
  simp only [partU] at hR
  rw [hR] at cn
  refine Yg1 @treeL.eq_1 ?_
  refine Yr0 ?_;intro K hK
  refine Yc0 (cM) ?_
  refine hK _ ?_;clear hK K;try refine Wh0 ?_
  refine Yf0 ?_
  refine Yg0 ?_
  refine LW_joinB (fun st => st.env 1 = .sl 1 [strL q] .no ∧ st.env 2 = .ptr 2 0 ∧ st.box 2 = some (treeL t) ∧ st.env 4 = .ptr 4 0 ∧ st.box 4 = some [.sl 0 [] .nil,.sl 0 [] .nil] ∧ st.mode = fun _ => false) ?_ ?_
  · refine LW_loop (fun n st => ∃ i : Nat,n + i = 1 ∧ st.env 1 = .sl 1 [strL q] .no ∧ st.env 2 = .ptr 2 0 ∧ st.box 2 = some (treeL t) ∧ st.env 4 = .ptr 4 0 ∧ st.box 4 = some [.sl 0 [] .nil,.sl 0 [] .nil] ∧ st.env 6 = intL i ∧ st.mode = fun _ => false) 1 ⟨0,by omega,Yq0,Yq0,(Yq1 @treeL.eq_1),Yq0,Yq0,Yq0,rfl⟩ ?_
    rintro n st ⟨i,hn,e1,e2,b2,e4,b4,e6,hmd⟩
    simp only [treeL] at b2
    rcases (show i = 0 ∨ i = 1 by omega) with rfl | rfl
    rotate_left
    · refine Yg1 (fa2 @e1 @e6) ?_
      refine Yf0 ?_
      refine LW_exit ?_;simp only [thenL,jumpsL,inBlockL,twoL,reduceIte,Nat.reduceEqDiff]
      exact ⟨(Yq1 @e1),(Yq1 @e2),(Yq1 (fa2 @b2 @treeL.eq_1)),(Yq1 @e4),(Yq1 @b4),(Yq1 @hmd)⟩
    refine Yg1 (fa2 @e1 @e6) ?_
    refine Yt0 ?_
    refine LW_skip ?_
    simp only [LSj,reduceIte,zze]
    refine LW_seq ?_
    refine LW_block ?_
    refine Yn1 (fa5 @e1 @e2 @b2 @e6 @hmd) ?_;intro K hK
    refine Yc1 (cF) (fa5 @e1 @e2 @b2 @e6 @hmd) ?_
    refine hK _ ?_;clear hK K;try refine Wh0 ?_
    refine Yg0 ?_
    refine Yf0 ?_
    refine Yg1 @e6 ?_
    exact ⟨0,by omega,1,by omega,(Yq1 @e1),(Yq1 @e2),(Yq1 (fa2 @b2 @treeL.eq_1)),(Yq1 @e4),(Yq1 @b4),Yq0,(Yq1 @hmd)⟩
  rintro st ⟨e1,e2,b2,e4,b4,hmd⟩
  simp only [treeL] at b2
  (repeat refine LW_seq ?_)
  refine LW_join (fun st => st.env 1 = .sl 1 [strL q] .no ∧ st.env 2 = .ptr 2 0 ∧ st.box 2 = some (treeL t) ∧ st.env 4 = .ptr 4 0 ∧ st.box 4 = some [.sl 0 [] .nil,.sl 0 [] .nil] ∧ st.env 9 = .ptr 9 0 ∧ st.box 9 = some [.sl 0 [] .nil,.sl t.nodes.length (t.nodes.flatMap nodeL) .no] ∧ st.mode = fun _ => false) ?_ ?_
  · refine Yg1 (fa2 @e2 @b2) ?_
    exact ⟨(Yq1 @e1),(Yq1 @e2),(Yq1 (fa2 @b2 @treeL.eq_1)),(Yq1 @e4),(Yq1 @b4),Yq0,Yq0,(Yq1 @hmd)⟩
  clear e1 e2 b2 e4 b4 hmd st
  rintro st ⟨e1,e2,b2,e4,b4,e9,b9,hmd⟩
  refine LW_nilBox (cs := [.sl 0 [] .nil,.sl t.nodes.length (t.nodes.flatMap nodeL) .no]) 9 0 1000 46 (Yq1 @b9) rfl ?_
  refine LW_slim (fun st => st.env 1 = .sl 1 [strL q] .no ∧ st.env 2 = .ptr 2 0 ∧ st.box 2 = some (treeL t) ∧ st.env 4 = .ptr 4 0 ∧ st.box 4 = some [.sl 0 [] .nil,.sl 0 [] .nil] ∧ st.env 9 = .ptr 9 0 ∧ st.box 9 = some [.sl 0 [] (.row 1000),.sl t.nodes.length (t.nodes.flatMap nodeL) .no] ∧ st.row 1000 = some (46,0) ∧ st.mode = fun _ => false) ⟨(Yq1 @e1),(Yq1 @e2),(Yq1 (fa2 @b2 @treeL.eq_1)),(Yq1 @e4),(Yq1 @b4),(Yq1 @e9),Yq0,Yq0,(Yq1 @hmd)⟩ ?_
  clear e1 e2 b2 e4 b4 e9 b9 hmd st
  rintro st ⟨e1,e2,b2,e4,b4,e9,b9,r9,hmd⟩
  refine Yg0 ?_
  refine LW_joinB (fun st => st.env 4 = .ptr 4 0 ∧ st.box 4 = some [.sl 0 [] .nil,.sl 0 [] .nil] ∧ st.env 9 = .ptr 9 0 ∧ st.box 9 = some [.sl (t.ents.filter (keepE q)).length ((t.ents.filter (keepE q)).flatMap tentL) (.row 1000),.sl t.nodes.length (t.nodes.flatMap nodeL) .no] ∧ st.mode = fun _ => false) ?_ ?_
  · refine LW_loop (fun n st => ∃ i : Nat,n + i = t.ents.length ∧ st.env 1 = .sl 1 [strL q] .no ∧ st.env 2 = .ptr 2 0 ∧ st.box 2 = some (treeL t) ∧ st.env 4 = .ptr 4 0 ∧ st.box 4 = some [.sl 0 [] .nil,.sl 0 [] .nil] ∧ st.env 9 = .ptr 9 0 ∧ st.box 9 = some [.sl ((t.ents.take i).filter (keepE q)).length (((t.ents.take i).filter (keepE q)).flatMap tentL) (.row 1000),.sl t.nodes.length (t.nodes.flatMap nodeL) .no] ∧ st.row 1000 = some (46,((t.ents.take i).filter (keepE q)).length) ∧ st.env 10 = intL i ∧ st.mode = fun _ => false) t.ents.length ⟨0,by omega,(Yq1 @e1),(Yq1 @e2),(Yq1 @b2),(Yq1 @e4),(Yq1 @b4),(Yq1 @e9),(Yq1 @b9),(Yq1 @r9),Yq0,(Yq1 @hmd)⟩ ?_
    clear e1 e2 b2 e4 b4 e9 b9 r9 hmd st
    rintro n st ⟨i,hn,e1,e2,b2,e4,b4,e9,b9,r9,e10,hmd⟩
    simp only [treeL] at b2
    by_cases hlt : i < t.ents.length
    rotate_left
    · rw [List.take_of_length_le (by omega)] at b9
      refine Yg1 (fa4 @e2 @b2 @e10 @hlt) ?_
      refine Yf1 @hlt ?_
      refine LW_exit ?_;simp only [thenL,jumpsL,inBlockL,twoL,reduceIte,Nat.reduceEqDiff]
      exact ⟨(Yq1 @e4),(Yq1 @b4),(Yq1 @e9),(Yq1 @b9),(Yq1 @hmd)⟩
    obtain ⟨e,he⟩ := get_of_lt hlt
    have hd := drop_tent he
    have hip : (0 : Int) ≤ (i : Int) := by omega
    have hw := w64s (n := i) (by omega)
    have hel := h.path e (List.mem_of_getElem? he)
    have c1 := runder_L e.path q hel hql
    have c2 := runder_L q e.path hql hel
    have hfs := filter_succ (keepE q) he
    have hfl : ((t.ents.take i).filter (keepE q)).length ≤ 100 := by
      have := List.length_filter_le (keepE q) (t.ents.take i)
      rw [List.length_take] at this;omega
    generalize (t.ents.take i).filter (keepE q) = F at *
    refine Yg1 (fa4 @e2 @b2 @e10 @hlt) ?_
    refine Yt1 @hlt ?_
    refine LW_skip ?_
    simp only [LSj,reduceIte,zze]
    refine LW_seq ?_
    refine LW_block ?_
    refine LW_joinB (fun st => st.env 1 = .sl 1 [strL q] .no ∧ st.env 2 = .ptr 2 0 ∧ st.box 2 = some (treeL t) ∧ st.env 4 = .ptr 4 0 ∧ st.box 4 = some [.sl 0 [] .nil,.sl 0 [] .nil] ∧ st.env 9 = .ptr 9 0 ∧ st.box 9 = some [.sl ((t.ents.take (i + 1)).filter (keepE q)).length (((t.ents.take (i + 1)).filter (keepE q)).flatMap tentL) (.row 1000),.sl t.nodes.length (t.nodes.flatMap nodeL) .no] ∧ st.row 1000 = some (46,((t.ents.take (i + 1)).filter (keepE q)).length) ∧ st.env 10 = intL i ∧ st.mode = fun _ => false) ?_ ?_
    rotate_left
    · clear e1 e2 b2 e4 b4 e9 b9 r9 e10 hmd st
      rintro st ⟨e1,e2,b2,e4,b4,e9,b9,r9,e10,hmd⟩
      refine Yg1 (fa2 @e10 @hw) ?_
      exact ⟨n - 1,by omega,i + 1,by omega,(Yq1 @e1),(Yq1 @e2),(Yq1 @b2),(Yq1 @e4),(Yq1 @b4),(Yq1 @e9),(Yq1 @b9),(Yq1 @r9),Yq0,(Yq1 @hmd)⟩
    refine Yg1 (fa6 @e2 @b2 @e10 @hip @hlt @hd) ?_
    refine LW_slim (fun st => st.env 1 = .sl 1 [strL q] .no ∧ st.env 2 = .ptr 2 0 ∧ st.box 2 = some (treeL t) ∧ st.env 4 = .ptr 4 0 ∧ st.box 4 = some [.sl 0 [] .nil,.sl 0 [] .nil] ∧ st.env 9 = .ptr 9 0 ∧ st.box 9 = some [.sl F.length (F.flatMap tentL) (.row 1000),.sl t.nodes.length (t.nodes.flatMap nodeL) .no] ∧ st.row 1000 = some (46,F.length) ∧ st.env 10 = intL i ∧ st.env 11 = strL e.path ∧ st.env 12 = boolL (decide (e.path = [])) ∧ st.env 13 = intL 0 ∧ st.mode = fun _ => false) ⟨(Yq1 @e1),(Yq1 @e2),(Yq1 (fa2 @b2 @treeL.eq_1)),(Yq1 @e4),(Yq1 @b4),(Yq1 @e9),(Yq1 @b9),(Yq1 @r9),(Yq1 @e10),Yq0,Yq0,Yq0,(Yq1 @hmd)⟩ ?_
    clear e1 e2 b2 e4 b4 e9 b9 r9 e10 hmd st
    rintro st ⟨e1,e2,b2,e4,b4,e9,b9,r9,e10,e11,e12,e13,hmd⟩
    refine LW_joinB (fun st => st.env 1 = .sl 1 [strL q] .no ∧ st.env 2 = .ptr 2 0 ∧ st.box 2 = some (treeL t) ∧ st.env 4 = .ptr 4 0 ∧ st.box 4 = some [.sl 0 [] .nil,.sl 0 [] .nil] ∧ st.env 9 = .ptr 9 0 ∧ st.box 9 = some [.sl F.length (F.flatMap tentL) (.row 1000),.sl t.nodes.length (t.nodes.flatMap nodeL) .no] ∧ st.row 1000 = some (46,F.length) ∧ st.env 10 = intL i ∧ st.env 12 = boolL (keepE q e) ∧ st.mode = fun _ => false) ?_ ?_
    · refine LW_loop (fun n st => ∃ k : Nat,n + k = 1 ∧ st.env 1 = .sl 1 [strL q] .no ∧ st.env 2 = .ptr 2 0 ∧ st.box 2 = some (treeL t) ∧ st.env 4 = .ptr 4 0 ∧ st.box 4 = some [.sl 0 [] .nil,.sl 0 [] .nil] ∧ st.env 9 = .ptr 9 0 ∧ st.box 9 = some [.sl F.length (F.flatMap tentL) (.row 1000),.sl t.nodes.length (t.nodes.flatMap nodeL) .no] ∧ st.row 1000 = some (46,F.length) ∧ st.env 10 = intL i ∧ st.env 11 = strL e.path ∧ st.env 12 = boolL (if k = 0 then decide (e.path = []) else keepE q e) ∧ st.env 13 = intL k ∧ st.mode = fun _ => false) 1 ⟨0,by omega,(Yq1 @e1),(Yq1 @e2),(Yq1 @b2),(Yq1 @e4),(Yq1 @b4),(Yq1 @e9),(Yq1 @b9),(Yq1 @r9),(Yq1 @e10),(Yq1 @e11),(Yq1 @e12),(Yq1 @e13),(Yq1 @hmd)⟩ ?_
      clear e1 e2 b2 e4 b4 e9 b9 r9 e10 e11 e12 e13 hmd st
      rintro n2 st ⟨k,hn2,e1,e2,b2,e4,b4,e9,b9,r9,e10,e11,e12,e13,hmd⟩
      rcases (show k = 0 ∨ k = 1 by omega) with rfl | rfl
      rotate_left
      · refine Yg1 (fa2 @e1 @e13) ?_
        refine Yf0 ?_
        refine LW_exit ?_;simp only [thenL,jumpsL,inBlockL,twoL,reduceIte,Nat.reduceEqDiff]
        exact ⟨(Yq1 @e1),(Yq1 @e2),(Yq1 @b2),(Yq1 @e4),(Yq1 @b4),(Yq1 @e9),(Yq1 @b9),(Yq1 @r9),(Yq1 @e10),(Yq1 @e12),(Yq1 @hmd)⟩
      rw [if_pos rfl] at e12
      refine Yg1 (fa2 @e1 @e13) ?_
      refine Yt0 ?_
      refine LW_skip ?_
      simp only [LSj,reduceIte,zze]
      refine LW_seq ?_
      refine LW_block ?_
      refine LW_joinB (fun st => st.env 1 = .sl 1 [strL q] .no ∧ st.env 2 = .ptr 2 0 ∧ st.box 2 = some (treeL t) ∧ st.env 4 = .ptr 4 0 ∧ st.box 4 = some [.sl 0 [] .nil,.sl 0 [] .nil] ∧ st.env 9 = .ptr 9 0 ∧ st.box 9 = some [.sl F.length (F.flatMap tentL) (.row 1000),.sl t.nodes.length (t.nodes.flatMap nodeL) .no] ∧ st.row 1000 = some (46,F.length) ∧ st.env 10 = intL i ∧ st.env 11 = strL e.path ∧ st.env 12 = boolL (keepE q e) ∧ st.env 13 = intL 0 ∧ st.mode = fun _ => false) ?_ ?_
      rotate_left
      · clear e1 e2 b2 e4 b4 e9 b9 r9 e10 e11 e12 e13 hmd st
        rintro st ⟨e1,e2,b2,e4,b4,e9,b9,r9,e10,e11,e12,e13,hmd⟩
        refine Yg1 @e13 ?_
        exact ⟨0,by omega,1,by omega,(Yq1 @e1),(Yq1 @e2),(Yq1 @b2),(Yq1 @e4),(Yq1 @b4),(Yq1 @e9),(Yq1 @b9),(Yq1 @r9),(Yq1 @e10),(Yq1 @e11),(Yq1 @e12),Yq0,(Yq1 @hmd)⟩
      have hK : keepE q e = (decide (e.path = []) || underB e.path q || underB q e.path) := rfl
      by_cases hp : e.path = []
      · rw [decide_eq_true hp] at hK e12
        rw [hK]
        refine Yg1 (fa4 @e1 @e11 @e12 @e13) ?_
        exact ⟨(Yq1 @e1),(Yq1 @e2),(Yq1 @b2),(Yq1 @e4),(Yq1 @b4),(Yq1 @e9),(Yq1 @b9),(Yq1 @r9),(Yq1 @e10),(Yq1 @e11),Yq0,(Yq1 @e13),(Yq1 @hmd)⟩
      rw [decide_eq_false hp] at hK e12
      cases hu1 : underB e.path q
      rotate_left
      · rw [hu1] at c1 hK
        rw [hK]
        refine Yr1 (fa4 @e1 @e11 @e12 @e13) ?_;intro K hK
        refine Yc1 (c1) (fa4 @e1 @e11 @e12 @e13) ?_
        refine hK _ ?_;clear hK K;try refine Wh0 ?_
        exact ⟨(Yq1 @e1),(Yq1 @e2),(Yq1 @b2),(Yq1 @e4),(Yq1 @b4),(Yq1 @e9),(Yq1 @b9),(Yq1 @r9),(Yq1 @e10),(Yq1 @e11),Yq0,(Yq1 @e13),(Yq1 @hmd)⟩
      rw [hu1] at c1 hK
      cases hu2 : underB q e.path
      all_goals
        rw [hu2] at c2 hK
        rw [hK]
        refine Yr1 (fa4 @e1 @e11 @e12 @e13) ?_;intro K hK
        refine Yc1 (c1) (fa4 @e1 @e11 @e12 @e13) ?_
        refine Yc1 (c2) (fa4 @e1 @e11 @e12 @e13) ?_
        refine hK _ ?_;clear hK K;try refine Wh0 ?_
        exact ⟨(Yq1 @e1),(Yq1 @e2),(Yq1 @b2),(Yq1 @e4),(Yq1 @b4),(Yq1 @e9),(Yq1 @b9),(Yq1 @r9),(Yq1 @e10),(Yq1 @e11),Yq0,(Yq1 @e13),(Yq1 @hmd)⟩
    clear e1 e2 b2 e4 b4 e9 b9 r9 e10 e11 e12 e13 hmd st
    rintro st ⟨e1,e2,b2,e4,b4,e9,b9,r9,e10,e12,hmd⟩
    rw [hfs]
    refine Yg1 @e12 ?_
    cases hK : keepE q e
    · refine Yf1 @hK ?_
      simp only [Bool.false_eq_true,if_false,List.append_nil]
      exact ⟨(Yq1 @e1),(Yq1 @e2),(Yq1 @b2),(Yq1 @e4),(Yq1 @b4),(Yq1 @e9),(Yq1 @b9),(Yq1 @r9),(Yq1 @e10),(Yq1 @hmd)⟩
    · refine Yt1 @hK ?_
      simp only [treeL] at b2
      have hfe := tentL_flen F
      (repeat (first | refine LW_seq ?_ | (refine LW_skip ?_;simp only [LSj,reduceIte,zze]) | refine LW_block ?_));refine LW_mix2 [] [] (fun _ => false) [(0,[9,1000]),(1,[9,1000]),(2,[2]),(3,[2]),(4,[]),(5,[]),(6,[]),(7,[9,1000,2]),(8,[9,2]),(9,[9,2]),(10,[2])] [0,1,2,3,4,5,6] [[7,8,9,10]] rfl (by kernel_rfl) (by kernel_rfl) (by kernel_rfl) (by first | exact rfl | exact hmd | simp only [LZ,zo,zc,reduceCtorEq,reduceIte,zz1,zz2,zz3,zz4,zz5,zz6,zz7,zz8,zz9,zza,zzb,zzc,zzd,zze,zzf,e2,b2,e9,b9,r9,e10,hmd,hip,hlt,hd,hfe]) ?_;intro K hK;simp only [LZ,zo,zc,reduceCtorEq,reduceIte,zz1,zz2,zz3,zz4,zz5,zz6,zz7,zz8,zz9,zza,zzb,zzc,zzd,zze,zzf,e2,b2,e9,b9,r9,e10,hmd,hip,hlt,hd,hfe]
      refine ⟨by (repeat' apply And.intro) <;> first | omega | (unfold maxLen;omega) | (intro _;omega) | decide,?_⟩
      refine hK _ ?_;clear hK K;try refine Wh0 ?_
      exact ⟨(Yq1 @e1),(Yq1 @e2),(Yq1 (fa2 @b2 @treeL.eq_1)),(Yq1 @e4),(Yq1 @b4),(Yq1 @e9),by rw [List.length_append,List.length_singleton,List.flatMap_append];exact Yq0,by rw [List.length_append,List.length_singleton];exact Yq0,(Yq1 @e10),(Yq1 @hmd)⟩
  rintro st ⟨e4,b4,e9,b9,hmd⟩
  refine Yr1 (fa4 @e4 @b4 @e9 @b9) ?_;intro K hK
  refine Yc1 (cn) (fa4 @e4 @b4 @e9 @b9) ?_
  refine hK _ ?_;clear hK K;try refine Wh0 ?_
  refine Ye1 @e4 ?_;try (with_reducible exact trivial)
  rfl
end Go.Proofs.Ytpficpldemickaa
