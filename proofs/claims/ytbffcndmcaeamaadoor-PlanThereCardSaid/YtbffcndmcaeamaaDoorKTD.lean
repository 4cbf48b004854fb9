import Derived.Test.YtbffcndmcaeamaaDoorKTB
import Derived.Test.YtbffcndmcaeamaaDoorL26
import Derived.Test.YtbffcndmcaeamaaDoorKN5
import Derived.Test.YtbffcndmcaeamaaDoorTEq
import Derived.Test.YtbffcndmcaeamaaDoorKR5
section
set_option linter.unusedSimpArgs false
set_option linter.unusedVariables false
namespace Go.Proofs.YtbffcndmcaeamaaDoor
open Go.RowKit Go.Proofs AclSpec MetaSpec NodeSpec PathSpec TreeSpec

def tentL (e : TEnt) : List LV := [strL e.path,intL e.node]
theorem tentL_len (e : TEnt) : (tentL e).length = 2 := rfl
theorem nodeL_len (n : FNode) : (nodeL n).length = 12 := rfl
def treeL (t : FTree) : List LV := [.sl t.ents.length (t.ents.flatMap tentL) .no,.sl t.nodes.length (t.nodes.flatMap nodeL) .no]
theorem drop_tent {l : List TEnt} {i : Nat} {a : TEnt} (h : l[i]? = some a) : (l.flatMap tentL).drop (i * 2) = strL a.path :: intL a.node :: (l.drop (i + 1)).flatMap tentL := drop_flat tentL 2 tentL_len h
theorem drop_node {l : List FNode} {i : Nat} {n : FNode} (h : l[i]? = some n) : (l.flatMap nodeL).drop (i * 12) = nodeL n ++ (l.drop (i + 1)).flatMap nodeL := drop_flat nodeL 12 nodeL_len h
structure SmallT (t : FTree) : Prop where
  ents : t.ents.length ≤ 1000000
  nodes : t.nodes.length ≤ 1000000
  path : ∀ e ∈ t.ents,e.path.length < 1000000
  node : ∀ n ∈ t.nodes,small n ∧ n.target.length ≤ maxLen

set_option maxRecDepth 100000 in
theorem tfind_L (t : FTree) (h : SmallT t) (p : List UInt8) : LCalls Tryd.prog 20 [.agg (treeL t),strL p] (.tup [intL (findT t.ents p).1,boolL (findT t.ents p).2]) := by
  have hl := h.ents
  refine LCalls.of (fun _ => false) Tryd.func20 rfl (by decide) Tryd.ntmps20 Tryd.results20 (by simp) ?_
  intro w0 S0 vs hgl hwf0 hsz hvs;clear hsz hvs hwf0 hgl
  generalize hR : findT t.ents p = R
  refine Yg1 @treeL.eq_1 ?_
  refine LW_lab1 (fun n st => ∃ i : Nat,n + i = t.ents.length ∧ st.env 1 = strL p ∧ st.env 2 = .ptr 2 0 ∧ st.box 2 = some (treeL t) ∧ st.env 6 = intL i ∧ findT (t.ents.drop i) p = R) rfl ?_ ?_
  · intro hJ
    refine Yl0 ?_
    exact hJ.out t.ents.length _ ⟨0,by omega,rfl,rfl,rfl,rfl,hR⟩
  · rintro n st ⟨i,hn,e1,e2,b2,e6,hr⟩
    simp only [treeL] at b2
    by_cases hlt : i < t.ents.length
    · obtain ⟨e,he⟩ := get_of_lt hlt
      have hd := drop_tent he
      have hw := w64s (n := i) (by omega)
      refine Yg1 (fa4 @e2 @b2 @e6 @hlt) ?_
      refine Yt1 @hlt ?_
      by_cases hp : e.path = p
      · rw [findT_hit he hp] at hr
        refine Yg1 (fa7 @e1 @e2 @b2 @e6 @hlt @hd @hp) ?_
        refine Yt0 ?_
        refine Yg1 (fa6 @e1 @e2 @b2 @e6 @hlt @hd) ?_
        refine Ye0 ?_;try (with_reducible exact trivial)
        rw [← hr];exact ⟨rfl,rfl⟩
      · rw [findT_miss he hp] at hr
        refine Yg1 (fa7 @e1 @e2 @b2 @e6 @hlt @hd @hp) ?_
        refine Yf0 ?_
        refine Yg1 (fa2 @e6 @hw) ?_
        refine LW_goto ?_;simp only [thenL,jumpsL,inBlockL,twoL,true_and]
        exact ⟨n - 1,by omega,i + 1,by omega,(Yq1 @e1),(Yq1 @e2),(Yq1 (fa2 @b2 @treeL.eq_1)),Yq0,hr⟩
    · rw [List.drop_of_length_le (by omega)] at hr
      refine Yg1 (fa4 @e2 @b2 @e6 @hlt) ?_
      refine Yf1 @hlt ?_
      refine Yg0 ?_
      refine Ye0 ?_;try (with_reducible exact trivial)
      rw [← hr];exact ⟨rfl,rfl⟩

def ahead (prev : Option (List UInt8)) (p : List UInt8) : Bool := match prev with | none => decide (p = []) | some q => lessB q p
theorem entOk_eq (ns : List FNode) (used : Nat) (prev : Option (List UInt8)) (e : TEnt) : entOk ns used prev e = (mayB e.path && ahead prev e.path && !decide (e.node < 0) && !decide ((used : Int) < e.node) && !decide ((ns.length : Int) ≤ e.node) && !(decide (e.node < used) && decide (kindAt ns e.node = 1)) && (!decide (e.node = used) || mayAt ns used)) := by cases prev <;> rfl
def prevP (l : List TEnt) (i : Nat) : Option (List UInt8) := if i = 0 then none else (l[i - 1]?).map (·.path)
theorem prevP_zero (l : List TEnt) : prevP l 0 = none := rfl
theorem prevP_succ {l : List TEnt} {i : Nat} {e : TEnt} (h : l[i]? = some e) : prevP l (i + 1) = some e.path := by
  unfold prevP;rw [if_neg (by omega),Nat.add_sub_cancel,h];rfl
theorem nextU_le {used i : Nat} {e : TEnt} (h : used ≤ i) : nextU used e ≤ i + 1 := by unfold nextU;split <;> omega
set_option maxRecDepth 100000 in
set_option maxHeartbeats 4000000 in
theorem tordered_L (t : FTree) (h : SmallT t) : LCalls Tryd.prog 33 [.agg (treeL t)] (boolL (ordG t.nodes none 0 t.ents)) := by
  have hl := h.ents
  have hln := h.nodes
  refine LCalls.of (fun _ => false) Tryd.func33 rfl (by decide) Tryd.ntmps33 Tryd.results33 (by simp) ?_
  intro w0 S0 vs hgl hwf0 hsz hvs;clear hsz hvs hwf0 hgl
  generalize hR : ordG t.nodes none 0 t.ents = R
  refine Yg1 @treeL.eq_1 ?_
  refine LW_lab1 (fun n st => ∃ (i used : Nat),n + i = t.ents.length ∧ used ≤ i ∧ st.env 1 = .ptr 1 0 ∧ st.box 1 = some (treeL t) ∧ st.env 3 = intL used ∧ st.env 4 = intL i ∧ ordG t.nodes (prevP t.ents i) used (t.ents.drop i) = R ∧ st.mode = fun _ => false) rfl ?_ ?_
  · intro hJ
    refine Yl0 ?_
    exact hJ.out t.ents.length _ ⟨0,0,by omega,by omega,rfl,rfl,rfl,rfl,hR,rfl⟩
  · rintro n st ⟨i,used,hn,hui,e1,b1,e3,e4,hr,hmd⟩
    simp only [treeL] at b1
    by_cases hlt : i < t.ents.length
    rotate_left
    · rw [List.drop_of_length_le (by omega),ordG] at hr
      refine Yg1 (fa4 @e1 @b1 @e4 @hlt) ?_
      refine Yf1 @hlt ?_
      have hui2 : decide ((used : Int) = (t.nodes.length : Int)) = R := by
        rw [← hr,decide_eq_decide];omega
      refine Yg1 (fa4 @e1 @b1 @e3 @hui2) ?_
      refine Ye0 ?_;try (with_reducible exact trivial)
    obtain ⟨e,he⟩ := get_of_lt hlt
    have hem := List.mem_of_getElem? he
    have hd := drop_tent he
    have hw := w64s (n := i) (by omega)
    have hpl := h.path e hem
    have cm := pmay_L e.path hpl
    rw [ordG_cons t.nodes he,← prevP_succ he] at hr
    refine Yg1 (fa4 @e1 @b1 @e4 @hlt) ?_
    refine Yt1 @hlt ?_
    refine Yg1 (fa5 @e1 @b1 @e4 @hlt @hd) ?_
    refine LW_slim (fun st => st.env 1 = .ptr 1 0 ∧ st.box 1 = some (treeL t) ∧ st.env 3 = intL used ∧ st.env 4 = intL i ∧ st.env 5 = .ptr 5 0 ∧ st.box 5 = some (tentL e) ∧ st.mode = fun _ => false) ⟨(Yq1 @e1),(Yq1 (fa2 @b1 @treeL.eq_1)),(Yq1 @e3),(Yq1 @e4),Yq0,(Yq1 @tentL.eq_1),(Yq1 @hmd)⟩ ?_
    clear e1 b1 e3 e4 hmd st
    rintro st ⟨e1,b1,e3,e4,e5,b5,hmd⟩
    simp only [treeL] at b1
    simp only [tentL] at b5
    have bad : entOk t.nodes used (prevP t.ents i) e = false → R = false := fun hb => by rw [← hr,hb];rfl
    rw [entOk_eq] at bad hr
    cases h1 : mayB e.path
    · rw [h1] at cm
      refine Yr1 (fa2 @e5 @b5) ?_;intro K hK
      refine Yc0 (cm) ?_
      refine hK _ ?_;clear hK K;try refine Wh0 ?_
      refine Yt0 ?_
      refine Yg0 ?_
      refine Ye0 ?_;try (with_reducible exact trivial)
      rw [bad (by rw [h1];rfl)]
    rw [h1] at cm bad hr
    refine LW_joinC (fun st => (i = 0 → e.path = []) ∧ st.env 1 = .ptr 1 0 ∧ st.box 1 = some (treeL t) ∧ st.env 3 = intL used ∧ st.env 4 = intL i ∧ st.env 5 = .ptr 5 0 ∧ st.box 5 = some (tentL e) ∧ st.mode = fun _ => false) ?_ ?_
    · by_cases hi : i = 0
      · have hi0 : (i : Int) = 0 := by omega
        by_cases hp : e.path = []
        · rw [hp] at cm
          refine Yr1 (fa3 @e5 @b5 @hp) ?_;intro K hK
          refine Yc1 (cm) (fa5 @e4 @hi0 @e5 @b5 @hp) ?_
          refine hK _ ?_;clear hK K;try refine Wh0 ?_
          refine Yf0 ?_
          exact ⟨fun _ => hp,(Yq1 @e1),(Yq1 (fa2 @b1 @treeL.eq_1)),(Yq1 @e3),(Yq1 @e4),(Yq1 @e5),(Yq1 (fa2 @b5 @tentL.eq_1)),(Yq1 @hmd)⟩
        · refine Yr1 (fa2 @e5 @b5) ?_;intro K hK
          refine Yc1 (cm) (fa5 @e4 @hi0 @e5 @b5 @hp) ?_
          refine hK _ ?_;clear hK K;try refine Wh0 ?_
          refine Yt0 ?_
          refine Yg0 ?_
          refine Ye0 ?_;try (with_reducible exact trivial)
          rw [bad (by rw [hi,prevP_zero];simp [ahead,hp])]
      · have hi0 : ¬ (i : Int) = 0 := by omega
        refine Yr1 (fa2 @e5 @b5) ?_;intro K hK
        refine Yc1 (cm) (fa4 @e4 @hi0 @e5 @b5) ?_
        refine hK _ ?_;clear hK K;try refine Wh0 ?_
        refine Yf0 ?_
        exact ⟨fun h => absurd h hi,(Yq1 @e1),(Yq1 (fa2 @b1 @treeL.eq_1)),(Yq1 @e3),(Yq1 @e4),(Yq1 @e5),(Yq1 (fa2 @b5 @tentL.eq_1)),(Yq1 @hmd)⟩
    clear e1 b1 e3 e4 e5 b5 hmd st
    rintro st ⟨hroot,e1,b1,e3,e4,e5,b5,hmd⟩
    simp only [treeL] at b1
    simp only [tentL] at b5
    (repeat refine LW_seq ?_)
    refine LW_joinC (fun st => ahead (prevP t.ents i) e.path = true ∧ st.env 1 = .ptr 1 0 ∧ st.box 1 = some (treeL t) ∧ st.env 3 = intL used ∧ st.env 4 = intL i ∧ st.env 5 = .ptr 5 0 ∧ st.box 5 = some (tentL e) ∧ st.mode = fun _ => false) ?_ ?_
    · by_cases hi : 0 < i
      · have hi0 : (0 : Int) < i := by omega
        obtain ⟨q,hq⟩ := get_of_lt (l := t.ents) (i := i - 1) (by omega)
        have hdq := drop_tent hq
        have hql := h.path q (List.mem_of_getElem? hq)
        have hwp := w64p (n := i) (by omega) (by omega)
        have hi1 : i - 1 < t.ents.length := by omega
        have hpv : prevP t.ents i = some q.path := by unfold prevP;rw [if_neg (by omega),hq];rfl
        have cl := pless_L q.path e.path hql hpl
        cases hc : lessB q.path e.path
        · rw [hc] at cl
          refine Yn1 (fa11 @e1 @b1 @e4 @e5 @b5 @hi @hi0 @hwp @hi1 @hdq @hmd) ?_;intro K hK
          refine Yc0 (cl) ?_
          refine hK _ ?_;clear hK K;try refine Wh0 ?_
          refine Yt0 ?_
          refine Yg0 ?_
          refine Ye0 ?_;try (with_reducible exact trivial)
          rw [bad (by rw [hpv];simp [ahead,hc])]
        · rw [hc] at cl
          refine Yn1 (fa11 @e1 @b1 @e4 @e5 @b5 @hi @hi0 @hwp @hi1 @hdq @hmd) ?_;intro K hK
          refine Yc0 (cl) ?_
          refine hK _ ?_;clear hK K;try refine Wh0 ?_
          refine Yf0 ?_
          exact ⟨by rw [hpv];exact hc,(Yq1 @e1),(Yq1 (fa2 @b1 @treeL.eq_1)),(Yq1 @e3),(Yq1 @e4),(Yq1 @e5),(Yq1 (fa2 @b5 @tentL.eq_1)),(Yq1 @hmd)⟩
      · have hi0 : ¬ (0 : Int) < i := by omega
        have hiz : i = 0 := by omega
        refine Yn1 (fa4 @e4 @hi @hi0 @hmd) ?_;intro K hK
        refine hK _ ?_;clear hK K;try refine Wh0 ?_
        refine Yf0 ?_
        exact ⟨by rw [hiz,prevP_zero];simp [ahead,hroot hiz],(Yq1 @e1),(Yq1 (fa2 @b1 @treeL.eq_1)),(Yq1 @e3),(Yq1 @e4),(Yq1 @e5),(Yq1 (fa2 @b5 @tentL.eq_1)),(Yq1 @hmd)⟩
    clear e1 b1 e3 e4 e5 b5 hmd st
    rintro st ⟨hord,e1,b1,e3,e4,e5,b5,hmd⟩
    rw [hord] at bad hr
    simp only [treeL] at b1
    simp only [tentL] at b5
    by_cases n0 : e.node < 0
    · refine Yg1 (fa3 @e5 @b5 @n0) ?_
      refine Yt0 ?_
      refine Yg0 ?_
      refine Ye0 ?_;try (with_reducible exact trivial)
      rw [bad (by simp [n0])]
    by_cases n1 : (used : Int) < e.node
    · refine Yg1 (fa5 @e3 @e5 @b5 @n0 @n1) ?_
      refine Yt0 ?_
      refine Yg0 ?_
      refine Ye0 ?_;try (with_reducible exact trivial)
      rw [bad (by simp [n1])]
    by_cases n2 : (t.nodes.length : Int) ≤ e.node
    · refine Yg1 (fa8 @e1 @b1 @e3 @e5 @b5 @n0 @n1 @n2) ?_
      refine Yt0 ?_
      refine Yg0 ?_
      refine Ye0 ?_;try (with_reducible exact trivial)
      rw [bad (by simp [n2])]
    refine Yg1 (fa8 @e1 @b1 @e3 @e5 @b5 @n0 @n1 @n2) ?_
    refine Yf0 ?_
    obtain ⟨k,hk⟩ : ∃ k : Nat,e.node = k := ⟨e.node.toNat,by omega⟩
    rw [hk] at n0 n1 n2
    have hkl : k < t.nodes.length := by omega
    obtain ⟨nd,hnd⟩ := get_of_lt hkl
    have hdn := drop_node hnd
    simp only [nodeL,List.cons_append,List.nil_append] at hdn
    have hka := kindAt_of hnd
    have hma := mayAt_of hnd
    have hnm := h.node nd (List.mem_of_getElem? hnd)
    have hnu : nextU used e = if k = used then used + 1 else used := by
      unfold nextU;rw [hk]
      by_cases hh : k = used
      · rw [if_pos (by omega),if_pos hh]
      · rw [if_neg (by omega),if_neg hh]
    rw [hk,hka] at bad
    rw [hk,hka,hnu] at hr
    have hk0 : (0 : Int) ≤ (k : Int) := by omega
    by_cases hu : k < used
    · by_cases hkd : nd.kind = 1
      · refine Yg1 (fa11 @e1 @b1 @e3 @e5 @b5 @hk @hu @hk0 @hkl @hdn @hkd) ?_
        refine Yt0 ?_
        refine Yg0 ?_
        refine Ye0 ?_;try (with_reducible exact trivial)
        rw [bad (by simp [hu,hkd])]
      · have hne : ¬ k = used := by omega
        have hne2 : ¬ (k : Int) = (used : Int) := by omega
        rw [if_neg hne] at hr
        refine Yg1 (fa11 @e1 @b1 @e3 @e5 @b5 @hk @hu @hk0 @hkl @hdn @hkd) ?_
        refine Yf0 ?_
        refine Yg1 (fa6 @e3 @e5 @b5 @hk @hne @hne2) ?_
        refine Yf0 ?_
        refine Yg1 (fa2 @e4 @hw) ?_
        refine LW_goto ?_;simp only [thenL,jumpsL,inBlockL,twoL,true_and]
        refine ⟨n - 1,by omega,i + 1,used,by omega,by omega,(Yq1 @e1),(Yq1 (fa2 @b1 @treeL.eq_1)),(Yq1 @e3),Yq0,?_,(Yq1 @hmd)⟩
        rw [← hr]
        have m0 : decide ((k : Int) < 0) = false := decide_eq_false (by omega)
        have m1 : decide ((used : Int) < (k : Int)) = false := decide_eq_false (by omega)
        have m2 : decide ((t.nodes.length : Int) ≤ (k : Int)) = false := decide_eq_false (by omega)
        have m3 : decide ((k : Int) = (used : Int)) = false := decide_eq_false (by omega)
        have m4 : decide (nd.kind = 1) = false := decide_eq_false hkd
        rw [m0,m1,m2,m3,m4]
        simp
    have heq : k = used := by omega
    subst heq
    rw [if_pos rfl] at hr
    have cn := nmay_L nd hnm.1
    rw [hma] at bad hr
    have m0 : decide ((k : Int) < 0) = false := decide_eq_false (by omega)
    have m1 : decide ((k : Int) < (k : Int)) = false := decide_eq_false (by omega)
    have m2 : decide ((t.nodes.length : Int) ≤ (k : Int)) = false := decide_eq_false (by omega)
    have m3 : decide ((k : Int) = (k : Int)) = true := decide_eq_true rfl
    rw [m0,m1,m2,m3] at bad hr
    have hwk := w64s (n := k) (by omega)
    simp only [nodeL,attrsL,acesL,piecesL,rowL] at cn hdn
    refine Yg1 (fa7 @e1 @b1 @e3 @e5 @b5 @hk @hu) ?_
    refine Yf0 ?_
    refine Yg1 (fa4 @e3 @e5 @b5 @hk) ?_
    refine Yt0 ?_
    cases hy : mayN nd
    · rw [hy] at cn bad
      refine Yr1 (fa6 @e1 @b1 @e3 @hk0 @hkl @hdn) ?_;intro K hK
      refine Yc0 (cn) ?_
      refine hK _ ?_;clear hK K;try refine Wh0 ?_
      refine Yt0 ?_
      refine Yg0 ?_
      refine Ye0 ?_;try (with_reducible exact trivial)
      rw [bad (by simp)]
    · rw [hy] at cn hr
      refine Yr1 (fa6 @e1 @b1 @e3 @hk0 @hkl @hdn) ?_;intro K hK
      refine Yc0 (cn) ?_
      refine hK _ ?_;clear hK K;try refine Wh0 ?_
      refine Yf0 ?_
      refine Yg1 (fa4 @e3 @e4 @hw @hwk) ?_
      refine LW_goto ?_;simp only [thenL,jumpsL,inBlockL,twoL,true_and]
      refine ⟨n - 1,by omega,i + 1,k + 1,by omega,by omega,(Yq1 @e1),(Yq1 (fa2 @b1 @treeL.eq_1)),Yq0,Yq0,?_,(Yq1 @hmd)⟩
      rw [← hr];simp

set_option maxRecDepth 100000 in
set_option maxHeartbeats 2000000 in
theorem tmay_L (t : FTree) (h : SmallT t) : LCalls Tryd.prog 19 [.agg (treeL t)] (boolL (mayT t)) := by
  have co := tordered_L t h
  have hl := h.ents
  simp only [treeL] at co
  refine LCalls.of (fun _ => false) Tryd.func19 rfl (by decide) Tryd.ntmps19 Tryd.results19 (by simp) ?_
  intro w0 S0 vs hgl hwf0 hsz hvs;clear hsz hvs hwf0 hgl
  generalize hR : mayT t = R
  unfold mayT at hR
  refine Yg1 @treeL.eq_1 ?_
  by_cases h1 : (t.ents.length : Int) < 1
  · refine LW_scope_straight ?_
    refine Yg1 @h1 ?_
    refine Yt0 ?_
    refine Yg0 ?_
    refine Ye0 ?_;try (with_reducible exact trivial)
    rw [← hR,decide_eq_false (p := 1 ≤ t.ents.length) (by omega)];rfl
  by_cases h2 : (100 : Int) < t.ents.length
  · refine LW_scope_straight ?_
    refine Yg1 (fa2 @h1 @h2) ?_
    refine Yt0 ?_
    refine Yg0 ?_
    refine Ye0 ?_;try (with_reducible exact trivial)
    rw [← hR,decide_eq_false (p := t.ents.length ≤ 100) (by omega)];simp
  rw [decide_eq_true (p := 1 ≤ t.ents.length) (by omega),decide_eq_true (p := t.ents.length ≤ 100) (by omega),Bool.true_and,Bool.true_and] at hR
  cases h3 : ordG t.nodes none 0 t.ents
  · rw [h3] at co hR
    refine LW_scope_straight ?_
    refine Yr1 (fa2 @h1 @h2) ?_;intro K hK
    refine Yc0 (co) ?_
    refine hK _ ?_;clear hK K;try refine Wh0 ?_
    refine Yt0 ?_
    refine Yg0 ?_
    refine Ye0 ?_;try (with_reducible exact trivial)
    rw [← hR];rfl
  rw [h3] at co hR
  have hrange := ordG_range h3
  obtain ⟨e,he⟩ := get_of_lt (l := t.ents) (i := 0) (by omega)
  have hd := drop_tent he
  rw [Nat.zero_mul,List.drop_zero] at hd
  obtain ⟨k0,hk0⟩ : ∃ k : Nat,e.node = k := ⟨e.node.toNat,by have := hrange e (List.mem_of_getElem? he);omega⟩
  have hkl : k0 < t.nodes.length := by have := (hrange e (List.mem_of_getElem? he)).2;omega
  obtain ⟨nd,hnd⟩ := get_of_lt hkl
  have hdn := drop_node hnd
  simp only [nodeL,List.cons_append,List.nil_append] at hdn
  have hhead : headKind t = decide (nd.kind = 1) := by
    unfold headKind
    have : t.ents = e :: t.ents.drop 1 := by
      have h0 : 0 < t.ents.length := by omega
      have := List.drop_eq_getElem_cons h0
      rw [List.drop_zero] at this
      rw [List.getElem?_eq_getElem h0] at he
      rw [this];congr 1
      exact Option.some.inj he
    rw [this]
    simp only [hk0,kindAt_of hnd]
  rw [hhead] at hR
  have h0l : (0 : Int) < (t.ents.length : Int) := by omega
  have hkp : (0 : Int) ≤ (k0 : Int) := by omega
  refine LW_lab1 (fun n st => ∃ i : Nat,n + i = t.ents.length ∧ 1 ≤ i ∧ st.env 1 = .ptr 1 0 ∧ st.box 1 = some (treeL t) ∧ st.env 3 = intL i ∧ (t.ents.drop i).all (upOk t) = R) rfl ?_ ?_
  · intro hJ
    refine Yr1 (fa2 @h1 @h2) ?_;intro K hK
    refine Yc0 (co) ?_
    refine hK _ ?_;clear hK K;try refine Wh0 ?_
    refine Yf0 ?_
    by_cases hkd : nd.kind = 1
    · rw [decide_eq_true hkd,Bool.true_and] at hR
      refine Yn1 (fa7 @h0l @hd @hk0 @hkp @hkl @hdn @hkd) ?_;intro K hK
      refine hK _ ?_;clear hK K;try refine Wh0 ?_
      refine Yf0 ?_
      refine Yl0 ?_
      exact hJ.out (t.ents.length - 1) _ ⟨1,by omega,by omega,rfl,(Yq1 (fa3 @treeL.eq_1 @hd @hk0)),rfl,by rw [← hR];rfl⟩
    · rw [decide_eq_false hkd] at hR
      refine Yn1 (fa7 @h0l @hd @hk0 @hkp @hkl @hdn @hkd) ?_;intro K hK
      refine hK _ ?_;clear hK K;try refine Wh0 ?_
      refine Yt0 ?_
      refine Yg0 ?_
      refine Ye0 ?_;try (with_reducible exact trivial)
      rw [← hR];rfl
  · rintro n st ⟨i,hn,hi1,e1,b1,e3,hr⟩
    simp only [treeL] at b1
    by_cases hlt : i < t.ents.length
    · obtain ⟨x,hx⟩ := get_of_lt hlt
      have hdx := drop_tent hx
      have hw := w64s (n := i) (by omega)
      have hxl := h.path x (List.mem_of_getElem? hx)
      have cp := pparent_L x.path hxl
      have cf := tfind_L t h (parentB x.path).1
      have hcons : (t.ents.drop i).all (upOk t) = (upOk t x && (t.ents.drop (i + 1)).all (upOk t)) := by
        obtain ⟨hi',rfl⟩ := List.getElem?_eq_some_iff.1 hx
        rw [List.drop_eq_getElem_cons hi',List.all_cons]
      rw [hcons] at hr
      unfold upOk at hr
      generalize parentB x.path = pb at *
      simp only [treeL] at cf
      generalize hf : findT t.ents pb.1 = f at *
      refine Yg1 (fa4 @e1 @b1 @e3 @hlt) ?_
      refine Yt1 @hlt ?_
      refine Yr1 (fa5 @e1 @b1 @e3 @hlt @hdx) ?_;intro K hK
      refine Yc0 (cp) ?_
      refine hK _ ?_;clear hK K;try refine Wh0 ?_
      refine Yr1 (fa2 @e1 @b1) ?_;intro K hK
      refine Yc0 (cf) ?_
      refine hK _ ?_;clear hK K;try refine Wh0 ?_
      cases h4 : f.2
      · rw [h4] at hr
        refine Yg1 @h4 ?_
        refine Yt0 ?_
        refine Yg0 ?_
        refine Ye0 ?_;try (with_reducible exact trivial)
        rw [← hr];rfl
      · rw [h4] at hr
        obtain ⟨y,hy,_,hyn⟩ := findT_mem (l := t.ents) (p := pb.1) (by rw [hf];exact h4)
        rw [hf] at hyn
        have hyr := hrange y hy
        obtain ⟨k,hk⟩ : ∃ k : Nat,f.1 = k := ⟨f.1.toNat,by omega⟩
        have hkl2 : k < t.nodes.length := by omega
        have hkp2 : (0 : Int) ≤ (k : Int) := by omega
        obtain ⟨nk,hnk⟩ := get_of_lt hkl2
        have hdk := drop_node hnk
        simp only [nodeL,List.cons_append,List.nil_append] at hdk
        rw [hk,kindAt_of hnk] at hr
        by_cases hkd : nk.kind = 1
        · rw [decide_eq_true hkd] at hr
          refine Yg1 (fa8 @h4 @hk @e1 @b1 @hkp2 @hkl2 @hdk @hkd) ?_
          refine Yf0 ?_
          refine Yg1 (fa2 @e3 @hw) ?_
          refine LW_goto ?_;simp only [thenL,jumpsL,inBlockL,twoL,true_and]
          exact ⟨n - 1,by omega,i + 1,by omega,by omega,(Yq1 @e1),(Yq1 (fa2 @b1 @treeL.eq_1)),Yq0,by rw [← hr];rfl⟩
        · rw [decide_eq_false hkd] at hr
          refine Yg1 (fa8 @h4 @hk @e1 @b1 @hkp2 @hkl2 @hdk @hkd) ?_
          refine Yt0 ?_
          refine Yg0 ?_
          refine Ye0 ?_;try (with_reducible exact trivial)
          rw [← hr];rfl
    · rw [List.drop_of_length_le (by omega)] at hr
      refine Yg1 (fa4 @e1 @b1 @e3 @hlt) ?_
      refine Yf1 @hlt ?_
      refine Yg0 ?_
      refine Ye0 ?_;try (with_reducible exact trivial)
      rw [← hr];rfl
end Go.Proofs.YtbffcndmcaeamaaDoor
end
section
set_option linter.unusedSimpArgs false
set_option linter.unusedVariables false
namespace Go.Proofs.YtbffcndmcaeamaaDoor
open Go.RowKit Go.Proofs AclSpec MetaSpec NodeSpec PathSpec TreeSpec

set_option maxRecDepth 100000 in
theorem rfind_L (t : FTree) (h : SmallT t) (p : List UInt8) : LCalls Tryd.prog 14 [.agg (treeL t),strL p] (.tup [intL (findT t.ents p).1,boolL (findT t.ents p).2]) := by
  have hl := h.ents
  refine LCalls.of (fun _ => false) Tryd.func14 rfl (by decide) Tryd.ntmps14 Tryd.results14 (by simp) ?_
  intro w0 S0 vs hgl hwf0 hsz hvs;clear hsz hvs hwf0 hgl
  generalize hR : findT t.ents p = R
  refine Yg1 @treeL.eq_1 ?_
  refine LW_joinB (fun st => (0,false) = R) ?_ ?_
  · refine LW_loop (fun n st => ∃ i : Nat,n + i = t.ents.length ∧ st.env 1 = strL p ∧ st.env 2 = .ptr 2 0 ∧ st.box 2 = some (treeL t) ∧ st.env 6 = intL i ∧ findT (t.ents.drop i) p = R) t.ents.length ⟨0,by omega,rfl,rfl,rfl,rfl,hR⟩ ?_
    rintro n st ⟨i,hn,e1,e2,b2,e6,hr⟩
    simp only [treeL] at b2
    by_cases hlt : i < t.ents.length
    · obtain ⟨e,he⟩ := get_of_lt hlt
      have hd := drop_tent he
      have hw := w64s (n := i) (by omega)
      refine Yg1 (fa4 @e2 @b2 @e6 @hlt) ?_
      refine Yt1 @hlt ?_
      by_cases hp : e.path = p
      · rw [findT_hit he hp] at hr
        refine Yg1 (fa7 @e1 @e2 @b2 @e6 @hlt @hd @hp) ?_
        refine Yt0 ?_
        refine Yg1 (fa6 @e1 @e2 @b2 @e6 @hlt @hd) ?_
        refine Ye0 ?_;try (with_reducible exact trivial)
        rw [← hr];exact ⟨rfl,rfl⟩
      · rw [findT_miss he hp] at hr
        refine Yg1 (fa7 @e1 @e2 @b2 @e6 @hlt @hd @hp) ?_
        refine Yf0 ?_
        refine Yg1 (fa2 @e6 @hw) ?_
        exact ⟨n - 1,by omega,i + 1,by omega,(Yq1 @e1),(Yq1 @e2),(Yq1 (fa2 @b2 @treeL.eq_1)),Yq0,hr⟩
    · rw [List.drop_of_length_le (by omega)] at hr
      refine Yg1 (fa4 @e2 @b2 @e6 @hlt) ?_
      refine Yf1 @hlt ?_
      refine LW_exit ?_;simp only [thenL,jumpsL,inBlockL,twoL,reduceIte,Nat.reduceEqDiff]
      exact hr
  rintro st hr
  refine Yg0 ?_
  refine Ye0 ?_;try (with_reducible exact trivial)
  rw [← hr];exact ⟨rfl,rfl⟩

def usesL (u : List Int) : List LV := u.map intL
def aheadR (prev : Option (List UInt8)) (p : List UInt8) : Bool := match prev with | none => true | some q => lessB q p
theorem entOkR_split (t : FTree) (next : Nat) (prev : Option (List UInt8)) (e : TEnt) : entOkR t next prev e = (mayB e.path && aheadR prev e.path && !decide (e.node < 0) && !decide ((next : Int) < e.node) && !decide ((t.nodes.length : Int) ≤ e.node) && upR t e) := by cases prev <;> rfl
theorem rep_uses (n : Nat) : repL n [.lit (.int .i64 0)] = usesL (List.replicate n 0) := by
  unfold repL usesL
  induction n with
  | zero => rfl
  | succ n ih => rw [List.replicate_succ,List.flatten_cons,ih,List.replicate_succ,List.map_cons];rfl
theorem uses_len (u : List Int) : (usesL u).length = u.length := by unfold usesL;rw [List.length_map]
theorem drop_uses {u : List Int} {k : Nat} {x : Int} (h : u[k]? = some x) : (usesL u).drop k = intL x :: (usesL u).drop (k + 1) := by
  have hk := (List.getElem?_eq_some_iff.1 h).1
  have h2 : (usesL u)[k]? = some (intL x) := by unfold usesL;rw [List.getElem?_map,h];rfl
  obtain ⟨hi,he⟩ := List.getElem?_eq_some_iff.1 h2
  rw [List.drop_eq_getElem_cons hi,he]
theorem set_uses {u : List Int} {k : Nat} {x : Int} (h : u[k]? = some x) : (usesL u).take k ++ intL (x + 1) :: (usesL u).drop (k + 1) = usesL (bump u k) := by
  have hk := (List.getElem?_eq_some_iff.1 h).1
  unfold bump
  rw [Int.toNat_natCast,h]
  unfold usesL
  rw [List.map_set,List.set_eq_take_append_cons_drop,if_pos (by rw [List.length_map];exact hk)]
  rfl
theorem headKind_of {t : FTree} {e : TEnt} {k : Nat} {nd : FNode} (he : t.ents[0]? = some e) (hk : e.node = k) (hnd : t.nodes[k]? = some nd) : headKind t = decide (nd.kind = 1) := by
  unfold headKind
  cases hl : t.ents with
  | nil => rw [hl] at he;cases he
  | cons x r =>
    rw [hl] at he
    cases (Option.some.inj he)
    simp only [hk,kindAt_of hnd]
theorem bump_bound {u : List Int} {k i : Nat} (h : ∀ x ∈ u,0 ≤ x ∧ x ≤ i) : ∀ x ∈ bump u k,0 ≤ x ∧ x ≤ (i + 1 : Nat) := by
  intro x hx
  obtain ⟨j,hj⟩ := List.mem_iff_getElem?.1 hx
  rcases bump_get hj with ⟨_,v,hv,rfl⟩ | ⟨_,hv⟩
  · have := h v (List.mem_of_getElem? hv);omega
  · have := h x (List.mem_of_getElem? hv);omega
theorem nodesR_drop {ns : List FNode} {us : List Int} {i : Nat} {n : FNode} {u : Int} (h : ns[i]? = some n) (hu : us[i]? = some u) : nodesR (ns.drop i) (us.drop i) = (nodeOkR n u && nodesR (ns.drop (i + 1)) (us.drop (i + 1))) := by
  obtain ⟨h1,rfl⟩ := List.getElem?_eq_some_iff.1 h
  obtain ⟨h2,rfl⟩ := List.getElem?_eq_some_iff.1 hu
  rw [List.drop_eq_getElem_cons h1,List.drop_eq_getElem_cons h2,nodesR]

def rootB : List TEnt → Bool
  | [] => false
  | e :: _ => decide (e.path = [])
theorem mayR_root (t : FTree) : mayR t = (decide (1 ≤ t.ents.length) && decide (t.ents.length ≤ 100) && rootB t.ents && ordR t none 0 (List.replicate t.nodes.length 0) t.ents) := by
  obtain ⟨l,ns⟩ := t
  cases l <;> rfl
theorem rootB_of {l : List TEnt} {e : TEnt} (h : l[0]? = some e) : rootB l = decide (e.path = []) := by
  cases l with
  | nil => cases h
  | cons x r => cases (Option.some.inj h);rfl

set_option maxRecDepth 100000 in
set_option maxHeartbeats 4000000 in
theorem rmayTree_L (t : FTree) (h : SmallT t) : LCalls Tryd.prog 12 [.agg (treeL t)] (boolL (mayR t)) := by
  have hl := h.ents
  have hln := h.nodes
  refine LCalls.of (fun _ => false) Tryd.func12 rfl (by decide) Tryd.ntmps12 Tryd.results12 (by simp) ?_
  intro w0 S0 vs hgl hwf0 hsz hvs;clear hsz hvs hwf0 hgl
  generalize hR : mayR t = R
  rw [mayR_root] at hR
  refine Yg1 @treeL.eq_1 ?_
  by_cases h1 : (t.ents.length : Int) < 1
  · refine Yg1 @h1 ?_
    refine Yt0 ?_
    refine Yg0 ?_
    refine Ye0 ?_;try (with_reducible exact trivial)
    rw [← hR,decide_eq_false (p := 1 ≤ t.ents.length) (by omega)];rfl
  by_cases h2 : (100 : Int) < t.ents.length
  · refine Yg1 (fa2 @h1 @h2) ?_
    refine Yt0 ?_
    refine Yg0 ?_
    refine Ye0 ?_;try (with_reducible exact trivial)
    rw [← hR,decide_eq_false (p := t.ents.length ≤ 100) (by omega)];simp
  rw [decide_eq_true (p := 1 ≤ t.ents.length) (by omega),decide_eq_true (p := t.ents.length ≤ 100) (by omega),Bool.true_and,Bool.true_and] at hR
  obtain ⟨eh,heh⟩ := get_of_lt (l := t.ents) (i := 0) (by omega)
  have hdh := drop_tent heh
  rw [Nat.zero_mul,List.drop_zero] at hdh
  rw [rootB_of heh] at hR
  have h0l : (0 : Int) < (t.ents.length : Int) := by omega
  have h0n : 0 < t.ents.length := by omega
  by_cases h3 : eh.path = []
  rotate_left
  · rw [decide_eq_false h3] at hR
    refine Yg1 (fa6 @h1 @h2 @h0l @h0n @hdh @h3) ?_
    refine Yt0 ?_
    refine Yg0 ?_
    refine Ye0 ?_;try (with_reducible exact trivial)
    rw [← hR];rfl
  rw [decide_eq_true h3,Bool.true_and] at hR
  refine Yg1 (fa6 @h1 @h2 @h0l @h0n @hdh @h3) ?_
  refine Yf0 ?_
  (repeat refine LW_seq ?_)
  refine LW_join (fun st => st.env 1 = .ptr 1 0 ∧ st.box 1 = some (treeL t) ∧ st.env 3 = intL 0 ∧ st.mode = fun _ => false) ?_ ?_
  · refine Yg0 ?_
    exact ⟨Yq0,(Yq1 (fa3 @treeL.eq_1 @hdh @h3)),Yq0,Yq0⟩
  rintro st ⟨e1,b1,e3,hmd⟩
  simp only [treeL] at b1
  (repeat refine LW_seq ?_)
  refine LW_join (fun st => st.env 1 = .ptr 1 0 ∧ st.box 1 = some (treeL t) ∧ st.env 3 = intL 0 ∧ (0 < t.nodes.length → st.env 4 = .bsl 33 t.nodes.length 3 ∧ st.arr 33 = some (usesL (List.replicate t.nodes.length 0))) ∧ st.mode = fun _ => false) ?_ ?_
  · have hmx : t.nodes.length ≤ maxLen := by unfold maxLen;omega
    by_cases hz : t.nodes.length = 0
    · refine Yr1 (fa3 @e1 @b1 @hz) ?_;intro K hK
      refine ⟨by (repeat' apply And.intro) <;> first | omega | exact hmx | rfl,?_⟩
      refine hK _ ?_;clear hK K;try refine Wh0 ?_
      exact ⟨(Yq1 @e1),(Yq1 (fa3 @b1 @treeL.eq_1 @hz)),(Yq1 @e3),fun hh => absurd hh (by omega),(Yq1 @hmd)⟩
    · refine Yr1 (fa4 @e1 @b1 @hz @rep_uses) ?_;intro K hK
      refine ⟨by (repeat' apply And.intro) <;> first | omega | exact hmx | rfl,?_⟩
      refine hK _ ?_;clear hK K;try refine Wh0 ?_
      exact ⟨(Yq1 @e1),(Yq1 (fa3 @b1 @treeL.eq_1 @hz)),(Yq1 @e3),fun _ => ⟨Yq0,Yq0⟩,(Yq1 @hmd)⟩
  clear e1 b1 e3 hmd st
  rintro st ⟨e1,b1,e3,e4,hmd⟩
  refine Yg1 @e1 ?_
  refine LW_joinB (fun st => (∀ e,t.ents[0]? = some e → 0 ≤ e.node ∧ e.node < (t.nodes.length : Int)) ∧ ∃ uses : List Int,uses.length = t.nodes.length ∧ (∀ x ∈ uses,0 ≤ x ∧ x ≤ 1000000) ∧ st.env 1 = .ptr 1 0 ∧ st.box 1 = some (treeL t) ∧ (0 < t.nodes.length → st.env 4 = .bsl 33 t.nodes.length 3 ∧ st.arr 33 = some (usesL uses)) ∧ (nodesR t.nodes uses && headKind t) = R ∧ st.mode = fun _ => false) ?_ ?_
  · refine LW_loop (fun n st => ∃ (i next : Nat) (uses : List Int),n + i = t.ents.length ∧ next ≤ i ∧ (1 ≤ i → ∀ e,t.ents[0]? = some e → 0 ≤ e.node ∧ e.node < (t.nodes.length : Int)) ∧ uses.length = t.nodes.length ∧ (∀ x ∈ uses,0 ≤ x ∧ x ≤ i) ∧ st.env 1 = .ptr 1 0 ∧ st.box 1 = some (treeL t) ∧ st.env 3 = intL next ∧ (0 < t.nodes.length → st.env 4 = .bsl 33 t.nodes.length 3 ∧ st.arr 33 = some (usesL uses)) ∧ st.env 5 = intL i ∧ ordR t (prevP t.ents i) next uses (t.ents.drop i) = R ∧ st.mode = fun _ => false) t.ents.length ⟨0,0,List.replicate t.nodes.length 0,by omega,by omega,fun hh => absurd hh (by omega),by simp,fun x hx => by have := (List.mem_replicate.1 hx).2;omega,(Yq1 @e1),(Yq1 @b1),(Yq1 @e3),fun hh => ⟨(Yq1 (e4 hh).1),(Yq1 (e4 hh).2)⟩,Yq0,hR,(Yq1 @hmd)⟩ ?_
    clear e1 b1 e3 e4 hmd st
    rintro n st ⟨i,next,uses,hn,hni,hrg,hul,hub,e1,b1,e3,e4,e5,hr,hmd⟩
    simp only [treeL] at b1
    by_cases hlt : i < t.ents.length
    rotate_left
    · rw [List.drop_of_length_le (by omega),ordR] at hr
      refine Yg1 (fa4 @e1 @b1 @e5 @hlt) ?_
      refine Yf1 @hlt ?_
      refine LW_exit ?_;simp only [thenL,jumpsL,inBlockL,twoL,reduceIte,Nat.reduceEqDiff]
      exact ⟨hrg (by omega),uses,hul,fun x hx => by have := hub x hx;omega,(Yq1 @e1),(Yq1 (fa2 @b1 @treeL.eq_1)),fun hh => ⟨(Yq1 (e4 hh).1),(Yq1 (e4 hh).2)⟩,hr,(Yq1 @hmd)⟩
    obtain ⟨e,he⟩ := get_of_lt hlt
    have hem := List.mem_of_getElem? he
    have hd := drop_tent he
    have hw := w64s (n := i) (by omega)
    have hwn := w64s (n := next) (by omega)
    have hpl := h.path e hem
    have cm := rpmay_L e.path hpl
    have cp := rpparent_L e.path hpl
    have cf := rfind_L t h (parentB e.path).1
    rw [ordR_cons t he,← prevP_succ he] at hr
    have bad : entOkR t next (prevP t.ents i) e = false → R = false := fun hb => by rw [← hr,hb];rfl
    rw [entOkR_split] at bad hr
    refine Yg1 (fa4 @e1 @b1 @e5 @hlt) ?_
    refine Yt1 @hlt ?_
    refine Yg1 (fa5 @e1 @b1 @e5 @hlt @hd) ?_
    refine LW_slim (fun st => st.env 1 = .ptr 1 0 ∧ st.box 1 = some (treeL t) ∧ st.env 3 = intL next ∧ (0 < t.nodes.length → st.env 4 = .bsl 33 t.nodes.length 3 ∧ st.arr 33 = some (usesL uses)) ∧ st.env 5 = intL i ∧ st.env 6 = .ptr 6 0 ∧ st.box 6 = some (tentL e) ∧ st.mode = fun _ => false) ⟨(Yq1 @e1),(Yq1 (fa2 @b1 @treeL.eq_1)),(Yq1 @e3),fun hh => ⟨(Yq1 (e4 hh).1),(Yq1 (e4 hh).2)⟩,(Yq1 @e5),Yq0,(Yq1 @tentL.eq_1),(Yq1 @hmd)⟩ ?_
    clear e1 b1 e3 e4 e5 hmd st
    rintro st ⟨e1,b1,e3,e4,e5,e6,b6,hmd⟩
    simp only [treeL] at b1
    simp only [tentL] at b6
    (repeat refine LW_seq ?_)
    refine LW_joinC (fun st => (aheadR (prevP t.ents i) e.path = true ∧ 0 ≤ e.node ∧ e.node ≤ next ∧ e.node < (t.nodes.length : Int) ∧ mayB e.path = true) ∧ st.env 1 = .ptr 1 0 ∧ st.box 1 = some (treeL t) ∧ st.env 3 = intL next ∧ (0 < t.nodes.length → st.env 4 = .bsl 33 t.nodes.length 3 ∧ st.arr 33 = some (usesL uses)) ∧ st.env 5 = intL i ∧ st.env 6 = .ptr 6 0 ∧ st.box 6 = some (tentL e) ∧ st.mode = fun _ => false) ?_ ?_
    · by_cases hi : 0 < i
      · have hi0 : (0 : Int) < i := by omega
        obtain ⟨q,hq⟩ := get_of_lt (l := t.ents) (i := i - 1) (by omega)
        have hdq := drop_tent hq
        have hql := h.path q (List.mem_of_getElem? hq)
        have hwp := w64p (n := i) (by omega) (by omega)
        have hi1 : i - 1 < t.ents.length := by omega
        have hpv : prevP t.ents i = some q.path := by unfold prevP;rw [if_neg (by omega),hq];rfl
        have cl := rpless_L q.path e.path hql hpl
        cases h1' : mayB e.path
        · rw [h1'] at cm bad
          refine Yn1 (fa12 @e1 @b1 @e3 @e5 @e6 @b6 @hi @hi0 @hwp @hi1 @hdq @hmd) ?_;intro K hK
          refine Yc1 (cm) (fa12 @e1 @b1 @e3 @e5 @e6 @b6 @hi @hi0 @hwp @hi1 @hdq @hmd) ?_
          refine hK _ ?_;clear hK K;try refine Wh0 ?_
          refine Yt0 ?_
          refine Yg0 ?_
          refine Ye0 ?_;try (with_reducible exact trivial)
          rw [bad (by rfl)]
        rw [h1'] at cm bad
        cases hc : lessB q.path e.path
        · rw [hc] at cl
          refine Yn1 (fa12 @e1 @b1 @e3 @e5 @e6 @b6 @hi @hi0 @hwp @hi1 @hdq @hmd) ?_;intro K hK
          refine Yc1 (cm) (fa12 @e1 @b1 @e3 @e5 @e6 @b6 @hi @hi0 @hwp @hi1 @hdq @hmd) ?_
          refine Yc1 (cl) (fa12 @e1 @b1 @e3 @e5 @e6 @b6 @hi @hi0 @hwp @hi1 @hdq @hmd) ?_
          refine hK _ ?_;clear hK K;try refine Wh0 ?_
          refine Yt0 ?_
          refine Yg0 ?_
          refine Ye0 ?_;try (with_reducible exact trivial)
          rw [bad (by rw [hpv];simp [aheadR,hc])]
        rw [hc] at cl
        by_cases n0 : e.node < 0
        · refine Yn1 (fa13 @e1 @b1 @e3 @e5 @e6 @b6 @hi @hi0 @hwp @hi1 @hdq @n0 @hmd) ?_;intro K hK
          refine Yc1 (cm) (fa13 @e1 @b1 @e3 @e5 @e6 @b6 @hi @hi0 @hwp @hi1 @hdq @n0 @hmd) ?_
          refine Yc1 (cl) (fa13 @e1 @b1 @e3 @e5 @e6 @b6 @hi @hi0 @hwp @hi1 @hdq @n0 @hmd) ?_
          refine hK _ ?_;clear hK K;try refine Wh0 ?_
          refine Yt0 ?_
          refine Yg0 ?_
          refine Ye0 ?_;try (with_reducible exact trivial)
          rw [bad (by simp [n0])]
        by_cases n1 : (next : Int) < e.node
        · refine Yn1 (fa14 @e1 @b1 @e3 @e5 @e6 @b6 @hi @hi0 @hwp @hi1 @hdq @n0 @n1 @hmd) ?_;intro K hK
          refine Yc1 (cm) (fa14 @e1 @b1 @e3 @e5 @e6 @b6 @hi @hi0 @hwp @hi1 @hdq @n0 @n1 @hmd) ?_
          refine Yc1 (cl) (fa14 @e1 @b1 @e3 @e5 @e6 @b6 @hi @hi0 @hwp @hi1 @hdq @n0 @n1 @hmd) ?_
          refine hK _ ?_;clear hK K;try refine Wh0 ?_
          refine Yt0 ?_
          refine Yg0 ?_
          refine Ye0 ?_;try (with_reducible exact trivial)
          rw [bad (by simp [n1])]
        by_cases n2 : (t.nodes.length : Int) ≤ e.node
        · refine Yn1 (fa15 @e1 @b1 @e3 @e5 @e6 @b6 @hi @hi0 @hwp @hi1 @hdq @n0 @n1 @n2 @hmd) ?_;intro K hK
          refine Yc1 (cm) (fa15 @e1 @b1 @e3 @e5 @e6 @b6 @hi @hi0 @hwp @hi1 @hdq @n0 @n1 @n2 @hmd) ?_
          refine Yc1 (cl) (fa15 @e1 @b1 @e3 @e5 @e6 @b6 @hi @hi0 @hwp @hi1 @hdq @n0 @n1 @n2 @hmd) ?_
          refine hK _ ?_;clear hK K;try refine Wh0 ?_
          refine Yt0 ?_
          refine Yg0 ?_
          refine Ye0 ?_;try (with_reducible exact trivial)
          rw [bad (by simp [n2])]
        refine Yn1 (fa15 @e1 @b1 @e3 @e5 @e6 @b6 @hi @hi0 @hwp @hi1 @hdq @n0 @n1 @n2 @hmd) ?_;intro K hK
        refine Yc1 (cm) (fa15 @e1 @b1 @e3 @e5 @e6 @b6 @hi @hi0 @hwp @hi1 @hdq @n0 @n1 @n2 @hmd) ?_
        refine Yc1 (cl) (fa15 @e1 @b1 @e3 @e5 @e6 @b6 @hi @hi0 @hwp @hi1 @hdq @n0 @n1 @n2 @hmd) ?_
        refine hK _ ?_;clear hK K;try refine Wh0 ?_
        refine Yf0 ?_
        exact ⟨⟨by rw [hpv];exact hc,by omega,by omega,by omega,by first | rfl | trivial⟩,(Yq1 @e1),(Yq1 (fa2 @b1 @treeL.eq_1)),(Yq1 @e3),fun hh => ⟨(Yq1 (e4 hh).1),(Yq1 (e4 hh).2)⟩,(Yq1 @e5),(Yq1 @e6),(Yq1 (fa2 @b6 @tentL.eq_1)),(Yq1 @hmd)⟩
      · have hi0 : ¬ (0 : Int) < i := by omega
        have hiz : i = 0 := by omega
        cases h1' : mayB e.path
        · rw [h1'] at cm bad
          refine Yn1 (fa9 @e1 @b1 @e3 @e5 @e6 @b6 @hi @hi0 @hmd) ?_;intro K hK
          refine Yc1 (cm) (fa9 @e1 @b1 @e3 @e5 @e6 @b6 @hi @hi0 @hmd) ?_
          refine hK _ ?_;clear hK K;try refine Wh0 ?_
          refine Yt0 ?_
          refine Yg0 ?_
          refine Ye0 ?_;try (with_reducible exact trivial)
          rw [bad (by rfl)]
        rw [h1'] at cm bad
        by_cases n0 : e.node < 0
        · refine Yn1 (fa10 @e1 @b1 @e3 @e5 @e6 @b6 @hi @hi0 @n0 @hmd) ?_;intro K hK
          refine Yc1 (cm) (fa10 @e1 @b1 @e3 @e5 @e6 @b6 @hi @hi0 @n0 @hmd) ?_
          refine hK _ ?_;clear hK K;try refine Wh0 ?_
          refine Yt0 ?_
          refine Yg0 ?_
          refine Ye0 ?_;try (with_reducible exact trivial)
          rw [bad (by simp [n0])]
        by_cases n1 : (next : Int) < e.node
        · refine Yn1 (fa11 @e1 @b1 @e3 @e5 @e6 @b6 @hi @hi0 @n0 @n1 @hmd) ?_;intro K hK
          refine Yc1 (cm) (fa11 @e1 @b1 @e3 @e5 @e6 @b6 @hi @hi0 @n0 @n1 @hmd) ?_
          refine hK _ ?_;clear hK K;try refine Wh0 ?_
          refine Yt0 ?_
          refine Yg0 ?_
          refine Ye0 ?_;try (with_reducible exact trivial)
          rw [bad (by simp [n1])]
        by_cases n2 : (t.nodes.length : Int) ≤ e.node
        · refine Yn1 (fa12 @e1 @b1 @e3 @e5 @e6 @b6 @hi @hi0 @n0 @n1 @n2 @hmd) ?_;intro K hK
          refine Yc1 (cm) (fa12 @e1 @b1 @e3 @e5 @e6 @b6 @hi @hi0 @n0 @n1 @n2 @hmd) ?_
          refine hK _ ?_;clear hK K;try refine Wh0 ?_
          refine Yt0 ?_
          refine Yg0 ?_
          refine Ye0 ?_;try (with_reducible exact trivial)
          rw [bad (by simp [n2])]
        refine Yn1 (fa12 @e1 @b1 @e3 @e5 @e6 @b6 @hi @hi0 @n0 @n1 @n2 @hmd) ?_;intro K hK
        refine Yc1 (cm) (fa12 @e1 @b1 @e3 @e5 @e6 @b6 @hi @hi0 @n0 @n1 @n2 @hmd) ?_
        refine hK _ ?_;clear hK K;try refine Wh0 ?_
        refine Yf0 ?_
        exact ⟨⟨by rw [hiz];rfl,by omega,by omega,by omega,by first | rfl | trivial⟩,(Yq1 @e1),(Yq1 (fa2 @b1 @treeL.eq_1)),(Yq1 @e3),fun hh => ⟨(Yq1 (e4 hh).1),(Yq1 (e4 hh).2)⟩,(Yq1 @e5),(Yq1 @e6),(Yq1 (fa2 @b6 @tentL.eq_1)),(Yq1 @hmd)⟩
    clear bad e1 b1 e3 e4 e5 e6 b6 hmd st
    rintro st ⟨⟨k1,k2,k3,k4,k5⟩,e1,b1,e3,e4,e5,e6,b6,hmd⟩
    simp only [treeL] at b1
    simp only [tentL] at b6
    obtain ⟨k,hk⟩ : ∃ k : Nat,e.node = k := ⟨e.node.toNat,by omega⟩
    rw [k1,k5,hk,decide_eq_false (p := (k : Int) < 0) (by omega),decide_eq_false (p := (next : Int) < k) (by omega),decide_eq_false (p := (t.nodes.length : Int) ≤ k) (by omega)] at hr
    simp only [Bool.not_false,Bool.and_true,Bool.true_and] at hr
    have hkl : k < t.nodes.length := by omega
    obtain ⟨f4,a33⟩ := e4 (by omega)
    (repeat refine LW_seq ?_)
    refine LW_joinC (fun st => st.env 1 = .ptr 1 0 ∧ st.box 1 = some (treeL t) ∧ st.env 3 = intL (nextU next e) ∧ (0 < t.nodes.length → st.env 4 = .bsl 33 t.nodes.length 3 ∧ st.arr 33 = some (usesL uses)) ∧ st.env 5 = intL i ∧ st.env 6 = .ptr 6 0 ∧ st.box 6 = some (tentL e) ∧ st.mode = fun _ => false) ?_ ?_
    · by_cases hkn : k = next
      · have hkn2 : (k : Int) = next := by omega
        have hnu : nextU next e = next + 1 := by unfold nextU;rw [if_pos (by omega)]
        refine Yg1 (fa6 @e3 @e6 @b6 @hk @hkn @hkn2) ?_
        refine Yt0 ?_
        refine Yg1 (fa2 @e3 @hwn) ?_
        exact ⟨(Yq1 @e1),(Yq1 (fa2 @b1 @treeL.eq_1)),(Yq1 @hnu),fun hh => ⟨(Yq1 @f4),(Yq1 @a33)⟩,(Yq1 @e5),(Yq1 @e6),(Yq1 (fa3 @b6 @tentL.eq_1 @hk)),(Yq1 @hmd)⟩
      · have hkn2 : ¬ (k : Int) = next := by omega
        have hnu : nextU next e = next := by unfold nextU;rw [if_neg (by omega)]
        refine Yg1 (fa6 @e3 @e6 @b6 @hk @hkn @hkn2) ?_
        refine Yf0 ?_
        exact ⟨(Yq1 @e1),(Yq1 (fa2 @b1 @treeL.eq_1)),(Yq1 (fa2 @e3 @hnu)),fun hh => ⟨(Yq1 @f4),(Yq1 @a33)⟩,(Yq1 @e5),(Yq1 @e6),(Yq1 (fa3 @b6 @tentL.eq_1 @hk)),(Yq1 @hmd)⟩
    clear e1 b1 e3 e4 f4 a33 e5 e6 b6 hmd st
    rintro st ⟨e1,b1,e3,e4,e5,e6,b6,hmd⟩
    simp only [treeL] at b1
    simp only [tentL] at b6
    obtain ⟨f4,a33⟩ := e4 (by omega)
    obtain ⟨u,hu⟩ := get_of_lt (l := uses) (i := k) (by omega)
    have hdu := drop_uses hu
    have hsu := set_uses hu
    simp only [intL] at hsu
    rw [← List.singleton_append,← List.append_assoc] at hsu
    have hwu : IntKind.i64.wrap (u + 1) = u + 1 := by
      have := hub u (List.mem_of_getElem? hu)
      exact w64 (by omega)
    have hku : k + 1 ≤ uses.length := by omega
    have hkp : (0 : Int) ≤ (k : Int) := by omega
    (repeat refine LW_seq ?_)
    refine LW_join (fun st => st.env 1 = .ptr 1 0 ∧ st.box 1 = some (treeL t) ∧ st.env 3 = intL (nextU next e) ∧ (0 < t.nodes.length → st.env 4 = .bsl 33 t.nodes.length 3 ∧ st.arr 33 = some (usesL (bump uses k))) ∧ st.env 5 = intL i ∧ st.env 6 = .ptr 6 0 ∧ st.box 6 = some (tentL e) ∧ st.mode = fun _ => false) ?_ ?_
    · refine Yr1 (fa11 @f4 @a33 @e6 @b6 @hk @hkp @hkl @hdu @hwu @hku @uses_len) ?_;intro K hK
      refine hK _ ?_;clear hK K;try refine Wh0 ?_
      exact ⟨(Yq1 @e1),(Yq1 (fa2 @b1 @treeL.eq_1)),(Yq1 @e3),fun hh => ⟨(Yq1 @f4),(Yq1 @hsu)⟩,(Yq1 @e5),(Yq1 @e6),(Yq1 (fa3 @b6 @tentL.eq_1 @hk)),(Yq1 @hmd)⟩
    clear e1 b1 e3 e4 f4 a33 e5 e6 b6 hmd st
    rintro st ⟨e1,b1,e3,e4,e5,e6,b6,hmd⟩
    simp only [treeL] at b1
    simp only [tentL] at b6
    have hrg2 : 1 ≤ i + 1 → ∀ e,t.ents[0]? = some e → 0 ≤ e.node ∧ e.node < (t.nodes.length : Int) := by
      intro _ x hx
      by_cases hi : 1 ≤ i
      · exact hrg hi x hx
      · have hi0 : i = 0 := by omega
        rw [hi0,hx] at he
        cases (Option.some.inj he)
        exact ⟨k2,k4⟩
    unfold upR at hr
    generalize parentB e.path = pb at *
    simp only [treeL] at cf
    generalize findT t.ents pb.1 = f at *
    refine Yr1 (fa2 @e6 @b6) ?_;intro K hK
    refine Yc0 (cp) ?_
    refine hK _ ?_;clear hK K;try refine Wh0 ?_
    cases hpb : pb.2
    · rw [hpb] at hr
      refine Yg1 @hpb ?_
      refine Yf0 ?_
      refine Yg1 (fa2 @e5 @hw) ?_
      exact ⟨n - 1,by omega,i + 1,nextU next e,bump uses k,by omega,nextU_le hni,hrg2,by rw [bump_len];exact hul,bump_bound hub,(Yq1 @e1),(Yq1 (fa2 @b1 @treeL.eq_1)),(Yq1 @e3),fun hh => ⟨(Yq1 (e4 hh).1),(Yq1 (e4 hh).2)⟩,Yq0,by rw [← hr];rfl,(Yq1 @hmd)⟩
    rw [hpb] at hr
    refine Yg1 @hpb ?_
    refine Yt0 ?_
    refine Yr1 (fa2 @e1 @b1) ?_;intro K hK
    refine Yc0 (cf) ?_
    refine hK _ ?_;clear hK K;try refine Wh0 ?_
    cases h4 : f.2
    · rw [h4] at hr
      refine Yg1 @h4 ?_
      refine Yt0 ?_
      refine Yg0 ?_
      refine Ye0 ?_;try (with_reducible exact trivial)
      rw [← hr];rfl
    rw [h4] at hr
    by_cases g0 : f.1 < 0
    · refine Yg1 (fa2 @h4 @g0) ?_
      refine Yt0 ?_
      refine Yg0 ?_
      refine Ye0 ?_;try (with_reducible exact trivial)
      rw [← hr,decide_eq_true g0];rfl
    by_cases g1 : (t.nodes.length : Int) ≤ f.1
    · refine Yg1 (fa5 @h4 @g0 @e1 @b1 @g1) ?_
      refine Yt0 ?_
      refine Yg0 ?_
      refine Ye0 ?_;try (with_reducible exact trivial)
      rw [← hr,decide_eq_true g1];simp
    obtain ⟨m,hm⟩ : ∃ m : Nat,f.1 = m := ⟨f.1.toNat,by omega⟩
    rw [hm] at g0 g1 hr
    have hml : m < t.nodes.length := by omega
    have hmp : (0 : Int) ≤ (m : Int) := by omega
    obtain ⟨nk,hnk⟩ := get_of_lt hml
    have hdk := drop_node hnk
    simp only [nodeL,List.cons_append,List.nil_append] at hdk
    rw [kindAt_of hnk,decide_eq_false g0,decide_eq_false g1] at hr
    by_cases hkd : nk.kind = 1
    · rw [decide_eq_true hkd] at hr
      refine Yg1 (fa10 @h4 @hm @g0 @g1 @e1 @b1 @hmp @hml @hdk @hkd) ?_
      refine Yf0 ?_
      refine Yg1 (fa2 @e5 @hw) ?_
      exact ⟨n - 1,by omega,i + 1,nextU next e,bump uses k,by omega,nextU_le hni,hrg2,by rw [bump_len];exact hul,bump_bound hub,(Yq1 @e1),(Yq1 (fa2 @b1 @treeL.eq_1)),(Yq1 @e3),fun hh => ⟨(Yq1 (e4 hh).1),(Yq1 (e4 hh).2)⟩,Yq0,by rw [← hr];rfl,(Yq1 @hmd)⟩
    · rw [decide_eq_false hkd] at hr
      refine Yg1 (fa10 @h4 @hm @g0 @g1 @e1 @b1 @hmp @hml @hdk @hkd) ?_
      refine Yt0 ?_
      refine Yg0 ?_
      refine Ye0 ?_;try (with_reducible exact trivial)
      rw [← hr];rfl
  rintro st ⟨hrg,uses,hul,hub,e1,b1,e4,hr,hmd⟩
  refine Yg1 @e1 ?_
  refine LW_joinB (fun st => (∀ e,t.ents[0]? = some e → 0 ≤ e.node ∧ e.node < (t.nodes.length : Int)) ∧ st.env 1 = .ptr 1 0 ∧ st.box 1 = some (treeL t) ∧ headKind t = R ∧ st.mode = fun _ => false) ?_ ?_
  · refine LW_loop (fun n st => ∃ i : Nat,n + i = t.nodes.length ∧ st.env 1 = .ptr 1 0 ∧ st.box 1 = some (treeL t) ∧ (0 < t.nodes.length → st.env 4 = .bsl 33 t.nodes.length 3 ∧ st.arr 33 = some (usesL uses)) ∧ st.env 11 = intL i ∧ (nodesR (t.nodes.drop i) (uses.drop i) && headKind t) = R ∧ st.mode = fun _ => false) t.nodes.length ⟨0,by omega,(Yq1 @e1),(Yq1 @b1),fun hh => ⟨(Yq1 (e4 hh).1),(Yq1 (e4 hh).2)⟩,Yq0,hr,(Yq1 @hmd)⟩ ?_
    clear e1 b1 e4 hmd st
    rintro n st ⟨i,hn,e1,b1,e4,e11,hr,hmd⟩
    simp only [treeL] at b1
    by_cases hlt : i < t.nodes.length
    rotate_left
    · rw [List.drop_of_length_le (l := t.nodes) (by omega)] at hr
      refine Yg1 (fa4 @e1 @b1 @e11 @hlt) ?_
      refine Yf1 @hlt ?_
      refine LW_exit ?_;simp only [thenL,jumpsL,inBlockL,twoL,reduceIte,Nat.reduceEqDiff]
      exact ⟨hrg,(Yq1 @e1),(Yq1 (fa2 @b1 @treeL.eq_1)),by rw [← hr];simp [nodesR],(Yq1 @hmd)⟩
    obtain ⟨f4,a33⟩ := e4 (by omega)
    obtain ⟨nd,hnd⟩ := get_of_lt hlt
    obtain ⟨u,hu⟩ := get_of_lt (l := uses) (i := i) (by omega)
    have hdn := drop_node hnd
    have hdu := drop_uses hu
    have hw := w64s (n := i) (by omega)
    have hnm := h.node nd (List.mem_of_getElem? hnd)
    have cn := rmayNode_L nd hnm.1 hnm.2
    simp only [nodeL,attrsL,acesL,piecesL,rowL,List.cons_append,List.nil_append] at cn hdn
    have hip : (0 : Int) ≤ (i : Int) := by omega
    rw [nodesR_drop hnd hu] at hr
    unfold nodeOkR at hr
    refine Yg1 (fa4 @e1 @b1 @e11 @hlt) ?_
    refine Yt1 @hlt ?_
    cases h1' : mayN nd
    · rw [h1'] at cn hr
      refine Yr1 (fa6 @e1 @b1 @e11 @hlt @hip @hdn) ?_;intro K hK
      refine Yc0 (cn) ?_
      refine hK _ ?_;clear hK K;try refine Wh0 ?_
      refine Yt0 ?_
      refine Yg0 ?_
      refine Ye0 ?_;try (with_reducible exact trivial)
      rw [← hr];rfl
    rw [h1'] at cn hr
    by_cases hu0 : u = 0
    · rw [decide_eq_true hu0] at hr
      refine Yr1 (fa6 @e1 @b1 @e11 @hlt @hip @hdn) ?_;intro K hK
      refine Yc1 (cn) (fa7 @f4 @a33 @e11 @hlt @hip @hdu @hu0) ?_
      refine hK _ ?_;clear hK K;try refine Wh0 ?_
      refine Yt0 ?_
      refine Yg0 ?_
      refine Ye0 ?_;try (with_reducible exact trivial)
      rw [← hr];rfl
    rw [decide_eq_false hu0] at hr
    by_cases hk1 : nd.kind = 1
    · rw [decide_eq_true hk1] at hr
      by_cases hu1 : u = 1
      · rw [decide_eq_true hu1] at hr
        refine Yr1 (fa6 @e1 @b1 @e11 @hlt @hip @hdn) ?_;intro K hK
        refine Yc1 (cn) (fa12 @e1 @b1 @f4 @a33 @e11 @hlt @hip @hdu @hdn @hu0 @hu1 @hk1) ?_
        refine hK _ ?_;clear hK K;try refine Wh0 ?_
        refine Yf0 ?_
        refine Yg1 (fa2 @e11 @hw) ?_
        exact ⟨n - 1,by omega,i + 1,by omega,(Yq1 @e1),(Yq1 (fa2 @b1 @treeL.eq_1)),fun hh => ⟨(Yq1 @f4),(Yq1 @a33)⟩,Yq0,by rw [← hr];rfl,(Yq1 @hmd)⟩
      · rw [decide_eq_false hu1] at hr
        refine Yr1 (fa6 @e1 @b1 @e11 @hlt @hip @hdn) ?_;intro K hK
        refine Yc1 (cn) (fa12 @e1 @b1 @f4 @a33 @e11 @hlt @hip @hdu @hdn @hu0 @hu1 @hk1) ?_
        refine hK _ ?_;clear hK K;try refine Wh0 ?_
        refine Yt0 ?_
        refine Yg0 ?_
        refine Ye0 ?_;try (with_reducible exact trivial)
        rw [← hr];rfl
    · rw [decide_eq_false hk1] at hr
      refine Yr1 (fa6 @e1 @b1 @e11 @hlt @hip @hdn) ?_;intro K hK
      refine Yc1 (cn) (fa11 @e1 @b1 @f4 @a33 @e11 @hlt @hip @hdu @hdn @hu0 @hk1) ?_
      refine hK _ ?_;clear hK K;try refine Wh0 ?_
      refine Yf0 ?_
      refine Yg1 (fa2 @e11 @hw) ?_
      exact ⟨n - 1,by omega,i + 1,by omega,(Yq1 @e1),(Yq1 (fa2 @b1 @treeL.eq_1)),fun hh => ⟨(Yq1 @f4),(Yq1 @a33)⟩,Yq0,by rw [← hr];rfl,(Yq1 @hmd)⟩
  clear e1 b1 e4 hmd st
  rintro st ⟨_,e1,b1,hh,hmd⟩
  simp only [treeL] at b1
  have hrk := hrg eh heh
  obtain ⟨k,hk⟩ : ∃ k : Nat,eh.node = k := ⟨eh.node.toNat,by omega⟩
  have hkl : k < t.nodes.length := by omega
  have hkp : (0 : Int) ≤ (k : Int) := by omega
  obtain ⟨nd,hnd⟩ := get_of_lt hkl
  have hdn := drop_node hnd
  simp only [nodeL,List.cons_append,List.nil_append] at hdn
  rw [headKind_of heh hk hnd] at hh
  by_cases hk1 : nd.kind = 1
  · refine Yn1 (fa11 @e1 @b1 @h0l @h0n @hdh @hk @hkl @hkp @hdn @hk1 @hmd) ?_;intro K hK
    refine hK _ ?_;clear hK K;try refine Wh0 ?_
    refine Ye0 ?_;try (with_reducible exact trivial)
    rw [← hh,decide_eq_true hk1]
  · refine Yn1 (fa11 @e1 @b1 @h0l @h0n @hdh @hk @hkl @hkp @hdn @hk1 @hmd) ?_;intro K hK
    refine hK _ ?_;clear hK K;try refine Wh0 ?_
    refine Ye0 ?_;try (with_reducible exact trivial)
    rw [← hh,decide_eq_false hk1]
end Go.Proofs.YtbffcndmcaeamaaDoor
end
