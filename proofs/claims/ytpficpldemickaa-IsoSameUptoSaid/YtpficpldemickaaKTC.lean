import Derived.Test.YtpficpldemickaaKTB
import Derived.Test.YtpficpldemickaaKN8
import Derived.Test.YtpficpldemickaaISpec
set_option linter.unusedSimpArgs false
set_option linter.unusedVariables false
namespace Go.Proofs.Ytpficpldemickaa
open Go.RowKit Go.Proofs AclSpec MetaSpec NodeSpec PathSpec TreeSpec

def tentL (e : TEnt) : List LV := [strL e.path,intL e.node]
theorem tentL_len (e : TEnt) : (tentL e).length = 2 := rfl
theorem nodeL_len (n : FNode) : (nodeL n).length = 12 := rfl
def treeL (t : FTree) : List LV := [.sl t.ents.length (t.ents.flatMap tentL) .no,.sl t.nodes.length (t.nodes.flatMap nodeL) .no]
theorem drop_tent {l : List TEnt} {i : Nat} {a : TEnt} (h : l[i]? = some a) : (l.flatMap tentL).drop (i * 2) = strL a.path :: intL a.node :: (l.drop (i + 1)).flatMap tentL := drop_flat tentL 2 tentL_len h
theorem drop_node {l : List FNode} {i : Nat} {n : FNode} (h : l[i]? = some n) : (l.flatMap nodeL).drop (i * 12) = nodeL n ++ (l.drop (i + 1)).flatMap nodeL := drop_flat nodeL 12 nodeL_len h
structure SmallT (t : FTree) : Prop where
  ents : t.ents.length ≤ 1000000
  nodes : t.nodes.length ≤ 1000000
  path : ∀ e ∈ t.ents,e.path.length < 1000000
  node : ∀ n ∈ t.nodes,small n ∧ n.target.length ≤ maxLen

set_option maxRecDepth 100000 in
theorem tfind_L (t : FTree) (h : SmallT t) (p : List UInt8) : LCalls Try.prog 47 [.agg (treeL t),strL p] (.tup [intL (findT t.ents p).1,boolL (findT t.ents p).2]) := by
  have hl := h.ents
  refine LCalls.of (fun _ => false) Try.func47 rfl (by decide) Try.ntmps47 Try.results47 (by simp) ?_
  intro w0 S0 vs hgl hwf0 hsz hvs;clear hsz hvs hwf0 hgl
  generalize hR : findT t.ents p = R
  refine Yg1 @treeL.eq_1 ?_
  refine LW_lab1 (fun n st => ∃ i : Nat,n + i = t.ents.length ∧ st.env 1 = strL p ∧ st.env 2 = .ptr 2 0 ∧ st.box 2 = some (treeL t) ∧ st.env 6 = intL i ∧ findT (t.ents.drop i) p = R) rfl ?_ ?_
  · intro hJ
    refine Yl0 ?_
    exact hJ.out t.ents.length _ ⟨0,by omega,rfl,rfl,rfl,rfl,hR⟩
  · rintro n st ⟨i,hn,e1,e2,b2,e6,hr⟩
    simp only [treeL] at b2
    by_cases hlt : i < t.ents.length
    · obtain ⟨e,he⟩ := get_of_lt hlt
      have hd := drop_tent he
      have hw := w64s (n := i) (by omega)
      refine Yg1 (fa4 @e2 @b2 @e6 @hlt) ?_
      refine Yt1 @hlt ?_
      by_cases hp : e.path = p
      · rw [findT_hit he hp] at hr
        refine Yg1 (fa7 @e1 @e2 @b2 @e6 @hlt @hd @hp) ?_
        refine Yt0 ?_
        refine Yg1 (fa6 @e1 @e2 @b2 @e6 @hlt @hd) ?_
        refine Ye0 ?_;try (with_reducible exact trivial)
        rw [← hr];exact ⟨rfl,rfl⟩
      · rw [findT_miss he hp] at hr
        refine Yg1 (fa7 @e1 @e2 @b2 @e6 @hlt @hd @hp) ?_
        refine Yf0 ?_
        refine Yg1 (fa2 @e6 @hw) ?_
        refine LW_goto ?_;simp only [thenL,jumpsL,inBlockL,twoL,true_and]
        exact ⟨n - 1,by omega,i + 1,by omega,(Yq1 @e1),(Yq1 @e2),(Yq1 (fa2 @b2 @treeL.eq_1)),Yq0,hr⟩
    · rw [List.drop_of_length_le (by omega)] at hr
      refine Yg1 (fa4 @e2 @b2 @e6 @hlt) ?_
      refine Yf1 @hlt ?_
      refine Yg0 ?_
      refine Ye0 ?_;try (with_reducible exact trivial)
      rw [← hr];exact ⟨rfl,rfl⟩

theorem LW_joinC {P : Program} {N : Nat} {w0 : World} {S0 : Ent} {a b : Code} {Q Q2 : Exit → LSt → Prop} {K : LSt → Prop} {st : LSt} (M : LSt → Prop) (h1 : LW P N w0 S0 a (thenL (LW P N w0 S0 b (thenL M Q)) Q2) st) (h2 : ∀ st',M st' → K st') : LW P N w0 S0 a (thenL (LW P N w0 S0 b (thenL K Q)) Q2) st :=
  h1.mono fun e st' h => by cases e <;> first | exact LW_join M h h2 | exact h
def ahead (prev : Option (List UInt8)) (p : List UInt8) : Bool := match prev with | none => decide (p = []) | some q => lessB q p
theorem entOk_eq (ns : List FNode) (used : Nat) (prev : Option (List UInt8)) (e : TEnt) : entOk ns used prev e = (mayB e.path && ahead prev e.path && !decide (e.node < 0) && !decide ((used : Int) < e.node) && !decide ((ns.length : Int) ≤ e.node) && !(decide (e.node < used) && decide (kindAt ns e.node = 1)) && (!decide (e.node = used) || mayAt ns used)) := by cases prev <;> rfl
def prevP (l : List TEnt) (i : Nat) : Option (List UInt8) := if i = 0 then none else (l[i - 1]?).map (·.path)
theorem prevP_zero (l : List TEnt) : prevP l 0 = none := rfl
theorem prevP_succ {l : List TEnt} {i : Nat} {e : TEnt} (h : l[i]? = some e) : prevP l (i + 1) = some e.path := by
  unfold prevP;rw [if_neg (by omega),Nat.add_sub_cancel,h];rfl
theorem nextU_le {used i : Nat} {e : TEnt} (h : used ≤ i) : nextU used e ≤ i + 1 := by unfold nextU;split <;> omega
set_option maxRecDepth 100000 in
set_option maxHeartbeats 4000000 in
theorem tordered_L (t : FTree) (h : SmallT t) : LCalls Try.prog 60 [.agg (treeL t)] (boolL (ordG t.nodes none 0 t.ents)) := by
  have hl := h.ents
  have hln := h.nodes
  refine LCalls.of (fun _ => false) Try.func60 rfl (by decide) Try.ntmps60 Try.results60 (by simp) ?_
  intro w0 S0 vs hgl hwf0 hsz hvs;clear hsz hvs hwf0 hgl
  generalize hR : ordG t.nodes none 0 t.ents = R
  refine Yg1 @treeL.eq_1 ?_
  refine LW_lab1 (fun n st => ∃ (i used : Nat),n + i = t.ents.length ∧ used ≤ i ∧ st.env 1 = .ptr 1 0 ∧ st.box 1 = some (treeL t) ∧ st.env 3 = intL used ∧ st.env 4 = intL i ∧ ordG t.nodes (prevP t.ents i) used (t.ents.drop i) = R ∧ st.mode = fun _ => false) rfl ?_ ?_
  · intro hJ
    refine Yl0 ?_
    exact hJ.out t.ents.length _ ⟨0,0,by omega,by omega,rfl,rfl,rfl,rfl,hR,rfl⟩
  · rintro n st ⟨i,used,hn,hui,e1,b1,e3,e4,hr,hmd⟩
    simp only [treeL] at b1
    by_cases hlt : i < t.ents.length
    rotate_left
    · rw [List.drop_of_length_le (by omega),ordG] at hr
      refine Yg1 (fa4 @e1 @b1 @e4 @hlt) ?_
      refine Yf1 @hlt ?_
      have hui2 : decide ((used : Int) = (t.nodes.length : Int)) = R := by
        rw [← hr,decide_eq_decide];omega
      refine Yg1 (fa4 @e1 @b1 @e3 @hui2) ?_
      refine Ye0 ?_;try (with_reducible exact trivial)
    obtain ⟨e,he⟩ := get_of_lt hlt
    have hem := List.mem_of_getElem? he
    have hd := drop_tent he
    have hw := w64s (n := i) (by omega)
    have hpl := h.path e hem
    have cm := pmay_L e.path hpl
    rw [ordG_cons t.nodes he,← prevP_succ he] at hr
    refine Yg1 (fa4 @e1 @b1 @e4 @hlt) ?_
    refine Yt1 @hlt ?_
    refine Yg1 (fa5 @e1 @b1 @e4 @hlt @hd) ?_
    refine LW_slim (fun st => st.env 1 = .ptr 1 0 ∧ st.box 1 = some (treeL t) ∧ st.env 3 = intL used ∧ st.env 4 = intL i ∧ st.env 5 = .ptr 5 0 ∧ st.box 5 = some (tentL e) ∧ st.mode = fun _ => false) ⟨(Yq1 @e1),(Yq1 (fa2 @b1 @treeL.eq_1)),(Yq1 @e3),(Yq1 @e4),Yq0,(Yq1 @tentL.eq_1),(Yq1 @hmd)⟩ ?_
    clear e1 b1 e3 e4 hmd st
    rintro st ⟨e1,b1,e3,e4,e5,b5,hmd⟩
    simp only [treeL] at b1
    simp only [tentL] at b5
    have bad : entOk t.nodes used (prevP t.ents i) e = false → R = false := fun hb => by rw [← hr,hb];rfl
    rw [entOk_eq] at bad hr
    cases h1 : mayB e.path
    · rw [h1] at cm
      refine Yr1 (fa2 @e5 @b5) ?_;intro K hK
      refine Yc0 (cm) ?_
      refine hK _ ?_;clear hK K;try refine Wh0 ?_
      refine Yt0 ?_
      refine Yg0 ?_
      refine Ye0 ?_;try (with_reducible exact trivial)
      rw [bad (by rw [h1];rfl)]
    rw [h1] at cm bad hr
    refine LW_joinC (fun st => (i = 0 → e.path = []) ∧ st.env 1 = .ptr 1 0 ∧ st.box 1 = some (treeL t) ∧ st.env 3 = intL used ∧ st.env 4 = intL i ∧ st.env 5 = .ptr 5 0 ∧ st.box 5 = some (tentL e) ∧ st.mode = fun _ => false) ?_ ?_
    · by_cases hi : i = 0
      · have hi0 : (i : Int) = 0 := by omega
        by_cases hp : e.path = []
        · rw [hp] at cm
          refine Yr1 (fa3 @e5 @b5 @hp) ?_;intro K hK
          refine Yc1 (cm) (fa5 @e4 @hi0 @e5 @b5 @hp) ?_
          refine hK _ ?_;clear hK K;try refine Wh0 ?_
          refine Yf0 ?_
          exact ⟨fun _ => hp,(Yq1 @e1),(Yq1 (fa2 @b1 @treeL.eq_1)),(Yq1 @e3),(Yq1 @e4),(Yq1 @e5),(Yq1 (fa2 @b5 @tentL.eq_1)),(Yq1 @hmd)⟩
        · refine Yr1 (fa2 @e5 @b5) ?_;intro K hK
          refine Yc1 (cm) (fa5 @e4 @hi0 @e5 @b5 @hp) ?_
          refine hK _ ?_;clear hK K;try refine Wh0 ?_
          refine Yt0 ?_
          refine Yg0 ?_
          refine Ye0 ?_;try (with_reducible exact trivial)
          rw [bad (by rw [hi,prevP_zero];simp [ahead,hp])]
      · have hi0 : ¬ (i : Int) = 0 := by omega
        refine Yr1 (fa2 @e5 @b5) ?_;intro K hK
        refine Yc1 (cm) (fa4 @e4 @hi0 @e5 @b5) ?_
        refine hK _ ?_;clear hK K;try refine Wh0 ?_
        refine Yf0 ?_
        exact ⟨fun h => absurd h hi,(Yq1 @e1),(Yq1 (fa2 @b1 @treeL.eq_1)),(Yq1 @e3),(Yq1 @e4),(Yq1 @e5),(Yq1 (fa2 @b5 @tentL.eq_1)),(Yq1 @hmd)⟩
    clear e1 b1 e3 e4 e5 b5 hmd st
    rintro st ⟨hroot,e1,b1,e3,e4,e5,b5,hmd⟩
    simp only [treeL] at b1
    simp only [tentL] at b5
    (repeat refine LW_seq ?_)
    refine LW_joinC (fun st => ahead (prevP t.ents i) e.path = true ∧ st.env 1 = .ptr 1 0 ∧ st.box 1 = some (treeL t) ∧ st.env 3 = intL used ∧ st.env 4 = intL i ∧ st.env 5 = .ptr 5 0 ∧ st.box 5 = some (tentL e) ∧ st.mode = fun _ => false) ?_ ?_
    · by_cases hi : 0 < i
      · have hi0 : (0 : Int) < i := by omega
        obtain ⟨q,hq⟩ := get_of_lt (l := t.ents) (i := i - 1) (by omega)
        have hdq := drop_tent hq
        have hql := h.path q (List.mem_of_getElem? hq)
        have hwp := w64p (n := i) (by omega) (by omega)
        have hi1 : i - 1 < t.ents.length := by omega
        have hpv : prevP t.ents i = some q.path := by unfold prevP;rw [if_neg (by omega),hq];rfl
        have cl := pless_L q.path e.path hql hpl
        cases hc : lessB q.path e.path
        · rw [hc] at cl
          refine Yn1 (fa11 @e1 @b1 @e4 @e5 @b5 @hi @hi0 @hwp @hi1 @hdq @hmd) ?_;intro K hK
          refine Yc0 (cl) ?_
          refine hK _ ?_;clear hK K;try refine Wh0 ?_
          refine Yt0 ?_
          refine Yg0 ?_
          refine Ye0 ?_;try (with_reducible exact trivial)
          rw [bad (by rw [hpv];simp [ahead,hc])]
        · rw [hc] at cl
          refine Yn1 (fa11 @e1 @b1 @e4 @e5 @b5 @hi @hi0 @hwp @hi1 @hdq @hmd) ?_;intro K hK
          refine Yc0 (cl) ?_
          refine hK _ ?_;clear hK K;try refine Wh0 ?_
          refine Yf0 ?_
          exact ⟨by rw [hpv];exact hc,(Yq1 @e1),(Yq1 (fa2 @b1 @treeL.eq_1)),(Yq1 @e3),(Yq1 @e4),(Yq1 @e5),(Yq1 (fa2 @b5 @tentL.eq_1)),(Yq1 @hmd)⟩
      · have hi0 : ¬ (0 : Int) < i := by omega
        have hiz : i = 0 := by omega
        refine Yn1 (fa4 @e4 @hi @hi0 @hmd) ?_;intro K hK
        refine hK _ ?_;clear hK K;try refine Wh0 ?_
        refine Yf0 ?_
        exact ⟨by rw [hiz,prevP_zero];simp [ahead,hroot hiz],(Yq1 @e1),(Yq1 (fa2 @b1 @treeL.eq_1)),(Yq1 @e3),(Yq1 @e4),(Yq1 @e5),(Yq1 (fa2 @b5 @tentL.eq_1)),(Yq1 @hmd)⟩
    clear e1 b1 e3 e4 e5 b5 hmd st
    rintro st ⟨hord,e1,b1,e3,e4,e5,b5,hmd⟩
    rw [hord] at bad hr
    simp only [treeL] at b1
    simp only [tentL] at b5
    by_cases n0 : e.node < 0
    · refine Yg1 (fa3 @e5 @b5 @n0) ?_
      refine Yt0 ?_
      refine Yg0 ?_
      refine Ye0 ?_;try (with_reducible exact trivial)
      rw [bad (by simp [n0])]
    by_cases n1 : (used : Int) < e.node
    · refine Yg1 (fa5 @e3 @e5 @b5 @n0 @n1) ?_
      refine Yt0 ?_
      refine Yg0 ?_
      refine Ye0 ?_;try (with_reducible exact trivial)
      rw [bad (by simp [n1])]
    by_cases n2 : (t.nodes.length : Int) ≤ e.node
    · refine Yg1 (fa8 @e1 @b1 @e3 @e5 @b5 @n0 @n1 @n2) ?_
      refine Yt0 ?_
      refine Yg0 ?_
      refine Ye0 ?_;try (with_reducible exact trivial)
      rw [bad (by simp [n2])]
    refine Yg1 (fa8 @e1 @b1 @e3 @e5 @b5 @n0 @n1 @n2) ?_
    refine Yf0 ?_
    obtain ⟨k,hk⟩ : ∃ k : Nat,e.node = k := ⟨e.node.toNat,by omega⟩
    rw [hk] at n0 n1 n2
    have hkl : k < t.nodes.length := by omega
    obtain ⟨nd,hnd⟩ := get_of_lt hkl
    have hdn := drop_node hnd
    simp only [nodeL,List.cons_append,List.nil_append] at hdn
    have hka := kindAt_of hnd
    have hma := mayAt_of hnd
    have hnm := h.node nd (List.mem_of_getElem? hnd)
    have hnu : nextU used e = if k = used then used + 1 else used := by
      unfold nextU;rw [hk]
      by_cases hh : k = used
      · rw [if_pos (by omega),if_pos hh]
      · rw [if_neg (by omega),if_neg hh]
    rw [hk,hka] at bad
    rw [hk,hka,hnu] at hr
    have hk0 : (0 : Int) ≤ (k : Int) := by omega
    by_cases hu : k < used
    · by_cases hkd : nd.kind = 1
      · refine Yg1 (fa11 @e1 @b1 @e3 @e5 @b5 @hk @hu @hk0 @hkl @hdn @hkd) ?_
        refine Yt0 ?_
        refine Yg0 ?_
        refine Ye0 ?_;try (with_reducible exact trivial)
        rw [bad (by simp [hu,hkd])]
      · have hne : ¬ k = used := by omega
        have hne2 : ¬ (k : Int) = (used : Int) := by omega
        rw [if_neg hne] at hr
        refine Yg1 (fa11 @e1 @b1 @e3 @e5 @b5 @hk @hu @hk0 @hkl @hdn @hkd) ?_
        refine Yf0 ?_
        refine Yg1 (fa6 @e3 @e5 @b5 @hk @hne @hne2) ?_
        refine Yf0 ?_
        refine Yg1 (fa2 @e4 @hw) ?_
        refine LW_goto ?_;simp only [thenL,jumpsL,inBlockL,twoL,true_and]
        refine ⟨n - 1,by omega,i + 1,used,by omega,by omega,(Yq1 @e1),(Yq1 (fa2 @b1 @treeL.eq_1)),(Yq1 @e3),Yq0,?_,(Yq1 @hmd)⟩
        rw [← hr]
        have m0 : decide ((k : Int) < 0) = false := decide_eq_false (by omega)
        have m1 : decide ((used : Int) < (k : Int)) = false := decide_eq_false (by omega)
        have m2 : decide ((t.nodes.length : Int) ≤ (k : Int)) = false := decide_eq_false (by omega)
        have m3 : decide ((k : Int) = (used : Int)) = false := decide_eq_false (by omega)
        have m4 : decide (nd.kind = 1) = false := decide_eq_false hkd
        rw [m0,m1,m2,m3,m4]
        simp
    have heq : k = used := by omega
    subst heq
    rw [if_pos rfl] at hr
    have cn := nmay_L nd hnm.1
    rw [hma] at bad hr
    have m0 : decide ((k : Int) < 0) = false := decide_eq_false (by omega)
    have m1 : decide ((k : Int) < (k : Int)) = false := decide_eq_false (by omega)
    have m2 : decide ((t.nodes.length : Int) ≤ (k : Int)) = false := decide_eq_false (by omega)
    have m3 : decide ((k : Int) = (k : Int)) = true := decide_eq_true rfl
    rw [m0,m1,m2,m3] at bad hr
    have hwk := w64s (n := k) (by omega)
    simp only [nodeL,attrsL,acesL,piecesL,rowL] at cn hdn
    refine Yg1 (fa7 @e1 @b1 @e3 @e5 @b5 @hk @hu) ?_
    refine Yf0 ?_
    refine Yg1 (fa4 @e3 @e5 @b5 @hk) ?_
    refine Yt0 ?_
    cases hy : mayN nd
    · rw [hy] at cn bad
      refine Yr1 (fa6 @e1 @b1 @e3 @hk0 @hkl @hdn) ?_;intro K hK
      refine Yc0 (cn) ?_
      refine hK _ ?_;clear hK K;try refine Wh0 ?_
      refine Yt0 ?_
      refine Yg0 ?_
      refine Ye0 ?_;try (with_reducible exact trivial)
      rw [bad (by simp)]
    · rw [hy] at cn hr
      refine Yr1 (fa6 @e1 @b1 @e3 @hk0 @hkl @hdn) ?_;intro K hK
      refine Yc0 (cn) ?_
      refine hK _ ?_;clear hK K;try refine Wh0 ?_
      refine Yf0 ?_
      refine Yg1 (fa4 @e3 @e4 @hw @hwk) ?_
      refine LW_goto ?_;simp only [thenL,jumpsL,inBlockL,twoL,true_and]
      refine ⟨n - 1,by omega,i + 1,k + 1,by omega,by omega,(Yq1 @e1),(Yq1 (fa2 @b1 @treeL.eq_1)),Yq0,Yq0,?_,(Yq1 @hmd)⟩
      rw [← hr];simp

set_option maxRecDepth 100000 in
set_option maxHeartbeats 2000000 in
theorem tmay_L (t : FTree) (h : SmallT t) : LCalls Try.prog 46 [.agg (treeL t)] (boolL (mayT t)) := by
  have co := tordered_L t h
  have hl := h.ents
  simp only [treeL] at co
  refine LCalls.of (fun _ => false) Try.func46 rfl (by decide) Try.ntmps46 Try.results46 (by simp) ?_
  intro w0 S0 vs hgl hwf0 hsz hvs;clear hsz hvs hwf0 hgl
  generalize hR : mayT t = R
  unfold mayT at hR
  refine Yg1 @treeL.eq_1 ?_
  by_cases h1 : (t.ents.length : Int) < 1
  · refine LW_scope_straight ?_
    refine Yg1 @h1 ?_
    refine Yt0 ?_
    refine Yg0 ?_
    refine Ye0 ?_;try (with_reducible exact trivial)
    rw [← hR,decide_eq_false (p := 1 ≤ t.ents.length) (by omega)];rfl
  by_cases h2 : (100 : Int) < t.ents.length
  · refine LW_scope_straight ?_
    refine Yg1 (fa2 @h1 @h2) ?_
    refine Yt0 ?_
    refine Yg0 ?_
    refine Ye0 ?_;try (with_reducible exact trivial)
    rw [← hR,decide_eq_false (p := t.ents.length ≤ 100) (by omega)];simp
  rw [decide_eq_true (p := 1 ≤ t.ents.length) (by omega),decide_eq_true (p := t.ents.length ≤ 100) (by omega),Bool.true_and,Bool.true_and] at hR
  cases h3 : ordG t.nodes none 0 t.ents
  · rw [h3] at co hR
    refine LW_scope_straight ?_
    refine Yr1 (fa2 @h1 @h2) ?_;intro K hK
    refine Yc0 (co) ?_
    refine hK _ ?_;clear hK K;try refine Wh0 ?_
    refine Yt0 ?_
    refine Yg0 ?_
    refine Ye0 ?_;try (with_reducible exact trivial)
    rw [← hR];rfl
  rw [h3] at co hR
  have hrange := ordG_range h3
  obtain ⟨e,he⟩ := get_of_lt (l := t.ents) (i := 0) (by omega)
  have hd := drop_tent he
  rw [Nat.zero_mul,List.drop_zero] at hd
  obtain ⟨k0,hk0⟩ : ∃ k : Nat,e.node = k := ⟨e.node.toNat,by have := hrange e (List.mem_of_getElem? he);omega⟩
  have hkl : k0 < t.nodes.length := by have := (hrange e (List.mem_of_getElem? he)).2;omega
  obtain ⟨nd,hnd⟩ := get_of_lt hkl
  have hdn := drop_node hnd
  simp only [nodeL,List.cons_append,List.nil_append] at hdn
  have hhead : headKind t = decide (nd.kind = 1) := by
    unfold headKind
    have : t.ents = e :: t.ents.drop 1 := by
      have h0 : 0 < t.ents.length := by omega
      have := List.drop_eq_getElem_cons h0
      rw [List.drop_zero] at this
      rw [List.getElem?_eq_getElem h0] at he
      rw [this];congr 1
      exact Option.some.inj he
    rw [this]
    simp only [hk0,kindAt_of hnd]
  rw [hhead] at hR
  have h0l : (0 : Int) < (t.ents.length : Int) := by omega
  have hkp : (0 : Int) ≤ (k0 : Int) := by omega
  refine LW_lab1 (fun n st => ∃ i : Nat,n + i = t.ents.length ∧ 1 ≤ i ∧ st.env 1 = .ptr 1 0 ∧ st.box 1 = some (treeL t) ∧ st.env 3 = intL i ∧ (t.ents.drop i).all (upOk t) = R) rfl ?_ ?_
  · intro hJ
    refine Yr1 (fa2 @h1 @h2) ?_;intro K hK
    refine Yc0 (co) ?_
    refine hK _ ?_;clear hK K;try refine Wh0 ?_
    refine Yf0 ?_
    by_cases hkd : nd.kind = 1
    · rw [decide_eq_true hkd,Bool.true_and] at hR
      refine Yn1 (fa7 @h0l @hd @hk0 @hkp @hkl @hdn @hkd) ?_;intro K hK
      refine hK _ ?_;clear hK K;try refine Wh0 ?_
      refine Yf0 ?_
      refine Yl0 ?_
      exact hJ.out (t.ents.length - 1) _ ⟨1,by omega,by omega,rfl,(Yq1 (fa3 @treeL.eq_1 @hd @hk0)),rfl,by rw [← hR];rfl⟩
    · rw [decide_eq_false hkd] at hR
      refine Yn1 (fa7 @h0l @hd @hk0 @hkp @hkl @hdn @hkd) ?_;intro K hK
      refine hK _ ?_;clear hK K;try refine Wh0 ?_
      refine Yt0 ?_
      refine Yg0 ?_
      refine Ye0 ?_;try (with_reducible exact trivial)
      rw [← hR];rfl
  · rintro n st ⟨i,hn,hi1,e1,b1,e3,hr⟩
    simp only [treeL] at b1
    by_cases hlt : i < t.ents.length
    · obtain ⟨x,hx⟩ := get_of_lt hlt
      have hdx := drop_tent hx
      have hw := w64s (n := i) (by omega)
      have hxl := h.path x (List.mem_of_getElem? hx)
      have cp := pparent_L x.path hxl
      have cf := tfind_L t h (parentB x.path).1
      have hcons : (t.ents.drop i).all (upOk t) = (upOk t x && (t.ents.drop (i + 1)).all (upOk t)) := by
        obtain ⟨hi',rfl⟩ := List.getElem?_eq_some_iff.1 hx
        rw [List.drop_eq_getElem_cons hi',List.all_cons]
      rw [hcons] at hr
      unfold upOk at hr
      generalize parentB x.path = pb at *
      simp only [treeL] at cf
      generalize hf : findT t.ents pb.1 = f at *
      refine Yg1 (fa4 @e1 @b1 @e3 @hlt) ?_
      refine Yt1 @hlt ?_
      refine Yr1 (fa5 @e1 @b1 @e3 @hlt @hdx) ?_;intro K hK
      refine Yc0 (cp) ?_
      refine hK _ ?_;clear hK K;try refine Wh0 ?_
      refine Yr1 (fa2 @e1 @b1) ?_;intro K hK
      refine Yc0 (cf) ?_
      refine hK _ ?_;clear hK K;try refine Wh0 ?_
      cases h4 : f.2
      · rw [h4] at hr
        refine Yg1 @h4 ?_
        refine Yt0 ?_
        refine Yg0 ?_
        refine Ye0 ?_;try (with_reducible exact trivial)
        rw [← hr];rfl
      · rw [h4] at hr
        obtain ⟨y,hy,_,hyn⟩ := findT_mem (l := t.ents) (p := pb.1) (by rw [hf];exact h4)
        rw [hf] at hyn
        have hyr := hrange y hy
        obtain ⟨k,hk⟩ : ∃ k : Nat,f.1 = k := ⟨f.1.toNat,by omega⟩
        have hkl2 : k < t.nodes.length := by omega
        have hkp2 : (0 : Int) ≤ (k : Int) := by omega
        obtain ⟨nk,hnk⟩ := get_of_lt hkl2
        have hdk := drop_node hnk
        simp only [nodeL,List.cons_append,List.nil_append] at hdk
        rw [hk,kindAt_of hnk] at hr
        by_cases hkd : nk.kind = 1
        · rw [decide_eq_true hkd] at hr
          refine Yg1 (fa8 @h4 @hk @e1 @b1 @hkp2 @hkl2 @hdk @hkd) ?_
          refine Yf0 ?_
          refine Yg1 (fa2 @e3 @hw) ?_
          refine LW_goto ?_;simp only [thenL,jumpsL,inBlockL,twoL,true_and]
          exact ⟨n - 1,by omega,i + 1,by omega,by omega,(Yq1 @e1),(Yq1 (fa2 @b1 @treeL.eq_1)),Yq0,by rw [← hr];rfl⟩
        · rw [decide_eq_false hkd] at hr
          refine Yg1 (fa8 @h4 @hk @e1 @b1 @hkp2 @hkl2 @hdk @hkd) ?_
          refine Yt0 ?_
          refine Yg0 ?_
          refine Ye0 ?_;try (with_reducible exact trivial)
          rw [← hr];rfl
    · rw [List.drop_of_length_le (by omega)] at hr
      refine Yg1 (fa4 @e1 @b1 @e3 @hlt) ?_
      refine Yf1 @hlt ?_
      refine Yg0 ?_
      refine Ye0 ?_;try (with_reducible exact trivial)
      rw [← hr];rfl
end Go.Proofs.Ytpficpldemickaa
