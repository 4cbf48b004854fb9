import Derived.Test.YteamlijbkldlhaaGreatKTM
import Derived.Test.YteamlijbkldlhaaGreatKDC
import Derived.Test.YteamlijbkldlhaaGreatDTab
import Derived.Test.YteamlijbkldlhaaGreatKD5
section
set_option linter.unusedSimpArgs false
set_option linter.unusedVariables false
namespace Go.Proofs.YteamlijbkldlhaaGreat
open Go.RowKit Go.Proofs AclSpec MetaSpec NodeSpec RecSpec PathSpec PageSpec TreeSpec DbSpec

theorem ordG_lenD {ns : List FNode} : ∀ {l : List TEnt} {p : Option (List UInt8)} {used : Nat},ordG ns p used l = true → ns.length ≤ used + l.length
  | [],_,used,h => by
    unfold ordG at h
    have := of_decide_eq_true h
    simp;omega
  | e :: l,p,used,h => by
    unfold ordG at h
    rw [Bool.and_eq_true] at h
    have := ordG_lenD h.2
    have hu : nextU used e ≤ used + 1 := by unfold nextU;split <;> omega
    rw [List.length_cons];omega
theorem ordG_nodesD {ns : List FNode} : ∀ {l : List TEnt} {p : Option (List UInt8)} {used : Nat},ordG ns p used l = true → ∀ k : Nat,used ≤ k → k < ns.length → mayAt ns k = true
  | [],p,used,h,k,h1,h2 => by
    unfold ordG at h
    have := of_decide_eq_true h
    omega
  | e :: l,p,used,h,k,h1,h2 => by
    unfold ordG at h
    rw [Bool.and_eq_true] at h
    have h3 := h.1
    rw [entOk_head] at h3
    simp only [Bool.and_eq_true,Bool.or_eq_true,Bool.not_eq_true',decide_eq_false_iff_not] at h3
    by_cases c : k = used ∧ e.node = used
    · rcases h3.2 with d | d
      · exact absurd c.2 d
      · rw [c.1];exact d
    · refine ordG_nodesD h.2 k ?_ h2
      unfold nextU
      split
      · rename_i d
        have : k ≠ used := fun x => c ⟨x,d⟩
        omega
      · exact h1
theorem mayT_smallD {t : FTree} (h : mayT t = true) : SmallT t ∧ 1 ≤ t.ents.length ∧ t.ents.length ≤ 100 ∧ 1 ≤ t.nodes.length ∧ t.nodes.length ≤ 100 := by
  have ho := mayT_ord h
  have hl := ordG_lenD ho
  have hv := mayT_valid h
  have hr := hv.rise
  have hrg := hv.range
  obtain ⟨e,r,he,_⟩ := hv.head
  have h2 : t.ents.length ≤ 100 := by
    unfold mayT at h
    simp only [Bool.and_eq_true,decide_eq_true_eq] at h
    exact h.1.1.1.2
  have h1 : 1 ≤ t.ents.length := by rw [he];simp
  refine ⟨⟨by omega,by omega,fun e he => ?_,fun n hn => ?_⟩,h1,h2,?_,by omega⟩
  · have := may_len (hr.2 e he);omega
  · obtain ⟨k,hk⟩ := List.mem_iff_getElem?.1 hn
    have hkl := (List.getElem?_eq_some_iff.1 hk).1
    have := ordG_nodesD ho k (by omega) hkl
    rw [mayAt_get hk] at this
    obtain ⟨a1,a2⟩ := mayN_small this
    exact ⟨a1,by unfold maxLen;omega⟩
  · have := hrg e (by rw [he];simp)
    omega
def madeT (l : List Int) : FTree := makeT fileU (l.map uN)
def madeR (l : List Int) : List Rec := recsT (madeT l)
theorem made_tree (l : List Int) : mayT (madeT l) = true := make_may _
theorem made_recs (l : List Int) : mayRecs (madeR l) = true := recs_may (made_tree l)
theorem madeRecs_L (l : List Int) : LCalls Tryz.prog 8 [.agg (treeL (madeT l))] (.tup [rowL recL (madeR l),strL (bytsT (madeT l)),intL 0]) := by
  obtain ⟨h1,_,h3,_⟩ := mayT_smallD (made_tree l)
  exact recs_L _ (made_tree l) h1 h3
theorem bare_small {n : FNode} (h : small n) : small (bareN n) := by
  unfold bareN
  split
  · refine ⟨h.1,h.2.1,by show (n.dat.map _).length ≤ _;rw [List.length_map];exact h.2.2.1,fun p hp => ?_⟩
    obtain ⟨q,hq,rfl⟩ := List.mem_map.1 hp
    have h1 := h.2.2.2 q hq
    have := ito_len 6 q.dat.length (by omega)
    show (itoB q.dat.length).length ≤ _
    omega
  · exact ⟨by decide,by decide,by decide,fun p hp => by cases hp⟩
theorem recsG_node {t : FTree} : ∀ (i : Nat) (l : List TEnt) (b : List UInt8),∀ r ∈ recsG t i l b,∃ e ∈ l,r.path = e.path ∧ (r.node = bareN (nodeG t.nodes e.node) ∨ r.node = zeroN)
  | _,[],_,r,hr => by cases hr
  | i,e :: l,b,r,hr => by
    rw [recsG] at hr
    rcases List.mem_cons.1 hr with rfl | hr
    · refine ⟨e,by simp,recT_path t i e b,?_⟩
      unfold recT
      split
      · exact .inl rfl
      · exact .inr rfl
    · obtain ⟨x,hx,h⟩ := recsG_node (i + 1) l _ r hr
      exact ⟨x,by simp [hx],h⟩
theorem made_few (l : List Int) : (madeR l).length ≤ 100 ∧ ∀ r ∈ madeR l,r.path.length < 1000000 ∧ small r.node := by
  have hm := made_tree l
  obtain ⟨h1,_,h3,_⟩ := mayT_smallD hm
  have hv := mayT_valid hm
  refine ⟨by unfold madeR recsT;rw [recsG_len];exact h3,fun r hr => ?_⟩
  obtain ⟨e,he,hp,hn⟩ := recsG_node _ _ _ r hr
  refine ⟨by rw [hp];exact h1.path e he,?_⟩
  rcases hn with hn | hn
  · rw [hn]
    obtain ⟨r0,r1⟩ := hv.range e he
    exact bare_small (h1.node _ (nodeG_mem r0 r1)).1
  · rw [hn];exact ⟨by decide,by decide,by decide,fun p hp => by cases hp⟩
end Go.Proofs.YteamlijbkldlhaaGreat
end
section
set_option linter.unusedSimpArgs false
set_option linter.unusedVariables false
namespace Go.Proofs.YteamlijbkldlhaaGreat
open Go.RowKit Go.Proofs AclSpec MetaSpec NodeSpec RecSpec PathSpec PageSpec TreeSpec DbSpec

theorem made_small (l : List Int) : SmallR (madeR l) := by
  obtain ⟨h1,h2⟩ := made_few l
  exact ⟨by omega,h2⟩
theorem made_build (l : List Int) : buildA (madeR l) = (buildP (madeR l),0) := by unfold buildA;rw [if_pos (made_recs l)]
end Go.Proofs.YteamlijbkldlhaaGreat
end
