import Derived.Test.YtpficpldemickaaTFile
import Derived.Test.YtpficpldemickaaIPart
set_option linter.unusedSimpArgs false
set_option linter.unusedVariables false
namespace Go.Proofs.Ytpficpldemickaa.TreeSpec
open AclSpec MetaSpec NodeSpec PathSpec

def MadeM (m : Meta) : Prop := m = ⟨493,0,0,9,[],[]⟩ ∨ ∃ u,m = makeM u
theorem step_meta {s : MakeSt} (h : ∀ n ∈ s.nodes,MadeM n.mt) (u : Nat) : ∀ n ∈ (makeStep fileU s u).nodes,MadeM n.mt := by
  have key : ∀ m : FNode,m.mt = makeM u → ∀ n ∈ s.nodes ++ [m],MadeM n.mt := by
    intro m hm n hn
    rcases List.mem_append.1 hn with hn | hn
    · exact h n hn
    · rw [List.mem_singleton] at hn;rw [hn];exact .inr ⟨u,hm⟩
  unfold makeStep
  simp only
  split
  · exact h
  split
  · exact key _ rfl
  split
  · exact h
  split
  · exact key _ rfl
  split
  · exact key _ rfl
  split
  · exact key _ rfl
  · refine key _ ?_
    rw [(fileU_M u _).shape]
theorem loop_meta : ∀ (l : List Nat) (s : MakeSt),(∀ n ∈ s.nodes,MadeM n.mt) → ∀ n ∈ (l.foldl (makeStep fileU) s).nodes,MadeM n.mt
  | [],_,h => h
  | u :: l,s,h => loop_meta l _ (step_meta h u)
theorem make_good (l : List Nat) : Good ⟨((l.take 25).foldl (makeStep fileU) makeStart).ents,((l.take 25).foldl (makeStep fileU) makeStart).nodes⟩ := by
  obtain ⟨h1,h2⟩ := loop_ok (f := fileU) (fun u p _ => fileU_ok u p) (l.take 25) makeStart start_ok (by simp [makeStart])
  have hl : (makeStart).ents.length = 1 := rfl
  have h3 : (l.take 25).length ≤ 25 := by rw [List.length_take];omega
  exact h1.good (by omega)
theorem make_meta (l : List Nat) : ∀ n ∈ (makeT fileU l).nodes,MadeM n.mt := by
  have g := make_good l
  unfold makeT
  rw [normTree_ok g]
  show ∀ n ∈ (normed _).nodes,_
  unfold normed renT
  refine ren_nodes _ _ (fun n => MadeM n.mt) (fun n hn => by cases hn) fun e he => ?_
  have hP := (sortT_ok g.may g.dist).2
  have hr := g.range e (hP.mem_iff.1 he)
  refine loop_meta (l.take 25) makeStart (fun n hn => ?_) _ (nodeG_mem hr.1 hr.2)
  simp only [makeStart,List.mem_singleton] at hn
  rw [hn];exact .inl rfl

def xor1 (m : Int) : Int := if m % 2 = 0 then m + 1 else m - 1
def spoilM (c : Nat) (m : Meta) : Meta :=
  if c = 0 then { m with mode := xor1 m.mode } else if c = 1 then { m with gid := m.gid + 1 } else if c = 2 then { m with time := m.time + 1 } else { m with attrs := m.attrs ++ [⟨[122,122],[]⟩] }
def wantB (c : Nat) : List UInt8 := if c = 0 then [109,111,100,101] else if c = 1 then [103,105,100] else if c = 2 then [116,105,109,101] else [97,116,116,114,115]
theorem spoil_diff (c : Nat) (m : Meta) : diffM m (spoilM c m) = wantB c := by
  unfold spoilM wantB diffM
  by_cases h0 : c = 0
  · simp only [if_pos h0]
    rw [if_pos]
    unfold xor1;split <;> omega
  by_cases h1 : c = 1
  · simp only [if_neg h0,if_pos h1]
    rw [if_neg (by simp),if_neg (by simp),if_pos (by omega)]
  by_cases h2 : c = 2
  · simp only [if_neg h0,if_neg h1,if_pos h2]
    rw [if_neg (by simp),if_neg (by simp),if_neg (by simp),if_pos (by omega)]
  · simp only [if_neg h0,if_neg h1,if_neg h2]
    rw [if_neg (by simp),if_neg (by simp),if_neg (by simp),if_neg (by simp),if_pos (by simp)]
theorem zz_ok {l : List Attr} (h : l = [] ∨ ∃ v,v.length ≤ 200 ∧ l = [⟨userK,v⟩]) : chkT (l ++ [⟨[122,122],[]⟩]) 0 = true := by
  rcases h with rfl | ⟨v,hv,rfl⟩
  · decide +kernel
  · unfold chkT GSort.chkGAt
    show (goodT ⟨userK,v⟩ && (goodT ⟨[122,122],[]⟩ && _ && true)) = true
    have e1 : goodT ⟨userK,v⟩ = true := by
      unfold goodT
      rw [decide_eq_true (p := v.length ≤ 200) hv];rfl
    rw [e1]
    exact (by decide +kernel : (true && (goodT ⟨[122,122],[]⟩ && Op.bytesLess userK [122,122] && true)) = true)
theorem spoil_may {m : Meta} (h : MadeM m) (c : Nat) : mayM (spoilM c m) = true := by
  have hm : mayM m = true := by
    rcases h with rfl | ⟨u,rfl⟩
    · decide +kernel
    · exact makeM_may u
  have hb : 0 ≤ m.mode ∧ m.mode ≤ 4095 ∧ 0 ≤ m.gid ∧ m.gid ≤ 10 ∧ (m.attrs = [] ∨ ∃ v,v.length ≤ 200 ∧ m.attrs = [⟨userK,v⟩]) := by
    rcases h with rfl | ⟨u,rfl⟩
    · exact ⟨by decide,by decide,by decide,by decide,.inl rfl⟩
    · have h1 : u / 5 % 4096 < 4096 := Nat.mod_lt _ (by decide)
      have h3 : u % 4 < 4 := Nat.mod_lt _ (by decide)
      have hd : (decB (u % 100)).length ≤ 2 := decB_len 1 _ (Nat.mod_lt _ (by decide))
      refine ⟨?_,?_,?_,?_,?_⟩
      · show (0 : Int) ≤ ((u / 5 % 4096 : Nat) : Int);omega
      · show ((u / 5 % 4096 : Nat) : Int) ≤ 4095;omega
      · show (0 : Int) ≤ ((u % 4 : Nat) : Int);omega
      · show ((u % 4 : Nat) : Int) ≤ 10;omega
      · show (if u % 11 = 0 then _ else _) = _ ∨ _
        by_cases h : u % 11 = 0
        · rw [if_pos h]
          exact .inr ⟨118 :: decB (u % 100),by rw [List.length_cons];omega,by unfold makeM;simp only [if_pos h]⟩
        · rw [if_neg h];exact .inl rfl
  unfold mayM at hm ⊢
  simp only [Bool.and_eq_true,decide_eq_true_eq] at hm ⊢
  obtain ⟨⟨⟨⟨⟨⟨⟨a1,a2⟩,a3⟩,a4⟩,a5⟩,a6⟩,a7⟩,a8⟩ := hm
  unfold spoilM
  by_cases h0 : c = 0
  · simp only [if_pos h0]
    refine ⟨⟨⟨⟨⟨⟨⟨?_,?_⟩,a3⟩,a4⟩,a5⟩,a6⟩,a7⟩,a8⟩ <;> unfold xor1 <;> split <;> omega
  by_cases h1 : c = 1
  · simp only [if_neg h0,if_pos h1]
    refine ⟨⟨⟨⟨⟨⟨⟨a1,a2⟩,a3⟩,?_⟩,a5⟩,a6⟩,a7⟩,a8⟩
    unfold idB
    rw [Bool.and_eq_true,decide_eq_true_eq,decide_eq_true_eq];omega
  by_cases h2 : c = 2
  · simp only [if_neg h0,if_neg h1,if_pos h2]
    exact ⟨⟨⟨⟨⟨⟨⟨a1,a2⟩,a3⟩,a4⟩,by omega⟩,a6⟩,a7⟩,a8⟩
  · simp only [if_neg h0,if_neg h1,if_neg h2]
    refine ⟨⟨⟨⟨⟨⟨⟨a1,a2⟩,a3⟩,a4⟩,a5⟩,?_⟩,zz_ok hb.2.2.2.2⟩,a8⟩
    rcases hb.2.2.2.2 with h | ⟨v,_,h⟩ <;> rw [h] <;> simp
theorem mayN_with {n : FNode} (h : mayN n = true) {m : Meta} (hm : mayM m = true) : mayN { n with mt := m } = true := by
  have e : mayM n.mt = true := by
    unfold mayN at h
    simp only [Bool.and_eq_true] at h
    exact h.1.1.1.1.2
  have : mayN { n with mt := m } = mayN n := by
    unfold mayN
    simp only [hm,e]
    rfl
  rw [this];exact h

theorem kindAt_set {ns : List FNode} {k : Nat} {n n' : FNode} (h : ns[k]? = some n) (hk : n'.kind = n.kind) (i : Int) : kindAt (ns.set k n') i = kindAt ns i := by
  unfold kindAt
  have hl := (List.getElem?_eq_some_iff.1 h).1
  by_cases c : i.toNat = k
  · rw [c,List.getElem?_set_self hl,h]
    simp [hk]
  · rw [List.getElem?_set_ne (Ne.symm c)]
theorem mayAt_set {ns : List FNode} {k : Nat} {n n' : FNode} (h : ns[k]? = some n) (hm : mayN n' = true) (i : Int) (hi : mayAt ns i = true) : mayAt (ns.set k n') i = true := by
  unfold mayAt at hi ⊢
  have hl := (List.getElem?_eq_some_iff.1 h).1
  by_cases c : i.toNat = k
  · rw [c,List.getElem?_set_self hl];exact hm
  · rw [List.getElem?_set_ne (Ne.symm c)];exact hi
theorem ordG_set {ns : List FNode} {k : Nat} {n n' : FNode} (h : ns[k]? = some n) (hk : n'.kind = n.kind) (hm : mayN n' = true) : ∀ {l : List TEnt} {p : Option (List UInt8)} {used : Nat},ordG ns p used l = true → ordG (ns.set k n') p used l = true
  | [],p,used,ho => by
    unfold ordG at ho ⊢
    rw [List.length_set];exact ho
  | e :: l,p,used,ho => by
    unfold ordG at ho ⊢
    rw [Bool.and_eq_true] at ho ⊢
    refine ⟨?_,ordG_set h hk hm ho.2⟩
    have h1 := ho.1
    rw [entOk_head] at h1 ⊢
    rw [kindAt_set h hk,List.length_set]
    simp only [Bool.and_eq_true,Bool.or_eq_true] at h1 ⊢
    exact ⟨h1.1,h1.2.imp id fun c => mayAt_set h hm _ c⟩
theorem mayT_set {t : FTree} {k : Nat} {n n' : FNode} (ht : mayT t = true) (h : t.nodes[k]? = some n) (hk : n'.kind = n.kind) (hm : mayN n' = true) : mayT ⟨t.ents,t.nodes.set k n'⟩ = true := by
  unfold mayT at ht ⊢
  simp only [Bool.and_eq_true] at ht ⊢
  obtain ⟨⟨⟨⟨a1,a2⟩,a3⟩,a4⟩,a5⟩ := ht
  refine ⟨⟨⟨⟨a1,a2⟩,ordG_set h hk hm a3⟩,?_⟩,?_⟩
  · unfold headKind at a4 ⊢
    cases he : t.ents with
    | nil => rw [he] at a4;cases a4
    | cons e r => rw [he] at a4;simp only [kindAt_set h hk];exact a4
  · rw [List.all_eq_true] at a5 ⊢
    intro e he
    have := a5 e he
    unfold upOk at this ⊢
    simp only [kindAt_set h hk]
    exact this
theorem used_all {ns : List FNode} : ∀ {l : List TEnt} {p : Option (List UInt8)} {used : Nat},ordG ns p used l = true → ∀ k : Nat,used ≤ k → k < ns.length → ∃ e ∈ l,e.node = k
  | [],_,used,h,k,h1,h2 => by
    unfold ordG at h
    have := of_decide_eq_true h
    omega
  | e :: l,p,used,h,k,h1,h2 => by
    unfold ordG at h
    rw [Bool.and_eq_true] at h
    by_cases c : e.node = k
    · exact ⟨e,by simp,c⟩
    · obtain ⟨x,hx,hxk⟩ := used_all h.2 k (by unfold nextU;split <;> omega) h2
      exact ⟨x,by simp [hx],hxk⟩
def pathK (k : Nat) (l : List TEnt) : List UInt8 := l.foldr (fun e a => if e.node = (k : Int) then e.path else a) [46]
theorem nodesP_spoil {ns ms : List FNode} {k : Nat} {w : List UInt8} (hw : diffN (nodeG ns k) (nodeG ms k) = w) (hw0 : w ≠ []) (ho : ∀ i : Int,0 ≤ i → i ≠ k → nodeG ns i = nodeG ms i) : ∀ l : List TEnt,(∀ e ∈ l,e.path ≠ [] ∧ 0 ≤ e.node) → (∃ e ∈ l,e.node = k) → nodesP ns ms (l.map fun e => ⟨e.path,e.node,e.node⟩) = (pathK k l,w)
  | [],_,h => by obtain ⟨e,he,_⟩ := h;cases he
  | e :: l,hp,h => by
    rw [List.map_cons,nodesP]
    unfold pathK
    rw [List.foldr_cons]
    have hpe := hp e (by simp)
    by_cases c : e.node = k
    · rw [if_pos c,c,hw,if_neg hw0]
      unfold dotP
      rw [if_neg hpe.1]
    · rw [if_neg c,if_pos (diffN_nil.2 (ho _ hpe.2 c))]
      refine nodesP_spoil hw hw0 ho l (fun x hx => hp x (by simp [hx])) ?_
      obtain ⟨x,hx,hxk⟩ := h
      rcases List.mem_cons.1 hx with rfl | hx
      · exact absurd hxk c
      · exact ⟨x,hx,hxk⟩
theorem pathK_none {k : Nat} : ∀ {l : List TEnt},(∀ e ∈ l,e.node ≠ k) → pathK k l = [46]
  | [],_ => rfl
  | e :: l,h => by
    unfold pathK
    rw [List.foldr_cons,if_neg (h e (by simp))]
    exact pathK_none fun x hx => h x (by simp [hx])
theorem spoil_law {a : FTree} {k c : Nat} {n : FNode} (ha : mayT a = true) (hm : ∀ n ∈ a.nodes,MadeM n.mt) (hn : a.nodes[k]? = some n) :
    mayT ⟨a.ents,a.nodes.set k { n with mt := spoilM c n.mt }⟩ = true ∧ nodesA a ⟨a.ents,a.nodes.set k { n with mt := spoilM c n.mt }⟩ = (pathK k (a.ents.drop 1),wantB c) ∧ pathsA a ⟨a.ents,a.nodes.set k { n with mt := spoilM c n.mt }⟩ = [] ∧ linksA a ⟨a.ents,a.nodes.set k { n with mt := spoilM c n.mt }⟩ = [] ∧ sameA a ⟨a.ents,a.nodes.set k { n with mt := spoilM c n.mt }⟩ = false := by
  have hkl := (List.getElem?_eq_some_iff.1 hn).1
  have hmem := List.mem_of_getElem? hn
  have hmayn : mayN n = true := by
    obtain ⟨e,he,hek⟩ := used_all (mayT_ord ha) k (by omega) hkl
    have := (mayT_valid ha)
    have key : ∀ {l : List TEnt} {p : Option (List UInt8)} {used : Nat},ordG a.nodes p used l = true → ∀ k : Nat,used ≤ k → k < a.nodes.length → mayAt a.nodes k = true := by
      intro l
      induction l with
      | nil =>
        intro p used h k h1 h2
        unfold ordG at h
        have := of_decide_eq_true h
        omega
      | cons e l ih =>
        intro p used h k h1 h2
        unfold ordG at h
        rw [Bool.and_eq_true] at h
        have h3 := h.1
        rw [entOk_head] at h3
        simp only [Bool.and_eq_true,Bool.or_eq_true,Bool.not_eq_true',decide_eq_false_iff_not] at h3
        by_cases c : k = used ∧ e.node = used
        · rcases h3.2 with d | d
          · exact absurd c.2 d
          · rw [c.1];exact d
        · refine ih h.2 k ?_ h2
          unfold nextU
          split
          · rename_i d
            have : k ≠ used := fun x => c ⟨x,d⟩
            omega
          · exact h1
    have := key (mayT_ord ha) k (by omega) hkl
    rwa [mayAt_get hn] at this
  have hb : mayT ⟨a.ents,a.nodes.set k { n with mt := spoilM c n.mt }⟩ = true := mayT_set ha hn (by rfl) (mayN_with hmayn (spoil_may (hm n hmem) c))
  have hdiff : diffN (nodeG a.nodes k) (nodeG (a.nodes.set k { n with mt := spoilM c n.mt }) k) = wantB c := by
    have e1 : nodeG a.nodes k = n := by unfold nodeG;rw [Int.toNat_natCast,hn];rfl
    have e2 : nodeG (a.nodes.set k { n with mt := spoilM c n.mt }) k = { n with mt := spoilM c n.mt } := by unfold nodeG;rw [Int.toNat_natCast,List.getElem?_set_self hkl];rfl
    rw [e1,e2]
    unfold diffN
    simp only [spoil_diff]
    rw [if_neg (by simp),if_pos]
    unfold wantB;split <;> (try split) <;> (try split) <;> simp
  have hw0 : wantB c ≠ [] := by unfold wantB;split <;> (try split) <;> (try split) <;> simp
  have ho : ∀ i : Int,0 ≤ i → i ≠ k → nodeG a.nodes i = nodeG (a.nodes.set k { n with mt := spoilM c n.mt }) i := by
    intro i h0 hi
    unfold nodeG
    rw [List.getElem?_set_ne (by omega)]
  have hself := same_self ha
  have hcs := common_self (mayT_valid ha).rise.1
  have hN : nodesA a ⟨a.ents,a.nodes.set k { n with mt := spoilM c n.mt }⟩ = (pathK k (a.ents.drop 1),wantB c) := by
    unfold nodesA
    rw [ha,hb]
    show nodesP _ _ (commonP a.ents a.ents) = _
    rw [hcs]
    obtain ⟨e,r,h1,h2,h3,h4⟩ := root_alone ha
    have hr := (mayT_valid ha).range
    rw [h1] at hr ⊢
    rw [List.map_cons,nodesP,List.drop_succ_cons,List.drop_zero,h3,h2]
    by_cases hk : k = 0
    · subst hk
      rw [show (0 : Int) = ((0 : Nat) : Int) from rfl,hdiff,if_neg hw0,pathK_none fun x hx => by have := (h4 x hx).2;exact this]
      rfl
    · rw [if_pos (diffN_nil.2 (ho 0 (by omega) (by omega)))]
      refine nodesP_spoil hdiff hw0 ho r (fun x hx => ⟨(h4 x hx).1,(hr x (by simp [hx])).1⟩) ?_
      obtain ⟨x,hx,hxk⟩ := used_all (mayT_ord ha) k (by omega) hkl
      rw [h1] at hx
      rcases List.mem_cons.1 hx with rfl | hx
      · omega
      · exact ⟨x,hx,hxk⟩
  have hP : pathsA a ⟨a.ents,a.nodes.set k { n with mt := spoilM c n.mt }⟩ = [] := by
    unfold pathsA;rw [ha,hb];exact pathsI_self _
  have hL : linksA a ⟨a.ents,a.nodes.set k { n with mt := spoilM c n.mt }⟩ = [] := by
    unfold sameA at hself
    simp only [Bool.and_eq_true,decide_eq_true_eq] at hself
    have := hself.1.2
    unfold linksA at this ⊢
    rw [ha] at this
    rw [ha,hb];exact this
  refine ⟨hb,hN,hP,hL,?_⟩
  unfold sameA
  rw [hN,hP,hL]
  have : pathK k (a.ents.drop 1) ≠ [] := by
    obtain ⟨e,r,h1,h2,h3,h4⟩ := root_alone ha
    rw [h1,List.drop_succ_cons,List.drop_zero]
    have : ∀ l : List TEnt,(∀ x ∈ l,x.path ≠ []) → pathK k l ≠ [] := by
      intro l
      induction l with
      | nil => intro _;simp [pathK]
      | cons x l ih =>
        intro hx
        unfold pathK
        rw [List.foldr_cons]
        split
        · exact hx x (by simp)
        · exact ih fun y hy => hx y (by simp [hy])
    exact this r fun x hx => (h4 x hx).1
  rw [decide_eq_false this,Bool.and_false]
end Go.Proofs.Ytpficpldemickaa.TreeSpec
