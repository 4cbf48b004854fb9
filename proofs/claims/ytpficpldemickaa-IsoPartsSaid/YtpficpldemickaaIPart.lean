import Derived.Test.YtpficpldemickaaISpec
section
set_option linter.unusedSimpArgs false
set_option linter.unusedVariables false
namespace Go.Proofs.Ytpficpldemickaa.TreeSpec
open AclSpec MetaSpec NodeSpec PathSpec

def posT (l : List TEnt) (p : List UInt8) : Nat := (l.reverse.dropWhile fun x => lessB p x.path).length
def insT (l : List TEnt) (e : TEnt) : List TEnt := l.take (posT l e.path) ++ e :: l.drop (posT l e.path)
def sortT (l : List TEnt) : List TEnt := l.foldl insT []
theorem posT_split (l : List TEnt) (p : List UInt8) : l.take (posT l p) = (l.reverse.dropWhile fun x => lessB p x.path).reverse ∧ l.drop (posT l p) = (l.reverse.takeWhile fun x => lessB p x.path).reverse := by
  have h : l = (l.reverse.dropWhile fun x => lessB p x.path).reverse ++ (l.reverse.takeWhile fun x => lessB p x.path).reverse := by
    rw [← List.reverse_append,List.takeWhile_append_dropWhile,List.reverse_reverse]
  have hl : ((l.reverse.dropWhile fun x => lessB p x.path).reverse).length = posT l p := by rw [List.length_reverse];rfl
  constructor
  · have := congrArg (List.take (posT l p)) h
    rwa [List.take_left' hl] at this
  · have := congrArg (List.drop (posT l p)) h
    rwa [List.drop_left' hl] at this
theorem posT_le (l : List TEnt) (p : List UInt8) : posT l p ≤ l.length := by
  unfold posT
  have := (List.dropWhile_suffix (fun x : TEnt => lessB p x.path) (l := l.reverse)).length_le
  rwa [List.length_reverse] at this
theorem mem_takeWhile_imp' {q : TEnt → Bool} : ∀ {l : List TEnt} {x : TEnt},x ∈ l.takeWhile q → q x = true
  | [],_,h => by cases h
  | a :: r,x,h => by
    rw [List.takeWhile_cons] at h
    split at h
    · rcases List.mem_cons.1 h with rfl | h
      · assumption
      · exact mem_takeWhile_imp' h
    · cases h
theorem posT_drop {l : List TEnt} {p : List UInt8} : ∀ x ∈ l.drop (posT l p),lessB p x.path = true := by
  intro x hx
  rw [(posT_split l p).2,List.mem_reverse] at hx
  exact mem_takeWhile_imp' (q := fun x => lessB p x.path) hx
theorem insT_perm (l : List TEnt) (e : TEnt) : (insT l e).Perm (e :: l) := by
  unfold insT
  refine List.perm_middle.trans ?_
  rw [List.take_append_drop]
theorem insT_len (l : List TEnt) (e : TEnt) : (insT l e).length = l.length + 1 := by rw [(insT_perm l e).length_eq,List.length_cons]
theorem posT_last {l : List TEnt} {p : List UInt8} {r : List TEnt} {y : TEnt} (h : l.take (posT l p) = r ++ [y]) : lessB p y.path = false := by
  rw [(posT_split l p).1] at h
  have h2 : (l.reverse.dropWhile fun x => lessB p x.path) = y :: r.reverse := by
    have := congrArg List.reverse h
    rwa [List.reverse_reverse,List.reverse_append] at this
  have : ∀ (m : List TEnt),(m.dropWhile fun x => lessB p x.path) = y :: r.reverse → lessB p y.path = false := by
    intro m
    induction m with
    | nil => intro h;cases h
    | cons a m ih =>
      intro h
      rw [List.dropWhile_cons] at h
      split at h
      · exact ih h
      · rename_i hn
        cases h
        simpa using hn
  exact this _ h2
theorem insT_rise {l : List TEnt} {e : TEnt} (h : Rise l) (hm : mayB e.path = true) (hn : ∀ x ∈ l,x.path ≠ e.path) : Rise (insT l e) := by
  refine ⟨?_,fun x hx => ?_⟩
  · unfold insT
    have hp : (l.take (posT l e.path) ++ l.drop (posT l e.path)).Pairwise fun x y => lessB x.path y.path = true := by rw [List.take_append_drop];exact h.1
    rw [List.pairwise_append] at hp ⊢
    obtain ⟨p1,p2,p3⟩ := hp
    refine ⟨p1,List.pairwise_cons.2 ⟨fun x hx => posT_drop x hx,p2⟩,fun x hx y hy => ?_⟩
    have hxe : lessB x.path e.path = true := by
      rcases List.eq_nil_or_concat (l.take (posT l e.path)) with h0 | ⟨r,z,h0⟩
      · rw [h0] at hx;cases hx
      · rw [List.concat_eq_append] at h0
        have hz := posT_last h0
        have hzl : z ∈ l := List.mem_of_mem_take (i := posT l e.path) (by rw [h0];simp)
        have hze : lessB z.path e.path = true := by
          rcases less_tri (h.2 z hzl) hm with c | c | c
          · exact c
          · exact absurd c (hn z hzl)
          · rw [c] at hz;cases hz
        rw [h0] at hx p1
        rcases List.mem_append.1 hx with hx | hx
        · exact less_trans ((List.pairwise_append.1 p1).2.2 x hx z (by simp)) hze
        · rw [List.mem_singleton] at hx;rw [hx];exact hze
    rcases List.mem_cons.1 hy with rfl | hy
    · exact hxe
    · exact p3 x hx y hy
  · rcases List.mem_cons.1 ((insT_perm l e).mem_iff.1 hx) with rfl | hx
    · exact hm
    · exact h.2 x hx
theorem sort_go : ∀ (l a : List TEnt),Rise a → (∀ e ∈ l,mayB e.path = true) → (∀ e ∈ l,∀ x ∈ a,x.path ≠ e.path) → l.Pairwise (fun x y => x.path ≠ y.path) → Rise (l.foldl insT a) ∧ (l.foldl insT a).Perm (a ++ l)
  | [],a,h,_,_,_ => ⟨h,by rw [List.append_nil];exact .refl _⟩
  | e :: l,a,h,hm,hn,hd => by
    obtain ⟨d1,d2⟩ := List.pairwise_cons.1 hd
    have h2 := insT_rise h (hm e (by simp)) (hn e (by simp))
    obtain ⟨r1,r2⟩ := sort_go l (insT a e) h2 (fun x hx => hm x (by simp [hx])) (fun x hx y hy => by
      rcases List.mem_cons.1 ((insT_perm a e).mem_iff.1 hy) with rfl | hy
      · exact d1 x hx
      · exact hn x (by simp [hx]) y hy) d2
    refine ⟨r1,r2.trans ?_⟩
    refine ((insT_perm a e).append_right l).trans ?_
    rw [List.cons_append]
    exact List.perm_middle.symm
theorem sortT_ok {l : List TEnt} (hm : ∀ e ∈ l,mayB e.path = true) (hd : l.Pairwise (fun x y => x.path ≠ y.path)) : Rise (sortT l) ∧ (sortT l).Perm l := by
  obtain ⟨a,b⟩ := sort_go l [] ⟨List.Pairwise.nil,fun e he => by cases he⟩ hm (fun e _ x hx => by cases hx) hd
  exact ⟨a,b⟩

structure Ren where
  seen : List Int
  ents : List TEnt
  nodes : List FNode
def seenAt (l : List Int) (i : Int) : Int := (l[i.toNat]?).getD 0
def renStep (ns : List FNode) (r : Ren) (e : TEnt) : Ren :=
  if seenAt r.seen e.node = 0 then ⟨r.seen.set e.node.toNat (r.nodes.length + 1),r.ents ++ [⟨e.path,r.nodes.length⟩],r.nodes ++ [nodeG ns e.node]⟩
  else ⟨r.seen,r.ents ++ [⟨e.path,seenAt r.seen e.node - 1⟩],r.nodes⟩
def renT (ns : List FNode) (l : List TEnt) : Ren := l.foldl (renStep ns) ⟨List.replicate ns.length 0,[],[]⟩
def badE (t : FTree) (e : TEnt) : Bool := !mayB e.path || decide (e.node < 0) || decide ((t.nodes.length : Int) ≤ e.node)
def normTree (t : FTree) : FTree × Int :=
  if t.ents.any (badE t) then (⟨[],[]⟩,1)
  else if mayT ⟨(renT t.nodes (sortT t.ents)).ents,(renT t.nodes (sortT t.ents)).nodes⟩ then (⟨(renT t.nodes (sortT t.ents)).ents,(renT t.nodes (sortT t.ents)).nodes⟩,0)
  else (⟨[],[]⟩,1)
theorem ren_nodes {ns : List FNode} : ∀ (l : List TEnt) (r : Ren) (P : FNode → Prop),(∀ n ∈ r.nodes,P n) → (∀ e ∈ l,P (nodeG ns e.node)) → ∀ n ∈ (l.foldl (renStep ns) r).nodes,P n
  | [],r,P,h,_,n,hn => h n hn
  | e :: l,r,P,h,hl,n,hn => by
    refine ren_nodes l _ P (fun m hm => ?_) (fun x hx => hl x (by simp [hx])) n hn
    unfold renStep at hm
    split at hm
    · rcases List.mem_append.1 hm with hm | hm
      · exact h m hm
      · rw [List.mem_singleton] at hm;rw [hm];exact hl e (by simp)
    · exact h m hm
structure RenInv (ns : List FNode) (pre : List TEnt) (r : Ren) : Prop where
  len : r.seen.length = ns.length
  old : ∀ e ∈ pre,∃ k : Nat,seenAt r.seen e.node = (k : Int) + 1 ∧ r.nodes[k]? = some (nodeG ns e.node)
  new : ∀ i : Int,seenAt r.seen i ≠ 0 → ∃ e ∈ pre,e.node.toNat = i.toNat
theorem seenAt_set {l : List Int} {i j : Int} {v : Int} (hi : i.toNat < l.length) : seenAt (l.set i.toNat v) j = if j.toNat = i.toNat then v else seenAt l j := by
  unfold seenAt
  by_cases h : j.toNat = i.toNat
  · rw [if_pos h,h,List.getElem?_set_self hi];rfl
  · rw [if_neg h,List.getElem?_set_ne (Ne.symm h)]
theorem nodeG_nat (ns : List FNode) {i j : Int} (h : i.toNat = j.toNat) : nodeG ns i = nodeG ns j := by unfold nodeG;rw [h]
theorem get_app {α : Type} {l m : List α} {k : Nat} {x : α} (h : l[k]? = some x) : (l ++ m)[k]? = some x := by
  rw [List.getElem?_append_left (List.getElem?_eq_some_iff.1 h).1];exact h
theorem ren_step {ns : List FNode} {pre : List TEnt} {r : Ren} {e : TEnt} (h : RenInv ns pre r) (h0 : 0 ≤ e.node) (h1 : e.node < ns.length) : RenInv ns (pre ++ [e]) (renStep ns r e) := by
  unfold renStep
  by_cases hz : seenAt r.seen e.node = 0
  · rw [if_pos hz]
    have hlt : e.node.toNat < r.seen.length := by rw [h.len];omega
    refine ⟨by simp only [List.length_set];exact h.len,fun x hx => ?_,fun i hi => ?_⟩
    · simp only [seenAt_set hlt]
      by_cases hn : x.node.toNat = e.node.toNat
      · rw [if_pos hn]
        exact ⟨r.nodes.length,rfl,by rw [nodeG_nat ns hn];simp⟩
      · rw [if_neg hn]
        rcases List.mem_append.1 hx with hx | hx
        · obtain ⟨k,k1,k2⟩ := h.old x hx
          exact ⟨k,k1,get_app k2⟩
        · rw [List.mem_singleton] at hx;rw [hx] at hn;exact absurd rfl hn
    · simp only [seenAt_set hlt] at hi
      by_cases hn : i.toNat = e.node.toNat
      · exact ⟨e,by simp,hn.symm⟩
      · rw [if_neg hn] at hi
        obtain ⟨x,hx,hxe⟩ := h.new i hi
        exact ⟨x,by simp [hx],hxe⟩
  · rw [if_neg hz]
    obtain ⟨y,hy,hye⟩ := h.new e.node hz
    refine ⟨h.len,fun x hx => ?_,fun i hi => ?_⟩
    · rcases List.mem_append.1 hx with hx | hx
      · exact h.old x hx
      · rw [List.mem_singleton] at hx;subst hx
        obtain ⟨k,k1,k2⟩ := h.old y hy
        refine ⟨k,?_,by rw [← nodeG_nat ns hye];exact k2⟩
        rw [← k1];unfold seenAt;rw [hye]
    · obtain ⟨x,hx,hxe⟩ := h.new i hi
      exact ⟨x,by simp [hx],hxe⟩
theorem ren_grow {ns : List FNode} : ∀ {l : List TEnt} {r : Ren} {pre : List TEnt},RenInv ns pre r → (∀ e ∈ l,0 ≤ e.node ∧ e.node < ns.length) → (∃ m,(l.foldl (renStep ns) r).nodes = r.nodes ++ m) ∧ ∀ i,seenAt r.seen i ≠ 0 → seenAt (l.foldl (renStep ns) r).seen i = seenAt r.seen i
  | [],r,_,_,_ => ⟨⟨[],by simp⟩,fun _ _ => rfl⟩
  | e :: l,r,pre,h,hr => by
    obtain ⟨h0,h1⟩ := hr e (by simp)
    have hs := ren_step h h0 h1
    obtain ⟨⟨m,hm⟩,hk⟩ := ren_grow (l := l) hs fun x hx => hr x (by simp [hx])
    rw [List.foldl_cons]
    unfold renStep at hm hk ⊢
    by_cases hz : seenAt r.seen e.node = 0
    · rw [if_pos hz] at hm hk ⊢
      refine ⟨⟨[nodeG ns e.node] ++ m,by rw [hm];simp⟩,fun i hi => ?_⟩
      have hlt : e.node.toNat < r.seen.length := by rw [h.len];omega
      have hne : i.toNat ≠ e.node.toNat := fun c => hi (by unfold seenAt at hz ⊢;rw [c];exact hz)
      have hsi : seenAt (r.seen.set e.node.toNat (r.nodes.length + 1)) i = seenAt r.seen i := by rw [seenAt_set hlt,if_neg hne]
      rw [hk i (by simp only [hsi];exact hi)]
      exact hsi
    · rw [if_neg hz] at hm hk ⊢
      exact ⟨⟨m,hm⟩,hk⟩
def renE (F : Ren) (e : TEnt) : TEnt := ⟨e.path,seenAt F.seen e.node - 1⟩
theorem ren_ents {ns : List FNode} : ∀ {l : List TEnt} {r : Ren} {pre : List TEnt},RenInv ns pre r → (∀ e ∈ l,0 ≤ e.node ∧ e.node < ns.length) → (l.foldl (renStep ns) r).ents = r.ents ++ l.map (renE (l.foldl (renStep ns) r))
  | [],r,_,_,_ => by simp
  | e :: l,r,pre,h,hr => by
    obtain ⟨h0,h1⟩ := hr e (by simp)
    have hs := ren_step h h0 h1
    have hr2 : ∀ x ∈ l,0 ≤ x.node ∧ x.node < ns.length := fun x hx => hr x (by simp [hx])
    have ih := ren_ents (l := l) hs hr2
    obtain ⟨_,hk⟩ := ren_grow (l := l) hs hr2
    obtain ⟨k,k1,_⟩ := hs.old e (by simp)
    have hke := hk e.node (by rw [k1];omega)
    rw [List.foldl_cons,ih,List.map_cons,List.append_cons]
    congr 1
    have : (renStep ns r e).ents = r.ents ++ [⟨e.path,seenAt (renStep ns r e).seen e.node - 1⟩] := by
      unfold renStep
      by_cases hz : seenAt r.seen e.node = 0
      · have hlt : e.node.toNat < r.seen.length := by rw [h.len];omega
        rw [if_pos hz]
        simp only [seenAt_set hlt,if_true]
        congr 3
        omega
      · rw [if_neg hz]
    rw [this]
    unfold renE
    rw [hke]
def Once (ns : List FNode) (l : List TEnt) : Prop := l.Pairwise fun x y => x.node.toNat = y.node.toNat → (nodeG ns y.node).kind ≠ 1
theorem kindAt_get {ns : List FNode} {k : Nat} {n : FNode} (h : ns[k]? = some n) : kindAt ns k = n.kind := by unfold kindAt;rw [Int.toNat_natCast,h];rfl
theorem mayAt_get {ns : List FNode} {k : Nat} {n : FNode} (h : ns[k]? = some n) : mayAt ns k = mayN n := by unfold mayAt;rw [Int.toNat_natCast,h];rfl
def headO (prev : Option (List UInt8)) (p : List UInt8) : Bool := match prev with | none => decide (p = []) | some q => lessB q p
theorem entOk_head (ns : List FNode) (used : Nat) (prev : Option (List UInt8)) (e : TEnt) : entOk ns used prev e = (mayB e.path && headO prev e.path && !decide (e.node < 0) && !decide ((used : Int) < e.node) && !decide ((ns.length : Int) ≤ e.node) && !(decide (e.node < used) && decide (kindAt ns e.node = 1)) && (!decide (e.node = used) || mayAt ns used)) := by cases prev <;> rfl
theorem ren_ord {ns : List FNode} : ∀ {l : List TEnt} {r : Ren} {pre : List TEnt} {prev : Option (List UInt8)},RenInv ns pre r → (∀ e ∈ l,0 ≤ e.node ∧ e.node < ns.length) → (∀ e ∈ l,mayN (nodeG ns e.node) = true) → Once ns (pre ++ l) → Rise l →
    (∀ e m,l = e :: m → headO prev e.path = true) → ordG (l.foldl (renStep ns) r).nodes prev r.nodes.length (l.map (renE (l.foldl (renStep ns) r))) = true
  | [],r,pre,prev,_,_,_,_,_,_ => by
    rw [List.map_nil,ordG];exact decide_eq_true rfl
  | e :: l,r,pre,prev,h,hr,hm,ho,hR,hh => by
    obtain ⟨h0,h1⟩ := hr e (by simp)
    have hs := ren_step h h0 h1
    have hr2 : ∀ x ∈ l,0 ≤ x.node ∧ x.node < ns.length := fun x hx => hr x (by simp [hx])
    have hnext : ∀ x m,l = x :: m → lessB e.path x.path = true := fun x m hx => (List.pairwise_cons.1 hR.1).1 x (by rw [hx];simp)
    have ih := ren_ord (l := l) (prev := some e.path) hs hr2 (fun x hx => hm x (by simp [hx])) (by rw [List.append_assoc];exact ho) hR.tail hnext
    obtain ⟨⟨m,hmn⟩,hk⟩ := ren_grow (l := l) hs hr2
    rw [List.foldl_cons,List.map_cons,ordG]
    have hhe := hh e l rfl
    have hme := hR.2 e (by simp)
    obtain ⟨k,k1,k2⟩ := hs.old e (by simp)
    have hke := hk e.node (by rw [k1];omega)
    have hnode : (renE (l.foldl (renStep ns) (renStep ns r e)) e).node = (k : Int) := by
      show seenAt (l.foldl (renStep ns) (renStep ns r e)).seen e.node - 1 = k
      rw [hke,k1];omega
    have hF : (l.foldl (renStep ns) (renStep ns r e)).nodes[k]? = some (nodeG ns e.node) := by rw [hmn];exact get_app k2
    have hkF := (List.getElem?_eq_some_iff.1 hF).1
    have hpath : (renE (l.foldl (renStep ns) (renStep ns r e)) e).path = e.path := rfl
    generalize l.foldl (renStep ns) (renStep ns r e) = F at *
    rw [entOk_head]
    unfold nextU
    rw [hpath,hnode,kindAt_get hF,hme,hhe]
    by_cases hz : seenAt r.seen e.node = 0
    · have hst : renStep ns r e = ⟨r.seen.set e.node.toNat (r.nodes.length + 1),r.ents ++ [⟨e.path,r.nodes.length⟩],r.nodes ++ [nodeG ns e.node]⟩ := by unfold renStep;rw [if_pos hz]
      have hlt : e.node.toNat < r.seen.length := by rw [h.len];omega
      have hkk : k = r.nodes.length := by
        rw [hst] at k1
        simp only [seenAt_set hlt,if_true] at k1
        omega
      rw [hst] at ih
      simp only [List.length_append,List.length_cons,List.length_nil,Nat.zero_add] at ih
      subst hkk
      rw [mayAt_get hF,hm e (by simp),if_pos rfl,ih]
      have d1 : decide (((r.nodes.length : Nat) : Int) < 0) = false := decide_eq_false (by omega)
      have d2 : decide (((F.nodes.length : Nat) : Int) ≤ ((r.nodes.length : Nat) : Int)) = false := decide_eq_false (by omega)
      simp [d1,d2,hkF]
    · have hst : renStep ns r e = ⟨r.seen,r.ents ++ [⟨e.path,seenAt r.seen e.node - 1⟩],r.nodes⟩ := by unfold renStep;rw [if_neg hz]
      obtain ⟨y,hy,hye⟩ := h.new e.node hz
      have hkd : (nodeG ns e.node).kind ≠ 1 := (List.pairwise_append.1 ho).2.2 y hy e (by simp) hye
      rw [hst] at k2 ih
      have hkn : k < r.nodes.length := (List.getElem?_eq_some_iff.1 k2).1
      have hne : ¬ (k : Int) = (r.nodes.length : Int) := by omega
      rw [if_neg hne,ih]
      have d1 : decide ((k : Int) < 0) = false := decide_eq_false (by omega)
      have d2 : decide (((F.nodes.length : Nat) : Int) ≤ (k : Int)) = false := decide_eq_false (by omega)
      have d3 : decide ((r.nodes.length : Int) < (k : Int)) = false := decide_eq_false (by omega)
      have d4 : decide ((nodeG ns e.node).kind = 1) = false := decide_eq_false hkd
      have d5 : decide ((k : Int) = (r.nodes.length : Int)) = false := decide_eq_false hne
      rw [d1,d2,d3,d4,d5]
      simp
theorem ren_start (ns : List FNode) : RenInv ns [] ⟨List.replicate ns.length 0,[],[]⟩ := by
  refine ⟨by simp,fun e he => (by cases he),fun i hi => ?_⟩
  exfalso
  apply hi
  unfold seenAt
  simp only [List.getElem?_replicate]
  split <;> rfl
theorem ren_inv {ns : List FNode} : ∀ {l : List TEnt} {r : Ren} {pre : List TEnt},RenInv ns pre r → (∀ e ∈ l,0 ≤ e.node ∧ e.node < ns.length) → RenInv ns (pre ++ l) (l.foldl (renStep ns) r)
  | [],r,pre,h,_ => by rw [List.append_nil];exact h
  | e :: l,r,pre,h,hr => by
    obtain ⟨h0,h1⟩ := hr e (by simp)
    have := ren_inv (l := l) (ren_step h h0 h1) fun x hx => hr x (by simp [hx])
    rwa [List.append_assoc] at this
theorem rise_inj : ∀ {l : List TEnt},Rise l → ∀ x ∈ l,∀ y ∈ l,x.path = y.path → x = y
  | [],_,x,hx,_,_,_ => by cases hx
  | a :: l,h,x,hx,y,hy,he => by
    have ha := (List.pairwise_cons.1 h.1).1
    rcases List.mem_cons.1 hx with hx1 | hx1
    · rcases List.mem_cons.1 hy with hy1 | hy1
      · rw [hx1,hy1]
      · rw [hx1] at he;exact absurd he (less_ne (ha y hy1))
    · rcases List.mem_cons.1 hy with hy1 | hy1
      · rw [hy1] at he;exact absurd he.symm (less_ne (ha x hx1))
      · exact rise_inj h.tail x hx1 y hy1 he
structure Good (t : FTree) : Prop where
  may : ∀ e ∈ t.ents,mayB e.path = true
  dist : t.ents.Pairwise fun x y => x.path ≠ y.path
  range : ∀ e ∈ t.ents,0 ≤ e.node ∧ e.node < t.nodes.length
  nodes : ∀ e ∈ t.ents,mayN (nodeG t.nodes e.node) = true
  once : Once t.nodes t.ents
  root : ∃ e ∈ t.ents,e.path = [] ∧ (nodeG t.nodes e.node).kind = 1
  up : ∀ e ∈ t.ents,e.path ≠ [] → ∃ p ∈ t.ents,p.path = (parentB e.path).1 ∧ (nodeG t.nodes p.node).kind = 1
  len : t.ents.length ≤ 100
def normed (t : FTree) : FTree := ⟨(renT t.nodes (sortT t.ents)).ents,(renT t.nodes (sortT t.ents)).nodes⟩
theorem Once.perm {ns : List FNode} {l m : List TEnt} (h : Once ns l) (p : m.Perm l) : Once ns m := by
  unfold Once at *
  refine (List.Perm.pairwise_iff ?_ p.symm).1 h
  intro x y hxy he
  rw [← nodeG_nat ns he]
  exact hxy he.symm
theorem normed_may {t : FTree} (h : Good t) : mayT (normed t) = true := by
  obtain ⟨hR,hP⟩ := sortT_ok h.may h.dist
  have hmem : ∀ e,e ∈ sortT t.ents ↔ e ∈ t.ents := fun e => hP.mem_iff
  have hlen := hP.length_eq
  have hrg : ∀ e ∈ sortT t.ents,0 ≤ e.node ∧ e.node < t.nodes.length := fun e he => h.range e ((hmem e).1 he)
  have hst := ren_start t.nodes
  have hinv := ren_inv hst hrg
  rw [List.nil_append] at hinv
  have hents := ren_ents hst hrg
  rw [List.nil_append] at hents
  obtain ⟨e0,he0,hp0,hk0⟩ := h.root
  have hs0 := (hmem e0).2 he0
  obtain ⟨x,rest,hx⟩ : ∃ x rest,sortT t.ents = x :: rest := by
    cases hh : sortT t.ents with
    | nil => rw [hh] at hs0;cases hs0
    | cons x rest => exact ⟨x,rest,rfl⟩
  have hx0 : x = e0 := by
    rw [hx] at hs0
    rcases List.mem_cons.1 hs0 with c | c
    · exact c.symm
    · have := (List.pairwise_cons.1 (by rw [← hx];exact hR.1)).1 e0 c
      rw [hp0,less_nil] at this;cases this
  subst hx0
  have hord := ren_ord (prev := none) hst hrg (fun e he => h.nodes e ((hmem e).1 he)) (by rw [List.nil_append];exact h.once.perm hP) hR (fun e m he => by
    rw [hx] at he;cases he
    show decide (x.path = []) = true
    rw [hp0];rfl)
  have hkind : ∀ e ∈ sortT t.ents,kindAt (renT t.nodes (sortT t.ents)).nodes (renE (renT t.nodes (sortT t.ents)) e).node = (nodeG t.nodes e.node).kind := by
    intro e he
    obtain ⟨k,k1,k2⟩ := hinv.old e he
    have : (renE (renT t.nodes (sortT t.ents)) e).node = (k : Int) := by
      show seenAt (renT t.nodes (sortT t.ents)).seen e.node - 1 = k
      unfold renT
      rw [k1];omega
    rw [this]
    exact kindAt_get k2
  have hE : (normed t).ents = (sortT t.ents).map (renE (renT t.nodes (sortT t.ents))) := hents
  have hN : (normed t).nodes = (renT t.nodes (sortT t.ents)).nodes := rfl
  unfold mayT
  simp only [Bool.and_eq_true,decide_eq_true_eq]
  refine ⟨⟨⟨⟨?_,?_⟩,?_⟩,?_⟩,?_⟩
  · rw [hE,List.length_map,hx];simp
  · rw [hE,List.length_map,hlen];exact h.len
  · rw [hE,hN];exact hord
  · unfold headKind
    rw [hE,hN,hx,List.map_cons]
    have := hkind x (by rw [hx];simp)
    rw [hx] at this
    simp only [this,hk0];rfl
  · rw [List.all_eq_true]
    intro y hy
    rw [hE,hx,List.map_cons,List.drop_succ_cons,List.drop_zero] at hy
    obtain ⟨e,he,rfl⟩ := List.mem_map.1 hy
    have hes : e ∈ sortT t.ents := by rw [hx];simp [he]
    have hne : e.path ≠ [] := by
      have := (List.pairwise_cons.1 (by rw [← hx];exact hR.1)).1 e he
      intro c
      rw [c,less_nil] at this;cases this
    obtain ⟨p,hp,hpp,hpk⟩ := h.up e ((hmem e).1 hes) hne
    have hps := (hmem p).2 hp
    unfold upOk
    show ((findT (normed t).ents (parentB e.path).1).2 && decide (kindAt (normed t).nodes (findT (normed t).ents (parentB e.path).1).1 = 1)) = true
    cases hf : (findT (normed t).ents (parentB e.path).1).2
    · exact absurd hpp (findT_false hf (renE (renT t.nodes (sortT t.ents)) p) (by rw [hE];exact List.mem_map.2 ⟨p,hps,rfl⟩))
    · obtain ⟨z,hz,hzp,hzn⟩ := findT_mem hf
      rw [hE] at hz
      obtain ⟨w,hw,rfl⟩ := List.mem_map.1 hz
      have hwp : w = p := rise_inj hR w hw p hps (by rw [hpp];exact hzp)
      subst hwp
      rw [← hzn,hN,hkind w hw,hpk];rfl
theorem normTree_ok {t : FTree} (h : Good t) : normTree t = (normed t,0) := by
  unfold normTree
  have : t.ents.any (badE t) = false := by
    rw [List.any_eq_false]
    intro e he
    unfold badE
    have h1 := h.may e he
    have h2 := h.range e he
    rw [h1,decide_eq_false (p := e.node < 0) (by omega),decide_eq_false (p := (t.nodes.length : Int) ≤ e.node) (by omega)]
    simp
  rw [this]
  have h2 := normed_may h
  unfold normed at h2 ⊢
  rw [h2];rfl
end Go.Proofs.Ytpficpldemickaa.TreeSpec
end
section
set_option linter.unusedSimpArgs false
set_option linter.unusedVariables false
namespace Go.Proofs.Ytpficpldemickaa.TreeSpec
open AclSpec MetaSpec NodeSpec PathSpec

theorem pathsI_nil : ∀ {l m : List TEnt},(∀ e ∈ l,e.path ≠ []) → (∀ e ∈ m,e.path ≠ []) → pathsI l m = [] → l.map (·.path) = m.map (·.path)
  | [],[],_,_,_ => rfl
  | [],b :: _,_,hb,h => absurd h (hb b (by simp))
  | a :: _,[],ha,_,h => absurd h (ha a (by simp))
  | a :: r,b :: s,ha,hb,h => by
    unfold pathsI at h
    split at h
    · rename_i he
      rw [List.map_cons,List.map_cons,he,pathsI_nil (fun e hx => ha e (by simp [hx])) (fun e hx => hb e (by simp [hx])) h]
    · split at h
      · exact absurd h (ha a (by simp))
      · exact absurd h (hb b (by simp))
theorem pathsI_self : ∀ l : List TEnt,pathsI l l = []
  | [] => rfl
  | a :: r => by rw [pathsI,if_pos rfl];exact pathsI_self r
theorem pathsI_symm : ∀ {l m : List TEnt},Rise l → Rise m → pathsI l m = pathsI m l
  | [],[],_,_ => rfl
  | [],b :: _,_,_ => rfl
  | a :: _,[],_,_ => rfl
  | a :: r,b :: s,hl,hm => by
    rw [pathsI,pathsI]
    by_cases he : a.path = b.path
    · rw [if_pos he,if_pos he.symm]
      exact pathsI_symm hl.tail hm.tail
    · have he2 : ¬ b.path = a.path := fun c => he c.symm
      rw [if_neg he,if_neg he2]
      rcases less_tri (hl.2 a (by simp)) (hm.2 b (by simp)) with c | c | c
      · rw [c,less_asym c];rfl
      · exact absurd c he
      · rw [c,less_asym c];rfl
theorem pathsA_symm (a b : FTree) : pathsA a b = pathsA b a := by
  unfold pathsA
  rw [Bool.and_comm]
  cases h : mayT b && mayT a
  · rfl
  · rw [Bool.and_eq_true] at h
    obtain ⟨x,r,h1,_,h3,_⟩ := (mayT_valid h.1).head
    obtain ⟨y,s,k1,_,k3,_⟩ := (mayT_valid h.2).head
    rw [if_pos rfl,if_pos rfl,h1,k1]
    exact pathsI_symm k3 h3
theorem within_paths {a b : FTree} (ha : mayT a = true) (hb : mayT b = true) : (withinA a b && withinA b a) = decide (pathsA a b = []) := by
  rw [← withinAB,← withinAB,← pathsAB]
  unfold withinB pathsB
  rw [ha,hb]
  simp only [Bool.and_self,Bool.true_and,if_true]
  unfold mergeL
  by_cases h : lone a.ents b.ents = []
  · rw [if_pos h,decide_eq_true h,Bool.true_and]
  · rw [if_neg h,decide_eq_false h,Bool.false_and]
    symm
    apply decide_eq_false
    split
    · exact h
    · rename_i c
      intro d
      exact c (.inl d)
theorem findT_rise : ∀ {l : List TEnt},l.Pairwise (fun x y => lessB x.path y.path = true) → ∀ e ∈ l,findT l e.path = (e.node,true)
  | [],_,e,he => by cases he
  | x :: r,h,e,he => by
    obtain ⟨h1,h2⟩ := List.pairwise_cons.1 h
    rcases List.mem_cons.1 he with rfl | he
    · rw [findT,if_pos rfl]
    · rw [findT_skip (less_ne (h1 e he))]
      exact findT_rise h2 e he
theorem Valid.rise {t : FTree} (h : Valid t) : Rise t.ents := by
  obtain ⟨x,r,h1,_,h3,_⟩ := h.head
  rw [h1];exact h3
theorem common_self {l : List TEnt} (h : l.Pairwise (fun x y => lessB x.path y.path = true)) : commonP l l = l.map fun e => ⟨e.path,e.node,e.node⟩ := by
  have : ∀ r : List TEnt,(∀ e ∈ r,e ∈ l) → commonP r l = r.map fun e => ⟨e.path,e.node,e.node⟩ := by
    intro r
    induction r with
    | nil => intro _;rfl
    | cons e r ih =>
      intro hr
      rw [common_cons,ih fun x hx => hr x (by simp [hx]),List.map_cons]
      unfold pair1
      rw [findT_rise h e (hr e (by simp))]
      rfl
  exact this l fun e he => he
theorem same_self {a : FTree} (h : mayT a = true) : sameA a a = true := by
  have hc := common_self (mayT_valid h).rise.1
  unfold sameA pathsA linksA nodesA
  rw [h,hc,pathsI_self]
  have hl : ∀ r l : List TEnt,linksP (l.map fun e => ⟨e.path,e.node,e.node⟩) (r.map fun e => ⟨e.path,e.node,e.node⟩) = [] := by
    intro r l
    induction r with
    | nil => rfl
    | cons e r ih =>
      rw [List.map_cons,linksP,ih,if_neg]
      rw [Bool.not_eq_true,List.any_eq_false]
      intro q hq
      obtain ⟨x,_,rfl⟩ := List.mem_map.1 hq
      simp [differ]
  have hn : ∀ r : List TEnt,nodesP a.nodes a.nodes (r.map fun e => ⟨e.path,e.node,e.node⟩) = ([],[]) := by
    intro r
    induction r with
    | nil => rfl
    | cons e r ih => rw [List.map_cons,nodesP,ih,if_pos (diffN_nil.2 rfl)]
  rw [hl,hn];rfl
theorem common_zip : ∀ {l m b : List TEnt},l.map (·.path) = m.map (·.path) → (∀ e ∈ m,findT b e.path = (e.node,true)) → commonP l b = List.zipWith (fun e f => ⟨e.path,e.node,f.node⟩) l m
  | [],[],_,_,_ => rfl
  | [],_ :: _,_,h,_ => by cases h
  | _ :: _,[],_,h,_ => by cases h
  | e :: r,f :: s,b,h,hb => by
    rw [List.map_cons,List.map_cons] at h
    injection h with h1 h2
    rw [common_cons,common_zip h2 fun x hx => hb x (by simp [hx]),List.zipWith_cons_cons]
    unfold pair1
    rw [h1,hb f (by simp)]
    rfl
theorem linksP_nil : ∀ {l r : List TPair},(∀ p ∈ r,p.path ≠ [] ∨ ∀ q ∈ l,differ p q = false) → linksP l r = [] → ∀ p ∈ r,∀ q ∈ l,differ p q = false
  | _,[],_,_,p,hp => by cases hp
  | l,x :: r,h0,h,p,hp => by
    unfold linksP at h
    split at h
    · rename_i hc
      rcases h0 x (by simp) with c | c
      · exact absurd h c
      · rw [List.any_eq_true] at hc
        obtain ⟨q,hq,hd⟩ := hc
        rw [c q hq] at hd;cases hd
    · rename_i hc
      rcases List.mem_cons.1 hp with rfl | hp
      · rw [Bool.not_eq_true,List.any_eq_false] at hc
        intro q hq
        simpa using hc q hq
      · exact linksP_nil (fun y hy => h0 y (by simp [hy])) h p hp
theorem nodesP_nil {na nb : List FNode} : ∀ {r : List TPair},(nodesP na nb r).1 = [] → ∀ p ∈ r,nodeG na p.a = nodeG nb p.b
  | [],_,p,hp => by cases hp
  | x :: r,h,p,hp => by
    unfold nodesP at h
    split at h
    · rename_i hc
      rcases List.mem_cons.1 hp with rfl | hp
      · exact diffN_nil.1 hc
      · exact nodesP_nil h p hp
    · exfalso
      unfold dotP at h
      split at h
      · cases h
      · rename_i hx;exact hx h
theorem num_eq {ns ms : List FNode} : ∀ {l m : List TEnt} {p q : Option (List UInt8)} {used : Nat} {D : List TPair},l.map (·.path) = m.map (·.path) → ordG ns p used l = true → ordG ms q used m = true →
    (∀ k : Nat,k < used → ∃ x ∈ D,x.a = (k : Int) ∧ x.b = (k : Int)) → (∀ x ∈ List.zipWith (fun e f => (⟨e.path,e.node,f.node⟩ : TPair)) l m,∀ y ∈ D ++ List.zipWith (fun e f => (⟨e.path,e.node,f.node⟩ : TPair)) l m,(y.a = x.a ↔ y.b = x.b)) →
    l = m ∧ ns.length = ms.length ∧ ∀ k : Nat,k < ns.length → ∃ x ∈ D ++ List.zipWith (fun e f => (⟨e.path,e.node,f.node⟩ : TPair)) l m,x.a = (k : Int) ∧ x.b = (k : Int)
  | [],[],p,q,used,D,_,h1,h2,hD,_ => by
    unfold ordG at h1 h2
    have h1 := of_decide_eq_true h1
    have h2 := of_decide_eq_true h2
    refine ⟨rfl,by omega,fun k hk => ?_⟩
    obtain ⟨x,hx,h⟩ := hD k (by omega)
    exact ⟨x,by simp [hx],h⟩
  | [],_ :: _,_,_,_,_,h,_,_,_,_ => by cases h
  | _ :: _,[],_,_,_,_,h,_,_,_,_ => by cases h
  | e :: r,f :: s,p,q,used,D,h,h1,h2,hD,hL => by
    rw [List.map_cons,List.map_cons] at h
    injection h with hp hr
    unfold ordG at h1 h2
    rw [Bool.and_eq_true] at h1 h2
    obtain ⟨a1,a2⟩ := h1
    obtain ⟨b1,b2⟩ := h2
    have ra : 0 ≤ e.node ∧ e.node ≤ used := by
      unfold entOk at a1;simp only [Bool.and_eq_true,Bool.not_eq_true',decide_eq_false_iff_not] at a1;omega
    have rb : 0 ≤ f.node ∧ f.node ≤ used := by
      unfold entOk at b1;simp only [Bool.and_eq_true,Bool.not_eq_true',decide_eq_false_iff_not] at b1;omega
    rw [List.zipWith_cons_cons] at hL
    have hx := hL ⟨e.path,e.node,f.node⟩ (by simp)
    have hn : e.node = f.node := by
      by_cases c : e.node < used
      · obtain ⟨x,hx1,hx2,hx3⟩ := hD e.node.toNat (by omega)
        have := (hx x (by simp [hx1])).1 (by simp only;omega)
        simp only at this;omega
      · by_cases d : f.node < used
        · obtain ⟨x,hx1,hx2,hx3⟩ := hD f.node.toNat (by omega)
          have := (hx x (by simp [hx1])).2 (by simp only;omega)
          simp only at this;omega
        · omega
    have hu : nextU used e = nextU used f := by unfold nextU;rw [hn]
    rw [hu] at a2
    have hD2 : ∀ k : Nat,k < nextU used f → ∃ x ∈ D ++ [(⟨e.path,e.node,f.node⟩ : TPair)],x.a = (k : Int) ∧ x.b = (k : Int) := by
      intro k hk
      by_cases c : k < used
      · obtain ⟨x,hx1,hx2⟩ := hD k c
        exact ⟨x,by simp [hx1],hx2⟩
      · unfold nextU at hk
        split at hk
        · exact ⟨_,List.mem_append_right _ (List.mem_singleton.2 rfl),by simp only;omega,by simp only;omega⟩
        · omega
    obtain ⟨i1,i2,i3⟩ := num_eq hr a2 b2 hD2 (fun x hx y hy => hL x (by simp [hx]) y (by
      rw [List.append_assoc,List.singleton_append] at hy;exact hy))
    refine ⟨?_,i2,fun k hk => ?_⟩
    · rw [i1]
      congr 1
      obtain ⟨p1,n1⟩ := e
      obtain ⟨p2,n2⟩ := f
      simp only at hp hn
      rw [hp,hn]
    · obtain ⟨x,hx1,hx2⟩ := i3 k hk
      refine ⟨x,?_,hx2⟩
      rw [List.append_assoc,List.singleton_append] at hx1
      rw [List.zipWith_cons_cons];exact hx1
theorem mayT_ord {t : FTree} (h : mayT t = true) : ordG t.nodes none 0 t.ents = true := by
  unfold mayT at h
  simp only [Bool.and_eq_true] at h
  exact h.1.1.2
theorem ordG_zero {ns : List FNode} (hk : kindAt ns 0 = 1) : ∀ {l : List TEnt} {p : Option (List UInt8)} {used : Nat},1 ≤ used → ordG ns p used l = true → ∀ e ∈ l,e.node ≠ 0
  | [],_,_,_,_,e,he => by cases he
  | x :: r,p,used,hu,h,e,he => by
    unfold ordG at h
    rw [Bool.and_eq_true] at h
    rcases List.mem_cons.1 he with rfl | he
    · intro c
      have h1 := h.1
      unfold entOk at h1
      simp only [Bool.and_eq_true,Bool.not_eq_true',Bool.and_eq_false_iff,decide_eq_false_iff_not] at h1
      rcases h1.1.2 with d | d
      · omega
      · rw [c] at d;exact d hk
    · exact ordG_zero hk (by unfold nextU;split <;> omega) h.2 e he
theorem root_alone {t : FTree} (h : mayT t = true) : ∃ e r,t.ents = e :: r ∧ e.path = [] ∧ e.node = 0 ∧ ∀ x ∈ r,x.path ≠ [] ∧ x.node ≠ 0 := by
  obtain ⟨e,r,h1,h2,h3,h4⟩ := (mayT_valid h).head
  have ho := mayT_ord h
  have hk : headKind t = true := by
    unfold mayT at h
    simp only [Bool.and_eq_true] at h
    exact h.1.2
  unfold headKind at hk
  rw [h1] at ho hk
  have hk := of_decide_eq_true hk
  unfold ordG at ho
  rw [Bool.and_eq_true] at ho
  have he : e.node = 0 := by
    have := ho.1
    unfold entOk at this
    simp only [Bool.and_eq_true,Bool.not_eq_true',decide_eq_false_iff_not] at this
    omega
  rw [he] at hk
  refine ⟨e,r,h1,h2,he,fun x hx => ⟨h4 x hx,ordG_zero hk ?_ ho.2 x hx⟩⟩
  unfold nextU
  rw [he];simp
theorem get_nodeG {ns : List FNode} {k : Nat} (h : k < ns.length) : nodeG ns k = ns[k] := by
  unfold nodeG;rw [Int.toNat_natCast,List.getElem?_eq_getElem h];rfl
theorem same_eq {a b : FTree} (ha : mayT a = true) (hb : mayT b = true) : sameA a b = decide (a = b) := by
  rw [Bool.eq_iff_iff,decide_eq_true_eq]
  constructor
  rotate_left
  · rintro rfl;exact same_self ha
  intro h
  unfold sameA pathsA linksA nodesA at h
  rw [ha,hb] at h
  simp only [Bool.and_self,if_true,Bool.true_and,Bool.and_eq_true,decide_eq_true_eq] at h
  obtain ⟨⟨h1,h2⟩,h3⟩ := h
  have va := mayT_valid ha
  have vb := mayT_valid hb
  have hp : a.ents.map (·.path) = b.ents.map (·.path) := by
    obtain ⟨x,r,x1,x2,x3,x4⟩ := va.head
    obtain ⟨y,s,y1,y2,y3,y4⟩ := vb.head
    rw [x1,y1] at h1 ⊢
    rw [pathsI,if_pos (by rw [x2,y2])] at h1
    rw [List.map_cons,List.map_cons,pathsI_nil x4 y4 h1,x2,y2]
  have hz := common_zip (b := b.ents) hp (findT_rise vb.rise.1)
  rw [hz] at h2 h3
  have hmem : ∀ p ∈ List.zipWith (fun e f => (⟨e.path,e.node,f.node⟩ : TPair)) a.ents b.ents,(p.path ≠ [] ∧ p.a ≠ 0 ∧ p.b ≠ 0) ∨ p.a = 0 ∧ p.b = 0 := by
    obtain ⟨x,r,x1,x2,x3,x4⟩ := root_alone ha
    obtain ⟨y,s,y1,y2,y3,y4⟩ := root_alone hb
    rw [x1,y1]
    intro p hp
    rw [List.zipWith_cons_cons] at hp
    rcases List.mem_cons.1 hp with rfl | hp
    · right;exact ⟨x3,y3⟩
    · left
      obtain ⟨i,hi⟩ := List.mem_iff_getElem?.1 hp
      rw [List.getElem?_zipWith] at hi
      cases hri : r[i]? with
      | none => rw [hri] at hi;cases hi
      | some u =>
        rw [hri] at hi
        cases hsi : s[i]? with
        | none => rw [hsi] at hi;cases hi
        | some v =>
          rw [hsi] at hi
          cases hi
          have h4 := x4 u (List.mem_of_getElem? hri)
          exact ⟨h4.1,h4.2,(y4 v (List.mem_of_getElem? hsi)).2⟩
  have hd := linksP_nil (l := List.zipWith (fun e f => (⟨e.path,e.node,f.node⟩ : TPair)) a.ents b.ents) (r := List.zipWith (fun e f => (⟨e.path,e.node,f.node⟩ : TPair)) a.ents b.ents) ?_ h2
  · have hn := nodesP_nil h3
    obtain ⟨i1,i2,i3⟩ := num_eq (D := []) hp (mayT_ord ha) (mayT_ord hb) (fun k hk => by omega) fun x hx y hy => by
      rw [List.nil_append] at hy
      have := hd x hx y hy
      unfold differ at this
      simp only [bne_eq_false_iff_eq,decide_eq_decide] at this
      exact this
    have hns : a.nodes = b.nodes := by
      apply List.ext_getElem i2
      intro k k1 k2
      obtain ⟨x,hx1,hx2,hx3⟩ := i3 k k1
      rw [List.nil_append] at hx1
      have := hn x hx1
      rw [hx2,hx3,get_nodeG k1,get_nodeG k2] at this
      exact this
    obtain ⟨ae,an⟩ := a
    obtain ⟨be,bn⟩ := b
    simp only at i1 hns
    rw [i1,hns]
  · intro p hp
    rcases hmem p hp with c | ⟨c,d⟩
    · exact .inl c.1
    · right
      intro q hq
      unfold differ
      rw [c,d,bne_eq_false_iff_eq,decide_eq_decide]
      rcases hmem q hq with k | k
      · exact ⟨fun x => absurd x k.2.1,fun x => absurd x k.2.2⟩
      · exact ⟨fun _ => k.2,fun _ => k.1⟩
end Go.Proofs.Ytpficpldemickaa.TreeSpec
end
section
set_option linter.unusedSimpArgs false
set_option linter.unusedVariables false
namespace Go.Proofs.Ytpficpldemickaa.TreeSpec
open AclSpec MetaSpec NodeSpec PathSpec

theorem okN_of {l : List UInt8} (h : mayB l = true) : okN (partsB l) ∧ joinN (partsB l) = l := by
  unfold partsB
  cases he : l.isEmpty
  · rw [h]
    simp only [Bool.not_true,Bool.or_false,Bool.false_eq_true,if_false]
    refine ⟨?_,join_names l⟩
    unfold mayB mayK at h
    rw [he] at h
    simp only [Bool.false_or,Bool.and_eq_true,decide_eq_true_eq,List.all_eq_true] at h
    refine ⟨h.2.1,by omega,?_⟩
    rw [join_names];exact h.1
  · have h0 : l = [] := by cases l <;> simp_all
    subst h0
    exact ⟨⟨fun x hx => absurd hx (by simp),by simp,by simp [joinN]⟩,rfl⟩
theorem posT_end {l : List TEnt} {p : List UInt8} (h : ∀ x ∈ l,lessB x.path p = true) : posT l p = l.length := by
  unfold posT
  have : l.reverse.dropWhile (fun x => lessB p x.path) = l.reverse := by
    cases hr : l.reverse with
    | nil => rfl
    | cons x r =>
      have hx : x ∈ l := by rw [← List.mem_reverse,hr];simp
      rw [List.dropWhile_cons,if_neg]
      rw [less_asym (h x hx)];exact Bool.false_ne_true
  rw [this,List.length_reverse]
theorem sort_rise : ∀ (l a : List TEnt),(a ++ l).Pairwise (fun x y => lessB x.path y.path = true) → l.foldl insT a = a ++ l
  | [],a,_ => by simp
  | e :: l,a,h => by
    have h1 : insT a e = a ++ [e] := by
      unfold insT
      have := (List.pairwise_append.1 h).2.2
      rw [posT_end fun x hx => this x hx e (by simp),List.take_length,List.drop_length]
    rw [List.foldl_cons,h1,sort_rise l (a ++ [e]) (by rw [List.append_assoc];exact h),List.append_assoc]
    rfl
theorem sortT_rise {l : List TEnt} (h : Rise l) : sortT l = l := by
  unfold sortT
  rw [sort_rise l [] (by rw [List.nil_append];exact h.1),List.nil_append]
def Inj (r : Ren) : Prop := (∀ i j : Int,seenAt r.seen i ≠ 0 → seenAt r.seen i = seenAt r.seen j → i.toNat = j.toNat) ∧ ∀ i : Int,seenAt r.seen i ≤ r.nodes.length
theorem inj_start (ns : List FNode) : Inj ⟨List.replicate ns.length 0,[],[]⟩ := by
  have h0 : ∀ i : Int,seenAt (List.replicate ns.length (0 : Int)) i = 0 := by
    intro i
    unfold seenAt
    simp only [List.getElem?_replicate]
    split <;> rfl
  refine ⟨fun i j h => absurd (h0 i) h,fun i => ?_⟩
  rw [h0];simp
theorem inj_step {ns : List FNode} {pre : List TEnt} {r : Ren} {e : TEnt} (hi : RenInv ns pre r) (h : Inj r) (h0 : 0 ≤ e.node) (h1 : e.node < ns.length) : Inj (renStep ns r e) := by
  unfold renStep
  have hlt : e.node.toNat < r.seen.length := by rw [hi.len];omega
  by_cases hz : seenAt r.seen e.node = 0
  · rw [if_pos hz]
    refine ⟨fun i j => ?_,fun i => ?_⟩
    · simp only [seenAt_set hlt]
      by_cases ci : i.toNat = e.node.toNat
      · rw [if_pos ci]
        by_cases cj : j.toNat = e.node.toNat
        · intros;omega
        · rw [if_neg cj]
          intro _ hh
          have := h.2 j
          omega
      · rw [if_neg ci]
        by_cases cj : j.toNat = e.node.toNat
        · rw [if_pos cj]
          intro _ hh
          have := h.2 i
          omega
        · rw [if_neg cj]
          exact h.1 i j
    · simp only [seenAt_set hlt,List.length_append,List.length_singleton]
      have := h.2 i
      split <;> omega
  · rw [if_neg hz];exact h
theorem inj_all {ns : List FNode} : ∀ {l : List TEnt} {r : Ren} {pre : List TEnt},RenInv ns pre r → Inj r → (∀ e ∈ l,0 ≤ e.node ∧ e.node < ns.length) → Inj (l.foldl (renStep ns) r)
  | [],_,_,_,h,_ => h
  | e :: l,r,pre,hi,h,hr => by
    obtain ⟨h0,h1⟩ := hr e (by simp)
    exact inj_all (l := l) (ren_step hi h0 h1) (inj_step hi h h0 h1) fun x hx => hr x (by simp [hx])
theorem kind_nodeG (ns : List FNode) (i : Int) : kindAt ns i = (nodeG ns i).kind := by
  unfold kindAt nodeG
  cases ns[i.toNat]? <;> rfl
theorem ordG_may {ns : List FNode} : ∀ {l : List TEnt} {p : Option (List UInt8)} {used : Nat},ordG ns p used l = true → ∀ k : Nat,used ≤ k → k < ns.length → mayAt ns k = true
  | [],_,used,h,k,h1,h2 => by
    unfold ordG at h
    have := of_decide_eq_true h
    omega
  | e :: l,p,used,h,k,h1,h2 => by
    unfold ordG at h
    rw [Bool.and_eq_true] at h
    have h3 := h.1
    rw [entOk_head] at h3
    simp only [Bool.and_eq_true,Bool.or_eq_true,Bool.not_eq_true',decide_eq_false_iff_not] at h3
    by_cases c : k = used ∧ e.node = used
    · rcases h3.2 with d | d
      · exact absurd c.2 d
      · rw [c.1];exact d
    · refine ordG_may h.2 k ?_ h2
      unfold nextU
      split
      · rename_i d
        have : k ≠ used := fun x => c ⟨x,d⟩
        omega
      · exact h1
theorem ordG_once {ns : List FNode} : ∀ {l : List TEnt} {p : Option (List UInt8)} {used : Nat},ordG ns p used l = true → Once ns l ∧ ∀ e ∈ l,e.node < used → (nodeG ns e.node).kind ≠ 1
  | [],_,_,_ => ⟨List.Pairwise.nil,fun e he => by cases he⟩
  | e :: l,p,used,h => by
    unfold ordG at h
    rw [Bool.and_eq_true] at h
    have h3 := h.1
    rw [entOk_head] at h3
    simp only [Bool.and_eq_true,Bool.or_eq_true,Bool.not_eq_true',Bool.and_eq_false_iff,decide_eq_false_iff_not] at h3
    obtain ⟨i1,i2⟩ := ordG_once h.2
    have hu : used ≤ nextU used e ∧ e.node < nextU used e := by unfold nextU;split <;> omega
    refine ⟨List.pairwise_cons.2 ⟨fun y hy hn => ?_,i1⟩,fun y hy hlt => ?_⟩
    · refine i2 y hy ?_
      have h0 : 0 ≤ y.node := (ordG_range h.2 y hy).1
      omega
    · rcases List.mem_cons.1 hy with rfl | hy
      · rcases h3.1.2 with d | d
        · exact absurd hlt d
        · rw [← kind_nodeG];exact d
      · exact i2 y hy (by omega)
theorem get_may {t : FTree} (h : mayT t = true) {i : Int} (h0 : 0 ≤ i) (h1 : i < t.nodes.length) : mayN (nodeG t.nodes i) = true := by
  have := ordG_may (mayT_ord h) i.toNat (by omega) (by omega)
  have hl : i.toNat < t.nodes.length := by omega
  rw [mayAt_get (List.getElem?_eq_getElem hl)] at this
  unfold nodeG
  rw [List.getElem?_eq_getElem hl]
  exact this
def keepE (q : List UInt8) (e : TEnt) : Bool := decide (e.path = []) || underB e.path q || underB q e.path
def partU (t : FTree) (q : List UInt8) : FTree := ⟨t.ents.filter (keepE q),t.nodes⟩
theorem keep_up {q p : List UInt8} (hq : mayB q = true) (hp : mayB p = true) (hp0 : p ≠ []) (h : (underB p q || underB q p) = true) : (underB (parentB p).1 q || underB q (parentB p).1) = true := by
  obtain ⟨a1,a2⟩ := okN_of hq
  obtain ⟨b1,b2⟩ := okN_of hp
  generalize partsB q = ys at *
  generalize partsB p = xs at *
  rcases List.eq_nil_or_concat xs with h0 | ⟨zs,z,h0⟩
  · rw [h0] at b2;exact absurd b2.symm hp0
  rw [List.concat_eq_append] at h0
  subst h0
  rw [← b2,b1.parent,← a2]
  rw [← b2,← a2,b1.under a1,a1.under b1] at h
  rw [b1.init.under a1,a1.under b1.init]
  simp only [Bool.or_eq_true,List.isPrefixOf_iff_prefix] at h ⊢
  rcases h with h | h
  · rcases List.prefix_concat_iff.1 (by simpa using h) with c | c
    · right;rw [c];exact List.prefix_append _ _
    · exact .inl c
  · exact .inr ((List.prefix_append zs [z]).trans h)
theorem part_good {t : FTree} (ht : mayT t = true) {q : List UInt8} (hq : mayB q = true) : Good (partU t q) := by
  have hv := mayT_valid ht
  have hr := hv.rise
  have hsub : ∀ e ∈ (partU t q).ents,e ∈ t.ents ∧ keepE q e = true := fun e he => List.mem_filter.1 he
  obtain ⟨e0,r0,h1,h2,h3,h4⟩ := root_alone ht
  have hk0 : (nodeG t.nodes 0).kind = 1 := by
    have : headKind t = true := by
      unfold mayT at ht
      simp only [Bool.and_eq_true] at ht
      exact ht.1.2
    unfold headKind at this
    rw [h1] at this
    have := of_decide_eq_true this
    rw [h3,kind_nodeG] at this
    exact this
  refine ⟨fun e he => hr.2 e (hsub e he).1,?_,fun e he => hv.range e (hsub e he).1,fun e he => ?_,?_,?_,fun e he hne => ?_,?_⟩
  · refine (hr.1.filter _).imp fun h => less_ne h
  · have := hv.range e (hsub e he).1
    exact get_may ht this.1 this.2
  · exact (ordG_once (mayT_ord ht)).1.filter _
  · refine ⟨e0,List.mem_filter.2 ⟨by rw [h1];simp,?_⟩,h2,?_⟩
    · unfold keepE;rw [h2];rfl
    · show (nodeG t.nodes e0.node).kind = 1
      rw [h3];exact hk0
  · obtain ⟨he1,he2⟩ := hsub e he
    have hup : upOk t e = true := by
      have h5 := ht
      unfold mayT at h5
      simp only [Bool.and_eq_true,List.all_eq_true] at h5
      refine h5.2 e ?_
      rw [h1] at he1 ⊢
      rcases List.mem_cons.1 he1 with rfl | he1
      · exact absurd h2 hne
      · exact he1
    unfold upOk at hup
    rw [Bool.and_eq_true,decide_eq_true_eq] at hup
    obtain ⟨p,hp1,hp2,hp3⟩ := findT_mem hup.1
    refine ⟨p,List.mem_filter.2 ⟨hp1,?_⟩,hp2,?_⟩
    · unfold keepE at he2 ⊢
      rw [decide_eq_false hne,Bool.false_or] at he2
      have := keep_up hq (hr.2 e he1) hne he2
      rw [hp2,Bool.or_assoc,this,Bool.or_true]
    · show (nodeG t.nodes p.node).kind = 1
      rw [hp3,← kind_nodeG];exact hup.2
  · have h5 := ht
    unfold mayT at h5
    simp only [Bool.and_eq_true,decide_eq_true_eq] at h5
    have := List.length_filter_le (keepE q) t.ents
    show (t.ents.filter (keepE q)).length ≤ 100
    omega
theorem lone_all {b : List TEnt} : ∀ {l : List TEnt},(∀ e ∈ l,(findT b e.path).2 = true) → lone l b = []
  | [],_ => rfl
  | e :: l,h => by
    unfold lone
    rw [h e (by simp)]
    exact lone_all fun x hx => h x (by simp [hx])
def missT (b : List TEnt) (l : List TEnt) : List UInt8 := l.foldr (fun e a => if (findT b e.path).2 then a else e.path) []
theorem miss_lone (b : List TEnt) : ∀ l : List TEnt,missT b l = lone l b
  | [] => rfl
  | e :: l => by
    have ih := miss_lone b l
    unfold missT at ih ⊢
    rw [List.foldr_cons,ih]
    conv => rhs;rw [lone]
theorem part_law {t : FTree} (ht : mayT t = true) {q : List UInt8} (hq : mayB q = true) :
    normTree (partU t q) = (normed (partU t q),0) ∧ mayT (normed (partU t q)) = true ∧ withinA (normed (partU t q)) t = true ∧ linksA (normed (partU t q)) t = [] ∧ nodesA (normed (partU t q)) t = ([],[]) ∧ pathsA (normed (partU t q)) t = missT (normed (partU t q)).ents t.ents ∧
      sameA (normed (partU t q)) t = decide (missT (normed (partU t q)).ents t.ents = []) := by
  have g := part_good ht hq
  have hm := normed_may g
  have hv := mayT_valid ht
  have hr := hv.rise
  have hu : Rise (partU t q).ents := ⟨hr.1.filter _,g.may⟩
  have hs := sortT_rise hu
  have hst := ren_start t.nodes
  have hrg : ∀ e ∈ (partU t q).ents,0 ≤ e.node ∧ e.node < t.nodes.length := g.range
  have hinv := ren_inv hst hrg
  rw [List.nil_append] at hinv
  have hents := ren_ents hst hrg
  rw [List.nil_append] at hents
  have hinj := inj_all hst (inj_start t.nodes) hrg
  have hE : (normed (partU t q)).ents = (partU t q).ents.map (renE ((partU t q).ents.foldl (renStep t.nodes) ⟨List.replicate t.nodes.length 0,[],[]⟩)) := by
    unfold normed renT
    rw [hs];exact hents
  have hN : (normed (partU t q)).nodes = ((partU t q).ents.foldl (renStep t.nodes) ⟨List.replicate t.nodes.length 0,[],[]⟩).nodes := by
    unfold normed renT
    rw [hs];rfl
  generalize (partU t q).ents.foldl (renStep t.nodes) ⟨List.replicate t.nodes.length 0,[],[]⟩ = F at *
  have hfind : ∀ e ∈ (partU t q).ents,findT t.ents e.path = (e.node,true) := fun e he => findT_rise hr.1 e (List.mem_filter.1 he).1
  have hlone : lone (normed (partU t q)).ents t.ents = [] := by
    rw [hE]
    refine lone_all fun e he => ?_
    obtain ⟨x,hx,rfl⟩ := List.mem_map.1 he
    show (findT t.ents x.path).2 = true
    rw [hfind x hx]
  have hcom : commonP (normed (partU t q)).ents t.ents = (partU t q).ents.map fun e => ⟨e.path,(renE F e).node,e.node⟩ := by
    rw [hE]
    have : ∀ l : List TEnt,(∀ e ∈ l,findT t.ents e.path = (e.node,true)) → commonP (l.map (renE F)) t.ents = l.map fun e => ⟨e.path,(renE F e).node,e.node⟩ := by
      intro l
      induction l with
      | nil => intro _;rfl
      | cons e l ih =>
        intro h
        rw [List.map_cons,List.map_cons,common_cons,ih fun x hx => h x (by simp [hx])]
        unfold pair1
        have hpe : (renE F e).path = e.path := rfl
        rw [hpe,h e (by simp)]
        rfl
    exact this _ hfind
  have hL : linksA (normed (partU t q)) t = [] := by
    unfold linksA
    rw [hm,ht,hcom]
    have : ∀ r : List TEnt,(∀ e ∈ r,e ∈ (partU t q).ents) → linksP ((partU t q).ents.map fun e => ⟨e.path,(renE F e).node,e.node⟩) (r.map fun e => ⟨e.path,(renE F e).node,e.node⟩) = [] := by
      intro r
      induction r with
      | nil => intro _;rfl
      | cons e r ih =>
        intro h
        rw [List.map_cons,linksP,ih fun x hx => h x (by simp [hx]),if_neg]
        rw [Bool.not_eq_true,List.any_eq_false]
        intro y hy
        obtain ⟨x,hx,rfl⟩ := List.mem_map.1 hy
        have he := h e (by simp)
        unfold differ renE
        simp only [bne_iff_ne,ne_eq,Decidable.not_not,decide_eq_decide]
        obtain ⟨k,k1,_⟩ := hinv.old e he
        obtain ⟨j,j1,_⟩ := hinv.old x hx
        have r1 := hrg e he
        have r2 := hrg x hx
        constructor
        · intro c
          have := hinj.1 x.node e.node (by omega) (by omega)
          omega
        · intro c;rw [c]
    exact this _ fun e he => he
  have hNo : nodesA (normed (partU t q)) t = ([],[]) := by
    unfold nodesA
    rw [hm,ht,hcom,hN]
    have : ∀ r : List TEnt,(∀ e ∈ r,e ∈ (partU t q).ents) → nodesP F.nodes t.nodes (r.map fun e => ⟨e.path,(renE F e).node,e.node⟩) = ([],[]) := by
      intro r
      induction r with
      | nil => intro _;rfl
      | cons e r ih =>
        intro h
        rw [List.map_cons,nodesP,ih fun x hx => h x (by simp [hx]),if_pos]
        obtain ⟨k,k1,k2⟩ := hinv.old e (h e (by simp))
        have : (renE F e).node = (k : Int) := by unfold renE;simp only;omega
        rw [diffN_nil]
        simp only [this]
        unfold nodeG
        rw [Int.toNat_natCast,k2]
        rfl
    exact this _ fun e he => he
  have hP : pathsA (normed (partU t q)) t = missT (normed (partU t q)).ents t.ents := by
    rw [← pathsAB,miss_lone]
    unfold pathsB
    rw [hm,ht,hlone]
    unfold mergeL
    rw [if_pos rfl];rfl
  refine ⟨normTree_ok g,hm,?_,hL,hNo,hP,?_⟩
  · rw [← withinAB]
    unfold withinB
    rw [hm,ht,hlone];rfl
  · unfold sameA
    rw [hm,ht,hP,hL,hNo]
    simp
end Go.Proofs.Ytpficpldemickaa.TreeSpec
end
