import Derived.Test.YtbffcndmcaeamaaDoorTEq
import Derived.Test.YtbffcndmcaeamaaDoorPlain
section
set_option linter.unusedSimpArgs false
set_option linter.unusedVariables false
namespace Go.Proofs.YtbffcndmcaeamaaDoor.TreeSpec
open AclSpec MetaSpec NodeSpec PathSpec

theorem join_names (l : List UInt8) : joinN (names l) = l := by
  induction hn : l.length using Nat.strongRecOn generalizing l with
  | _ n ih =>
    cases h : has l
    · rw [names_none h];rfl
    · have ht := tl_lt h
      rw [names_has h,joinN_cons (names_ne _),ih (tl l).length (by omega) (tl l) rfl]
      exact (cut_has h).symm
theorem parts_inj {a b : List UInt8} (ha : mayB a = true) (hb : mayB b = true) (h : partsB a = partsB b) : a = b := by
  unfold partsB at h
  rw [ha,hb] at h
  cases ea : a.isEmpty <;> cases eb : b.isEmpty <;> simp only [ea,eb,Bool.not_true,Bool.or_false,if_true,if_false,Bool.false_eq_true] at h
  · have := congrArg joinN h
    rwa [join_names,join_names] at this
  · exact absurd h (names_ne _)
  · exact absurd h.symm (names_ne _)
  · cases a <;> cases b <;> simp_all
theorem less_irr (a : List UInt8) : lessB a a = false := ll_irr _
theorem less_trans {a b c : List UInt8} (h : lessB a b = true) (k : lessB b c = true) : lessB a c = true := ll_trans h k
theorem less_asym {a b : List UInt8} (h : lessB a b = true) : lessB b a = false := ll_asym h
theorem less_tri {a b : List UInt8} (ha : mayB a = true) (hb : mayB b = true) : lessB a b = true ∨ a = b ∨ lessB b a = true := by
  rcases ll_tri (partsB a) (partsB b) with h | h | h
  · exact .inl h
  · exact .inr (.inl (parts_inj ha hb h))
  · exact .inr (.inr h)
def Rise (l : List TEnt) : Prop := l.Pairwise (fun x y => lessB x.path y.path = true) ∧ ∀ e ∈ l,mayB e.path = true
theorem Rise.tail {x : TEnt} {l : List TEnt} (h : Rise (x :: l)) : Rise l := ⟨(List.pairwise_cons.1 h.1).2,fun e he => h.2 e (by simp [he])⟩
theorem ordG_rise {ns : List FNode} : ∀ {r : List TEnt} {p : List UInt8} {used : Nat},ordG ns (some p) used r = true → Rise r ∧ ∀ e ∈ r,lessB p e.path = true
  | [],_,_,_ => ⟨⟨List.Pairwise.nil,by simp⟩,by simp⟩
  | x :: r,p,used,h => by
    have h0 := h
    unfold ordG entOk at h
    simp only [Bool.and_eq_true] at h
    obtain ⟨⟨⟨⟨⟨⟨⟨a,b⟩,_⟩,_⟩,_⟩,_⟩,_⟩,h2⟩ := h
    obtain ⟨i1,i2⟩ := ordG_rise h2
    refine ⟨⟨List.pairwise_cons.2 ⟨i2,i1.1⟩,fun e he => ?_⟩,fun e he => ?_⟩
    · rcases List.mem_cons.1 he with rfl | he
      · exact a
      · exact i1.2 e he
    · rcases List.mem_cons.1 he with rfl | he
      · exact b
      · exact less_trans b (i2 e he)
structure Valid (t : FTree) : Prop where
  head : ∃ e r,t.ents = e :: r ∧ e.path = [] ∧ Rise (e :: r) ∧ ∀ x ∈ r,x.path ≠ []
  range : ∀ e ∈ t.ents,0 ≤ e.node ∧ e.node < t.nodes.length
theorem mayT_valid {t : FTree} (h : mayT t = true) : Valid t := by
  unfold mayT at h
  simp only [Bool.and_eq_true,decide_eq_true_eq] at h
  obtain ⟨⟨⟨⟨h1,h2⟩,h3⟩,h4⟩,h5⟩ := h
  have hr := ordG_range h3
  cases ht : t.ents with
  | nil => rw [ht] at h1;simp at h1
  | cons e r =>
    rw [ht] at h3
    unfold ordG entOk at h3
    simp only [Bool.and_eq_true,decide_eq_true_eq] at h3
    obtain ⟨⟨⟨⟨⟨⟨⟨a,b⟩,_⟩,_⟩,_⟩,_⟩,_⟩,h6⟩ := h3
    obtain ⟨i1,i2⟩ := ordG_rise h6
    refine ⟨⟨e,r,ht,b,⟨List.pairwise_cons.2 ⟨i2,i1.1⟩,fun x hx => ?_⟩,fun x hx => (ordG_paths h6 x hx).1⟩,hr⟩
    rcases List.mem_cons.1 hx with rfl | hx
    · exact a
    · exact i1.2 x hx

def lone : List TEnt → List TEnt → List UInt8
  | [],_ => []
  | e :: r,b => if (findT b e.path).2 then lone r b else e.path
theorem findT_skip {x : TEnt} {l : List TEnt} {p : List UInt8} (h : ¬ x.path = p) : findT (x :: l) p = findT l p := by rw [findT,if_neg h]
theorem less_ne {a b : List UInt8} (h : lessB a b = true) : ¬ a = b := by rintro rfl;rw [less_irr] at h;cases h
structure TPair where
  path : List UInt8
  a : Int
  b : Int
  deriving DecidableEq,Inhabited
def nodeG (ns : List FNode) (i : Int) : FNode := (ns[i.toNat]?).getD default
end Go.Proofs.YtbffcndmcaeamaaDoor.TreeSpec
end
section
set_option linter.unusedSimpArgs false
set_option linter.unusedVariables false
namespace Go.Proofs.YtbffcndmcaeamaaDoor.TreeSpec
open AclSpec MetaSpec NodeSpec PathSpec

def posT (l : List TEnt) (p : List UInt8) : Nat := (l.reverse.dropWhile fun x => lessB p x.path).length
def insT (l : List TEnt) (e : TEnt) : List TEnt := l.take (posT l e.path) ++ e :: l.drop (posT l e.path)
def sortT (l : List TEnt) : List TEnt := l.foldl insT []
theorem posT_split (l : List TEnt) (p : List UInt8) : l.take (posT l p) = (l.reverse.dropWhile fun x => lessB p x.path).reverse ∧ l.drop (posT l p) = (l.reverse.takeWhile fun x => lessB p x.path).reverse := by
  have h : l = (l.reverse.dropWhile fun x => lessB p x.path).reverse ++ (l.reverse.takeWhile fun x => lessB p x.path).reverse := by
    rw [← List.reverse_append,List.takeWhile_append_dropWhile,List.reverse_reverse]
  have hl : ((l.reverse.dropWhile fun x => lessB p x.path).reverse).length = posT l p := by rw [List.length_reverse];rfl
  constructor
  · have := congrArg (List.take (posT l p)) h
    rwa [List.take_left' hl] at this
  · have := congrArg (List.drop (posT l p)) h
    rwa [List.drop_left' hl] at this
theorem posT_le (l : List TEnt) (p : List UInt8) : posT l p ≤ l.length := by
  unfold posT
  have := (List.dropWhile_suffix (fun x : TEnt => lessB p x.path) (l := l.reverse)).length_le
  rwa [List.length_reverse] at this
theorem mem_takeWhile_imp' {q : TEnt → Bool} : ∀ {l : List TEnt} {x : TEnt},x ∈ l.takeWhile q → q x = true
  | [],_,h => by cases h
  | a :: r,x,h => by
    rw [List.takeWhile_cons] at h
    split at h
    · rcases List.mem_cons.1 h with rfl | h
      · assumption
      · exact mem_takeWhile_imp' h
    · cases h
theorem posT_drop {l : List TEnt} {p : List UInt8} : ∀ x ∈ l.drop (posT l p),lessB p x.path = true := by
  intro x hx
  rw [(posT_split l p).2,List.mem_reverse] at hx
  exact mem_takeWhile_imp' (q := fun x => lessB p x.path) hx
theorem insT_perm (l : List TEnt) (e : TEnt) : (insT l e).Perm (e :: l) := by
  unfold insT
  refine List.perm_middle.trans ?_
  rw [List.take_append_drop]
theorem insT_len (l : List TEnt) (e : TEnt) : (insT l e).length = l.length + 1 := by rw [(insT_perm l e).length_eq,List.length_cons]
theorem posT_last {l : List TEnt} {p : List UInt8} {r : List TEnt} {y : TEnt} (h : l.take (posT l p) = r ++ [y]) : lessB p y.path = false := by
  rw [(posT_split l p).1] at h
  have h2 : (l.reverse.dropWhile fun x => lessB p x.path) = y :: r.reverse := by
    have := congrArg List.reverse h
    rwa [List.reverse_reverse,List.reverse_append] at this
  have : ∀ (m : List TEnt),(m.dropWhile fun x => lessB p x.path) = y :: r.reverse → lessB p y.path = false := by
    intro m
    induction m with
    | nil => intro h;cases h
    | cons a m ih =>
      intro h
      rw [List.dropWhile_cons] at h
      split at h
      · exact ih h
      · rename_i hn
        cases h
        simpa using hn
  exact this _ h2
theorem insT_rise {l : List TEnt} {e : TEnt} (h : Rise l) (hm : mayB e.path = true) (hn : ∀ x ∈ l,x.path ≠ e.path) : Rise (insT l e) := by
  refine ⟨?_,fun x hx => ?_⟩
  · unfold insT
    have hp : (l.take (posT l e.path) ++ l.drop (posT l e.path)).Pairwise fun x y => lessB x.path y.path = true := by rw [List.take_append_drop];exact h.1
    rw [List.pairwise_append] at hp ⊢
    obtain ⟨p1,p2,p3⟩ := hp
    refine ⟨p1,List.pairwise_cons.2 ⟨fun x hx => posT_drop x hx,p2⟩,fun x hx y hy => ?_⟩
    have hxe : lessB x.path e.path = true := by
      rcases List.eq_nil_or_concat (l.take (posT l e.path)) with h0 | ⟨r,z,h0⟩
      · rw [h0] at hx;cases hx
      · rw [List.concat_eq_append] at h0
        have hz := posT_last h0
        have hzl : z ∈ l := List.mem_of_mem_take (i := posT l e.path) (by rw [h0];simp)
        have hze : lessB z.path e.path = true := by
          rcases less_tri (h.2 z hzl) hm with c | c | c
          · exact c
          · exact absurd c (hn z hzl)
          · rw [c] at hz;cases hz
        rw [h0] at hx p1
        rcases List.mem_append.1 hx with hx | hx
        · exact less_trans ((List.pairwise_append.1 p1).2.2 x hx z (by simp)) hze
        · rw [List.mem_singleton] at hx;rw [hx];exact hze
    rcases List.mem_cons.1 hy with rfl | hy
    · exact hxe
    · exact p3 x hx y hy
  · rcases List.mem_cons.1 ((insT_perm l e).mem_iff.1 hx) with rfl | hx
    · exact hm
    · exact h.2 x hx
theorem sort_go : ∀ (l a : List TEnt),Rise a → (∀ e ∈ l,mayB e.path = true) → (∀ e ∈ l,∀ x ∈ a,x.path ≠ e.path) → l.Pairwise (fun x y => x.path ≠ y.path) → Rise (l.foldl insT a) ∧ (l.foldl insT a).Perm (a ++ l)
  | [],a,h,_,_,_ => ⟨h,by rw [List.append_nil];exact .refl _⟩
  | e :: l,a,h,hm,hn,hd => by
    obtain ⟨d1,d2⟩ := List.pairwise_cons.1 hd
    have h2 := insT_rise h (hm e (by simp)) (hn e (by simp))
    obtain ⟨r1,r2⟩ := sort_go l (insT a e) h2 (fun x hx => hm x (by simp [hx])) (fun x hx y hy => by
      rcases List.mem_cons.1 ((insT_perm a e).mem_iff.1 hy) with rfl | hy
      · exact d1 x hx
      · exact hn x (by simp [hx]) y hy) d2
    refine ⟨r1,r2.trans ?_⟩
    refine ((insT_perm a e).append_right l).trans ?_
    rw [List.cons_append]
    exact List.perm_middle.symm
theorem sortT_ok {l : List TEnt} (hm : ∀ e ∈ l,mayB e.path = true) (hd : l.Pairwise (fun x y => x.path ≠ y.path)) : Rise (sortT l) ∧ (sortT l).Perm l := by
  obtain ⟨a,b⟩ := sort_go l [] ⟨List.Pairwise.nil,fun e he => by cases he⟩ hm (fun e _ x hx => by cases hx) hd
  exact ⟨a,b⟩

structure Ren where
  seen : List Int
  ents : List TEnt
  nodes : List FNode
def seenAt (l : List Int) (i : Int) : Int := (l[i.toNat]?).getD 0
def renStep (ns : List FNode) (r : Ren) (e : TEnt) : Ren :=
  if seenAt r.seen e.node = 0 then ⟨r.seen.set e.node.toNat (r.nodes.length + 1),r.ents ++ [⟨e.path,r.nodes.length⟩],r.nodes ++ [nodeG ns e.node]⟩
  else ⟨r.seen,r.ents ++ [⟨e.path,seenAt r.seen e.node - 1⟩],r.nodes⟩
def renT (ns : List FNode) (l : List TEnt) : Ren := l.foldl (renStep ns) ⟨List.replicate ns.length 0,[],[]⟩
def badE (t : FTree) (e : TEnt) : Bool := !mayB e.path || decide (e.node < 0) || decide ((t.nodes.length : Int) ≤ e.node)
def normTree (t : FTree) : FTree × Int :=
  if t.ents.any (badE t) then (⟨[],[]⟩,1)
  else if mayT ⟨(renT t.nodes (sortT t.ents)).ents,(renT t.nodes (sortT t.ents)).nodes⟩ then (⟨(renT t.nodes (sortT t.ents)).ents,(renT t.nodes (sortT t.ents)).nodes⟩,0)
  else (⟨[],[]⟩,1)
theorem ren_nodes {ns : List FNode} : ∀ (l : List TEnt) (r : Ren) (P : FNode → Prop),(∀ n ∈ r.nodes,P n) → (∀ e ∈ l,P (nodeG ns e.node)) → ∀ n ∈ (l.foldl (renStep ns) r).nodes,P n
  | [],r,P,h,_,n,hn => h n hn
  | e :: l,r,P,h,hl,n,hn => by
    refine ren_nodes l _ P (fun m hm => ?_) (fun x hx => hl x (by simp [hx])) n hn
    unfold renStep at hm
    split at hm
    · rcases List.mem_append.1 hm with hm | hm
      · exact h m hm
      · rw [List.mem_singleton] at hm;rw [hm];exact hl e (by simp)
    · exact h m hm
structure RenInv (ns : List FNode) (pre : List TEnt) (r : Ren) : Prop where
  len : r.seen.length = ns.length
  old : ∀ e ∈ pre,∃ k : Nat,seenAt r.seen e.node = (k : Int) + 1 ∧ r.nodes[k]? = some (nodeG ns e.node)
  new : ∀ i : Int,seenAt r.seen i ≠ 0 → ∃ e ∈ pre,e.node.toNat = i.toNat
theorem seenAt_set {l : List Int} {i j : Int} {v : Int} (hi : i.toNat < l.length) : seenAt (l.set i.toNat v) j = if j.toNat = i.toNat then v else seenAt l j := by
  unfold seenAt
  by_cases h : j.toNat = i.toNat
  · rw [if_pos h,h,List.getElem?_set_self hi];rfl
  · rw [if_neg h,List.getElem?_set_ne (Ne.symm h)]
theorem nodeG_nat (ns : List FNode) {i j : Int} (h : i.toNat = j.toNat) : nodeG ns i = nodeG ns j := by unfold nodeG;rw [h]
theorem get_app {α : Type} {l m : List α} {k : Nat} {x : α} (h : l[k]? = some x) : (l ++ m)[k]? = some x := by
  rw [List.getElem?_append_left (List.getElem?_eq_some_iff.1 h).1];exact h
theorem ren_step {ns : List FNode} {pre : List TEnt} {r : Ren} {e : TEnt} (h : RenInv ns pre r) (h0 : 0 ≤ e.node) (h1 : e.node < ns.length) : RenInv ns (pre ++ [e]) (renStep ns r e) := by
  unfold renStep
  by_cases hz : seenAt r.seen e.node = 0
  · rw [if_pos hz]
    have hlt : e.node.toNat < r.seen.length := by rw [h.len];omega
    refine ⟨by simp only [List.length_set];exact h.len,fun x hx => ?_,fun i hi => ?_⟩
    · simp only [seenAt_set hlt]
      by_cases hn : x.node.toNat = e.node.toNat
      · rw [if_pos hn]
        exact ⟨r.nodes.length,rfl,by rw [nodeG_nat ns hn];simp⟩
      · rw [if_neg hn]
        rcases List.mem_append.1 hx with hx | hx
        · obtain ⟨k,k1,k2⟩ := h.old x hx
          exact ⟨k,k1,get_app k2⟩
        · rw [List.mem_singleton] at hx;rw [hx] at hn;exact absurd rfl hn
    · simp only [seenAt_set hlt] at hi
      by_cases hn : i.toNat = e.node.toNat
      · exact ⟨e,by simp,hn.symm⟩
      · rw [if_neg hn] at hi
        obtain ⟨x,hx,hxe⟩ := h.new i hi
        exact ⟨x,by simp [hx],hxe⟩
  · rw [if_neg hz]
    obtain ⟨y,hy,hye⟩ := h.new e.node hz
    refine ⟨h.len,fun x hx => ?_,fun i hi => ?_⟩
    · rcases List.mem_append.1 hx with hx | hx
      · exact h.old x hx
      · rw [List.mem_singleton] at hx;subst hx
        obtain ⟨k,k1,k2⟩ := h.old y hy
        refine ⟨k,?_,by rw [← nodeG_nat ns hye];exact k2⟩
        rw [← k1];unfold seenAt;rw [hye]
    · obtain ⟨x,hx,hxe⟩ := h.new i hi
      exact ⟨x,by simp [hx],hxe⟩
theorem ren_grow {ns : List FNode} : ∀ {l : List TEnt} {r : Ren} {pre : List TEnt},RenInv ns pre r → (∀ e ∈ l,0 ≤ e.node ∧ e.node < ns.length) → (∃ m,(l.foldl (renStep ns) r).nodes = r.nodes ++ m) ∧ ∀ i,seenAt r.seen i ≠ 0 → seenAt (l.foldl (renStep ns) r).seen i = seenAt r.seen i
  | [],r,_,_,_ => ⟨⟨[],by simp⟩,fun _ _ => rfl⟩
  | e :: l,r,pre,h,hr => by
    obtain ⟨h0,h1⟩ := hr e (by simp)
    have hs := ren_step h h0 h1
    obtain ⟨⟨m,hm⟩,hk⟩ := ren_grow (l := l) hs fun x hx => hr x (by simp [hx])
    rw [List.foldl_cons]
    unfold renStep at hm hk ⊢
    by_cases hz : seenAt r.seen e.node = 0
    · rw [if_pos hz] at hm hk ⊢
      refine ⟨⟨[nodeG ns e.node] ++ m,by rw [hm];simp⟩,fun i hi => ?_⟩
      have hlt : e.node.toNat < r.seen.length := by rw [h.len];omega
      have hne : i.toNat ≠ e.node.toNat := fun c => hi (by unfold seenAt at hz ⊢;rw [c];exact hz)
      have hsi : seenAt (r.seen.set e.node.toNat (r.nodes.length + 1)) i = seenAt r.seen i := by rw [seenAt_set hlt,if_neg hne]
      rw [hk i (by simp only [hsi];exact hi)]
      exact hsi
    · rw [if_neg hz] at hm hk ⊢
      exact ⟨⟨m,hm⟩,hk⟩
def renE (F : Ren) (e : TEnt) : TEnt := ⟨e.path,seenAt F.seen e.node - 1⟩
theorem ren_ents {ns : List FNode} : ∀ {l : List TEnt} {r : Ren} {pre : List TEnt},RenInv ns pre r → (∀ e ∈ l,0 ≤ e.node ∧ e.node < ns.length) → (l.foldl (renStep ns) r).ents = r.ents ++ l.map (renE (l.foldl (renStep ns) r))
  | [],r,_,_,_ => by simp
  | e :: l,r,pre,h,hr => by
    obtain ⟨h0,h1⟩ := hr e (by simp)
    have hs := ren_step h h0 h1
    have hr2 : ∀ x ∈ l,0 ≤ x.node ∧ x.node < ns.length := fun x hx => hr x (by simp [hx])
    have ih := ren_ents (l := l) hs hr2
    obtain ⟨_,hk⟩ := ren_grow (l := l) hs hr2
    obtain ⟨k,k1,_⟩ := hs.old e (by simp)
    have hke := hk e.node (by rw [k1];omega)
    rw [List.foldl_cons,ih,List.map_cons,List.append_cons]
    congr 1
    have : (renStep ns r e).ents = r.ents ++ [⟨e.path,seenAt (renStep ns r e).seen e.node - 1⟩] := by
      unfold renStep
      by_cases hz : seenAt r.seen e.node = 0
      · have hlt : e.node.toNat < r.seen.length := by rw [h.len];omega
        rw [if_pos hz]
        simp only [seenAt_set hlt,if_true]
        congr 3
        omega
      · rw [if_neg hz]
    rw [this]
    unfold renE
    rw [hke]
def Once (ns : List FNode) (l : List TEnt) : Prop := l.Pairwise fun x y => x.node.toNat = y.node.toNat → (nodeG ns y.node).kind ≠ 1
theorem kindAt_get {ns : List FNode} {k : Nat} {n : FNode} (h : ns[k]? = some n) : kindAt ns k = n.kind := by unfold kindAt;rw [Int.toNat_natCast,h];rfl
theorem mayAt_get {ns : List FNode} {k : Nat} {n : FNode} (h : ns[k]? = some n) : mayAt ns k = mayN n := by unfold mayAt;rw [Int.toNat_natCast,h];rfl
def headO (prev : Option (List UInt8)) (p : List UInt8) : Bool := match prev with | none => decide (p = []) | some q => lessB q p
theorem entOk_head (ns : List FNode) (used : Nat) (prev : Option (List UInt8)) (e : TEnt) : entOk ns used prev e = (mayB e.path && headO prev e.path && !decide (e.node < 0) && !decide ((used : Int) < e.node) && !decide ((ns.length : Int) ≤ e.node) && !(decide (e.node < used) && decide (kindAt ns e.node = 1)) && (!decide (e.node = used) || mayAt ns used)) := by cases prev <;> rfl
theorem ren_ord {ns : List FNode} : ∀ {l : List TEnt} {r : Ren} {pre : List TEnt} {prev : Option (List UInt8)},RenInv ns pre r → (∀ e ∈ l,0 ≤ e.node ∧ e.node < ns.length) → (∀ e ∈ l,mayN (nodeG ns e.node) = true) → Once ns (pre ++ l) → Rise l →
    (∀ e m,l = e :: m → headO prev e.path = true) → ordG (l.foldl (renStep ns) r).nodes prev r.nodes.length (l.map (renE (l.foldl (renStep ns) r))) = true
  | [],r,pre,prev,_,_,_,_,_,_ => by
    rw [List.map_nil,ordG];exact decide_eq_true rfl
  | e :: l,r,pre,prev,h,hr,hm,ho,hR,hh => by
    obtain ⟨h0,h1⟩ := hr e (by simp)
    have hs := ren_step h h0 h1
    have hr2 : ∀ x ∈ l,0 ≤ x.node ∧ x.node < ns.length := fun x hx => hr x (by simp [hx])
    have hnext : ∀ x m,l = x :: m → lessB e.path x.path = true := fun x m hx => (List.pairwise_cons.1 hR.1).1 x (by rw [hx];simp)
    have ih := ren_ord (l := l) (prev := some e.path) hs hr2 (fun x hx => hm x (by simp [hx])) (by rw [List.append_assoc];exact ho) hR.tail hnext
    obtain ⟨⟨m,hmn⟩,hk⟩ := ren_grow (l := l) hs hr2
    rw [List.foldl_cons,List.map_cons,ordG]
    have hhe := hh e l rfl
    have hme := hR.2 e (by simp)
    obtain ⟨k,k1,k2⟩ := hs.old e (by simp)
    have hke := hk e.node (by rw [k1];omega)
    have hnode : (renE (l.foldl (renStep ns) (renStep ns r e)) e).node = (k : Int) := by
      show seenAt (l.foldl (renStep ns) (renStep ns r e)).seen e.node - 1 = k
      rw [hke,k1];omega
    have hF : (l.foldl (renStep ns) (renStep ns r e)).nodes[k]? = some (nodeG ns e.node) := by rw [hmn];exact get_app k2
    have hkF := (List.getElem?_eq_some_iff.1 hF).1
    have hpath : (renE (l.foldl (renStep ns) (renStep ns r e)) e).path = e.path := rfl
    generalize l.foldl (renStep ns) (renStep ns r e) = F at *
    rw [entOk_head]
    unfold nextU
    rw [hpath,hnode,kindAt_get hF,hme,hhe]
    by_cases hz : seenAt r.seen e.node = 0
    · have hst : renStep ns r e = ⟨r.seen.set e.node.toNat (r.nodes.length + 1),r.ents ++ [⟨e.path,r.nodes.length⟩],r.nodes ++ [nodeG ns e.node]⟩ := by unfold renStep;rw [if_pos hz]
      have hlt : e.node.toNat < r.seen.length := by rw [h.len];omega
      have hkk : k = r.nodes.length := by
        rw [hst] at k1
        simp only [seenAt_set hlt,if_true] at k1
        omega
      rw [hst] at ih
      simp only [List.length_append,List.length_cons,List.length_nil,Nat.zero_add] at ih
      subst hkk
      rw [mayAt_get hF,hm e (by simp),if_pos rfl,ih]
      have d1 : decide (((r.nodes.length : Nat) : Int) < 0) = false := decide_eq_false (by omega)
      have d2 : decide (((F.nodes.length : Nat) : Int) ≤ ((r.nodes.length : Nat) : Int)) = false := decide_eq_false (by omega)
      simp [d1,d2,hkF]
    · have hst : renStep ns r e = ⟨r.seen,r.ents ++ [⟨e.path,seenAt r.seen e.node - 1⟩],r.nodes⟩ := by unfold renStep;rw [if_neg hz]
      obtain ⟨y,hy,hye⟩ := h.new e.node hz
      have hkd : (nodeG ns e.node).kind ≠ 1 := (List.pairwise_append.1 ho).2.2 y hy e (by simp) hye
      rw [hst] at k2 ih
      have hkn : k < r.nodes.length := (List.getElem?_eq_some_iff.1 k2).1
      have hne : ¬ (k : Int) = (r.nodes.length : Int) := by omega
      rw [if_neg hne,ih]
      have d1 : decide ((k : Int) < 0) = false := decide_eq_false (by omega)
      have d2 : decide (((F.nodes.length : Nat) : Int) ≤ (k : Int)) = false := decide_eq_false (by omega)
      have d3 : decide ((r.nodes.length : Int) < (k : Int)) = false := decide_eq_false (by omega)
      have d4 : decide ((nodeG ns e.node).kind = 1) = false := decide_eq_false hkd
      have d5 : decide ((k : Int) = (r.nodes.length : Int)) = false := decide_eq_false hne
      rw [d1,d2,d3,d4,d5]
      simp
theorem ren_start (ns : List FNode) : RenInv ns [] ⟨List.replicate ns.length 0,[],[]⟩ := by
  refine ⟨by simp,fun e he => (by cases he),fun i hi => ?_⟩
  exfalso
  apply hi
  unfold seenAt
  simp only [List.getElem?_replicate]
  split <;> rfl
theorem ren_inv {ns : List FNode} : ∀ {l : List TEnt} {r : Ren} {pre : List TEnt},RenInv ns pre r → (∀ e ∈ l,0 ≤ e.node ∧ e.node < ns.length) → RenInv ns (pre ++ l) (l.foldl (renStep ns) r)
  | [],r,pre,h,_ => by rw [List.append_nil];exact h
  | e :: l,r,pre,h,hr => by
    obtain ⟨h0,h1⟩ := hr e (by simp)
    have := ren_inv (l := l) (ren_step h h0 h1) fun x hx => hr x (by simp [hx])
    rwa [List.append_assoc] at this
theorem rise_inj : ∀ {l : List TEnt},Rise l → ∀ x ∈ l,∀ y ∈ l,x.path = y.path → x = y
  | [],_,x,hx,_,_,_ => by cases hx
  | a :: l,h,x,hx,y,hy,he => by
    have ha := (List.pairwise_cons.1 h.1).1
    rcases List.mem_cons.1 hx with hx1 | hx1
    · rcases List.mem_cons.1 hy with hy1 | hy1
      · rw [hx1,hy1]
      · rw [hx1] at he;exact absurd he (less_ne (ha y hy1))
    · rcases List.mem_cons.1 hy with hy1 | hy1
      · rw [hy1] at he;exact absurd he.symm (less_ne (ha x hx1))
      · exact rise_inj h.tail x hx1 y hy1 he
structure Good (t : FTree) : Prop where
  may : ∀ e ∈ t.ents,mayB e.path = true
  dist : t.ents.Pairwise fun x y => x.path ≠ y.path
  range : ∀ e ∈ t.ents,0 ≤ e.node ∧ e.node < t.nodes.length
  nodes : ∀ e ∈ t.ents,mayN (nodeG t.nodes e.node) = true
  once : Once t.nodes t.ents
  root : ∃ e ∈ t.ents,e.path = [] ∧ (nodeG t.nodes e.node).kind = 1
  up : ∀ e ∈ t.ents,e.path ≠ [] → ∃ p ∈ t.ents,p.path = (parentB e.path).1 ∧ (nodeG t.nodes p.node).kind = 1
  len : t.ents.length ≤ 100
def normed (t : FTree) : FTree := ⟨(renT t.nodes (sortT t.ents)).ents,(renT t.nodes (sortT t.ents)).nodes⟩
theorem Once.perm {ns : List FNode} {l m : List TEnt} (h : Once ns l) (p : m.Perm l) : Once ns m := by
  unfold Once at *
  refine (List.Perm.pairwise_iff ?_ p.symm).1 h
  intro x y hxy he
  rw [← nodeG_nat ns he]
  exact hxy he.symm
theorem normed_may {t : FTree} (h : Good t) : mayT (normed t) = true := by
  obtain ⟨hR,hP⟩ := sortT_ok h.may h.dist
  have hmem : ∀ e,e ∈ sortT t.ents ↔ e ∈ t.ents := fun e => hP.mem_iff
  have hlen := hP.length_eq
  have hrg : ∀ e ∈ sortT t.ents,0 ≤ e.node ∧ e.node < t.nodes.length := fun e he => h.range e ((hmem e).1 he)
  have hst := ren_start t.nodes
  have hinv := ren_inv hst hrg
  rw [List.nil_append] at hinv
  have hents := ren_ents hst hrg
  rw [List.nil_append] at hents
  obtain ⟨e0,he0,hp0,hk0⟩ := h.root
  have hs0 := (hmem e0).2 he0
  obtain ⟨x,rest,hx⟩ : ∃ x rest,sortT t.ents = x :: rest := by
    cases hh : sortT t.ents with
    | nil => rw [hh] at hs0;cases hs0
    | cons x rest => exact ⟨x,rest,rfl⟩
  have hx0 : x = e0 := by
    rw [hx] at hs0
    rcases List.mem_cons.1 hs0 with c | c
    · exact c.symm
    · have := (List.pairwise_cons.1 (by rw [← hx];exact hR.1)).1 e0 c
      rw [hp0,less_nil] at this;cases this
  subst hx0
  have hord := ren_ord (prev := none) hst hrg (fun e he => h.nodes e ((hmem e).1 he)) (by rw [List.nil_append];exact h.once.perm hP) hR (fun e m he => by
    rw [hx] at he;cases he
    show decide (x.path = []) = true
    rw [hp0];rfl)
  have hkind : ∀ e ∈ sortT t.ents,kindAt (renT t.nodes (sortT t.ents)).nodes (renE (renT t.nodes (sortT t.ents)) e).node = (nodeG t.nodes e.node).kind := by
    intro e he
    obtain ⟨k,k1,k2⟩ := hinv.old e he
    have : (renE (renT t.nodes (sortT t.ents)) e).node = (k : Int) := by
      show seenAt (renT t.nodes (sortT t.ents)).seen e.node - 1 = k
      unfold renT
      rw [k1];omega
    rw [this]
    exact kindAt_get k2
  have hE : (normed t).ents = (sortT t.ents).map (renE (renT t.nodes (sortT t.ents))) := hents
  have hN : (normed t).nodes = (renT t.nodes (sortT t.ents)).nodes := rfl
  unfold mayT
  simp only [Bool.and_eq_true,decide_eq_true_eq]
  refine ⟨⟨⟨⟨?_,?_⟩,?_⟩,?_⟩,?_⟩
  · rw [hE,List.length_map,hx];simp
  · rw [hE,List.length_map,hlen];exact h.len
  · rw [hE,hN];exact hord
  · unfold headKind
    rw [hE,hN,hx,List.map_cons]
    have := hkind x (by rw [hx];simp)
    rw [hx] at this
    simp only [this,hk0];rfl
  · rw [List.all_eq_true]
    intro y hy
    rw [hE,hx,List.map_cons,List.drop_succ_cons,List.drop_zero] at hy
    obtain ⟨e,he,rfl⟩ := List.mem_map.1 hy
    have hes : e ∈ sortT t.ents := by rw [hx];simp [he]
    have hne : e.path ≠ [] := by
      have := (List.pairwise_cons.1 (by rw [← hx];exact hR.1)).1 e he
      intro c
      rw [c,less_nil] at this;cases this
    obtain ⟨p,hp,hpp,hpk⟩ := h.up e ((hmem e).1 hes) hne
    have hps := (hmem p).2 hp
    unfold upOk
    show ((findT (normed t).ents (parentB e.path).1).2 && decide (kindAt (normed t).nodes (findT (normed t).ents (parentB e.path).1).1 = 1)) = true
    cases hf : (findT (normed t).ents (parentB e.path).1).2
    · exact absurd hpp (findT_false hf (renE (renT t.nodes (sortT t.ents)) p) (by rw [hE];exact List.mem_map.2 ⟨p,hps,rfl⟩))
    · obtain ⟨z,hz,hzp,hzn⟩ := findT_mem hf
      rw [hE] at hz
      obtain ⟨w,hw,rfl⟩ := List.mem_map.1 hz
      have hwp : w = p := rise_inj hR w hw p hps (by rw [hpp];exact hzp)
      subst hwp
      rw [← hzn,hN,hkind w hw,hpk];rfl
theorem normTree_ok {t : FTree} (h : Good t) : normTree t = (normed t,0) := by
  unfold normTree
  have : t.ents.any (badE t) = false := by
    rw [List.any_eq_false]
    intro e he
    unfold badE
    have h1 := h.may e he
    have h2 := h.range e he
    rw [h1,decide_eq_false (p := e.node < 0) (by omega),decide_eq_false (p := (t.nodes.length : Int) ≤ e.node) (by omega)]
    simp
  rw [this]
  have h2 := normed_may h
  unfold normed at h2 ⊢
  rw [h2];rfl
end Go.Proofs.YtbffcndmcaeamaaDoor.TreeSpec
end
section
set_option linter.unusedSimpArgs false
set_option linter.unusedVariables false
namespace Go.Proofs.YtbffcndmcaeamaaDoor.TreeSpec
open AclSpec MetaSpec NodeSpec PathSpec

theorem findT_rise : ∀ {l : List TEnt},l.Pairwise (fun x y => lessB x.path y.path = true) → ∀ e ∈ l,findT l e.path = (e.node,true)
  | [],_,e,he => by cases he
  | x :: r,h,e,he => by
    obtain ⟨h1,h2⟩ := List.pairwise_cons.1 h
    rcases List.mem_cons.1 he with rfl | he
    · rw [findT,if_pos rfl]
    · rw [findT_skip (less_ne (h1 e he))]
      exact findT_rise h2 e he
theorem Valid.rise {t : FTree} (h : Valid t) : Rise t.ents := by
  obtain ⟨x,r,h1,_,h3,_⟩ := h.head
  rw [h1];exact h3
theorem mayT_ord {t : FTree} (h : mayT t = true) : ordG t.nodes none 0 t.ents = true := by
  unfold mayT at h
  simp only [Bool.and_eq_true] at h
  exact h.1.1.2
theorem ordG_zero {ns : List FNode} (hk : kindAt ns 0 = 1) : ∀ {l : List TEnt} {p : Option (List UInt8)} {used : Nat},1 ≤ used → ordG ns p used l = true → ∀ e ∈ l,e.node ≠ 0
  | [],_,_,_,_,e,he => by cases he
  | x :: r,p,used,hu,h,e,he => by
    unfold ordG at h
    rw [Bool.and_eq_true] at h
    rcases List.mem_cons.1 he with rfl | he
    · intro c
      have h1 := h.1
      unfold entOk at h1
      simp only [Bool.and_eq_true,Bool.not_eq_true',Bool.and_eq_false_iff,decide_eq_false_iff_not] at h1
      rcases h1.1.2 with d | d
      · omega
      · rw [c] at d;exact d hk
    · exact ordG_zero hk (by unfold nextU;split <;> omega) h.2 e he
theorem root_alone {t : FTree} (h : mayT t = true) : ∃ e r,t.ents = e :: r ∧ e.path = [] ∧ e.node = 0 ∧ ∀ x ∈ r,x.path ≠ [] ∧ x.node ≠ 0 := by
  obtain ⟨e,r,h1,h2,h3,h4⟩ := (mayT_valid h).head
  have ho := mayT_ord h
  have hk : headKind t = true := by
    unfold mayT at h
    simp only [Bool.and_eq_true] at h
    exact h.1.2
  unfold headKind at hk
  rw [h1] at ho hk
  have hk := of_decide_eq_true hk
  unfold ordG at ho
  rw [Bool.and_eq_true] at ho
  have he : e.node = 0 := by
    have := ho.1
    unfold entOk at this
    simp only [Bool.and_eq_true,Bool.not_eq_true',decide_eq_false_iff_not] at this
    omega
  rw [he] at hk
  refine ⟨e,r,h1,h2,he,fun x hx => ⟨h4 x hx,ordG_zero hk ?_ ho.2 x hx⟩⟩
  unfold nextU
  rw [he];simp
theorem get_nodeG {ns : List FNode} {k : Nat} (h : k < ns.length) : nodeG ns k = ns[k] := by
  unfold nodeG;rw [Int.toNat_natCast,List.getElem?_eq_getElem h];rfl
end Go.Proofs.YtbffcndmcaeamaaDoor.TreeSpec
end
