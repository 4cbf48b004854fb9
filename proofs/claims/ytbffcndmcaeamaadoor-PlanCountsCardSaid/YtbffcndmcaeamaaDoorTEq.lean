import Derived.Test.YtbffcndmcaeamaaDoorNRead
import Derived.Test.YtbffcndmcaeamaaDoorPlain
section
set_option linter.unusedSimpArgs false
set_option linter.unusedVariables false
namespace Go.Proofs.YtbffcndmcaeamaaDoor.TreeSpec
open AclSpec MetaSpec NodeSpec PathSpec

structure TEnt where
  path : List UInt8
  node : Int
  deriving DecidableEq,Inhabited
structure FTree where
  ents : List TEnt
  nodes : List FNode
  deriving DecidableEq,Inhabited
def kindAt (ns : List FNode) (i : Int) : Int := (ns[i.toNat]?.map (·.kind)).getD 0
def mayAt (ns : List FNode) (i : Int) : Bool := (ns[i.toNat]?.map mayN).getD false
def findT : List TEnt → List UInt8 → Int × Bool
  | [],_ => (0,false)
  | e :: r,p => if e.path = p then (e.node,true) else findT r p
theorem findT_hit {l : List TEnt} {i : Nat} {e : TEnt} {p : List UInt8} (h : l[i]? = some e) (hp : e.path = p) : findT (l.drop i) p = (e.node,true) := by
  obtain ⟨hi,rfl⟩ := List.getElem?_eq_some_iff.1 h
  rw [List.drop_eq_getElem_cons hi,findT,if_pos hp]
theorem findT_miss {l : List TEnt} {i : Nat} {e : TEnt} {p : List UInt8} (h : l[i]? = some e) (hp : ¬ e.path = p) : findT (l.drop i) p = findT (l.drop (i + 1)) p := by
  obtain ⟨hi,rfl⟩ := List.getElem?_eq_some_iff.1 h
  rw [List.drop_eq_getElem_cons hi,findT,if_neg hp]
theorem findT_mem : ∀ {l : List TEnt} {p : List UInt8},(findT l p).2 = true → ∃ e ∈ l,e.path = p ∧ e.node = (findT l p).1
  | [],p,h => by simp [findT] at h
  | e :: r,p,h => by
    unfold findT at h ⊢
    split
    · rename_i hp;exact ⟨e,by simp,hp,rfl⟩
    · rename_i hp
      rw [if_neg hp] at h
      obtain ⟨x,hx,h1,h2⟩ := findT_mem h
      exact ⟨x,by simp [hx],h1,h2⟩
theorem findT_false {l : List TEnt} {p : List UInt8} (h : (findT l p).2 = false) : ∀ e ∈ l,¬ e.path = p := by
  induction l with
  | nil => intro e he;cases he
  | cons x r ih =>
    unfold findT at h
    split at h
    · cases h
    · rename_i hx
      intro e he
      rcases List.mem_cons.1 he with rfl | he
      · exact hx
      · exact ih h e he

def entOk (ns : List FNode) (used : Nat) (prev : Option (List UInt8)) (e : TEnt) : Bool :=
  mayB e.path && (match prev with | none => decide (e.path = []) | some p => lessB p e.path) && !decide (e.node < 0) && !decide ((used : Int) < e.node) && !decide ((ns.length : Int) ≤ e.node) &&
  !(decide (e.node < used) && decide (kindAt ns e.node = 1)) && (!decide (e.node = used) || mayAt ns used)
def nextU (used : Nat) (e : TEnt) : Nat := if e.node = used then used + 1 else used
def ordG (ns : List FNode) : Option (List UInt8) → Nat → List TEnt → Bool
  | _,used,[] => decide (used = ns.length)
  | prev,used,e :: r => entOk ns used prev e && ordG ns (some e.path) (nextU used e) r
def upOk (t : FTree) (e : TEnt) : Bool := (findT t.ents (parentB e.path).1).2 && decide (kindAt t.nodes (findT t.ents (parentB e.path).1).1 = 1)
def headKind (t : FTree) : Bool := match t.ents with | [] => false | e :: _ => decide (kindAt t.nodes e.node = 1)
def mayT (t : FTree) : Bool := decide (1 ≤ t.ents.length) && decide (t.ents.length ≤ 100) && ordG t.nodes none 0 t.ents && headKind t && (t.ents.drop 1).all (upOk t)
theorem ordG_cons (ns : List FNode) {prev : Option (List UInt8)} {used : Nat} {l : List TEnt} {i : Nat} {e : TEnt} (h : l[i]? = some e) : ordG ns prev used (l.drop i) = (entOk ns used prev e && ordG ns (some e.path) (nextU used e) (l.drop (i + 1))) := by
  obtain ⟨hi,rfl⟩ := List.getElem?_eq_some_iff.1 h
  rw [List.drop_eq_getElem_cons hi,ordG]

def bump (uses : List Int) (i : Int) : List Int := uses.set i.toNat ((uses[i.toNat]?).getD 0 + 1)
def entOkR (t : FTree) (next : Nat) (prev : Option (List UInt8)) (e : TEnt) : Bool :=
  mayB e.path && (match prev with | none => true | some p => lessB p e.path) && !decide (e.node < 0) && !decide ((next : Int) < e.node) && !decide ((t.nodes.length : Int) ≤ e.node) &&
  (!(parentB e.path).2 || ((findT t.ents (parentB e.path).1).2 && !decide ((findT t.ents (parentB e.path).1).1 < 0) && !decide ((t.nodes.length : Int) ≤ (findT t.ents (parentB e.path).1).1) && decide (kindAt t.nodes (findT t.ents (parentB e.path).1).1 = 1)))
def nodeOkR (n : FNode) (u : Int) : Bool := mayN n && !decide (u = 0) && !(decide (n.kind = 1) && !decide (u = 1))
def nodesR : List FNode → List Int → Bool
  | n :: r,u :: us => nodeOkR n u && nodesR r us
  | _,_ => true
def ordR (t : FTree) : Option (List UInt8) → Nat → List Int → List TEnt → Bool
  | _,_,uses,[] => nodesR t.nodes uses && headKind t
  | prev,next,uses,e :: r => entOkR t next prev e && ordR t (some e.path) (nextU next e) (bump uses e.node) r
def mayR (t : FTree) : Bool := decide (1 ≤ t.ents.length) && decide (t.ents.length ≤ 100) && (match t.ents with | [] => false | e :: _ => decide (e.path = [])) && ordR t none 0 (List.replicate t.nodes.length 0) t.ents
theorem ordR_cons (t : FTree) {prev : Option (List UInt8)} {used : Nat} {uses : List Int} {l : List TEnt} {i : Nat} {e : TEnt} (h : l[i]? = some e) : ordR t prev used uses (l.drop i) = (entOkR t used prev e && ordR t (some e.path) (nextU used e) (bump uses e.node) (l.drop (i + 1))) := by
  obtain ⟨hi,rfl⟩ := List.getElem?_eq_some_iff.1 h
  rw [List.drop_eq_getElem_cons hi,ordR]
end Go.Proofs.YtbffcndmcaeamaaDoor.TreeSpec
end
section
set_option linter.unusedSimpArgs false
set_option linter.unusedVariables false
namespace Go.Proofs.YtbffcndmcaeamaaDoor.TreeSpec
open AclSpec MetaSpec NodeSpec PathSpec

theorem lessL_nil (x : List (List UInt8)) : lessL x [] = false := by cases x <;> rfl
theorem less_nil (p : List UInt8) : lessB p [] = false := by
  unfold lessB
  have : partsB [] = [] := rfl
  rw [this];exact lessL_nil _
theorem parent_ok {l : List UInt8} (h0 : l ≠ []) (hm : mayB l = true) : (parentB l).2 = true := by
  unfold parentB
  have : l.isEmpty = false := by cases l <;> simp_all
  rw [this,hm];rfl
structure UseInv (ns : List FNode) (used : Nat) (uses : List Int) : Prop where
  len : uses.length = ns.length
  le : used ≤ ns.length
  lo : ∀ (k : Nat) (u : Int),uses[k]? = some u → k < used → 1 ≤ u
  hi : ∀ (k : Nat) (u : Int),uses[k]? = some u → used ≤ k → u = 0
def Met (ns : List FNode) (used : Nat) (uses : List Int) : Prop := ∀ (k : Nat) (n : FNode) (u : Int),k < used → ns[k]? = some n → uses[k]? = some u → mayN n = true ∧ (n.kind = 1 → u = 1)
theorem nodesR_iff : ∀ {ns : List FNode} {us : List Int},us.length = ns.length → (nodesR ns us = true ↔ ∀ (k : Nat) (n : FNode) (u : Int),ns[k]? = some n → us[k]? = some u → mayN n = true ∧ u ≠ 0 ∧ (n.kind = 1 → u = 1))
  | [],[],_ => by simp [nodesR]
  | n :: r,u :: us,h => by
    have ih := nodesR_iff (ns := r) (us := us) (by simpa using h)
    unfold nodesR
    rw [Bool.and_eq_true,ih]
    unfold nodeOkR
    constructor
    · rintro ⟨h1,h2⟩ k n' u' hn hu
      cases k with
      | zero =>
        simp at hn hu;subst hn;subst hu
        simp at h1
        exact ⟨h1.1.1,h1.1.2,fun hk => by have := h1.2;simp [hk] at this;exact this⟩
      | succ k => exact h2 k n' u' (by simpa using hn) (by simpa using hu)
    · intro hall
      refine ⟨?_,fun k n' u' hn hu => hall (k + 1) n' u' (by simpa using hn) (by simpa using hu)⟩
      obtain ⟨a,b,c⟩ := hall 0 n u rfl rfl
      by_cases hk : n.kind = 1
      · simp [a,b,hk,c hk]
      · simp [a,b,hk]
  | [],_ :: _,h => by simp at h
  | _ :: _,[],h => by simp at h
theorem bump_get {uses : List Int} {i k : Nat} {u : Int} (h : (bump uses i)[k]? = some u) : (k = i ∧ ∃ v,uses[k]? = some v ∧ u = v + 1) ∨ (k ≠ i ∧ uses[k]? = some u) := by
  unfold bump at h
  rw [Int.toNat_natCast] at h
  by_cases hk : k = i
  · subst hk
    have hlt : k < uses.length := by
      have := (List.getElem?_eq_some_iff.1 h).1
      rwa [List.length_set] at this
    rw [List.getElem?_set_self hlt] at h
    left
    refine ⟨rfl,uses[k],List.getElem?_eq_getElem hlt,?_⟩
    rw [List.getElem?_eq_getElem hlt] at h
    simpa using h.symm
  · right
    rw [List.getElem?_set_ne (fun e => hk e.symm)] at h
    exact ⟨hk,h⟩
theorem bump_len (uses : List Int) (i : Int) : (bump uses i).length = uses.length := by unfold bump;rw [List.length_set]
theorem use_step {ns : List FNode} {used : Nat} {uses : List Int} {e : TEnt} (h : UseInv ns used uses) (h0 : 0 ≤ e.node) (h1 : e.node ≤ used) (h2 : e.node < ns.length) : UseInv ns (nextU used e) (bump uses e.node) := by
  obtain ⟨i,hi⟩ : ∃ i : Nat,e.node = i := ⟨e.node.toNat,by omega⟩
  rw [hi] at h0 h1 h2
  have hnu : nextU used e = if i = used then used + 1 else used := by
    unfold nextU;rw [hi]
    by_cases hh : i = used
    · rw [if_pos (by omega),if_pos hh]
    · rw [if_neg (by omega),if_neg hh]
  rw [hi,hnu]
  refine ⟨by rw [bump_len];exact h.len,by have := h.le;split <;> omega,fun k u hk hlt => ?_,fun k u hk hle => ?_⟩
  · rcases bump_get hk with ⟨rfl,v,hv,rfl⟩ | ⟨hne,hu⟩
    · by_cases hku : k < used
      · have := h.lo k v hv hku;omega
      · have := h.hi k v hv (by omega);omega
    · refine h.lo k u hu ?_
      split at hlt <;> omega
  · rcases bump_get hk with ⟨rfl,v,hv,rfl⟩ | ⟨hne,hu⟩
    · split at hle <;> omega
    · refine h.hi k u hu ?_
      split at hle <;> omega
theorem mayAt_of {ns : List FNode} {i : Nat} {n : FNode} (h : ns[i]? = some n) : mayAt ns i = mayN n := by unfold mayAt;rw [Int.toNat_natCast,h];rfl
theorem kindAt_of {ns : List FNode} {i : Nat} {n : FNode} (h : ns[i]? = some n) : kindAt ns i = n.kind := by unfold kindAt;rw [Int.toNat_natCast,h];rfl
theorem met_step {ns : List FNode} {used : Nat} {uses : List Int} {e : TEnt} (h : UseInv ns used uses) (h0 : 0 ≤ e.node) (h1 : e.node ≤ used) (h2 : e.node < ns.length) :
    Met ns (nextU used e) (bump uses e.node) ↔ Met ns used uses ∧ (e.node < used → ¬ kindAt ns e.node = 1) ∧ (e.node = used → mayAt ns used = true) := by
  obtain ⟨i,hi⟩ : ∃ i : Nat,e.node = i := ⟨e.node.toNat,by omega⟩
  rw [hi] at h0 h1 h2
  have hnu : nextU used e = if i = used then used + 1 else used := by
    unfold nextU;rw [hi]
    by_cases hh : i = used
    · rw [if_pos (by omega),if_pos hh]
    · rw [if_neg (by omega),if_neg hh]
  rw [hi,hnu]
  have hin : i < ns.length := by omega
  have hig : ns[i]? = some ns[i] := List.getElem?_eq_getElem hin
  have hiu : i < uses.length := by rw [h.len];exact hin
  have hug : uses[i]? = some uses[i] := List.getElem?_eq_getElem hiu
  have hbg : (bump uses i)[i]? = some (uses[i] + 1) := by
    unfold bump
    rw [Int.toNat_natCast,List.getElem?_set_self hiu,hug];rfl
  have hbo : ∀ k,k ≠ i → (bump uses i)[k]? = uses[k]? := fun k hk => by
    unfold bump
    rw [Int.toNat_natCast,List.getElem?_set_ne (fun e => hk e.symm)]
  constructor
  · intro hm
    refine ⟨fun k n u hk hn hu => ?_,fun hlt hkd => ?_,fun he => ?_⟩
    · by_cases hki : k = i
      · subst hki
        rw [hug] at hu;cases hu
        obtain ⟨a,b⟩ := hm k n (uses[k] + 1) (by split <;> omega) hn hbg
        refine ⟨a,fun hk1 => ?_⟩
        have := b hk1
        have := h.lo k _ hug hk
        omega
      · exact hm k n u (by split <;> omega) hn (by rw [hbo k hki];exact hu)
    · rw [kindAt_of hig] at hkd
      have hlt' : i < used := by omega
      obtain ⟨_,b⟩ := hm i _ (uses[i] + 1) (by split <;> omega) hig hbg
      have := b hkd
      have := h.lo i _ hug hlt'
      omega
    · have he' : i = used := by omega
      subst he'
      rw [mayAt_of hig]
      exact (hm i _ _ (by simp) hig hbg).1
  · rintro ⟨hm,hd,hmay⟩ k n u hk hn hu
    by_cases hki : k = i
    · subst hki
      rw [hbg] at hu;cases hu
      rw [hig] at hn;cases hn
      by_cases hlt : k < used
      · have hne := hd (by omega)
        rw [kindAt_of hig] at hne
        exact ⟨(hm k _ _ hlt hig hug).1,fun h1 => absurd h1 hne⟩
      · have he : k = used := by split at hk <;> omega
        subst he
        have := hmay rfl
        rw [mayAt_of hig] at this
        refine ⟨this,fun _ => ?_⟩
        have := h.hi k _ hug (Nat.le_refl _)
        omega
    · rw [hbo k hki] at hu
      exact hm k n u (by split at hk <;> omega) hn hu
def upR (t : FTree) (e : TEnt) : Bool := !(parentB e.path).2 || ((findT t.ents (parentB e.path).1).2 && !decide ((findT t.ents (parentB e.path).1).1 < 0) && !decide ((t.nodes.length : Int) ≤ (findT t.ents (parentB e.path).1).1) && decide (kindAt t.nodes (findT t.ents (parentB e.path).1).1 = 1))
theorem entOkR_eq (t : FTree) {used : Nat} {p : List UInt8} {e : TEnt} : entOkR t used (some p) e = (mayB e.path && lessB p e.path && !decide (e.node < 0) && !decide ((used : Int) < e.node) && !decide ((t.nodes.length : Int) ≤ e.node) && upR t e) := rfl
theorem ord_eq (t : FTree) : ∀ (r : List TEnt) (p : List UInt8) (used : Nat) (uses : List Int),UseInv t.nodes used uses →
    (ordR t (some p) used uses r = true ↔ ordG t.nodes (some p) used r = true ∧ Met t.nodes used uses ∧ (∀ e ∈ r,upR t e = true) ∧ headKind t = true)
  | [],p,used,uses,h => by
    unfold ordR ordG
    rw [Bool.and_eq_true,nodesR_iff h.len,decide_eq_true_eq]
    constructor
    · rintro ⟨h1,h2⟩
      refine ⟨?_,fun k n u _ hn hu => ⟨(h1 k n u hn hu).1,(h1 k n u hn hu).2.2⟩,by simp,h2⟩
      apply Classical.byContradiction
      intro hne
      have hlt : used < t.nodes.length := by have := h.le;omega
      have hu : used < uses.length := by rw [h.len];exact hlt
      have := h1 used _ _ (List.getElem?_eq_getElem hlt) (List.getElem?_eq_getElem hu)
      exact this.2.1 (h.hi used _ (List.getElem?_eq_getElem hu) (Nat.le_refl _))
    · rintro ⟨h1,h2,_,h4⟩
      refine ⟨fun k n u hn hu => ?_,h4⟩
      have hk : k < used := by rw [h1];exact (List.getElem?_eq_some_iff.1 hn).1
      obtain ⟨a,b⟩ := h2 k n u hk hn hu
      have := h.lo k u hu hk
      exact ⟨a,by omega,b⟩
  | e :: r,p,used,uses,h => by
    unfold ordR ordG
    rw [Bool.and_eq_true,Bool.and_eq_true,entOkR_eq]
    unfold entOk
    simp only [Bool.and_eq_true,Bool.not_eq_true',decide_eq_false_iff_not,Bool.and_eq_false_iff,Bool.or_eq_true,decide_eq_true_eq]
    constructor
    · rintro ⟨⟨⟨⟨⟨⟨a1,a2⟩,a3⟩,a4⟩,a5⟩,a6⟩,hr⟩
      rw [ord_eq t r e.path _ _ (use_step h (by omega) (by omega) (by omega)),met_step h (by omega) (by omega) (by omega)] at hr
      obtain ⟨b1,⟨b2,b3,b4⟩,b5,b6⟩ := hr
      refine ⟨⟨⟨⟨⟨⟨⟨⟨a1,a2⟩,a3⟩,a4⟩,a5⟩,?_⟩,?_⟩,b1⟩,b2,fun x hx => ?_,b6⟩
      · by_cases hlt : e.node < used
        · exact .inr (b3 hlt)
        · exact .inl hlt
      · by_cases he : e.node = used
        · exact .inr (b4 he)
        · exact .inl he
      · rcases List.mem_cons.1 hx with rfl | hx
        · exact a6
        · exact b5 x hx
    · rintro ⟨⟨⟨⟨⟨⟨⟨⟨a1,a2⟩,a3⟩,a4⟩,a5⟩,a6⟩,a7⟩,b1⟩,b2,b3,b4⟩
      refine ⟨⟨⟨⟨⟨⟨a1,a2⟩,a3⟩,a4⟩,a5⟩,b3 e (by simp)⟩,?_⟩
      rw [ord_eq t r e.path _ _ (use_step h (by omega) (by omega) (by omega)),met_step h (by omega) (by omega) (by omega)]
      refine ⟨b1,⟨b2,fun hlt => ?_,fun he => ?_⟩,fun x hx => b3 x (by simp [hx]),b4⟩
      · rcases a6 with c | c
        · exact absurd hlt c
        · exact c
      · rcases a7 with c | c
        · exact absurd he c
        · exact c
theorem ordG_range {ns : List FNode} : ∀ {r : List TEnt} {prev : Option (List UInt8)} {used : Nat},ordG ns prev used r = true → ∀ e ∈ r,0 ≤ e.node ∧ e.node < ns.length
  | [],_,_,_,e,he => by cases he
  | x :: r,prev,used,h,e,he => by
    unfold ordG entOk at h
    simp only [Bool.and_eq_true,Bool.not_eq_true',decide_eq_false_iff_not] at h
    rcases List.mem_cons.1 he with rfl | he
    · obtain ⟨⟨⟨⟨⟨⟨⟨_,_⟩,a⟩,_⟩,b⟩,_⟩,_⟩,_⟩ := h
      omega
    · exact ordG_range h.2 e he
theorem ordG_paths {ns : List FNode} : ∀ {r : List TEnt} {p : List UInt8} {used : Nat},ordG ns (some p) used r = true → ∀ e ∈ r,e.path ≠ [] ∧ mayB e.path = true
  | [],_,_,_,e,he => by cases he
  | x :: r,p,used,h,e,he => by
    unfold ordG entOk at h
    simp only [Bool.and_eq_true] at h
    rcases List.mem_cons.1 he with rfl | he
    · obtain ⟨⟨⟨⟨⟨⟨⟨a,b⟩,_⟩,_⟩,_⟩,_⟩,_⟩,_⟩ := h
      refine ⟨fun hc => ?_,a⟩
      rw [hc,less_nil] at b;cases b
    · exact ordG_paths h.2 e he
theorem up_eq {t : FTree} (hr : ∀ e ∈ t.ents,0 ≤ e.node ∧ e.node < t.nodes.length) {e : TEnt} (h0 : e.path ≠ []) (hm : mayB e.path = true) : upR t e = upOk t e := by
  unfold upR upOk
  rw [parent_ok h0 hm,Bool.not_true,Bool.false_or]
  cases hf : (findT t.ents (parentB e.path).1).2
  · rfl
  · obtain ⟨x,hx,_,h2⟩ := findT_mem hf
    obtain ⟨a,b⟩ := hr x hx
    rw [← h2,decide_eq_false (by omega),decide_eq_false (by omega)];rfl
theorem start_inv (ns : List FNode) : UseInv ns 0 (List.replicate ns.length 0) := ⟨by simp,by omega,fun k u _ h => by omega,fun k u h _ => by
  rw [List.getElem?_replicate] at h
  split at h
  · simpa using h.symm
  · cases h⟩
theorem may_eq (t : FTree) : mayR t = mayT t := by
  rw [Bool.eq_iff_iff]
  unfold mayR mayT
  simp only [Bool.and_eq_true,decide_eq_true_eq]
  cases ht : t.ents with
  | nil => simp
  | cons e r =>
    simp only [decide_eq_true_eq,List.drop_succ_cons,List.drop_zero,List.all_eq_true]
    have hinv := start_inv t.nodes
    unfold ordR ordG entOkR entOk
    simp only [Bool.and_eq_true,Bool.not_eq_true',decide_eq_false_iff_not,Bool.and_eq_false_iff,Bool.or_eq_true,decide_eq_true_eq]
    have hmet0 : Met t.nodes 0 (List.replicate t.nodes.length 0) := fun k n u h => by omega
    constructor
    · rintro ⟨⟨⟨l1,l2⟩,hp⟩,⟨⟨⟨⟨⟨a1,_⟩,a3⟩,a4⟩,a5⟩,a6⟩,hr⟩
      rw [ord_eq t r e.path _ _ (use_step hinv (by omega) (by omega) (by omega)),met_step hinv (by omega) (by omega) (by omega)] at hr
      obtain ⟨b1,⟨b2,b3,b4⟩,b5,b6⟩ := hr
      have hrg : ∀ x ∈ t.ents,0 ≤ x.node ∧ x.node < t.nodes.length := by
        rw [ht]
        intro x hx
        rcases List.mem_cons.1 hx with rfl | hx
        · omega
        · exact ordG_range b1 x hx
      refine ⟨⟨⟨⟨l1,l2⟩,⟨⟨⟨⟨⟨⟨a1,hp⟩,a3⟩,a4⟩,a5⟩,?_⟩,?_⟩,b1⟩,b6⟩,fun x hx => ?_⟩
      · exact .inl (by omega)
      · by_cases he : e.node = (0 : Nat)
        · exact .inr (b4 he)
        · exact .inl he
      · obtain ⟨c1,c2⟩ := ordG_paths b1 x hx
        rw [← up_eq hrg c1 c2];exact b5 x hx
    · rintro ⟨⟨⟨⟨l1,l2⟩,⟨⟨⟨⟨⟨⟨a1,hp⟩,a3⟩,a4⟩,a5⟩,a6⟩,a7⟩,b1⟩,b6⟩,b5⟩
      have hrg : ∀ x ∈ t.ents,0 ≤ x.node ∧ x.node < t.nodes.length := by
        rw [ht]
        intro x hx
        rcases List.mem_cons.1 hx with rfl | hx
        · omega
        · exact ordG_range b1 x hx
      refine ⟨⟨⟨l1,l2⟩,hp⟩,⟨⟨⟨⟨⟨a1,trivial⟩,a3⟩,a4⟩,a5⟩,?_⟩,?_⟩
      · left
        rw [hp];rfl
      · rw [ord_eq t r e.path _ _ (use_step hinv (by omega) (by omega) (by omega)),met_step hinv (by omega) (by omega) (by omega)]
        refine ⟨b1,⟨hmet0,fun hlt => ?_,fun he => ?_⟩,fun x hx => ?_,b6⟩
        · omega
        · rcases a7 with c | c
          · exact absurd he c
          · exact c
        · obtain ⟨c1,c2⟩ := ordG_paths b1 x hx
          rw [up_eq hrg c1 c2];exact b5 x hx
end Go.Proofs.YtbffcndmcaeamaaDoor.TreeSpec
end
