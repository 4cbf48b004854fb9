import Derived.Test.YtbffcndmcaeamaaDoorTEq
import Derived.Test.YtbffcndmcaeamaaDoorISame
import Derived.Test.YtbffcndmcaeamaaDoorTFile
section
set_option linter.unusedSimpArgs false
set_option linter.unusedVariables false
namespace Go.Proofs.YtbffcndmcaeamaaDoor.PlanSpec
open AclSpec MetaSpec NodeSpec PathSpec TreeSpec

structure PStep where
  kind : Int
  path : List UInt8
  other : List UInt8
  n : Int
  deriving DecidableEq,Inhabited

def upTo {α : Type} (f : Nat → List α) : Nat → List α
  | 0 => []
  | i + 1 => upTo f i ++ f i
theorem upTo_add {α : Type} (f : Nat → List α) (a : Nat) : ∀ b : Nat,upTo f (a + b) = upTo f a ++ upTo (fun k => f (a + k)) b
  | 0 => by rw [Nat.add_zero,upTo,List.append_nil]
  | b + 1 => by rw [← Nat.add_assoc,upTo,upTo,upTo_add f a b,List.append_assoc]
def last5 (p : List UInt8) : List PStep := [⟨6,p,[],0⟩,⟨7,p,[],0⟩,⟨8,p,[],0⟩,⟨9,p,[],0⟩,⟨10,p,[],0⟩]
def endP (l : List Piece) : Int := match l.getLast? with | none => 0 | some p => p.pos + p.dat.length
def writesP (p : List UInt8) (n : Nat) : List PStep := (List.range n).map fun (j : Nat) => ⟨3,p,[],(j : Int)⟩
theorem writesP_succ (p : List UInt8) (n : Nat) : writesP p (n + 1) = writesP p n ++ [⟨3,p,[],(n : Int)⟩] := by
  unfold writesP;rw [List.range_succ,List.map_append];rfl
theorem endP_take {l : List Piece} {i : Nat} {p : Piece} (h : l[i]? = some p) : endP (l.take (i + 1)) = p.pos + p.dat.length := by
  unfold endP
  obtain ⟨hi,rfl⟩ := List.getElem?_eq_some_iff.1 h
  rw [List.take_succ_eq_append_getElem hi,List.getLast?_concat]
def fileS (p : List UInt8) (n : FNode) : List PStep :=
  ⟨2,p,[],0⟩ :: if n.kind = 2 then writesP p n.dat.length ++ (if n.size = endP n.dat then [] else [⟨4,p,[],0⟩]) else []
def firstI : List TEnt → Int → Nat
  | [],_ => 0
  | e :: r,k => if e.node = k then 0 else firstI r k + 1
def pathI (l : List TEnt) (i : Nat) : List UInt8 := (l[i]?.map (·.path)).getD []
def made1 (t : FTree) (i : Nat) (e : TEnt) : List PStep :=
  if (nodeG t.nodes e.node).kind = 1 then [⟨1,e.path,[],0⟩]
  else if firstI t.ents e.node < i then [⟨5,e.path,pathI t.ents (firstI t.ents e.node),0⟩]
  else fileS e.path (nodeG t.nodes e.node)
def isDirT (t : FTree) (q : List UInt8) : Bool := (findT t.ents q).2 && decide ((nodeG t.nodes (findT t.ents q).1).kind = 1)
def exP (t : FTree) (there : List (List UInt8)) (p : List UInt8) : Bool := there.any fun q => decide (q = p) && isDirT t q
def entS (t : FTree) (there : List (List UInt8)) (i : Nat) : List PStep :=
  match t.ents[i]? with
  | none => []
  | some e => if i = 0 then [] else if exP t there e.path = true then [] else made1 t i e
def othS (t : FTree) (i : Nat) : List PStep :=
  match t.ents[i]? with
  | none => []
  | some e => if (nodeG t.nodes e.node).kind ≠ 1 ∧ firstI t.ents e.node = i then last5 e.path else []
def dirS (t : FTree) (d : Int) (i : Nat) : List PStep :=
  match t.ents[i]? with
  | none => []
  | some e => if (nodeG t.nodes e.node).kind = 1 ∧ depthB e.path = d then last5 e.path else []
def levS (t : FTree) (k : Nat) : List PStep := upTo (dirS t (8 - (k : Int))) t.ents.length
def planS (t : FTree) (there : List (List UInt8)) : List PStep := upTo (entS t there) t.ents.length ++ upTo (othS t) t.ents.length ++ upTo (levS t) 9
def planP (t : FTree) (there : List (List UInt8)) : List PStep × Int := if mayT t then (planS t there,0) else ([],1)

def leadP : List TEnt → Int → List UInt8
  | [],_ => []
  | e :: r,k => if e.node = k then e.path else leadP r k
theorem firstI_le : ∀ {l : List TEnt} {k : Int} {i : Nat} {e : TEnt},l[i]? = some e → e.node = k → firstI l k ≤ i
  | [],_,_,_,h,_ => by simp at h
  | x :: r,k,0,e,h,hk => by
    simp only [List.getElem?_cons_zero,Option.some.injEq] at h
    subst h
    rw [firstI,if_pos hk];omega
  | x :: r,k,i + 1,e,h,hk => by
    rw [firstI]
    split
    · omega
    · have := firstI_le (l := r) (k := k) (i := i) (e := e) (by simpa using h) hk
      omega
theorem firstI_get : ∀ {l : List TEnt} {k : Int},(∃ e ∈ l,e.node = k) → ∃ e,l[firstI l k]? = some e ∧ e.node = k ∧ leadP l k = e.path
  | [],_,⟨_,h,_⟩ => by cases h
  | x :: r,k,⟨e,he,hk⟩ => by
    rw [firstI,leadP]
    by_cases hx : x.node = k
    · rw [if_pos hx,if_pos hx];exact ⟨x,rfl,hx,rfl⟩
    · rw [if_neg hx,if_neg hx]
      rcases List.mem_cons.1 he with rfl | he
      · exact absurd hk hx
      · obtain ⟨y,h1,h2,h3⟩ := firstI_get (l := r) (k := k) ⟨e,he,hk⟩
        exact ⟨y,by simpa using h1,h2,h3⟩
theorem rise_inj {l : List TEnt} (h : Rise l) {i j : Nat} {x y : TEnt} (hx : l[i]? = some x) (hy : l[j]? = some y) (hp : x.path = y.path) : i = j := by
  obtain ⟨hi,rfl⟩ := List.getElem?_eq_some_iff.1 hx
  obtain ⟨hj,rfl⟩ := List.getElem?_eq_some_iff.1 hy
  have hw := List.pairwise_iff_getElem.1 h.1
  rcases Nat.lt_trichotomy i j with c | c | c
  · exact absurd hp (less_ne (hw i j hi hj c))
  · exact c
  · exact absurd hp.symm (less_ne (hw j i hj hi c))
theorem lead_first {t : FTree} (h : mayT t = true) {i : Nat} {e : TEnt} (he : t.ents[i]? = some e) : firstI t.ents e.node ≤ i ∧ pathI t.ents (firstI t.ents e.node) = leadP t.ents e.node ∧ (leadP t.ents e.node = e.path ↔ firstI t.ents e.node = i) := by
  have hr := (mayT_valid h).rise
  obtain ⟨x,h1,h2,h3⟩ := firstI_get (l := t.ents) (k := e.node) ⟨e,List.mem_of_getElem? he,rfl⟩
  refine ⟨firstI_le he rfl,by unfold pathI;rw [h1,h3];rfl,fun hp => ?_,fun hi => ?_⟩
  · exact rise_inj hr h1 he (h3.symm.trans hp)
  · rw [hi,he] at h1
    cases h1
    exact h3
theorem find_ent {t : FTree} (h : mayT t = true) {i : Nat} {e : TEnt} (he : t.ents[i]? = some e) : findT t.ents e.path = (e.node,true) := findT_rise (mayT_valid h).rise.1 e (List.mem_of_getElem? he)
theorem root_ent {t : FTree} (h : mayT t = true) {i : Nat} {e : TEnt} (he : t.ents[i]? = some e) : (e.path = [] ↔ i = 0) ∧ (i = 0 → (nodeG t.nodes e.node).kind = 1) := by
  have hk : headKind t = true := by
    unfold mayT at h
    simp only [Bool.and_eq_true] at h
    exact h.1.2
  obtain ⟨x,r,h1,h2,h3,h4⟩ := root_alone h
  have hr := (mayT_valid h).range
  cases i with
  | zero =>
    rw [h1] at he
    simp only [List.getElem?_cons_zero,Option.some.injEq] at he
    subst he
    unfold headKind at hk
    rw [h1] at hk
    refine ⟨⟨fun _ => rfl,fun _ => h2⟩,fun _ => ?_⟩
    have := of_decide_eq_true hk
    have hx := hr x (by rw [h1];simp)
    unfold kindAt at this
    unfold nodeG
    cases hn : t.nodes[x.node.toNat]? with
    | none => rw [List.getElem?_eq_none_iff] at hn;omega
    | some n => rw [hn] at this;exact this
  | succ i =>
    rw [h1] at he
    have hm : e ∈ r := List.mem_of_getElem? (by simpa using he)
    exact ⟨⟨fun hp => absurd hp (h4 e hm).1,fun hi => by omega⟩,fun hi => by omega⟩
theorem depth_le {p : List UInt8} : depthB p ≤ 8 := by
  unfold depthB
  split
  · rename_i hm
    unfold partsB
    split
    · simp
    · rename_i hn
      simp only [Bool.or_eq_true,Bool.not_eq_true',not_or,Bool.not_eq_true] at hn
      unfold mayB mayK at hm
      simp only [hn.1,Bool.false_or,Bool.and_eq_true,decide_eq_true_eq] at hm
      omega
  · omega
end Go.Proofs.YtbffcndmcaeamaaDoor.PlanSpec
end
section
set_option linter.unusedSimpArgs false
set_option linter.unusedVariables false
namespace Go.Proofs.YtbffcndmcaeamaaDoor.PlanSpec
open AclSpec MetaSpec NodeSpec PathSpec TreeSpec

def sumTo (f : Nat → Nat) : Nat → Nat
  | 0 => 0
  | i + 1 => sumTo f i + f i
theorem sumTo_congr {f g : Nat → Nat} : ∀ {n : Nat},(∀ i,i < n → f i = g i) → sumTo f n = sumTo g n
  | 0,_ => rfl
  | n + 1,h => by rw [sumTo,sumTo,sumTo_congr fun i hi => h i (by omega),h n (by omega)]
theorem sumTo_zero {f : Nat → Nat} : ∀ {n : Nat},(∀ i,i < n → f i = 0) → sumTo f n = 0
  | 0,_ => rfl
  | n + 1,h => by rw [sumTo,sumTo_zero fun i hi => h i (by omega),h n (by omega)]
theorem sumTo_add (f g : Nat → Nat) : ∀ n : Nat,sumTo (fun i => f i + g i) n = sumTo f n + sumTo g n
  | 0 => rfl
  | n + 1 => by rw [sumTo,sumTo,sumTo,sumTo_add f g n];omega
theorem sumTo_swap (f : Nat → Nat → Nat) (m : Nat) : ∀ n : Nat,sumTo (fun i => sumTo (fun j => f i j) m) n = sumTo (fun j => sumTo (fun i => f i j) n) m
  | 0 => by rw [sumTo,sumTo_zero];intro i _;rfl
  | n + 1 => by
    rw [sumTo,sumTo_swap f m n,← sumTo_add]
    rfl
theorem sumTo_one {n k c : Nat} (h : k < n) : sumTo (fun i => if i = k then c else 0) n = c := by
  induction n with
  | zero => omega
  | succ n ih =>
    rw [sumTo]
    by_cases hk : k = n
    · subst hk
      rw [if_pos rfl,sumTo_zero fun i hi => if_neg (by omega)];omega
    · rw [ih (by omega),if_neg (fun e => hk e.symm)];omega
theorem count_upTo {α : Type} (q : α → Bool) (f : Nat → List α) : ∀ n : Nat,(upTo f n).countP q = sumTo (fun i => (f i).countP q) n
  | 0 => rfl
  | n + 1 => by rw [upTo,List.countP_append,count_upTo q f n,sumTo]

def usedAt (l : List TEnt) (i : Nat) : Nat := (l.take i).foldl nextU 0
theorem usedAt_succ {l : List TEnt} {i : Nat} {e : TEnt} (h : l[i]? = some e) : usedAt l (i + 1) = nextU (usedAt l i) e := by
  unfold usedAt
  obtain ⟨hi,rfl⟩ := List.getElem?_eq_some_iff.1 h
  rw [List.take_succ_eq_append_getElem hi,List.foldl_append];rfl
theorem ordG_at {ns : List FNode} : ∀ {l : List TEnt} {prev : Option (List UInt8)} {used : Nat},ordG ns prev used l = true →
    (l.foldl nextU used = ns.length ∧ ∀ (i : Nat) (e : TEnt),l[i]? = some e → 0 ≤ e.node ∧ e.node ≤ ((l.take i).foldl nextU used : Nat) ∧ e.node < ns.length ∧ (e.node < ((l.take i).foldl nextU used : Nat) → kindAt ns e.node ≠ 1) ∧ (e.node = ((l.take i).foldl nextU used : Nat) → mayAt ns ((l.take i).foldl nextU used : Nat) = true))
  | [],prev,used,h => by
    unfold ordG at h
    exact ⟨of_decide_eq_true h,fun i e he => by simp at he⟩
  | x :: r,prev,used,h => by
    unfold ordG at h
    rw [Bool.and_eq_true] at h
    obtain ⟨h1,h2⟩ := h
    obtain ⟨h3,h4⟩ := ordG_at h2
    refine ⟨h3,fun i e he => ?_⟩
    cases i with
    | zero =>
      simp only [List.getElem?_cons_zero,Option.some.injEq] at he
      subst he
      unfold entOk at h1
      simp only [Bool.and_eq_true,Bool.not_eq_true',Bool.or_eq_true,Bool.and_eq_false_iff,decide_eq_false_iff_not,decide_eq_true_eq] at h1
      obtain ⟨⟨⟨⟨⟨⟨_,_⟩,a⟩,b⟩,c⟩,d⟩,f⟩ := h1
      simp only [List.take_zero,List.foldl_nil]
      refine ⟨by omega,by omega,by omega,fun hl hk => ?_,fun hu => ?_⟩
      · rcases d with d | d
        · exact d hl
        · exact d hk
      · rcases f with f | f
        · exact absurd hu f
        · exact f
    | succ i =>
      have := h4 i e (by simpa using he)
      simpa only [List.take_succ_cons,List.foldl_cons] using this
structure Numbered (t : FTree) : Prop where
  last : usedAt t.ents t.ents.length = t.nodes.length
  at_ : ∀ (i : Nat) (e : TEnt),t.ents[i]? = some e → 0 ≤ e.node ∧ e.node ≤ (usedAt t.ents i : Nat) ∧ e.node < t.nodes.length ∧ (e.node < (usedAt t.ents i : Nat) → (nodeG t.nodes e.node).kind ≠ 1)
  may : ∀ n ∈ t.nodes,mayN n = true
theorem kindAt_G {ns : List FNode} {k : Int} (h0 : 0 ≤ k) (h : k < ns.length) : kindAt ns k = (nodeG ns k).kind := by
  unfold kindAt nodeG
  rw [List.getElem?_eq_getElem (by omega)];rfl
theorem first_used {t : FTree} (H : ∀ (i : Nat) (e : TEnt),t.ents[i]? = some e → 0 ≤ e.node ∧ e.node ≤ (usedAt t.ents i : Nat)) :
    ∀ i : Nat,i ≤ t.ents.length → ∀ k : Int,((∃ (j : Nat) (e : TEnt),j < i ∧ t.ents[j]? = some e ∧ e.node = k) ↔ 0 ≤ k ∧ k < (usedAt t.ents i : Nat))
  | 0,_,k => ⟨fun ⟨j,_,hj,_⟩ => by omega,fun h => by simp [usedAt] at h;omega⟩
  | i + 1,hi,k => by
    have ih := first_used H i (by omega) k
    have he := List.getElem?_eq_getElem (show i < t.ents.length by omega)
    generalize t.ents[i] = e at he
    rw [usedAt_succ he]
    have := H i e he
    unfold nextU
    constructor
    · rintro ⟨j,x,hj,hx,rfl⟩
      by_cases hji : j = i
      · subst hji
        rw [he] at hx
        cases hx
        split <;> omega
      · have := ih.1 ⟨j,x,by omega,hx,rfl⟩
        split <;> omega
    · rintro ⟨h0,hk⟩
      by_cases hc : k < (usedAt t.ents i : Nat)
      · obtain ⟨j,x,hj,hx,hn⟩ := ih.2 ⟨h0,hc⟩
        exact ⟨j,x,by omega,hx,hn⟩
      · split at hk
        · exact ⟨i,e,by omega,he,by omega⟩
        · exact absurd hk hc
theorem firstI_lt : ∀ {l : List TEnt} {k : Int} {i : Nat},i ≤ l.length → (firstI l k < i ↔ ∃ (j : Nat) (e : TEnt),j < i ∧ l[j]? = some e ∧ e.node = k)
  | [],k,i,hi => by
    simp only [List.length_nil] at hi
    exact ⟨fun h => by omega,fun ⟨j,_,hj,_⟩ => by omega⟩
  | x :: r,k,i,hi => by
    rw [firstI]
    by_cases hx : x.node = k
    · rw [if_pos hx]
      exact ⟨fun h => ⟨0,x,h,rfl,hx⟩,fun ⟨j,_,hj,_⟩ => by omega⟩
    · rw [if_neg hx]
      cases i with
      | zero => exact ⟨fun h => by omega,fun ⟨j,_,hj,_⟩ => by omega⟩
      | succ i =>
        have ih := firstI_lt (l := r) (k := k) (i := i) (by simpa using hi)
        constructor
        · intro h
          obtain ⟨j,e,hj,he,hn⟩ := ih.1 (by omega)
          exact ⟨j + 1,e,by omega,by simpa using he,hn⟩
        · rintro ⟨j,e,hj,he,hn⟩
          cases j with
          | zero =>
            simp only [List.getElem?_cons_zero,Option.some.injEq] at he
            subst he
            exact absurd hn hx
          | succ j =>
            have := ih.2 ⟨j,e,by omega,by simpa using he,hn⟩
            omega
theorem mayT_num {t : FTree} (h : mayT t = true) : Numbered t := by
  obtain ⟨h1,h2⟩ := ordG_at (mayT_ord h)
  have hl : usedAt t.ents t.ents.length = t.nodes.length := by unfold usedAt;rw [List.take_length];exact h1
  refine ⟨hl,fun i e he => ?_,fun n hn => ?_⟩
  · obtain ⟨a,b,c,d,_⟩ := h2 i e he
    exact ⟨a,b,c,fun hu => by rw [← kindAt_G a c];exact d hu⟩
  · obtain ⟨k,hk,rfl⟩ := List.mem_iff_getElem.1 hn
    have hf := (first_used (t := t) (fun i e he => ⟨(h2 i e he).1,(h2 i e he).2.1⟩) t.ents.length (by omega) k).2 ⟨by omega,by omega⟩
    have hlt := (firstI_lt (Nat.le_refl _)).2 hf
    have he := List.getElem?_eq_getElem hlt
    obtain ⟨x,g1,g2,_⟩ := firstI_get (l := t.ents) (k := (k : Int)) (by obtain ⟨j,e,_,q1,q2⟩ := hf;exact ⟨e,List.mem_of_getElem? q1,q2⟩)
    obtain ⟨a,b,c,d,f⟩ := h2 _ x g1
    have hu : x.node = (usedAt t.ents (firstI t.ents k) : Nat) := by
      have hn : ¬ ∃ (j : Nat) (e : TEnt),j < firstI t.ents k ∧ t.ents[j]? = some e ∧ e.node = (k : Int) := fun hx => by
        have := (firstI_lt (l := t.ents) (k := (k : Int)) (i := firstI t.ents k) (by omega)).2 hx
        omega
      have := mt (first_used (t := t) (fun i e he => ⟨(h2 i e he).1,(h2 i e he).2.1⟩) (firstI t.ents k) (by omega) (k : Int)).2 hn
      have hb : x.node ≤ (usedAt t.ents (firstI t.ents k) : Nat) := b
      omega
    have := f hu
    have hku : ((t.ents.take (firstI t.ents k)).foldl nextU 0) = k := by
      have : (usedAt t.ents (firstI t.ents k) : Int) = k := by rw [← hu,g2]
      unfold usedAt at this
      exact_mod_cast this
    rw [hku] at this
    unfold mayAt at this
    rw [show ((k : Int)).toNat = k by omega,List.getElem?_eq_getElem hk] at this
    exact this
theorem Numbered.first {t : FTree} (h : Numbered t) {i : Nat} {e : TEnt} (he : t.ents[i]? = some e) : firstI t.ents e.node = i ↔ e.node = (usedAt t.ents i : Nat) := by
  have hi : i < t.ents.length := (List.getElem?_eq_some_iff.1 he).1
  have h1 := firstI_lt (l := t.ents) (k := e.node) (i := i) (by omega)
  have h2 := first_used (t := t) (fun i e he => ⟨(h.at_ i e he).1,(h.at_ i e he).2.1⟩) i (by omega) e.node
  obtain ⟨a,b,_,_⟩ := h.at_ i e he
  have h4 : firstI t.ents e.node ≤ i := firstI_le he rfl
  rw [h2] at h1
  clear h2 h
  generalize firstI t.ents e.node = f at *
  generalize usedAt t.ents i = u at *
  generalize e.node = k at *
  omega
def atNode (t : FTree) (F : FNode → Nat) (i : Nat) : Nat :=
  match t.ents[i]? with
  | none => 0
  | some e => if firstI t.ents e.node = i then F (nodeG t.nodes e.node) else 0
theorem first_sum {t : FTree} (h : Numbered t) (F : FNode → Nat) : ∀ i : Nat,i ≤ t.ents.length → sumTo (atNode t F) i = ((t.nodes.take (usedAt t.ents i)).map F).sum
  | 0,_ => by simp [sumTo,usedAt]
  | i + 1,hi => by
    have he := List.getElem?_eq_getElem (show i < t.ents.length by omega)
    generalize t.ents[i] = e at he
    have hf := h.first he
    obtain ⟨a,b,c,_⟩ := h.at_ i e he
    rw [sumTo,first_sum h F i (by omega),usedAt_succ he]
    unfold atNode nextU
    rw [he]
    simp only
    by_cases hu : e.node = (usedAt t.ents i : Nat)
    · rw [if_pos (hf.2 hu),if_pos hu,hu]
      have hlt : usedAt t.ents i < t.nodes.length := by omega
      rw [List.take_succ_eq_append_getElem hlt,List.map_append,List.sum_append,get_nodeG hlt]
      simp
    · rw [if_neg (fun hx => hu (hf.1 hx)),if_neg hu];rfl
theorem first_all {t : FTree} (h : mayT t = true) (F : FNode → Nat) : sumTo (atNode t F) t.ents.length = (t.nodes.map F).sum := by
  have hn := mayT_num h
  rw [first_sum hn F _ (Nat.le_refl _),hn.last,List.take_length]
theorem dir_first {t : FTree} (h : mayT t = true) {i : Nat} {e : TEnt} (he : t.ents[i]? = some e) (hk : (nodeG t.nodes e.node).kind = 1) : firstI t.ents e.node = i := by
  have hn := mayT_num h
  obtain ⟨a,b,c,d⟩ := hn.at_ i e he
  refine (hn.first he).2 ?_
  by_cases hl : e.node < (usedAt t.ents i : Nat)
  · exact absurd hk (d hl)
  · omega

def isMade (s : PStep) : Bool := decide (s.kind = 1 ∨ s.kind = 2 ∨ s.kind = 5)
def isWrite (s : PStep) : Bool := decide (s.kind = 3)
def isRest (s : PStep) : Bool := decide (s.kind = 6 ∨ s.kind = 7 ∨ s.kind = 8 ∨ s.kind = 9 ∨ s.kind = 10)
theorem writes_count (q : PStep → Bool) (b : Bool) (p : List UInt8) (h : ∀ j : Int,q ⟨3,p,[],j⟩ = b) : ∀ n : Nat,(writesP p n).countP q = if b then n else 0
  | 0 => by unfold writesP;cases b <;> rfl
  | n + 1 => by
    rw [writesP_succ,List.countP_append,writes_count q b p h n]
    simp only [List.countP_cons,List.countP_nil,h]
    cases b <;> simp
theorem size_count (q : PStep → Bool) (p : List UInt8) (h : q ⟨4,p,[],0⟩ = false) (c : Prop) [Decidable c] : (if c then [] else [(⟨4,p,[],0⟩ : PStep)]).countP q = 0 := by
  split
  · rfl
  · simp [h]
theorem file_made (p : List UInt8) (n : FNode) : (fileS p n).countP isMade = 1 := by
  unfold fileS
  rw [List.countP_cons_of_pos (p := isMade) (a := (⟨2,p,[],0⟩ : PStep)) rfl]
  split
  · rw [List.countP_append,writes_count isMade false p (fun _ => rfl),size_count isMade p rfl];rfl
  · rfl
theorem file_write (p : List UInt8) (n : FNode) : (fileS p n).countP isWrite = if n.kind = 2 then n.dat.length else 0 := by
  unfold fileS
  rw [List.countP_cons_of_neg (p := isWrite) (a := (⟨2,p,[],0⟩ : PStep)) (by simp [isWrite,isRest])]
  split
  · rw [List.countP_append,writes_count isWrite true p (fun _ => rfl),size_count isWrite p rfl];rfl
  · rfl
theorem file_rest (p : List UInt8) (n : FNode) : (fileS p n).countP isRest = 0 := by
  unfold fileS
  rw [List.countP_cons_of_neg (p := isRest) (a := (⟨2,p,[],0⟩ : PStep)) (by simp [isWrite,isRest])]
  split
  · rw [List.countP_append,writes_count isRest false p (fun _ => rfl),size_count isRest p rfl];rfl
  · rfl
theorem exP_nil (t : FTree) (p : List UInt8) : exP t [] p = false := rfl
theorem plan_made {t : FTree} (h : mayT t = true) : (planS t []).countP isMade = t.ents.length - 1 := by
  unfold planS levS
  rw [List.countP_append,List.countP_append,count_upTo,count_upTo,count_upTo]
  have h1 : sumTo (fun i => (othS t i).countP isMade) t.ents.length = 0 := sumTo_zero fun i _ => by
    unfold othS
    split
    · rfl
    · split <;> rfl
  have h2 : ∀ k,(upTo (dirS t (8 - (k : Int))) t.ents.length).countP isMade = 0 := fun k => by
    rw [count_upTo]
    refine sumTo_zero fun i _ => ?_
    unfold dirS
    split
    · rfl
    · split <;> rfl
  rw [h1,sumTo_zero (n := 9) fun k _ => h2 k]
  have h3 : ∀ n,n ≤ t.ents.length → sumTo (fun i => (entS t [] i).countP isMade) n = n - 1 := by
    intro n
    induction n with
    | zero => intro _;rfl
    | succ n ih =>
      intro hn
      rw [sumTo,ih (by omega)]
      unfold entS
      rw [List.getElem?_eq_getElem (show n < t.ents.length by omega)]
      simp only
      by_cases h0 : n = 0
      · rw [if_pos h0,h0];rfl
      · rw [if_neg h0,exP_nil,if_neg (by simp)]
        unfold made1
        have : ∀ l : List PStep,l.countP isMade = 1 → n - 1 + l.countP isMade = n + 1 - 1 := fun l hl => by omega
        refine this _ ?_
        split
        · rfl
        · split
          · rfl
          · exact file_made _ _
  rw [h3 _ (Nat.le_refl _)];omega
theorem plan_write {t : FTree} (h : mayT t = true) : (planS t []).countP isWrite = (t.nodes.map fun n => n.dat.length).sum := by
  unfold planS levS
  rw [List.countP_append,List.countP_append,count_upTo,count_upTo,count_upTo]
  have h1 : sumTo (fun i => (othS t i).countP isWrite) t.ents.length = 0 := sumTo_zero fun i _ => by
    unfold othS
    split
    · rfl
    · split <;> rfl
  have h2 : ∀ k,(upTo (dirS t (8 - (k : Int))) t.ents.length).countP isWrite = 0 := fun k => by
    rw [count_upTo]
    refine sumTo_zero fun i _ => ?_
    unfold dirS
    split
    · rfl
    · split <;> rfl
  rw [h1,sumTo_zero (n := 9) fun k _ => h2 k,← first_all h]
  refine sumTo_congr fun i hi => ?_
  have he := List.getElem?_eq_getElem hi
  generalize t.ents[i] = e at he
  unfold entS atNode
  rw [he]
  simp only
  have hm : mayN (nodeG t.nodes e.node) = true := (mayT_num h).may _ (nodeG_mem ((mayT_num h).at_ i e he).1 ((mayT_num h).at_ i e he).2.2.1)
  have hd : (nodeG t.nodes e.node).kind ≠ 2 → (nodeG t.nodes e.node).dat.length = 0 := by
    intro hk
    unfold mayN at hm
    simp only [Bool.and_eq_true] at hm
    obtain ⟨⟨⟨⟨⟨⟨_,_⟩,_⟩,h4⟩,_⟩,_⟩,_⟩ := hm
    simp [hk] at h4
    rw [h4.2];rfl
  by_cases h0 : i = 0
  · rw [if_pos h0]
    have hk := (root_ent h he).2 h0
    rw [dir_first h he hk,if_pos rfl,hd (by omega)];rfl
  · rw [if_neg h0,exP_nil,if_neg (by simp)]
    unfold made1
    by_cases hk : (nodeG t.nodes e.node).kind = 1
    · rw [if_pos hk,dir_first h he hk,if_pos rfl,hd (by omega)];rfl
    · rw [if_neg hk]
      have hle := firstI_le he rfl
      by_cases hf : firstI t.ents e.node = i
      · rw [if_neg (by omega),if_pos hf,file_write]
        split
        · rfl
        · rename_i hk2
          rw [hd hk2]
      · rw [if_pos (by omega),if_neg hf];rfl
theorem plan_rest {t : FTree} (h : mayT t = true) : (planS t []).countP isRest = 5 * t.nodes.length := by
  unfold planS levS
  rw [List.countP_append,List.countP_append,count_upTo,count_upTo,count_upTo]
  have h1 : sumTo (fun i => (entS t [] i).countP isRest) t.ents.length = 0 := sumTo_zero fun i _ => by
    unfold entS
    split
    · rfl
    · split
      · rfl
      · rw [exP_nil,if_neg (by simp)]
        unfold made1
        split
        · rfl
        · split
          · rfl
          · exact file_rest _ _
  have h2 : (t.nodes.map fun _ => 5).sum = 5 * t.nodes.length := by
    generalize t.nodes = l
    induction l with
    | nil => rfl
    | cons x r ih => rw [List.map_cons,List.sum_cons,ih,List.length_cons];omega
  rw [h1,Nat.zero_add,← h2,← first_all h,sumTo_congr (n := 9) fun k _ => count_upTo isRest (dirS t (8 - (k : Int))) t.ents.length,sumTo_swap,← sumTo_add]
  refine sumTo_congr fun i hi => ?_
  have he := List.getElem?_eq_getElem hi
  generalize t.ents[i] = e at he
  unfold othS atNode dirS
  rw [he]
  simp only
  by_cases hk : (nodeG t.nodes e.node).kind = 1
  · rw [if_neg (by simp [hk]),dir_first h he hk,if_pos rfl]
    have hm : mayB e.path = true := (mayT_valid h).rise.2 e (List.mem_of_getElem? he)
    have hd0 : 0 ≤ depthB e.path := by unfold depthB;rw [if_pos hm];omega
    have hd8 := depth_le (p := e.path)
    rw [sumTo_congr (g := fun k => if k = (8 - depthB e.path).toNat then 5 else 0) fun k hk9 => ?_,sumTo_one (by omega)]
    · rfl
    · by_cases hd : depthB e.path = 8 - (k : Int)
      · rw [if_pos ⟨hk,hd⟩,if_pos (by omega)];rfl
      · rw [if_neg (fun hx => hd hx.2),if_neg (by omega)];rfl
  · rw [sumTo_zero (n := 9) fun k _ => by rw [if_neg (fun hx => hk hx.1)];rfl]
    by_cases hf : firstI t.ents e.node = i
    · rw [if_pos ⟨hk,hf⟩,if_pos hf];rfl
    · rw [if_neg (fun hx => hf hx.2),if_neg hf];rfl
end Go.Proofs.YtbffcndmcaeamaaDoor.PlanSpec
end
