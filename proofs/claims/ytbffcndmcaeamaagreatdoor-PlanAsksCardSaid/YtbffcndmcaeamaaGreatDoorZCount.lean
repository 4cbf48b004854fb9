import Derived.Test.YtbffcndmcaeamaaGreatDoorTEq
import Derived.Test.YtbffcndmcaeamaaGreatDoorISame
import Derived.Test.YtbffcndmcaeamaaGreatDoorTFile
section
set_option linter.unusedSimpArgs false
set_option linter.unusedVariables false
namespace Go.Proofs.YtbffcndmcaeamaaGreatDoor.PlanSpec
open AclSpec MetaSpec NodeSpec PathSpec TreeSpec

structure PStep where
  kind : Int
  path : List UInt8
  other : List UInt8
  n : Int
  deriving DecidableEq,Inhabited

def upTo {α : Type} (f : Nat → List α) : Nat → List α
  | 0 => []
  | i + 1 => upTo f i ++ f i
theorem upTo_congr {α : Type} {f g : Nat → List α} : ∀ {n : Nat},(∀ i,i < n → f i = g i) → upTo f n = upTo g n
  | 0,_ => rfl
  | n + 1,h => by rw [upTo,upTo,upTo_congr fun i hi => h i (by omega),h n (by omega)]
theorem upTo_nil {α : Type} {f : Nat → List α} : ∀ {n : Nat},(∀ i,i < n → f i = []) → upTo f n = []
  | 0,_ => rfl
  | n + 1,h => by rw [upTo,upTo_nil fun i hi => h i (by omega),h n (by omega)];rfl
theorem upTo_add {α : Type} (f : Nat → List α) (a : Nat) : ∀ b : Nat,upTo f (a + b) = upTo f a ++ upTo (fun k => f (a + k)) b
  | 0 => by rw [Nat.add_zero,upTo,List.append_nil]
  | b + 1 => by rw [← Nat.add_assoc,upTo,upTo,upTo_add f a b,List.append_assoc]
def last5 (p : List UInt8) : List PStep := [⟨6,p,[],0⟩,⟨7,p,[],0⟩,⟨8,p,[],0⟩,⟨9,p,[],0⟩,⟨10,p,[],0⟩]
def endP (l : List Piece) : Int := match l.getLast? with | none => 0 | some p => p.pos + p.dat.length
def writesP (p : List UInt8) (n : Nat) : List PStep := (List.range n).map fun (j : Nat) => ⟨3,p,[],(j : Int)⟩
theorem writesP_succ (p : List UInt8) (n : Nat) : writesP p (n + 1) = writesP p n ++ [⟨3,p,[],(n : Int)⟩] := by
  unfold writesP;rw [List.range_succ,List.map_append];rfl
theorem endP_take {l : List Piece} {i : Nat} {p : Piece} (h : l[i]? = some p) : endP (l.take (i + 1)) = p.pos + p.dat.length := by
  unfold endP
  obtain ⟨hi,rfl⟩ := List.getElem?_eq_some_iff.1 h
  rw [List.take_succ_eq_append_getElem hi,List.getLast?_concat]
def fileS (p : List UInt8) (n : FNode) : List PStep :=
  ⟨2,p,[],0⟩ :: if n.kind = 2 then writesP p n.dat.length ++ (if n.size = endP n.dat then [] else [⟨4,p,[],0⟩]) else []
def firstI : List TEnt → Int → Nat
  | [],_ => 0
  | e :: r,k => if e.node = k then 0 else firstI r k + 1
def pathI (l : List TEnt) (i : Nat) : List UInt8 := (l[i]?.map (·.path)).getD []
def made1 (t : FTree) (i : Nat) (e : TEnt) : List PStep :=
  if (nodeG t.nodes e.node).kind = 1 then [⟨1,e.path,[],0⟩]
  else if firstI t.ents e.node < i then [⟨5,e.path,pathI t.ents (firstI t.ents e.node),0⟩]
  else fileS e.path (nodeG t.nodes e.node)
def isDirT (t : FTree) (q : List UInt8) : Bool := (findT t.ents q).2 && decide ((nodeG t.nodes (findT t.ents q).1).kind = 1)
def exP (t : FTree) (there : List (List UInt8)) (p : List UInt8) : Bool := there.any fun q => decide (q = p) && isDirT t q
def entS (t : FTree) (there : List (List UInt8)) (i : Nat) : List PStep :=
  match t.ents[i]? with
  | none => []
  | some e => if i = 0 then [] else if exP t there e.path = true then [] else made1 t i e
def othS (t : FTree) (i : Nat) : List PStep :=
  match t.ents[i]? with
  | none => []
  | some e => if (nodeG t.nodes e.node).kind ≠ 1 ∧ firstI t.ents e.node = i then last5 e.path else []
def dirS (t : FTree) (d : Int) (i : Nat) : List PStep :=
  match t.ents[i]? with
  | none => []
  | some e => if (nodeG t.nodes e.node).kind = 1 ∧ depthB e.path = d then last5 e.path else []
def levS (t : FTree) (k : Nat) : List PStep := upTo (dirS t (8 - (k : Int))) t.ents.length
def planS (t : FTree) (there : List (List UInt8)) : List PStep := upTo (entS t there) t.ents.length ++ upTo (othS t) t.ents.length ++ upTo (levS t) 9
def planP (t : FTree) (there : List (List UInt8)) : List PStep × Int := if mayT t then (planS t there,0) else ([],1)

def leadP : List TEnt → Int → List UInt8
  | [],_ => []
  | e :: r,k => if e.node = k then e.path else leadP r k
def entR (t : FTree) (there : List (List UInt8)) (i : Nat) : List PStep :=
  match t.ents[i]? with
  | none => []
  | some e => if (nodeG t.nodes e.node).kind = 1 then (if e.path ≠ [] ∧ e.path ∉ there then [⟨1,e.path,[],0⟩] else [])
    else if leadP t.ents e.node ≠ e.path then [⟨5,e.path,leadP t.ents e.node,0⟩] else fileS e.path (nodeG t.nodes e.node)
def lateR (t : FTree) (i : Nat) : List PStep :=
  match t.ents[i]? with
  | none => []
  | some e => if (nodeG t.nodes e.node).kind = 1 then [] else if leadP t.ents e.node ≠ e.path then [] else last5 e.path
def deepR (t : FTree) (i : Nat) : Int := (t.ents.take i).foldl (fun d e => if d < depthB e.path then depthB e.path else d) 0
theorem deepR_succ {t : FTree} {i : Nat} {e : TEnt} (h : t.ents[i]? = some e) : deepR t (i + 1) = if deepR t i < depthB e.path then depthB e.path else deepR t i := by
  unfold deepR
  obtain ⟨hi,rfl⟩ := List.getElem?_eq_some_iff.1 h
  rw [List.take_succ_eq_append_getElem hi,List.foldl_append];rfl
theorem fold_le (D : Int) : ∀ (l : List TEnt) (d : Int),d ≤ D → (∀ e ∈ l,depthB e.path ≤ D) → l.foldl (fun d e => if d < depthB e.path then depthB e.path else d) d ≤ D
  | [],d,h,_ => h
  | e :: r,d,h,hl => by
    rw [List.foldl_cons]
    refine fold_le D r _ ?_ fun x hx => hl x (by simp [hx])
    have := hl e (by simp)
    split <;> omega
theorem fold_ge : ∀ (l : List TEnt) (d : Int),d ≤ l.foldl (fun d e => if d < depthB e.path then depthB e.path else d) d ∧ ∀ e ∈ l,depthB e.path ≤ l.foldl (fun d e => if d < depthB e.path then depthB e.path else d) d
  | [],d => ⟨by simp,by simp⟩
  | e :: r,d => by
    rw [List.foldl_cons]
    obtain ⟨h1,h2⟩ := fold_ge r (if d < depthB e.path then depthB e.path else d)
    refine ⟨?_,fun x hx => ?_⟩
    · split at h1 <;> rename_i hd
      · rw [if_pos hd];omega
      · rw [if_neg hd];exact h1
    · rcases List.mem_cons.1 hx with rfl | hx
      · split at h1 <;> rename_i hd
        · rw [if_pos hd];exact h1
        · rw [if_neg hd];omega
      · exact h2 x hx
def levR (t : FTree) (D : Int) (k : Nat) : List PStep := upTo (dirS t (D - (k : Int))) t.ents.length
def planR (t : FTree) (there : List (List UInt8)) : List PStep × Int :=
  if mayT t then (upTo (entR t there) t.ents.length ++ upTo (lateR t) t.ents.length ++ upTo (levR t (deepR t t.ents.length)) ((deepR t t.ents.length).toNat + 1),0) else ([],1)

theorem firstI_le : ∀ {l : List TEnt} {k : Int} {i : Nat} {e : TEnt},l[i]? = some e → e.node = k → firstI l k ≤ i
  | [],_,_,_,h,_ => by simp at h
  | x :: r,k,0,e,h,hk => by
    simp only [List.getElem?_cons_zero,Option.some.injEq] at h
    subst h
    rw [firstI,if_pos hk];omega
  | x :: r,k,i + 1,e,h,hk => by
    rw [firstI]
    split
    · omega
    · have := firstI_le (l := r) (k := k) (i := i) (e := e) (by simpa using h) hk
      omega
theorem firstI_get : ∀ {l : List TEnt} {k : Int},(∃ e ∈ l,e.node = k) → ∃ e,l[firstI l k]? = some e ∧ e.node = k ∧ leadP l k = e.path
  | [],_,⟨_,h,_⟩ => by cases h
  | x :: r,k,⟨e,he,hk⟩ => by
    rw [firstI,leadP]
    by_cases hx : x.node = k
    · rw [if_pos hx,if_pos hx];exact ⟨x,rfl,hx,rfl⟩
    · rw [if_neg hx,if_neg hx]
      rcases List.mem_cons.1 he with rfl | he
      · exact absurd hk hx
      · obtain ⟨y,h1,h2,h3⟩ := firstI_get (l := r) (k := k) ⟨e,he,hk⟩
        exact ⟨y,by simpa using h1,h2,h3⟩
theorem rise_inj {l : List TEnt} (h : Rise l) {i j : Nat} {x y : TEnt} (hx : l[i]? = some x) (hy : l[j]? = some y) (hp : x.path = y.path) : i = j := by
  obtain ⟨hi,rfl⟩ := List.getElem?_eq_some_iff.1 hx
  obtain ⟨hj,rfl⟩ := List.getElem?_eq_some_iff.1 hy
  have hw := List.pairwise_iff_getElem.1 h.1
  rcases Nat.lt_trichotomy i j with c | c | c
  · exact absurd hp (less_ne (hw i j hi hj c))
  · exact c
  · exact absurd hp.symm (less_ne (hw j i hj hi c))
theorem lead_first {t : FTree} (h : mayT t = true) {i : Nat} {e : TEnt} (he : t.ents[i]? = some e) : firstI t.ents e.node ≤ i ∧ pathI t.ents (firstI t.ents e.node) = leadP t.ents e.node ∧ (leadP t.ents e.node = e.path ↔ firstI t.ents e.node = i) := by
  have hr := (mayT_valid h).rise
  obtain ⟨x,h1,h2,h3⟩ := firstI_get (l := t.ents) (k := e.node) ⟨e,List.mem_of_getElem? he,rfl⟩
  refine ⟨firstI_le he rfl,by unfold pathI;rw [h1,h3];rfl,fun hp => ?_,fun hi => ?_⟩
  · exact rise_inj hr h1 he (h3.symm.trans hp)
  · rw [hi,he] at h1
    cases h1
    exact h3
theorem find_ent {t : FTree} (h : mayT t = true) {i : Nat} {e : TEnt} (he : t.ents[i]? = some e) : findT t.ents e.path = (e.node,true) := findT_rise (mayT_valid h).rise.1 e (List.mem_of_getElem? he)
theorem root_ent {t : FTree} (h : mayT t = true) {i : Nat} {e : TEnt} (he : t.ents[i]? = some e) : (e.path = [] ↔ i = 0) ∧ (i = 0 → (nodeG t.nodes e.node).kind = 1) := by
  have hk : headKind t = true := by
    unfold mayT at h
    simp only [Bool.and_eq_true] at h
    exact h.1.2
  obtain ⟨x,r,h1,h2,h3,h4⟩ := root_alone h
  have hr := (mayT_valid h).range
  cases i with
  | zero =>
    rw [h1] at he
    simp only [List.getElem?_cons_zero,Option.some.injEq] at he
    subst he
    unfold headKind at hk
    rw [h1] at hk
    refine ⟨⟨fun _ => rfl,fun _ => h2⟩,fun _ => ?_⟩
    have := of_decide_eq_true hk
    have hx := hr x (by rw [h1];simp)
    unfold kindAt at this
    unfold nodeG
    cases hn : t.nodes[x.node.toNat]? with
    | none => rw [List.getElem?_eq_none_iff] at hn;omega
    | some n => rw [hn] at this;exact this
  | succ i =>
    rw [h1] at he
    have hm : e ∈ r := List.mem_of_getElem? (by simpa using he)
    exact ⟨⟨fun hp => absurd hp (h4 e hm).1,fun hi => by omega⟩,fun hi => by omega⟩
theorem ent_eq {t : FTree} (h : mayT t = true) (there : List (List UInt8)) (i : Nat) : entR t there i = entS t there i := by
  unfold entR entS
  cases he : t.ents[i]? with
  | none => rfl
  | some e =>
    obtain ⟨f1,f2,f3⟩ := lead_first h he
    obtain ⟨r1,r2⟩ := root_ent h he
    have hd : exP t there e.path = (decide (e.path ∈ there) && decide ((nodeG t.nodes e.node).kind = 1)) := by
      rw [Bool.eq_iff_iff]
      unfold exP isDirT
      simp only [List.any_eq_true,Bool.and_eq_true,decide_eq_true_eq]
      constructor
      · rintro ⟨q,hq,rfl,h1,h2⟩
        rw [find_ent h he] at h2
        exact ⟨hq,h2⟩
      · rintro ⟨hq,hk⟩
        exact ⟨e.path,hq,rfl,by rw [find_ent h he],by rw [find_ent h he];exact hk⟩
    simp only
    unfold made1
    rw [hd]
    by_cases hi : i = 0
    · have hp := r1.2 hi
      have hn : ¬ (e.path ≠ [] ∧ e.path ∉ there) := fun hx => hx.1 hp
      rw [if_pos hi,if_pos (r2 hi),if_neg hn]
    · have hp : e.path ≠ [] := fun hp => hi (r1.1 hp)
      rw [if_neg hi]
      by_cases hk : (nodeG t.nodes e.node).kind = 1
      · rw [if_pos hk]
        by_cases hm : e.path ∈ there
        · have hn : ¬ (e.path ≠ [] ∧ e.path ∉ there) := fun hx => hx.2 hm
          have hx : (decide (e.path ∈ there) && decide ((nodeG t.nodes e.node).kind = 1)) = true := by simp [hm,hk]
          rw [if_neg hn,if_pos hx]
        · have hx : ¬ (decide (e.path ∈ there) && decide ((nodeG t.nodes e.node).kind = 1)) = true := by simp [hm]
          rw [if_pos ⟨hp,hm⟩,if_neg hx,if_pos hk]
      · have hx : ¬ (decide (e.path ∈ there) && decide ((nodeG t.nodes e.node).kind = 1)) = true := by simp [hk]
        rw [if_neg hk,if_neg hx,if_neg hk,f2]
        by_cases hf : firstI t.ents e.node = i
        · have h1 : ¬ leadP t.ents e.node ≠ e.path := fun hl => hl (f3.2 hf)
          have h2 : ¬ firstI t.ents e.node < i := by omega
          rw [if_neg h1,if_neg h2]
        · have h1 : leadP t.ents e.node ≠ e.path := fun hl => hf (f3.1 hl)
          have h2 : firstI t.ents e.node < i := by omega
          rw [if_pos h1,if_pos h2]
theorem late_eq {t : FTree} (h : mayT t = true) (i : Nat) : lateR t i = othS t i := by
  unfold lateR othS
  cases he : t.ents[i]? with
  | none => rfl
  | some e =>
    obtain ⟨f1,f2,f3⟩ := lead_first h he
    simp only
    by_cases hk : (nodeG t.nodes e.node).kind = 1
    · have h1 : ¬ ((nodeG t.nodes e.node).kind ≠ 1 ∧ firstI t.ents e.node = i) := fun hx => hx.1 hk
      rw [if_pos hk,if_neg h1]
    · rw [if_neg hk]
      by_cases hf : firstI t.ents e.node = i
      · have h1 : ¬ leadP t.ents e.node ≠ e.path := fun hl => hl (f3.2 hf)
        rw [if_neg h1,if_pos ⟨hk,hf⟩]
      · have h1 : leadP t.ents e.node ≠ e.path := fun hl => hf (f3.1 hl)
        have h2 : ¬ ((nodeG t.nodes e.node).kind ≠ 1 ∧ firstI t.ents e.node = i) := fun hx => hf hx.2
        rw [if_pos h1,if_neg h2]
theorem depth_le {p : List UInt8} : depthB p ≤ 8 := by
  unfold depthB
  split
  · rename_i hm
    unfold partsB
    split
    · simp
    · rename_i hn
      simp only [Bool.or_eq_true,Bool.not_eq_true',not_or,Bool.not_eq_true] at hn
      unfold mayB mayK at hm
      simp only [hn.1,Bool.false_or,Bool.and_eq_true,decide_eq_true_eq] at hm
      omega
  · omega
theorem plan_eq (t : FTree) (there : List (List UInt8)) : planR t there = planP t there := by
  unfold planR planP
  cases h : mayT t
  · rfl
  simp only [if_true]
  unfold planS
  rw [upTo_congr fun i _ => ent_eq h there i,upTo_congr fun i _ => late_eq h i]
  obtain ⟨g1,g2⟩ := fold_ge t.ents 0
  have gl := fold_le 8 t.ents 0 (by omega) fun e _ => depth_le
  have hD : deepR t t.ents.length = t.ents.foldl (fun d e => if d < depthB e.path then depthB e.path else d) 0 := by unfold deepR;rw [List.take_length]
  rw [← hD] at g1 g2 gl
  generalize deepR t t.ents.length = D at g1 g2 gl
  have hn : 9 = (8 - D).toNat + (D.toNat + 1) := by omega
  rw [hn,upTo_add (levS t),upTo_nil (f := levS t) fun k hk => ?_,List.nil_append]
  · have hc : upTo (levR t D) (D.toNat + 1) = upTo (fun k => levS t ((8 - D).toNat + k)) (D.toNat + 1) := ?_
    · rw [hc]
    refine upTo_congr fun k hk => ?_
    unfold levR levS
    have : D - (k : Int) = 8 - (((8 - D).toNat + k : Nat) : Int) := by omega
    rw [this]
  · unfold levS
    refine upTo_nil fun i hi => ?_
    unfold dirS
    rw [List.getElem?_eq_getElem hi]
    simp only
    rw [if_neg]
    rintro ⟨_,hd⟩
    have := g2 _ (List.getElem_mem hi)
    omega
end Go.Proofs.YtbffcndmcaeamaaGreatDoor.PlanSpec
end
section
set_option linter.unusedSimpArgs false
set_option linter.unusedVariables false
namespace Go.Proofs.YtbffcndmcaeamaaGreatDoor.PlanSpec
open AclSpec MetaSpec NodeSpec PathSpec TreeSpec

def usedAt (l : List TEnt) (i : Nat) : Nat := (l.take i).foldl nextU 0
theorem usedAt_succ {l : List TEnt} {i : Nat} {e : TEnt} (h : l[i]? = some e) : usedAt l (i + 1) = nextU (usedAt l i) e := by
  unfold usedAt
  obtain ⟨hi,rfl⟩ := List.getElem?_eq_some_iff.1 h
  rw [List.take_succ_eq_append_getElem hi,List.foldl_append];rfl
theorem ordG_at {ns : List FNode} : ∀ {l : List TEnt} {prev : Option (List UInt8)} {used : Nat},ordG ns prev used l = true →
    (l.foldl nextU used = ns.length ∧ ∀ (i : Nat) (e : TEnt),l[i]? = some e → 0 ≤ e.node ∧ e.node ≤ ((l.take i).foldl nextU used : Nat) ∧ e.node < ns.length ∧ (e.node < ((l.take i).foldl nextU used : Nat) → kindAt ns e.node ≠ 1) ∧ (e.node = ((l.take i).foldl nextU used : Nat) → mayAt ns ((l.take i).foldl nextU used : Nat) = true))
  | [],prev,used,h => by
    unfold ordG at h
    exact ⟨of_decide_eq_true h,fun i e he => by simp at he⟩
  | x :: r,prev,used,h => by
    unfold ordG at h
    rw [Bool.and_eq_true] at h
    obtain ⟨h1,h2⟩ := h
    obtain ⟨h3,h4⟩ := ordG_at h2
    refine ⟨h3,fun i e he => ?_⟩
    cases i with
    | zero =>
      simp only [List.getElem?_cons_zero,Option.some.injEq] at he
      subst he
      unfold entOk at h1
      simp only [Bool.and_eq_true,Bool.not_eq_true',Bool.or_eq_true,Bool.and_eq_false_iff,decide_eq_false_iff_not,decide_eq_true_eq] at h1
      obtain ⟨⟨⟨⟨⟨⟨_,_⟩,a⟩,b⟩,c⟩,d⟩,f⟩ := h1
      simp only [List.take_zero,List.foldl_nil]
      refine ⟨by omega,by omega,by omega,fun hl hk => ?_,fun hu => ?_⟩
      · rcases d with d | d
        · exact d hl
        · exact d hk
      · rcases f with f | f
        · exact absurd hu f
        · exact f
    | succ i =>
      have := h4 i e (by simpa using he)
      simpa only [List.take_succ_cons,List.foldl_cons] using this
structure Numbered (t : FTree) : Prop where
  last : usedAt t.ents t.ents.length = t.nodes.length
  at_ : ∀ (i : Nat) (e : TEnt),t.ents[i]? = some e → 0 ≤ e.node ∧ e.node ≤ (usedAt t.ents i : Nat) ∧ e.node < t.nodes.length ∧ (e.node < (usedAt t.ents i : Nat) → (nodeG t.nodes e.node).kind ≠ 1)
  may : ∀ n ∈ t.nodes,mayN n = true
theorem kindAt_G {ns : List FNode} {k : Int} (h0 : 0 ≤ k) (h : k < ns.length) : kindAt ns k = (nodeG ns k).kind := by
  unfold kindAt nodeG
  rw [List.getElem?_eq_getElem (by omega)];rfl
theorem first_used {t : FTree} (H : ∀ (i : Nat) (e : TEnt),t.ents[i]? = some e → 0 ≤ e.node ∧ e.node ≤ (usedAt t.ents i : Nat)) :
    ∀ i : Nat,i ≤ t.ents.length → ∀ k : Int,((∃ (j : Nat) (e : TEnt),j < i ∧ t.ents[j]? = some e ∧ e.node = k) ↔ 0 ≤ k ∧ k < (usedAt t.ents i : Nat))
  | 0,_,k => ⟨fun ⟨j,_,hj,_⟩ => by omega,fun h => by simp [usedAt] at h;omega⟩
  | i + 1,hi,k => by
    have ih := first_used H i (by omega) k
    have he := List.getElem?_eq_getElem (show i < t.ents.length by omega)
    generalize t.ents[i] = e at he
    rw [usedAt_succ he]
    have := H i e he
    unfold nextU
    constructor
    · rintro ⟨j,x,hj,hx,rfl⟩
      by_cases hji : j = i
      · subst hji
        rw [he] at hx
        cases hx
        split <;> omega
      · have := ih.1 ⟨j,x,by omega,hx,rfl⟩
        split <;> omega
    · rintro ⟨h0,hk⟩
      by_cases hc : k < (usedAt t.ents i : Nat)
      · obtain ⟨j,x,hj,hx,hn⟩ := ih.2 ⟨h0,hc⟩
        exact ⟨j,x,by omega,hx,hn⟩
      · split at hk
        · exact ⟨i,e,by omega,he,by omega⟩
        · exact absurd hk hc
theorem firstI_lt : ∀ {l : List TEnt} {k : Int} {i : Nat},i ≤ l.length → (firstI l k < i ↔ ∃ (j : Nat) (e : TEnt),j < i ∧ l[j]? = some e ∧ e.node = k)
  | [],k,i,hi => by
    simp only [List.length_nil] at hi
    exact ⟨fun h => by omega,fun ⟨j,_,hj,_⟩ => by omega⟩
  | x :: r,k,i,hi => by
    rw [firstI]
    by_cases hx : x.node = k
    · rw [if_pos hx]
      exact ⟨fun h => ⟨0,x,h,rfl,hx⟩,fun ⟨j,_,hj,_⟩ => by omega⟩
    · rw [if_neg hx]
      cases i with
      | zero => exact ⟨fun h => by omega,fun ⟨j,_,hj,_⟩ => by omega⟩
      | succ i =>
        have ih := firstI_lt (l := r) (k := k) (i := i) (by simpa using hi)
        constructor
        · intro h
          obtain ⟨j,e,hj,he,hn⟩ := ih.1 (by omega)
          exact ⟨j + 1,e,by omega,by simpa using he,hn⟩
        · rintro ⟨j,e,hj,he,hn⟩
          cases j with
          | zero =>
            simp only [List.getElem?_cons_zero,Option.some.injEq] at he
            subst he
            exact absurd hn hx
          | succ j =>
            have := ih.2 ⟨j,e,by omega,by simpa using he,hn⟩
            omega
theorem mayT_num {t : FTree} (h : mayT t = true) : Numbered t := by
  obtain ⟨h1,h2⟩ := ordG_at (mayT_ord h)
  have hl : usedAt t.ents t.ents.length = t.nodes.length := by unfold usedAt;rw [List.take_length];exact h1
  refine ⟨hl,fun i e he => ?_,fun n hn => ?_⟩
  · obtain ⟨a,b,c,d,_⟩ := h2 i e he
    exact ⟨a,b,c,fun hu => by rw [← kindAt_G a c];exact d hu⟩
  · obtain ⟨k,hk,rfl⟩ := List.mem_iff_getElem.1 hn
    have hf := (first_used (t := t) (fun i e he => ⟨(h2 i e he).1,(h2 i e he).2.1⟩) t.ents.length (by omega) k).2 ⟨by omega,by omega⟩
    have hlt := (firstI_lt (Nat.le_refl _)).2 hf
    have he := List.getElem?_eq_getElem hlt
    obtain ⟨x,g1,g2,_⟩ := firstI_get (l := t.ents) (k := (k : Int)) (by obtain ⟨j,e,_,q1,q2⟩ := hf;exact ⟨e,List.mem_of_getElem? q1,q2⟩)
    obtain ⟨a,b,c,d,f⟩ := h2 _ x g1
    have hu : x.node = (usedAt t.ents (firstI t.ents k) : Nat) := by
      have hn : ¬ ∃ (j : Nat) (e : TEnt),j < firstI t.ents k ∧ t.ents[j]? = some e ∧ e.node = (k : Int) := fun hx => by
        have := (firstI_lt (l := t.ents) (k := (k : Int)) (i := firstI t.ents k) (by omega)).2 hx
        omega
      have := mt (first_used (t := t) (fun i e he => ⟨(h2 i e he).1,(h2 i e he).2.1⟩) (firstI t.ents k) (by omega) (k : Int)).2 hn
      have hb : x.node ≤ (usedAt t.ents (firstI t.ents k) : Nat) := b
      omega
    have := f hu
    have hku : ((t.ents.take (firstI t.ents k)).foldl nextU 0) = k := by
      have : (usedAt t.ents (firstI t.ents k) : Int) = k := by rw [← hu,g2]
      unfold usedAt at this
      exact_mod_cast this
    rw [hku] at this
    unfold mayAt at this
    rw [show ((k : Int)).toNat = k by omega,List.getElem?_eq_getElem hk] at this
    exact this
theorem Numbered.first {t : FTree} (h : Numbered t) {i : Nat} {e : TEnt} (he : t.ents[i]? = some e) : firstI t.ents e.node = i ↔ e.node = (usedAt t.ents i : Nat) := by
  have hi : i < t.ents.length := (List.getElem?_eq_some_iff.1 he).1
  have h1 := firstI_lt (l := t.ents) (k := e.node) (i := i) (by omega)
  have h2 := first_used (t := t) (fun i e he => ⟨(h.at_ i e he).1,(h.at_ i e he).2.1⟩) i (by omega) e.node
  obtain ⟨a,b,_,_⟩ := h.at_ i e he
  have h4 : firstI t.ents e.node ≤ i := firstI_le he rfl
  rw [h2] at h1
  clear h2 h
  generalize firstI t.ents e.node = f at *
  generalize usedAt t.ents i = u at *
  generalize e.node = k at *
  omega
end Go.Proofs.YtbffcndmcaeamaaGreatDoor.PlanSpec
end
