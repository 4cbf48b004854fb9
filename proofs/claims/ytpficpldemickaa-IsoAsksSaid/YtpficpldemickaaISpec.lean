import Derived.Test.YtpficpldemickaaTEq
import Derived.Test.YtpficpldemickaaPlain
set_option linter.unusedSimpArgs false
set_option linter.unusedVariables false
namespace Go.Proofs.Ytpficpldemickaa.TreeSpec
open AclSpec MetaSpec NodeSpec PathSpec

theorem join_names (l : List UInt8) : joinN (names l) = l := by
  induction hn : l.length using Nat.strongRecOn generalizing l with
  | _ n ih =>
    cases h : has l
    · rw [names_none h];rfl
    · have ht := tl_lt h
      rw [names_has h,joinN_cons (names_ne _),ih (tl l).length (by omega) (tl l) rfl]
      exact (cut_has h).symm
theorem parts_inj {a b : List UInt8} (ha : mayB a = true) (hb : mayB b = true) (h : partsB a = partsB b) : a = b := by
  unfold partsB at h
  rw [ha,hb] at h
  cases ea : a.isEmpty <;> cases eb : b.isEmpty <;> simp only [ea,eb,Bool.not_true,Bool.or_false,if_true,if_false,Bool.false_eq_true] at h
  · have := congrArg joinN h
    rwa [join_names,join_names] at this
  · exact absurd h (names_ne _)
  · exact absurd h.symm (names_ne _)
  · cases a <;> cases b <;> simp_all
theorem less_irr (a : List UInt8) : lessB a a = false := ll_irr _
theorem less_trans {a b c : List UInt8} (h : lessB a b = true) (k : lessB b c = true) : lessB a c = true := ll_trans h k
theorem less_asym {a b : List UInt8} (h : lessB a b = true) : lessB b a = false := ll_asym h
theorem less_tri {a b : List UInt8} (ha : mayB a = true) (hb : mayB b = true) : lessB a b = true ∨ a = b ∨ lessB b a = true := by
  rcases ll_tri (partsB a) (partsB b) with h | h | h
  · exact .inl h
  · exact .inr (.inl (parts_inj ha hb h))
  · exact .inr (.inr h)
def Rise (l : List TEnt) : Prop := l.Pairwise (fun x y => lessB x.path y.path = true) ∧ ∀ e ∈ l,mayB e.path = true
theorem Rise.tail {x : TEnt} {l : List TEnt} (h : Rise (x :: l)) : Rise l := ⟨(List.pairwise_cons.1 h.1).2,fun e he => h.2 e (by simp [he])⟩
theorem ordG_rise {ns : List FNode} : ∀ {r : List TEnt} {p : List UInt8} {used : Nat},ordG ns (some p) used r = true → Rise r ∧ ∀ e ∈ r,lessB p e.path = true
  | [],_,_,_ => ⟨⟨List.Pairwise.nil,by simp⟩,by simp⟩
  | x :: r,p,used,h => by
    have h0 := h
    unfold ordG entOk at h
    simp only [Bool.and_eq_true] at h
    obtain ⟨⟨⟨⟨⟨⟨⟨a,b⟩,_⟩,_⟩,_⟩,_⟩,_⟩,h2⟩ := h
    obtain ⟨i1,i2⟩ := ordG_rise h2
    refine ⟨⟨List.pairwise_cons.2 ⟨i2,i1.1⟩,fun e he => ?_⟩,fun e he => ?_⟩
    · rcases List.mem_cons.1 he with rfl | he
      · exact a
      · exact i1.2 e he
    · rcases List.mem_cons.1 he with rfl | he
      · exact b
      · exact less_trans b (i2 e he)
structure Valid (t : FTree) : Prop where
  head : ∃ e r,t.ents = e :: r ∧ e.path = [] ∧ Rise (e :: r) ∧ ∀ x ∈ r,x.path ≠ []
  range : ∀ e ∈ t.ents,0 ≤ e.node ∧ e.node < t.nodes.length
theorem mayT_valid {t : FTree} (h : mayT t = true) : Valid t := by
  unfold mayT at h
  simp only [Bool.and_eq_true,decide_eq_true_eq] at h
  obtain ⟨⟨⟨⟨h1,h2⟩,h3⟩,h4⟩,h5⟩ := h
  have hr := ordG_range h3
  cases ht : t.ents with
  | nil => rw [ht] at h1;simp at h1
  | cons e r =>
    rw [ht] at h3
    unfold ordG entOk at h3
    simp only [Bool.and_eq_true,decide_eq_true_eq] at h3
    obtain ⟨⟨⟨⟨⟨⟨⟨a,b⟩,_⟩,_⟩,_⟩,_⟩,_⟩,h6⟩ := h3
    obtain ⟨i1,i2⟩ := ordG_rise h6
    refine ⟨⟨e,r,ht,b,⟨List.pairwise_cons.2 ⟨i2,i1.1⟩,fun x hx => ?_⟩,fun x hx => (ordG_paths h6 x hx).1⟩,hr⟩
    rcases List.mem_cons.1 hx with rfl | hx
    · exact a
    · exact i1.2 x hx

def pathsI : List TEnt → List TEnt → List UInt8
  | [],[] => []
  | [],b :: _ => b.path
  | a :: _,[] => a.path
  | a :: r,b :: s => if a.path = b.path then pathsI r s else if lessB a.path b.path then a.path else b.path
def lone : List TEnt → List TEnt → List UInt8
  | [],_ => []
  | e :: r,b => if (findT b e.path).2 then lone r b else e.path
def mergeL (x y : List UInt8) : List UInt8 := if x = [] then y else if y = [] ∨ lessB x y = true then x else y
theorem findT_skip {x : TEnt} {l : List TEnt} {p : List UInt8} (h : ¬ x.path = p) : findT (x :: l) p = findT l p := by rw [findT,if_neg h]
theorem less_ne {a b : List UInt8} (h : lessB a b = true) : ¬ a = b := by rintro rfl;rw [less_irr] at h;cases h
theorem lone_skip {x : TEnt} {s : List TEnt} : ∀ {r : List TEnt},(∀ e ∈ r,¬ x.path = e.path) → lone r (x :: s) = lone r s
  | [],_ => rfl
  | e :: r,h => by
    unfold lone
    rw [findT_skip (h e (by simp)),lone_skip (r := r) fun y hy => h y (by simp [hy])]
theorem lone_mem {b : List TEnt} : ∀ {l : List TEnt},lone l b = [] ∨ ∃ e ∈ l,lone l b = e.path
  | [] => .inl rfl
  | e :: r => by
    unfold lone
    split
    · rcases lone_mem (b := b) (l := r) with h | ⟨x,hx,h⟩
      · exact .inl h
      · exact .inr ⟨x,by simp [hx],h⟩
    · exact .inr ⟨e,by simp,rfl⟩
theorem lone_first {x : TEnt} {r b : List TEnt} (h : ∀ y ∈ b,¬ y.path = x.path) : lone (x :: r) b = x.path := by
  unfold lone
  rw [findT_none h];rfl
theorem paths_eq : ∀ {a b : List TEnt},Rise a → Rise b → (∀ e ∈ a,e.path ≠ []) → (∀ e ∈ b,e.path ≠ []) → pathsI a b = mergeL (lone a b) (lone b a)
  | [],[],_,_,_,_ => rfl
  | [],b :: s,_,_,_,_ => by
    rw [lone_first (x := b) (r := s) (b := []) (fun y hy => by cases hy)]
    rfl
  | a :: r,[],_,_,ha,_ => by
    rw [lone_first (x := a) (r := r) (b := []) (fun y hy => by cases hy)]
    unfold pathsI mergeL
    rw [if_neg (ha a (by simp)),if_pos (.inl rfl)]
  | a :: r,b :: s,hA,hB,ha,hb => by
    have ra := (List.pairwise_cons.1 hA.1).1
    have rb := (List.pairwise_cons.1 hB.1).1
    unfold pathsI
    by_cases he : a.path = b.path
    · rw [if_pos he]
      have e1 : lone (a :: r) (b :: s) = lone r s := by
        rw [lone,findT,if_pos he.symm]
        exact lone_skip fun e hx => by rw [← he];exact less_ne (ra e hx)
      have e2 : lone (b :: s) (a :: r) = lone s r := by
        rw [lone,findT,if_pos he]
        exact lone_skip fun e hx => by rw [he];exact less_ne (rb e hx)
      rw [e1,e2]
      exact paths_eq hA.tail hB.tail (fun e hx => ha e (by simp [hx])) (fun e hx => hb e (by simp [hx]))
    · rw [if_neg he]
      have hae := ha a (by simp)
      have hbe := hb b (by simp)
      rcases less_tri (hA.2 a (by simp)) (hB.2 b (by simp)) with hl | hl | hl
      · rw [if_pos hl]
        have hlt : ∀ y ∈ b :: s,lessB a.path y.path = true := fun y hy => by
          rcases List.mem_cons.1 hy with rfl | hy
          · exact hl
          · exact less_trans hl (rb y hy)
        rw [lone_first fun y hy => fun e => less_ne (hlt y hy) e.symm]
        unfold mergeL
        rw [if_neg hae,if_pos]
        rcases lone_mem (b := a :: r) (l := b :: s) with h | ⟨e,hx,h⟩
        · exact .inl h
        · right;rw [h];exact hlt e hx
      · exact absurd hl he
      · rw [if_neg (by rw [less_asym hl];exact Bool.false_ne_true)]
        have hlt : ∀ y ∈ a :: r,lessB b.path y.path = true := fun y hy => by
          rcases List.mem_cons.1 hy with rfl | hy
          · exact hl
          · exact less_trans hl (ra y hy)
        rw [lone_first (x := b) fun y hy => fun e => less_ne (hlt y hy) e.symm]
        unfold mergeL
        rcases lone_mem (b := b :: s) (l := a :: r) with h | ⟨e,hx,h⟩
        · rw [if_pos h]
        · rw [h,if_neg (by
            rcases List.mem_cons.1 hx with rfl | hx2
            · exact hae
            · exact ha e hx),if_neg]
          rintro (c | c)
          · exact hbe c
          · rw [less_asym (hlt e hx)] at c;cases c
def pathsA (a b : FTree) : List UInt8 := if mayT a && mayT b then pathsI a.ents b.ents else [63]
def pathsB (a b : FTree) : List UInt8 := if mayT a && mayT b then mergeL (lone a.ents b.ents) (lone b.ents a.ents) else [63]
theorem pathsAB (a b : FTree) : pathsB a b = pathsA a b := by
  unfold pathsA pathsB
  cases h : mayT a && mayT b
  · rfl
  · rw [Bool.and_eq_true] at h
    rw [if_pos rfl,if_pos rfl]
    obtain ⟨x,r,h1,h2,h3,h4⟩ := (mayT_valid h.1).head
    obtain ⟨y,s,k1,k2,k3,k4⟩ := (mayT_valid h.2).head
    rw [h1,k1]
    have e0 : x.path = y.path := by rw [h2,k2]
    have e1 : lone (x :: r) (y :: s) = lone r s := by
      rw [lone,findT,if_pos e0.symm]
      exact lone_skip fun e hx => by rw [k2];exact fun c => h4 e hx c.symm
    have e2 : lone (y :: s) (x :: r) = lone s r := by
      rw [lone,findT,if_pos e0]
      exact lone_skip fun e hx => by rw [h2];exact fun c => k4 e hx c.symm
    rw [e1,e2,pathsI,if_pos e0,paths_eq h3.tail k3.tail h4 k4]

structure TPair where
  path : List UInt8
  a : Int
  b : Int
  deriving DecidableEq,Inhabited
def pair1 (b : List TEnt) (e : TEnt) : List TPair := if (findT b e.path).2 then [⟨e.path,e.node,(findT b e.path).1⟩] else []
def commonP (a b : List TEnt) : List TPair := a.flatMap (pair1 b)
def differ (p q : TPair) : Bool := decide (q.a = p.a) != decide (q.b = p.b)
def linksP (l : List TPair) : List TPair → List UInt8
  | [] => []
  | p :: r => if l.any (differ p) then p.path else linksP l r
def linksA (a b : FTree) : List UInt8 := if mayT a && mayT b then linksP (commonP a.ents b.ents) (commonP a.ents b.ents) else [63]
def differE (b : List TEnt) (e x : TEnt) : Bool := (findT b x.path).2 && (decide (x.node = e.node) != decide ((findT b e.path).1 = (findT b x.path).1))
def linksE (a b : List TEnt) : List TEnt → List UInt8
  | [] => []
  | e :: r => if (findT b e.path).2 && a.any (differE b e) then e.path else linksE a b r
def linksB (a b : FTree) : List UInt8 := if mayT a && mayT b then linksE a.ents b.ents a.ents else [63]
theorem any_common (b : List TEnt) (p : TPair) : ∀ a : List TEnt,(commonP a b).any (differ p) = a.any fun x => (findT b x.path).2 && (decide (x.node = p.a) != decide ((findT b x.path).1 = p.b))
  | [] => rfl
  | x :: a => by
    unfold commonP at *
    rw [List.flatMap_cons,List.any_append,List.any_cons]
    have ih := any_common b p a
    unfold commonP at ih
    rw [ih]
    congr 1
    unfold pair1
    cases (findT b x.path).2
    · rfl
    · simp [differ]
theorem links_eq (a b : List TEnt) : ∀ r : List TEnt,linksP (commonP a b) (commonP r b) = linksE a b r
  | [] => rfl
  | e :: r => by
    have ih := links_eq a b r
    unfold commonP at *
    rw [List.flatMap_cons]
    unfold linksE
    rw [← ih]
    unfold pair1
    cases hf : (findT b e.path).2
    · simp
    · simp only [if_true,Bool.true_and,List.singleton_append]
      rw [linksP]
      have := any_common b ⟨e.path,e.node,(findT b e.path).1⟩ a
      unfold commonP pair1 at this
      rw [this]
      have e2 : (a.any fun x => (findT b x.path).2 && (decide (x.node = e.node) != decide ((findT b x.path).1 = (findT b e.path).1))) = a.any (differE b e) := by
        congr 1
        funext x
        unfold differE
        congr 2
        exact decide_eq_decide.2 eq_comm
      simp only [] at e2 ⊢
      rw [e2]
theorem linksAB (a b : FTree) : linksB a b = linksA a b := by
  unfold linksA linksB
  rw [links_eq]

def nodeG (ns : List FNode) (i : Int) : FNode := (ns[i.toNat]?).getD default
def dotP (p : List UInt8) : List UInt8 := if p = [] then [46] else p
def nodesP (na nb : List FNode) : List TPair → List UInt8 × List UInt8
  | [] => ([],[])
  | p :: r => if diffN (nodeG na p.a) (nodeG nb p.b) = [] then nodesP na nb r else (dotP p.path,diffN (nodeG na p.a) (nodeG nb p.b))
def nodesA (a b : FTree) : List UInt8 × List UInt8 := if mayT a && mayT b then nodesP a.nodes b.nodes (commonP a.ents b.ents) else ([63],[])
def nodesE (na nb : List FNode) (b : List TEnt) : List TEnt → List UInt8 × List UInt8
  | [] => ([],[])
  | e :: r => if (findT b e.path).2 then (if diffN (nodeG na e.node) (nodeG nb (findT b e.path).1) = [] then nodesE na nb b r else (dotP e.path,diffN (nodeG na e.node) (nodeG nb (findT b e.path).1))) else nodesE na nb b r
def nodesB (a b : FTree) : List UInt8 × List UInt8 := if mayT a && mayT b then nodesE a.nodes b.nodes b.ents a.ents else ([63],[])
theorem nodes_eq (na nb : List FNode) (b : List TEnt) : ∀ r : List TEnt,nodesP na nb (commonP r b) = nodesE na nb b r
  | [] => rfl
  | e :: r => by
    have ih := nodes_eq na nb b r
    unfold commonP at *
    rw [List.flatMap_cons]
    unfold nodesE
    rw [← ih]
    unfold pair1
    cases hf : (findT b e.path).2
    · simp
    · simp only [if_true,List.singleton_append]
      rw [nodesP]
theorem nodesAB (a b : FTree) : nodesB a b = nodesA a b := by
  unfold nodesA nodesB
  rw [nodes_eq]

def sameA (a b : FTree) : Bool := mayT a && mayT b && decide (pathsA a b = []) && decide (linksA a b = []) && decide ((nodesA a b).1 = [])
def withinA (a b : FTree) : Bool := mayT a && mayT b && decide ((commonP a.ents b.ents).length = a.ents.length)
def sameB (a b : FTree) : Bool := decide (pathsB a b = []) && decide (linksB a b = []) && decide ((nodesB a b).1 = [])
def withinB (a b : FTree) : Bool := mayT a && mayT b && decide (lone a.ents b.ents = [])
theorem sameAB (a b : FTree) : sameB a b = sameA a b := by
  unfold sameA sameB
  rw [pathsAB,linksAB,nodesAB]
  cases h : mayT a && mayT b
  · unfold pathsA;rw [h];rfl
  · simp
theorem common_cons (b : List TEnt) (e : TEnt) (r : List TEnt) : commonP (e :: r) b = pair1 b e ++ commonP r b := by unfold commonP;rw [List.flatMap_cons]
theorem common_len (b : List TEnt) : ∀ a : List TEnt,(commonP a b).length ≤ a.length
  | [] => by simp [commonP]
  | e :: r => by
    have ih := common_len b r
    rw [common_cons,List.length_append,List.length_cons]
    unfold pair1
    split <;> simp <;> omega
theorem common_full (b : List TEnt) : ∀ a : List TEnt,(∀ e ∈ a,e.path ≠ [] ∨ (findT b e.path).2 = true) → ((commonP a b).length = a.length ↔ lone a b = [])
  | [],_ => by simp [commonP,lone]
  | e :: r,h => by
    have ih := common_full b r fun x hx => h x (by simp [hx])
    have hle := common_len b r
    rw [common_cons,List.length_append,List.length_cons]
    unfold lone pair1
    cases hf : (findT b e.path).2
    · simp only [Bool.false_eq_true,if_false,List.length_nil,Nat.zero_add]
      constructor
      · intro c;omega
      · intro c
        rcases h e (by simp) with d | d
        · exact absurd c d
        · rw [hf] at d;cases d
    · simp only [if_true,List.length_cons,List.length_nil,Nat.zero_add]
      rw [← ih];omega
theorem withinAB (a b : FTree) : withinB a b = withinA a b := by
  unfold withinA withinB
  cases h : mayT a && mayT b
  · rfl
  · rw [Bool.and_eq_true] at h
    rw [Bool.true_and,Bool.true_and,decide_eq_decide]
    obtain ⟨x,r,h1,h2,h3,h4⟩ := (mayT_valid h.1).head
    obtain ⟨y,s,k1,k2,k3,k4⟩ := (mayT_valid h.2).head
    refine (common_full b.ents a.ents fun e he => ?_).symm
    rw [h1] at he
    rcases List.mem_cons.1 he with rfl | he
    · right
      rw [k1,findT,if_pos (by rw [h2,k2])]
    · exact .inl (h4 e he)
end Go.Proofs.Ytpficpldemickaa.TreeSpec
