import Derived.Test.YtpficpldemickaaTEq
import Derived.Test.YtpficpldemickaaPlain
set_option linter.unusedSimpArgs false
set_option linter.unusedVariables false
namespace Go.Proofs.Ytpficpldemickaa.TreeSpec
open AclSpec MetaSpec NodeSpec PathSpec

theorem less_trans {a b c : List UInt8} (h : lessB a b = true) (k : lessB b c = true) : lessB a c = true := ll_trans h k
def Rise (l : List TEnt) : Prop := l.Pairwise (fun x y => lessB x.path y.path = true) ∧ ∀ e ∈ l,mayB e.path = true
theorem Rise.tail {x : TEnt} {l : List TEnt} (h : Rise (x :: l)) : Rise l := ⟨(List.pairwise_cons.1 h.1).2,fun e he => h.2 e (by simp [he])⟩
theorem ordG_rise {ns : List FNode} : ∀ {r : List TEnt} {p : List UInt8} {used : Nat},ordG ns (some p) used r = true → Rise r ∧ ∀ e ∈ r,lessB p e.path = true
  | [],_,_,_ => ⟨⟨List.Pairwise.nil,by simp⟩,by simp⟩
  | x :: r,p,used,h => by
    have h0 := h
    unfold ordG entOk at h
    simp only [Bool.and_eq_true] at h
    obtain ⟨⟨⟨⟨⟨⟨⟨a,b⟩,_⟩,_⟩,_⟩,_⟩,_⟩,h2⟩ := h
    obtain ⟨i1,i2⟩ := ordG_rise h2
    refine ⟨⟨List.pairwise_cons.2 ⟨i2,i1.1⟩,fun e he => ?_⟩,fun e he => ?_⟩
    · rcases List.mem_cons.1 he with rfl | he
      · exact a
      · exact i1.2 e he
    · rcases List.mem_cons.1 he with rfl | he
      · exact b
      · exact less_trans b (i2 e he)
structure Valid (t : FTree) : Prop where
  head : ∃ e r,t.ents = e :: r ∧ e.path = [] ∧ Rise (e :: r) ∧ ∀ x ∈ r,x.path ≠ []
  range : ∀ e ∈ t.ents,0 ≤ e.node ∧ e.node < t.nodes.length
theorem mayT_valid {t : FTree} (h : mayT t = true) : Valid t := by
  unfold mayT at h
  simp only [Bool.and_eq_true,decide_eq_true_eq] at h
  obtain ⟨⟨⟨⟨h1,h2⟩,h3⟩,h4⟩,h5⟩ := h
  have hr := ordG_range h3
  cases ht : t.ents with
  | nil => rw [ht] at h1;simp at h1
  | cons e r =>
    rw [ht] at h3
    unfold ordG entOk at h3
    simp only [Bool.and_eq_true,decide_eq_true_eq] at h3
    obtain ⟨⟨⟨⟨⟨⟨⟨a,b⟩,_⟩,_⟩,_⟩,_⟩,_⟩,h6⟩ := h3
    obtain ⟨i1,i2⟩ := ordG_rise h6
    refine ⟨⟨e,r,ht,b,⟨List.pairwise_cons.2 ⟨i2,i1.1⟩,fun x hx => ?_⟩,fun x hx => (ordG_paths h6 x hx).1⟩,hr⟩
    rcases List.mem_cons.1 hx with rfl | hx
    · exact a
    · exact i1.2 x hx

def pathsI : List TEnt → List TEnt → List UInt8
  | [],[] => []
  | [],b :: _ => b.path
  | a :: _,[] => a.path
  | a :: r,b :: s => if a.path = b.path then pathsI r s else if lessB a.path b.path then a.path else b.path
def lone : List TEnt → List TEnt → List UInt8
  | [],_ => []
  | e :: r,b => if (findT b e.path).2 then lone r b else e.path
def pathsA (a b : FTree) : List UInt8 := if mayT a && mayT b then pathsI a.ents b.ents else [63]
structure TPair where
  path : List UInt8
  a : Int
  b : Int
  deriving DecidableEq,Inhabited
def pair1 (b : List TEnt) (e : TEnt) : List TPair := if (findT b e.path).2 then [⟨e.path,e.node,(findT b e.path).1⟩] else []
def commonP (a b : List TEnt) : List TPair := a.flatMap (pair1 b)
def differ (p q : TPair) : Bool := decide (q.a = p.a) != decide (q.b = p.b)
def linksP (l : List TPair) : List TPair → List UInt8
  | [] => []
  | p :: r => if l.any (differ p) then p.path else linksP l r
def linksA (a b : FTree) : List UInt8 := if mayT a && mayT b then linksP (commonP a.ents b.ents) (commonP a.ents b.ents) else [63]
def nodeG (ns : List FNode) (i : Int) : FNode := (ns[i.toNat]?).getD default
def dotP (p : List UInt8) : List UInt8 := if p = [] then [46] else p
def nodesP (na nb : List FNode) : List TPair → List UInt8 × List UInt8
  | [] => ([],[])
  | p :: r => if diffN (nodeG na p.a) (nodeG nb p.b) = [] then nodesP na nb r else (dotP p.path,diffN (nodeG na p.a) (nodeG nb p.b))
def nodesA (a b : FTree) : List UInt8 × List UInt8 := if mayT a && mayT b then nodesP a.nodes b.nodes (commonP a.ents b.ents) else ([63],[])
def sameA (a b : FTree) : Bool := mayT a && mayT b && decide (pathsA a b = []) && decide (linksA a b = []) && decide ((nodesA a b).1 = [])
def withinA (a b : FTree) : Bool := mayT a && mayT b && decide ((commonP a.ents b.ents).length = a.ents.length)
theorem common_cons (b : List TEnt) (e : TEnt) (r : List TEnt) : commonP (e :: r) b = pair1 b e ++ commonP r b := by unfold commonP;rw [List.flatMap_cons]
theorem common_len (b : List TEnt) : ∀ a : List TEnt,(commonP a b).length ≤ a.length
  | [] => by simp [commonP]
  | e :: r => by
    have ih := common_len b r
    rw [common_cons,List.length_append,List.length_cons]
    unfold pair1
    split <;> simp <;> omega
end Go.Proofs.Ytpficpldemickaa.TreeSpec
