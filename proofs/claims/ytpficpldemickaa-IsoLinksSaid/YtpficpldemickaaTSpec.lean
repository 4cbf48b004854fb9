import Derived.Test.YtpficpldemickaaNRead
import Derived.Test.YtpficpldemickaaSpec
set_option linter.unusedSimpArgs false
set_option linter.unusedVariables false
namespace Go.Proofs.Ytpficpldemickaa.TreeSpec
open AclSpec MetaSpec NodeSpec PathSpec

structure TEnt where
  path : List UInt8
  node : Int
  deriving DecidableEq,Inhabited
structure FTree where
  ents : List TEnt
  nodes : List FNode
  deriving DecidableEq,Inhabited
def kindAt (ns : List FNode) (i : Int) : Int := (ns[i.toNat]?.map (·.kind)).getD 0
def mayAt (ns : List FNode) (i : Int) : Bool := (ns[i.toNat]?.map mayN).getD false
def findT : List TEnt → List UInt8 → Int × Bool
  | [],_ => (0,false)
  | e :: r,p => if e.path = p then (e.node,true) else findT r p
theorem findT_hit {l : List TEnt} {i : Nat} {e : TEnt} {p : List UInt8} (h : l[i]? = some e) (hp : e.path = p) : findT (l.drop i) p = (e.node,true) := by
  obtain ⟨hi,rfl⟩ := List.getElem?_eq_some_iff.1 h
  rw [List.drop_eq_getElem_cons hi,findT,if_pos hp]
theorem findT_miss {l : List TEnt} {i : Nat} {e : TEnt} {p : List UInt8} (h : l[i]? = some e) (hp : ¬ e.path = p) : findT (l.drop i) p = findT (l.drop (i + 1)) p := by
  obtain ⟨hi,rfl⟩ := List.getElem?_eq_some_iff.1 h
  rw [List.drop_eq_getElem_cons hi,findT,if_neg hp]
theorem findT_mem : ∀ {l : List TEnt} {p : List UInt8},(findT l p).2 = true → ∃ e ∈ l,e.path = p ∧ e.node = (findT l p).1
  | [],p,h => by simp [findT] at h
  | e :: r,p,h => by
    unfold findT at h ⊢
    split
    · rename_i hp;exact ⟨e,by simp,hp,rfl⟩
    · rename_i hp
      rw [if_neg hp] at h
      obtain ⟨x,hx,h1,h2⟩ := findT_mem h
      exact ⟨x,by simp [hx],h1,h2⟩
def entOk (ns : List FNode) (used : Nat) (prev : Option (List UInt8)) (e : TEnt) : Bool :=
  mayB e.path && (match prev with | none => decide (e.path = []) | some p => lessB p e.path) && !decide (e.node < 0) && !decide ((used : Int) < e.node) && !decide ((ns.length : Int) ≤ e.node) &&
  !(decide (e.node < used) && decide (kindAt ns e.node = 1)) && (!decide (e.node = used) || mayAt ns used)
def nextU (used : Nat) (e : TEnt) : Nat := if e.node = used then used + 1 else used
def ordG (ns : List FNode) : Option (List UInt8) → Nat → List TEnt → Bool
  | _,used,[] => decide (used = ns.length)
  | prev,used,e :: r => entOk ns used prev e && ordG ns (some e.path) (nextU used e) r
def upOk (t : FTree) (e : TEnt) : Bool := (findT t.ents (parentB e.path).1).2 && decide (kindAt t.nodes (findT t.ents (parentB e.path).1).1 = 1)
def headKind (t : FTree) : Bool := match t.ents with | [] => false | e :: _ => decide (kindAt t.nodes e.node = 1)
def mayT (t : FTree) : Bool := decide (1 ≤ t.ents.length) && decide (t.ents.length ≤ 100) && ordG t.nodes none 0 t.ents && headKind t && (t.ents.drop 1).all (upOk t)
theorem ordG_cons (ns : List FNode) {prev : Option (List UInt8)} {used : Nat} {l : List TEnt} {i : Nat} {e : TEnt} (h : l[i]? = some e) : ordG ns prev used (l.drop i) = (entOk ns used prev e && ordG ns (some e.path) (nextU used e) (l.drop (i + 1))) := by
  obtain ⟨hi,rfl⟩ := List.getElem?_eq_some_iff.1 h
  rw [List.drop_eq_getElem_cons hi,ordG]

end Go.Proofs.Ytpficpldemickaa.TreeSpec
