import Derived.Test.YtnmjghcdccfphaaGreatDoorTNorm
section
set_option linter.unusedSimpArgs false
set_option linter.unusedVariables false
namespace Go.Proofs.YtnmjghcdccfphaaGreatDoor.TreeSpec
open AclSpec MetaSpec NodeSpec PathSpec

theorem join_up {a b s : List UInt8} (h : joinB a b = (s,0)) : mayB s = true ∧ s ≠ [] ∧ parentB s = (a,true) := by
 unfold joinB at h
 split at h
 ·exact absurd (congrArg Prod.snd h) (show ¬ (1 : Int) = 0 by decide)
 rename_i hc
 have hc2 : mayB a = true ∧ nameB b = true := by
  cases h1 : mayB a <;> cases h2 : nameB b <;> simp_all
 simp only at h
 have hb := nameB_parts hc2.2
 generalize hw : (if a.isEmpty = true then b else a ++ 47 :: b) = w at h
 have hm2 : mayB w = true := by
  cases hm : mayB w
  ·rw [hm] at h
   exact absurd (congrArg Prod.snd h) (show ¬ (2 : Int) = 0 by decide)
  ·rfl
 rw [hm2] at h
 have hws : w = s := congrArg Prod.fst h
 rw [hws] at hw hm2
 have hs := hw
 have hne : s ≠ [] := by
  intro c
  rw [c] at hs
  split at hs
  ·rw [hs] at hc2;exact absurd hc2.2 (by decide)
  ·simp at hs
 refine ⟨hm2,hne,?_⟩
 unfold parentB
 have he : s.isEmpty = false := by cases s <;> simp_all
 rw [he,hm2]
 show (par s,true) = (a,true)
 congr 1
 rw [← hs]
 cases ha : a.isEmpty
 ·simp only [Bool.false_eq_true,if_false]
  have hl : lst (a ++ 47 :: b) = b := by
   unfold lst
   rw [names_append,names_none hb.2.2];simp
  unfold par
  rw [hl]
  have : (a ++ 47 :: b).length - b.length - 1 = a.length := by simp;omega
  rw [this,List.take_left' rfl]
 ·simp only [if_true]
  have h0 : a = [] := by cases a <;> simp_all
  rw [h0]
  exact par_none hb.2.2

structure MakeSt where
 ents : List TEnt
 nodes : List FNode
 dirs : List (List UInt8)
 files : List Int
structure MakeInv (s : MakeSt) : Prop where
 may : ∀ e ∈ s.ents,mayB e.path = true
 dist : s.ents.Pairwise fun x y => x.path ≠ y.path
 range : ∀ e ∈ s.ents,0 ≤ e.node ∧ e.node < s.nodes.length
 nodes : ∀ n ∈ s.nodes,mayN n = true
 once : Once s.nodes s.ents
 root : ∃ e ∈ s.ents,e.path = [] ∧ (nodeG s.nodes e.node).kind = 1
 up : ∀ e ∈ s.ents,e.path ≠ [] → ∃ p ∈ s.ents,p.path = (parentB e.path).1 ∧ (nodeG s.nodes p.node).kind = 1
 dirs : ∀ p ∈ s.dirs,∃ e ∈ s.ents,e.path = p ∧ (nodeG s.nodes e.node).kind = 1
 files : ∀ i ∈ s.files,0 ≤ i ∧ i < s.nodes.length ∧ (nodeG s.nodes i).kind ≠ 1
theorem nodeG_old {ns : List FNode} {m : List FNode} {i : Int} (h0 : 0 ≤ i) (h : i < ns.length) : nodeG (ns ++ m) i = nodeG ns i := by
 unfold nodeG
 rw [List.getElem?_append_left (by omega)]
theorem nodeG_new {ns : List FNode} {n : FNode} : nodeG (ns ++ [n]) (ns.length : Int) = n := by
 unfold nodeG
 rw [Int.toNat_natCast];simp
theorem nodeG_mem {ns : List FNode} {i : Int} (h0 : 0 ≤ i) (h : i < ns.length) : nodeG ns i ∈ ns := by
 unfold nodeG
 have hl : i.toNat < ns.length := by omega
 rw [List.getElem?_eq_getElem hl]
 exact List.getElem_mem hl
theorem MakeInv.add {s : MakeSt} (h : MakeInv s) {a b p : List UInt8} {n : FNode} (ha : a ∈ s.dirs) (hj : joinB a b = (p,0)) (hn : ∀ e ∈ s.ents,¬ e.path = p) (hm : mayN n = true) {ds : List (List UInt8)} {fs : List Int} (hds : ∀ q ∈ ds,q = p ∧ n.kind = 1) (hfs : ∀ i ∈ fs,i = (s.nodes.length : Int) ∧ n.kind ≠ 1) :
  MakeInv ⟨s.ents ++ [⟨p,s.nodes.length⟩],s.nodes ++ [n],s.dirs ++ ds,s.files ++ fs⟩ := by
 obtain ⟨j1,j2,j3⟩ := join_up hj
 obtain ⟨d,hd,hdp,hdk⟩ := h.dirs a ha
 have old : ∀ e ∈ s.ents,nodeG (s.nodes ++ [n]) e.node = nodeG s.nodes e.node := fun e he => nodeG_old (h.range e he).1 (h.range e he).2
 have len : ((s.nodes ++ [n]).length : Int) = s.nodes.length + 1 := by simp
 refine ⟨fun e he => ?_,?_,fun e he => ?_,fun m hm2 => ?_,?_,?_,fun e he hne => ?_,fun q hq => ?_,fun i hi => ?_⟩
 ·rcases List.mem_append.1 he with he | he
  ·exact h.may e he
  ·rw [List.mem_singleton] at he;rw [he];exact j1
 ·refine List.pairwise_append.2 ⟨h.dist,List.pairwise_singleton _ _,fun x hx y hy => ?_⟩
  rw [List.mem_singleton] at hy;rw [hy];exact hn x hx
 ·show 0 ≤ e.node ∧ e.node < ((s.nodes ++ [n]).length : Int)
  rw [len]
  rcases List.mem_append.1 he with he | he
  ·have := h.range e he;omega
  ·rw [List.mem_singleton] at he;rw [he]
   show (0 : Int) ≤ s.nodes.length ∧ (s.nodes.length : Int) < s.nodes.length + 1
   omega
 ·rcases List.mem_append.1 hm2 with hm2 | hm2
  ·exact h.nodes m hm2
  ·rw [List.mem_singleton] at hm2;rw [hm2];exact hm
 ·refine List.pairwise_append.2 ⟨?_,List.pairwise_singleton _ _,fun x hx y hy he => ?_⟩
  ·refine h.once.imp_of_mem fun {x y} hx hy hxy he => ?_
   rw [old y hy];exact hxy he
  ·rw [List.mem_singleton] at hy
   rw [hy] at he
   have := h.range x hx
   have he2 : x.node.toNat = ((s.nodes.length : Int)).toNat := he
   omega
 ·obtain ⟨e,he,e1,e2⟩ := h.root
  exact ⟨e,List.mem_append_left _ he,e1,by rw [old e he];exact e2⟩
 ·rcases List.mem_append.1 he with he | he
  ·obtain ⟨q,hq,q1,q2⟩ := h.up e he hne
   exact ⟨q,List.mem_append_left _ hq,q1,by rw [old q hq];exact q2⟩
  ·rw [List.mem_singleton] at he
   rw [he,j3]
   exact ⟨d,List.mem_append_left _ hd,hdp,by rw [old d hd];exact hdk⟩
 ·rcases List.mem_append.1 hq with hq | hq
  ·obtain ⟨e,he,e1,e2⟩ := h.dirs q hq
   exact ⟨e,List.mem_append_left _ he,e1,by rw [old e he];exact e2⟩
  ·obtain ⟨q1,q2⟩ := hds q hq
   refine ⟨⟨p,s.nodes.length⟩,by simp,q1.symm,?_⟩
   show (nodeG (s.nodes ++ [n]) (s.nodes.length : Int)).kind = 1
   rw [nodeG_new];exact q2
 ·show 0 ≤ i ∧ i < ((s.nodes ++ [n]).length : Int) ∧ (nodeG (s.nodes ++ [n]) i).kind ≠ 1
  rw [len]
  rcases List.mem_append.1 hi with hi | hi
  ·obtain ⟨f1,f2,f3⟩ := h.files i hi
   exact ⟨f1,by omega,by rw [nodeG_old f1 f2];exact f3⟩
  ·obtain ⟨i1,i2⟩ := hfs i hi
   rw [i1,nodeG_new]
   exact ⟨by omega,by omega,i2⟩
theorem MakeInv.good {s : MakeSt} (h : MakeInv s) (hl : s.ents.length ≤ 100) : Good ⟨s.ents,s.nodes⟩ :=
 ⟨h.may,h.dist,h.range,fun e he => h.nodes _ (nodeG_mem (h.range e he).1 (h.range e he).2),h.once,h.root,h.up,hl⟩
end Go.Proofs.YtnmjghcdccfphaaGreatDoor.TreeSpec
end
section
set_option linter.unusedSimpArgs false
set_option linter.unusedVariables false
namespace Go.Proofs.YtnmjghcdccfphaaGreatDoor.TreeSpec
open AclSpec MetaSpec NodeSpec PathSpec

def decB (n : Nat) : List UInt8 := if n ≤ 9 then [48 + n.toUInt8] else decB (n / 10) ++ [48 + (n % 10).toUInt8]
termination_by n
end Go.Proofs.YtnmjghcdccfphaaGreatDoor.TreeSpec
end
