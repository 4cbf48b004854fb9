import Derived.Test.YteamlijbkldlhaaGreatDoorTNorm
import Derived.Test.YteamlijbkldlhaaGreatDoorNKeep
section
set_option linter.unusedSimpArgs false
set_option linter.unusedVariables false
namespace Go.Proofs.YteamlijbkldlhaaGreatDoor.TreeSpec
open AclSpec MetaSpec NodeSpec PathSpec

theorem join_up {a b s : List UInt8} (h : joinB a b = (s,0)) : mayB s = true ∧ s ≠ [] ∧ parentB s = (a,true) := by
 unfold joinB at h
 split at h
 ·exact absurd (congrArg Prod.snd h) (show ¬ (1 : Int) = 0 by decide)
 rename_i hc
 have hc2 : mayB a = true ∧ nameB b = true := by
  cases h1 : mayB a <;> cases h2 : nameB b <;> simp_all
 simp only at h
 have hb := nameB_parts hc2.2
 generalize hw : (if a.isEmpty = true then b else a ++ 47 :: b) = w at h
 have hm2 : mayB w = true := by
  cases hm : mayB w
  ·rw [hm] at h
   exact absurd (congrArg Prod.snd h) (show ¬ (2 : Int) = 0 by decide)
  ·rfl
 rw [hm2] at h
 have hws : w = s := congrArg Prod.fst h
 rw [hws] at hw hm2
 have hs := hw
 have hne : s ≠ [] := by
  intro c
  rw [c] at hs
  split at hs
  ·rw [hs] at hc2;exact absurd hc2.2 (by decide)
  ·simp at hs
 refine ⟨hm2,hne,?_⟩
 unfold parentB
 have he : s.isEmpty = false := by cases s <;> simp_all
 rw [he,hm2]
 show (par s,true) = (a,true)
 congr 1
 rw [← hs]
 cases ha : a.isEmpty
 ·simp only [Bool.false_eq_true,if_false]
  have hl : lst (a ++ 47 :: b) = b := by
   unfold lst
   rw [names_append,names_none hb.2.2];simp
  unfold par
  rw [hl]
  have : (a ++ 47 :: b).length - b.length - 1 = a.length := by simp;omega
  rw [this,List.take_left' rfl]
 ·simp only [if_true]
  have h0 : a = [] := by cases a <;> simp_all
  rw [h0]
  exact par_none hb.2.2

structure MakeSt where
 ents : List TEnt
 nodes : List FNode
 dirs : List (List UInt8)
 files : List Int
structure MakeInv (s : MakeSt) : Prop where
 may : ∀ e ∈ s.ents,mayB e.path = true
 dist : s.ents.Pairwise fun x y => x.path ≠ y.path
 range : ∀ e ∈ s.ents,0 ≤ e.node ∧ e.node < s.nodes.length
 nodes : ∀ n ∈ s.nodes,mayN n = true
 once : Once s.nodes s.ents
 root : ∃ e ∈ s.ents,e.path = [] ∧ (nodeG s.nodes e.node).kind = 1
 up : ∀ e ∈ s.ents,e.path ≠ [] → ∃ p ∈ s.ents,p.path = (parentB e.path).1 ∧ (nodeG s.nodes p.node).kind = 1
 dirs : ∀ p ∈ s.dirs,∃ e ∈ s.ents,e.path = p ∧ (nodeG s.nodes e.node).kind = 1
 files : ∀ i ∈ s.files,0 ≤ i ∧ i < s.nodes.length ∧ (nodeG s.nodes i).kind ≠ 1
theorem nodeG_old {ns : List FNode} {m : List FNode} {i : Int} (h0 : 0 ≤ i) (h : i < ns.length) : nodeG (ns ++ m) i = nodeG ns i := by
 unfold nodeG
 rw [List.getElem?_append_left (by omega)]
theorem nodeG_new {ns : List FNode} {n : FNode} : nodeG (ns ++ [n]) (ns.length : Int) = n := by
 unfold nodeG
 rw [Int.toNat_natCast];simp
theorem nodeG_mem {ns : List FNode} {i : Int} (h0 : 0 ≤ i) (h : i < ns.length) : nodeG ns i ∈ ns := by
 unfold nodeG
 have hl : i.toNat < ns.length := by omega
 rw [List.getElem?_eq_getElem hl]
 exact List.getElem_mem hl
theorem MakeInv.link {s : MakeSt} (h : MakeInv s) {a b p : List UInt8} {i : Int} (ha : a ∈ s.dirs) (hj : joinB a b = (p,0)) (hn : ∀ e ∈ s.ents,¬ e.path = p) (hi : i ∈ s.files) : MakeInv { s with ents := s.ents ++ [⟨p,i⟩] } := by
 obtain ⟨j1,j2,j3⟩ := join_up hj
 obtain ⟨f1,f2,f3⟩ := h.files i hi
 obtain ⟨d,hd,hdp,hdk⟩ := h.dirs a ha
 refine ⟨fun e he => ?_,?_,fun e he => ?_,h.nodes,?_,?_,fun e he hne => ?_,fun q hq => ?_,h.files⟩
 ·rcases List.mem_append.1 he with he | he
  ·exact h.may e he
  ·rw [List.mem_singleton] at he;rw [he];exact j1
 ·refine List.pairwise_append.2 ⟨h.dist,List.pairwise_singleton _ _,fun x hx y hy => ?_⟩
  rw [List.mem_singleton] at hy;rw [hy];exact hn x hx
 ·rcases List.mem_append.1 he with he | he
  ·exact h.range e he
  ·rw [List.mem_singleton] at he;rw [he];exact ⟨f1,f2⟩
 ·refine List.pairwise_append.2 ⟨h.once,List.pairwise_singleton _ _,fun x hx y hy _ => ?_⟩
  rw [List.mem_singleton] at hy;rw [hy];exact f3
 ·obtain ⟨e,he,e1,e2⟩ := h.root
  exact ⟨e,List.mem_append_left _ he,e1,e2⟩
 ·rcases List.mem_append.1 he with he | he
  ·obtain ⟨q,hq,q1,q2⟩ := h.up e he hne
   exact ⟨q,List.mem_append_left _ hq,q1,q2⟩
  ·rw [List.mem_singleton] at he
   rw [he,j3]
   exact ⟨d,List.mem_append_left _ hd,hdp,hdk⟩
 ·obtain ⟨e,he,e1,e2⟩ := h.dirs q hq
  exact ⟨e,List.mem_append_left _ he,e1,e2⟩
theorem MakeInv.add {s : MakeSt} (h : MakeInv s) {a b p : List UInt8} {n : FNode} (ha : a ∈ s.dirs) (hj : joinB a b = (p,0)) (hn : ∀ e ∈ s.ents,¬ e.path = p) (hm : mayN n = true) {ds : List (List UInt8)} {fs : List Int} (hds : ∀ q ∈ ds,q = p ∧ n.kind = 1) (hfs : ∀ i ∈ fs,i = (s.nodes.length : Int) ∧ n.kind ≠ 1) :
  MakeInv ⟨s.ents ++ [⟨p,s.nodes.length⟩],s.nodes ++ [n],s.dirs ++ ds,s.files ++ fs⟩ := by
 obtain ⟨j1,j2,j3⟩ := join_up hj
 obtain ⟨d,hd,hdp,hdk⟩ := h.dirs a ha
 have old : ∀ e ∈ s.ents,nodeG (s.nodes ++ [n]) e.node = nodeG s.nodes e.node := fun e he => nodeG_old (h.range e he).1 (h.range e he).2
 have len : ((s.nodes ++ [n]).length : Int) = s.nodes.length + 1 := by simp
 refine ⟨fun e he => ?_,?_,fun e he => ?_,fun m hm2 => ?_,?_,?_,fun e he hne => ?_,fun q hq => ?_,fun i hi => ?_⟩
 ·rcases List.mem_append.1 he with he | he
  ·exact h.may e he
  ·rw [List.mem_singleton] at he;rw [he];exact j1
 ·refine List.pairwise_append.2 ⟨h.dist,List.pairwise_singleton _ _,fun x hx y hy => ?_⟩
  rw [List.mem_singleton] at hy;rw [hy];exact hn x hx
 ·show 0 ≤ e.node ∧ e.node < ((s.nodes ++ [n]).length : Int)
  rw [len]
  rcases List.mem_append.1 he with he | he
  ·have := h.range e he;omega
  ·rw [List.mem_singleton] at he;rw [he]
   show (0 : Int) ≤ s.nodes.length ∧ (s.nodes.length : Int) < s.nodes.length + 1
   omega
 ·rcases List.mem_append.1 hm2 with hm2 | hm2
  ·exact h.nodes m hm2
  ·rw [List.mem_singleton] at hm2;rw [hm2];exact hm
 ·refine List.pairwise_append.2 ⟨?_,List.pairwise_singleton _ _,fun x hx y hy he => ?_⟩
  ·refine h.once.imp_of_mem fun {x y} hx hy hxy he => ?_
   rw [old y hy];exact hxy he
  ·rw [List.mem_singleton] at hy
   rw [hy] at he
   have := h.range x hx
   have he2 : x.node.toNat = ((s.nodes.length : Int)).toNat := he
   omega
 ·obtain ⟨e,he,e1,e2⟩ := h.root
  exact ⟨e,List.mem_append_left _ he,e1,by rw [old e he];exact e2⟩
 ·rcases List.mem_append.1 he with he | he
  ·obtain ⟨q,hq,q1,q2⟩ := h.up e he hne
   exact ⟨q,List.mem_append_left _ hq,q1,by rw [old q hq];exact q2⟩
  ·rw [List.mem_singleton] at he
   rw [he,j3]
   exact ⟨d,List.mem_append_left _ hd,hdp,by rw [old d hd];exact hdk⟩
 ·rcases List.mem_append.1 hq with hq | hq
  ·obtain ⟨e,he,e1,e2⟩ := h.dirs q hq
   exact ⟨e,List.mem_append_left _ he,e1,by rw [old e he];exact e2⟩
  ·obtain ⟨q1,q2⟩ := hds q hq
   refine ⟨⟨p,s.nodes.length⟩,by simp,q1.symm,?_⟩
   show (nodeG (s.nodes ++ [n]) (s.nodes.length : Int)).kind = 1
   rw [nodeG_new];exact q2
 ·show 0 ≤ i ∧ i < ((s.nodes ++ [n]).length : Int) ∧ (nodeG (s.nodes ++ [n]) i).kind ≠ 1
  rw [len]
  rcases List.mem_append.1 hi with hi | hi
  ·obtain ⟨f1,f2,f3⟩ := h.files i hi
   exact ⟨f1,by omega,by rw [nodeG_old f1 f2];exact f3⟩
  ·obtain ⟨i1,i2⟩ := hfs i hi
   rw [i1,nodeG_new]
   exact ⟨by omega,by omega,i2⟩
theorem MakeInv.good {s : MakeSt} (h : MakeInv s) (hl : s.ents.length ≤ 100) : Good ⟨s.ents,s.nodes⟩ :=
 ⟨h.may,h.dist,h.range,fun e he => h.nodes _ (nodeG_mem (h.range e he).1 (h.range e he).2),h.once,h.root,h.up,hl⟩
end Go.Proofs.YteamlijbkldlhaaGreatDoor.TreeSpec
end
section
set_option linter.unusedSimpArgs false
set_option linter.unusedVariables false
namespace Go.Proofs.YteamlijbkldlhaaGreatDoor.TreeSpec
open AclSpec MetaSpec NodeSpec PathSpec

def decB (n : Nat) : List UInt8 := if n ≤ 9 then [48 + n.toUInt8] else decB (n / 10) ++ [48 + (n % 10).toUInt8]
termination_by n
theorem decB_len : ∀ (k n : Nat),n < 10 ^ (k + 1) → (decB n).length ≤ k + 1
 | 0,n,h => by
  unfold decB
  rw [if_pos (by omega)];simp
 | k + 1,n,h => by
  unfold decB
  split
  ·simp
  ·have h2 : n / 10 < 10 ^ (k + 1) := by
    rw [Nat.div_lt_iff_lt_mul (by decide)]
    rw [Nat.pow_succ] at h;exact h
   have := decB_len k (n / 10) h2
   rw [List.length_append,List.length_singleton];omega
def userK : List UInt8 := [117,115,101,114,46,107]
def makeM (u : Nat) : FMeta := ⟨(u / 5 % 4096 : Nat),(u % 3 : Nat),(u % 4 : Nat),(u % 1000000 : Nat),if u % 11 = 0 then [⟨userK,118 :: decB (u % 100)⟩] else [],if u % 11 = 0 then [⟨1,7,(u % 8 : Nat)⟩,⟨3,0,7⟩] else []⟩
theorem acl_ok : ∀ k : Fin 8,mayA [⟨1,7,(k : Nat)⟩,⟨3,0,7⟩] = true := by decide +kernel
theorem attr_ok {v : List UInt8} (h : v.length ≤ 200) : chkT [⟨userK,v⟩] 0 = true := by
 unfold chkT GSort.chkGAt
 show (goodT ⟨userK,v⟩ && true) = true
 unfold goodT
 rw [decide_eq_true (p := v.length ≤ 200) h]
 rfl
theorem id_ok {n : Nat} (h : n < 10) : idB (n : Int) = true := by
 unfold idB
 rw [decide_eq_true (by omega),decide_eq_true (by omega)];rfl
theorem makeM_may (u : Nat) : mayM (makeM u) = true := by
 have h1 : u / 5 % 4096 < 4096 := Nat.mod_lt _ (by decide)
 have h2 : u % 3 < 10 := Nat.lt_trans (Nat.mod_lt _ (by decide)) (by decide : 3 < 10)
 have h3 : u % 4 < 10 := Nat.lt_trans (Nat.mod_lt _ (by decide)) (by decide : 4 < 10)
 unfold mayM makeM
 simp only [id_ok h2,id_ok h3]
 rw [decide_eq_true (p := (0 : Int) ≤ ((u / 5 % 4096 : Nat) : Int)) (by omega),decide_eq_true (p := ((u / 5 % 4096 : Nat) : Int) ≤ 4095) (by omega),decide_eq_true (p := (0 : Int) ≤ ((u % 1000000 : Nat) : Int)) (by omega)]
 by_cases h : u % 11 = 0
 ·rw [if_pos h,if_pos h]
  have hd : (decB (u % 100)).length ≤ 2 := decB_len 1 _ (Nat.mod_lt _ (by decide))
  rw [attr_ok (by rw [List.length_cons];omega),acl_ok ⟨u % 8,Nat.mod_lt _ (by decide)⟩]
  rfl
 ·rw [if_neg h,if_neg h]
  have c1 : chkT ([] : List Attr) 0 = true := by decide +kernel
  have c2 : mayA [] = true := by decide +kernel
  rw [c1,c2];rfl
def nodeOf (k : Int) (u : Nat) : FNode := ⟨k,makeM u,0,[],[],0,0⟩
theorem dir_ok (u : Nat) : mayN (nodeOf 1 u) = true := by
 have := makeM_may u
 simp [mayN,nodeOf,this,noDev]
theorem fifo_ok (u : Nat) : mayN (nodeOf 6 u) = true := by
 have := makeM_may u
 simp [mayN,nodeOf,this,noDev]
theorem dev_ok (u : Nat) {a b : Nat} (ha : a < 300) (hb : b < 300) : mayN { nodeOf 4 u with major := a,minor := b } = true := by
 have := makeM_may u
 simp [mayN,nodeOf,this]
 omega
theorem joinN_mem : ∀ {xs : List (List UInt8)} {c : UInt8},c ∈ joinN xs → c = 47 ∨ ∃ x ∈ xs,c ∈ x
 | [],c,h => by cases h
 | x :: r,c,h => by
  by_cases hr : r = []
  ·subst hr
   exact .inr ⟨x,by simp,by simpa [joinN] using h⟩
  ·rw [joinN_cons hr] at h
   rcases List.mem_append.1 h with h | h
   ·exact .inr ⟨x,by simp,h⟩
   ·rcases List.mem_cons.1 h with h | h
    ·exact .inl h
    ·rcases joinN_mem h with h | ⟨y,hy,h⟩
     ·exact .inl h
     ·exact .inr ⟨y,by simp [hy],h⟩
theorem name_zero {l : List UInt8} (h : nameB l = true) : ∀ c ∈ l,c ≠ 0 := by
 intro c hc hz
 have ho : l.all okc = true := by unfold nameB at h;simp only [Bool.and_eq_true] at h;simp_all
 have := List.all_eq_true.1 ho c hc
 rw [hz] at this
 exact absurd this (by decide)
theorem may_zero {p : List UInt8} (h : mayB p = true) : ∀ c ∈ p,c ≠ 0 := by
 intro c hc hz
 unfold mayB at h
 rcases Bool.or_eq_true_iff.1 h with h | h
 ·cases p <;> simp_all
 ·rw [Bool.and_eq_true] at h
  have h2 := h.2
  unfold mayK at h2
  rw [Bool.and_eq_true] at h2
  have hc2 : c ∈ joinN (names p) := by rw [join_names];exact hc
  rcases joinN_mem hc2 with h3 | ⟨x,hx,h3⟩
  ·rw [hz] at h3;exact absurd h3 (by decide)
  ·exact name_zero (List.all_eq_true.1 h2.1 x hx) c h3 hz
theorem may_len {p : List UInt8} (h : mayB p = true) : p.length ≤ 100 := by
 unfold mayB at h
 rcases Bool.or_eq_true_iff.1 h with h | h
 ·cases p <;> simp_all
 ·rw [Bool.and_eq_true] at h
  exact of_decide_eq_true h.1
theorem link_ok (u : Nat) {p : List UInt8} (h : mayB p = true) : mayN { nodeOf 3 u with target := [46,46,47] ++ p } = true := by
 have hm := makeM_may u
 have hl := may_len h
 have hz : ([46,46,47] ++ p).contains 0 = false := by
  rw [Bool.eq_false_iff]
  intro c
  have c2 := List.contains_iff_mem.1 c
  rcases List.mem_append.1 c2 with c3 | c3
  ·exact absurd c3 (by decide)
  ·exact may_zero h 0 c3 rfl
 have hlen : ([46,46,47] ++ p).length = p.length + 3 := by simp
 unfold mayN
 simp only [nodeOf,hm,hz,hlen,noDev]
 simp
 omega
end Go.Proofs.YteamlijbkldlhaaGreatDoor.TreeSpec
end
section
set_option linter.unusedSimpArgs false
set_option linter.unusedVariables false
namespace Go.Proofs.YteamlijbkldlhaaGreatDoor.TreeSpec
open AclSpec MetaSpec NodeSpec PathSpec

def seven (k : Nat) : List UInt8 := ([[97],[98],[99],[97,45],[97,98],[122],[113,46,114]] : List (List UInt8))[k]?.getD []
def makeStep (f : Nat → List UInt8 → FNode) (s : MakeSt) (u : Nat) : MakeSt :=
 let j := joinB (s.dirs[u % s.dirs.length]?.getD []) (seven (u / 7 % 7))
 if (findT s.ents j.1).2 = true ∨ j.2 ≠ 0 then s
 else if u / 3 % 9 < 2 then ⟨s.ents ++ [⟨j.1,s.nodes.length⟩],s.nodes ++ [nodeOf 1 u],s.dirs ++ [j.1],s.files⟩
 else if u / 3 % 9 = 2 ∧ s.files ≠ [] then { s with ents := s.ents ++ [⟨j.1,s.files[u / 2 % s.files.length]?.getD 0⟩] }
 else if u / 3 % 9 = 3 then ⟨s.ents ++ [⟨j.1,s.nodes.length⟩],s.nodes ++ [{ nodeOf 3 u with target := [46,46,47] ++ j.1 }],s.dirs,s.files⟩
 else if u / 3 % 9 = 4 then ⟨s.ents ++ [⟨j.1,s.nodes.length⟩],s.nodes ++ [{ nodeOf 4 u with major := (u % 300 : Nat),minor := (u / 2 % 300 : Nat) }],s.dirs,s.files⟩
 else if u / 3 % 9 = 5 then ⟨s.ents ++ [⟨j.1,s.nodes.length⟩],s.nodes ++ [nodeOf 6 u],s.dirs,s.files⟩
 else ⟨s.ents ++ [⟨j.1,s.nodes.length⟩],s.nodes ++ [f u j.1],s.dirs,s.files ++ [(s.nodes.length : Int)]⟩
def makeStart : MakeSt := ⟨[⟨[],0⟩],[⟨1,⟨493,0,0,9,[],[]⟩,0,[],[],0,0⟩],[[]],[]⟩
theorem start_ok : MakeInv makeStart := by
 have hm : mayN ⟨1,⟨493,0,0,9,[],[]⟩,0,[],[],0,0⟩ = true := by decide +kernel
 refine ⟨fun e he => ?_,List.pairwise_singleton _ _,fun e he => ?_,fun n hn => ?_,List.pairwise_singleton _ _,⟨⟨[],0⟩,by simp [makeStart],rfl,rfl⟩,fun e he hne => ?_,fun p hp => ?_,fun i hi => ?_⟩
 ·simp only [makeStart,List.mem_singleton] at he;rw [he];rfl
 ·simp only [makeStart,List.mem_singleton] at he;rw [he];exact ⟨by decide,by decide⟩
 ·simp only [makeStart,List.mem_singleton] at hn;rw [hn];exact hm
 ·simp only [makeStart,List.mem_singleton] at he;rw [he] at hne;exact absurd rfl hne
 ·simp only [makeStart,List.mem_singleton] at hp;rw [hp];exact ⟨⟨[],0⟩,by simp [makeStart],rfl,rfl⟩
 ·simp [makeStart] at hi
theorem get_mod {α : Type} {l : List α} (h : l ≠ []) (u : Nat) (d : α) : l[u % l.length]?.getD d ∈ l := by
 have hl : u % l.length < l.length := Nat.mod_lt _ (List.length_pos_iff.2 h)
 rw [List.getElem?_eq_getElem hl]
 exact List.getElem_mem hl
theorem step_ok {f : Nat → List UInt8 → FNode} (hf : ∀ u p,mayB p = true → mayN (f u p) = true ∧ (f u p).kind ≠ 1) {s : MakeSt} (h : MakeInv s) (hd : s.dirs ≠ []) (u : Nat) : MakeInv (makeStep f s u) ∧ (makeStep f s u).dirs ≠ [] ∧ (makeStep f s u).ents.length ≤ s.ents.length + 1 := by
 have ha := get_mod hd u ([] : List UInt8)
 unfold makeStep
 simp only
 generalize hj : joinB (s.dirs[u % s.dirs.length]?.getD []) (seven (u / 7 % 7)) = j
 obtain ⟨p,e⟩ := j
 simp only
 split
 ·exact ⟨h,hd,by omega⟩
 rename_i hc
 have he : e = 0 := Classical.byContradiction fun c => hc (.inr c)
 subst he
 have hfind : (findT s.ents p).2 = false := by
  cases hx : (findT s.ents p).2
  ·rfl
  ·exact absurd (.inl hx) hc
 have hn := findT_false hfind
 have hmp := (join_up hj).1
 have nil1 : ∀ (n : FNode),∀ q ∈ ([] : List (List UInt8)),q = p ∧ n.kind = 1 := fun n q hq => by cases hq
 have nil2 : ∀ (n : FNode),∀ i ∈ ([] : List Int),i = (s.nodes.length : Int) ∧ n.kind ≠ 1 := fun n i hi => by cases hi
 split
 ·have := h.add ha hj hn (dir_ok u) (ds := [p]) (fs := []) (fun q hq => by rw [List.mem_singleton] at hq;exact ⟨hq,rfl⟩) (nil2 _)
  rw [List.append_nil] at this
  exact ⟨this,by simp,by simp⟩
 split
 ·rename_i h2
  exact ⟨h.link ha hj hn (get_mod h2.2 (u / 2) (0 : Int)),hd,by simp⟩
 split
 ·have := h.add ha hj hn (link_ok u hmp) (ds := []) (fs := []) (nil1 _) (nil2 _)
  rw [List.append_nil,List.append_nil] at this
  exact ⟨this,hd,by simp⟩
 split
 ·have := h.add ha hj hn (dev_ok u (a := u % 300) (b := u / 2 % 300) (Nat.mod_lt _ (by decide)) (Nat.mod_lt _ (by decide))) (ds := []) (fs := []) (nil1 _) (nil2 _)
  rw [List.append_nil,List.append_nil] at this
  exact ⟨this,hd,by simp⟩
 split
 ·have := h.add ha hj hn (fifo_ok u) (ds := []) (fs := []) (nil1 _) (nil2 _)
  rw [List.append_nil,List.append_nil] at this
  exact ⟨this,hd,by simp⟩
 ·obtain ⟨f1,f2⟩ := hf u p hmp
  have := h.add ha hj hn f1 (ds := []) (fs := [(s.nodes.length : Int)]) (nil1 _) (fun i hi => by rw [List.mem_singleton] at hi;exact ⟨hi,f2⟩)
  rw [List.append_nil] at this
  exact ⟨this,hd,by simp⟩
theorem loop_ok {f : Nat → List UInt8 → FNode} (hf : ∀ u p,mayB p = true → mayN (f u p) = true ∧ (f u p).kind ≠ 1) : ∀ (l : List Nat) (s : MakeSt),MakeInv s → s.dirs ≠ [] → MakeInv (l.foldl (makeStep f) s) ∧ (l.foldl (makeStep f) s).ents.length ≤ s.ents.length + l.length
 | [],s,h,_ => ⟨h,by simp⟩
 | u :: l,s,h,hd => by
  obtain ⟨h1,h2,h3⟩ := step_ok hf h hd u
  obtain ⟨i1,i2⟩ := loop_ok hf l _ h1 h2
  exact ⟨i1,by rw [List.foldl_cons,List.length_cons];omega⟩
def makeT (f : Nat → List UInt8 → FNode) (l : List Nat) : FTree := (normTree ⟨((l.take 25).foldl (makeStep f) makeStart).ents,((l.take 25).foldl (makeStep f) makeStart).nodes⟩).1
theorem makeT_may {f : Nat → List UInt8 → FNode} (hf : ∀ u p,mayB p = true → mayN (f u p) = true ∧ (f u p).kind ≠ 1) (l : List Nat) : mayT (makeT f l) = true := by
 obtain ⟨h1,h2⟩ := loop_ok hf (l.take 25) makeStart start_ok (by simp [makeStart])
 have hl : (makeStart).ents.length = 1 := rfl
 have h3 : (l.take 25).length ≤ 25 := by rw [List.length_take];omega
 have g := h1.good (by omega)
 unfold makeT
 rw [normTree_ok g]
 exact normed_may g
end Go.Proofs.YteamlijbkldlhaaGreatDoor.TreeSpec
end
section
set_option linter.unusedSimpArgs false
set_option linter.unusedVariables false
namespace Go.Proofs.YteamlijbkldlhaaGreatDoor.TreeSpec
open AclSpec MetaSpec NodeSpec PathSpec

def textU (u : Nat) : List UInt8 := [116,101,120,116,32] ++ decB (u % 1000) ++ [32,111,102,32,116,104,105,115,32,97,110,100,32,116,104,97,116,44,32,97,110,100,32,111,102,32,116,104,105,115,32,97,110,100,32,116,104,97,116]
def fileU (u : Nat) (p : List UInt8) : FNode :=
 let n := (writeN (nodeOf 2 u) ((u / 4 % 2 * 600 : Nat) : Int) (textU u)).1
 let m := if u % 2 = 0 then (writeN n ((u % 90 * 10 : Nat) : Int) p).1 else n
 if u % 5 = 0 then (cutN m (m.size + ((u % 7 * 100 : Nat) : Int))).1 else m
theorem fileU_M (u : Nat) (p : List UInt8) : FileM (makeM u) (fileU u p) := by
 have hm := makeM_may u
 have h0 : FileM (makeM u) (nodeOf 2 u) := .of (isFile_of hm ⟨List.Pairwise.nil,fun p hp => by cases hp⟩ (by decide) (by decide) (by decide) (by decide) (fun p hp => by cases hp))
 have h1 := write_keep (a := ((u / 4 % 2 * 600 : Nat) : Int)) (s := textU u) hm h0
 unfold fileU
 simp only
 generalize (writeN (nodeOf 2 u) ((u / 4 % 2 * 600 : Nat) : Int) (textU u)).1 = n at *
 have h2 : FileM (makeM u) (if u % 2 = 0 then (writeN n ((u % 90 * 10 : Nat) : Int) p).1 else n) := by
  split
  ·exact write_keep hm h1
  ·exact h1
 generalize (if u % 2 = 0 then (writeN n ((u % 90 * 10 : Nat) : Int) p).1 else n) = m at *
 split
 ·exact cut_keep hm h2
 ·exact h2
theorem fileU_ok (u : Nat) (p : List UInt8) : mayN (fileU u p) = true ∧ (fileU u p).kind ≠ 1 := by
 have h := (fileU_M u p).file
 unfold isFileN at h
 rw [Bool.and_eq_true] at h
 have hk := of_decide_eq_true h.1
 exact ⟨h.2,by rw [hk];decide⟩
theorem make_may (l : List Nat) : mayT (makeT fileU l) = true := makeT_may (fun u p _ => fileU_ok u p) l
end Go.Proofs.YteamlijbkldlhaaGreatDoor.TreeSpec
end
