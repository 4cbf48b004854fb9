import Derived.Test.YtnmjghcdccfphaaGreatDoorNRead
section
set_option linter.unusedSimpArgs false
set_option linter.unusedVariables false
namespace Go.Proofs.YtnmjghcdccfphaaGreatDoor.NodeSpec
open GSort AclSpec MetaSpec Ext

def InP (p : Piece) (q : Int) : Prop := p.pos ≤ q ∧ q < p.pos + p.dat.length
instance (p : Piece) (q : Int) : Decidable (InP p q) := inferInstanceAs (Decidable (_ ∧ _))
def MemP (l : List Piece) (q : Int) : Prop := ∃ p ∈ l,InP p q
def DisP (l : List Piece) : Prop := l.Pairwise (fun (x y : Piece) => x.pos + x.dat.length ≤ y.pos) ∧ ∀ p ∈ l,okP p
def SepP (l : List Piece) : Prop := l.Pairwise (fun (x y : Piece) => x.pos + x.dat.length < y.pos) ∧ ∀ p ∈ l,okP p
theorem SepP.dis {l : List Piece} (h : SepP l) : DisP l := ⟨h.1.imp (fun h => by omega),h.2⟩
theorem SepP.tail {x : Piece} {l : List Piece} (h : SepP (x :: l)) : SepP l := ⟨(List.pairwise_cons.1 h.1).2,fun p hp => h.2 p (List.mem_cons_of_mem _ hp)⟩
theorem DisP.tail {x : Piece} {l : List Piece} (h : DisP (x :: l)) : DisP l := ⟨(List.pairwise_cons.1 h.1).2,fun p hp => h.2 p (List.mem_cons_of_mem _ hp)⟩
theorem memP_append {l m : List Piece} {q : Int} : MemP (l ++ m) q ↔ MemP l q ∨ MemP m q := by unfold MemP;simp [or_and_right,exists_or]
theorem memP_nil {q : Int} : ¬ MemP [] q := fun ⟨_,h,_⟩ => by cases h
theorem cov_in {p : Piece} {q : Int} (h : InP p q) : cov p q = p.dat[(q - p.pos).toNat]? := if_pos h
theorem cov_out {p : Piece} {q : Int} (h : ¬ InP p q) : cov p q = none := if_neg h
theorem InP.get {p : Piece} {q : Int} (h : InP p q) : ∃ c,p.dat[(q - p.pos).toNat]? = some c := ⟨_,List.getElem?_eq_getElem (by unfold InP at h;omega)⟩
def valF (q : Int) (v : UInt8) (p : Piece) : UInt8 := (cov p q).getD v
theorem valAt_fold (l : List Piece) (q : Int) : valAt l q = l.foldl (valF q) 0 := rfl
theorem valAt_append (l m : List Piece) (q : Int) : valAt (l ++ m) q = m.foldl (valF q) (valAt l q) := by rw [valAt_fold,List.foldl_append];rfl
theorem memP_one {x : Piece} {q : Int} : MemP [x] q ↔ InP x q := by unfold MemP;simp
theorem valAt_snoc (l : List Piece) (a : Int) (s : List UInt8) (q : Int) : valAt (l ++ [⟨a,s⟩]) q = if a ≤ q ∧ q < a + s.length then (s[(q - a).toNat]?).getD 0 else valAt l q := by
 rw [valAt_append]
 show valF q _ _ = _
 unfold valF
 split
 ·rename_i h
  have hi : InP ⟨a,s⟩ q := h
  obtain ⟨c,hc⟩ := hi.get
  simp only at hc
  rw [cov_in hi,hc]
  rfl
 ·rename_i h
  rw [cov_out (p := ⟨a,s⟩) h];rfl

end Go.Proofs.YtnmjghcdccfphaaGreatDoor.NodeSpec
end
section
set_option linter.unusedSimpArgs false
set_option linter.unusedVariables false
namespace Go.Proofs.YtnmjghcdccfphaaGreatDoor.NodeSpec
open GSort AclSpec MetaSpec Ext

def stepJ (out : List Piece) (p : Piece) : List Piece :=
 match out.getLast? with
 | none => out ++ [p]
 | some y => if y.pos + y.dat.length = p.pos then out.dropLast ++ [⟨y.pos,y.dat ++ p.dat⟩] else out ++ [p]
def joinP (l : List Piece) : List Piece := l.foldl stepJ []
theorem stepJ_snoc (r : List Piece) (y p : Piece) : stepJ (r ++ [y]) p = if y.pos + y.dat.length = p.pos then r ++ [⟨y.pos,y.dat ++ p.dat⟩] else r ++ [y] ++ [p] := by
 unfold stepJ;simp
structure Joins (s out : List Piece) : Prop where
 sep : SepP out
 mem : ∀ q,MemP out q ↔ MemP s q
 val : ∀ q,valAt out q = valAt s q
 fin : ∀ y ∈ out,∃ x ∈ s,y.pos + y.dat.length = x.pos + x.dat.length
theorem valAt_snoc' (l : List Piece) (p : Piece) (q : Int) : valAt (l ++ [p]) q = if InP p q then (p.dat[(q - p.pos).toNat]?).getD 0 else valAt l q := valAt_snoc l p.pos p.dat q
theorem Joins.step {s out : List Piece} {p : Piece} (h : Joins s out) (hp : okP p) (hs : ∀ x ∈ s,x.pos + x.dat.length ≤ p.pos) : Joins (s ++ [p]) (stepJ out p) := by
 have hm : ∀ q,MemP (s ++ [p]) q ↔ MemP s q ∨ InP p q := fun q => by rw [memP_append,memP_one]
 have hle : ∀ y ∈ out,y.pos + y.dat.length ≤ p.pos := fun y hy => by obtain ⟨x,hx,e⟩ := h.fin y hy;rw [e];exact hs x hx
 have hp0 : 0 < p.dat.length := List.length_pos_iff.2 hp.1
 cases hl : out.getLast? with
 | none =>
  have : out = [] := List.getLast?_eq_none_iff.1 hl
  subst this
  have e : stepJ [] p = [p] := rfl
  rw [e]
  refine ⟨⟨List.pairwise_singleton _ _,fun x hx => by simp only [List.mem_singleton] at hx;subst hx;exact hp⟩,fun q => ?_,fun q => ?_,fun y hy => ?_⟩
  ·rw [hm,← h.mem,memP_one]
   exact ⟨.inr,fun c => c.elim (fun d => absurd d memP_nil) id⟩
  ·rw [valAt_snoc',← h.val];exact valAt_snoc' [] p q
  ·simp only [List.mem_singleton] at hy;subst hy;exact ⟨y,by simp,rfl⟩
 | some y =>
  obtain ⟨r,rfl⟩ : ∃ r,out = r ++ [y] := ⟨_,snoc_of_last hl⟩
  rw [stepJ_snoc]
  have hy := h.sep.2 y (by simp)
  have hyl := hle y (by simp)
  have hy0 : 0 < y.dat.length := List.length_pos_iff.2 hy.1
  obtain ⟨hp1,hp2,hp3⟩ := List.pairwise_append.1 h.sep.1
  by_cases c1 : y.pos + y.dat.length = p.pos
  ·rw [if_pos c1]
   have hlen : ((y.dat ++ p.dat).length : Int) = y.dat.length + p.dat.length := by simp
   refine ⟨⟨List.pairwise_append.2 ⟨hp1,List.pairwise_singleton _ _,fun a ha b hb => ?_⟩,fun x hx => ?_⟩,fun q => ?_,fun q => ?_,fun x hx => ?_⟩
   ·simp only [List.mem_singleton] at hb;subst hb;exact hp3 a ha y (by simp)
   ·rcases List.mem_append.1 hx with hx | hx
    ·exact h.sep.2 x (by simp [hx])
    ·simp only [List.mem_singleton] at hx;subst hx
     refine ⟨fun hc => ?_,hy.2.1,?_⟩
     ·simp only at hc
      rw [hc] at hlen;simp only [List.length_nil] at hlen;omega
     ·simp only [hlen];have := hp.2.2;omega
   ·rw [hm,← h.mem,memP_append,memP_append,memP_one,memP_one]
    have : InP ⟨y.pos,y.dat ++ p.dat⟩ q ↔ InP y q ∨ InP p q := by unfold InP;simp only [hlen];omega
    rw [this,or_assoc]
   ·rw [valAt_snoc',valAt_snoc',← h.val,valAt_snoc']
    by_cases i1 : InP p q
    ·have i2 : InP ⟨y.pos,y.dat ++ p.dat⟩ q := by unfold InP at *;simp only [hlen];omega
     rw [if_pos i2,if_pos i1]
     simp only
     unfold InP at i1
     rw [List.getElem?_append_right (by omega)]
     congr 2;omega
    ·by_cases i3 : InP y q
     ·have i2 : InP ⟨y.pos,y.dat ++ p.dat⟩ q := by unfold InP at *;simp only [hlen];omega
      rw [if_pos i2,if_neg i1,if_pos i3]
      simp only
      unfold InP at i3
      rw [List.getElem?_append_left (by omega)]
     ·have i2 : ¬ InP ⟨y.pos,y.dat ++ p.dat⟩ q := by unfold InP at *;simp only [hlen];omega
      rw [if_neg i2,if_neg i1,if_neg i3]
   ·rcases List.mem_append.1 hx with hx | hx
    ·obtain ⟨z,hz,e⟩ := h.fin x (by simp [hx]);exact ⟨z,by simp [hz],e⟩
    ·simp only [List.mem_singleton] at hx;subst hx
     exact ⟨p,by simp,by simp only [hlen];omega⟩
  ·rw [if_neg c1]
   refine ⟨⟨List.pairwise_append.2 ⟨h.sep.1,List.pairwise_singleton _ _,fun a ha b hb => ?_⟩,fun x hx => ?_⟩,fun q => ?_,fun q => ?_,fun x hx => ?_⟩
   ·simp only [List.mem_singleton] at hb;subst hb
    rcases List.mem_append.1 ha with ha | ha
    ·have := hp3 a ha y (by simp);omega
    ·simp only [List.mem_singleton] at ha;subst ha;omega
   ·rcases List.mem_append.1 hx with hx | hx
    ·exact h.sep.2 x hx
    ·simp only [List.mem_singleton] at hx;subst hx;exact hp
   ·rw [hm,← h.mem,memP_append (l := r ++ [y]),memP_one]
   ·rw [valAt_snoc' (r ++ [y]),valAt_snoc' s,← h.val]
   ·rcases List.mem_append.1 hx with hx | hx
    ·obtain ⟨z,hz,e⟩ := h.fin x hx;exact ⟨z,by simp [hz],e⟩
    ·simp only [List.mem_singleton] at hx;subst hx;exact ⟨x,by simp,rfl⟩
theorem Joins.nil : Joins [] [] := ⟨⟨List.Pairwise.nil,by simp⟩,fun _ => Iff.rfl,fun _ => rfl,by simp⟩
theorem Joins.fold : ∀ (r s out : List Piece),Joins s out → DisP (s ++ r) → Joins (s ++ r) (r.foldl stepJ out)
 | [],s,out,h,_ => by simpa using h
 | p :: r,s,out,h,hd => by
  have hp := List.pairwise_append.1 hd.1
  have := Joins.fold r (s ++ [p]) (stepJ out p) (h.step (hd.2 p (by simp)) (fun x hx => hp.2.2 x hx p (by simp))) (by simpa using hd)
  simpa using this
theorem joins {l : List Piece} (h : DisP l) : Joins l (joinP l) := by
 have := Joins.fold l [] [] Joins.nil (by simpa using h)
 simpa [joinP] using this
end Go.Proofs.YtnmjghcdccfphaaGreatDoor.NodeSpec
end
