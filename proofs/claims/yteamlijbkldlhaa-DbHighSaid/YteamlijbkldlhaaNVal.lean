import Derived.Test.YteamlijbkldlhaaNWrite
import Derived.Test.YteamlijbkldlhaaNRead
set_option linter.unusedSimpArgs false
set_option linter.unusedVariables false
namespace Go.Proofs.Yteamlijbkldlhaa.NodeSpec
open GSort AclSpec MetaSpec Ext

def InP (p : Piece) (q : Int) : Prop := p.pos ≤ q ∧ q < p.pos + p.dat.length
instance (p : Piece) (q : Int) : Decidable (InP p q) := inferInstanceAs (Decidable (_ ∧ _))
def MemP (l : List Piece) (q : Int) : Prop := ∃ p ∈ l,InP p q
def DisP (l : List Piece) : Prop := l.Pairwise (fun (x y : Piece) => x.pos + x.dat.length ≤ y.pos) ∧ ∀ p ∈ l,okP p
def SepP (l : List Piece) : Prop := l.Pairwise (fun (x y : Piece) => x.pos + x.dat.length < y.pos) ∧ ∀ p ∈ l,okP p
theorem SepP.dis {l : List Piece} (h : SepP l) : DisP l := ⟨h.1.imp (fun h => by omega),h.2⟩
theorem SepP.tail {x : Piece} {l : List Piece} (h : SepP (x :: l)) : SepP l := ⟨(List.pairwise_cons.1 h.1).2,fun p hp => h.2 p (List.mem_cons_of_mem _ hp)⟩
theorem DisP.tail {x : Piece} {l : List Piece} (h : DisP (x :: l)) : DisP l := ⟨(List.pairwise_cons.1 h.1).2,fun p hp => h.2 p (List.mem_cons_of_mem _ hp)⟩
theorem memP_append {l m : List Piece} {q : Int} : MemP (l ++ m) q ↔ MemP l q ∨ MemP m q := by unfold MemP;simp [or_and_right,exists_or]
theorem memP_nil {q : Int} : ¬ MemP [] q := fun ⟨_,h,_⟩ => by cases h
theorem cov_in {p : Piece} {q : Int} (h : InP p q) : cov p q = p.dat[(q - p.pos).toNat]? := if_pos h
theorem cov_out {p : Piece} {q : Int} (h : ¬ InP p q) : cov p q = none := if_neg h
theorem InP.get {p : Piece} {q : Int} (h : InP p q) : ∃ c,p.dat[(q - p.pos).toNat]? = some c := ⟨_,List.getElem?_eq_getElem (by unfold InP at h;omega)⟩
def valF (q : Int) (v : UInt8) (p : Piece) : UInt8 := (cov p q).getD v
theorem valAt_fold (l : List Piece) (q : Int) : valAt l q = l.foldl (valF q) 0 := rfl
theorem valAt_append (l m : List Piece) (q : Int) : valAt (l ++ m) q = m.foldl (valF q) (valAt l q) := by rw [valAt_fold,List.foldl_append];rfl
theorem memP_one {x : Piece} {q : Int} : MemP [x] q ↔ InP x q := by unfold MemP;simp
theorem valAt_snoc (l : List Piece) (a : Int) (s : List UInt8) (q : Int) : valAt (l ++ [⟨a,s⟩]) q = if a ≤ q ∧ q < a + s.length then (s[(q - a).toNat]?).getD 0 else valAt l q := by
  rw [valAt_append]
  show valF q _ _ = _
  unfold valF
  split
  · rename_i h
    have hi : InP ⟨a,s⟩ q := h
    obtain ⟨c,hc⟩ := hi.get
    simp only at hc
    rw [cov_in hi,hc]
    rfl
  · rename_i h
    rw [cov_out (p := ⟨a,s⟩) h];rfl

end Go.Proofs.Yteamlijbkldlhaa.NodeSpec
