import Derived.Test.YtpficpldemickaaMSpec
import Derived.Test.YtpficpldemickaaFlo
section
set_option linter.unusedSimpArgs false
set_option linter.unusedVariables false
namespace Go.Proofs.Ytpficpldemickaa.NodeSpec
open GSort AclSpec MetaSpec Ext

structure Piece where
  pos : Int
  dat : List UInt8
  deriving DecidableEq,Inhabited
structure FNode where
  kind : Int
  mt : Meta
  size : Int
  dat : List Piece
  target : List UInt8
  major : Int
  minor : Int
  deriving DecidableEq,Inhabited
def small (n : FNode) : Prop := n.mt.attrs.length ≤ 1000000 ∧ n.mt.acl.length ≤ 1000000 ∧ n.dat.length ≤ 1000000 ∧ ∀ p ∈ n.dat,p.dat.length ≤ 1000000
def bytesP (l : List Piece) : Nat := (l.map fun p => p.dat.length).sum
def bytesN (n : FNode) : Nat := bytesP n.dat
theorem bytesP_le {l : List Piece} (h : ∀ p ∈ l,p.dat.length ≤ 1000000) : bytesP l ≤ l.length * 1000000 := by
  induction l with
  | nil => simp [bytesP]
  | cons p r ih =>
    have h1 := h p (by simp)
    have h2 := ih fun q hq => h q (by simp [hq])
    simp only [bytesP,List.map_cons,List.sum_cons,List.length_cons] at *
    omega
theorem bytesP_take {l : List Piece} {i : Nat} {p : Piece} (h : l[i]? = some p) : bytesP (l.take (i + 1)) = bytesP (l.take i) + p.dat.length := by
  obtain ⟨hi,rfl⟩ := List.getElem?_eq_some_iff.1 h
  unfold bytesP
  rw [List.take_succ_eq_append_getElem hi,List.map_append,List.sum_append_nat]
  simp
theorem bytesP_mono {l : List Piece} (i : Nat) : bytesP (l.take i) ≤ bytesP l := by
  induction l generalizing i with
  | nil => simp
  | cons p r ih =>
    cases i with
    | zero => simp [bytesP]
    | succ i =>
      have := ih i
      simp only [bytesP,List.take_succ_cons,List.map_cons,List.sum_cons] at *
      omega
def limN (v : Int) : Nat := (min (max v 0) 1099511627776).toNat
def extN (n : FNode) : List E := n.dat.map fun p => (limN p.pos,limN p.dat.length)
def okPiece (p : Piece) : Bool := !decide (p.dat = []) && !decide (p.pos < 0) && !decide (1099511627776 < p.pos)
def mayFileN (n : FNode) : Bool := !decide (n.size < 0) && !decide (1099511627776 < n.size) && !decide (16 < n.dat.length) && n.dat.all okPiece && decide (bytesN n ≤ 4000) && mayE Flo.big (extN n) n.size
def noDev (n : FNode) : Bool := decide (n.major = 0) && decide (n.minor = 0)
def mayN (n : FNode) : Bool :=
  !decide (n.kind < 1) && !decide (6 < n.kind) && mayM n.mt &&
  (decide (n.kind = 2) || decide (n.size = 0) && decide (n.dat = [])) &&
  (decide (n.kind = 3) || decide (n.target = [])) &&
  (decide (n.kind = 4) || decide (n.kind = 5) || noDev n) &&
  (if n.kind = 2 then mayFileN n
   else if n.kind = 3 then decide (1 ≤ n.target.length) && decide (n.target.length ≤ 200) && !n.target.contains 0
   else if n.kind = 4 ∨ n.kind = 5 then decide (0 ≤ n.major) && decide (n.major ≤ 65535) && decide (0 ≤ n.minor) && decide (n.minor ≤ 65535)
   else true)
def diffN (a b : FNode) : List UInt8 :=
  if ¬ a.kind = b.kind then [107,105,110,100]
  else if ¬ diffM a.mt b.mt = [] then diffM a.mt b.mt
  else if ¬ a.size = b.size then [115,105,122,101]
  else if ¬ a.dat = b.dat then [100,97,116,97]
  else if ¬ a.target = b.target then [116,97,114,103,101,116]
  else if ¬ a.major = b.major then [100,101,118,105,99,101]
  else if ¬ a.minor = b.minor then [100,101,118,105,99,101]
  else []
def overlay (room : List UInt8) (o : Nat) (s : List UInt8) : List UInt8 := room.take o ++ s ++ room.drop (o + s.length)
def readStep (a : Int) (k : Nat) (room : List UInt8) (p : Piece) : List UInt8 :=
  if max p.pos a < min (p.pos + p.dat.length) (a + k) then overlay room (max p.pos a - a).toNat ((p.dat.take (min (p.pos + p.dat.length) (a + k) - p.pos).toNat).drop (max p.pos a - p.pos).toNat) else room
def readB (l : List Piece) (a : Int) (k : Nat) : List UInt8 := l.foldl (readStep a k) (List.replicate k 0)
end Go.Proofs.Ytpficpldemickaa.NodeSpec
end
section
set_option linter.unusedSimpArgs false
set_option linter.unusedVariables false
namespace Go.Proofs.Ytpficpldemickaa.NodeSpec
open GSort AclSpec MetaSpec Ext

end Go.Proofs.Ytpficpldemickaa.NodeSpec
end
section
set_option linter.unusedSimpArgs false
set_option linter.unusedVariables false
namespace Go.Proofs.Ytpficpldemickaa.NodeSpec
open GSort AclSpec MetaSpec Ext

def okP (p : Piece) : Prop := p.dat ≠ [] ∧ 0 ≤ p.pos ∧ p.pos + p.dat.length ≤ 1099511627776
end Go.Proofs.Ytpficpldemickaa.NodeSpec
end
section
set_option linter.unusedSimpArgs false
set_option linter.unusedVariables false
namespace Go.Proofs.Ytpficpldemickaa.NodeSpec
open GSort AclSpec MetaSpec Ext

def cov (p : Piece) (q : Int) : Option UInt8 := if p.pos ≤ q ∧ q < p.pos + p.dat.length then p.dat[(q - p.pos).toNat]? else none
def valAt (l : List Piece) (q : Int) : UInt8 := l.foldl (fun v p => (cov p q).getD v) 0
end Go.Proofs.Ytpficpldemickaa.NodeSpec
end
