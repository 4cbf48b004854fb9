import Derived.Test.YtaeefaehpfjmlaaMSpec
import Derived.Test.YtaeefaehpfjmlaaELaw
import Derived.Test.YtaeefaehpfjmlaaFlo
set_option linter.unusedSimpArgs false
set_option linter.unusedVariables false
namespace Go.Proofs.Ytaeefaehpfjmlaa.NodeSpec
open GSort AclSpec MetaSpec Ext

structure Piece where
  pos : Int
  dat : List UInt8
  deriving DecidableEq, Inhabited
structure FNode where
  kind : Int
  mt : Meta
  size : Int
  dat : List Piece
  target : List UInt8
  major : Int
  minor : Int
  deriving DecidableEq, Inhabited
/-- Few enough for every sum to be one. -/
def small (n : FNode) : Prop := n.mt.attrs.length ≤ 1000000 ∧ n.mt.acl.length ≤ 1000000 ∧ n.dat.length ≤ 1000000 ∧ ∀ p ∈ n.dat, p.dat.length ≤ 1000000
def bytesP (l : List Piece) : Nat := (l.map fun p => p.dat.length).sum
def bytesN (n : FNode) : Nat := bytesP n.dat
theorem bytesP_le {l : List Piece} (h : ∀ p ∈ l, p.dat.length ≤ 1000000) : bytesP l ≤ l.length * 1000000 := by
  induction l with
  | nil => simp [bytesP]
  | cons p r ih =>
    have h1 := h p (by simp)
    have h2 := ih fun q hq => h q (by simp [hq])
    simp only [bytesP, List.map_cons, List.sum_cons, List.length_cons] at *
    omega
theorem bytesP_take {l : List Piece} {i : Nat} {p : Piece} (h : l[i]? = some p) : bytesP (l.take (i + 1)) = bytesP (l.take i) + p.dat.length := by
  obtain ⟨hi, rfl⟩ := List.getElem?_eq_some_iff.1 h
  unfold bytesP
  rw [List.take_succ_eq_append_getElem hi, List.map_append, List.sum_append_nat]
  simp
theorem bytesP_mono {l : List Piece} (i : Nat) : bytesP (l.take i) ≤ bytesP l := by
  induction l generalizing i with
  | nil => simp
  | cons p r ih =>
    cases i with
    | zero => simp [bytesP]
    | succ i =>
      have := ih i
      simp only [bytesP, List.take_succ_cons, List.map_cons, List.sum_cons] at *
      omega
/-- The extents of the pieces. -/
def limN (v : Int) : Nat := (min (max v 0) 1099511627776).toNat
def extN (n : FNode) : List E := n.dat.map fun p => (limN p.pos, limN p.dat.length)
/-- May a file be? -/
def okPiece (p : Piece) : Bool := !decide (p.dat = []) && !decide (p.pos < 0) && !decide (1099511627776 < p.pos)
def mayFileN (n : FNode) : Bool := !decide (n.size < 0) && !decide (1099511627776 < n.size) && !decide (16 < n.dat.length) && n.dat.all okPiece && decide (bytesN n ≤ 4000) && mayE Flo.big (extN n) n.size
def noDev (n : FNode) : Bool := decide (n.major = 0) && decide (n.minor = 0)
def mayN (n : FNode) : Bool :=
  !decide (n.kind < 1) && !decide (6 < n.kind) && mayM n.mt &&
  (decide (n.kind = 2) || decide (n.size = 0) && decide (n.dat = [])) &&
  (decide (n.kind = 3) || decide (n.target = [])) &&
  (decide (n.kind = 4) || decide (n.kind = 5) || noDev n) &&
  (if n.kind = 2 then mayFileN n
   else if n.kind = 3 then decide (1 ≤ n.target.length) && decide (n.target.length ≤ 200) && !n.target.contains 0
   else if n.kind = 4 ∨ n.kind = 5 then decide (0 ≤ n.major) && decide (n.major ≤ 65535) && decide (0 ≤ n.minor) && decide (n.minor ≤ 65535)
   else true)
def isFileN (n : FNode) : Bool := decide (n.kind = 2) && mayN n
def diffN (a b : FNode) : List UInt8 :=
  if ¬ a.kind = b.kind then [107, 105, 110, 100]
  else if ¬ diffM a.mt b.mt = [] then diffM a.mt b.mt
  else if ¬ a.size = b.size then [115, 105, 122, 101]
  else if ¬ a.dat = b.dat then [100, 97, 116, 97]
  else if ¬ a.target = b.target then [116, 97, 114, 103, 101, 116]
  else if ¬ a.major = b.major then [100, 101, 118, 105, 99, 101]
  else if ¬ a.minor = b.minor then [100, 101, 118, 105, 99, 101]
  else []
theorem diffN_nil {a b : FNode} : diffN a b = [] ↔ a = b := by
  unfold diffN
  constructor
  · intro h
    repeat' split at h
    all_goals first | (cases h; done) | skip
    · rename_i h1 h2; exact absurd h h2
    · rename_i h1 h2 h3 h4 h5 h6 h7
      have := diffM_nil.1 (Classical.not_not.1 h2)
      cases a; cases b; simp_all
  · rintro rfl
    have := (diffM_nil (a := a.mt) (b := a.mt)).2 rfl
    simp [this]
/-! ### Reading -/
def overlay (room : List UInt8) (o : Nat) (s : List UInt8) : List UInt8 := room.take o ++ s ++ room.drop (o + s.length)
theorem overlay_len {room s : List UInt8} {o : Nat} (h : o + s.length ≤ room.length) : (overlay room o s).length = room.length := by
  unfold overlay; simp; omega
def readStep (a : Int) (k : Nat) (room : List UInt8) (p : Piece) : List UInt8 :=
  if max p.pos a < min (p.pos + p.dat.length) (a + k) then overlay room (max p.pos a - a).toNat ((p.dat.take (min (p.pos + p.dat.length) (a + k) - p.pos).toNat).drop (max p.pos a - p.pos).toNat) else room
theorem readStep_len {a : Int} {k : Nat} {room : List UInt8} {p : Piece} (h : room.length = k) : (readStep a k room p).length = k := by
  unfold readStep
  split
  · rw [overlay_len, h]
    rw [h, List.length_drop, List.length_take]
    omega
  · exact h
def readB (l : List Piece) (a : Int) (k : Nat) : List UInt8 := l.foldl (readStep a k) (List.replicate k 0)
theorem readB_take {l : List Piece} {i : Nat} {p : Piece} (a : Int) (k : Nat) (h : l[i]? = some p) : readB (l.take (i + 1)) a k = readStep a k (readB (l.take i) a k) p := by
  obtain ⟨hi, rfl⟩ := List.getElem?_eq_some_iff.1 h
  unfold readB
  rw [List.take_succ_eq_append_getElem hi, List.foldl_append]; rfl
theorem readB_len (a : Int) (k : Nat) (l : List Piece) : (readB l a k).length = k := by
  unfold readB
  have key : ∀ (l : List Piece) (r : List UInt8), r.length = k → (l.foldl (readStep a k) r).length = k := by
    intro l
    induction l with
    | nil => intro r h; exact h
    | cons p l ih => intro r h; exact ih _ (readStep_len h)
  exact key l _ (by simp)
def readN (n : FNode) (a long : Int) : List UInt8 × Int :=
  if !isFileN n || decide (a < 0) || decide (long < 0) || decide (4000 < long) then ([], 1)
  else if n.size ≤ a then ([], 0) else (readB n.dat a (min long (n.size - a)).toNat, 0)
theorem isFile_ok {n : FNode} (h : isFileN n = true) : n.kind = 2 ∧ 0 ≤ n.size ∧ n.size ≤ 1099511627776 ∧ n.dat.length ≤ 16 ∧ (∀ p ∈ n.dat, p.dat ≠ [] ∧ 0 ≤ p.pos ∧ p.pos ≤ 1099511627776) ∧ bytesN n ≤ 4000 ∧ mayE Flo.big (extN n) n.size = true ∧ n.target = [] ∧ n.major = 0 ∧ n.minor = 0 ∧ mayM n.mt = true := by
  unfold isFileN mayN at h
  simp only [Bool.and_eq_true, decide_eq_true_eq] at h
  obtain ⟨hk, ⟨⟨⟨⟨⟨h1, h2⟩, h3⟩, h4⟩, h5⟩, h6⟩, h7⟩ := h
  rw [if_pos hk] at h7
  unfold mayFileN at h7
  simp only [Bool.and_eq_true, Bool.not_eq_true', decide_eq_true_eq, decide_eq_false_iff_not, List.all_eq_true] at h7
  obtain ⟨⟨⟨⟨⟨a1, a2⟩, a3⟩, a4⟩, a5⟩, a6⟩ := h7
  simp only [hk, noDev, Bool.and_eq_true, Bool.or_eq_true, decide_eq_true_eq] at h5 h6
  refine ⟨hk, by omega, by omega, by omega, fun p hp => ?_, a5, a6, ?_, ?_, ?_, h3⟩
  · have := a4 p hp
    unfold okPiece at this
    simp only [Bool.and_eq_true, Bool.not_eq_true', decide_eq_false_iff_not] at this
    exact ⟨this.1.1, by omega, by omega⟩
  · rcases h5 with h | h
    · omega
    · exact h
  · rcases h6 with (h | h) | h
    · omega
    · omega
    · exact h.1
  · rcases h6 with (h | h) | h
    · omega
    · omega
    · exact h.2
end Go.Proofs.Ytaeefaehpfjmlaa.NodeSpec
