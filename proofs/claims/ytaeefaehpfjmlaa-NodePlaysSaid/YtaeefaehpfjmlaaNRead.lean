import Derived.Test.YtaeefaehpfjmlaaMSpec
import Derived.Test.YtaeefaehpfjmlaaELaw
import Derived.Test.YtaeefaehpfjmlaaFlo
section
set_option linter.unusedSimpArgs false
set_option linter.unusedVariables false
namespace Go.Proofs.Ytaeefaehpfjmlaa.NodeSpec
open GSort AclSpec MetaSpec Ext

structure Piece where
  pos : Int
  dat : List UInt8
  deriving DecidableEq, Inhabited
structure FNode where
  kind : Int
  mt : FMeta
  size : Int
  dat : List Piece
  target : List UInt8
  major : Int
  minor : Int
  deriving DecidableEq, Inhabited
def small (n : FNode) : Prop := n.mt.attrs.length ≤ 1000000 ∧ n.mt.acl.length ≤ 1000000 ∧ n.dat.length ≤ 1000000 ∧ ∀ p ∈ n.dat, p.dat.length ≤ 1000000
def bytesP (l : List Piece) : Nat := (l.map fun p => p.dat.length).sum
def bytesN (n : FNode) : Nat := bytesP n.dat
theorem bytesP_le {l : List Piece} (h : ∀ p ∈ l, p.dat.length ≤ 1000000) : bytesP l ≤ l.length * 1000000 := by
  induction l with
  | nil => simp [bytesP]
  | cons p r ih =>
    have h1 := h p (by simp)
    have h2 := ih fun q hq => h q (by simp [hq])
    simp only [bytesP, List.map_cons, List.sum_cons, List.length_cons] at *
    omega
theorem bytesP_take {l : List Piece} {i : Nat} {p : Piece} (h : l[i]? = some p) : bytesP (l.take (i + 1)) = bytesP (l.take i) + p.dat.length := by
  obtain ⟨hi, rfl⟩ := List.getElem?_eq_some_iff.1 h
  unfold bytesP
  rw [List.take_succ_eq_append_getElem hi, List.map_append, List.sum_append_nat]
  simp
theorem bytesP_mono {l : List Piece} (i : Nat) : bytesP (l.take i) ≤ bytesP l := by
  induction l generalizing i with
  | nil => simp
  | cons p r ih =>
    cases i with
    | zero => simp [bytesP]
    | succ i =>
      have := ih i
      simp only [bytesP, List.take_succ_cons, List.map_cons, List.sum_cons] at *
      omega
def limN (v : Int) : Nat := (min (max v 0) 1099511627776).toNat
def extN (n : FNode) : List E := n.dat.map fun p => (limN p.pos, limN p.dat.length)
def okPiece (p : Piece) : Bool := !decide (p.dat = []) && !decide (p.pos < 0) && !decide (1099511627776 < p.pos)
def mayFileN (n : FNode) : Bool := !decide (n.size < 0) && !decide (1099511627776 < n.size) && !decide (16 < n.dat.length) && n.dat.all okPiece && decide (bytesN n ≤ 4000) && mayE Flo.big (extN n) n.size
def noDev (n : FNode) : Bool := decide (n.major = 0) && decide (n.minor = 0)
def mayN (n : FNode) : Bool :=
  !decide (n.kind < 1) && !decide (6 < n.kind) && mayM n.mt &&
  (decide (n.kind = 2) || decide (n.size = 0) && decide (n.dat = [])) &&
  (decide (n.kind = 3) || decide (n.target = [])) &&
  (decide (n.kind = 4) || decide (n.kind = 5) || noDev n) &&
  (if n.kind = 2 then mayFileN n
   else if n.kind = 3 then decide (1 ≤ n.target.length) && decide (n.target.length ≤ 200) && !n.target.contains 0
   else if n.kind = 4 ∨ n.kind = 5 then decide (0 ≤ n.major) && decide (n.major ≤ 65535) && decide (0 ≤ n.minor) && decide (n.minor ≤ 65535)
   else true)
def isFileN (n : FNode) : Bool := decide (n.kind = 2) && mayN n
def diffN (a b : FNode) : List UInt8 :=
  if ¬ a.kind = b.kind then [107, 105, 110, 100]
  else if ¬ diffM a.mt b.mt = [] then diffM a.mt b.mt
  else if ¬ a.size = b.size then [115, 105, 122, 101]
  else if ¬ a.dat = b.dat then [100, 97, 116, 97]
  else if ¬ a.target = b.target then [116, 97, 114, 103, 101, 116]
  else if ¬ a.major = b.major then [100, 101, 118, 105, 99, 101]
  else if ¬ a.minor = b.minor then [100, 101, 118, 105, 99, 101]
  else []
theorem diffN_nil {a b : FNode} : diffN a b = [] ↔ a = b := by
  unfold diffN
  constructor
  · intro h
    repeat' split at h
    all_goals first | (cases h; done) | skip
    · rename_i h1 h2; exact absurd h h2
    · rename_i h1 h2 h3 h4 h5 h6 h7
      have := diffM_nil.1 (Classical.not_not.1 h2)
      cases a; cases b; simp_all
  · rintro rfl
    have := (diffM_nil (a := a.mt) (b := a.mt)).2 rfl
    simp [this]
def overlay (room : List UInt8) (o : Nat) (s : List UInt8) : List UInt8 := room.take o ++ s ++ room.drop (o + s.length)
theorem overlay_len {room s : List UInt8} {o : Nat} (h : o + s.length ≤ room.length) : (overlay room o s).length = room.length := by
  unfold overlay; simp; omega
def readStep (a : Int) (k : Nat) (room : List UInt8) (p : Piece) : List UInt8 :=
  if max p.pos a < min (p.pos + p.dat.length) (a + k) then overlay room (max p.pos a - a).toNat ((p.dat.take (min (p.pos + p.dat.length) (a + k) - p.pos).toNat).drop (max p.pos a - p.pos).toNat) else room
theorem readStep_len {a : Int} {k : Nat} {room : List UInt8} {p : Piece} (h : room.length = k) : (readStep a k room p).length = k := by
  unfold readStep
  split
  · rw [overlay_len, h]
    rw [h, List.length_drop, List.length_take]
    omega
  · exact h
def readB (l : List Piece) (a : Int) (k : Nat) : List UInt8 := l.foldl (readStep a k) (List.replicate k 0)
theorem readB_take {l : List Piece} {i : Nat} {p : Piece} (a : Int) (k : Nat) (h : l[i]? = some p) : readB (l.take (i + 1)) a k = readStep a k (readB (l.take i) a k) p := by
  obtain ⟨hi, rfl⟩ := List.getElem?_eq_some_iff.1 h
  unfold readB
  rw [List.take_succ_eq_append_getElem hi, List.foldl_append]; rfl
theorem readB_len (a : Int) (k : Nat) (l : List Piece) : (readB l a k).length = k := by
  unfold readB
  have key : ∀ (l : List Piece) (r : List UInt8), r.length = k → (l.foldl (readStep a k) r).length = k := by
    intro l
    induction l with
    | nil => intro r h; exact h
    | cons p l ih => intro r h; exact ih _ (readStep_len h)
  exact key l _ (by simp)
def readN (n : FNode) (a long : Int) : List UInt8 × Int :=
  if !isFileN n || decide (a < 0) || decide (long < 0) || decide (4000 < long) then ([], 1)
  else if n.size ≤ a then ([], 0) else (readB n.dat a (min long (n.size - a)).toNat, 0)
theorem isFile_ok {n : FNode} (h : isFileN n = true) : n.kind = 2 ∧ 0 ≤ n.size ∧ n.size ≤ 1099511627776 ∧ n.dat.length ≤ 16 ∧ (∀ p ∈ n.dat, p.dat ≠ [] ∧ 0 ≤ p.pos ∧ p.pos ≤ 1099511627776) ∧ bytesN n ≤ 4000 ∧ mayE Flo.big (extN n) n.size = true ∧ n.target = [] ∧ n.major = 0 ∧ n.minor = 0 ∧ mayM n.mt = true := by
  unfold isFileN mayN at h
  simp only [Bool.and_eq_true, decide_eq_true_eq] at h
  obtain ⟨hk, ⟨⟨⟨⟨⟨h1, h2⟩, h3⟩, h4⟩, h5⟩, h6⟩, h7⟩ := h
  rw [if_pos hk] at h7
  unfold mayFileN at h7
  simp only [Bool.and_eq_true, Bool.not_eq_true', decide_eq_true_eq, decide_eq_false_iff_not, List.all_eq_true] at h7
  obtain ⟨⟨⟨⟨⟨a1, a2⟩, a3⟩, a4⟩, a5⟩, a6⟩ := h7
  simp only [hk, noDev, Bool.and_eq_true, Bool.or_eq_true, decide_eq_true_eq] at h5 h6
  refine ⟨hk, by omega, by omega, by omega, fun p hp => ?_, a5, a6, ?_, ?_, ?_, h3⟩
  · have := a4 p hp
    unfold okPiece at this
    simp only [Bool.and_eq_true, Bool.not_eq_true', decide_eq_false_iff_not] at this
    exact ⟨this.1.1, by omega, by omega⟩
  · rcases h5 with h | h
    · omega
    · exact h
  · rcases h6 with (h | h) | h
    · omega
    · omega
    · exact h.1
  · rcases h6 with (h | h) | h
    · omega
    · omega
    · exact h.2
end Go.Proofs.Ytaeefaehpfjmlaa.NodeSpec
end
section
set_option linter.unusedSimpArgs false
set_option linter.unusedVariables false
namespace Go.Proofs.Ytaeefaehpfjmlaa.NodeSpec
open GSort AclSpec MetaSpec Ext

def cutP (l : List Piece) (s : Int) : List Piece := (l.takeWhile fun p => decide (p.pos < s)).map fun p => ⟨p.pos, p.dat.take (min (p.dat.length : Int) (s - p.pos)).toNat⟩
theorem takeWhile_all {α : Type} {f : α → Bool} {l : List α} (h : ∀ a ∈ l, f a = true) : l.takeWhile f = l := by
  induction l with
  | nil => rfl
  | cons a r ih => rw [List.takeWhile_cons, h a (by simp), if_pos rfl, ih fun b hb => h b (by simp [hb])]
theorem takeWhile_upto {α : Type} {f : α → Bool} {l : List α} {i : Nat} {a : α} (ha : l[i]? = some a) (h : ∀ b ∈ l.take i, f b = true) (hf : f a = false) : l.takeWhile f = l.take i := by
  induction l generalizing i with
  | nil => simp
  | cons b r ih =>
    cases i with
    | zero =>
      simp at ha; subst ha
      rw [List.takeWhile_cons, hf]; rfl
    | succ i =>
      rw [List.take_succ_cons] at h ⊢
      rw [List.takeWhile_cons, h b (by simp), if_pos rfl, ih (by simpa using ha) fun c hc => h c (by simp [hc])]
def cutN (n : FNode) (s : Int) : FNode × Int :=
  if !isFileN n || decide (s < 0) || decide (1099511627776 < s) then (n, 1)
  else ({ n with size := s, dat := cutP n.dat s }, 0)
end Go.Proofs.Ytaeefaehpfjmlaa.NodeSpec
end
section
set_option linter.unusedSimpArgs false
set_option linter.unusedVariables false
namespace Go.Proofs.Ytaeefaehpfjmlaa.NodeSpec
open GSort AclSpec MetaSpec Ext

theorem limN_nat {n : Nat} (h : n ≤ Flo.big) : limN n = n := by unfold limN; unfold Flo.big at h; omega
theorem limN_int {v : Int} (h0 : 0 ≤ v) (h : v ≤ 1099511627776) : (limN v : Int) = v := by unfold limN; omega
def exts (l : List Piece) : List E := l.map fun p => (limN p.pos, limN p.dat.length)
def okP (p : Piece) : Prop := p.dat ≠ [] ∧ 0 ≤ p.pos ∧ p.pos + p.dat.length ≤ 1099511627776
def mergedW (l : List Piece) : List E := normE Flo.big (exts l)
def roomStep (z : E) (r : List UInt8) (p : Piece) : List UInt8 := if (z.1 : Int) ≤ p.pos ∧ p.pos < fin z then overlay r (p.pos - z.1).toNat p.dat else r
def roomW (l : List Piece) (z : E) : List UInt8 := l.foldl (roomStep z) (List.replicate z.2 0)
theorem okP_ext {p : Piece} (h : okP p) : ((limN p.pos : Nat) : Int) = p.pos ∧ limN p.dat.length = p.dat.length ∧ 0 < p.dat.length := by
  obtain ⟨h1, h2, h3⟩ := h
  have h4 : 0 < p.dat.length := List.length_pos_iff.2 h1
  refine ⟨limN_int h2 (by omega), limN_nat (by unfold Flo.big; omega), h4⟩
theorem inside {l : List Piece} (hl : ∀ p ∈ l, okP p) {z : E} (hz : z ∈ mergedW l) {p : Piece} (hp : p ∈ l) (h1 : (z.1 : Int) ≤ p.pos) (h2 : p.pos < fin z) : p.pos + p.dat.length ≤ fin z := by
  obtain ⟨e1, e2, e3⟩ := okP_ext (hl p hp)
  have hn := normE_ok Flo.big (exts l)
  apply Classical.byContradiction
  intro hc
  have hin : Mem (exts l) (fin z) := ⟨(limN p.pos, limN p.dat.length), List.mem_map.2 ⟨p, hp, rfl⟩, by simp only; omega, by unfold fin; simp only; rw [e2]; have : fin z = z.1 + z.2 := rfl; omega⟩
  have hm : Mem (mergedW l) (fin z) := mem_norm.2 ⟨hin, by have := (hl p hp).2.2; unfold Flo.big; omega⟩
  obtain ⟨e, he, k1, k2⟩ := hm
  have hz0 := hn.sep.2 z hz
  by_cases hez : e = z
  · subst hez; omega
  · have hsep : fin e < z.1 ∨ fin z < e.1 := by
      have hpw := hn.sep.1
      obtain ⟨i, hi, rfl⟩ := List.mem_iff_getElem.1 he
      obtain ⟨j, hj, rfl⟩ := List.mem_iff_getElem.1 hz
      rcases Nat.lt_trichotomy i j with h | h | h
      · exact .inl ((List.pairwise_iff_getElem.1 hpw) i j hi hj h)
      · subst h; exact absurd rfl hez
      · exact .inr ((List.pairwise_iff_getElem.1 hpw) j i hj hi h)
    unfold fin at *
    omega
theorem roomStep_len {l : List Piece} (hl : ∀ p ∈ l, okP p) {z : E} (hz : z ∈ mergedW l) {p : Piece} (hp : p ∈ l) {r : List UInt8} (hr : r.length = z.2) : (roomStep z r p).length = z.2 := by
  unfold roomStep
  split
  · rename_i h
    have := inside hl hz hp h.1 h.2
    rw [overlay_len, hr]
    rw [hr]; unfold fin at *; omega
  · exact hr
theorem roomW_take {l : List Piece} {i : Nat} {p : Piece} (z : E) (h : l[i]? = some p) : roomW (l.take (i + 1)) z = roomStep z (roomW (l.take i) z) p := by
  obtain ⟨hi, rfl⟩ := List.getElem?_eq_some_iff.1 h
  unfold roomW
  rw [List.take_succ_eq_append_getElem hi, List.foldl_append]; rfl
theorem roomW_len {l : List Piece} (hl : ∀ p ∈ l, okP p) {z : E} (hz : z ∈ mergedW l) (i : Nat) : (roomW (l.take i) z).length = z.2 := by
  induction i with
  | zero => simp [roomW]
  | succ i ih =>
    by_cases hi : i < l.length
    · have hg : l[i]? = some l[i] := List.getElem?_eq_getElem hi
      rw [roomW_take z hg]
      exact roomStep_len hl hz (List.getElem_mem hi) ih
    · rw [List.take_of_length_le (by omega)] at ih ⊢; exact ih
def sumW (l : List E) : Nat := (l.map (·.2)).sum
def writeN (n : FNode) (a : Int) (s : List UInt8) : FNode × Int :=
  if !isFileN n || decide (a < 0) || decide (1099511627776 < a) then (n, 1)
  else if 1099511627776 < a + s.length then (n, 2)
  else if s = [] then (n, 0)
  else if 4000 < sumW (mergedW (n.dat ++ [⟨a, s⟩])) ∨ 16 < (mergedW (n.dat ++ [⟨a, s⟩])).length then (n, 13)
  else ({ n with size := max n.size (a + s.length), dat := (mergedW (n.dat ++ [⟨a, s⟩])).map fun z => ⟨z.1, roomW (n.dat ++ [⟨a, s⟩]) z⟩ }, 0)
theorem chk_fin : ∀ {l : List E} {last size : Int}, chkE last l size = true → ∀ e ∈ l, (fin e : Int) ≤ size
  | [], _, _, _, e, he => by cases he
  | x :: r, last, size, h, e, he => by
    unfold chkE at h
    split at h
    · cases h
    · have key : ∀ {l : List E} {last size : Int}, chkE last l size = true → last ≤ size := by
        intro l
        induction l with
        | nil => intro last size h; simpa [chkE] using h
        | cons y r ih =>
          intro last size h
          unfold chkE at h
          split at h
          · cases h
          · rename_i hy
            have := ih h
            unfold fin at this
            omega
      rcases List.mem_cons.1 he with rfl | he
      · exact key h
      · exact chk_fin h e he
theorem bytesP_mem {p : Piece} : ∀ {l : List Piece}, p ∈ l → p.dat.length ≤ bytesP l
  | q :: r, h => by
    simp only [bytesP, List.map_cons, List.sum_cons]
    rcases List.mem_cons.1 h with rfl | h
    · omega
    · have := bytesP_mem h
      simp only [bytesP] at this
      omega
theorem file_okP {n : FNode} (h : isFileN n = true) : ∀ p ∈ n.dat, okP p := by
  intro p hp
  obtain ⟨_, h1, h2, _, h3, h4, h5, _⟩ := isFile_ok h
  obtain ⟨a1, a2, a3⟩ := h3 p hp
  unfold mayE at h5
  simp only [Bool.and_eq_true] at h5
  have hf := chk_fin h5.2 (limN p.pos, limN p.dat.length) (List.mem_map.2 ⟨p, hp, rfl⟩)
  have hlen : p.dat.length ≤ 4000 := by
    have := bytesP_mem hp
    unfold bytesN at h4; omega
  rw [limN_nat (by unfold Flo.big; omega)] at hf
  have := limN_int a2 a3
  unfold fin at hf
  exact ⟨a1, a2, by simp only at hf; omega⟩
end Go.Proofs.Ytaeefaehpfjmlaa.NodeSpec
end
section
set_option linter.unusedSimpArgs false
set_option linter.unusedVariables false
namespace Go.Proofs.Ytaeefaehpfjmlaa.NodeSpec
open GSort AclSpec MetaSpec Ext

def cov (p : Piece) (q : Int) : Option UInt8 := if p.pos ≤ q ∧ q < p.pos + p.dat.length then p.dat[(q - p.pos).toNat]? else none
def valAt (l : List Piece) (q : Int) : UInt8 := l.foldl (fun v p => (cov p q).getD v) 0
theorem overlay_get {room s : List UInt8} {o i : Nat} (h : o + s.length ≤ room.length) : (overlay room o s)[i]? = if o ≤ i ∧ i < o + s.length then s[i - o]? else room[i]? := by
  unfold overlay
  have ht : (room.take o).length = o := by rw [List.length_take]; omega
  by_cases h1 : i < o
  · rw [if_neg (by omega), List.append_assoc, List.getElem?_append_left (by omega), List.getElem?_take_of_lt h1]
  · by_cases h2 : i < o + s.length
    · rw [if_pos ⟨by omega, h2⟩, List.append_assoc, List.getElem?_append_right (by omega), List.getElem?_append_left (by omega), ht]
    · rw [if_neg (by omega), List.append_assoc, List.getElem?_append_right (by omega), List.getElem?_append_right (by omega), ht, List.getElem?_drop]
      congr 1; omega
theorem readStep_get {a : Int} {k : Nat} {room : List UInt8} {p : Piece} {i : Nat} {v : UInt8} (hl : room.length = k) (hi : i < k) (hv : room[i]? = some v) : (readStep a k room p)[i]? = some ((cov p (a + i)).getD v) := by
  unfold readStep
  generalize hfr : max p.pos a = fr
  generalize hto : min (p.pos + p.dat.length) (a + k) = t
  split
  · rename_i hft
    have hsl : ((p.dat.take (t - p.pos).toNat).drop (fr - p.pos).toNat).length = (t - fr).toNat := by rw [List.length_drop, List.length_take]; omega
    rw [overlay_get (by omega)]
    by_cases hc : p.pos ≤ a + i ∧ a + i < p.pos + p.dat.length
    · rw [if_pos ⟨by omega, by omega⟩]
      unfold cov
      rw [if_pos hc, List.getElem?_drop, List.getElem?_take_of_lt (by omega)]
      have e : (fr - p.pos).toNat + (i - (fr - a).toNat) = (a + i - p.pos).toNat := by omega
      rw [e]
      have hlt : (a + i - p.pos).toNat < p.dat.length := by omega
      rw [List.getElem?_eq_getElem hlt]; rfl
    · rw [if_neg (by omega)]
      unfold cov
      rw [if_neg hc, hv]; rfl
  · unfold cov
    rw [if_neg (by omega), hv]; rfl
theorem readB_get (l : List Piece) (a : Int) {k i : Nat} (hi : i < k) : (readB l a k)[i]? = some (valAt l (a + i)) := by
  unfold readB valAt
  have key : ∀ (l : List Piece) (r : List UInt8) (v : UInt8), r.length = k → r[i]? = some v → (l.foldl (readStep a k) r)[i]? = some (l.foldl (fun v p => (cov p (a + i)).getD v) v) := by
    intro l
    induction l with
    | nil => intro r v _ h; exact h
    | cons p l ih => intro r v hl h; exact ih _ _ (readStep_len hl) (readStep_get hl hi h)
  exact key l _ _ (by simp) (by rw [List.getElem?_replicate, if_pos hi])
theorem readB_eq (l : List Piece) (a : Int) (k : Nat) : readB l a k = (List.range k).map fun (i : Nat) => valAt l (a + i) := by
  apply List.ext_getElem?
  intro i
  by_cases hi : i < k
  · rw [readB_get l a hi, List.getElem?_map, List.getElem?_range hi]; rfl
  · rw [List.getElem?_eq_none (by rw [readB_len]; omega), List.getElem?_eq_none (by simp; omega)]
theorem readB_zero (l : List Piece) (a : Int) : readB l a 0 = [] := List.eq_nil_of_length_eq_zero (readB_len a 0 l)
theorem readN_file {n : FNode} (hf : isFileN n = true) {a : Int} {x : Nat} (ha : 0 ≤ a) (hx : x ≤ 4000) : readN n a x = (readB n.dat a (min (x : Int) (n.size - a)).toNat, 0) := by
  unfold readN
  rw [hf, if_neg (by simp; omega)]
  split
  · rename_i h
    have : (min (x : Int) (n.size - a)).toNat = 0 := by omega
    rw [this, readB_zero]
  · rfl
end Go.Proofs.Ytaeefaehpfjmlaa.NodeSpec
end
