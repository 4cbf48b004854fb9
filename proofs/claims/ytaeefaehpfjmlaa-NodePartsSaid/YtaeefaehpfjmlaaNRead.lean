import Derived.Test.YtaeefaehpfjmlaaNSpec
set_option linter.unusedSimpArgs false
set_option linter.unusedVariables false
namespace Go.Proofs.Ytaeefaehpfjmlaa.NodeSpec
open GSort AclSpec MetaSpec Ext

def cov (p : Piece) (q : Int) : Option UInt8 := if p.pos ≤ q ∧ q < p.pos + p.dat.length then p.dat[(q - p.pos).toNat]? else none
def valAt (l : List Piece) (q : Int) : UInt8 := l.foldl (fun v p => (cov p q).getD v) 0
theorem overlay_get {room s : List UInt8} {o i : Nat} (h : o + s.length ≤ room.length) : (overlay room o s)[i]? = if o ≤ i ∧ i < o + s.length then s[i - o]? else room[i]? := by
  unfold overlay
  have ht : (room.take o).length = o := by rw [List.length_take]; omega
  by_cases h1 : i < o
  · rw [if_neg (by omega), List.append_assoc, List.getElem?_append_left (by omega), List.getElem?_take_of_lt h1]
  · by_cases h2 : i < o + s.length
    · rw [if_pos ⟨by omega, h2⟩, List.append_assoc, List.getElem?_append_right (by omega), List.getElem?_append_left (by omega), ht]
    · rw [if_neg (by omega), List.append_assoc, List.getElem?_append_right (by omega), List.getElem?_append_right (by omega), ht, List.getElem?_drop]
      congr 1; omega
theorem readStep_get {a : Int} {k : Nat} {room : List UInt8} {p : Piece} {i : Nat} {v : UInt8} (hl : room.length = k) (hi : i < k) (hv : room[i]? = some v) : (readStep a k room p)[i]? = some ((cov p (a + i)).getD v) := by
  unfold readStep
  generalize hfr : max p.pos a = fr
  generalize hto : min (p.pos + p.dat.length) (a + k) = t
  split
  · rename_i hft
    have hsl : ((p.dat.take (t - p.pos).toNat).drop (fr - p.pos).toNat).length = (t - fr).toNat := by rw [List.length_drop, List.length_take]; omega
    rw [overlay_get (by omega)]
    by_cases hc : p.pos ≤ a + i ∧ a + i < p.pos + p.dat.length
    · rw [if_pos ⟨by omega, by omega⟩]
      unfold cov
      rw [if_pos hc, List.getElem?_drop, List.getElem?_take_of_lt (by omega)]
      have e : (fr - p.pos).toNat + (i - (fr - a).toNat) = (a + i - p.pos).toNat := by omega
      rw [e]
      have hlt : (a + i - p.pos).toNat < p.dat.length := by omega
      rw [List.getElem?_eq_getElem hlt]; rfl
    · rw [if_neg (by omega)]
      unfold cov
      rw [if_neg hc, hv]; rfl
  · unfold cov
    rw [if_neg (by omega), hv]; rfl
theorem readB_get (l : List Piece) (a : Int) {k i : Nat} (hi : i < k) : (readB l a k)[i]? = some (valAt l (a + i)) := by
  unfold readB valAt
  have key : ∀ (l : List Piece) (r : List UInt8) (v : UInt8), r.length = k → r[i]? = some v → (l.foldl (readStep a k) r)[i]? = some (l.foldl (fun v p => (cov p (a + i)).getD v) v) := by
    intro l
    induction l with
    | nil => intro r v _ h; exact h
    | cons p l ih => intro r v hl h; exact ih _ _ (readStep_len hl) (readStep_get hl hi h)
  exact key l _ _ (by simp) (by rw [List.getElem?_replicate, if_pos hi])
theorem readB_eq (l : List Piece) (a : Int) (k : Nat) : readB l a k = (List.range k).map fun (i : Nat) => valAt l (a + i) := by
  apply List.ext_getElem?
  intro i
  by_cases hi : i < k
  · rw [readB_get l a hi, List.getElem?_map, List.getElem?_range hi]; rfl
  · rw [List.getElem?_eq_none (by rw [readB_len]; omega), List.getElem?_eq_none (by simp; omega)]
/-- Two ranges, one behind the other. -/
theorem readB_app (l : List Piece) (a : Int) (x y : Nat) : readB l a x ++ readB l (a + x) y = readB l a (x + y) := by
  rw [readB_eq, readB_eq, readB_eq, List.range_add, List.map_append, List.map_map]
  congr 1
  apply List.map_congr_left
  intro i _
  show valAt l (a + x + i) = valAt l (a + ((x + i : Nat) : Int))
  congr 1; omega
theorem readB_zero (l : List Piece) (a : Int) : readB l a 0 = [] := List.eq_nil_of_length_eq_zero (readB_len a 0 l)
/-- What a file answers, whatever is asked of it. -/
theorem readN_file {n : FNode} (hf : isFileN n = true) {a : Int} {x : Nat} (ha : 0 ≤ a) (hx : x ≤ 4000) : readN n a x = (readB n.dat a (min (x : Int) (n.size - a)).toNat, 0) := by
  unfold readN
  rw [hf, if_neg (by simp; omega)]
  split
  · rename_i h
    have : (min (x : Int) (n.size - a)).toNat = 0 := by omega
    rw [this, readB_zero]
  · rfl
theorem read_parts {n : FNode} (hf : isFileN n = true) {a : Int} {x y : Nat} (ha : 0 ≤ a) : readB n.dat a (min (x : Int) (n.size - a)).toNat ++ readB n.dat (a + x) (min (y : Int) (n.size - (a + x))).toNat = readB n.dat a (min ((x + y : Nat) : Int) (n.size - a)).toNat := by
  by_cases h : (x : Int) ≤ n.size - a
  · have e1 : (min (x : Int) (n.size - a)).toNat = x := by omega
    rw [e1, readB_app]
    congr 1; omega
  · have e2 : (min (y : Int) (n.size - (a + x))).toNat = 0 := by omega
    rw [e2, readB_zero, List.append_nil]
    congr 1; omega
end Go.Proofs.Ytaeefaehpfjmlaa.NodeSpec
