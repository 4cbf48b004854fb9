import Derived.Test.YtaeefaehpfjmlaaNVal
import Derived.Test.YtaeefaehpfjmlaaNCuts
set_option linter.unusedSimpArgs false
set_option linter.unusedVariables false
namespace Go.Proofs.Ytaeefaehpfjmlaa
open AclSpec MetaSpec NodeSpec GSort Flo Ext

theorem wrote_self {ps : List Piece} (h : SepP ps) : wroteP ps = ps := uniqueP (wrote_sep h.2) h (fun _ => wrote_mem h.2) (fun q => wrote_val h.2 q)
theorem ok_snoc {l : List Piece} {a : Int} {s : List UInt8} (h : ∀ p ∈ l, okP p) (h0 : 0 ≤ a) (h1 : a + s.length ≤ 1099511627776) (hs : s ≠ []) : ∀ p ∈ l ++ [(⟨a, s⟩ : Piece)], okP p := by
  intro p hp
  rcases List.mem_append.1 hp with hp | hp
  · exact h p hp
  · simp only [List.mem_singleton] at hp; subst hp; exact ⟨hs, h0, h1⟩
theorem writeN_do {n : FNode} {a : Int} {s : List UInt8} {l : List Piece} (hf : isFileN n = true) (h0 : 0 ≤ a) (h1 : a + s.length ≤ 1099511627776) (hs : s ≠ []) (hl : wroteP (n.dat ++ [⟨a, s⟩]) = l) (hb : bytesP l ≤ 4000) (h16 : l.length ≤ 16) :
    writeN n a s = ({ n with size := max n.size (a + s.length), dat := l }, 0) := by
  have hok := ok_snoc (file_okP hf) h0 h1 hs
  have e1 := wrote_bytes hok
  have e2 := wrote_len (n.dat ++ [(⟨a, s⟩ : Piece)])
  rw [hl] at e1 e2
  unfold writeN
  rw [hf, if_neg (by simp; omega), if_neg (by omega), if_neg hs, if_neg (by omega)]
  show (({ n with size := _, dat := wroteP _ } : FNode), (0 : Int)) = _
  rw [hl]
def xs (k : Nat) : List UInt8 := List.replicate k 120
def ys (g : Nat) : List UInt8 := List.replicate g 121
theorem xs_len (k : Nat) : (xs k).length = k := by simp [xs]
theorem ys_len (g : Nat) : (ys g).length = g := by simp [ys]
theorem xs_get {k i : Nat} (h : i < k) : (xs k)[i]? = some 120 := by unfold xs; rw [List.getElem?_replicate, if_pos h]
theorem ys_get {k i : Nat} (h : i < k) : (ys k)[i]? = some 121 := by unfold ys; rw [List.getElem?_replicate, if_pos h]
theorem ne_of_len {l : List UInt8} {k : Nat} (h : l.length = k) (hk : 0 < k) : l ≠ [] := by rintro rfl; simp at h; omega
def twoP (k g : Nat) : List Piece := [⟨0, xs k⟩, ⟨(k : Int) + g, xs k⟩]
def fileH (k g : Nat) : FNode := ⟨2, zm, 2 * (k : Int) + g, twoP k g, [], 0, 0⟩
def fullB (k g : Nat) : List UInt8 := xs k ++ ys g ++ xs k
def fileF (k g : Nat) : FNode := ⟨2, zm, 2 * (k : Int) + g, [⟨0, fullB k g⟩], [], 0, 0⟩
theorem full_len (k g : Nat) : (fullB k g).length = 2 * k + g := by unfold fullB; simp [xs_len, ys_len]; omega
theorem two_sep {k g : Nat} (hk : 0 < k) (hg : 0 < g) (hk2 : k ≤ 50) (hg2 : g ≤ 300) : SepP (twoP k g) := by
  unfold twoP
  refine ⟨?_, ?_⟩
  · rw [List.pairwise_cons]
    refine ⟨fun p hp => ?_, List.pairwise_singleton _ _⟩
    simp only [List.mem_singleton] at hp; subst hp
    simp only [xs_len]; omega
  · intro p hp
    simp only [List.mem_cons, List.not_mem_nil, or_false] at hp
    rcases hp with rfl | rfl
    · exact ⟨ne_of_len (xs_len k) hk, by simp only; omega, by simp only [xs_len]; omega⟩
    · exact ⟨ne_of_len (xs_len k) hk, by simp only; omega, by simp only [xs_len]; omega⟩
theorem two_bytes (k g : Nat) : bytesP (twoP k g) = 2 * k := by unfold bytesP twoP; simp [xs_len]; omega
theorem isFile_H {k g : Nat} (hk : 0 < k) (hg : 0 < g) (hk2 : k ≤ 50) (hg2 : g ≤ 300) : isFileN (fileH k g) = true := by
  refine isFile_of mayZ (two_sep hk hg hk2 hg2) (by simp [twoP]) (by rw [two_bytes]; omega) (by omega) (by omega) fun p hp => ?_
  unfold twoP at hp
  simp only [List.mem_cons, List.not_mem_nil, or_false] at hp
  rcases hp with rfl | rfl <;> simp only [xs_len] <;> omega
theorem write_1 {k : Nat} (hk : 0 < k) (hk2 : k ≤ 50) : writeN k0 0 (xs k) = (fileP k (xs k), 0) := by
  have := write_P (s := xs k) (by rw [xs_len]; omega)
  rw [xs_len] at this; exact this
theorem write_2 {k g : Nat} (hk : 0 < k) (hg : 0 < g) (hk2 : k ≤ 50) (hg2 : g ≤ 300) : writeN (fileP k (xs k)) ((k : Int) + g) (xs k) = (fileH k g, 0) := by
  have hf : isFileN (fileP k (xs k)) = true := isFile_P (by rw [xs_len]; exact Nat.le_refl _) (by omega)
  have hd : (fileP k (xs k)).dat = [⟨0, xs k⟩] := by simp [fileP, pcs, ne_of_len (xs_len k) hk]
  have hw := wrote_self (two_sep hk hg hk2 hg2)
  rw [writeN_do (l := twoP k g) hf (by omega) (by rw [xs_len]; omega) (ne_of_len (xs_len k) hk) (by rw [hd]; exact hw) (by rw [two_bytes]; omega) (by simp [twoP])]
  have hm : max (fileP k (xs k)).size ((k : Int) + g + ((xs k).length : Nat)) = 2 * (k : Int) + g := by
    show max (k : Int) _ = _
    rw [xs_len]; omega
  rw [hm]; rfl
theorem two_val {k g : Nat} (q : Int) : valAt (twoP k g) q = if (0 ≤ q ∧ q < k) ∨ ((k : Int) + g ≤ q ∧ q < 2 * k + g) then 120 else 0 := by
  show valAt ([] ++ [⟨0, xs k⟩] ++ [⟨(k : Int) + g, xs k⟩]) q = _
  rw [valAt_snoc, valAt_snoc, xs_len]
  by_cases h1 : (k : Int) + g ≤ q ∧ q < (k : Int) + g + k
  · rw [if_pos h1, if_pos (by omega), xs_get (by omega)]; rfl
  · rw [if_neg h1]
    by_cases h2 : 0 ≤ q ∧ q < 0 + (k : Int)
    · rw [if_pos h2, if_pos (by omega), xs_get (by omega)]; rfl
    · rw [if_neg h2, if_neg (by omega)]; rfl
theorem two_mem {k g : Nat} (q : Int) : MemP (twoP k g) q ↔ (0 ≤ q ∧ q < k) ∨ ((k : Int) + g ≤ q ∧ q < 2 * k + g) := by
  unfold twoP
  rw [memP_cons, memP_one]
  unfold InP; simp only [xs_len]; omega
theorem full_get {k g i : Nat} (h : i < 2 * k + g) : (fullB k g)[i]? = some (if k ≤ i ∧ i < k + g then 121 else 120) := by
  unfold fullB
  by_cases h1 : i < k
  · rw [List.append_assoc, List.getElem?_append_left (by rw [xs_len]; exact h1), xs_get h1, if_neg (by omega)]
  · by_cases h2 : i < k + g
    · rw [List.append_assoc, List.getElem?_append_right (by rw [xs_len]; omega), List.getElem?_append_left (by rw [xs_len, ys_len]; omega), ys_get (by rw [xs_len]; omega), if_pos ⟨by omega, h2⟩]
    · rw [List.getElem?_append_right (by simp [xs_len, ys_len]; omega), xs_get (by simp [xs_len, ys_len]; omega), if_neg (by omega)]
theorem full_sep {k g : Nat} (hk : 0 < k) (hk2 : k ≤ 50) (hg2 : g ≤ 300) : SepP [(⟨0, fullB k g⟩ : Piece)] := by
  refine ⟨List.pairwise_singleton _ _, fun p hp => ?_⟩
  simp only [List.mem_singleton] at hp; subst hp
  exact ⟨ne_of_len (full_len k g) (by omega), by simp only; omega, by simp only [full_len]; omega⟩
theorem write_3 {k g : Nat} (hk : 0 < k) (hg : 0 < g) (hk2 : k ≤ 50) (hg2 : g ≤ 300) : writeN (fileH k g) (k : Int) (ys g) = (fileF k g, 0) := by
  have hf := isFile_H hk hg hk2 hg2
  have hok : ∀ p ∈ twoP k g ++ [(⟨k, ys g⟩ : Piece)], okP p := ok_snoc (two_sep hk hg hk2 hg2).2 (by omega) (by rw [ys_len]; omega) (ne_of_len (ys_len g) hg)
  have hw : wroteP (twoP k g ++ [⟨k, ys g⟩]) = [⟨0, fullB k g⟩] := by
    refine uniqueP (wrote_sep hok) (full_sep hk hk2 hg2) (fun q => ?_) (fun q => ?_)
    · rw [wrote_mem hok, memP_append, two_mem, memP_one, memP_one]
      unfold InP; simp only [ys_len, full_len]; omega
    · rw [wrote_val hok, valAt_snoc, ys_len, two_val]
      show _ = valAt ([] ++ [⟨0, fullB k g⟩]) q
      rw [valAt_snoc, full_len]
      by_cases h1 : (k : Int) ≤ q ∧ q < k + g
      · rw [if_pos h1, ys_get (by omega), if_pos (by omega), full_get (by omega), if_pos (by omega)]
      · rw [if_neg h1]
        by_cases h2 : 0 ≤ q ∧ q < 2 * (k : Int) + g
        · rw [if_pos (by omega), if_pos (by omega), full_get (by omega), if_neg (by omega)]; rfl
        · rw [if_neg (by omega), if_neg (by omega)]; rfl
  rw [writeN_do (l := [⟨0, fullB k g⟩]) hf (by omega) (by rw [ys_len]; omega) (ne_of_len (ys_len g) hg) hw (by simp [bytesP, full_len]; omega) (by simp)]
  have hm : max (fileH k g).size ((k : Int) + ((ys g).length : Nat)) = 2 * (k : Int) + g := by
    show max (2 * (k : Int) + g) _ = _
    rw [ys_len]; omega
  rw [hm]; rfl
theorem read_H {k g : Nat} (hk : 0 < k) (hg : 0 < g) (hk2 : k ≤ 50) (hg2 : g ≤ 300) : readN (fileH k g) (k : Int) (g : Int) = (List.replicate g 0, 0) := by
  rw [readN_file (isFile_H hk hg hk2 hg2) (a := (k : Int)) (x := g) (by omega) (by omega)]
  have h2 : (min (g : Int) ((fileH k g).size - k)).toNat = g := by show (min (g : Int) (2 * (k : Int) + g - k)).toNat = g; omega
  rw [h2]
  congr 1
  rw [readB_eq]
  apply List.ext_getElem (by simp)
  intro i hi _
  simp only [List.length_map, List.length_range] at hi
  simp only [List.getElem_map, List.getElem_range, List.getElem_replicate]
  show valAt (twoP k g) _ = 0
  rw [two_val, if_neg (by omega)]
theorem small_len {n : FNode} (h : n.mt = zm) (h2 : n.dat.length ≤ 1000000) (h3 : ∀ p ∈ n.dat, p.dat.length ≤ 1000000) : small n := ⟨by rw [h]; decide, by rw [h]; decide, h2, h3⟩
theorem small_H {k g : Nat} (hk2 : k ≤ 50) : small (fileH k g) := by
  refine small_len rfl (by simp [fileH, twoP]) fun p hp => ?_
  unfold fileH twoP at hp
  simp only [List.mem_cons, List.not_mem_nil, or_false] at hp
  rcases hp with rfl | rfl <;> simp only [xs_len] <;> omega
theorem xs_step (i : Nat) : xs i ++ [120] = xs (i + 1) := by unfold xs; rw [List.replicate_succ']
theorem ys_step (i : Nat) : ys i ++ [121] = ys (i + 1) := by unfold ys; rw [List.replicate_succ']
end Go.Proofs.Ytaeefaehpfjmlaa
