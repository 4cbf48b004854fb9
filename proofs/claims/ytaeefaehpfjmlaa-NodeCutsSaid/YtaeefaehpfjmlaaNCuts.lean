import Derived.Test.YtaeefaehpfjmlaaKN9
import Derived.Test.YtaeefaehpfjmlaaNRead
set_option linter.unusedSimpArgs false
set_option linter.unusedVariables false
namespace Go.Proofs.Ytaeefaehpfjmlaa
open AclSpec MetaSpec NodeSpec GSort Flo Ext

def pcs (t : List UInt8) : List Piece := if t = [] then [] else [⟨0, t⟩]
def fileP (z : Nat) (t : List UInt8) : FNode := ⟨2, zm, z, pcs t, [], 0, 0⟩
theorem mayZ : mayM zm = true := by decide +kernel
theorem mayFile_P {z : Nat} {t : List UInt8} (h : t.length ≤ z) (hz : z ≤ 4000) : mayFileN (fileP z t) = true := by
  unfold mayFileN
  simp only [Bool.and_eq_true, Bool.not_eq_true', decide_eq_true_eq, decide_eq_false_iff_not, List.all_eq_true]
  by_cases ht : t = []
  · subst ht
    refine ⟨⟨⟨⟨⟨?_, ?_⟩, ?_⟩, ?_⟩, ?_⟩, ?_⟩
    · show ¬ (z : Int) < 0; omega
    · show ¬ 1099511627776 < (z : Int); omega
    · show ¬ 16 < 0; omega
    · intro p hp; cases hp
    · show 0 ≤ 4000; omega
    · show (decide (0 ≤ (z : Int)) && decide ((z : Int) ≤ (big : Nat)) && decide (-1 ≤ (z : Int))) = true
      unfold big
      simp; omega
  · have hd : (fileP z t).dat = [⟨0, t⟩] := by simp [fileP, pcs, ht]
    have hb : bytesN (fileP z t) = t.length := by unfold bytesN; rw [hd]; simp [bytesP]
    have hl : limN (t.length : Int) = t.length := limN_nat (by unfold big; omega)
    have he : extN (fileP z t) = [(0, t.length)] := by unfold extN; rw [hd]; simp only [List.map_cons, List.map_nil, hl]; rfl
    have hp : 0 < t.length := List.length_pos_iff.2 ht
    rw [hd, hb, he]
    refine ⟨⟨⟨⟨⟨?_, ?_⟩, ?_⟩, ?_⟩, ?_⟩, ?_⟩
    · show ¬ (z : Int) < 0; omega
    · show ¬ 1099511627776 < (z : Int); omega
    · show ¬ 16 < 1; omega
    · intro p hp
      simp only [List.mem_cons, List.not_mem_nil, or_false] at hp
      subst hp
      simp [okPiece, ht]
    · omega
    · show (decide (0 ≤ (z : Int)) && decide ((z : Int) ≤ (big : Nat)) && chkE (-1) [(0, t.length)] (z : Int)) = true
      unfold chkE
      rw [if_neg (by simp; exact ht)]
      unfold chkE fin big
      simp; omega
theorem isFile_P {z : Nat} {t : List UInt8} (h : t.length ≤ z) (hz : z ≤ 4000) : isFileN (fileP z t) = true := by
  have h1 := mayFile_P h hz
  unfold isFileN mayN
  rw [h1]
  show (decide ((2 : Int) = 2) && (!decide ((2 : Int) < 1) && !decide ((6 : Int) < 2) && mayM zm && (decide ((2 : Int) = 2) || _) && (decide ((2 : Int) = 3) || decide (([] : List UInt8) = [])) && (decide ((2 : Int) = 4) || decide ((2 : Int) = 5) || noDev (fileP z t)) && (if (2 : Int) = 2 then true else _))) = true
  rw [mayZ]
  rfl
theorem take_min {t : List UInt8} {x : Nat} : t.take (min (t.length : Int) ((x : Int) - 0)).toNat = t.take x := by
  rw [List.take_eq_take_iff]; omega
theorem cut_P {z x : Nat} {t : List UInt8} (h : t.length ≤ z) (hz : z ≤ 4000) (hx : x ≤ 4000) : cutN (fileP z t) x = (fileP x (t.take x), 0) := by
  unfold cutN
  rw [isFile_P h hz, if_neg (by simp; omega)]
  have hd : cutP (fileP z t).dat x = (fileP x (t.take x)).dat := by
    by_cases ht : t = []
    · subst ht; simp [fileP, pcs, cutP]
    · by_cases hx0 : x = 0
      · subst hx0; simp [fileP, pcs, cutP, ht]
      · have h2 : ¬ t.take x = [] := by simp [ht, hx0]
        have h3 : (0 : Int) < x := by omega
        simp only [fileP, pcs, cutP, if_neg ht, if_neg h2, List.takeWhile_cons, decide_eq_true h3, if_true, List.takeWhile_nil, List.map_cons, List.map_nil, take_min]
  rw [hd]; rfl
theorem overlay_rep {y : Nat} {t : List UInt8} : overlay (List.replicate y 0) 0 t = t ++ List.replicate (y - t.length) 0 := by
  unfold overlay; simp
theorem write_P {s : List UInt8} (h : s.length ≤ 200) : writeN k0 0 s = (fileP s.length s, 0) := by
  by_cases hs : s = []
  · subst hs
    unfold writeN
    rw [if_neg (by decide +kernel), if_neg (by decide +kernel), if_pos rfl]; rfl
  · have hp : 0 < s.length := List.length_pos_iff.2 hs
    have hl : limN (s.length : Int) = s.length := limN_nat (by unfold big; omega)
    have hx : exts (k0.dat ++ [(⟨0, s⟩ : Piece)]) = [(0, s.length)] := by
      show [(limN 0, limN (s.length : Int))] = _
      rw [hl]; rfl
    have hk : keptE big [(0, s.length)] = [(0, s.length)] := by
      unfold keptE big
      have e : min s.length (1099511627776 - 0) = s.length := by omega
      simp only [List.map_cons, List.map_nil, e]
      simp [hp]
    have hm : mergedW (k0.dat ++ [(⟨0, s⟩ : Piece)]) = [(0, s.length)] := by
      show normE big _ = _
      rw [hx, ← normE_of (B := big) (l := [(0, s.length)]) (s := [(0, s.length)])]
      · rfl
      · rw [hk]
      · unfold SortedE; simp
    rw [writeN_of hm, if_neg (by decide +kernel), if_neg (by omega), if_neg hs, if_neg (by simp [sumW]; omega)]
    have hr : roomW (k0.dat ++ [(⟨0, s⟩ : Piece)]) (0, s.length) = s := by
      show roomStep (0, s.length) (List.replicate s.length 0) ⟨0, s⟩ = s
      unfold roomStep
      rw [if_pos ⟨by simp, by simp [fin]; exact hp⟩]
      show overlay _ 0 s = s
      rw [overlay_rep]; simp
    have hmax : max k0.size (0 + (s.length : Int)) = s.length := by show max 0 _ = _; omega
    rw [hmax]
    simp only [List.map_cons, List.map_nil, hr]
    simp only [fileP, pcs, if_neg hs]; rfl
theorem read_P {y : Nat} {t : List UInt8} (h : t.length ≤ y) (hy : y ≤ 400) : readN (fileP y t) 0 400 = (t ++ List.replicate (y - t.length) 0, 0) := by
  have h1 := readN_file (isFile_P h (by omega)) (a := 0) (x := 400) (by omega) (by omega)
  rw [show ((400 : Nat) : Int) = 400 from rfl] at h1
  rw [h1]
  have h2 : (min (400 : Int) ((fileP y t).size - 0)).toNat = y := by show (min (400 : Int) ((y : Int) - 0)).toNat = y; omega
  rw [h2]
  congr 1
  by_cases ht : t = []
  · subst ht
    show NodeSpec.readB [] 0 y = _
    simp [NodeSpec.readB]
  · have hd : (fileP y t).dat = [⟨0, t⟩] := by simp [fileP, pcs, ht]
    have hp : 0 < t.length := List.length_pos_iff.2 ht
    rw [hd]
    show readStep 0 y (List.replicate y 0) ⟨0, t⟩ = _
    unfold readStep
    simp only
    rw [if_pos (by omega)]
    have e1 : (max (0 : Int) 0 - 0).toNat = 0 := by decide
    have e2 : t.take (min (0 + (t.length : Int)) (0 + (y : Int)) - 0).toNat = t := by rw [List.take_of_length_le]; omega
    rw [e1, e2, List.drop_zero, overlay_rep]
theorem may_P {z : Nat} {t : List UInt8} (h : t.length ≤ z) (hz : z ≤ 4000) : mayN (fileP z t) = true := by
  have := isFile_P h hz
  unfold isFileN at this
  simp only [Bool.and_eq_true] at this
  exact this.2
theorem small_P {z : Nat} {t : List UInt8} (h : t.length ≤ 4000) : small (fileP z t) := by
  have hd : ∀ p ∈ (fileP z t).dat, p.dat.length ≤ 4000 := by
    intro p hp
    by_cases ht : t = []
    · subst ht; simp [fileP, pcs] at hp
    · simp [fileP, pcs, ht] at hp; subst hp; exact h
  refine ⟨by show 0 ≤ _; omega, by show 0 ≤ _; omega, ?_, fun p hp => by have := hd p hp; omega⟩
  by_cases ht : t = [] <;> simp [fileP, pcs, ht]
theorem nodeL_P (z : Nat) (t : List UInt8) : nodeL (fileP z t) = [intL 2, intL 0, intL 0, intL 0, intL 0, .sl 0 [] .no, .sl 0 [] .no, intL z, piecesL (pcs t), strL [], intL 0, intL 0] := rfl
def wantP (s : List UInt8) (y i : Nat) : List UInt8 := s.take i ++ List.replicate (y - i) 0
theorem want_len {s : List UInt8} {y i : Nat} (h : i ≤ s.length) (hy : i ≤ y) : (wantP s y i).length = y := by
  unfold wantP; simp; omega
theorem want_step {s : List UInt8} {y i : Nat} {b : UInt8} (hb : s[i]? = some b) (hy : i < y) : (wantP s y i).take i ++ [b] ++ (wantP s y i).drop (i + 1) = wantP s y (i + 1) := by
  obtain ⟨hi, rfl⟩ := List.getElem?_eq_some_iff.1 hb
  unfold wantP
  have h1 : (s.take i).length = i := by rw [List.length_take]; omega
  have h2 : y - i = (y - (i + 1)) + 1 := by omega
  rw [List.take_left' h1, List.take_succ_eq_append_getElem hi, h2, List.replicate_succ]
  rw [show i + 1 = (s.take i).length + 1 by omega, List.drop_append, List.drop_of_length_le (by omega)]
  simp
end Go.Proofs.Ytaeefaehpfjmlaa
