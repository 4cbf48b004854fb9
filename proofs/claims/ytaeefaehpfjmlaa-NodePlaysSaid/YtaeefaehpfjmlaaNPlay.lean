import Derived.Test.YtaeefaehpfjmlaaNHoles
import Derived.Test.YtaeefaehpfjmlaaNRef
set_option linter.unusedSimpArgs false
set_option linter.unusedVariables false
namespace Go.Proofs.Ytaeefaehpfjmlaa
open AclSpec MetaSpec NodeSpec GSort Flo Ext

def ovl {α : Type} (room : List α) (o : Nat) (s : List α) : List α := room.take o ++ s ++ room.drop (o + s.length)
theorem ovl_len {α : Type} {room s : List α} {o : Nat} (h : o + s.length ≤ room.length) : (ovl room o s).length = room.length := by
  unfold ovl; simp; omega
theorem ovl_get {α : Type} {room s : List α} {o i : Nat} (h : o + s.length ≤ room.length) : (ovl room o s)[i]? = if o ≤ i ∧ i < o + s.length then s[i - o]? else room[i]? := by
  unfold ovl
  have ht : (room.take o).length = o := by rw [List.length_take]; omega
  by_cases h1 : i < o
  · rw [if_neg (by omega), List.append_assoc, List.getElem?_append_left (by omega), List.getElem?_take_of_lt h1]
  · by_cases h2 : i < o + s.length
    · rw [if_pos ⟨by omega, h2⟩, List.append_assoc, List.getElem?_append_right (by omega), List.getElem?_append_left (by omega), ht]
    · rw [if_neg (by omega), List.append_assoc, List.getElem?_append_right (by omega), List.getElem?_append_right (by omega), ht, List.getElem?_drop]
      congr 1; omega
theorem ovl_zero {α : Type} (r : List α) (o : Nat) : ovl r o [] = r := by unfold ovl; simp
theorem ovl_step {α : Type} {r s : List α} {o j : Nat} {b : α} (hb : s[j]? = some b) (h : o + s.length ≤ r.length) : (ovl r o (s.take j)).take (o + j) ++ [b] ++ (ovl r o (s.take j)).drop (o + j + 1) = ovl r o (s.take (j + 1)) := by
  obtain ⟨hj, rfl⟩ := List.getElem?_eq_some_iff.1 hb
  have h1 : (s.take j).length = j := by rw [List.length_take]; omega
  have h2 : (s.take (j + 1)).length = j + 1 := by rw [List.length_take]; omega
  have h3 : (r.take o).length = o := by rw [List.length_take]; omega
  unfold ovl
  rw [h1, h2]
  have h4 : (r.take o ++ s.take j).length = o + j := by rw [List.length_append, h1, h3]
  rw [List.take_left' h4, List.drop_append, List.drop_of_length_le (by omega), h4, List.nil_append, List.drop_drop, List.take_succ_eq_append_getElem hj]
  simp only [List.append_assoc, List.singleton_append, List.cons_append, List.nil_append]
  congr 4; omega
structure Play (n : FNode) (b : List UInt8) (is : List Bool) (size : Nat) : Prop where
  shape : n = ⟨2, zm, size, n.dat, [], 0, 0⟩
  file : isFileN n = true
  bl : b.length = 600
  il : is.length = 600
  le : size ≤ 539
  val : ∀ q : Nat, q < 600 → b[q]? = some (valAt n.dat q)
  mem : ∀ q : Nat, q < 600 → ∃ t, is[q]? = some t ∧ (t = true ↔ MemP n.dat q)
theorem Play.kind {n : FNode} {b : List UInt8} {is : List Bool} {size : Nat} (h : Play n b is size) : n.size = size := by have := congrArg FNode.size h.shape; exact this
theorem play_start : Play k0 (List.replicate 600 0) (List.replicate 600 false) 0 := by
  refine ⟨rfl, by decide +kernel, List.length_replicate .., List.length_replicate .., by omega, fun q hq => ?_, fun q hq => ⟨false, ?_, ?_⟩⟩
  · rw [List.getElem?_replicate, if_pos hq]; rfl
  · rw [List.getElem?_replicate, if_pos hq]
  · exact ⟨fun h => (by cases h), fun h => absurd h memP_nil⟩
theorem Play.small {n : FNode} {b : List UInt8} {is : List Bool} {size : Nat} (h : Play n b is size) : small n := by
  obtain ⟨_, _, _, h1, _, h3, _⟩ := isFile_ok h.file
  refine small_len (by rw [h.shape]) (by omega) fun p hp => ?_
  have := bytesP_mem hp
  unfold bytesN at h3; omega
theorem Play.bytes {n : FNode} {b : List UInt8} {is : List Bool} {size : Nat} (h : Play n b is size) : n.dat.length ≤ 16 := (isFile_ok h.file).2.2.2.1
theorem play_write {n : FNode} {b : List UInt8} {is : List Bool} {size : Nat} (h : Play n b is size) {a : Nat} (ha : a < 500) {s : List UInt8} (hs : s.length ≤ 40) :
    (writeN n a s = (n, 13) ∧ 1 < n.dat.length) ∨ ∃ m, writeN n a s = (m, 0) ∧ Play m (ovl b a s) (ovl is a (s.map fun _ => true)) (if 0 < s.length then max size (a + s.length) else size) := by
  by_cases hs0 : s = []
  · subst hs0
    right
    refine ⟨n, ?_, ?_⟩
    · unfold writeN
      rw [h.file, if_neg (by simp; omega), if_neg (by simp; omega), if_pos rfl]
    · rw [List.map_nil, ovl_zero, ovl_zero]
      simpa using h
  have hsl : 0 < s.length := List.length_pos_iff.2 hs0
  have hsep := file_sep h.file
  have hok := ok_snoc (a := (a : Int)) (s := s) hsep.2 (by omega) (by omega) hs0
  have hsep2 := wrote_sep hok
  have hend : ∀ p ∈ wroteP (n.dat ++ [⟨(a : Int), s⟩]), p.pos + p.dat.length ≤ (max size (a + s.length) : Nat) := by
    intro p hp
    have hpo := hsep2.2 p hp
    have hlast : MemP (wroteP (n.dat ++ [⟨(a : Int), s⟩])) (p.pos + p.dat.length - 1) := ⟨p, hp, by have := List.length_pos_iff.2 hpo.1; unfold InP; omega⟩
    rw [wrote_mem hok, memP_append, memP_one] at hlast
    rcases hlast with ⟨x, hx, hi⟩ | hi
    · have := file_end h.file x hx
      rw [h.kind] at this
      unfold InP at hi; omega
    · unfold InP at hi; simp only at hi; omega
  have hpos : ∀ p ∈ wroteP (n.dat ++ [⟨(a : Int), s⟩]), (0 : Int) ≤ p.pos ∧ p.pos + p.dat.length ≤ (540 : Nat) := fun p hp => ⟨(hsep2.2 p hp).2.1, by have := hend p hp; have := h.le; omega⟩
  have hby : bytesP (wroteP (n.dat ++ [⟨(a : Int), s⟩])) ≤ 540 := by
    have := sep_bytes (lo := 0) (hi := (540 : Nat)) hsep2 hpos (by omega)
    omega
  have e1 := wrote_bytes hok
  have e2 := wrote_len (n.dat ++ [(⟨(a : Int), s⟩ : Piece)])
  by_cases h16 : (wroteP (n.dat ++ [⟨(a : Int), s⟩])).length ≤ 16
  · right
    refine ⟨_, writeN_do h.file (by omega) (by omega) hs0 rfl (by omega) h16, ?_⟩
    have hsz : max n.size ((a : Int) + s.length) = ((max size (a + s.length) : Nat) : Int) := by rw [h.kind]; omega
    rw [hsz, if_pos hsl]
    have hshape : ({ n with size := ((max size (a + s.length) : Nat) : Int), dat := wroteP (n.dat ++ [⟨(a : Int), s⟩]) } : FNode) = ⟨2, zm, ((max size (a + s.length) : Nat) : Int), wroteP (n.dat ++ [⟨(a : Int), s⟩]), [], 0, 0⟩ := by
      rw [h.shape]
    have hml : (s.map fun _ => true).length = s.length := by simp
    rw [hshape]
    refine ⟨rfl, isFile_of mayZ hsep2 h16 (by omega) (by omega) (by have := h.le; omega) hend, by rw [ovl_len (by rw [h.bl]; omega), h.bl], by rw [ovl_len (by rw [h.il, hml]; omega), h.il], by have := h.le; omega, fun q hq => ?_, fun q hq => ?_⟩
    · simp only
      rw [wrote_val hok, valAt_snoc, ovl_get (by rw [h.bl]; omega)]
      by_cases hc : a ≤ q ∧ q < a + s.length
      · rw [if_pos hc, if_pos (by omega)]
        have : ((q : Int) - a).toNat = q - a := by omega
        rw [this]
        obtain ⟨c, hcc⟩ : ∃ c, s[q - a]? = some c := ⟨_, List.getElem?_eq_getElem (by omega)⟩
        rw [hcc]; rfl
      · rw [if_neg hc, if_neg (by omega)]; exact h.val q hq
    · simp only
      rw [ovl_get (by rw [h.il, hml]; omega), hml]
      by_cases hc : a ≤ q ∧ q < a + s.length
      · rw [if_pos hc, List.getElem?_map]
        obtain ⟨c, hcc⟩ : ∃ c, s[q - a]? = some c := ⟨_, List.getElem?_eq_getElem (by omega)⟩
        rw [hcc]
        refine ⟨true, rfl, ⟨fun _ => ?_, fun _ => rfl⟩⟩
        rw [wrote_mem hok, memP_append, memP_one]
        right; unfold InP; simp only; omega
      · rw [if_neg hc]
        obtain ⟨t, ht, hti⟩ := h.mem q hq
        refine ⟨t, ht, ?_⟩
        rw [hti, wrote_mem hok, memP_append, memP_one]
        constructor
        · exact .inl
        · rintro (c | c)
          · exact c
          · unfold InP at c; simp only at c; omega
  · left
    have h17 : 16 < (mergedW (n.dat ++ [⟨(a : Int), s⟩])).length := by omega
    refine ⟨?_, ?_⟩
    · unfold writeN
      rw [h.file, if_neg (by simp; omega), if_neg (by omega), if_neg hs0, if_pos (.inr h17)]
    · have := norm_len (exts (n.dat ++ [⟨(a : Int), s⟩]))
      unfold exts at this
      rw [List.length_map, List.length_append] at this
      have h3 : (mergedW (n.dat ++ [⟨(a : Int), s⟩])).length ≤ n.dat.length + 1 := this
      omega
theorem play_cut {n : FNode} {b : List UInt8} {is : List Bool} {size : Nat} (h : Play n b is size) {a : Nat} (ha : a < 500) :
    ∃ m, cutN n a = (m, 0) ∧ Play m (ovl b a (List.replicate (600 - a) 0)) (ovl is a (List.replicate (600 - a) false)) a := by
  have hsep := file_sep h.file
  obtain ⟨hs1, hs2⟩ := cut_sep (s := (a : Int)) hsep
  have hshape : ({ n with size := (a : Int), dat := cutP n.dat a } : FNode) = ⟨2, zm, (a : Int), cutP n.dat a, [], 0, 0⟩ := by rw [h.shape]
  refine ⟨⟨2, zm, (a : Int), cutP n.dat a, [], 0, 0⟩, ?_, ?_⟩
  · unfold cutN
    rw [h.file, if_neg (by simp; omega), hshape]
  have hend : ∀ p ∈ cutP n.dat a, p.pos + p.dat.length ≤ (a : Int) := fun p hp => by obtain ⟨x, _, _, h2⟩ := hs2 p hp; exact h2
  have hby : (bytesP (cutP n.dat a) : Int) ≤ a - 0 := sep_bytes hs1 (fun p hp => ⟨(hs1.2 p hp).2.1, hend p hp⟩) (by omega)
  have hln : (cutP n.dat a).length ≤ n.dat.length := by
    unfold cutP; rw [List.length_map]; exact (List.takeWhile_sublist _).length_le
  have h16 := h.bytes
  refine ⟨rfl, isFile_of mayZ hs1 (by omega) (by omega) (by omega) (by omega) hend, by rw [ovl_len (by rw [h.bl]; simp; omega), h.bl], by rw [ovl_len (by rw [h.il]; simp; omega), h.il], by omega, fun q hq => ?_, fun q hq => ?_⟩
  · simp only
    rw [(cut_val hsep q).2, ovl_get (by rw [h.bl]; simp; omega), List.length_replicate]
    by_cases hc : a ≤ q
    · rw [if_pos (by omega), if_neg (by omega), List.getElem?_replicate, if_pos (by omega)]
    · rw [if_neg (by omega), if_pos (by omega)]; exact h.val q hq
  · simp only
    rw [ovl_get (by rw [h.il]; simp; omega), List.length_replicate]
    by_cases hc : a ≤ q
    · rw [if_pos (by omega), List.getElem?_replicate, if_pos (by omega)]
      refine ⟨false, rfl, ⟨fun c => (by cases c), fun c => ?_⟩⟩
      rw [(cut_val hsep q).1] at c
      omega
    · rw [if_neg (by omega)]
      obtain ⟨t, ht, hti⟩ := h.mem q hq
      refine ⟨t, ht, ?_⟩
      rw [hti, (cut_val hsep q).1]
      exact ⟨fun c => ⟨c, by omega⟩, fun c => c.1⟩
theorem play_read {n : FNode} {b : List UInt8} {is : List Bool} {size : Nat} (h : Play n b is size) : readN n 0 600 = (b.take size, 0) := by
  have h1 := readN_file h.file (a := 0) (x := 600) (by omega) (by omega)
  rw [show ((600 : Nat) : Int) = 600 from rfl] at h1
  have hle := h.le
  have h2 : (min (600 : Int) (n.size - 0)).toNat = size := by rw [h.kind]; omega
  rw [h1, h2]
  congr 1
  rw [readB_eq]
  apply List.ext_getElem?
  intro i
  by_cases hi : i < size
  · rw [List.getElem?_map, List.getElem?_range hi, List.getElem?_take_of_lt hi, h.val i (by omega)]
    simp
  · rw [List.getElem?_eq_none (by simp; omega), List.getElem?_eq_none (by rw [List.length_take]; omega)]
theorem play_may {n : FNode} {b : List UInt8} {is : List Bool} {size : Nat} (h : Play n b is size) : mayN n = true := by
  have := h.file
  unfold isFileN at this
  simp only [Bool.and_eq_true] at this
  exact this.2
theorem play_has {n : FNode} {b : List UInt8} {is : List Bool} {size : Nat} (h : Play n b is size) {q : Nat} (hq : q < 600) : is[q]? = some (hasE (extN n) q) := by
  obtain ⟨t, ht, hti⟩ := h.mem q hq
  rw [ht]
  congr 1
  rw [Bool.eq_iff_iff, hti, hasE_iff]
  exact (exts_mem (file_okP h.file)).symm
theorem play_sep {n : FNode} {b : List UInt8} {is : List Bool} {size : Nat} (h : Play n b is size) : Sep (extN n) ∧ ∀ e ∈ extN n, fin e ≤ big := by
  refine ⟨exts_sep (file_sep h.file), fun e he => ?_⟩
  obtain ⟨p, hp, rfl⟩ := List.mem_map.1 he
  have hpo := file_okP h.file p hp
  obtain ⟨e1, e2, e3⟩ := okP_ext hpo
  have := hpo.2.2
  unfold fin big; simp only; omega
end Go.Proofs.Ytaeefaehpfjmlaa
