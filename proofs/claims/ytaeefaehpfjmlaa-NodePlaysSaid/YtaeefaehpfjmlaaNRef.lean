import Derived.Test.YtaeefaehpfjmlaaNRead
section
set_option linter.unusedSimpArgs false
set_option linter.unusedVariables false
namespace Go.Proofs.Ytaeefaehpfjmlaa.NodeSpec
open GSort AclSpec MetaSpec Ext

def InP (p : Piece) (q : Int) : Prop := p.pos ≤ q ∧ q < p.pos + p.dat.length
instance (p : Piece) (q : Int) : Decidable (InP p q) := inferInstanceAs (Decidable (_ ∧ _))
def MemP (l : List Piece) (q : Int) : Prop := ∃ p ∈ l, InP p q
def DisP (l : List Piece) : Prop := l.Pairwise (fun (x y : Piece) => x.pos + x.dat.length ≤ y.pos) ∧ ∀ p ∈ l, okP p
def SepP (l : List Piece) : Prop := l.Pairwise (fun (x y : Piece) => x.pos + x.dat.length < y.pos) ∧ ∀ p ∈ l, okP p
theorem SepP.dis {l : List Piece} (h : SepP l) : DisP l := ⟨h.1.imp (fun h => by omega), h.2⟩
theorem SepP.tail {x : Piece} {l : List Piece} (h : SepP (x :: l)) : SepP l := ⟨(List.pairwise_cons.1 h.1).2, fun p hp => h.2 p (List.mem_cons_of_mem _ hp)⟩
theorem DisP.tail {x : Piece} {l : List Piece} (h : DisP (x :: l)) : DisP l := ⟨(List.pairwise_cons.1 h.1).2, fun p hp => h.2 p (List.mem_cons_of_mem _ hp)⟩
theorem memP_cons {x : Piece} {l : List Piece} {q : Int} : MemP (x :: l) q ↔ InP x q ∨ MemP l q := by unfold MemP; simp
theorem memP_append {l m : List Piece} {q : Int} : MemP (l ++ m) q ↔ MemP l q ∨ MemP m q := by unfold MemP; simp [or_and_right, exists_or]
theorem memP_nil {q : Int} : ¬ MemP [] q := fun ⟨_, h, _⟩ => by cases h
theorem cov_in {p : Piece} {q : Int} (h : InP p q) : cov p q = p.dat[(q - p.pos).toNat]? := if_pos h
theorem cov_out {p : Piece} {q : Int} (h : ¬ InP p q) : cov p q = none := if_neg h
theorem InP.get {p : Piece} {q : Int} (h : InP p q) : ∃ c, p.dat[(q - p.pos).toNat]? = some c := ⟨_, List.getElem?_eq_getElem (by unfold InP at h; omega)⟩
def valF (q : Int) (v : UInt8) (p : Piece) : UInt8 := (cov p q).getD v
theorem valAt_fold (l : List Piece) (q : Int) : valAt l q = l.foldl (valF q) 0 := rfl
theorem fold_out {q : Int} : ∀ {l : List Piece} {v : UInt8}, ¬ MemP l q → l.foldl (valF q) v = v
  | [], _, _ => rfl
  | x :: r, v, h => by
    rw [memP_cons] at h
    rw [List.foldl_cons, show valF q v x = v from by unfold valF; rw [cov_out (fun c => h (.inl c))]; rfl]
    exact fold_out fun c => h (.inr c)
theorem valAt_out {l : List Piece} {q : Int} (h : ¬ MemP l q) : valAt l q = 0 := fold_out h
theorem valAt_append (l m : List Piece) (q : Int) : valAt (l ++ m) q = m.foldl (valF q) (valAt l q) := by rw [valAt_fold, List.foldl_append]; rfl
theorem fold_in {q : Int} : ∀ {l : List Piece} {v : UInt8} {p : Piece}, DisP l → p ∈ l → InP p q → l.foldl (valF q) v = (p.dat[(q - p.pos).toNat]?).getD 0
  | [], _, _, _, h, _ => by cases h
  | x :: r, v, p, hd, hp, hi => by
    have hr := (List.pairwise_cons.1 hd.1).1
    rcases List.mem_cons.1 hp with rfl | hp
    · have hn : ¬ MemP r q := fun ⟨y, hy, h1, h2⟩ => by have := hr y hy; unfold InP at hi; omega
      rw [List.foldl_cons, fold_out hn]
      unfold valF
      obtain ⟨c, hc⟩ := hi.get
      rw [cov_in hi, hc]; rfl
    · exact fold_in (v := valF q v x) hd.tail hp hi
theorem valAt_in {l : List Piece} {q : Int} {p : Piece} (h : DisP l) (hp : p ∈ l) (hi : InP p q) : valAt l q = (p.dat[(q - p.pos).toNat]?).getD 0 := fold_in h hp hi
theorem valAt_cons {x : Piece} {l : List Piece} {q : Int} (h : DisP (x :: l)) : valAt (x :: l) q = if InP x q then (x.dat[(q - x.pos).toNat]?).getD 0 else valAt l q := by
  split
  · rename_i hi; exact valAt_in h (by simp) hi
  · rename_i hi
    rw [valAt_fold, List.foldl_cons, show valF q 0 x = 0 from by unfold valF; rw [cov_out hi]; rfl]; rfl

theorem exts_mem {l : List Piece} (h : ∀ p ∈ l, okP p) {q : Nat} : Mem (exts l) q ↔ MemP l q := by
  constructor
  · rintro ⟨e, he, h1, h2⟩
    obtain ⟨p, hp, rfl⟩ := List.mem_map.1 he
    obtain ⟨e1, e2, e3⟩ := okP_ext (h p hp)
    refine ⟨p, hp, ?_⟩
    unfold InP fin at *; simp only at *; omega
  · rintro ⟨p, hp, h1, h2⟩
    obtain ⟨e1, e2, e3⟩ := okP_ext (h p hp)
    refine ⟨_, List.mem_map.2 ⟨p, hp, rfl⟩, ?_⟩
    unfold fin; simp only; omega
theorem exts_sep {l : List Piece} (h : SepP l) : Sep (exts l) := by
  refine ⟨?_, fun e he => ?_⟩
  · unfold exts
    rw [List.pairwise_map]
    refine h.1.imp_of_mem ?_
    intro a b ha hb hab
    obtain ⟨e1, e2, _⟩ := okP_ext (h.2 a ha)
    obtain ⟨f1, f2, _⟩ := okP_ext (h.2 b hb)
    unfold fin; simp only; omega
  · obtain ⟨p, hp, rfl⟩ := List.mem_map.1 he
    obtain ⟨e1, e2, e3⟩ := okP_ext (h.2 p hp)
    simp only; omega
theorem chk_pair : ∀ {l : List E} {last size : Int}, chkE last l size = true → l.Pairwise (fun x y => fin x < y.1) ∧ ∀ e ∈ l, last < e.1 ∧ 0 < e.2
  | [], _, _, _ => ⟨List.Pairwise.nil, by simp⟩
  | x :: r, last, size, h => by
    unfold chkE at h
    split at h
    · cases h
    · rename_i hx
      obtain ⟨h1, h2⟩ := chk_pair h
      refine ⟨List.pairwise_cons.2 ⟨fun y hy => by have := (h2 y hy).1; omega, h1⟩, fun e he => ?_⟩
      rcases List.mem_cons.1 he with rfl | he
      · omega
      · have := h2 e he; unfold fin at this; omega
theorem file_sep {n : FNode} (h : isFileN n = true) : SepP n.dat := by
  have hok := file_okP h
  obtain ⟨_, _, _, _, _, _, h5, _⟩ := isFile_ok h
  unfold mayE at h5
  simp only [Bool.and_eq_true] at h5
  obtain ⟨h6, _⟩ := chk_pair h5.2
  refine ⟨?_, hok⟩
  unfold extN at h6
  rw [List.pairwise_map] at h6
  refine h6.imp_of_mem ?_
  intro a b ha hb hab
  obtain ⟨e1, e2, _⟩ := okP_ext (hok a ha)
  obtain ⟨f1, f2, _⟩ := okP_ext (hok b hb)
  unfold fin at hab; simp only at hab; omega
theorem file_end {n : FNode} (h : isFileN n = true) : ∀ p ∈ n.dat, p.pos + p.dat.length ≤ n.size := by
  intro p hp
  have hok := file_okP h
  obtain ⟨_, _, _, _, _, _, h5, _⟩ := isFile_ok h
  unfold mayE at h5
  simp only [Bool.and_eq_true] at h5
  have := chk_fin h5.2 _ (List.mem_map.2 ⟨p, hp, rfl⟩)
  obtain ⟨e1, e2, _⟩ := okP_ext (hok p hp)
  unfold fin at this; simp only at this; omega
theorem isFile_of {z : Int} {mt : FMeta} {l : List Piece} (hm : mayM mt = true) (h : SepP l) (h16 : l.length ≤ 16) (hb : bytesP l ≤ 4000) (h0 : 0 ≤ z) (hz : z ≤ 1099511627776) (he : ∀ p ∈ l, p.pos + p.dat.length ≤ z) : isFileN ⟨2, mt, z, l, [], 0, 0⟩ = true := by
  have hf : mayFileN ⟨2, mt, z, l, [], 0, 0⟩ = true := by
    unfold mayFileN
    simp only [Bool.and_eq_true, Bool.not_eq_true', decide_eq_true_eq, decide_eq_false_iff_not, List.all_eq_true]
    refine ⟨⟨⟨⟨⟨by omega, by omega⟩, by omega⟩, fun p hp => ?_⟩, hb⟩, ?_⟩
    · obtain ⟨a1, a2, a3⟩ := h.2 p hp
      unfold okPiece
      simp only [Bool.and_eq_true, Bool.not_eq_true', decide_eq_false_iff_not]
      exact ⟨⟨a1, by omega⟩, by omega⟩
    · refine mayE_sep h0 (by unfold Flo.big; omega) (exts_sep h) fun e hx => ?_
      obtain ⟨p, hp, rfl⟩ := List.mem_map.1 hx
      obtain ⟨e1, e2, e3⟩ := okP_ext (h.2 p hp)
      have := he p hp
      unfold fin; simp only; omega
  unfold isFileN mayN
  rw [hf, hm]
  rfl

def wroteP (ps : List Piece) : List Piece := (mergedW ps).map fun z => ⟨z.1, roomW ps z⟩
theorem roomW_full {ps : List Piece} (h : ∀ p ∈ ps, okP p) {z : E} (hz : z ∈ mergedW ps) : (roomW ps z).length = z.2 := by
  have := roomW_len h hz ps.length
  rwa [List.take_length] at this
theorem merged_ok {ps : List Piece} : Normed Flo.big (keptE Flo.big (exts ps)) (mergedW ps) := normE_ok _ _
theorem merged_mem {ps : List Piece} (h : ∀ p ∈ ps, okP p) {q : Nat} : Mem (mergedW ps) q ↔ MemP ps q := by
  show Mem (normE _ _) q ↔ _
  rw [mem_norm, exts_mem h]
  refine ⟨fun h => h.1, fun hm => ⟨hm, ?_⟩⟩
  obtain ⟨p, hp, h1, h2⟩ := hm
  have := (h p hp).2.2
  unfold Flo.big; omega
theorem roomStep_get {ps : List Piece} (h : ∀ p ∈ ps, okP p) {z : E} (hz : z ∈ mergedW ps) {p : Piece} (hp : p ∈ ps) {r : List UInt8} (hr : r.length = z.2) {i : Nat} {v : UInt8} (hi : i < z.2) (hv : r[i]? = some v) :
    (roomStep z r p)[i]? = some (valF (z.1 + i) v p) := by
  unfold roomStep valF
  split
  · rename_i hc
    have hin := inside h hz hp hc.1 hc.2
    unfold fin at hin
    rw [overlay_get (by omega)]
    by_cases hq : InP p (z.1 + i)
    · rw [cov_in hq, if_pos (by unfold InP at hq; omega)]
      obtain ⟨c, hcc⟩ := hq.get
      rw [hcc]
      have : i - (p.pos - (z.1 : Int)).toNat = ((z.1 : Int) + i - p.pos).toNat := by unfold InP at hq; omega
      rw [this, hcc]; rfl
    · rw [cov_out hq, if_neg (by unfold InP at hq; omega)]; exact hv
  · rename_i hc
    have hq : ¬ InP p (z.1 + i) := by
      intro hq
      have hlt : p.pos < z.1 := by unfold InP at hq; unfold fin at hc; omega
      obtain ⟨e1, e2, e3⟩ := okP_ext (h p hp)
      have hm : Mem (mergedW ps) p.pos.toNat := (merged_mem h).2 ⟨p, hp, by have := (h p hp).2.1; unfold InP; omega⟩
      obtain ⟨e, he, k1, k2⟩ := hm
      have h0 := (h p hp).2.1
      have hin := inside h he hp (by omega) (by unfold fin at *; omega)
      have hn := merged_ok (ps := ps)
      have hne : e ≠ z := by rintro rfl; omega
      have hsep : fin e < z.1 ∨ fin z < e.1 := by
        obtain ⟨i', hi', rfl⟩ := List.mem_iff_getElem.1 he
        obtain ⟨j', hj', rfl⟩ := List.mem_iff_getElem.1 hz
        rcases Nat.lt_trichotomy i' j' with h | h | h
        · exact .inl ((List.pairwise_iff_getElem.1 hn.sep.1) i' j' hi' hj' h)
        · subst h; exact absurd rfl hne
        · exact .inr ((List.pairwise_iff_getElem.1 hn.sep.1) j' i' hj' hi' h)
      unfold InP fin at *
      omega
    rw [cov_out hq]; exact hv
theorem roomW_get {ps : List Piece} (h : ∀ p ∈ ps, okP p) {z : E} (hz : z ∈ mergedW ps) {i : Nat} (hi : i < z.2) : (roomW ps z)[i]? = some (valAt ps (z.1 + i)) := by
  unfold roomW
  rw [valAt_fold]
  have key : ∀ (l : List Piece) (r : List UInt8) (v : UInt8), (∀ p ∈ l, p ∈ ps) → r.length = z.2 → r[i]? = some v → (l.foldl (roomStep z) r)[i]? = some (l.foldl (valF (z.1 + i)) v) := by
    intro l
    induction l with
    | nil => intro r v _ _ h; exact h
    | cons p l ih =>
      intro r v hs hl hv
      exact ih _ _ (fun x hx => hs x (by simp [hx])) (roomStep_len h hz (hs p (by simp)) hl) (roomStep_get h hz (hs p (by simp)) hl hi hv)
  exact key ps _ _ (fun _ h => h) (by simp) (by rw [List.getElem?_replicate, if_pos hi])
theorem wrote_sep {ps : List Piece} (h : ∀ p ∈ ps, okP p) : SepP (wroteP ps) := by
  have hn := merged_ok (ps := ps)
  refine ⟨?_, fun p hp => ?_⟩
  · unfold wroteP
    rw [List.pairwise_map]
    refine hn.sep.1.imp_of_mem ?_
    intro a b ha hb hab
    simp only [roomW_full h ha]
    unfold fin at hab; omega
  · obtain ⟨z, hz, rfl⟩ := List.mem_map.1 hp
    have hl := roomW_full h hz
    have h0 := hn.sep.2 z hz
    have hf := hn.le z hz
    refine ⟨fun hc => ?_, by simp only; omega, ?_⟩
    · rw [show roomW ps z = [] from hc] at hl; simp at hl; omega
    · simp only [hl]; unfold fin Flo.big at hf; omega
theorem wrote_mem {ps : List Piece} (h : ∀ p ∈ ps, okP p) {q : Int} : MemP (wroteP ps) q ↔ MemP ps q := by
  have key : ∀ q : Nat, MemP (wroteP ps) q ↔ MemP ps q := by
    intro q
    rw [← merged_mem h]
    constructor
    · rintro ⟨p, hp, h1, h2⟩
      obtain ⟨z, hz, rfl⟩ := List.mem_map.1 hp
      have hl := roomW_full h hz
      simp only [hl] at h1 h2
      exact ⟨z, hz, by omega, by unfold fin; omega⟩
    · rintro ⟨z, hz, h1, h2⟩
      have hl := roomW_full h hz
      refine ⟨_, List.mem_map.2 ⟨z, hz, rfl⟩, ?_⟩
      unfold InP; simp only [hl]; unfold fin at h2; omega
  by_cases hq : 0 ≤ q
  · have := key q.toNat
    rwa [Int.toNat_of_nonneg hq] at this
  · constructor
    · rintro ⟨p, hp, h1, h2⟩; have := ((wrote_sep h).2 p hp).2.1; omega
    · rintro ⟨p, hp, h1, h2⟩; have := (h p hp).2.1; omega
theorem wrote_val {ps : List Piece} (h : ∀ p ∈ ps, okP p) (q : Int) : valAt (wroteP ps) q = valAt ps q := by
  by_cases hm : MemP (wroteP ps) q
  · obtain ⟨p, hp, hi⟩ := hm
    rw [valAt_in (wrote_sep h).dis hp hi]
    obtain ⟨z, hz, rfl⟩ := List.mem_map.1 hp
    have hl := roomW_full h hz
    unfold InP at hi
    simp only [hl] at hi
    simp only
    rw [roomW_get h hz (by omega), Option.getD_some]
    congr 1; omega
  · rw [valAt_out hm, valAt_out fun c => hm ((wrote_mem h).2 c)]
theorem wrote_len (ps : List Piece) : (wroteP ps).length = (mergedW ps).length := by simp [wroteP]
theorem wrote_bytes {ps : List Piece} (h : ∀ p ∈ ps, okP p) : bytesP (wroteP ps) = sumW (mergedW ps) := by
  unfold bytesP wroteP sumW
  rw [List.map_map]
  congr 1
  apply List.map_congr_left
  intro z hz
  exact roomW_full h hz
theorem memP_one {x : Piece} {q : Int} : MemP [x] q ↔ InP x q := by unfold MemP; simp
theorem valAt_snoc (l : List Piece) (a : Int) (s : List UInt8) (q : Int) : valAt (l ++ [⟨a, s⟩]) q = if a ≤ q ∧ q < a + s.length then (s[(q - a).toNat]?).getD 0 else valAt l q := by
  rw [valAt_append]
  show valF q _ _ = _
  unfold valF
  split
  · rename_i h
    have hi : InP ⟨a, s⟩ q := h
    obtain ⟨c, hc⟩ := hi.get
    simp only at hc
    rw [cov_in hi, hc]
    rfl
  · rename_i h
    rw [cov_out (p := ⟨a, s⟩) h]; rfl

theorem cutP_nil (s : Int) : cutP [] s = [] := rfl
theorem cutP_cons (x : Piece) (l : List Piece) (s : Int) : cutP (x :: l) s = if x.pos < s then ⟨x.pos, x.dat.take (min (x.dat.length : Int) (s - x.pos)).toNat⟩ :: cutP l s else [] := by
  unfold cutP
  rw [List.takeWhile_cons]
  by_cases h : x.pos < s
  · rw [decide_eq_true h, if_pos rfl, if_pos h]; rfl
  · rw [decide_eq_false h, if_neg (by decide), if_neg h]; rfl
theorem take_len {l : List UInt8} {s a : Int} (h : a < s) : ((l.take (min (l.length : Int) (s - a)).toNat).length : Int) = min (l.length : Int) (s - a) := by
  rw [List.length_take]; omega
theorem cut_sep : ∀ {l : List Piece} {s : Int}, SepP l → SepP (cutP l s) ∧ ∀ p ∈ cutP l s, ∃ x ∈ l, x.pos = p.pos ∧ p.pos + p.dat.length ≤ s
  | [], s, h => ⟨h, by intro p hp; cases hp⟩
  | x :: r, s, h => by
    obtain ⟨ih, il⟩ := cut_sep (s := s) h.tail
    rw [cutP_cons]
    split
    · rename_i hx
      have hl := take_len (l := x.dat) hx
      have hr := (List.pairwise_cons.1 h.1).1
      obtain ⟨a1, a2, a3⟩ := h.2 x (by simp)
      have hp0 : 0 < x.dat.length := List.length_pos_iff.2 a1
      refine ⟨⟨List.pairwise_cons.2 ⟨fun p hp => ?_, ih.1⟩, fun p hp => ?_⟩, fun p hp => ?_⟩
      · obtain ⟨y, hy, hy1, hy2⟩ := il p hp
        have := hr y hy
        simp only [hl]; omega
      · rcases List.mem_cons.1 hp with rfl | hp
        · refine ⟨fun hc => ?_, a2, by simp only [hl]; omega⟩
          simp only at hc
          rw [hc] at hl; simp at hl; omega
        · exact ih.2 p hp
      · rcases List.mem_cons.1 hp with rfl | hp
        · exact ⟨x, by simp, rfl, by simp only [hl]; omega⟩
        · obtain ⟨y, hy, hy1⟩ := il p hp
          exact ⟨y, by simp [hy], hy1⟩
    · exact ⟨⟨List.Pairwise.nil, by simp⟩, by simp⟩
theorem cut_val : ∀ {l : List Piece} {s : Int}, SepP l → ∀ q, (MemP (cutP l s) q ↔ MemP l q ∧ q < s) ∧ valAt (cutP l s) q = if q < s then valAt l q else 0
  | [], s, h, q => by
    rw [cutP_nil]
    refine ⟨⟨fun c => absurd c memP_nil, fun c => absurd c.1 memP_nil⟩, ?_⟩
    split <;> rfl
  | x :: r, s, h, q => by
    obtain ⟨i1, i2⟩ := cut_val (s := s) h.tail q
    have hs := (cut_sep (s := s) h).1
    rw [cutP_cons] at hs ⊢
    have hr := (List.pairwise_cons.1 h.1).1
    split
    · rename_i hx
      rw [if_pos hx] at hs
      have hl := take_len (l := x.dat) hx
      have hin : InP ⟨x.pos, x.dat.take (min (x.dat.length : Int) (s - x.pos)).toNat⟩ q ↔ InP x q ∧ q < s := by
        unfold InP; simp only [hl]; omega
      rw [memP_cons, memP_cons, hin, i1, valAt_cons hs.dis, valAt_cons h.dis]
      refine ⟨⟨fun c => ?_, fun c => ?_⟩, ?_⟩
      · rcases c with c | c
        · exact ⟨.inl c.1, c.2⟩
        · exact ⟨.inr c.1, c.2⟩
      · rcases c.1 with d | d
        · exact .inl ⟨d, c.2⟩
        · exact .inr ⟨d, c.2⟩
      · by_cases hq : q < s
        · rw [if_pos hq]
          by_cases hx2 : InP x q
          · rw [if_pos (hin.2 ⟨hx2, hq⟩), if_pos hx2]
            simp only
            rw [List.getElem?_take_of_lt (by unfold InP at hx2; omega)]
          · rw [if_neg (fun c => hx2 (hin.1 c).1), if_neg hx2, i2, if_pos hq]
        · rw [if_neg hq, if_neg (fun c => hq (hin.1 c).2), i2, if_neg hq]
    · rename_i hx
      have hno : ∀ q, q < s → ¬ MemP (x :: r) q := by
        rintro q hq ⟨p, hp, h1, h2⟩
        rcases List.mem_cons.1 hp with rfl | hp
        · omega
        · have := hr p hp; have := (h.2 x (by simp)).1; have := List.length_pos_iff.2 this; omega
      refine ⟨⟨fun c => absurd c memP_nil, fun c => absurd c.1 (hno q c.2)⟩, ?_⟩
      split
      · rename_i hq; rw [valAt_out (hno q hq)]; rfl
      · rfl
end Go.Proofs.Ytaeefaehpfjmlaa.NodeSpec
end
section
set_option linter.unusedSimpArgs false
set_option linter.unusedVariables false
namespace Go.Proofs.Ytaeefaehpfjmlaa.NodeSpec
open GSort AclSpec MetaSpec Ext

def stepJ (out : List Piece) (p : Piece) : List Piece :=
  match out.getLast? with
  | none => out ++ [p]
  | some y => if y.pos + y.dat.length = p.pos then out.dropLast ++ [⟨y.pos, y.dat ++ p.dat⟩] else out ++ [p]
theorem stepJ_snoc (r : List Piece) (y p : Piece) : stepJ (r ++ [y]) p = if y.pos + y.dat.length = p.pos then r ++ [⟨y.pos, y.dat ++ p.dat⟩] else r ++ [y] ++ [p] := by
  unfold stepJ; simp
structure Joins (s out : List Piece) : Prop where
  sep : SepP out
  mem : ∀ q, MemP out q ↔ MemP s q
  val : ∀ q, valAt out q = valAt s q
  fin : ∀ y ∈ out, ∃ x ∈ s, y.pos + y.dat.length = x.pos + x.dat.length
theorem valAt_snoc' (l : List Piece) (p : Piece) (q : Int) : valAt (l ++ [p]) q = if InP p q then (p.dat[(q - p.pos).toNat]?).getD 0 else valAt l q := valAt_snoc l p.pos p.dat q
theorem Joins.step {s out : List Piece} {p : Piece} (h : Joins s out) (hp : okP p) (hs : ∀ x ∈ s, x.pos + x.dat.length ≤ p.pos) : Joins (s ++ [p]) (stepJ out p) := by
  have hm : ∀ q, MemP (s ++ [p]) q ↔ MemP s q ∨ InP p q := fun q => by rw [memP_append, memP_one]
  have hle : ∀ y ∈ out, y.pos + y.dat.length ≤ p.pos := fun y hy => by obtain ⟨x, hx, e⟩ := h.fin y hy; rw [e]; exact hs x hx
  have hp0 : 0 < p.dat.length := List.length_pos_iff.2 hp.1
  cases hl : out.getLast? with
  | none =>
    have : out = [] := List.getLast?_eq_none_iff.1 hl
    subst this
    have e : stepJ [] p = [p] := rfl
    rw [e]
    refine ⟨⟨List.pairwise_singleton _ _, fun x hx => by simp only [List.mem_singleton] at hx; subst hx; exact hp⟩, fun q => ?_, fun q => ?_, fun y hy => ?_⟩
    · rw [hm, ← h.mem, memP_one]
      exact ⟨.inr, fun c => c.elim (fun d => absurd d memP_nil) id⟩
    · rw [valAt_snoc', ← h.val]; exact valAt_snoc' [] p q
    · simp only [List.mem_singleton] at hy; subst hy; exact ⟨y, by simp, rfl⟩
  | some y =>
    obtain ⟨r, rfl⟩ : ∃ r, out = r ++ [y] := ⟨_, snoc_of_last hl⟩
    rw [stepJ_snoc]
    have hy := h.sep.2 y (by simp)
    have hyl := hle y (by simp)
    have hy0 : 0 < y.dat.length := List.length_pos_iff.2 hy.1
    obtain ⟨hp1, hp2, hp3⟩ := List.pairwise_append.1 h.sep.1
    by_cases c1 : y.pos + y.dat.length = p.pos
    · rw [if_pos c1]
      have hlen : ((y.dat ++ p.dat).length : Int) = y.dat.length + p.dat.length := by simp
      refine ⟨⟨List.pairwise_append.2 ⟨hp1, List.pairwise_singleton _ _, fun a ha b hb => ?_⟩, fun x hx => ?_⟩, fun q => ?_, fun q => ?_, fun x hx => ?_⟩
      · simp only [List.mem_singleton] at hb; subst hb; exact hp3 a ha y (by simp)
      · rcases List.mem_append.1 hx with hx | hx
        · exact h.sep.2 x (by simp [hx])
        · simp only [List.mem_singleton] at hx; subst hx
          refine ⟨fun hc => ?_, hy.2.1, ?_⟩
          · simp only at hc
            rw [hc] at hlen; simp only [List.length_nil] at hlen; omega
          · simp only [hlen]; have := hp.2.2; omega
      · rw [hm, ← h.mem, memP_append, memP_append, memP_one, memP_one]
        have : InP ⟨y.pos, y.dat ++ p.dat⟩ q ↔ InP y q ∨ InP p q := by unfold InP; simp only [hlen]; omega
        rw [this, or_assoc]
      · rw [valAt_snoc', valAt_snoc', ← h.val, valAt_snoc']
        by_cases i1 : InP p q
        · have i2 : InP ⟨y.pos, y.dat ++ p.dat⟩ q := by unfold InP at *; simp only [hlen]; omega
          rw [if_pos i2, if_pos i1]
          simp only
          unfold InP at i1
          rw [List.getElem?_append_right (by omega)]
          congr 2; omega
        · by_cases i3 : InP y q
          · have i2 : InP ⟨y.pos, y.dat ++ p.dat⟩ q := by unfold InP at *; simp only [hlen]; omega
            rw [if_pos i2, if_neg i1, if_pos i3]
            simp only
            unfold InP at i3
            rw [List.getElem?_append_left (by omega)]
          · have i2 : ¬ InP ⟨y.pos, y.dat ++ p.dat⟩ q := by unfold InP at *; simp only [hlen]; omega
            rw [if_neg i2, if_neg i1, if_neg i3]
      · rcases List.mem_append.1 hx with hx | hx
        · obtain ⟨z, hz, e⟩ := h.fin x (by simp [hx]); exact ⟨z, by simp [hz], e⟩
        · simp only [List.mem_singleton] at hx; subst hx
          exact ⟨p, by simp, by simp only [hlen]; omega⟩
    · rw [if_neg c1]
      refine ⟨⟨List.pairwise_append.2 ⟨h.sep.1, List.pairwise_singleton _ _, fun a ha b hb => ?_⟩, fun x hx => ?_⟩, fun q => ?_, fun q => ?_, fun x hx => ?_⟩
      · simp only [List.mem_singleton] at hb; subst hb
        rcases List.mem_append.1 ha with ha | ha
        · have := hp3 a ha y (by simp); omega
        · simp only [List.mem_singleton] at ha; subst ha; omega
      · rcases List.mem_append.1 hx with hx | hx
        · exact h.sep.2 x hx
        · simp only [List.mem_singleton] at hx; subst hx; exact hp
      · rw [hm, ← h.mem, memP_append (l := r ++ [y]), memP_one]
      · rw [valAt_snoc' (r ++ [y]), valAt_snoc' s, ← h.val]
      · rcases List.mem_append.1 hx with hx | hx
        · obtain ⟨z, hz, e⟩ := h.fin x hx; exact ⟨z, by simp [hz], e⟩
        · simp only [List.mem_singleton] at hx; subst hx; exact ⟨x, by simp, rfl⟩
theorem Joins.nil : Joins [] [] := ⟨⟨List.Pairwise.nil, by simp⟩, fun _ => Iff.rfl, fun _ => rfl, by simp⟩
theorem Joins.fold : ∀ (r s out : List Piece), Joins s out → DisP (s ++ r) → Joins (s ++ r) (r.foldl stepJ out)
  | [], s, out, h, _ => by simpa using h
  | p :: r, s, out, h, hd => by
    have hp := List.pairwise_append.1 hd.1
    have := Joins.fold r (s ++ [p]) (stepJ out p) (h.step (hd.2 p (by simp)) (fun x hx => hp.2.2 x hx p (by simp))) (by simpa using hd)
    simpa using this
theorem sep_bytes : ∀ {l : List Piece} {lo hi : Int}, SepP l → (∀ p ∈ l, lo ≤ p.pos ∧ p.pos + p.dat.length ≤ hi) → lo ≤ hi → (bytesP l : Int) ≤ hi - lo
  | [], lo, hi, _, _, h => by simp [bytesP]; omega
  | x :: r, lo, hi, hs, h, _ => by
    have hx := h x (by simp)
    have ih := sep_bytes (lo := x.pos + x.dat.length) (hi := hi) hs.tail (fun p hp => ⟨by have := (List.pairwise_cons.1 hs.1).1 p hp; omega, (h p (by simp [hp])).2⟩) hx.2
    unfold bytesP at *
    simp only [List.map_cons, List.sum_cons]
    omega
end Go.Proofs.Ytaeefaehpfjmlaa.NodeSpec
end
