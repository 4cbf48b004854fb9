import Derived.Test.YtaeefaehpfjmlaaESpec
set_option linter.unusedSimpArgs false
set_option linter.unusedVariables false
namespace Go.Proofs.Ytaeefaehpfjmlaa.Ext

/-! ### May -/
def chkE : Int → List E → Int → Bool
  | last, [], size => decide (last ≤ size)
  | last, e :: r, size => if e.2 = 0 ∨ (e.1 : Int) ≤ last then false else chkE (fin e) r size
def mayE (B : Nat) (l : List E) (size : Int) : Bool := decide (0 ≤ size) && decide (size ≤ B) && chkE (-1) l size
theorem chkE_sep : ∀ {l : List E} {last size : Int}, Sep l → (∀ e ∈ l, last < e.1 ∧ (fin e : Int) ≤ size) → last ≤ size → chkE last l size = true
  | [], last, size, _, _, h => by simp [chkE, h]
  | e :: r, last, size, hs, h, _ => by
    have h0 := hs.2 e (by simp)
    have h1 := h e (by simp)
    rw [chkE, if_neg (by omega)]
    exact chkE_sep hs.tail (fun x hx => ⟨by have := (List.pairwise_cons.1 hs.1).1 x hx; omega, (h x (by simp [hx])).2⟩) h1.2
theorem mayE_sep {B : Nat} {l : List E} {size : Int} (h0 : 0 ≤ size) (hB : size ≤ B) (hs : Sep l) (hl : ∀ e ∈ l, (fin e : Int) ≤ size) : mayE B l size = true := by
  unfold mayE
  rw [chkE_sep hs (fun e he => ⟨by omega, hl e he⟩) (by omega)]
  simp [h0, hB]

/-! ### Has -/
def hasE (n : List E) (p : Int) : Bool := n.any fun e => decide ((e.1 : Int) ≤ p) && decide (p < fin e)
theorem hasE_iff {n : List E} {p : Nat} : hasE n p = true ↔ Mem n p := by
  unfold hasE Mem
  simp

/-! ### Holes -/
def holesF (size : Nat) : Nat → List E → List E
  | fr, [] => if fr < size then [(fr, size - fr)] else []
  | fr, z :: r => (if fr < min z.1 size then [(fr, min z.1 size - fr)] else []) ++ holesF size (fin z) r
theorem holesF_past {size : Nat} : ∀ {n : List E} {fr : Nat}, Sep n → (∀ e ∈ n, fr ≤ e.1) → size ≤ fr → holesF size fr n = []
  | [], fr, _, _, h => by simp [holesF]; omega
  | z :: r, fr, hs, hf, h => by
    have h1 := hf z (by simp)
    rw [holesF, if_neg (by omega), List.nil_append]
    exact holesF_past hs.tail (fun e he => by have := (List.pairwise_cons.1 hs.1).1 e he; omega) (by unfold fin; omega)
theorem holesF_le {size : Nat} : ∀ {n : List E} {fr : Nat}, ∀ e ∈ holesF size fr n, fr ≤ e.1 ∨ Sep n → 0 < e.2 ∧ fin e ≤ size
  | [], fr, e, he, _ => by
    simp only [holesF] at he
    split at he
    · simp only [List.mem_singleton] at he; subst he; unfold fin; simp only; omega
    · cases he
  | z :: r, fr, e, he, _ => by
    simp only [holesF] at he
    rcases List.mem_append.1 he with he | he
    · split at he
      · simp only [List.mem_singleton] at he; subst he; unfold fin; simp only; omega
      · cases he
    · exact holesF_any e he
where holesF_any {size : Nat} : ∀ {n : List E} {fr : Nat}, ∀ e ∈ holesF size fr n, 0 < e.2 ∧ fin e ≤ size
  | [], fr, e, he => by
    simp only [holesF] at he
    split at he
    · simp only [List.mem_singleton] at he; subst he; unfold fin; simp only; omega
    · cases he
  | z :: r, fr, e, he => by
    simp only [holesF] at he
    rcases List.mem_append.1 he with he | he
    · split at he
      · simp only [List.mem_singleton] at he; subst he; unfold fin; simp only; omega
      · cases he
    · exact holesF_any e he
theorem holesF_in {size fr : Nat} {n : List E} {e : E} (he : e ∈ holesF size fr n) : 0 < e.2 ∧ fin e ≤ size := holesF_le.holesF_any e he
theorem holesF_mem {size : Nat} : ∀ {n : List E} {fr : Nat}, Sep n → (∀ e ∈ n, fr ≤ e.1) → ∀ p, Mem (holesF size fr n) p ↔ (fr ≤ p ∧ p < size ∧ ¬ Mem n p)
  | [], fr, _, _, p => by
    simp only [holesF]
    split
    · rw [mem_cons]; unfold fin; simp [mem_nil]; omega
    · constructor
      · intro h; exact absurd h mem_nil
      · rintro ⟨h1, h2, _⟩; omega
  | z :: r, fr, hs, hf, p => by
    have h0 := hs.2 z (by simp)
    have h1 := hf z (by simp)
    have ih := holesF_mem (size := size) (n := r) (fr := fin z) hs.tail (fun e he => by have := (List.pairwise_cons.1 hs.1).1 e he; omega) p
    rw [holesF, mem_append, ih, mem_cons]
    have hr : Mem r p → fin z < p := fun h => hs.head h
    have e1 : Mem (if fr < min z.1 size then [(fr, min z.1 size - fr)] else []) p ↔ fr ≤ p ∧ p < min z.1 size := by
      split
      · rw [mem_cons]; unfold fin; simp only [mem_nil, or_false]; omega
      · constructor
        · intro h; exact absurd h mem_nil
        · omega
    rw [e1]
    by_cases hm : Mem r p
    · have := hr hm
      simp only [hm, or_true, not_true_eq_false, and_false, or_false]
      unfold fin at *
      refine ⟨fun h => ?_, fun h => h.elim⟩
      omega
    · simp only [hm, or_false, not_false_eq_true, and_true]
      unfold fin at *
      constructor
      · rintro (⟨a, b⟩ | ⟨a, b⟩)
        · exact ⟨a, by omega, by omega⟩
        · exact ⟨by omega, b, by omega⟩
      · rintro ⟨a, b, c⟩
        by_cases d : z.1 + z.2 ≤ p
        · exact .inr ⟨d, b⟩
        · exact .inl ⟨a, by omega⟩
theorem holesF_sep {size : Nat} : ∀ {n : List E} {fr : Nat}, Sep n → (∀ e ∈ n, fr ≤ e.1) → Sep (holesF size fr n) ∧ ∀ e ∈ holesF size fr n, fr ≤ e.1
  | [], fr, _, _ => by
    simp only [holesF]
    split
    · refine ⟨⟨List.pairwise_singleton _ _, ?_⟩, ?_⟩ <;> simp; omega
    · exact ⟨⟨List.Pairwise.nil, by simp⟩, by simp⟩
  | z :: r, fr, hs, hf => by
    have h0 := hs.2 z (by simp)
    have h1 := hf z (by simp)
    obtain ⟨ih, il⟩ := holesF_sep (size := size) (n := r) (fr := fin z) hs.tail (fun e he => by have := (List.pairwise_cons.1 hs.1).1 e he; omega)
    rw [holesF]
    split
    · refine ⟨⟨?_, ?_⟩, ?_⟩
      · rw [List.singleton_append, List.pairwise_cons]
        refine ⟨fun e he => ?_, ih.1⟩
        have := il e he
        unfold fin at *; simp only; omega
      · intro e he
        rcases List.mem_cons.1 he with rfl | he
        · simp only; omega
        · exact ih.2 e he
      · intro e he
        rcases List.mem_cons.1 he with rfl | he
        · simp only; omega
        · have := il e he; unfold fin at *; omega
    · rw [List.nil_append]
      exact ⟨ih, fun e he => by have := il e he; unfold fin at *; omega⟩
def holesE (B : Nat) (l : List E) (size : Nat) : List E := holesF size 0 (normE B l)
theorem holesE_mem {B size : Nat} {l : List E} {p : Nat} (hB : size ≤ B) : Mem (holesE B l size) p ↔ p < size ∧ ¬ Mem l p := by
  unfold holesE
  rw [holesF_mem (normE_ok B l).sep (fun _ _ => Nat.zero_le _), mem_norm]
  constructor
  · rintro ⟨_, h1, h2⟩; exact ⟨h1, fun h => h2 ⟨h, by omega⟩⟩
  · rintro ⟨h1, h2⟩; exact ⟨Nat.zero_le _, h1, fun h => h2 h.1⟩
theorem holesE_sep (B : Nat) (l : List E) (size : Nat) : Sep (holesE B l size) := (holesF_sep (normE_ok B l).sep (fun _ _ => Nat.zero_le _)).1

/-! ### Meet -/
def meetF (lo hi : Nat) (n : List E) : List E := (n.map fun e => (max e.1 lo, min (fin e) hi - max e.1 lo)).filter (fun e => decide (0 < e.2))
theorem meetF_mem {lo hi : Nat} {n : List E} {p : Nat} : Mem (meetF lo hi n) p ↔ Mem n p ∧ lo ≤ p ∧ p < hi := by
  unfold Mem meetF
  constructor
  · rintro ⟨e, he, h1, h2⟩
    obtain ⟨h3, h4⟩ := List.mem_filter.1 he
    obtain ⟨x, hx, rfl⟩ := List.mem_map.1 h3
    simp only [decide_eq_true_eq] at h4
    unfold fin at *
    simp only at *
    exact ⟨⟨x, hx, by omega, by omega⟩, by omega, by omega⟩
  · rintro ⟨⟨e, he, h1, h2⟩, h3, h4⟩
    refine ⟨_, List.mem_filter.2 ⟨List.mem_map.2 ⟨e, he, rfl⟩, ?_⟩, ?_, ?_⟩
    · simp only [decide_eq_true_eq]; unfold fin at *; omega
    · simp only; omega
    · unfold fin at *; simp only; omega
theorem meetF_sep {lo hi : Nat} {n : List E} (hs : Sep n) : Sep (meetF lo hi n) := by
  refine ⟨?_, fun e he => ?_⟩
  · unfold meetF
    refine List.Pairwise.filter _ ?_ |>.imp_of_mem ?_ (R := fun x y => 0 < x.2 → 0 < y.2 → fin x < y.1)
    · rw [List.pairwise_map]
      refine hs.1.imp ?_
      intro a b h h1 h2
      unfold fin at *; simp only at *; omega
    · intro a b ha hb h
      exact h (by simpa using (List.mem_filter.1 ha).2) (by simpa using (List.mem_filter.1 hb).2)
  · simpa using (List.mem_filter.1 he).2
theorem meetF_le {lo hi B : Nat} {n : List E} (h : ∀ e ∈ n, fin e ≤ B) : ∀ e ∈ meetF lo hi n, fin e ≤ B := by
  intro e he
  obtain ⟨h3, h4⟩ := List.mem_filter.1 he
  obtain ⟨x, hx, rfl⟩ := List.mem_map.1 h3
  have := h x hx
  simp only [decide_eq_true_eq] at h4
  unfold fin at *; simp only at *; omega

/-! ### Sums -/
def sumE (l : List E) : Nat := (l.map (·.2)).sum
/-- A row and its holes are as long as the size. -/
theorem holesF_sum {size : Nat} : ∀ {n : List E} {fr : Nat}, Sep n → (∀ e ∈ n, fr ≤ e.1 ∧ fin e ≤ size) → fr ≤ size → sumE n + sumE (holesF size fr n) = size - fr
  | [], fr, _, _, h => by
    simp only [holesF]
    split <;> simp [sumE]; omega
  | z :: r, fr, hs, hf, h => by
    have h0 := hs.2 z (by simp)
    have h1 := hf z (by simp)
    have ih := holesF_sum (size := size) (n := r) (fr := fin z) hs.tail (fun e he => ⟨by have := (List.pairwise_cons.1 hs.1).1 e he; omega, (hf e (by simp [he])).2⟩) h1.2
    rw [holesF]
    unfold sumE fin at *
    split
    · simp at *; omega
    · simp at *; omega
end Go.Proofs.Ytaeefaehpfjmlaa.Ext
