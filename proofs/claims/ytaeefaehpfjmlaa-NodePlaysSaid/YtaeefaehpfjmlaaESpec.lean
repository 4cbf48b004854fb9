import GoSem.Core.Value
set_option linter.unusedSimpArgs false
set_option linter.unusedVariables false
namespace Go.Proofs.Ytaeefaehpfjmlaa.Ext

abbrev E := Nat × Nat
def fin (e : E) : Nat := e.1 + e.2
def Mem (l : List E) (p : Nat) : Prop := ∃ e ∈ l, e.1 ≤ p ∧ p < fin e
def Sep (l : List E) : Prop := l.Pairwise (fun x y => fin x < y.1) ∧ ∀ e ∈ l, 0 < e.2
theorem mem_nil {p : Nat} : ¬ Mem [] p := fun ⟨_, h, _⟩ => by cases h
theorem mem_cons {e : E} {l : List E} {p : Nat} : Mem (e :: l) p ↔ (e.1 ≤ p ∧ p < fin e) ∨ Mem l p := by
  unfold Mem; simp
theorem mem_append {l m : List E} {p : Nat} : Mem (l ++ m) p ↔ Mem l p ∨ Mem m p := by
  unfold Mem; simp [or_and_right, exists_or]
theorem Sep.tail {e : E} {l : List E} (h : Sep (e :: l)) : Sep l := ⟨(List.pairwise_cons.1 h.1).2, fun x hx => h.2 x (List.mem_cons_of_mem _ hx)⟩
theorem Sep.head {e : E} {l : List E} (h : Sep (e :: l)) {p : Nat} (hp : Mem l p) : fin e < p := by
  obtain ⟨x, hx, h1, h2⟩ := hp
  have := (List.pairwise_cons.1 h.1).1 x hx
  omega
theorem Sep.unique : ∀ {l m : List E}, Sep l → Sep m → (∀ p, Mem l p ↔ Mem m p) → l = m
  | [], [], _, _, _ => rfl
  | [], y :: m, _, h2, h => by
    have := (h y.1).2 (mem_cons.2 (.inl ⟨by omega, by have := h2.2 y (by simp); unfold fin; omega⟩))
    exact absurd this mem_nil
  | x :: l, [], h1, _, h => by
    have := (h x.1).1 (mem_cons.2 (.inl ⟨by omega, by have := h1.2 x (by simp); unfold fin; omega⟩))
    exact absurd this mem_nil
  | x :: l, y :: m, h1, h2, h => by
    have hx0 := h1.2 x (by simp)
    have hy0 := h2.2 y (by simp)
    have hxy : x.1 = y.1 := by
      have a := (h x.1).1 (mem_cons.2 (.inl ⟨by omega, by unfold fin; omega⟩))
      have b := (h y.1).2 (mem_cons.2 (.inl ⟨by omega, by unfold fin; omega⟩))
      rcases mem_cons.1 a with a | a
      · rcases mem_cons.1 b with b | b
        · omega
        · have := h1.head b; unfold fin at *; omega
      · have c := h2.head a
        rcases mem_cons.1 b with b | b
        · unfold fin at *; omega
        · have := h1.head b; unfold fin at *; omega
    have hfin : fin x = fin y := by
      have nx : ¬ Mem (x :: l) (fin x) := fun hm => by
        rcases mem_cons.1 hm with a | a
        · omega
        · have := h1.head a; omega
      have ny : ¬ Mem (y :: m) (fin y) := fun hm => by
        rcases mem_cons.1 hm with a | a
        · omega
        · have := h2.head a; omega
      rcases Nat.lt_trichotomy (fin x) (fin y) with c | c | c
      · exact absurd ((h _).2 (mem_cons.2 (.inl ⟨by unfold fin at *; omega, c⟩))) nx
      · exact c
      · exact absurd ((h _).1 (mem_cons.2 (.inl ⟨by unfold fin at *; omega, c⟩))) ny
    have e : x = y := by
      refine Prod.ext hxy ?_
      unfold fin at hfin; omega
    subst e
    have ht := Sep.unique h1.tail h2.tail (fun p => ⟨fun hp => by
      rcases mem_cons.1 ((h p).1 (mem_cons.2 (.inr hp))) with a | a
      · have := h1.head hp; omega
      · exact a, fun hp => by
      rcases mem_cons.1 ((h p).2 (mem_cons.2 (.inr hp))) with a | a
      · have := h2.head hp; omega
      · exact a⟩)
    rw [ht]

def stepE (out : List E) (z : E) : List E :=
  match out.getLast? with
  | none => [z]
  | some y => if fin y < z.1 then out ++ [z] else if fin y < fin z then out.dropLast ++ [(y.1, fin z - y.1)] else out
def mergeE (l : List E) : List E := l.foldl stepE []
def SortedE (l : List E) : Prop := l.Pairwise (fun x y => x.1 ≤ y.1)
theorem snoc_of_last {α : Type} {l : List α} {y : α} (h : l.getLast? = some y) : l = l.dropLast ++ [y] := by
  obtain ⟨r, rfl⟩ := List.getLast?_eq_some_iff.1 h
  simp
theorem stepE_nil (z : E) : stepE [] z = [z] := rfl
theorem stepE_snoc (r : List E) (y z : E) : stepE (r ++ [y]) z = if fin y < z.1 then r ++ [y] ++ [z] else if fin y < fin z then r ++ [(y.1, fin z - y.1)] else r ++ [y] := by
  unfold stepE; simp
structure Good (B : Nat) (s out : List E) : Prop where
  sep : Sep out
  mem : ∀ p, Mem out p ↔ Mem s p
  le : ∀ e ∈ out, fin e ≤ B
  last : ∀ y, out.getLast? = some y → ∃ x ∈ s, y.1 = x.1
theorem Good.step {B : Nat} {s out : List E} {z : E} (h : Good B s out) (hz : 0 < z.2) (hB : fin z ≤ B) (hs : ∀ x ∈ s, x.1 ≤ z.1) : Good B (s ++ [z]) (stepE out z) := by
  have hm1 : ∀ p, Mem (s ++ [z]) p ↔ Mem s p ∨ (z.1 ≤ p ∧ p < fin z) := fun p => by rw [mem_append, mem_cons]; simp [mem_nil]
  cases hl : out.getLast? with
  | none =>
    have : out = [] := List.getLast?_eq_none_iff.1 hl
    subst this
    rw [stepE_nil]
    refine ⟨⟨List.pairwise_singleton _ _, by simpa using hz⟩, fun p => ?_, by simpa using hB, fun y hy => ?_⟩
    · rw [hm1, ← h.mem, mem_cons]; exact or_comm
    · simp at hy; subst hy; exact ⟨z, by simp, rfl⟩
  | some y =>
    obtain ⟨r, rfl⟩ : ∃ r, out = r ++ [y] := ⟨_, snoc_of_last hl⟩
    obtain ⟨x, hx, hyx⟩ := h.last y hl
    have hyz : y.1 ≤ z.1 := by rw [hyx]; exact hs x hx
    have hy0 : 0 < y.2 := h.sep.2 y (by simp)
    obtain ⟨hp1, hp2, hp3⟩ := List.pairwise_append.1 h.sep.1
    have hry : ∀ e ∈ r, fin e < y.1 := fun e he => hp3 e he y (by simp)
    have hmem : ∀ p, Mem s p ↔ Mem r p ∨ (y.1 ≤ p ∧ p < fin y) := fun p => by rw [← h.mem, mem_append, mem_cons]; simp [mem_nil]
    rw [stepE_snoc]
    by_cases c1 : fin y < z.1
    · rw [if_pos c1]
      refine ⟨⟨List.pairwise_append.2 ⟨h.sep.1, List.pairwise_singleton _ _, fun a ha b hb => ?_⟩, fun e he => ?_⟩, fun p => ?_, fun e he => ?_, fun q hq => ?_⟩
      · simp only [List.mem_singleton] at hb; subst hb
        rcases List.mem_append.1 ha with ha | ha
        · have := hry a ha; unfold fin at *; omega
        · simp only [List.mem_singleton] at ha; subst ha; exact c1
      · rcases List.mem_append.1 he with he | he
        · exact h.sep.2 e he
        · simp only [List.mem_singleton] at he; subst he; exact hz
      · rw [hm1, hmem, mem_append, mem_append, mem_cons, mem_cons]; simp [mem_nil]
      · rcases List.mem_append.1 he with he | he
        · exact h.le e he
        · simp only [List.mem_singleton] at he; subst he; exact hB
      · rw [List.getLast?_concat] at hq; cases hq; exact ⟨z, by simp, rfl⟩
    · rw [if_neg c1]
      by_cases c2 : fin y < fin z
      · rw [if_pos c2]
        have hf : fin (y.1, fin z - y.1) = fin z := by unfold fin at *; simp only; omega
        refine ⟨⟨List.pairwise_append.2 ⟨hp1, List.pairwise_singleton _ _, fun a ha b hb => ?_⟩, fun e he => ?_⟩, fun p => ?_, fun e he => ?_, fun q hq => ?_⟩
        · simp only [List.mem_singleton] at hb; subst hb; exact hry a ha
        · rcases List.mem_append.1 he with he | he
          · exact h.sep.2 e (by simp [he])
          · simp only [List.mem_singleton] at he; subst he; simp only; unfold fin at *; omega
        · rw [hm1, hmem, mem_append, mem_cons, hf]; simp only [mem_nil, or_false]
          constructor
          · rintro (a | a)
            · exact .inl (.inl a)
            · by_cases d : p < fin y
              · exact .inl (.inr ⟨a.1, d⟩)
              · exact .inr ⟨by omega, a.2⟩
          · rintro ((a | a) | a)
            · exact .inl a
            · exact .inr ⟨a.1, by omega⟩
            · exact .inr ⟨by omega, a.2⟩
        · rcases List.mem_append.1 he with he | he
          · exact h.le e (by simp [he])
          · simp only [List.mem_singleton] at he; subst he; rw [hf]; exact hB
        · rw [List.getLast?_concat] at hq; cases hq; exact ⟨x, by simp [hx], hyx⟩
      · rw [if_neg c2]
        refine ⟨h.sep, fun p => ?_, h.le, fun q hq => ?_⟩
        · rw [hm1, h.mem]
          constructor
          · exact .inl
          · rintro (a | a)
            · exact a
            · rw [hmem]; exact .inr ⟨by omega, by omega⟩
        · obtain ⟨x, hx, hy⟩ := h.last q hq; exact ⟨x, by simp [hx], hy⟩
theorem Good.nil (B : Nat) : Good B [] [] := ⟨⟨List.Pairwise.nil, by simp⟩, fun _ => Iff.rfl, by simp, by simp⟩
theorem Good.fold {B : Nat} : ∀ (r s out : List E), Good B s out → (∀ e ∈ r, 0 < e.2 ∧ fin e ≤ B) → SortedE (s ++ r) → Good B (s ++ r) (r.foldl stepE out)
  | [], s, out, h, _, _ => by simpa using h
  | z :: r, s, out, h, hz, hs => by
    have hp := List.pairwise_append.1 hs
    have := Good.fold r (s ++ [z]) (stepE out z) (h.step (hz z (by simp)).1 (hz z (by simp)).2 (fun x hx => hp.2.2 x hx z (by simp))) (fun e he => hz e (by simp [he])) (by simpa using hs)
    simpa using this
theorem Good.merge {B : Nat} {l : List E} (h : ∀ e ∈ l, 0 < e.2 ∧ fin e ≤ B) (hs : SortedE l) : Good B l (mergeE l) := by
  unfold mergeE; simpa using Good.fold l [] [] (Good.nil B) h (by simpa using hs)

def leE (x y : E) : Bool := decide (x.1 ≤ y.1)
def sortE (l : List E) : List E := l.mergeSort leE
theorem sortE_sorted (l : List E) : SortedE (sortE l) :=
  (List.pairwise_mergeSort (le := leE) (fun a b c h1 h2 => by simp [leE] at *; omega) (fun a b => by simp [leE]; omega) l).imp (fun h => by simpa [leE] using h)
theorem sortE_perm (l : List E) : (sortE l).Perm l := List.mergeSort_perm l leE
def normP (l : List E) : List E := mergeE (sortE l)
theorem mem_perm {l m : List E} (h : l.Perm m) (p : Nat) : Mem l p ↔ Mem m p :=
  ⟨fun ⟨e, he, x⟩ => ⟨e, h.mem_iff.1 he, x⟩, fun ⟨e, he, x⟩ => ⟨e, h.mem_iff.2 he, x⟩⟩
structure Normed (B : Nat) (l out : List E) : Prop where
  sep : Sep out
  mem : ∀ p, Mem out p ↔ Mem l p
  le : ∀ e ∈ out, fin e ≤ B
theorem normed {B : Nat} {l s : List E} (h : ∀ e ∈ l, 0 < e.2 ∧ fin e ≤ B) (hp : s.Perm l) (hs : SortedE s) : Normed B l (mergeE s) := by
  have g := Good.merge (B := B) (l := s) (fun e he => h e (hp.mem_iff.1 he)) hs
  exact ⟨g.sep, fun p => (g.mem p).trans (mem_perm hp p), g.le⟩
theorem normP_of {B : Nat} {l s : List E} (h : ∀ e ∈ l, 0 < e.2 ∧ fin e ≤ B) (hp : s.Perm l) (hs : SortedE s) : mergeE s = normP l := by
  have a := normed h hp hs
  have b := normed h (sortE_perm l) (sortE_sorted l)
  exact Sep.unique a.sep b.sep (fun p => (a.mem p).trans (b.mem p).symm)
def keptE (B : Nat) (l : List E) : List E := (l.map fun e => (e.1, min e.2 (B - e.1))).filter (fun e => decide (0 < e.2))
theorem keptE_ok {B : Nat} {l : List E} : ∀ e ∈ keptE B l, 0 < e.2 ∧ fin e ≤ B := by
  intro e he
  unfold keptE at he
  obtain ⟨h1, h2⟩ := List.mem_filter.1 he
  obtain ⟨x, _, rfl⟩ := List.mem_map.1 h1
  simp only [decide_eq_true_eq] at h2
  unfold fin
  simp only at *
  omega
def normE (B : Nat) (l : List E) : List E := normP (keptE B l)
theorem normE_ok (B : Nat) (l : List E) : Normed B (keptE B l) (normE B l) := normed keptE_ok (sortE_perm _) (sortE_sorted _)
theorem normE_of {B : Nat} {l s : List E} (hp : s.Perm (keptE B l)) (hs : SortedE s) : mergeE s = normE B l := normP_of keptE_ok hp hs
theorem mem_kept {B : Nat} {l : List E} {p : Nat} : Mem (keptE B l) p ↔ Mem l p ∧ p < B := by
  unfold Mem keptE
  constructor
  · rintro ⟨e, he, h1, h2⟩
    obtain ⟨h3, h4⟩ := List.mem_filter.1 he
    obtain ⟨x, hx, rfl⟩ := List.mem_map.1 h3
    simp only [decide_eq_true_eq] at h4
    unfold fin at *
    simp only at *
    exact ⟨⟨x, hx, h1, by omega⟩, by omega⟩
  · rintro ⟨⟨e, he, h1, h2⟩, h3⟩
    refine ⟨(e.1, min e.2 (B - e.1)), List.mem_filter.2 ⟨List.mem_map.2 ⟨e, he, rfl⟩, ?_⟩, h1, ?_⟩
    · simp only [decide_eq_true_eq]; unfold fin at *; omega
    · unfold fin at *; simp only; omega
theorem mem_norm {B : Nat} {l : List E} {p : Nat} : Mem (normE B l) p ↔ Mem l p ∧ p < B := ((normE_ok B l).mem p).trans mem_kept
theorem normE_self {B : Nat} {l : List E} (hs : Sep l) (hB : ∀ e ∈ l, fin e ≤ B) : normE B l = l := by
  refine Sep.unique (normE_ok B l).sep hs (fun p => mem_norm.trans ⟨fun h => h.1, fun h => ⟨h, ?_⟩⟩)
  obtain ⟨e, he, h1, h2⟩ := h
  have := hB e he
  omega
end Go.Proofs.Ytaeefaehpfjmlaa.Ext
