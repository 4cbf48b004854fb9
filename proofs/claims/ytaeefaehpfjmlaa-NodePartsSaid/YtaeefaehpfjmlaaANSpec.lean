import Derived.Test.YtaeefaehpfjmlaaASpec
set_option linter.unusedSimpArgs false
set_option linter.unusedVariables false
namespace Go.Proofs.Ytaeefaehpfjmlaa.AclSpec

theorem cmpA_lt (a b : Ace) : cmpA a b < 0 ↔ (a.kind < b.kind ∨ a.kind = b.kind ∧ a.id < b.id) := by
  unfold cmpA orI cmpI
  by_cases h1 : a.kind < b.kind
  · simp [h1]
  · by_cases h2 : b.kind < a.kind
    · simp [h1, h2]; omega
    · have : a.kind = b.kind := by omega
      simp [this]
      by_cases h3 : a.id < b.id
      · simp [h3]
      · by_cases h4 : b.id < a.id <;> simp [h3, h4]
theorem cmpA_eq (a b : Ace) : cmpA a b = 0 ↔ (a.kind = b.kind ∧ a.id = b.id) := by
  unfold cmpA orI cmpI
  by_cases h1 : a.kind < b.kind
  · simp [h1]; omega
  · by_cases h2 : b.kind < a.kind
    · simp [h1, h2]; omega
    · have : a.kind = b.kind := by omega
      simp [this]
      by_cases h3 : a.id < b.id
      · simp [h3]; omega
      · by_cases h4 : b.id < a.id <;> simp [h3, h4] <;> omega
def SortedA (l : List Ace) : Prop := l.Pairwise (fun a b => ¬ cmpA b a < 0)
def key (a : Ace) : Int × Int := (a.kind, a.id)
def leA (a b : Ace) : Bool := !decide (cmpA b a < 0)
def sortA (l : List Ace) : List Ace := l.mergeSort leA
theorem leA_trans (a b c : Ace) (h1 : leA a b = true) (h2 : leA b c = true) : leA a c = true := by
  simp only [leA, Bool.not_eq_true', decide_eq_false_iff_not, cmpA_lt] at *; omega
theorem leA_total (a b : Ace) : (leA a b || leA b a) = true := by
  simp only [leA, Bool.or_eq_true, Bool.not_eq_true', decide_eq_false_iff_not, cmpA_lt]; omega
theorem sortA_sorted (l : List Ace) : SortedA (sortA l) := by
  have := List.pairwise_mergeSort leA_trans leA_total l
  exact this.imp (fun h => by simpa [leA] using h)
theorem sortA_perm (l : List Ace) : (sortA l).Perm l := List.mergeSort_perm l leA
theorem nodup_key {l : List Ace} (h : (l.map key).Nodup) : ∀ a b, a ∈ l → b ∈ l → key a = key b → a = b := by
  induction l with
  | nil => intro a b ha; simp at ha
  | cons x r ih =>
    rw [List.map_cons, List.nodup_cons] at h
    intro a b ha hb e
    rcases List.mem_cons.1 ha with ea | ha'
    · rcases List.mem_cons.1 hb with eb | hb'
      · rw [ea, eb]
      · rw [ea] at e
        exact absurd (List.mem_map.2 ⟨b, hb', e.symm⟩) h.1
    · rcases List.mem_cons.1 hb with eb | hb'
      · rw [eb] at e
        exact absurd (List.mem_map.2 ⟨a, ha', e⟩) h.1
      · exact ih h.2 a b ha' hb' e
/-- A sorted row of the same aces, no two of one key, is THE sorted row. -/
theorem sorted_unique {l l' : List Ace} (hp : l'.Perm l) (hs : SortedA l') (hn : (l.map key).Nodup) : l' = sortA l := by
  refine List.Perm.eq_of_pairwise (le := fun a b => ¬ cmpA b a < 0) ?_ hs (sortA_sorted l) (hp.trans (sortA_perm l).symm)
  intro a b ha hb h1 h2
  have ha' : a ∈ l := hp.subset ha
  have hb' : b ∈ l := (sortA_perm l).subset hb
  apply nodup_key hn a b ha' hb'
  rw [cmpA_lt] at h1 h2
  unfold key
  have : a.kind = b.kind ∧ a.id = b.id := by omega
  rw [this.1, this.2]
/-- No two neighbours of one key: none at all. -/
theorem sorted_nodup {l : List Ace} (hs : SortedA l) (h : ∀ i a b, l[i]? = some a → l[i + 1]? = some b → ¬ cmpA a b = 0) : (l.map key).Nodup := by
  induction l with
  | nil => simp
  | cons x r ih =>
    have hs' := List.pairwise_cons.1 hs
    have ih' := ih hs'.2 (fun i a b ha hb => h (i + 1) a b (by simpa using ha) (by simpa using hb))
    rw [List.map_cons, List.nodup_cons]
    refine ⟨fun hm => ?_, ih'⟩
    obtain ⟨y, hy, e⟩ := List.mem_map.1 hm
    cases r with
    | nil => simp at hy
    | cons z t =>
      have hz := h 0 x z rfl rfl
      have h1 := hs'.1 z (by simp)
      have h2 : ¬ cmpA y z < 0 := by
        rcases List.mem_cons.1 hy with rfl | hy'
        · simp [cmpA_lt]
        · exact (List.pairwise_cons.1 hs'.2).1 y hy'
      simp only [key, Prod.mk.injEq] at e
      rw [cmpA_eq] at hz
      rw [cmpA_lt] at h1 h2
      omega
theorem dup_of_adj {l : List Ace} {i : Nat} {a b : Ace} (ha : l[i]? = some a) (hb : l[i + 1]? = some b) (h : cmpA a b = 0) : ¬ (l.map key).Nodup := by
  intro hn
  obtain ⟨h1, rfl⟩ := List.getElem?_eq_some_iff.1 ha
  obtain ⟨h2, rfl⟩ := List.getElem?_eq_some_iff.1 hb
  have := List.pairwise_iff_getElem.1 hn i (i + 1) (by simpa using h1) (by simpa using h2) (by omega)
  apply this
  have e := (cmpA_eq _ _).1 h
  simp [key, e.1, e.2]
/-- What 'acl.Norm' answers. -/
def normA (l : List Ace) : List Ace × Int :=
  if !l.all goodB then ([], 1)
  else if !decide ((l.map key).Nodup) then ([], 6)
  else if 16 < l.length then ([], 13)
  else if !(maskB (sortA l)).2 && !l.isEmpty then ([], 7)
  else (sortA l, 0)

theorem normA_bad {l : List Ace} {i : Nat} {a : Ace} (h : l[i]? = some a) (hg : goodB a = false) : normA l = ([], 1) := by
  have : l.all goodB = false := by rw [List.all_eq_false]; exact ⟨a, List.mem_of_getElem? h, by simp [hg]⟩
  simp [normA, this]
theorem normA_dup {l l' : List Ace} (hg : l.all goodB = true) (hp : l'.Perm l) {i : Nat} {a b : Ace} (ha : l'[i]? = some a) (hb : l'[i + 1]? = some b) (h : cmpA a b = 0) : normA l = ([], 6) := by
  have h1 : ¬ (l.map key).Nodup := fun hn => dup_of_adj ha hb h ((hp.map key).nodup_iff.2 hn)
  simp [normA, hg, h1]
theorem normA_rest {l l' : List Ace} (hg : l.all goodB = true) (hp : l'.Perm l) (hs : SortedA l') (h : ∀ i a b, l'[i]? = some a → l'[i + 1]? = some b → ¬ cmpA a b = 0) :
    l' = sortA l ∧ normA l = if 16 < l'.length then ([], 13) else if !(maskB l').2 && !l'.isEmpty then ([], 7) else (l', 0) := by
  have hn : (l.map key).Nodup := (hp.map key).nodup_iff.1 (sorted_nodup hs h)
  have e := sorted_unique hp hs hn
  refine ⟨e, ?_⟩
  have hlen : l'.length = l.length := hp.length_eq
  have he : l'.isEmpty = l.isEmpty := by
    rw [Bool.eq_iff_iff, List.isEmpty_iff_length_eq_zero, List.isEmpty_iff_length_eq_zero, hlen]
  unfold normA
  rw [hg, ← e, hlen, he]
  simp [hn]
theorem allG_succ {l : List Ace} {i : Nat} {a : Ace} (h : l[i]? = some a) (hg : goodB a = true) (hA : (l.take i).all goodB = true) : (l.take (i + 1)).all goodB = true := by
  obtain ⟨hi, rfl⟩ := List.getElem?_eq_some_iff.1 h
  rw [List.take_succ_eq_append_getElem hi, List.all_append, hA]; simp [hg]
/-- No two neighbours of one key among the first i. -/
def apartTo (l : List Ace) (i : Nat) : Prop := ∀ j a b, j + 1 < i → l[j]? = some a → l[j + 1]? = some b → ¬ cmpA a b = 0
theorem apartTo_succ {l : List Ace} {i : Nat} {a b : Ace} (h0 : 1 ≤ i) (ha : l[i - 1]? = some a) (hb : l[i]? = some b) (h : ¬ cmpA a b = 0) (hA : apartTo l i) : apartTo l (i + 1) := by
  intro j x y hj hx hy
  by_cases e : j + 1 < i
  · exact hA j x y e hx hy
  · have : j = i - 1 := by omega
    subst this
    rw [show i - 1 + 1 = i by omega] at hy
    rw [ha] at hx; rw [hb] at hy
    cases hx; cases hy
    exact h
theorem apartTo_all {l : List Ace} {i : Nat} (h : l.length ≤ i) (hA : apartTo l i) : ∀ j a b, l[j]? = some a → l[j + 1]? = some b → ¬ cmpA a b = 0 := by
  intro j a b ha hb
  exact hA j a b (by have := (List.getElem?_eq_some_iff.1 hb).1; omega) ha hb
end Go.Proofs.Ytaeefaehpfjmlaa.AclSpec
