import GoSem.Core.Value
import Derived.WalkKit
set_option linter.unusedSimpArgs false
set_option linter.unusedVariables false
namespace Go.Proofs.Ytaeefaehpfjmlaa.GSort

/-- A strict order in which any two are comparable. -/
structure LO {β : Type} (lt : β → β → Bool) : Prop where
  irr : ∀ x, lt x x = false
  tri : ∀ x y, lt x y = true ∨ x = y ∨ lt y x = true
  trans : ∀ x y z, lt x y = true → lt y z = true → lt x z = true
section
variable {α β : Type} {key : α → β} {lt : β → β → Bool}
theorem LO.asym (h : LO lt) {x y : β} (h1 : lt x y = true) : lt y x = false := by
  cases k : lt y x
  · rfl
  · have := h.trans _ _ _ h1 k; rw [h.irr] at this; cases this
theorem LO.ntrans (h : LO lt) {x y z : β} (h1 : lt y x = false) (h2 : lt z y = false) : lt z x = false := by
  cases k : lt z x
  · rfl
  · rcases h.tri x y with a | a | a
    · have := h.trans _ _ _ k a; rw [h2] at this; cases this
    · subst a; rw [k] at h2; cases h2
    · rw [a] at h1; cases h1
theorem LO.anti (h : LO lt) {x y : β} (h1 : lt x y = false) (h2 : lt y x = false) : x = y := by
  rcases h.tri x y with a | a | a
  · rw [a] at h1; cases h1
  · exact a
  · rw [a] at h2; cases h2
def SortedG (key : α → β) (lt : β → β → Bool) (l : List α) : Prop := l.Pairwise (fun a b => lt (key b) (key a) = false)
def sortG (key : α → β) (lt : β → β → Bool) (l : List α) : List α := l.mergeSort (fun a b => !lt (key b) (key a))
theorem sortG_sorted (h : LO lt) (l : List α) : SortedG key lt (sortG key lt l) := by
  have := List.pairwise_mergeSort (le := fun a b => !lt (key b) (key a)) (fun a b c h1 h2 => by
    simp only [Bool.not_eq_true'] at *; exact h.ntrans h1 h2) (fun a b => by
    simp only [Bool.or_eq_true, Bool.not_eq_true']
    cases k : lt (key b) (key a)
    · exact .inl rfl
    · exact .inr (h.asym k)) l
  exact this.imp (fun h => by simpa using h)
theorem sortG_perm (l : List α) : (sortG key lt l).Perm l := List.mergeSort_perm l _
theorem nodup_key {l : List α} (h : (l.map key).Nodup) : ∀ a b, a ∈ l → b ∈ l → key a = key b → a = b := by
  induction l with
  | nil => intro a b ha; simp at ha
  | cons x r ih =>
    rw [List.map_cons, List.nodup_cons] at h
    intro a b ha hb e
    rcases List.mem_cons.1 ha with ea | ha'
    · rcases List.mem_cons.1 hb with eb | hb'
      · rw [ea, eb]
      · rw [ea] at e
        exact absurd (List.mem_map.2 ⟨b, hb', e.symm⟩) h.1
    · rcases List.mem_cons.1 hb with eb | hb'
      · rw [eb] at e
        exact absurd (List.mem_map.2 ⟨a, ha', e⟩) h.1
      · exact ih h.2 a b ha' hb' e
theorem sorted_unique (h : LO lt) {l l' : List α} (hp : l'.Perm l) (hs : SortedG key lt l') (hn : (l.map key).Nodup) : l' = sortG key lt l := by
  refine List.Perm.eq_of_pairwise (le := fun a b => lt (key b) (key a) = false) ?_ hs (sortG_sorted h l) (hp.trans (sortG_perm l).symm)
  intro a b ha hb h1 h2
  exact nodup_key hn a b (hp.subset ha) ((sortG_perm l).subset hb) (h.anti h2 h1)
theorem sorted_nodup (h0 : LO lt) {l : List α} (hs : SortedG key lt l) (h : ∀ i a b, l[i]? = some a → l[i + 1]? = some b → key a ≠ key b) : (l.map key).Nodup := by
  induction l with
  | nil => simp
  | cons x r ih =>
    have hs' := List.pairwise_cons.1 hs
    have ih' := ih hs'.2 (fun i a b ha hb => h (i + 1) a b (by simpa using ha) (by simpa using hb))
    rw [List.map_cons, List.nodup_cons]
    refine ⟨fun hm => ?_, ih'⟩
    obtain ⟨y, hy, e⟩ := List.mem_map.1 hm
    cases r with
    | nil => simp at hy
    | cons z t =>
      have hz := h 0 x z rfl rfl
      have h1 := hs'.1 z (by simp)
      have h2 : lt (key y) (key z) = false := by
        rcases List.mem_cons.1 hy with rfl | hy'
        · exact h0.irr _
        · exact (List.pairwise_cons.1 hs'.2).1 y hy'
      rw [e] at h2
      exact hz (h0.anti h2 h1)
theorem dup_of_adj {l : List α} {i : Nat} {a b : α} (ha : l[i]? = some a) (hb : l[i + 1]? = some b) (h : key a = key b) : ¬ (l.map key).Nodup := by
  intro hn
  obtain ⟨h1, rfl⟩ := List.getElem?_eq_some_iff.1 ha
  obtain ⟨h2, rfl⟩ := List.getElem?_eq_some_iff.1 hb
  have := List.pairwise_iff_getElem.1 hn i (i + 1) (by simpa using h1) (by simpa using h2) (by omega)
  exact this (by simpa using h)
/-- Put in from behind, ahead of all that are greater. -/
theorem insert_sorted (h0 : LO lt) {m : List α} {k : Nat} {x : α} (hs : SortedG key lt m) (h1 : ∀ j y, k ≤ j → m[j]? = some y → lt (key x) (key y) = true) (h2 : k = 0 ∨ ∃ y, m[k - 1]? = some y ∧ lt (key x) (key y) = false) :
    SortedG key lt (m.take k ++ x :: m.drop k) := by
  unfold SortedG
  have hp := hs
  unfold SortedG at hp
  rw [← List.take_append_drop k m, List.pairwise_append] at hp
  rw [List.pairwise_append, List.pairwise_cons]
  have hd : ∀ y ∈ m.drop k, lt (key x) (key y) = true := by
    intro y hy
    obtain ⟨j, hj⟩ := List.getElem?_of_mem hy
    rw [List.getElem?_drop] at hj
    exact h1 (k + j) y (by omega) hj
  have ht : ∀ y ∈ m.take k, lt (key x) (key y) = false := by
    intro y hy
    rcases h2 with rfl | ⟨z, hz, hxz⟩
    · simp at hy
    · obtain ⟨j, hj⟩ := List.getElem?_of_mem hy
      have hjk : j < k := by
        have := (List.getElem?_eq_some_iff.1 hj).1
        rw [List.length_take] at this; omega
      rw [List.getElem?_take_of_lt hjk] at hj
      by_cases e : j = k - 1
      · subst e; rw [hz] at hj; cases hj; exact hxz
      · obtain ⟨i1, rfl⟩ := List.getElem?_eq_some_iff.1 hj
        obtain ⟨i2, rfl⟩ := List.getElem?_eq_some_iff.1 hz
        have := List.pairwise_iff_getElem.1 hs j (k - 1) i1 i2 (by omega)
        exact h0.ntrans this hxz
  exact ⟨hp.1, ⟨fun y hy => h0.asym (hd y hy), hp.2.1⟩, fun a ha b hb => by
    rcases List.mem_cons.1 hb with rfl | hb
    · exact ht a ha
    · exact hp.2.2 a ha b hb⟩
theorem insert_perm {m l : List α} {k i : Nat} {x : α} (hp : m.Perm (l.take i)) (hx : l[i]? = some x) : (m.take k ++ x :: m.drop k).Perm (l.take (i + 1)) := by
  obtain ⟨hi, rfl⟩ := List.getElem?_eq_some_iff.1 hx
  rw [List.take_succ_eq_append_getElem hi]
  refine (List.perm_middle).trans ?_
  rw [List.take_append_drop]
  exact (hp.cons _).trans (List.perm_append_singleton _ _).symm
/-- No two neighbours of one key among the first i. -/
def apartTo (key : α → β) (l : List α) (i : Nat) : Prop := ∀ j a b, j + 1 < i → l[j]? = some a → l[j + 1]? = some b → key a ≠ key b
theorem apartTo_succ {l : List α} {i : Nat} {a b : α} (h0 : 1 ≤ i) (ha : l[i - 1]? = some a) (hb : l[i]? = some b) (h : key a ≠ key b) (hA : apartTo key l i) : apartTo key l (i + 1) := by
  intro j x y hj hx hy
  by_cases e : j + 1 < i
  · exact hA j x y e hx hy
  · have : j = i - 1 := by omega
    subst this
    rw [show i - 1 + 1 = i by omega] at hy
    rw [ha] at hx; rw [hb] at hy
    cases hx; cases hy
    exact h
theorem apartTo_all {l : List α} {i : Nat} (h : l.length ≤ i) (hA : apartTo key l i) : ∀ j a b, l[j]? = some a → l[j + 1]? = some b → key a ≠ key b := by
  intro j a b ha hb
  exact hA j a b (by have := (List.getElem?_eq_some_iff.1 hb).1; omega) ha hb
theorem all_succ {good : α → Bool} {l : List α} {i : Nat} {a : α} (h : l[i]? = some a) (hg : good a = true) (hA : (l.take i).all good = true) : (l.take (i + 1)).all good = true := by
  obtain ⟨hi, rfl⟩ := List.getElem?_eq_some_iff.1 h
  rw [List.take_succ_eq_append_getElem hi, List.all_append, hA]; simp [hg]
variable [DecidableEq β]
/-- The row in order; or why there is none. -/
def normG (key : α → β) (lt : β → β → Bool) (good : α → Bool) (mx : Nat) (l : List α) : List α × Int :=
  if !l.all good then ([], 1)
  else if !decide ((l.map key).Nodup) then ([], 6)
  else if mx < l.length then ([], 13)
  else (sortG key lt l, 0)
theorem normG_bad {good : α → Bool} {mx : Nat} {l : List α} {i : Nat} {a : α} (h : l[i]? = some a) (hg : good a = false) : normG key lt good mx l = ([], 1) := by
  have : l.all good = false := by rw [List.all_eq_false]; exact ⟨a, List.mem_of_getElem? h, by simp [hg]⟩
  simp [normG, this]
theorem normG_dup {good : α → Bool} {mx : Nat} {l l' : List α} (hg : l.all good = true) (hp : l'.Perm l) {i : Nat} {a b : α} (ha : l'[i]? = some a) (hb : l'[i + 1]? = some b) (h : key a = key b) : normG key lt good mx l = ([], 6) := by
  have h1 : ¬ (l.map key).Nodup := fun hn => dup_of_adj ha hb h ((hp.map key).nodup_iff.2 hn)
  simp [normG, hg, h1]
theorem normG_rest (h0 : LO lt) {good : α → Bool} {mx : Nat} {l l' : List α} (hg : l.all good = true) (hp : l'.Perm l) (hs : SortedG key lt l') (h : ∀ i a b, l'[i]? = some a → l'[i + 1]? = some b → key a ≠ key b) :
    normG key lt good mx l = if mx < l'.length then ([], 13) else (l', 0) := by
  have hn : (l.map key).Nodup := (hp.map key).nodup_iff.1 (sorted_nodup h0 hs h)
  have e := sorted_unique h0 hp hs hn
  have hlen : l'.length = l.length := hp.length_eq
  unfold normG
  rw [hg, ← e, hlen]
  simp [hn]
theorem normG_perm (h0 : LO lt) {good : α → Bool} {mx : Nat} {l l' : List α} (hp : l'.Perm l) : normG key lt good mx l' = normG key lt good mx l := by
  have h1 : l'.all good = l.all good := by
    rw [Bool.eq_iff_iff, List.all_eq_true, List.all_eq_true]
    exact ⟨fun h x hx => h x (hp.mem_iff.2 hx), fun h x hx => h x (hp.mem_iff.1 hx)⟩
  have h2 : (l'.map key).Nodup ↔ (l.map key).Nodup := (hp.map key).nodup_iff
  have h3 : l'.length = l.length := hp.length_eq
  unfold normG
  rw [h1, h3]
  by_cases hn : (l.map key).Nodup
  · have hn' := h2.2 hn
    have e : sortG key lt l' = sortG key lt l := sorted_unique h0 ((sortG_perm l').trans hp) (sortG_sorted h0 l') hn
    rw [e]; simp [hn, hn']
  · have hn' : ¬ (l'.map key).Nodup := fun h => hn (h2.1 h)
    simp [hn, hn']
end
section
variable {α β : Type} {key : α → β} {lt : β → β → Bool}
/-- Each good, and behind the one ahead of it. -/
def chkG (key : α → β) (lt : β → β → Bool) (good : α → Bool) : Option α → List α → Bool
  | _, [] => true
  | none, a :: r => good a && chkG key lt good (some a) r
  | some b, a :: r => good a && lt (key b) (key a) && chkG key lt good (some a) r
def prevG (l : List α) (i : Nat) : Option α := if i = 0 then none else l[i - 1]?
def chkGAt (key : α → β) (lt : β → β → Bool) (good : α → Bool) (l : List α) (i : Nat) : Bool := chkG key lt good (prevG l i) (l.drop i)
theorem chkGAt_bad {good : α → Bool} {l : List α} {i : Nat} {a : α} (h : l[i]? = some a) (hg : good a = false) : chkGAt key lt good l i = false := by
  obtain ⟨hi, rfl⟩ := List.getElem?_eq_some_iff.1 h
  unfold chkGAt
  rw [List.drop_eq_getElem_cons hi]
  cases prevG l i <;> simp [chkG, hg]
theorem chkGAt_first {good : α → Bool} {l : List α} {a : α} (h : l[0]? = some a) (hg : good a = true) : chkGAt key lt good l 0 = chkGAt key lt good l 1 := by
  obtain ⟨hi, rfl⟩ := List.getElem?_eq_some_iff.1 h
  unfold chkGAt
  rw [List.drop_eq_getElem_cons hi]
  simp [prevG, chkG, hg, hi]
theorem chkGAt_at {good : α → Bool} {l : List α} {i : Nat} {a b : α} (h0 : 1 ≤ i) (h : l[i]? = some a) (hb : l[i - 1]? = some b) (hg : good a = true) : chkGAt key lt good l i = (lt (key b) (key a) && chkGAt key lt good l (i + 1)) := by
  obtain ⟨hi, rfl⟩ := List.getElem?_eq_some_iff.1 h
  unfold chkGAt
  rw [List.drop_eq_getElem_cons hi]
  have e1 : prevG l i = some b := by unfold prevG; rw [if_neg (by omega), hb]
  have e2 : prevG l (i + 1) = some l[i] := by simp [prevG, hi]
  rw [e1, e2]
  simp [chkG, hg]
theorem chkGAt_end {good : α → Bool} {l : List α} {i : Nat} (h : l.length ≤ i) : chkGAt key lt good l i = true := by
  unfold chkGAt; rw [List.drop_of_length_le h]; cases prevG l i <;> rfl
theorem chkG_sorted (h0 : LO lt) {good : α → Bool} : ∀ {l : List α} (o : Option α), SortedG key lt l → (l.map key).Nodup → l.all good = true → (∀ b, o = some b → ∀ a, l.head? = some a → lt (key b) (key a) = true) → chkG key lt good o l = true
  | [], o, _, _, _, _ => by cases o <;> rfl
  | a :: r, o, hs, hn, hg, ho => by
    have hs' := List.pairwise_cons.1 hs
    rw [List.map_cons, List.nodup_cons] at hn
    simp only [List.all_cons, Bool.and_eq_true] at hg
    have ih := chkG_sorted h0 (some a) hs'.2 hn.2 hg.2 (fun b hb c hc => by
      obtain rfl := Option.some.inj hb
      have hm : c ∈ r := List.mem_of_mem_head? hc
      have h1 := hs'.1 c hm
      rcases h0.tri (key a) (key c) with t | t | t
      · exact t
      · exact absurd (List.mem_map.2 ⟨c, hm, t.symm⟩) hn.1
      · rw [t] at h1; cases h1)
    cases o with
    | none => simp [chkG, hg.1, ih]
    | some b => simp [chkG, hg.1, ih, ho b rfl a rfl]
end

/-! ### Texts -/
theorem bl_irr (x : List UInt8) : Op.bytesLess x x = false := by
  induction x with
  | nil => rfl
  | cons a t ih => simp [Op.bytesLess, ih]
theorem bl_tri (x y : List UInt8) : Op.bytesLess x y = true ∨ x = y ∨ Op.bytesLess y x = true := by
  induction x generalizing y with
  | nil => cases y <;> simp [Op.bytesLess]
  | cons a t ih =>
    cases y with
    | nil => simp [Op.bytesLess]
    | cons b s =>
      rcases ih s with h | h | h
      · by_cases e : a = b
        · subst e; left; simp [Op.bytesLess, h]
        · rcases Nat.lt_or_gt_of_ne (fun q => e (UInt8.toNat_inj.1 q)) with q | q
          · left; simp [Op.bytesLess, UInt8.lt_iff_toNat_lt, q]
          · right; right; simp [Op.bytesLess, UInt8.lt_iff_toNat_lt, q]
      · subst h
        by_cases e : a = b
        · subst e; right; left; rfl
        · rcases Nat.lt_or_gt_of_ne (fun q => e (UInt8.toNat_inj.1 q)) with q | q
          · left; simp [Op.bytesLess, UInt8.lt_iff_toNat_lt, q]
          · right; right; simp [Op.bytesLess, UInt8.lt_iff_toNat_lt, q]
      · by_cases e : a = b
        · subst e; right; right; simp [Op.bytesLess, h]
        · rcases Nat.lt_or_gt_of_ne (fun q => e (UInt8.toNat_inj.1 q)) with q | q
          · left; simp [Op.bytesLess, UInt8.lt_iff_toNat_lt, q]
          · right; right; simp [Op.bytesLess, UInt8.lt_iff_toNat_lt, q]
theorem bl_trans {x y z : List UInt8} (h : Op.bytesLess x y = true) (k : Op.bytesLess y z = true) : Op.bytesLess x z = true := by
  induction x generalizing y z with
  | nil =>
    cases y with
    | nil => simp [Op.bytesLess] at h
    | cons b s => cases z with
      | nil => simp [Op.bytesLess] at k
      | cons c r => rfl
  | cons a t ih =>
    cases y with
    | nil => simp [Op.bytesLess] at h
    | cons b s =>
      cases z with
      | nil => simp [Op.bytesLess] at k
      | cons c r =>
        simp only [Op.bytesLess, Bool.or_eq_true, Bool.and_eq_true, decide_eq_true_eq, beq_iff_eq, UInt8.lt_iff_toNat_lt] at h k ⊢
        rcases h with h | ⟨rfl, h⟩
        · rcases k with k | ⟨rfl, k⟩
          · left; omega
          · left; exact h
        · rcases k with k | ⟨rfl, k⟩
          · left; exact k
          · right; exact ⟨rfl, ih h k⟩
theorem bl_asym {x y : List UInt8} (h : Op.bytesLess x y = true) : Op.bytesLess y x = false := by
  cases k : Op.bytesLess y x
  · rfl
  · have := bl_trans h k; rw [bl_irr] at this; cases this
theorem bl_lo : LO Op.bytesLess := ⟨bl_irr, bl_tri, fun _ _ _ => bl_trans⟩
end Go.Proofs.Ytaeefaehpfjmlaa.GSort
