/-
  PLAIN: attributes of short names, in both orders.
-/
import Derived.Test.YtmchdjpgceiloaaMSpec
set_option linter.unusedSimpArgs false
set_option linter.unusedVariables false
namespace Go.Proofs.Ytmchdjpgceiloaa.MetaSpec
open GSort AclSpec

def nmsT : List (List UInt8) := [[97], [98], [99], [97, 98], [98, 99], [97, 98, 99], [122], [122, 97], [113], [113, 113], [120]]
/-- One of those that the law makes. -/
def isT (a : Attr) : Prop := a.name ∈ nmsT ∧ a.value = [118]
theorem isT_good {a : Attr} (h : isT a) : goodT a = true := by
  obtain ⟨h1, h2⟩ := h
  unfold goodT
  rw [h2]
  have : 1 ≤ a.name.length ∧ a.name.length ≤ 20 := by
    revert h1
    generalize a.name = n
    intro h1
    simp only [nmsT, List.mem_cons, List.not_mem_nil, or_false] at h1
    rcases h1 with rfl | rfl | rfl | rfl | rfl | rfl | rfl | rfl | rfl | rfl | rfl <;> decide
  simp [this.1, this.2]
theorem isT_all {l : List Attr} (h : ∀ a ∈ l, isT a) : l.all goodT = true := List.all_eq_true.2 fun a ha => isT_good (h a ha)
def dupT (l : List Attr) : Bool := decide ¬ (l.map Attr.name).Nodup
theorem dupT_nil : dupT [] = false := rfl
theorem dupT_snoc (l : List Attr) (a : Attr) : dupT (l ++ [a]) = (dupT l || l.any fun b => decide (b.name = a.name)) := by
  unfold dupT
  rw [Bool.eq_iff_iff, Bool.or_eq_true, decide_eq_true_eq, decide_eq_true_eq, List.any_eq_true, List.map_append, List.nodup_append]
  constructor
  · intro h
    by_cases hn : (l.map Attr.name).Nodup
    · right
      apply Classical.byContradiction
      intro hc
      refine h ⟨hn, by simp, ?_⟩
      intro x hx y hy hxy
      obtain ⟨b, hb, rfl⟩ := List.mem_map.1 hx
      simp at hy
      subst hy
      exact hc ⟨b, hb, by simpa using hxy⟩
    · exact .inl hn
  · rintro (h | ⟨b, hb, h⟩) hc
    · exact h hc.1
    · exact hc.2.2 b.name (List.mem_map.2 ⟨b, hb, rfl⟩) a.name (by simp) (by simpa using h)
theorem norm_dup {l : List Attr} (h : ∀ a ∈ l, isT a) (hd : dupT l = true) : normT l = ([], 6) := by
  unfold dupT at hd
  have hd' := of_decide_eq_true hd
  simp [normT, normG, isT_all h, hd']
theorem norm_ok {l : List Attr} (h : ∀ a ∈ l, isT a) (hd : dupT l = false) (h8 : l.length ≤ 8) : normT l = (sortG Attr.name Op.bytesLess l, 0) := by
  unfold dupT at hd
  have hd' : (l.map Attr.name).Nodup := by simpa using hd
  have : ¬ 8 < l.length := by omega
  simp [normT, normG, isT_all h, hd', this]
theorem norm_rev (l : List Attr) : normT l.reverse = normT l := normG_perm bl_lo (List.reverse_perm l)
theorem sort_lt {l : List Attr} (hd : dupT l = false) {i : Nat} {a b : Attr} (ha : (sortG Attr.name Op.bytesLess l)[i]? = some a) (hb : (sortG Attr.name Op.bytesLess l)[i + 1]? = some b) : Op.bytesLess a.name b.name = true := by
  unfold dupT at hd
  have hd' : (l.map Attr.name).Nodup := by simpa using hd
  have hn : ((sortG Attr.name Op.bytesLess l).map Attr.name).Nodup := ((sortG_perm l).map Attr.name).nodup_iff.2 hd'
  have hs := sortG_sorted (key := Attr.name) bl_lo l
  obtain ⟨hi, rfl⟩ := List.getElem?_eq_some_iff.1 ha
  obtain ⟨hj, rfl⟩ := List.getElem?_eq_some_iff.1 hb
  have h1 := (List.pairwise_iff_getElem.1 hs) i (i + 1) hi hj (by omega)
  rcases bl_tri (sortG Attr.name Op.bytesLess l)[i].name (sortG Attr.name Op.bytesLess l)[i + 1].name with t | t | t
  · exact t
  · have h2 := (List.pairwise_iff_getElem.1 hn) i (i + 1) (by simpa using hi) (by simpa using hj) (by omega)
    simp only [List.getElem_map] at h2
    exact absurd t h2
  · rw [t] at h1; cases h1
def mOf (l : List Attr) : Meta := ⟨0, 0, 0, 0, l, []⟩
theorem mayM_of (l : List Attr) : mayM (mOf l) = (decide (l.length ≤ 8) && chkT l 0) := by
  have : mayA [] = true := by decide +kernel
  simp [mayM, mOf, idB, this]; rfl
theorem may_sorted {l : List Attr} (h : ∀ a ∈ l, isT a) (hd : dupT l = false) (h8 : l.length ≤ 8) : mayM (mOf (sortG Attr.name Op.bytesLess l)) = true := by
  unfold dupT at hd
  have hd' : (l.map Attr.name).Nodup := by simpa using hd
  have hp := sortG_perm (key := Attr.name) (lt := Op.bytesLess) l
  rw [mayM_of, hp.length_eq]
  have h1 : chkT (sortG Attr.name Op.bytesLess l) 0 = true := by
    show chkG Attr.name Op.bytesLess goodT (prevG _ 0) (List.drop 0 _) = true
    rw [List.drop_zero]
    exact chkG_sorted bl_lo _ (sortG_sorted bl_lo l) ((hp.map Attr.name).nodup_iff.2 hd') (isT_all fun a ha => h a (hp.mem_iff.1 ha)) (fun b hb => by simp [prevG] at hb)
  simp [h1, h8]
theorem chk_adj : ∀ {l : List Attr} {o : Option Attr}, chkG Attr.name Op.bytesLess goodT o l = true → ∀ {i : Nat} {a b : Attr}, l[i]? = some a → l[i + 1]? = some b → Op.bytesLess a.name b.name = true
  | [], _, _, _, _, _, h, _ => by cases h
  | [x], _, _, _, _, _, _, h => by simp at h
  | x :: y :: r, o, hc, 0, a, b, h1, h2 => by
    simp at h1 h2
    subst h1; subst h2
    cases o <;> simp [chkG] at hc
    · exact hc.2.1.2
    · exact hc.2.1.2
  | x :: y :: r, o, hc, i + 1, a, b, h1, h2 => by
    have : chkG Attr.name Op.bytesLess goodT (some x) (y :: r) = true := by
      cases o <;> simp [chkG] at hc ⊢
      · exact hc.2
      · exact hc.2
    exact chk_adj this (i := i) (by simpa using h1) (by simpa using h2)
theorem may_both {l : List Attr} (h2 : 2 ≤ l.length) (ha : mayM (mOf l) = true) (hb : mayM (mOf l.reverse) = true) : False := by
  rw [mayM_of, Bool.and_eq_true] at ha hb
  match l, h2 with
  | x :: y :: r, _ =>
    have e1 := chk_adj (l := x :: y :: r) (o := prevG (x :: y :: r) 0) (by have := ha.2; unfold chkT chkGAt at this; rwa [List.drop_zero] at this) (i := 0) rfl rfl
    have hr : (x :: y :: r).reverse = r.reverse ++ [y, x] := by simp
    have e2 := chk_adj (l := (x :: y :: r).reverse) (o := prevG (x :: y :: r).reverse 0) (by have := hb.2; unfold chkT chkGAt at this; rwa [List.drop_zero] at this) (i := r.length) (a := y) (b := x) (by rw [hr, List.getElem?_append_right (by simp)]; simp) (by rw [hr, List.getElem?_append_right (by simp)]; simp)
    rw [bl_asym e1] at e2; cases e2
end Go.Proofs.Ytmchdjpgceiloaa.MetaSpec
