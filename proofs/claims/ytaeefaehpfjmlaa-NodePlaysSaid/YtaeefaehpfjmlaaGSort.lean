import GoSem.Core.Value
import Derived.WalkKit
set_option linter.unusedSimpArgs false
set_option linter.unusedVariables false
namespace Go.Proofs.Ytaeefaehpfjmlaa.GSort

structure LO {β : Type} (lt : β → β → Bool) : Prop where
  irr : ∀ x, lt x x = false
  tri : ∀ x y, lt x y = true ∨ x = y ∨ lt y x = true
  trans : ∀ x y z, lt x y = true → lt y z = true → lt x z = true
section
variable {α β : Type} {key : α → β} {lt : β → β → Bool}
theorem LO.ntrans (h : LO lt) {x y z : β} (h1 : lt y x = false) (h2 : lt z y = false) : lt z x = false := by
  cases k : lt z x
  · rfl
  · rcases h.tri x y with a | a | a
    · have := h.trans _ _ _ k a; rw [h2] at this; cases this
    · subst a; rw [k] at h2; cases h2
    · rw [a] at h1; cases h1
variable [DecidableEq β]
end
section
variable {α β : Type} {key : α → β} {lt : β → β → Bool}
def chkG (key : α → β) (lt : β → β → Bool) (good : α → Bool) : Option α → List α → Bool
  | _, [] => true
  | none, a :: r => good a && chkG key lt good (some a) r
  | some b, a :: r => good a && lt (key b) (key a) && chkG key lt good (some a) r
def prevG (l : List α) (i : Nat) : Option α := if i = 0 then none else l[i - 1]?
def chkGAt (key : α → β) (lt : β → β → Bool) (good : α → Bool) (l : List α) (i : Nat) : Bool := chkG key lt good (prevG l i) (l.drop i)
theorem chkGAt_bad {good : α → Bool} {l : List α} {i : Nat} {a : α} (h : l[i]? = some a) (hg : good a = false) : chkGAt key lt good l i = false := by
  obtain ⟨hi, rfl⟩ := List.getElem?_eq_some_iff.1 h
  unfold chkGAt
  rw [List.drop_eq_getElem_cons hi]
  cases prevG l i <;> simp [chkG, hg]
theorem chkGAt_first {good : α → Bool} {l : List α} {a : α} (h : l[0]? = some a) (hg : good a = true) : chkGAt key lt good l 0 = chkGAt key lt good l 1 := by
  obtain ⟨hi, rfl⟩ := List.getElem?_eq_some_iff.1 h
  unfold chkGAt
  rw [List.drop_eq_getElem_cons hi]
  simp [prevG, chkG, hg, hi]
theorem chkGAt_at {good : α → Bool} {l : List α} {i : Nat} {a b : α} (h0 : 1 ≤ i) (h : l[i]? = some a) (hb : l[i - 1]? = some b) (hg : good a = true) : chkGAt key lt good l i = (lt (key b) (key a) && chkGAt key lt good l (i + 1)) := by
  obtain ⟨hi, rfl⟩ := List.getElem?_eq_some_iff.1 h
  unfold chkGAt
  rw [List.drop_eq_getElem_cons hi]
  have e1 : prevG l i = some b := by unfold prevG; rw [if_neg (by omega), hb]
  have e2 : prevG l (i + 1) = some l[i] := by simp [prevG, hi]
  rw [e1, e2]
  simp [chkG, hg]
theorem chkGAt_end {good : α → Bool} {l : List α} {i : Nat} (h : l.length ≤ i) : chkGAt key lt good l i = true := by
  unfold chkGAt; rw [List.drop_of_length_le h]; cases prevG l i <;> rfl
end

end Go.Proofs.Ytaeefaehpfjmlaa.GSort
