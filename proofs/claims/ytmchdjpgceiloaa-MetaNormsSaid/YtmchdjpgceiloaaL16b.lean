/-
  DRAWN REGIONS: what waits for what; the orders of what is left.
-/
import Derived.Test.YtmchdjpgceiloaaL15
set_option linter.unusedSimpArgs false
set_option linter.unusedVariables false
namespace Go.Proofs.Ytmchdjpgceiloaa
open Go.RowKit

/-- j comes behind i. -/
def waitsB (md : Region.Mode) (ops : Array Oper) : Nat → Nat → Nat → Bool
  | 0, _, _ => false
  | f + 1, j, i =>
    match ops[j]? with
    | some oj => oj.after.toList.any fun e => Region.binds md e && (e.on == i || waitsB md ops f e.on i)
    | none => false
def Closed (md : Region.Mode) (ops : Array Oper) (listed : Array Bool) : Prop := ∀ j oj, ops[j]? = some oj → listed.getD j false = true → ∀ e ∈ oj.after, Region.binds md e = true → listed.getD e.on false = true
section
variable {ops : Array Oper} {md : Region.Mode}
theorem needs_not {listed : Array Bool} (hc : Closed md ops listed) {i : Nat} (hi : listed.getD i false = false) : ∀ (f j : Nat) (oj : Oper), ops[j]? = some oj → (∀ e ∈ oj.after, Region.binds md e = true → listed.getD e.on false = true) → waitsB md ops f j i = false
  | 0, _, _, _, _ => rfl
  | f + 1, j, oj, hj, hall => by
    unfold waitsB
    simp only [hj]
    rw [List.any_eq_false]
    intro e he h
    rw [Bool.and_eq_true, Bool.or_eq_true] at h
    have hl := hall e (by simpa using he) h.1
    rcases h.2 with h2 | h2
    · rw [beq_iff_eq] at h2
      rw [h2, hi] at hl; cases hl
    · cases ho : ops[e.on]? with
      | none =>
        cases f with
        | zero => simp [waitsB] at h2
        | succ f => simp [waitsB, ho] at h2
      | some oe =>
        rw [needs_not hc hi f e.on oe ho (hc e.on oe ho hl)] at h2; cases h2
theorem Closed.set {i : Nat} {listed : Array Bool} (inv : Closed md ops listed) (hi : i ∈ Region.ready md ops listed) : Closed md ops (listed.setIfInBounds i true) := by
  obtain ⟨_, oi, hoi, hall⟩ := mem_ready.1 hi
  intro j oj hj hl e he hb
  by_cases hij : i = j
  · subst hij
    have : oj = oi := Option.some.inj (hj.symm.trans hoi)
    subst this
    exact getD_set_true (hall e he hb)
  · rw [getD_set_ne false hij] at hl
    exact getD_set_true (inv j oj hj hl e he hb)
def orders (md : Region.Mode) (ops : Array Oper) : Nat → Array Bool → List (List Nat)
  | 0, _ => [[]]
  | f + 1, listed => if (Region.ready md ops listed).isEmpty then [[]] else (Region.ready md ops listed).flatMap fun i => (orders md ops f (listed.setIfInBounds i true)).map (i :: ·)
theorem orders_ne : ∀ (f : Nat) (listed : Array Bool), orders md ops f listed ≠ []
  | 0, _ => by simp [orders]
  | f + 1, listed => by
    unfold orders
    split
    · simp
    · rename_i h
      intro he
      rw [List.flatMap_eq_nil_iff] at he
      cases hr : Region.ready md ops listed with
      | nil => rw [hr] at h; simp at h
      | cons i r =>
        have := he i (by rw [hr]; simp)
        rw [List.map_eq_nil_iff] at this
        exact orders_ne f _ this
def AllL {α : Type} (F : α → Prop) : List α → Prop
  | [] => True
  | [a] => F a
  | a :: b :: r => F a ∧ AllL F (b :: r)
theorem AllL.spec {α : Type} {F : α → Prop} : ∀ {l : List α}, AllL F l → ∀ p ∈ l, F p
  | [], _, p, hp => by cases hp
  | [a], h, p, hp => by rw [List.mem_singleton] at hp; subst hp; exact h
  | a :: b :: r, h, p, hp => by
    rcases List.mem_cons.1 hp with rfl | hp
    · exact h.1
    · exact AllL.spec h.2 p hp
end
end Go.Proofs.Ytmchdjpgceiloaa
