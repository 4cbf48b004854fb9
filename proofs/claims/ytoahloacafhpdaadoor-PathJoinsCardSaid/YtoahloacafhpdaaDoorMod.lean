/-
  SMALL NUMBERS: what 'uint(n) % k' comes to.
-/
import Derived.WalkKit
namespace Go.Proofs.YtoahloacafhpdaaDoor
open Go.RowKit
theorem u64_nonneg (n : Int) : 0 ≤ IntKind.u64.wrap n := by
  have h : IntKind.u64.wrap n = n % 18446744073709551616 := by simp [IntKind.wrap, IntKind.bits, IntKind.signed]
  rw [h]; exact Int.emod_nonneg _ (by decide)
theorem u64_mod (n : Int) (k : Nat) (hk : 0 < k) : ∃ j : Nat, j < k ∧ (IntKind.u64.wrap n).tmod (k : Int) = (j : Int) := by
  have h0 := u64_nonneg n
  refine ⟨((IntKind.u64.wrap n).tmod (k : Int)).toNat, ?_, ?_⟩
  · have h1 := Int.tmod_lt_of_pos (IntKind.u64.wrap n) (b := (k : Int)) (by omega)
    have h2 := Int.tmod_nonneg (k : Int) h0
    omega
  · have h2 := Int.tmod_nonneg (k : Int) h0
    omega
end Go.Proofs.YtoahloacafhpdaaDoor
