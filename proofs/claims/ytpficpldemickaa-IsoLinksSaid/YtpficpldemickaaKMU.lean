import Derived.Test.YtpficpldemickaaKM2
set_option linter.unusedSimpArgs false
set_option linter.unusedVariables false
namespace Go.Proofs.Ytpficpldemickaa
open Go.RowKit AclSpec MetaSpec GSort

theorem u64_nn (x : Int) : 0 ≤ IntKind.u64.wrap x := by
  show 0 ≤ x % _
  exact Int.emod_nonneg _ (by decide)
theorem remU (x : Int) (m : Nat) (h0 : 0 < m) : ∃ k : Nat,k < m ∧ (IntKind.u64.wrap x).tmod m = k := by
  have h := u64_nn x
  rw [Int.tmod_eq_emod_of_nonneg h]
  have a1 := Int.emod_nonneg (IntKind.u64.wrap x) (b := (m : Int)) (by omega)
  have a2 := Int.emod_lt_of_pos (IntKind.u64.wrap x) (b := (m : Int)) (by omega)
  exact ⟨((IntKind.u64.wrap x) % m).toNat,by omega,by omega⟩
end Go.Proofs.Ytpficpldemickaa
