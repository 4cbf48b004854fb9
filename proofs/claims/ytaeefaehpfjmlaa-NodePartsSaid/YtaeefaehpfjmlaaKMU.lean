import Derived.Test.YtaeefaehpfjmlaaKM2
set_option linter.unusedSimpArgs false
set_option linter.unusedVariables false
namespace Go.Proofs.Ytaeefaehpfjmlaa
open Go.RowKit AclSpec MetaSpec GSort

theorem ofInt_wrap (z : Int) : BitVec.ofInt 64 (IntKind.i64.wrap z) = BitVec.ofInt 64 z := by
  apply BitVec.eq_of_toNat_eq
  rw [BitVec.toNat_ofInt, BitVec.toNat_ofInt]
  congr 1
  show (if (true && decide (z % 18446744073709551616 ≥ 9223372036854775808)) = true then z % 18446744073709551616 - 18446744073709551616 else z % 18446744073709551616) % 18446744073709551616 = z % 18446744073709551616
  split <;> omega
theorem xor1_ne (a : Int) : ¬ bits .xor .i64 a 1 = a := by
  intro h
  have h2 : (BitVec.ofInt 64 a ^^^ BitVec.ofInt 64 1) = BitVec.ofInt 64 a := by
    have h3 : IntKind.i64.wrap ((BitVec.ofInt 64 a ^^^ BitVec.ofInt 64 1).toNat : Int) = a := h
    have h4 := congrArg (BitVec.ofInt 64) h3
    rw [ofInt_wrap, BitVec.ofInt_natCast, BitVec.ofNat_toNat, BitVec.setWidth_eq] at h4
    exact h4
  have h4 := congrArg (fun x => BitVec.ofInt 64 a ^^^ x) h2
  simp only [← BitVec.xor_assoc, BitVec.xor_self, BitVec.zero_xor] at h4
  exact absurd h4 (by decide)
theorem u64_nn (x : Int) : 0 ≤ IntKind.u64.wrap x := by
  show 0 ≤ x % _
  exact Int.emod_nonneg _ (by decide)
theorem remU (x : Int) (m : Nat) (h0 : 0 < m) : ∃ k : Nat, k < m ∧ (IntKind.u64.wrap x).tmod m = k := by
  have h := u64_nn x
  rw [Int.tmod_eq_emod_of_nonneg h]
  have a1 := Int.emod_nonneg (IntKind.u64.wrap x) (b := (m : Int)) (by omega)
  have a2 := Int.emod_lt_of_pos (IntKind.u64.wrap x) (b := (m : Int)) (by omega)
  exact ⟨((IntKind.u64.wrap x) % m).toNat, by omega, by omega⟩
theorem app_ne {α : Type} (l : List α) (x : α) : ¬ l = l ++ [x] := fun h => by
  have := congrArg List.length h; simp at this
theorem few_len {m : Meta} (h : fewM m = true) : m.attrs.length ≤ 12 ∧ m.acl.length ≤ 20 := by
  unfold fewM at h; simp only [Bool.and_eq_true, decide_eq_true_eq] at h; exact ⟨h.1.2, h.2⟩

end Go.Proofs.Ytaeefaehpfjmlaa
