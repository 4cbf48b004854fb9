/-
  PLAIN: what the laws of extents ask.
-/
import Derived.Test.YtalpgecmlmpkkaaKT
set_option linter.unusedSimpArgs false
set_option linter.unusedVariables false
namespace Go.Proofs.Ytalpgecmlmpkkaa
open Go.RowKit Go.Proofs Flo Ext

theorem toInt_fI {n : Nat} (h : n ≤ big) : floatToIntVal .f64 (fI (min n big)) .i64 = some (n : Int) := by
  rw [Nat.min_eq_left h]
  have e := partI_fI h
  have hb : fI big = 4787326403894837248 := by decide +kernel
  have h0 : fI 0 = 0 := by decide +kernel
  have o1 := order_fI h (Nat.le_refl big)
  have o2 := order_fI h (Nat.zero_le big)
  rw [hb] at o1
  rw [h0] at o2
  rcases part_cases (fI n) with ⟨h1, _⟩ | ⟨_, _, h3, h4⟩ | ⟨_, _, h3⟩ | ⟨_, _, h3, _⟩ | ⟨_, h2, _⟩ | ⟨h1, _⟩
  · rw [o1] at h1; have := cmp_gt.1 (Option.some.inj h1); omega
  · rw [h4, ← h3, e]
  · rw [h3, e]
  · rw [h3, e]
  · rw [o2] at h2; have := cmp_lt.1 (Option.some.inj h2); omega
  · rw [o1] at h1; cases h1
theorem remN (x : Int) (m : Nat) (h0 : 0 < m) (h1 : m ≤ 4611686018427387904) : ∃ k : Nat, k < m ∧ IntKind.i64.wrap ((IntKind.u64.wrap x).tmod m) = k := by
  have h := u64_nonneg x
  rw [Int.tmod_eq_emod_of_nonneg h]
  have a1 := Int.emod_nonneg (IntKind.u64.wrap x) (b := (m : Int)) (by omega)
  have a2 := Int.emod_lt_of_pos (IntKind.u64.wrap x) (b := (m : Int)) (by omega)
  exact ⟨((IntKind.u64.wrap x) % m).toNat, by omega, by rw [w64 (by omega)]; omega⟩
theorem hasE_take {a : List E} {i : Nat} {z : E} (h : a[i]? = some z) (p : Int) : hasE (a.take (i + 1)) p = (hasE (a.take i) p || (decide ((z.1 : Int) ≤ p) && decide (p < fin z))) := by
  obtain ⟨hi, rfl⟩ := List.getElem?_eq_some_iff.1 h
  unfold hasE
  rw [List.take_succ_eq_append_getElem hi, List.any_append]
  simp
theorem holesF_len {size : Nat} : ∀ {n : List E} {fr : Nat}, (holesF size fr n).length ≤ n.length + 1
  | [], fr => by simp only [holesF]; split <;> simp
  | z :: r, fr => by
    have := holesF_len (size := size) (n := r) (fr := fin z)
    rw [holesF, List.length_append, List.length_cons]
    split <;> simp <;> omega
theorem norm_self (a : List E) : normE big (normE big a) = normE big a := normE_self (normE_ok big a).sep (normE_ok big a).le
section
variable {a : List E} (ha : ∀ z ∈ a, z.1 < 250 ∧ z.2 < 20)
include ha
theorem mem_lt {p : Nat} (h : Mem a p) : p < 269 := by
  obtain ⟨z, hz, _, h2⟩ := h
  have := ha z hz
  unfold fin at h2; omega
theorem norm_fin : ∀ e ∈ normE big a, fin e ≤ 269 := by
  intro e he
  have hs := (normE_ok big a).sep.2 e he
  have : Mem (normE big a) (fin e - 1) := ⟨e, he, by unfold fin; omega, by unfold fin; omega⟩
  have := mem_lt ha (mem_norm.1 this).1
  omega
theorem has_norm (p : Nat) : hasE (normE big a) p = hasE a p := by
  rw [Bool.eq_iff_iff, hasE_iff, hasE_iff, mem_norm]
  constructor
  · exact fun h => h.1
  · exact fun h => ⟨h, by have := mem_lt ha h; unfold big; omega⟩
theorem may_norm {s : Int} (h0 : 269 ≤ s) (hB : s ≤ big) : mayE big (normE big a) s = true :=
  mayE_sep (by omega) hB (normE_ok big a).sep (fun e he => by have := norm_fin ha e he; omega)
end
theorem holes_fin {a : List E} {s : Nat} : ∀ e ∈ holesE big a s, fin e ≤ s := fun e he => (holesF_in he).2
theorem holes_self {a : List E} {s : Nat} (h : s ≤ big) : normE big (holesE big a s) = holesE big a s :=
  normE_self (holesE_sep big a s) (fun e he => Nat.le_trans (holes_fin e he) h)
theorem holes_has {a : List E} {s p : Nat} (h : s ≤ big) : hasE (normE big (holesE big a s)) p = (!hasE a p && decide (p < s)) := by
  rw [holes_self h, Bool.eq_iff_iff, hasE_iff, holesE_mem h, Bool.and_eq_true, decide_eq_true_eq, Bool.not_eq_true', Bool.eq_false_iff, Ne, hasE_iff]
  exact And.comm
theorem holes_may {a : List E} {s : Nat} (h : s ≤ big) : mayE big (holesE big a s) s = true :=
  mayE_sep (by omega) (by omega) (holesE_sep big a s) (fun e he => by have := holes_fin e he; omega)
theorem holes_okE {a : List E} {s : Nat} (h : s ≤ big) : ∀ z ∈ holesE big a s, okE z := fun z hz => ok_of_fin (Nat.le_trans (holes_fin z hz) h)
theorem holes_len (a : List E) (s : Nat) : (holesE big a s).length ≤ a.length + 1 := by
  have := holesF_len (size := s) (n := normE big a) (fr := 0)
  have := norm_len a
  unfold holesE; omega
end Go.Proofs.Ytalpgecmlmpkkaa
