/-
  THE WALK of steamerlaw1.Made.
-/
import Derived.Test.YtoahloacafhpdaaDoorTold
import Derived.Test.YtoahloacafhpdaaDoorPlain
import Derived.Test.YtoahloacafhpdaaDoorMod
namespace Go.Proofs.YtoahloacafhpdaaDoor
open Go.RowKit PathSpec

/-- The names that a made path is of. -/
def tbl : Nat → List UInt8
  | 0 => [97]
  | 1 => [98]
  | 2 => [99]
  | 3 => [97, 45]
  | 4 => [97, 98]
  | 5 => [122]
  | 6 => [46, 97]
  | _ => [97, 46, 98]
def tblOf (z : Int) : List UInt8 := tbl ((IntKind.u64.wrap z).tmod 8).toNat
def madeN (zs : List Int) (most : Nat) : List (List UInt8) := (zs.take most).map tblOf
def made (zs : List Int) (most : Nat) : List UInt8 := joinN (madeN zs most)
theorem tbl_len (j : Nat) : (tbl j).length ≤ 3 := by unfold tbl; split <;> simp
theorem tbl_name (j : Nat) : nameB (tbl j) = true := by unfold tbl; split <;> decide
theorem tbl_cell (w : World) (t : TypeId) {j : Nat} (hj : j < 8) : (w.alloc (.cells #[.string ⟨#[97]⟩, .string ⟨#[98]⟩, .string ⟨#[99]⟩, .string ⟨#[97, 45]⟩, .string ⟨#[97, 98]⟩, .string ⟨#[122]⟩, .string ⟨#[46, 97]⟩, .string ⟨#[97, 46, 98]⟩] t)).cell? ⟨w.heap.size, j, none⟩ = some (.string ⟨(tbl j).toArray⟩) := by
  have h := row_alloc w [.string ⟨#[97]⟩, .string ⟨#[98]⟩, .string ⟨#[99]⟩, .string ⟨#[97, 45]⟩, .string ⟨#[97, 98]⟩, .string ⟨#[122]⟩, .string ⟨#[46, 97]⟩, .string ⟨#[97, 46, 98]⟩] t j (by simpa using hj)
  rw [Nat.zero_add] at h
  rw [h]
  match j, hj with
  | 0, _ => rfl
  | 1, _ => rfl
  | 2, _ => rfl
  | 3, _ => rfl
  | 4, _ => rfl
  | 5, _ => rfl
  | 6, _ => rfl
  | 7, _ => rfl
theorem joinN_len (xs : List (List UInt8)) (m : Nat) (h : ∀ x ∈ xs, x.length ≤ m) : (joinN xs).length ≤ xs.length * (m + 1) := by
  induction xs with
  | nil => simp [joinN]
  | cons x r ih =>
    have hx := h x (by simp)
    have := ih (fun y hy => h y (List.mem_cons_of_mem _ hy))
    cases r with
    | nil => simp [joinN]; omega
    | cons y t =>
      rw [joinN_cons (by simp)]
      rw [List.length_append, List.length_cons, List.length_cons (a := x), Nat.add_mul]
      omega
theorem made_len (zs : List Int) (most : Nat) (k : Nat) (hk : k ≤ most) : (joinN ((madeN zs most).take k)).length ≤ most * 4 := by
  have h := joinN_len ((madeN zs most).take k) 3 (fun x hx => by
    have := List.mem_of_mem_take hx
    simp only [madeN, List.mem_map] at this
    obtain ⟨z, _, rfl⟩ := this
    exact tbl_len _)
  have : ((madeN zs most).take k).length ≤ most := by simp; omega
  have := Nat.mul_le_mul_right 4 this
  omega
theorem made_ok (zs : List Int) {most : Nat} (h : most ≤ 8) : okN (madeN zs most) := by
  refine ⟨fun x hx => ?_, by simp [madeN]; omega, ?_⟩
  · simp only [madeN, List.mem_map] at hx
    obtain ⟨z, _, rfl⟩ := hx
    exact tbl_name _
  · have := joinN_len (madeN zs most) 3 (fun x hx => by
      simp only [madeN, List.mem_map] at hx
      obtain ⟨z, _, rfl⟩ := hx
      exact tbl_len _)
    have h2 : (madeN zs most).length ≤ 8 := by simp [madeN]; omega
    have := Nat.mul_le_mul_right 4 h2
    omega
theorem made_step {zs : List Int} {most k : Nat} {z : Int} (hz : zs[k]? = some z) (hk : k < most) : (madeN zs most).take (k + 1) = (madeN zs most).take k ++ [tblOf z] := by
  have : (madeN zs most)[k]? = some (tblOf z) := by
    simp [madeN, List.getElem?_take, hk, hz]
  rw [List.take_add_one, this]; rfl
theorem made_take {zs : List Int} {most k : Nat} (h : ¬ (k < zs.length ∧ k < most)) : (madeN zs most).take k = madeN zs most := by
  apply List.take_of_length_le
  simp [madeN]; omega

theorem made_take_ne {zs : List Int} {most k : Nat} (h1 : k < zs.length) (h2 : k < most) (h0 : 0 < k) : (madeN zs most).take k ≠ [] := by
  intro h
  have := congrArg List.length h
  simp only [madeN, List.length_map, List.length_take, List.length_nil] at this
  omega

set_option maxRecDepth 100000 in
set_option maxHeartbeats 1000000 in
theorem made_any (v : Value) (zs : List Int) (most : Nat) (w : World) (hv : Ints w v zs) (hm : most ≤ 1000) (hl : zs.length ≤ maxLen) :
    Calls Tryd.prog 28 #[v, .int .i64 most] w fun e w' => e = .returned (.string ⟨(made zs most).toArray⟩) ∧ G w w' := by
  unfold maxLen at hl
  obtain ⟨p, cap, rfl, hp⟩ := hv.shape
  have Hp := Lib.hid hp
  clear hp hv
  go_enter Tryd.func28, Tryd.ntmps28
  go_wp2_with fail
  go_loopw [5, 6] (fun s i wr => ∃ k : Nat, k ≤ zs.length ∧ k ≤ most ∧ i = .int .i64 k ∧ s = .string ⟨(joinN ((madeN zs most).take k)).toArray⟩ ∧ G w wr) (fun _ i _ => zs.length - (intOf i).toNat)
  case atStart => exact ⟨0, Nat.zero_le _, Nat.zero_le _, rfl, rfl, G.refl _⟩
  case round =>
    obtain ⟨k, hk, hk2, rfl, rfl, hg⟩ := hrel
    have hlen := made_len zs most k hk2
    by_cases hlt : k < zs.length ∧ k < most
    · obtain ⟨h1, h2⟩ := hlt
      obtain ⟨z, hz⟩ : ∃ z, zs[k]? = some z := ⟨zs[k], List.getElem?_eq_getElem h1⟩
      obtain ⟨b, off, rfl, hc⟩ := Hp.out k z hz
      have hc2 := hg.cell hc
      have Hs := Lib.hid (made_step hz h2)
      obtain ⟨j, hj, e1⟩ := u64_mod z 8 (by decide)
      simp only [Int.cast_ofNat_Int] at e1
      have Ht := Lib.hid (show tblOf z = tbl j by unfold tblOf; rw [e1]; simp)
      have htl := tbl_len j
      have ht := tbl_cell wr 9 hj
      have hc3 := fun o => (G.alloc wr o).cell hc2
      clear hz hc hc2
      by_cases h0 : k ≤ 0
      · go_wp2_with fail
        go_roundw
        case rel =>
          refine ⟨k + 1, by omega, by omega, by go_num, ?_, hg.trans (G.alloc _ _)⟩
          rw [Hs.out, Ht.out, ba_append]
          have : k = 0 := by omega
          subst this
          rfl
        case measure => simp [intOf]; omega
      · go_wp2_with fail
        go_roundw
        case rel =>
          refine ⟨k + 1, by omega, by omega, by go_num, ?_, hg.trans (G.alloc _ _)⟩
          rw [Hs.out, Ht.out, ba_append, ba_append, joinN_snoc (made_take_ne h1 h2 (by omega))]
          simp
        case measure => simp [intOf]; omega
    · have Ht := Lib.hid (made_take hlt)
      by_cases h1 : k < zs.length
      · have h2 : ¬ k < most := fun h => hlt ⟨h1, h⟩
        clear hlt
        go_wp2_with fail
        go_ret
        rw [Ht.out]
        exact ⟨rfl, hg⟩
      · clear hlt
        go_wp2_with fail
        go_ret
        rw [Ht.out]
        exact ⟨rfl, hg⟩
end Go.Proofs.YtoahloacafhpdaaDoor
