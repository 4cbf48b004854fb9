/-
  THE WALKS of acl.good, cmp.Or, acl.compare.
-/
import Derived.Test.YtmchdjpgceiloaaProg
import Derived.Test.YtmchdjpgceiloaaBase
import Derived.Test.YtmchdjpgceiloaaASpec
set_option linter.unusedSimpArgs false
set_option linter.unusedVariables false
namespace Go.Proofs.Ytmchdjpgceiloaa
open Go.RowKit AclSpec

def aceCells (a : Ace) : List Value := [.int .i64 a.kind, .int .i64 a.id, .int .i64 a.perm]
def aceV (a : Ace) : Value := .agg #[.int .i64 a.kind, .int .i64 a.id, .int .i64 a.perm]

set_option maxRecDepth 100000 in
set_option maxHeartbeats 400000 in
theorem good_any (a : Ace) (w : World) :
    Calls Try.prog 32 #[.agg #[.int .i64 a.kind, .int .i64 a.id, .int .i64 a.perm]] w fun e w' => e = .returned (.bool (goodB a)) ∧ G w w' := by
  obtain ⟨k, i, p⟩ := a
  by_cases h1 : k < 1
  · go_enter Try.func32, Try.ntmps32
    go_wp2
    go_ret
    exact ⟨ret_bool (by simp [goodB]; omega), G.alloc _ _⟩
  by_cases h2 : 3 < k
  · go_enter Try.func32, Try.ntmps32
    go_wp2
    go_ret
    exact ⟨ret_bool (by simp [goodB]; omega), G.alloc _ _⟩
  by_cases h3 : p < 0
  · go_enter Try.func32, Try.ntmps32
    go_wp2
    go_ret
    exact ⟨ret_bool (by simp [goodB]; omega), G.alloc _ _⟩
  by_cases h4 : 7 < p
  · go_enter Try.func32, Try.ntmps32
    go_wp2
    go_ret
    exact ⟨ret_bool (by simp [goodB]; omega), G.alloc _ _⟩
  by_cases h5 : k = 3
  · have g5 : (k == 3) = true := by simp [h5]
    go_enter Try.func32, Try.ntmps32
    go_wp2
    go_ret
    exact ⟨ret_bool (by simp [goodB]; omega), G.alloc _ _⟩
  have g5 : (k == 3) = false := by simp [h5]
  by_cases h6 : 0 ≤ i
  · by_cases h7 : i ≤ 2147483647
    · go_enter Try.func32, Try.ntmps32
      go_wp2
      go_ret
      exact ⟨ret_bool (by simp [goodB, h5, h6, h7]; omega), G.alloc _ _⟩
    · go_enter Try.func32, Try.ntmps32
      go_wp2
      go_ret
      exact ⟨ret_bool (by simp [goodB]; omega), G.alloc _ _⟩
  · go_enter Try.func32, Try.ntmps32
    go_wp2
    go_ret
    exact ⟨ret_bool (by simp [goodB]; omega), G.alloc _ _⟩

set_option maxRecDepth 100000 in
set_option maxHeartbeats 400000 in
/-- cmp.Or at two numbers. -/
theorem or_any (b : Nat) (x y : Int) (w : World) (hx : w.cell? ⟨b, 0, none⟩ = some (.int .i64 x)) (hy : w.cell? ⟨b, 1, none⟩ = some (.int .i64 y)) :
    Calls Try.prog 49 #[.slice (some ⟨b, 0, none⟩) 2 2] w fun e w' => e = .returned (.int .i64 (orI x y)) ∧ w = w' := by
  go_enter Try.func49, Try.ntmps49
  go_wp2
  go_loop [8] (fun i => ∃ k : Nat, k ≤ 2 ∧ i = .int .i64 k ∧ Hid ((1 ≤ k → x = 0) ∧ (2 ≤ k → y = 0))) (fun i => 2 - (intOf i).toNat)
  case atStart => exact ⟨0, by omega, rfl, fun h => by omega, fun h => by omega⟩
  case round =>
    obtain ⟨k, hk, rfl, hA⟩ := hrel
    by_cases h0 : k = 0
    · subst h0
      by_cases h : x = 0
      · have g : (x != 0) = false := by simp [h]
        have H := Lib.hid h
        clear h
        go_wp2
        go_round
        case rel => exact ⟨1, by omega, by go_num, fun _ => H.out, fun h => by omega⟩
        case measure => simp [intOf]
      · have g : (x != 0) = true := by simp [h]
        have H := Lib.hid h
        clear h
        go_wp2
        go_ret
        exact ⟨ret_int (by rw [orI_ne y H.out]), rfl⟩
    by_cases h1 : k = 1
    · subst h1
      have H0 := Lib.hid (hA.out.1 (by omega))
      by_cases h : y = 0
      · have g : (y != 0) = false := by simp [h]
        have H := Lib.hid h
        clear h
        go_wp2
        go_round
        case rel => exact ⟨2, by omega, by go_num, fun _ => H0.out, fun _ => H.out⟩
        case measure => simp [intOf]
      · have g : (y != 0) = true := by simp [h]
        have H := Lib.hid h
        clear h
        go_wp2
        go_ret
        exact ⟨ret_int (by rw [orI_zero y H0.out]), rfl⟩
    have h2 : k = 2 := by omega
    subst h2
    have H0 := Lib.hid (hA.out.1 (by omega))
    have H1 := Lib.hid (hA.out.2 (by omega))
    go_wp2
    go_ret
    exact ⟨ret_int (by rw [orI_zero y H0.out, H1.out]), rfl⟩
end Go.Proofs.Ytmchdjpgceiloaa
