/-
  THE WALK of steamerlaw1.PathJoins.
-/
import Derived.Test.YtoahloacafhpdaaDoorMade
namespace Go.Proofs.YtoahloacafhpdaaDoor
open Go.RowKit PathSpec

def joinsR (m : Nat) (up : Nat → List UInt8) (w : World) (u i : Value) (wr : World) : Prop :=
  ∃ k c : Nat, k ≤ m ∧ c + k = m ∧ i = .int .i64 c ∧ u = .string ⟨(up k).toArray⟩ ∧ G w wr ∧ Ok wr

set_option maxRecDepth 100000 in
set_option maxHeartbeats 2000000 in
theorem joins_any (v : Value) (zs : List Int) (w : World) (hok : Ok w) (hv : Ints w v zs) (hl : zs.length ≤ maxLen) : Calls Tryd.prog 4 #[v] w (RetTrue w) := by
  have Hmade := Lib.hid (show made zs 8 = joinN (madeN zs 8) from rfl)
  have HU := Lib.hid (fun h => ups (made_ok zs (Nat.le_refl 8)) h)
  go_enter Tryd.func4, Tryd.ntmps4
  go_wp2_with fail
  refine (made_any v zs 8 _ hv (by omega) hl).mono ?_
  rintro e w1 ⟨rfl, hg⟩
  have hok := hok.of hg
  rw [Hmade.out]
  clear Hmade hv hl
  by_cases h0 : madeN zs 8 = []
  · rw [h0]
    clear h0 HU
    go_wp2_with fail
    refine (told_any _ hok).mono ?_
    rintro e w2 ⟨rfl, g1⟩
    go_wp2_with fail
    go_ret
    exact ⟨rfl, hg.trans g1⟩
  obtain ⟨m, last, up, F⟩ := HU.out h0
  clear HU h0
  generalize joinN (madeN zs 8) = p at *
  have hp1 := F.some
  have hm8 := F.small
  have hl1 := F.len
  have hl2 := F.lens m
  have hl3 := F.lastLen
  go_wp2_with fail
  refine (parent_any p _ hok (by omega)).mono ?_; rintro e w2 ⟨rfl, g1⟩; have hok := hok.of g1; have hg := hg.trans g1; clear g1
  rw [F.par]
  go_wp2_with fail
  refine (last_any p _ hok (by omega)).mono ?_; rintro e w2 ⟨rfl, g1⟩; have hok := hok.of g1; have hg := hg.trans g1; clear g1
  rw [F.lastIs]
  go_wp2_with fail
  refine (join_any _ _ _ hok (by omega) (by omega)).mono ?_; rintro e w2 ⟨rfl, g1⟩; have hok := hok.of g1; have hg := hg.trans g1; clear g1
  rw [F.joined]
  go_wp2_with fail
  refine (depth_any _ _ hok (by omega)).mono ?_; rintro e w2 ⟨rfl, g1⟩; have hok := hok.of g1; have hg := hg.trans g1; clear g1
  rw [F.depthUp]
  go_wp2_with fail
  refine (depth_any _ _ hok (by omega)).mono ?_; rintro e w2 ⟨rfl, g1⟩; have hok := hok.of g1; have hg := hg.trans g1; clear g1
  rw [F.depth]
  go_wp2_with fail
  refine (less_any _ _ _ hok (by omega) (by omega)).mono ?_; rintro e w2 ⟨rfl, g1⟩; have hok := hok.of g1; have hg := hg.trans g1; clear g1
  rw [F.less]
  go_wp2_with fail
  go_loopw [4, 8] (fun u i wr => joinsR m up w u i wr) (fun _ i _ => 9 - (intOf i).toNat)
  case atStart => exact ⟨m, 0, Nat.le_refl _, by omega, rfl, rfl, hg, hok⟩
  case round =>
    obtain ⟨k, c, hk, hc, rfl, rfl, hg, hok⟩ := hrel
    have hlk := F.lens k
    have u1 := F.under k
    have u2 := F.notUnder k hk
    go_wp2_with fail
    refine (under_any _ _ _ hok (by omega) (by omega)).mono ?_; rintro e w3 ⟨rfl, g1⟩; have hok := hok.of g1; have hg := hg.trans g1; clear g1
    rw [u1]
    go_wp2_with fail
    refine (under_any _ _ _ hok (by omega) (by omega)).mono ?_; rintro e w3 ⟨rfl, g1⟩; have hok := hok.of g1; have hg := hg.trans g1; clear g1
    rw [u2]
    go_wp2_with fail
    refine (parent_any _ _ hok (by omega)).mono ?_; rintro e w3 ⟨rfl, g1⟩; have hok := hok.of g1; have hg := hg.trans g1; clear g1
    by_cases h0 : k = 0
    · subst h0
      rw [F.top]
      go_wp2_with fail
      refine (told_any _ hok).mono ?_; rintro e w3 ⟨rfl, g1⟩; have hok := hok.of g1; have hg := hg.trans g1; clear g1
      go_wp2_with fail
      refine (under_any _ _ _ hok (by omega) (by omega)).mono ?_; rintro e w3 ⟨rfl, g1⟩; have hok := hok.of g1; have hg := hg.trans g1; clear g1
      rw [F.self]
      go_wp2_with fail
      go_ret
      exact ⟨rfl, hg⟩
    · obtain ⟨j, rfl⟩ : ∃ j, k = j + 1 := ⟨k - 1, by omega⟩
      rw [F.step j (by omega)]
      go_wp2_with fail
      go_roundw
      case rel => exact ⟨j, c + 1, by omega, by omega, by go_num, rfl, hg, hok⟩
      case measure => simp [intOf]; omega
end Go.Proofs.YtoahloacafhpdaaDoor
