/-
  THE WALK of steamerref1.Name.
-/
import Derived.Test.YtoahloacafhpdaaDoorProg
import Derived.Test.YtoahloacafhpdaaDoorSpec
import Derived.Test.YtoahloacafhpdaaDoorKit
namespace Go.Proofs.YtoahloacafhpdaaDoor
open Go.RowKit PathSpec

set_option maxRecDepth 100000 in
set_option maxHeartbeats 400000 in
theorem rname_any (l : List UInt8) (w : World) (hs : l.length < 1000000) :
    Calls Tryd.prog 14 #[.string ⟨l.toArray⟩] w fun e w' => e = .returned (.bool (nameB l)) ∧ w = w' := by
  go_enter Tryd.func14, Tryd.ntmps14
  go_wp2
  go_loop [3] (fun i => ∃ k : Nat, k ≤ l.length ∧ i = .int .i64 k ∧ Hid ((l.take k).all okc = true)) (fun i => l.length - (intOf i).toNat)
  case atStart => exact ⟨0, Nat.zero_le _, rfl, rfl⟩
  case round =>
    obtain ⟨k, hk, rfl, hA⟩ := hrel
    by_cases hlt : k < l.length
    · have hb : (⟨l.toArray⟩ : ByteArray)[k]'hlt = l[k] := rfl
      have Hd := Lib.hid (all_take_succ hlt)
      by_cases h47 : l[k] = 47
      · have g47 : ((l[k].toNat : Int) == 47) = true := by rw [h47]; rfl
        have Hf := Lib.hid (nameB_bad hlt (by rw [h47]; rfl))
        clear h47
        go_wp2
        all_goals go_ret; rw [Hf.out]; exact ⟨rfl, rfl⟩
      have g47 : ((l[k].toNat : Int) == 47) = false := by rw [show (47 : Int) = ((47 : UInt8).toNat : Int) from rfl, byte_eq]; simp [h47]
      by_cases h0 : l[k] = 0
      · have g0 : ((l[k].toNat : Int) == 0) = true := by rw [h0]; rfl
        have Hf := Lib.hid (nameB_bad hlt (by rw [h0]; rfl))
        clear h0 h47
        go_wp2
        all_goals go_ret; rw [Hf.out]; exact ⟨rfl, rfl⟩
      have g0 : ((l[k].toNat : Int) == 0) = false := by rw [show (0 : Int) = ((0 : UInt8).toNat : Int) from rfl, byte_eq]; simp [h0]
      have Hf := Lib.hid (show (l.take (k + 1)).all okc = true by rw [Hd.out, hA.out]; simp [okc, h47, h0])
      clear h0 h47
      go_wp2
      go_round
      case rel => exact ⟨k + 1, by omega, by go_num, Hf.out⟩
      case measure => simp [intOf]; omega
    · have hkl : k = l.length := by omega
      subst hkl
      have Hf := Lib.hid (nameB_rest hA.out)
      clear hA
      by_cases h1 : 1 ≤ l.length
      · by_cases h2 : l.length ≤ 20
        · by_cases h3 : l = [46]
          · subst h3
            go_wp2
            go_ret
            exact ⟨rfl, rfl⟩
          have g3 : (l == [46]) = false := by simp [h3]
          go_wp2
          go_ret
          rw [Hf.out]
          exact ⟨ret_bool (by simp [h1, h2, h3]), rfl⟩
        · go_wp2
          go_ret
          rw [Hf.out]
          exact ⟨ret_bool (by simp [h2]), rfl⟩
      · go_wp2
        go_ret
        rw [Hf.out]
        exact ⟨ret_bool (by simp [h1]), rfl⟩
end Go.Proofs.YtoahloacafhpdaaDoor
