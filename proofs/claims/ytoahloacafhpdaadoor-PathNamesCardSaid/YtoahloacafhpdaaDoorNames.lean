/-
  THE WALK of steamerlaw1.PathNames.
-/
import Derived.Test.YtoahloacafhpdaaDoorTold
import Derived.Test.YtoahloacafhpdaaDoorPlain
namespace Go.Proofs.YtoahloacafhpdaaDoor
open Go.RowKit PathSpec

def badB (b0 : Bool) (l : List UInt8) (k : Nat) : Bool := b0 || !(l.take k).all okc
theorem badB_succ (b0 : Bool) {l : List UInt8} {k : Nat} (h : k < l.length) : badB b0 l (k + 1) = (badB b0 l k || !okc l[k]) := by
  unfold badB; rw [all_take_succ h, Bool.not_and, Bool.or_assoc]
theorem badB_all (b0 : Bool) (l : List UInt8) : badB b0 l l.length = (b0 || !l.all okc) := by
  unfold badB; rw [List.take_of_length_le (Nat.le_refl _)]
theorem joinB_bad {l : List UInt8} (h : nameB l = false) : joinB [97] l = ([], 1) := by
  have : mayB [97] = true := by decide
  simp [joinB, h, this]
theorem okN_name {l : List UInt8} (h : nameB l = true) : okN ([] ++ [l]) :=
  ⟨fun x hx => by simp at hx; subst hx; exact h, by simp, by have := nameB_parts h; simp [joinN]; omega⟩
theorem joinB_good {l : List UInt8} (h : nameB l = true) : joinB [97] l = (97 :: 47 :: l, 0) := by
  have k : okN ([[97]] ++ [l]) := ⟨fun x hx => by
    simp at hx; rcases hx with rfl | rfl
    · decide
    · exact h, by simp, by have := nameB_parts h; simp [joinN]; omega⟩
  exact k.join
theorem mayB_name {l : List UInt8} (h : nameB l = true) : mayB l = true := (okN_name h).may
theorem lastB_name {l : List UInt8} (h : nameB l = true) : lastB l = l := (okN_name h).last
theorem depthB_name {l : List UInt8} (h : nameB l = true) : depthB l = 1 := (okN_name h).depth

set_option maxRecDepth 100000 in
set_option maxHeartbeats 4000000 in
theorem names_any (l : List UInt8) (w : World) (hok : Ok w) : Calls Tryd.prog 6 #[.string ⟨l.toArray⟩] w (RetTrue w) := by
  have hg := G.refl w
  by_cases hlen : 30 < l.length
  · go_enter Tryd.func6, Tryd.ntmps6
    go_wp2_with fail
    refine (told_any _ hok).mono ?_
    rintro e w1 ⟨rfl, g1⟩
    go_wp2_with fail
    go_ret
    exact ⟨rfl, g1⟩
  by_cases h1 : (l.length : Int) < 1
  · have HB := Lib.hid (show (true || !l.all okc) = !nameB l by rw [nameB_lo h1]; rfl)
    have e1 : ((l.length : Int) == 0) = true := by rw [beq_iff_eq]; omega
    go_enter Tryd.func6, Tryd.ntmps6
    go_wp2_with fail
    go_loop [3, 4] (fun bad i => ∃ k : Nat, k ≤ l.length ∧ i = .int .i64 k ∧ bad = .bool (badB true l k)) (fun _ i => l.length - (intOf i).toNat)
    case atStart => exact ⟨0, Nat.zero_le _, rfl, rfl⟩
    case round =>
      obtain ⟨k, hk, rfl, rfl⟩ := hrel
      by_cases hlt : k < l.length
      · have hb : (⟨l.toArray⟩ : ByteArray)[k]'hlt = l[k] := rfl
        have Hs := Lib.hid (badB_succ true hlt)
        cases hbk : badB true l k
        · rw [hbk, Bool.false_or] at Hs
          by_cases h47 : l[k] = 47
          · have g47 : ((l[k].toNat : Int) == 47) = true := by rw [h47]; rfl
            have Hn := Lib.hid (show badB true l (k + 1) = true by rw [Hs.out, h47]; rfl)
            clear h47
            go_wp2_with fail
            go_round
            case rel => exact ⟨k + 1, by omega, by go_num, by rw [Hn.out]⟩
            case measure => simp [intOf]; omega
          have g47 : ((l[k].toNat : Int) == 47) = false := by rw [show (47 : Int) = ((47 : UInt8).toNat : Int) from rfl, byte_eq]; simp [h47]
          by_cases h0 : l[k] = 0
          · have g0 : ((l[k].toNat : Int) == 0) = true := by rw [h0]; rfl
            have Hn := Lib.hid (show badB true l (k + 1) = true by rw [Hs.out, h0]; rfl)
            clear h0 h47
            go_wp2_with fail
            go_round
            case rel => exact ⟨k + 1, by omega, by go_num, by rw [Hn.out]⟩
            case measure => simp [intOf]; omega
          have g0 : ((l[k].toNat : Int) == 0) = false := by rw [show (0 : Int) = ((0 : UInt8).toNat : Int) from rfl, byte_eq]; simp [h0]
          have Hn := Lib.hid (show badB true l (k + 1) = false by rw [Hs.out]; simp [okc, h47, h0])
          clear h0 h47
          go_wp2_with fail
          go_round
          case rel => exact ⟨k + 1, by omega, by go_num, by rw [Hn.out]⟩
          case measure => simp [intOf]; omega
        · have Hn := Lib.hid (show badB true l (k + 1) = true by rw [Hs.out, hbk]; rfl)
          go_wp2_with fail
          go_round
          case rel => exact ⟨k + 1, by omega, by go_num, by rw [Hn.out]⟩
          case measure => simp [intOf]; omega
      · have hkl : k = l.length := by omega
        subst hkl
        have Hb := Lib.hid (show badB true l l.length = !nameB l by rw [badB_all]; exact HB.out)
        clear HB
        rw [Hb.out]
        cases hn : nameB l
        · have j1 := joinB_bad hn
          go_wp2_with fail
          refine (join_any [97] l _ hok (by simp) (by omega)).mono ?_; rintro e w1 ⟨rfl, g1⟩; have hok := hok.of g1; have hg := hg.trans g1; clear g1
          go_wp2_with fail
          refine (told_any _ hok).mono ?_; rintro e w1 ⟨rfl, g1⟩; have hok := hok.of g1; have hg := hg.trans g1; clear g1
          go_wp2_with fail
          refine (name_any l _ (by unfold maxLen; omega)).mono ?_; rintro e w1 ⟨rfl, rfl⟩
          go_wp2_with fail
          go_ret
          exact ⟨rfl, hg⟩
        · have j1 := joinB_good hn
          have m1 := mayB_name hn
          have l1 := lastB_name hn
          have d1 := depthB_name hn
          go_wp2_with fail
          refine (join_any [97] l _ hok (by simp) (by omega)).mono ?_; rintro e w1 ⟨rfl, g1⟩; have hok := hok.of g1; have hg := hg.trans g1; clear g1
          go_wp2_with fail
          refine (told_any _ hok).mono ?_; rintro e w1 ⟨rfl, g1⟩; have hok := hok.of g1; have hg := hg.trans g1; clear g1
          go_wp2_with fail
          refine (name_any l _ (by unfold maxLen; omega)).mono ?_; rintro e w1 ⟨rfl, rfl⟩
          go_wp2_with fail
          refine (may_any l _ hok (by omega)).mono ?_; rintro e w1 ⟨rfl, g1⟩; have hok := hok.of g1; have hg := hg.trans g1; clear g1
          go_wp2_with fail
          refine (last_any l _ hok (by omega)).mono ?_; rintro e w1 ⟨rfl, g1⟩; have hok := hok.of g1; have hg := hg.trans g1; clear g1
          go_wp2_with fail
          refine (depth_any l _ hok (by omega)).mono ?_; rintro e w1 ⟨rfl, g1⟩; have hok := hok.of g1; have hg := hg.trans g1; clear g1
          go_wp2_with fail
          go_ret
          exact ⟨rfl, hg⟩
  have e1 : ((l.length : Int) == 0) = false := by rw [beq_eq_false_iff_ne]; omega
  by_cases h2 : 20 < (l.length : Int)
  · have HB := Lib.hid (show (true || !l.all okc) = !nameB l by rw [nameB_hi h2]; rfl)
    go_enter Tryd.func6, Tryd.ntmps6
    go_wp2_with fail
    go_loop [3, 4] (fun bad i => ∃ k : Nat, k ≤ l.length ∧ i = .int .i64 k ∧ bad = .bool (badB true l k)) (fun _ i => l.length - (intOf i).toNat)
    case atStart => exact ⟨0, Nat.zero_le _, rfl, rfl⟩
    case round =>
      obtain ⟨k, hk, rfl, rfl⟩ := hrel
      by_cases hlt : k < l.length
      · have hb : (⟨l.toArray⟩ : ByteArray)[k]'hlt = l[k] := rfl
        have Hs := Lib.hid (badB_succ true hlt)
        cases hbk : badB true l k
        · rw [hbk, Bool.false_or] at Hs
          by_cases h47 : l[k] = 47
          · have g47 : ((l[k].toNat : Int) == 47) = true := by rw [h47]; rfl
            have Hn := Lib.hid (show badB true l (k + 1) = true by rw [Hs.out, h47]; rfl)
            clear h47
            go_wp2_with fail
            go_round
            case rel => exact ⟨k + 1, by omega, by go_num, by rw [Hn.out]⟩
            case measure => simp [intOf]; omega
          have g47 : ((l[k].toNat : Int) == 47) = false := by rw [show (47 : Int) = ((47 : UInt8).toNat : Int) from rfl, byte_eq]; simp [h47]
          by_cases h0 : l[k] = 0
          · have g0 : ((l[k].toNat : Int) == 0) = true := by rw [h0]; rfl
            have Hn := Lib.hid (show badB true l (k + 1) = true by rw [Hs.out, h0]; rfl)
            clear h0 h47
            go_wp2_with fail
            go_round
            case rel => exact ⟨k + 1, by omega, by go_num, by rw [Hn.out]⟩
            case measure => simp [intOf]; omega
          have g0 : ((l[k].toNat : Int) == 0) = false := by rw [show (0 : Int) = ((0 : UInt8).toNat : Int) from rfl, byte_eq]; simp [h0]
          have Hn := Lib.hid (show badB true l (k + 1) = false by rw [Hs.out]; simp [okc, h47, h0])
          clear h0 h47
          go_wp2_with fail
          go_round
          case rel => exact ⟨k + 1, by omega, by go_num, by rw [Hn.out]⟩
          case measure => simp [intOf]; omega
        · have Hn := Lib.hid (show badB true l (k + 1) = true by rw [Hs.out, hbk]; rfl)
          go_wp2_with fail
          go_round
          case rel => exact ⟨k + 1, by omega, by go_num, by rw [Hn.out]⟩
          case measure => simp [intOf]; omega
      · have hkl : k = l.length := by omega
        subst hkl
        have Hb := Lib.hid (show badB true l l.length = !nameB l by rw [badB_all]; exact HB.out)
        clear HB
        rw [Hb.out]
        cases hn : nameB l
        · have j1 := joinB_bad hn
          go_wp2_with fail
          refine (join_any [97] l _ hok (by simp) (by omega)).mono ?_; rintro e w1 ⟨rfl, g1⟩; have hok := hok.of g1; have hg := hg.trans g1; clear g1
          go_wp2_with fail
          refine (told_any _ hok).mono ?_; rintro e w1 ⟨rfl, g1⟩; have hok := hok.of g1; have hg := hg.trans g1; clear g1
          go_wp2_with fail
          refine (name_any l _ (by unfold maxLen; omega)).mono ?_; rintro e w1 ⟨rfl, rfl⟩
          go_wp2_with fail
          go_ret
          exact ⟨rfl, hg⟩
        · have j1 := joinB_good hn
          have m1 := mayB_name hn
          have l1 := lastB_name hn
          have d1 := depthB_name hn
          go_wp2_with fail
          refine (join_any [97] l _ hok (by simp) (by omega)).mono ?_; rintro e w1 ⟨rfl, g1⟩; have hok := hok.of g1; have hg := hg.trans g1; clear g1
          go_wp2_with fail
          refine (told_any _ hok).mono ?_; rintro e w1 ⟨rfl, g1⟩; have hok := hok.of g1; have hg := hg.trans g1; clear g1
          go_wp2_with fail
          refine (name_any l _ (by unfold maxLen; omega)).mono ?_; rintro e w1 ⟨rfl, rfl⟩
          go_wp2_with fail
          refine (may_any l _ hok (by omega)).mono ?_; rintro e w1 ⟨rfl, g1⟩; have hok := hok.of g1; have hg := hg.trans g1; clear g1
          go_wp2_with fail
          refine (last_any l _ hok (by omega)).mono ?_; rintro e w1 ⟨rfl, g1⟩; have hok := hok.of g1; have hg := hg.trans g1; clear g1
          go_wp2_with fail
          refine (depth_any l _ hok (by omega)).mono ?_; rintro e w1 ⟨rfl, g1⟩; have hok := hok.of g1; have hg := hg.trans g1; clear g1
          go_wp2_with fail
          go_ret
          exact ⟨rfl, hg⟩
  by_cases h3 : l = [46]
  · have HB := Lib.hid (show (true || !l.all okc) = !nameB l by rw [h3]; decide)
    have e3 : (l == [46]) = true := by simp [h3]
    clear h3
    go_enter Tryd.func6, Tryd.ntmps6
    go_wp2_with fail
    go_loop [3, 4] (fun bad i => ∃ k : Nat, k ≤ l.length ∧ i = .int .i64 k ∧ bad = .bool (badB true l k)) (fun _ i => l.length - (intOf i).toNat)
    case atStart => exact ⟨0, Nat.zero_le _, rfl, rfl⟩
    case round =>
      obtain ⟨k, hk, rfl, rfl⟩ := hrel
      by_cases hlt : k < l.length
      · have hb : (⟨l.toArray⟩ : ByteArray)[k]'hlt = l[k] := rfl
        have Hs := Lib.hid (badB_succ true hlt)
        cases hbk : badB true l k
        · rw [hbk, Bool.false_or] at Hs
          by_cases h47 : l[k] = 47
          · have g47 : ((l[k].toNat : Int) == 47) = true := by rw [h47]; rfl
            have Hn := Lib.hid (show badB true l (k + 1) = true by rw [Hs.out, h47]; rfl)
            clear h47
            go_wp2_with fail
            go_round
            case rel => exact ⟨k + 1, by omega, by go_num, by rw [Hn.out]⟩
            case measure => simp [intOf]; omega
          have g47 : ((l[k].toNat : Int) == 47) = false := by rw [show (47 : Int) = ((47 : UInt8).toNat : Int) from rfl, byte_eq]; simp [h47]
          by_cases h0 : l[k] = 0
          · have g0 : ((l[k].toNat : Int) == 0) = true := by rw [h0]; rfl
            have Hn := Lib.hid (show badB true l (k + 1) = true by rw [Hs.out, h0]; rfl)
            clear h0 h47
            go_wp2_with fail
            go_round
            case rel => exact ⟨k + 1, by omega, by go_num, by rw [Hn.out]⟩
            case measure => simp [intOf]; omega
          have g0 : ((l[k].toNat : Int) == 0) = false := by rw [show (0 : Int) = ((0 : UInt8).toNat : Int) from rfl, byte_eq]; simp [h0]
          have Hn := Lib.hid (show badB true l (k + 1) = false by rw [Hs.out]; simp [okc, h47, h0])
          clear h0 h47
          go_wp2_with fail
          go_round
          case rel => exact ⟨k + 1, by omega, by go_num, by rw [Hn.out]⟩
          case measure => simp [intOf]; omega
        · have Hn := Lib.hid (show badB true l (k + 1) = true by rw [Hs.out, hbk]; rfl)
          go_wp2_with fail
          go_round
          case rel => exact ⟨k + 1, by omega, by go_num, by rw [Hn.out]⟩
          case measure => simp [intOf]; omega
      · have hkl : k = l.length := by omega
        subst hkl
        have Hb := Lib.hid (show badB true l l.length = !nameB l by rw [badB_all]; exact HB.out)
        clear HB
        rw [Hb.out]
        cases hn : nameB l
        · have j1 := joinB_bad hn
          go_wp2_with fail
          refine (join_any [97] l _ hok (by simp) (by omega)).mono ?_; rintro e w1 ⟨rfl, g1⟩; have hok := hok.of g1; have hg := hg.trans g1; clear g1
          go_wp2_with fail
          refine (told_any _ hok).mono ?_; rintro e w1 ⟨rfl, g1⟩; have hok := hok.of g1; have hg := hg.trans g1; clear g1
          go_wp2_with fail
          refine (name_any l _ (by unfold maxLen; omega)).mono ?_; rintro e w1 ⟨rfl, rfl⟩
          go_wp2_with fail
          go_ret
          exact ⟨rfl, hg⟩
        · have j1 := joinB_good hn
          have m1 := mayB_name hn
          have l1 := lastB_name hn
          have d1 := depthB_name hn
          go_wp2_with fail
          refine (join_any [97] l _ hok (by simp) (by omega)).mono ?_; rintro e w1 ⟨rfl, g1⟩; have hok := hok.of g1; have hg := hg.trans g1; clear g1
          go_wp2_with fail
          refine (told_any _ hok).mono ?_; rintro e w1 ⟨rfl, g1⟩; have hok := hok.of g1; have hg := hg.trans g1; clear g1
          go_wp2_with fail
          refine (name_any l _ (by unfold maxLen; omega)).mono ?_; rintro e w1 ⟨rfl, rfl⟩
          go_wp2_with fail
          refine (may_any l _ hok (by omega)).mono ?_; rintro e w1 ⟨rfl, g1⟩; have hok := hok.of g1; have hg := hg.trans g1; clear g1
          go_wp2_with fail
          refine (last_any l _ hok (by omega)).mono ?_; rintro e w1 ⟨rfl, g1⟩; have hok := hok.of g1; have hg := hg.trans g1; clear g1
          go_wp2_with fail
          refine (depth_any l _ hok (by omega)).mono ?_; rintro e w1 ⟨rfl, g1⟩; have hok := hok.of g1; have hg := hg.trans g1; clear g1
          go_wp2_with fail
          go_ret
          exact ⟨rfl, hg⟩
  by_cases h4 : l = [46, 46]
  · have HB := Lib.hid (show (true || !l.all okc) = !nameB l by rw [h4]; decide)
    have e3 : (l == [46]) = false := by simp [h3]
    have e4 : (l == [46, 46]) = true := by simp [h4]
    clear h3 h4
    go_enter Tryd.func6, Tryd.ntmps6
    go_wp2_with fail
    go_loop [3, 4] (fun bad i => ∃ k : Nat, k ≤ l.length ∧ i = .int .i64 k ∧ bad = .bool (badB true l k)) (fun _ i => l.length - (intOf i).toNat)
    case atStart => exact ⟨0, Nat.zero_le _, rfl, rfl⟩
    case round =>
      obtain ⟨k, hk, rfl, rfl⟩ := hrel
      by_cases hlt : k < l.length
      · have hb : (⟨l.toArray⟩ : ByteArray)[k]'hlt = l[k] := rfl
        have Hs := Lib.hid (badB_succ true hlt)
        cases hbk : badB true l k
        · rw [hbk, Bool.false_or] at Hs
          by_cases h47 : l[k] = 47
          · have g47 : ((l[k].toNat : Int) == 47) = true := by rw [h47]; rfl
            have Hn := Lib.hid (show badB true l (k + 1) = true by rw [Hs.out, h47]; rfl)
            clear h47
            go_wp2_with fail
            go_round
            case rel => exact ⟨k + 1, by omega, by go_num, by rw [Hn.out]⟩
            case measure => simp [intOf]; omega
          have g47 : ((l[k].toNat : Int) == 47) = false := by rw [show (47 : Int) = ((47 : UInt8).toNat : Int) from rfl, byte_eq]; simp [h47]
          by_cases h0 : l[k] = 0
          · have g0 : ((l[k].toNat : Int) == 0) = true := by rw [h0]; rfl
            have Hn := Lib.hid (show badB true l (k + 1) = true by rw [Hs.out, h0]; rfl)
            clear h0 h47
            go_wp2_with fail
            go_round
            case rel => exact ⟨k + 1, by omega, by go_num, by rw [Hn.out]⟩
            case measure => simp [intOf]; omega
          have g0 : ((l[k].toNat : Int) == 0) = false := by rw [show (0 : Int) = ((0 : UInt8).toNat : Int) from rfl, byte_eq]; simp [h0]
          have Hn := Lib.hid (show badB true l (k + 1) = false by rw [Hs.out]; simp [okc, h47, h0])
          clear h0 h47
          go_wp2_with fail
          go_round
          case rel => exact ⟨k + 1, by omega, by go_num, by rw [Hn.out]⟩
          case measure => simp [intOf]; omega
        · have Hn := Lib.hid (show badB true l (k + 1) = true by rw [Hs.out, hbk]; rfl)
          go_wp2_with fail
          go_round
          case rel => exact ⟨k + 1, by omega, by go_num, by rw [Hn.out]⟩
          case measure => simp [intOf]; omega
      · have hkl : k = l.length := by omega
        subst hkl
        have Hb := Lib.hid (show badB true l l.length = !nameB l by rw [badB_all]; exact HB.out)
        clear HB
        rw [Hb.out]
        cases hn : nameB l
        · have j1 := joinB_bad hn
          go_wp2_with fail
          refine (join_any [97] l _ hok (by simp) (by omega)).mono ?_; rintro e w1 ⟨rfl, g1⟩; have hok := hok.of g1; have hg := hg.trans g1; clear g1
          go_wp2_with fail
          refine (told_any _ hok).mono ?_; rintro e w1 ⟨rfl, g1⟩; have hok := hok.of g1; have hg := hg.trans g1; clear g1
          go_wp2_with fail
          refine (name_any l _ (by unfold maxLen; omega)).mono ?_; rintro e w1 ⟨rfl, rfl⟩
          go_wp2_with fail
          go_ret
          exact ⟨rfl, hg⟩
        · have j1 := joinB_good hn
          have m1 := mayB_name hn
          have l1 := lastB_name hn
          have d1 := depthB_name hn
          go_wp2_with fail
          refine (join_any [97] l _ hok (by simp) (by omega)).mono ?_; rintro e w1 ⟨rfl, g1⟩; have hok := hok.of g1; have hg := hg.trans g1; clear g1
          go_wp2_with fail
          refine (told_any _ hok).mono ?_; rintro e w1 ⟨rfl, g1⟩; have hok := hok.of g1; have hg := hg.trans g1; clear g1
          go_wp2_with fail
          refine (name_any l _ (by unfold maxLen; omega)).mono ?_; rintro e w1 ⟨rfl, rfl⟩
          go_wp2_with fail
          refine (may_any l _ hok (by omega)).mono ?_; rintro e w1 ⟨rfl, g1⟩; have hok := hok.of g1; have hg := hg.trans g1; clear g1
          go_wp2_with fail
          refine (last_any l _ hok (by omega)).mono ?_; rintro e w1 ⟨rfl, g1⟩; have hok := hok.of g1; have hg := hg.trans g1; clear g1
          go_wp2_with fail
          refine (depth_any l _ hok (by omega)).mono ?_; rintro e w1 ⟨rfl, g1⟩; have hok := hok.of g1; have hg := hg.trans g1; clear g1
          go_wp2_with fail
          go_ret
          exact ⟨rfl, hg⟩
  have HB := Lib.hid (show (false || !l.all okc) = !nameB l by rw [nameB_all (by omega) (by omega) h3 h4]; simp)
  have e3 : (l == [46]) = false := by simp [h3]
  have e4 : (l == [46, 46]) = false := by simp [h4]
  clear h3 h4
  go_enter Tryd.func6, Tryd.ntmps6
  go_wp2_with fail
  go_loop [3, 4] (fun bad i => ∃ k : Nat, k ≤ l.length ∧ i = .int .i64 k ∧ bad = .bool (badB false l k)) (fun _ i => l.length - (intOf i).toNat)
  case atStart => exact ⟨0, Nat.zero_le _, rfl, rfl⟩
  case round =>
    obtain ⟨k, hk, rfl, rfl⟩ := hrel
    by_cases hlt : k < l.length
    · have hb : (⟨l.toArray⟩ : ByteArray)[k]'hlt = l[k] := rfl
      have Hs := Lib.hid (badB_succ false hlt)
      cases hbk : badB false l k
      · rw [hbk, Bool.false_or] at Hs
        by_cases h47 : l[k] = 47
        · have g47 : ((l[k].toNat : Int) == 47) = true := by rw [h47]; rfl
          have Hn := Lib.hid (show badB false l (k + 1) = true by rw [Hs.out, h47]; rfl)
          clear h47
          go_wp2_with fail
          go_round
          case rel => exact ⟨k + 1, by omega, by go_num, by rw [Hn.out]⟩
          case measure => simp [intOf]; omega
        have g47 : ((l[k].toNat : Int) == 47) = false := by rw [show (47 : Int) = ((47 : UInt8).toNat : Int) from rfl, byte_eq]; simp [h47]
        by_cases h0 : l[k] = 0
        · have g0 : ((l[k].toNat : Int) == 0) = true := by rw [h0]; rfl
          have Hn := Lib.hid (show badB false l (k + 1) = true by rw [Hs.out, h0]; rfl)
          clear h0 h47
          go_wp2_with fail
          go_round
          case rel => exact ⟨k + 1, by omega, by go_num, by rw [Hn.out]⟩
          case measure => simp [intOf]; omega
        have g0 : ((l[k].toNat : Int) == 0) = false := by rw [show (0 : Int) = ((0 : UInt8).toNat : Int) from rfl, byte_eq]; simp [h0]
        have Hn := Lib.hid (show badB false l (k + 1) = false by rw [Hs.out]; simp [okc, h47, h0])
        clear h0 h47
        go_wp2_with fail
        go_round
        case rel => exact ⟨k + 1, by omega, by go_num, by rw [Hn.out]⟩
        case measure => simp [intOf]; omega
      · have Hn := Lib.hid (show badB false l (k + 1) = true by rw [Hs.out, hbk]; rfl)
        go_wp2_with fail
        go_round
        case rel => exact ⟨k + 1, by omega, by go_num, by rw [Hn.out]⟩
        case measure => simp [intOf]; omega
    · have hkl : k = l.length := by omega
      subst hkl
      have Hb := Lib.hid (show badB false l l.length = !nameB l by rw [badB_all]; exact HB.out)
      clear HB
      rw [Hb.out]
      cases hn : nameB l
      · have j1 := joinB_bad hn
        go_wp2_with fail
        refine (join_any [97] l _ hok (by simp) (by omega)).mono ?_; rintro e w1 ⟨rfl, g1⟩; have hok := hok.of g1; have hg := hg.trans g1; clear g1
        go_wp2_with fail
        refine (told_any _ hok).mono ?_; rintro e w1 ⟨rfl, g1⟩; have hok := hok.of g1; have hg := hg.trans g1; clear g1
        go_wp2_with fail
        refine (name_any l _ (by unfold maxLen; omega)).mono ?_; rintro e w1 ⟨rfl, rfl⟩
        go_wp2_with fail
        go_ret
        exact ⟨rfl, hg⟩
      · have j1 := joinB_good hn
        have m1 := mayB_name hn
        have l1 := lastB_name hn
        have d1 := depthB_name hn
        go_wp2_with fail
        refine (join_any [97] l _ hok (by simp) (by omega)).mono ?_; rintro e w1 ⟨rfl, g1⟩; have hok := hok.of g1; have hg := hg.trans g1; clear g1
        go_wp2_with fail
        refine (told_any _ hok).mono ?_; rintro e w1 ⟨rfl, g1⟩; have hok := hok.of g1; have hg := hg.trans g1; clear g1
        go_wp2_with fail
        refine (name_any l _ (by unfold maxLen; omega)).mono ?_; rintro e w1 ⟨rfl, rfl⟩
        go_wp2_with fail
        refine (may_any l _ hok (by omega)).mono ?_; rintro e w1 ⟨rfl, g1⟩; have hok := hok.of g1; have hg := hg.trans g1; clear g1
        go_wp2_with fail
        refine (last_any l _ hok (by omega)).mono ?_; rintro e w1 ⟨rfl, g1⟩; have hok := hok.of g1; have hg := hg.trans g1; clear g1
        go_wp2_with fail
        refine (depth_any l _ hok (by omega)).mono ?_; rintro e w1 ⟨rfl, g1⟩; have hok := hok.of g1; have hg := hg.trans g1; clear g1
        go_wp2_with fail
        go_ret
        exact ⟨rfl, hg⟩
end Go.Proofs.YtoahloacafhpdaaDoor
