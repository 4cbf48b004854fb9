/-
  THE WALK of path.Name.
-/
import Derived.Test.YtoahloacafhpdaaDoorProg
import Derived.Test.YtoahloacafhpdaaDoorSpec
import Derived.Test.YtoahloacafhpdaaDoorKit
namespace Go.Proofs.YtoahloacafhpdaaDoor
open Go.RowKit PathSpec

def nameJ (l : List UInt8) (w : World) (a' : Act) (w' : World) : Prop :=
  ∃ (i : Nat) (u4 u5 u6 u7 u8 u9 u10 u11 u12 u13 u14 u15 u16 u17 u18 u19 u20 u21 u22 u23 u24 u25 u26 u27 u28 u29 u30 u31 u32 u33 u34 u35 : Value), a' = ⟨#[.string ⟨l.toArray⟩, undef, .bool false, .int .i64 i, u4, u5, u6, u7, u8, u9, u10, u11, u12, u13, u14, u15, u16, u17, u18, u19, u20, u21, u22, u23, u24, u25, u26, u27, u28, u29, u30, u31, u32, u33, u34, u35], []⟩ ∧ i ≤ l.length ∧ w = w' ∧ Hid (nameB l = (l.drop i).all okc)

set_option maxRecDepth 100000 in
set_option maxHeartbeats 400000 in
theorem name_any (l : List UInt8) (w : World) (hs : l.length ≤ maxLen) :
    Calls Tryd.prog 13 #[.string ⟨l.toArray⟩] w fun e w' => e = .returned (.bool (nameB l)) ∧ w = w' := by
  unfold maxLen at hs
  go_enter Tryd.func13, Tryd.ntmps13
  go_wp2
  refine wp_scope_lab 0 (nameJ l w)
    (fun a' _ => l.length - (intOf (a'.tmps.getD 3 undef)).toNat) rfl ?_ ?_
  · intro hJ
    by_cases h1 : (l.length : Int) < 1
    · have Hf := Lib.hid (nameB_lo h1)
      go_wp2
      simp only [Exit.jump]; go_ret; rw [Hf.out]; exact ⟨rfl, rfl⟩
    by_cases h2 : 20 < (l.length : Int)
    · have Hf := Lib.hid (nameB_hi h2)
      go_wp2
      simp only [Exit.jump]; go_ret; rw [Hf.out]; exact ⟨rfl, rfl⟩
    by_cases h3 : l = [46]
    · have Hf := Lib.hid nameB_dot
      subst h3
      go_wp2
      simp only [Exit.jump]; go_ret; rw [Hf.out]; exact ⟨rfl, rfl⟩
    by_cases h4 : l = [46, 46]
    · have Hf := Lib.hid nameB_dots
      subst h4
      go_wp2
      simp only [Exit.jump]; go_ret; rw [Hf.out]; exact ⟨rfl, rfl⟩
    have Hf := Lib.hid (nameB_all (by omega) (by omega) h3 h4)
    have g3 : (l == [46]) = false := by simp [h3]
    have g4 : (l == [46, 46]) = false := by simp [h4]
    clear h3 h4
    go_wp2
    go_step3
    refine (by assumption : ∀ (a : Act) (w : World), _ → _) _ _ (hJ _ _ ?_)
    exact ⟨0, _, _, _, _, _, _, _, _, _, _, _, _, _, _, _, _, _, _, _, _, _, _, _, _, _, _, _, _, _, _, _, _, rfl, Nat.zero_le _, rfl, Hf.out⟩
  · rintro a' w' ⟨i, u4, u5, u6, u7, u8, u9, u10, u11, u12, u13, u14, u15, u16, u17, u18, u19, u20, u21, u22, u23, u24, u25, u26, u27, u28, u29, u30, u31, u32, u33, u34, u35, rfl, hi, rfl, hN⟩
    by_cases hlt : i < l.length
    · have hb : (⟨l.toArray⟩ : ByteArray)[i]'hlt = l[i] := rfl
      have Hd := Lib.hid (all_drop_succ hlt)
      by_cases h47 : l[i] = 47
      · have g47 : ((l[i].toNat : Int) == 47) = true := by rw [h47]; rfl
        have Hf : Hid (nameB l = false) := by rw [hN.out, Hd.out, h47]; rfl
        clear h47
        go_wp2
        all_goals simp only [Exit.jump]; go_ret; rw [Hf.out]; exact ⟨rfl, rfl⟩
      have g47 : ((l[i].toNat : Int) == 47) = false := by rw [show (47 : Int) = ((47 : UInt8).toNat : Int) from rfl, byte_eq]; simp [h47]
      by_cases h0 : l[i] = 0
      · have g0 : ((l[i].toNat : Int) == 0) = true := by rw [h0]; rfl
        have Hf : Hid (nameB l = false) := by rw [hN.out, Hd.out, h0]; rfl
        clear h0 h47
        go_wp2
        all_goals simp only [Exit.jump]; go_ret; rw [Hf.out]; exact ⟨rfl, rfl⟩
      have g0 : ((l[i].toNat : Int) == 0) = false := by rw [show (0 : Int) = ((0 : UInt8).toNat : Int) from rfl, byte_eq]; simp [h0]
      have Hf : Hid (nameB l = (l.drop (i + 1)).all okc) := by
        have e : nameB l = (l.drop (i + 1)).all okc := by rw [hN.out, Hd.out]; simp [okc, h47, h0]
        exact e
      clear h0 h47
      go_wp2
      go_step3
      exact ⟨rfl, ⟨i + 1, _, _, _, _, _, _, _, _, _, _, _, _, _, _, _, _, _, _, _, _, _, _, _, _, _, _, _, _, _, _, _, _, rfl, hlt, rfl, Hf⟩, by simp [intOf]; omega⟩
    · go_wp2
      simp only [Exit.jump]; go_ret; rw [hN.out, List.drop_of_length_le (by omega)]; exact ⟨rfl, rfl⟩
end Go.Proofs.YtoahloacafhpdaaDoor
