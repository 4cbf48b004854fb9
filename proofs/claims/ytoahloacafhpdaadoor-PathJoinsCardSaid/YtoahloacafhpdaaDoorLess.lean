/-
  THE WALK of path.Less.
-/
import Derived.Test.YtoahloacafhpdaaDoorParts
namespace Go.Proofs.YtoahloacafhpdaaDoor
open Go.RowKit PathSpec

def lessJ (a0 b0 : List UInt8) (w : World) (a' : Act) (w' : World) : Prop :=
  ∃ (a b : List UInt8) (u5 u6 u7 u8 u9 u10 u11 u12 u13 u14 u15 u16 u17 u18 u19 u20 u21 u22 u23 u24 u25 u26 u27 u28 u29 u30 u31 u32 u33 u34 u35 u36 u37 u38 u39 u40 u41 u42 u43 u44 u45 u46 u47 u48 : Value), a' = ⟨#[.string ⟨a.toArray⟩, .string ⟨b.toArray⟩, undef, undef, .bool false, u5, u6, u7, u8, u9, u10, u11, u12, u13, u14, u15, u16, u17, u18, u19, u20, u21, u22, u23, u24, u25, u26, u27, u28, u29, u30, u31, u32, u33, u34, u35, u36, u37, u38, u39, u40, u41, u42, u43, u44, u45, u46, u47, u48], []⟩ ∧ good a ∧ good b ∧ G w w' ∧ Hid (lessB a0 b0 = lessL (P a) (P b))

set_option maxRecDepth 100000 in
set_option maxHeartbeats 800000 in
theorem less_any (a b : List UInt8) (w : World) (hw : Ok w) (ha : a.length < 1000000) (hb : b.length < 1000000) :
    Calls Tryd.prog 26 #[.string ⟨a.toArray⟩, .string ⟨b.toArray⟩] w fun e w' => e = .returned (.bool (lessB a b)) ∧ G w w' := by
  have Hf := Lib.hid (show lessB a b = lessL (P (nrm a)) (P (nrm b)) by unfold lessB; rw [partsB_nrm, partsB_nrm])
  have ga := Lib.hid (good_nrm a)
  have gb := Lib.hid (good_nrm b)
  go_enter Tryd.func26, Tryd.ntmps26
  go_wp2_with fail
  refine wp_scope_lab 0 (lessJ a b w) (fun a' _ => strLen (a'.tmps.getD 0 undef)) rfl ?_ ?_
  · intro hJ
    go_wp2_with fail
    refine (may_any a _ hw ha).mono ?_
    rintro e w1 ⟨rfl, g1⟩
    cases hm : mayB a <;> (
      first | have na := Lib.hid (nrm_yes hm) | have na := Lib.hid (nrm_no hm)
      go_wp2_with fail
      refine (may_any b _ (hw.of g1) hb).mono ?_
      rintro e w2 ⟨rfl, g2⟩
      cases hn : mayB b <;> (
        first | have nb := Lib.hid (nrm_yes hn) | have nb := Lib.hid (nrm_no hn)
        go_wp2_with fail
        go_step3
        refine (by assumption : ∀ (a : Act) (w : World), _ → _) _ _ (hJ _ _ ?_)
        exact ⟨_, _, _, _, _, _, _, _, _, _, _, _, _, _, _, _, _, _, _, _, _, _, _, _, _, _, _, _, _, _, _, _, _, _, _, _, _, _, _, _, _, _, _, _, _, _, rfl, by have := ga.out; rwa [na.out] at this, by have := gb.out; rwa [nb.out] at this, g1.trans g2, by have := Hf.out; rwa [na.out, nb.out] at this⟩))
  · rintro a' w' ⟨x, y, u5, u6, u7, u8, u9, u10, u11, u12, u13, u14, u15, u16, u17, u18, u19, u20, u21, u22, u23, u24, u25, u26, u27, u28, u29, u30, u31, u32, u33, u34, u35, u36, u37, u38, u39, u40, u41, u42, u43, u44, u45, u46, u47, u48, rfl, gx, gy, hg, hN⟩
    have lx := gx.1
    have ly := gy.1
    by_cases hx : x = []
    · subst hx
      have Hl := Lib.hid (lessP_nil y)
      go_wp2_with fail
      simp only [Exit.jump]; go_ret
      rw [hN.out, Hl.out]
      exact ⟨rfl, hg⟩
    have ex : (x == []) = false := by simp [hx]
    by_cases hy : y = []
    · subst hy
      have Hl := Lib.hid (lessP_end hx)
      go_wp2_with fail
      simp only [Exit.jump]; go_ret
      rw [hN.out, Hl.out]
      exact ⟨rfl, hg⟩
    have ey : (y == []) = false := by simp [hy]
    have sx := Lib.hid (P_step hx gx)
    have sy := Lib.hid (P_step hy gy)
    clear gx gy
    go_wp2_with fail
    refine (cut_any x _ (hw.of hg) (by omega)).mono ?_
    rintro e w1 ⟨rfl, g1⟩
    go_wp2_with fail
    refine (cut_any y _ ((hw.of hg).of g1) (by omega)).mono ?_
    rintro e w2 ⟨rfl, g2⟩
    by_cases hh : hd x = hd y
    · have e1 : (hd x == hd y) = true := by simp [hh]
      have tx := tl_less hx
      have Hh := Lib.hid hh
      clear hh
      go_wp2_with fail
      go_step3
      exact ⟨rfl, ⟨_, _, _, _, _, _, _, _, _, _, _, _, _, _, _, _, _, _, _, _, _, _, _, _, _, _, _, _, _, _, _, _, _, _, _, _, _, _, _, _, _, _, _, _, _, _, rfl, sx.out.2, sy.out.2, (hg.trans g1).trans g2, by rw [hN.out, sx.out.1, sy.out.1, lessL, if_pos (by simp [Hh.out])]; rfl⟩, by simpa [strLen, ByteArray.size] using tx⟩
    · have e1 : (hd x == hd y) = false := by simp [hh]
      have Hh := Lib.hid hh
      clear hh
      go_wp2_with fail
      simp only [Exit.jump]; go_ret
      rw [hN.out, sx.out.1, sy.out.1, lessL, if_neg (by simp [Hh.out])]
      exact ⟨rfl, (hg.trans g1).trans g2⟩
end Go.Proofs.YtoahloacafhpdaaDoor
