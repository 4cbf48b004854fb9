/-
  THE WALK of path.May.
-/
import Derived.Test.YtoahloacafhpdaaDoorName
import Derived.Test.YtoahloacafhpdaaDoorShelf
namespace Go.Proofs.YtoahloacafhpdaaDoor
open Go.RowKit PathSpec

theorem cut_any (l : List UInt8) (w : World) (hw : Ok w) (hs : l.length < 1000000) :
    Calls Tryd.prog 30 #[.string ⟨l.toArray⟩, .string ⟨#[47]⟩] w fun e w' => e = .returned (.tuple #[.string ⟨(hd l).toArray⟩, .string ⟨(tl l).toArray⟩, .bool (has l)]) ∧ G w w' := by
  obtain ⟨m, hm⟩ := hw
  refine (Tryd.strings_Cut ⟨l.toArray⟩ ⟨#[47]⟩ m w (by show l.toArray.size < _; simp; omega) hm).mono ?_
  rintro e w' ⟨rfl, n, rfl⟩
  refine ⟨?_, G.drewN _ _⟩
  show Ending.returned (.tuple #[.string ⟨(Lib.cut l [47]).1.toArray⟩, .string ⟨(Lib.cut l [47]).2.1.toArray⟩, .bool (Lib.cut l [47]).2.2]) = _
  rw [lib_cut]

def mayJ (l0 : List UInt8) (w : World) (a' : Act) (w' : World) : Prop :=
  ∃ (l : List UInt8) (k : Nat) (u4 u5 u6 u7 u8 u9 u10 u11 u12 u13 u14 u15 u16 u17 u18 u19 u20 u21 u22 u23 u24 u25 u26 u27 u28 : Value), a' = ⟨#[.string ⟨l.toArray⟩, undef, .bool false, .int .i64 k, u4, u5, u6, u7, u8, u9, u10, u11, u12, u13, u14, u15, u16, u17, u18, u19, u20, u21, u22, u23, u24, u25, u26, u27, u28], []⟩ ∧ k ≤ 8 ∧ l.length ≤ 100 ∧ G w w' ∧ Hid (mayB l0 = mayK k l)

set_option maxRecDepth 100000 in
set_option maxHeartbeats 400000 in
theorem may_any (l : List UInt8) (w : World) (hw : Ok w) (hs : l.length < 1000000) :
    Calls Tryd.prog 15 #[.string ⟨l.toArray⟩] w fun e w' => e = .returned (.bool (mayB l)) ∧ G w w' := by
  go_enter Tryd.func15, Tryd.ntmps15
  go_wp2_with fail
  refine wp_scope_lab 0 (mayJ l w) (fun a' _ => 9 - (intOf (a'.tmps.getD 3 undef)).toNat) rfl ?_ ?_
  · intro hJ
    by_cases h0 : l = []
    · subst h0
      go_wp2_with fail
      simp only [Exit.jump]; go_ret; exact ⟨rfl, G.refl _⟩
    have g0 : (l == []) = false := by simp [h0]
    by_cases h1 : 100 < l.length
    · have Hf := Lib.hid (mayB_long h1)
      go_wp2_with fail
      simp only [Exit.jump]; go_ret; rw [Hf.out]; exact ⟨rfl, G.refl _⟩
    have Hf := Lib.hid (mayB_go h0 (by omega))
    go_wp2_with fail
    go_step3
    refine (by assumption : ∀ (a : Act) (w : World), _ → _) _ _ (hJ _ _ ?_)
    exact ⟨l, 0, _, _, _, _, _, _, _, _, _, _, _, _, _, _, _, _, _, _, _, _, _, _, _, _, _, rfl, by omega, by omega, G.refl _, Hf.out⟩
  · rintro a' w' ⟨l', k, u4, u5, u6, u7, u8, u9, u10, u11, u12, u13, u14, u15, u16, u17, u18, u19, u20, u21, u22, u23, u24, u25, u26, u27, u28, rfl, hk, hl, hg, hN⟩
    have hh := hd_le l'
    go_wp2_with fail
    refine (cut_any l' _ (hw.of hg) (by omega)).mono ?_
    rintro e w1 ⟨rfl, g1⟩
    go_wp2_with fail
    refine (name_any _ _ (by unfold maxLen; omega)).mono ?_
    rintro e w2 ⟨rfl, rfl⟩
    cases hn : nameB (hd l')
    · have Hf := Lib.hid (mayK_name (k := k) hn)
      go_wp2_with fail
      simp only [Exit.jump]; go_ret; rw [hN.out, Hf.out]; exact ⟨rfl, hg.trans g1⟩
    by_cases h8 : k = 8
    · subst h8
      have Hf := Lib.hid (mayK_full l')
      go_wp2_with fail
      simp only [Exit.jump]; go_ret; rw [hN.out, Hf.out]; exact ⟨rfl, hg.trans g1⟩
    have g8 : ((k : Int) == 8) = false := by rw [beq_eq_false_iff_ne]; omega
    cases hh' : has l'
    · have Hf := Lib.hid (mayK_last hn hh' (k := k) (by omega))
      go_wp2_with fail
      simp only [Exit.jump]; go_ret; rw [hN.out, Hf.out]; exact ⟨rfl, hg.trans g1⟩
    have Hf := Lib.hid (mayK_more hn hh' (k := k))
    have ht := tl_lt hh'
    have Ht := Lib.hid ht
    clear ht
    go_wp2_with fail
    go_step3
    exact ⟨rfl, ⟨tl l', k + 1, _, _, _, _, _, _, _, _, _, _, _, _, _, _, _, _, _, _, _, _, _, _, _, _, _, rfl, by omega, by have := Ht.out; omega, hg.trans g1, hN.out.trans Hf.out⟩, by simp [intOf]; omega⟩
end Go.Proofs.YtoahloacafhpdaaDoor
