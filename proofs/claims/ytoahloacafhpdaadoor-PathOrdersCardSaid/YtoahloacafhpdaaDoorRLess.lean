/-
  THE WALKS of steamerref1.Parent, Under, Less and steamerlaw1.Texts.
-/
import Derived.Test.YtoahloacafhpdaaDoorRMay
import Derived.Deep.QuietTactic
import Derived.BigQuiet
namespace Go.Proofs.YtoahloacafhpdaaDoor
open Go.RowKit PathSpec

set_option maxRecDepth 100000 in
set_option maxHeartbeats 400000 in
theorem rparent_any (l : List UInt8) (w : World) (hs : l.length < 1000000) :
    Calls Tryd.prog 10 #[.string ⟨l.toArray⟩] w fun e w' => e = .returned (.tuple #[.string ⟨(parentB l).1.toArray⟩, .bool (parentB l).2]) ∧ G w w' := by
  go_enter Tryd.func10, Tryd.ntmps10
  go_wp2_with fail
  refine (rparts_any l _ hs).mono ?_
  rintro e w1 ⟨v, rfl, h1, g1⟩
  have hx := partsB_len l
  rcases h1.out with ⟨hv, h0⟩ | ⟨b, off, cap, hv, hr⟩
  · subst hv
    have H0 := Lib.hid (parentB_nil h0)
    clear h0
    go_wp2_with fail
    go_ret2
    rw [H0.out]
    exact ⟨rfl, g1⟩
  · subst hv
    rcases List.eq_nil_or_concat (partsB l) with h0 | ⟨ys, y, h0⟩
    · have H0 := Lib.hid (parentB_nil h0)
      have hz : (partsB l).length = 0 := by rw [h0]; rfl
      clear h0
      go_wp2_with fail
      go_ret2
      rw [H0.out]
      exact ⟨rfl, g1⟩
    rw [List.concat_eq_append] at h0
    obtain ⟨h2, h3⟩ := parentB_snoc h0
    have hc : w1.cell? ⟨b, off + ys.length, none⟩ = some (.string ⟨y.toArray⟩) := hr ys.length y (by rw [h0]; simp)
    have hl : ((partsB l).length : Int) = (ys.length : Int) + 1 := by rw [h0]; simp
    have hyl : y.length ≤ l.length := by rw [← h3]; exact lst_le l
    have Hp := Lib.hid (show par l = l.take (l.length - y.length - 1) by unfold par; rw [h3])
    have H2 := Lib.hid h2
    have H3 := Lib.hid h3
    clear hr h0 h2 h3
    by_cases hyy : y.length = l.length
    · have e1 : (y.length : Int) = l.length := by omega
      clear hyy
      have Hz := Lib.hid (show l.length - y.length - 1 = 0 by omega)
      go_wp2_with fail
      go_ret2
      rw [H2.out, Hp.out, Hz.out]
      exact ⟨rfl, g1⟩
    · have hlt : y.length + 1 ≤ l.length := by omega
      clear hyy
      go_wp2_with fail
      · go_ret2
        rw [H2.out, Hp.out]
        refine ⟨?_, g1⟩
        show Ending.returned (.tuple #[.string (ByteArray.extract ⟨l.toArray⟩ 0 (l.length - y.length - 1)), .bool true]) = _
        rw [ba_extract]; rfl
      · have Hz := Lib.hid (show l.length - y.length - 1 = 0 by omega)
        go_ret2
        rw [H2.out, Hp.out, Hz.out]
        exact ⟨rfl, g1⟩

theorem pre_at (s t : List UInt8) (h : t.length < s.length) : (⟨s.toArray⟩ : ByteArray)[t.length]'h = s[t.length] := rfl

set_option maxRecDepth 100000 in
set_option maxHeartbeats 400000 in
theorem runder_any (s t : List UInt8) (w : World) (hs : s.length < 1000000) (ht : t.length < 1000000) :
    Calls Tryd.prog 25 #[.string ⟨s.toArray⟩, .string ⟨t.toArray⟩] w fun e w' => e = .returned (.bool (underB s t)) ∧ G w w' := by
  go_enter Tryd.func25, Tryd.ntmps25
  go_wp2_with fail
  refine (rmay_any s _ hs).mono ?_
  rintro e w1 ⟨rfl, g1⟩
  cases hm : mayB s
  · go_wp2_with fail
    go_ret
    refine ⟨?_, g1⟩
    simp [underB, hm]
  go_wp2_with fail
  refine (rmay_any t _ ht).mono ?_
  rintro e w2 ⟨rfl, g2⟩
  cases hn : mayB t
  · go_wp2_with fail
    go_ret
    refine ⟨?_, g1.trans g2⟩
    simp [underB, hm, hn]
  by_cases h0 : t = []
  · subst h0
    go_wp2_with fail
    go_ret
    refine ⟨?_, g1.trans g2⟩
    simp [underB, hm, hn]
  have g0 : (t == []) = false := by simp [h0]
  by_cases h1 : s = t
  · subst h1
    go_wp2_with fail
    go_ret
    refine ⟨?_, g1.trans g2⟩
    simp [underB, hm]
  have g3 : (s == t) = false := by simp [h1]
  have Hu := Lib.hid (show underB s t = (t ++ [47]).isPrefixOf s by simp [underB, hm, hn, h0, h1])
  by_cases h2 : t.length < s.length
  · have Hp := Lib.hid (under_pre s t h2)
    have hb := pre_at s t h2
    have e1 : (ByteArray.extract ⟨s.toArray⟩ 0 t.length).toList = s.take t.length := by rw [ba_extract]; simp
    clear h0 h1
    by_cases h3 : s.take t.length = t
    · have e2 : (s.take t.length == t) = true := by simp [h3]
      clear h3
      go_wp2_with fail
      go_ret
      rw [Hu.out, Hp.out]
      exact ⟨ret_bool (by rw [e2, Bool.true_and, ← byte_eq]; rfl), g1.trans g2⟩
    · have e2 : (s.take t.length == t) = false := by simp [h3]
      clear h3
      go_wp2_with fail
      go_ret
      rw [Hu.out, Hp.out, e2]
      exact ⟨rfl, g1.trans g2⟩
  · have Hp := Lib.hid (under_short s t h2)
    go_wp2_with fail
    go_ret
    rw [Hu.out, Hp.out]
    exact ⟨rfl, g1.trans g2⟩


set_option maxRecDepth 100000 in
set_option maxHeartbeats 400000 in
theorem texts_any (va vb : Value) (xs ys : List (List UInt8)) (w : World) (ha : Strs w va xs) (hb : Strs w vb ys) (hx : xs.length < 1000000) (hy : ys.length < 1000000) :
    Calls Tryd.prog 17 #[va, vb] w fun e w' => e = .returned (.bool (xs == ys)) ∧ G w w' := by
  obtain ⟨pa, ca, rfl, Ha⟩ := ha.shape
  obtain ⟨pb, cb, rfl, Hb⟩ := hb.shape
  have Ha := Lib.hid Ha
  have Hb := Lib.hid Hb
  clear ha hb
  by_cases hl : xs.length = ys.length
  · have e1 : ((xs.length : Int) != (ys.length : Int)) = false := by simp [hl]
    have Hl := Lib.hid hl
    have hl1 : xs.length ≤ ys.length := by omega
    clear hl
    go_enter Tryd.func17, Tryd.ntmps17
    go_wp2_with fail
    go_loopw [5] (fun i wr => ∃ k : Nat, k ≤ xs.length ∧ i = .int .i64 k ∧ Hid (xs.take k = ys.take k) ∧ G w wr) (fun i _ => xs.length - (intOf i).toNat)
    case atStart => exact ⟨0, Nat.zero_le _, rfl, rfl, G.refl _⟩
    case round =>
      obtain ⟨k, hk, rfl, hA, hg⟩ := hrel
      by_cases hlt : k < xs.length
      · obtain ⟨x, hx1⟩ : ∃ x, xs[k]? = some x := ⟨xs[k], List.getElem?_eq_getElem hlt⟩
        obtain ⟨y, hy1⟩ : ∃ y, ys[k]? = some y := ⟨ys[k]'(by omega), List.getElem?_eq_getElem (by omega)⟩
        obtain ⟨ba, oa, rfl, ca1⟩ := Ha.out k x hx1
        obtain ⟨bb, ob, rfl, cb1⟩ := Hb.out k y hy1
        have ca2 := hg.cell ca1
        have cb2 := hg.cell cb1
        have Hx := Lib.hid hx1
        have Hy := Lib.hid hy1
        clear ca1 cb1 hx1 hy1
        have hk2 : k < ys.length := by omega
        by_cases hxy : x = y
        · subst hxy
          have Hn := Lib.hid (take_eq_succ Hx.out Hy.out hA.out)
          go_wp2_with fail
          go_quiet (fail)
          go_wp2_with fail
          go_roundw
          case rel => exact ⟨k + 1, by omega, by go_num, Hn.out, hg.trans (G.drewN _ _)⟩
          case measure => simp [intOf]; omega
        · have Hn := Lib.hid (list_ne_at Hx.out Hy.out hxy)
          have e2 : (x == y) = false := by simp [hxy]
          clear hxy
          go_wp2_with fail
          go_quiet (fail)
          go_wp2_with fail
          go_ret
          rw [Hn.out]
          exact ⟨rfl, hg.trans (G.drewN _ _)⟩
      · have hkl : k = xs.length := by omega
        subst hkl
        have Hn := Lib.hid (list_eq_all Hl.out hA.out)
        go_wp2_with fail
        go_ret
        rw [Hn.out]
        exact ⟨rfl, hg⟩
  · have e1 : ((xs.length : Int) != (ys.length : Int)) = true := by simp; omega
    have Hn := Lib.hid (list_ne_len hl)
    clear hl
    go_enter Tryd.func17, Tryd.ntmps17
    go_wp2_with fail
    go_ret
    rw [Hn.out]
    exact ⟨rfl, G.refl _⟩

set_option maxRecDepth 100000 in
set_option maxHeartbeats 400000 in
theorem rless_any (a b : List UInt8) (w : World) (ha : a.length < 1000000) (hb : b.length < 1000000) :
    Calls Tryd.prog 27 #[.string ⟨a.toArray⟩, .string ⟨b.toArray⟩] w fun e w' => e = .returned (.bool (lessB a b)) ∧ G w w' := by
  have Hf := Lib.hid (show lessB a b = lessL (partsB a) (partsB b) from rfl)
  have hx := partsB_len a
  have hy := partsB_len b
  go_enter Tryd.func27, Tryd.ntmps27
  go_wp2_with fail
  refine (rparts_any a _ ha).mono ?_
  rintro e w1 ⟨va, rfl, h1, g1⟩
  go_wp2_with fail
  refine (rparts_any b _ hb).mono ?_
  rintro e w2 ⟨vb, rfl, h2, g2⟩
  generalize partsB a = xs at *
  generalize partsB b = ys at *
  obtain ⟨pa, ca, rfl, Ha⟩ := (h1.of g2).shape
  obtain ⟨pb, cb, rfl, Hb⟩ := h2.shape
  have Ha := Lib.hid Ha
  have Hb := Lib.hid Hb
  have g12 := g1.trans g2
  clear h1 h2 g1 g2
  go_wp2_with fail
  go_loopw [7] (fun i wr => ∃ k : Nat, k ≤ xs.length ∧ k ≤ ys.length ∧ i = .int .i64 k ∧ Hid (lessB a b = lessL (xs.drop k) (ys.drop k)) ∧ G w2 wr) (fun i _ => xs.length - (intOf i).toNat)
  case atStart => exact ⟨0, Nat.zero_le _, Nat.zero_le _, rfl, Hf.out, G.refl _⟩
  case round =>
    obtain ⟨k, hk, hk2, rfl, hA, hg⟩ := hrel
    by_cases hlt : k < xs.length ∧ k < ys.length
    · obtain ⟨hl1, hl2⟩ := hlt
      obtain ⟨x, hx1⟩ : ∃ x, xs[k]? = some x := ⟨xs[k], List.getElem?_eq_getElem hl1⟩
      obtain ⟨y, hy1⟩ : ∃ y, ys[k]? = some y := ⟨ys[k], List.getElem?_eq_getElem hl2⟩
      obtain ⟨ba, oa, rfl, ca1⟩ := Ha.out k x hx1
      obtain ⟨bb, ob, rfl, cb1⟩ := Hb.out k y hy1
      have ca2 := hg.cell ca1
      have cb2 := hg.cell cb1
      have Hs := Lib.hid (hA.out.trans (lessL_step hx1 hy1))
      clear ca1 cb1 hx1 hy1
      by_cases hxy : x = y
      · subst hxy
        go_wp2_with fail
        go_quiet (fail)
        go_wp2_with fail
        go_roundw
        case rel => exact ⟨k + 1, by omega, by omega, by go_num, by rw [Hs.out, if_pos (by simp)]; rfl, hg.trans (G.drewN _ _)⟩
        case measure => simp [intOf]; omega
      · have e2 : (x == y) = false := by simp [hxy]
        clear hxy
        go_wp2_with fail
        go_quiet (fail)
        go_wp2_with fail
        go_quiet (fail)
        go_wp2_with fail
        go_ret
        rw [Hs.out, e2]
        exact ⟨rfl, g12.trans (hg.trans ((G.drewN _ _).trans (G.drewN _ _)))⟩
    · have Hn := Lib.hid (hA.out.trans (lessL_end hk hk2 hlt))
      by_cases hl1 : k < xs.length
      · have hl2 : ¬ k < ys.length := fun h => hlt ⟨hl1, h⟩
        clear hlt
        go_wp2_with fail
        go_ret
        rw [Hn.out]
        exact ⟨rfl, g12.trans hg⟩
      · clear hlt
        go_wp2_with fail
        go_ret
        rw [Hn.out]
        exact ⟨rfl, g12.trans hg⟩
end Go.Proofs.YtoahloacafhpdaaDoor
