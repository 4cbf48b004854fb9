/-
  THE WALKS of steamerref1.MayPath, Parts, Depth, Last, Parent, Join, Under.
-/
import Derived.Test.YtoahloacafhpdaaDoorRCut
namespace Go.Proofs.YtoahloacafhpdaaDoor
open Go.RowKit PathSpec

set_option maxRecDepth 100000 in
set_option maxHeartbeats 400000 in
theorem rmay_any (l : List UInt8) (w : World) (hs : l.length < 1000000) :
    Calls Tryd.prog 16 #[.string ⟨l.toArray⟩] w fun e w' => e = .returned (.bool (mayB l)) ∧ G w w' := by
  by_cases h0 : l = []
  · subst h0
    go_enter Tryd.func16, Tryd.ntmps16
    go_wp2_with fail
    go_ret
    exact ⟨rfl, G.refl _⟩
  have g0 : (l == []) = false := by simp [h0]
  have Hn := Lib.hid (names_ne l)
  have Hm : Hid (∀ x ∈ names l, x.length ≤ l.length) := fun x hx => names_mem hx
  have Hb : Hid (∀ k x, (names l)[k]? = some x → nameB x = false → mayB l = false) := fun k x h1 h2 => mayB_bad h0 h1 h2
  have Ha : Hid (((names l).take (names l).length).all nameB = true → mayB l = (decide (l.length ≤ 100) && decide ((names l).length ≤ 8))) := fun h => mayB_all h0 h
  have hlen := names_len l
  clear h0
  go_enter Tryd.func16, Tryd.ntmps16
  go_wp2_with fail
  refine (rcut_any l _ hs).mono ?_
  rintro e w1 ⟨v, rfl, h1, g1⟩
  generalize names l = xs at *
  rcases h1.out with ⟨hv, h0⟩ | ⟨b, off, cap, hv, hr⟩
  · exact absurd h0 Hn.out
  subst hv
  have Hr := Lib.hid hr
  clear hr h1
  go_wp2_with fail
  go_loop [4] (fun i => ∃ k : Nat, k ≤ xs.length ∧ i = .int .i64 k ∧ Hid ((xs.take k).all nameB = true)) (fun i => xs.length - (intOf i).toNat)
  case atStart => exact ⟨0, Nat.zero_le _, rfl, rfl⟩
  case round =>
    obtain ⟨k, hk, rfl, hA⟩ := hrel
    by_cases hlt : k < xs.length
    · obtain ⟨x, hx⟩ : ∃ x, xs[k]? = some x := ⟨xs[k], List.getElem?_eq_getElem hlt⟩
      have hc := Hr.out k x hx
      have hxl := Hm.out x (List.mem_of_getElem? hx)
      have Hx := Lib.hid hx
      clear hx
      go_wp2_with fail
      refine (rname_any x _ (by omega)).mono ?_
      rintro e w2 ⟨rfl, rfl⟩
      cases hn : nameB x
      · have Hf := Lib.hid (Hb.out k x Hx.out hn)
        go_wp2_with fail
        go_ret
        rw [Hf.out]
        exact ⟨rfl, g1⟩
      · have Hf := Lib.hid (allN_succ Hx.out hn hA.out)
        go_wp2_with fail
        go_round
        case rel => exact ⟨k + 1, by omega, by go_num, Hf.out⟩
        case measure => simp [intOf]; omega
    · have hkl : k = xs.length := by omega
      subst hkl
      have Hf := Lib.hid (Ha.out hA.out)
      by_cases h1 : l.length ≤ 100
      · go_wp2_with fail
        go_ret
        rw [Hf.out]
        exact ⟨ret_bool (by simp [h1]; omega), g1⟩
      · go_wp2_with fail
        go_ret
        rw [Hf.out]
        exact ⟨ret_bool (by simp [h1]), g1⟩

set_option maxRecDepth 100000 in
set_option maxHeartbeats 400000 in
theorem rparts_any (l : List UInt8) (w : World) (hs : l.length < 1000000) :
    Calls Tryd.prog 19 #[.string ⟨l.toArray⟩] w (RetStrs w (partsB l)) := by
  by_cases h0 : l = []
  · subst h0
    go_enter Tryd.func19, Tryd.ntmps19
    go_wp2_with fail
    go_ret
    exact ⟨_, rfl, Strs.nil _, G.refl _⟩
  have g0 : (l == []) = false := by simp [h0]
  cases hm : mayB l
  · have Hf := Lib.hid (show partsB l = [] by unfold partsB; simp [hm])
    go_enter Tryd.func19, Tryd.ntmps19
    go_wp2_with fail
    refine (rmay_any l _ hs).mono ?_
    rintro e w1 ⟨rfl, g1⟩
    go_wp2_with fail
    go_ret
    rw [Hf.out]
    exact ⟨_, rfl, Strs.nil _, g1⟩
  · have Hf := Lib.hid (show partsB l = names l by unfold partsB; simp [hm, h0])
    go_enter Tryd.func19, Tryd.ntmps19
    go_wp2_with fail
    refine (rmay_any l _ hs).mono ?_
    rintro e w1 ⟨rfl, g1⟩
    go_wp2_with fail
    refine (rcut_any l _ hs).mono ?_
    rintro e w2 ⟨v, rfl, h2, g2⟩
    go_wp2_with fail
    go_ret
    rw [Hf.out]
    exact ⟨_, rfl, h2, g1.trans g2⟩

set_option maxRecDepth 100000 in
set_option maxHeartbeats 400000 in
theorem rlast_any (l : List UInt8) (w : World) (hs : l.length < 1000000) :
    Calls Tryd.prog 23 #[.string ⟨l.toArray⟩] w fun e w' => e = .returned (.string ⟨(lastB l).toArray⟩) ∧ G w w' := by
  have Hf := Lib.hid (show lastB l = (partsB l).getLastD [] from rfl)
  go_enter Tryd.func23, Tryd.ntmps23
  go_wp2_with fail
  refine (rparts_any l _ hs).mono ?_
  rintro e w1 ⟨v, rfl, h1, g1⟩
  have hx := partsB_len l
  rcases h1.out with ⟨hv, h0⟩ | ⟨b, off, cap, hv, hr⟩
  · subst hv
    have H0 := Lib.hid h0
    clear h0
    go_wp2_with fail
    go_ret
    rw [Hf.out, H0.out]
    exact ⟨rfl, g1⟩
  · subst hv
    generalize partsB l = xs at *
    rcases List.eq_nil_or_concat xs with h0 | ⟨ys, y, h0⟩
    · subst h0
      go_wp2_with fail
      go_ret
      rw [Hf.out]
      exact ⟨rfl, g1⟩
    have Hy := Lib.hid (show xs.getLastD [] = y by rw [h0]; simp)
    have hc : w1.cell? ⟨b, off + ys.length, none⟩ = some (.string ⟨y.toArray⟩) := hr ys.length y (by rw [h0]; simp)
    have hl : (xs.length : Int) = (ys.length : Int) + 1 := by rw [h0]; simp
    clear hr h0
    go_wp2_with fail
    go_ret
    rw [Hf.out, Hy.out]
    exact ⟨rfl, g1⟩

set_option maxRecDepth 100000 in
set_option maxHeartbeats 400000 in
theorem rdepth_any (l : List UInt8) (w : World) (hs : l.length < 1000000) :
    Calls Tryd.prog 21 #[.string ⟨l.toArray⟩] w fun e w' => e = .returned (.int .i64 (depthB l)) ∧ G w w' := by
  have Hf := Lib.hid (show depthB l = if mayB l then ((partsB l).length : Int) else -1 from rfl)
  go_enter Tryd.func21, Tryd.ntmps21
  go_wp2_with fail
  refine (rmay_any l _ hs).mono ?_
  rintro e w1 ⟨rfl, g1⟩
  cases hm : mayB l
  · go_wp2_with fail
    go_ret
    rw [Hf.out, hm]
    exact ⟨rfl, g1⟩
  · go_wp2_with fail
    refine (rparts_any l _ hs).mono ?_
    rintro e w2 ⟨v, rfl, h2, g2⟩
    rcases h2.out with ⟨hv, h0⟩ | ⟨b, off, cap, hv, hr⟩
    · subst hv
      have H0 := Lib.hid h0
      clear h0
      go_wp2_with fail
      go_ret
      rw [Hf.out, H0.out, hm]
      exact ⟨rfl, g1.trans g2⟩
    · subst hv
      clear hr
      go_wp2_with fail
      go_ret
      rw [Hf.out, hm]
      exact ⟨rfl, g1.trans g2⟩

set_option maxRecDepth 100000 in
set_option maxHeartbeats 400000 in
theorem rjoin_any (a b : List UInt8) (w : World) (ha : a.length < 300000) (hb : b.length < 300000) :
    Calls Tryd.prog 12 #[.string ⟨a.toArray⟩, .string ⟨b.toArray⟩] w fun e w' => e = .returned (.tuple #[.string ⟨(joinB a b).1.toArray⟩, .int .i64 (joinB a b).2]) ∧ G w w' := by
  go_enter Tryd.func12, Tryd.ntmps12
  go_wp2_with fail
  refine (rmay_any a _ (by omega)).mono ?_
  rintro e w1 ⟨rfl, g1⟩
  cases hm : mayB a
  · go_wp2_with fail
    go_ret2
    refine ⟨?_, g1⟩
    unfold joinB; rw [hm]; rfl
  go_wp2_with fail
  refine (rname_any b _ (by omega)).mono ?_
  rintro e w2 ⟨rfl, rfl⟩
  cases hn : nameB b
  · go_wp2_with fail
    go_ret2
    refine ⟨?_, g1⟩
    unfold joinB; rw [hm, hn]; rfl
  by_cases h0 : a = []
  · subst h0
    go_wp2_with fail
    refine (rmay_any b _ (by omega)).mono ?_
    rintro e w3 ⟨rfl, g3⟩
    cases hb' : mayB b
    · go_wp2_with fail
      go_ret2
      refine ⟨?_, g1.trans g3⟩
      simp [joinB, hm, hn, hb']
    · go_wp2_with fail
      go_ret2
      refine ⟨?_, g1.trans g3⟩
      simp [joinB, hm, hn, hb']
  have g0 : (a == []) = false := by simp [h0]
  go_wp2_with fail
  rw [ba_append, ba_append]
  have he : a ++ [47] ++ b = a ++ 47 :: b := by simp
  rw [he]
  generalize hs : a ++ 47 :: b = s
  have hl : s.length < 1000000 := by rw [← hs]; simp; omega
  have Hs := Lib.hid hs
  clear hs he
  refine (rmay_any s _ hl).mono ?_
  rintro e w3 ⟨rfl, g3⟩
  cases hb' : mayB s
  · go_wp2_with fail
    go_ret2
    refine ⟨?_, g1.trans g3⟩
    simp [joinB, hm, hn, h0, Hs.out, hb']
  · go_wp2_with fail
    go_ret2
    refine ⟨?_, g1.trans g3⟩
    simp [joinB, hm, hn, h0, Hs.out, hb']
end Go.Proofs.YtoahloacafhpdaaDoor
