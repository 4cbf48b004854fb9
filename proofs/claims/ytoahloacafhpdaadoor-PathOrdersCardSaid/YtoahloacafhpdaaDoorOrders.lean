/-
  THE WALK of steamerlaw1.PathOrders.
-/
import Derived.Test.YtoahloacafhpdaaDoorMade
namespace Go.Proofs.YtoahloacafhpdaaDoor
open Go.RowKit PathSpec

theorem ords {x y z : List (List UInt8)} (hx : okN x) (hy : okN y) (hz : okN z) :
    ((joinN x == joinN y) = (x == y)) ∧ lessB (joinN x) (joinN y) = lessL x y ∧ lessB (joinN y) (joinN x) = lessL y x ∧ lessB (joinN y) (joinN z) = lessL y z ∧ lessB (joinN x) (joinN z) = lessL x z ∧ lessB (joinN z) (joinN y) = lessL z y ∧
      underB (joinN y) (joinN x) = x.isPrefixOf y ∧ underB (joinN z) (joinN x) = x.isPrefixOf z := by
  refine ⟨?_, hx.less hy, hy.less hx, hy.less hz, hx.less hz, hz.less hy, hy.under hx, hz.under hx⟩
  rw [Bool.eq_iff_iff]
  simp only [beq_iff_eq]
  exact ⟨fun h => hx.inj hy h, fun h => by rw [h]⟩

set_option maxRecDepth 100000 in
set_option maxHeartbeats 4000000 in
theorem orders_any (va vb vc : Value) (za zb zc : List Int) (w : World) (hok : Ok w) (ha : Ints w va za) (hb : Ints w vb zb) (hc : Ints w vc zc) (la : za.length ≤ maxLen) (lb : zb.length ≤ maxLen) (lc : zc.length ≤ maxLen) :
    Calls Tryd.prog 5 #[va, vb, vc] w (RetTrue w) := by
  have Ha := Lib.hid (show made za 6 = joinN (madeN za 6) from rfl)
  have Hb := Lib.hid (show made zb 6 = joinN (madeN zb 6) from rfl)
  have Hc := Lib.hid (show made zc 6 = joinN (madeN zc 6) from rfl)
  have ka := made_ok za (show 6 ≤ 8 by decide)
  have kb := made_ok zb (show 6 ≤ 8 by decide)
  have kc := made_ok zc (show 6 ≤ 8 by decide)
  have Ho := Lib.hid (ords ka kb kc)
  have la2 := ka.2.2
  have lb2 := kb.2.2
  have lc2 := kc.2.2
  clear ka kb kc
  have hg := G.refl w
  go_enter Tryd.func5, Tryd.ntmps5
  go_wp2_with fail
  refine (made_any va za 6 _ ha (by omega) la).mono ?_; rintro e w1 ⟨rfl, g1⟩; have hok := hok.of g1; have hg := hg.trans g1; have hb := hb.of g1; have hc := hc.of g1; clear g1
  go_wp2_with fail
  refine (made_any vb zb 6 _ hb (by omega) lb).mono ?_; rintro e w1 ⟨rfl, g1⟩; have hok := hok.of g1; have hg := hg.trans g1; have hc := hc.of g1; clear g1
  go_wp2_with fail
  refine (made_any vc zc 6 _ hc (by omega) lc).mono ?_; rintro e w1 ⟨rfl, g1⟩; have hok := hok.of g1; have hg := hg.trans g1; clear g1
  rw [Ha.out, Hb.out, Hc.out]
  clear Ha Hb Hc ha hb hc la lb lc
  generalize madeN za 6 = xs at *
  generalize madeN zb 6 = ys at *
  generalize madeN zc 6 = zs at *
  obtain ⟨o1, o2, o3, o4, o5, o6, o7, o8⟩ := Ho.out
  clear Ho
  have htrans := Lib.hid (@ll_trans xs ys zs)
  have hbet := Lib.hid (@ll_between xs ys zs)
  have hirr := Lib.hid (ll_irr xs)
  rcases ll_tri xs ys with hxy | hxy | hyx
  · have hyx := ll_asym hxy
    have heq : (xs == ys) = false := by
      rw [beq_eq_false_iff_ne]; rintro rfl; rw [hirr.out] at hxy; cases hxy
    rw [heq] at o1
    generalize joinN xs = x at *
    generalize joinN ys = y at *
    generalize joinN zs = z at *
    go_wp2_with fail
    refine (less_any _ _ _ hok (by omega) (by omega)).mono ?_; rintro e w1 ⟨rfl, g1⟩; have hok := hok.of g1; have hg := hg.trans g1; clear g1
    rw [o2]
    go_wp2_with fail
    refine (less_any _ _ _ hok (by omega) (by omega)).mono ?_; rintro e w1 ⟨rfl, g1⟩; have hok := hok.of g1; have hg := hg.trans g1; clear g1
    rw [o3]
    go_wp2_with fail
    refine (less_any _ _ _ hok (by omega) (by omega)).mono ?_; rintro e w1 ⟨rfl, g1⟩; have hok := hok.of g1; have hg := hg.trans g1; clear g1
    rw [o2]
    go_wp2_with fail
    refine (less_any _ _ _ hok (by omega) (by omega)).mono ?_; rintro e w1 ⟨rfl, g1⟩; have hok := hok.of g1; have hg := hg.trans g1; clear g1
    rw [o4]
    cases hyz : lessL ys zs
    · go_wp2_with fail
      refine (under_any _ _ _ hok (by omega) (by omega)).mono ?_; rintro e w1 ⟨rfl, g1⟩; have hok := hok.of g1; have hg := hg.trans g1; clear g1
      rw [o7]
      cases hu : xs.isPrefixOf ys
      · go_wp2_with fail
        refine (told_any _ hok).mono ?_; rintro e w1 ⟨rfl, g1⟩; have hok := hok.of g1; have hg := hg.trans g1; clear g1
        go_wp2_with fail
        go_ret
        exact ⟨rfl, hg⟩
      · go_wp2_with fail
        refine (less_any _ _ _ hok (by omega) (by omega)).mono ?_; rintro e w1 ⟨rfl, g1⟩; have hok := hok.of g1; have hg := hg.trans g1; clear g1
        rw [o5]
        cases hxz : lessL xs zs
        · go_wp2_with fail
          refine (told_any _ hok).mono ?_; rintro e w1 ⟨rfl, g1⟩; have hok := hok.of g1; have hg := hg.trans g1; clear g1
          go_wp2_with fail
          go_ret
          exact ⟨rfl, hg⟩
        · go_wp2_with fail
          refine (less_any _ _ _ hok (by omega) (by omega)).mono ?_; rintro e w1 ⟨rfl, g1⟩; have hok := hok.of g1; have hg := hg.trans g1; clear g1
          rw [o6]
          cases hzy : lessL zs ys
          · go_wp2_with fail
            refine (told_any _ hok).mono ?_; rintro e w1 ⟨rfl, g1⟩; have hok := hok.of g1; have hg := hg.trans g1; clear g1
            go_wp2_with fail
            go_ret
            exact ⟨rfl, hg⟩
          · have hz : xs.isPrefixOf zs = true := List.isPrefixOf_iff_prefix.2 (hbet.out (List.isPrefixOf_iff_prefix.1 hu) hxz hzy)
            go_wp2_with fail
            refine (under_any _ _ _ hok (by omega) (by omega)).mono ?_; rintro e w1 ⟨rfl, g1⟩; have hok := hok.of g1; have hg := hg.trans g1; clear g1
            rw [o8]
            go_wp2_with fail
            refine (told_any _ hok).mono ?_; rintro e w1 ⟨rfl, g1⟩; have hok := hok.of g1; have hg := hg.trans g1; clear g1
            go_wp2_with fail
            go_ret
            exact ⟨rfl, hg⟩
    · have hxz : lessL xs zs = true := htrans.out hxy hyz
      go_wp2_with fail
      refine (less_any _ _ _ hok (by omega) (by omega)).mono ?_; rintro e w1 ⟨rfl, g1⟩; have hok := hok.of g1; have hg := hg.trans g1; clear g1
      rw [o5]
      go_wp2_with fail
      refine (under_any _ _ _ hok (by omega) (by omega)).mono ?_; rintro e w1 ⟨rfl, g1⟩; have hok := hok.of g1; have hg := hg.trans g1; clear g1
      rw [o7]
      cases hu : xs.isPrefixOf ys
      · go_wp2_with fail
        refine (told_any _ hok).mono ?_; rintro e w1 ⟨rfl, g1⟩; have hok := hok.of g1; have hg := hg.trans g1; clear g1
        go_wp2_with fail
        go_ret
        exact ⟨rfl, hg⟩
      · go_wp2_with fail
        refine (less_any _ _ _ hok (by omega) (by omega)).mono ?_; rintro e w1 ⟨rfl, g1⟩; have hok := hok.of g1; have hg := hg.trans g1; clear g1
        rw [o5]
        go_wp2_with fail
        refine (less_any _ _ _ hok (by omega) (by omega)).mono ?_; rintro e w1 ⟨rfl, g1⟩; have hok := hok.of g1; have hg := hg.trans g1; clear g1
        rw [o6]
        cases hzy : lessL zs ys
        · go_wp2_with fail
          refine (told_any _ hok).mono ?_; rintro e w1 ⟨rfl, g1⟩; have hok := hok.of g1; have hg := hg.trans g1; clear g1
          go_wp2_with fail
          go_ret
          exact ⟨rfl, hg⟩
        · have hz : xs.isPrefixOf zs = true := List.isPrefixOf_iff_prefix.2 (hbet.out (List.isPrefixOf_iff_prefix.1 hu) hxz hzy)
          go_wp2_with fail
          refine (under_any _ _ _ hok (by omega) (by omega)).mono ?_; rintro e w1 ⟨rfl, g1⟩; have hok := hok.of g1; have hg := hg.trans g1; clear g1
          rw [o8]
          go_wp2_with fail
          refine (told_any _ hok).mono ?_; rintro e w1 ⟨rfl, g1⟩; have hok := hok.of g1; have hg := hg.trans g1; clear g1
          go_wp2_with fail
          go_ret
          exact ⟨rfl, hg⟩
  · subst hxy
    rw [hirr.out] at o2 o3
    have hu0 : xs.isPrefixOf xs = true := List.isPrefixOf_iff_prefix.2 (List.prefix_refl _)
    rw [hu0] at o7
    have hne : lessL xs zs = true → lessL zs xs = false := ll_asym
    have Hne := Lib.hid hne
    clear o1 hne htrans hbet hu0
    generalize joinN xs = x at *
    generalize joinN zs = z at *
    go_wp2_with fail
    refine (less_any _ _ _ hok (by omega) (by omega)).mono ?_; rintro e w1 ⟨rfl, g1⟩; have hok := hok.of g1; have hg := hg.trans g1; clear g1
    rw [o2]
    go_wp2_with fail
    refine (less_any _ _ _ hok (by omega) (by omega)).mono ?_; rintro e w1 ⟨rfl, g1⟩; have hok := hok.of g1; have hg := hg.trans g1; clear g1
    rw [o2]
    go_wp2_with fail
    refine (less_any _ _ _ hok (by omega) (by omega)).mono ?_; rintro e w1 ⟨rfl, g1⟩; have hok := hok.of g1; have hg := hg.trans g1; clear g1
    rw [o2]
    go_wp2_with fail
    refine (under_any _ _ _ hok (by omega) (by omega)).mono ?_; rintro e w1 ⟨rfl, g1⟩; have hok := hok.of g1; have hg := hg.trans g1; clear g1
    rw [o7]
    go_wp2_with fail
    refine (less_any _ _ _ hok (by omega) (by omega)).mono ?_; rintro e w1 ⟨rfl, g1⟩; have hok := hok.of g1; have hg := hg.trans g1; clear g1
    rw [o5]
    cases hxz : lessL xs zs
    · go_wp2_with fail
      refine (told_any _ hok).mono ?_; rintro e w1 ⟨rfl, g1⟩; have hok := hok.of g1; have hg := hg.trans g1; clear g1
      go_wp2_with fail
      go_ret
      exact ⟨rfl, hg⟩
    · have hzx := Hne.out hxz
      go_wp2_with fail
      refine (less_any _ _ _ hok (by omega) (by omega)).mono ?_; rintro e w1 ⟨rfl, g1⟩; have hok := hok.of g1; have hg := hg.trans g1; clear g1
      rw [o6]
      go_wp2_with fail
      refine (told_any _ hok).mono ?_; rintro e w1 ⟨rfl, g1⟩; have hok := hok.of g1; have hg := hg.trans g1; clear g1
      go_wp2_with fail
      go_ret
      exact ⟨rfl, hg⟩
  · have hxy := ll_asym hyx
    have heq : (xs == ys) = false := by
      rw [beq_eq_false_iff_ne]; rintro rfl; rw [hirr.out] at hyx; cases hyx
    rw [heq] at o1
    generalize joinN xs = x at *
    generalize joinN ys = y at *
    generalize joinN zs = z at *
    go_wp2_with fail
    refine (less_any _ _ _ hok (by omega) (by omega)).mono ?_; rintro e w1 ⟨rfl, g1⟩; have hok := hok.of g1; have hg := hg.trans g1; clear g1
    rw [o2]
    go_wp2_with fail
    refine (less_any _ _ _ hok (by omega) (by omega)).mono ?_; rintro e w1 ⟨rfl, g1⟩; have hok := hok.of g1; have hg := hg.trans g1; clear g1
    rw [o3]
    go_wp2_with fail
    refine (less_any _ _ _ hok (by omega) (by omega)).mono ?_; rintro e w1 ⟨rfl, g1⟩; have hok := hok.of g1; have hg := hg.trans g1; clear g1
    rw [o2]
    go_wp2_with fail
    refine (under_any _ _ _ hok (by omega) (by omega)).mono ?_; rintro e w1 ⟨rfl, g1⟩; have hok := hok.of g1; have hg := hg.trans g1; clear g1
    rw [o7]
    cases hu : xs.isPrefixOf ys
    · go_wp2_with fail
      refine (told_any _ hok).mono ?_; rintro e w1 ⟨rfl, g1⟩; have hok := hok.of g1; have hg := hg.trans g1; clear g1
      go_wp2_with fail
      go_ret
      exact ⟨rfl, hg⟩
    · go_wp2_with fail
      refine (less_any _ _ _ hok (by omega) (by omega)).mono ?_; rintro e w1 ⟨rfl, g1⟩; have hok := hok.of g1; have hg := hg.trans g1; clear g1
      rw [o5]
      cases hxz : lessL xs zs
      · go_wp2_with fail
        refine (told_any _ hok).mono ?_; rintro e w1 ⟨rfl, g1⟩; have hok := hok.of g1; have hg := hg.trans g1; clear g1
        go_wp2_with fail
        go_ret
        exact ⟨rfl, hg⟩
      · go_wp2_with fail
        refine (less_any _ _ _ hok (by omega) (by omega)).mono ?_; rintro e w1 ⟨rfl, g1⟩; have hok := hok.of g1; have hg := hg.trans g1; clear g1
        rw [o6]
        cases hzy : lessL zs ys
        · go_wp2_with fail
          refine (told_any _ hok).mono ?_; rintro e w1 ⟨rfl, g1⟩; have hok := hok.of g1; have hg := hg.trans g1; clear g1
          go_wp2_with fail
          go_ret
          exact ⟨rfl, hg⟩
        · have hz : xs.isPrefixOf zs = true := List.isPrefixOf_iff_prefix.2 (hbet.out (List.isPrefixOf_iff_prefix.1 hu) hxz hzy)
          go_wp2_with fail
          refine (under_any _ _ _ hok (by omega) (by omega)).mono ?_; rintro e w1 ⟨rfl, g1⟩; have hok := hok.of g1; have hg := hg.trans g1; clear g1
          rw [o8]
          go_wp2_with fail
          refine (told_any _ hok).mono ?_; rintro e w1 ⟨rfl, g1⟩; have hok := hok.of g1; have hg := hg.trans g1; clear g1
          go_wp2_with fail
          go_ret
          exact ⟨rfl, hg⟩
end Go.Proofs.YtoahloacafhpdaaDoor
