/-
  THE WALK of steamerlaw1.PathAsks.
-/
import Derived.Test.YtoahloacafhpdaaDoorTold
namespace Go.Proofs.YtoahloacafhpdaaDoor
open Go.RowKit PathSpec

set_option maxRecDepth 100000 in
set_option maxHeartbeats 2000000 in
theorem asks_any (a b : List UInt8) (w : World) (hok : Ok w) : Calls Tryd.prog 3 #[.string ⟨a.toArray⟩, .string ⟨b.toArray⟩] w (RetTrue w) := by
  have hg := G.refl w
  by_cases ha : 120 < a.length
  · go_enter Tryd.func3, Tryd.ntmps3
    go_wp2_with fail
    refine (told_any _ hok).mono ?_
    rintro e w1 ⟨rfl, g1⟩
    go_wp2_with fail
    go_ret
    exact ⟨rfl, g1⟩
  by_cases hb : 120 < b.length
  · go_enter Tryd.func3, Tryd.ntmps3
    go_wp2_with fail
    refine (told_any _ hok).mono ?_
    rintro e w1 ⟨rfl, g1⟩
    go_wp2_with fail
    go_ret
    exact ⟨rfl, g1⟩
  have hpl := partsB_len a
  go_enter Tryd.func3, Tryd.ntmps3
  go_wp2_with fail
  refine (parent_any a _ hok (by omega)).mono ?_; rintro e w1 ⟨rfl, g1⟩; have hok := hok.of g1; have hg := hg.trans g1; clear g1
  go_wp2_with fail
  refine (rparent_any a _ (by omega)).mono ?_; rintro e w1 ⟨rfl, g1⟩; have hok := hok.of g1; have hg := hg.trans g1; clear g1
  go_wp2_with fail
  refine (join_any a b _ hok (by omega) (by omega)).mono ?_; rintro e w1 ⟨rfl, g1⟩; have hok := hok.of g1; have hg := hg.trans g1; clear g1
  go_wp2_with fail
  refine (rjoin_any a b _ (by omega) (by omega)).mono ?_; rintro e w1 ⟨rfl, g1⟩; have hok := hok.of g1; have hg := hg.trans g1; clear g1
  go_wp2_with fail
  refine (told_any _ hok).mono ?_; rintro e w1 ⟨rfl, g1⟩; have hok := hok.of g1; have hg := hg.trans g1; clear g1
  go_wp2_with fail
  refine (name_any a _ (by unfold maxLen; omega)).mono ?_; rintro e w1 ⟨rfl, rfl⟩
  go_wp2_with fail
  refine (rname_any a _ (by omega)).mono ?_; rintro e w1 ⟨rfl, rfl⟩
  go_wp2_with fail
  refine (may_any a _ hok (by omega)).mono ?_; rintro e w1 ⟨rfl, g1⟩; have hok := hok.of g1; have hg := hg.trans g1; clear g1
  go_wp2_with fail
  refine (rmay_any a _ (by omega)).mono ?_; rintro e w1 ⟨rfl, g1⟩; have hok := hok.of g1; have hg := hg.trans g1; clear g1
  go_wp2_with fail
  refine (parts_any a _ hok (by omega)).mono ?_; rintro e w1 ⟨v1, rfl, s1, g1⟩; have hok := hok.of g1; have hg := hg.trans g1; clear g1
  go_wp2_with fail
  refine (rparts_any a _ (by omega)).mono ?_; rintro e w1 ⟨v2, rfl, s2, g1⟩; have hok := hok.of g1; have hg := hg.trans g1
  have s1 := s1.of g1; clear g1
  go_wp2_with fail
  refine (texts_any _ _ _ _ _ s1 s2 (by omega) (by omega)).mono ?_; rintro e w1 ⟨rfl, g1⟩; have hok := hok.of g1; have hg := hg.trans g1; clear g1 s1 s2
  go_wp2_with fail
  refine (depth_any a _ hok (by omega)).mono ?_; rintro e w1 ⟨rfl, g1⟩; have hok := hok.of g1; have hg := hg.trans g1; clear g1
  go_wp2_with fail
  refine (rdepth_any a _ (by omega)).mono ?_; rintro e w1 ⟨rfl, g1⟩; have hok := hok.of g1; have hg := hg.trans g1; clear g1
  go_wp2_with fail
  refine (last_any a _ hok (by omega)).mono ?_; rintro e w1 ⟨rfl, g1⟩; have hok := hok.of g1; have hg := hg.trans g1; clear g1
  go_wp2_with fail
  refine (rlast_any a _ (by omega)).mono ?_; rintro e w1 ⟨rfl, g1⟩; have hok := hok.of g1; have hg := hg.trans g1; clear g1
  go_wp2_with fail
  refine (under_any a b _ hok (by omega) (by omega)).mono ?_; rintro e w1 ⟨rfl, g1⟩; have hok := hok.of g1; have hg := hg.trans g1; clear g1
  go_wp2_with fail
  refine (runder_any a b _ (by omega) (by omega)).mono ?_; rintro e w1 ⟨rfl, g1⟩; have hok := hok.of g1; have hg := hg.trans g1; clear g1
  go_wp2_with fail
  refine (less_any a b _ hok (by omega) (by omega)).mono ?_; rintro e w1 ⟨rfl, g1⟩; have hok := hok.of g1; have hg := hg.trans g1; clear g1
  go_wp2_with fail
  refine (rless_any a b _ (by omega) (by omega)).mono ?_; rintro e w1 ⟨rfl, g1⟩; have hok := hok.of g1; have hg := hg.trans g1; clear g1
  go_wp2_with fail
  go_ret
  exact ⟨rfl, hg⟩
end Go.Proofs.YtoahloacafhpdaaDoor
