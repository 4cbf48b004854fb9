/-
  THE WALK of steamerlaw1.told.
-/
import Derived.Test.YtoahloacafhpdaaDoorLess
import Derived.Test.YtoahloacafhpdaaDoorRLess
namespace Go.Proofs.YtoahloacafhpdaaDoor
open Go.RowKit PathSpec

def RetTrue (w : World) (e : Ending) (w' : World) : Prop := e = .returned (.bool true) ∧ G w w'

set_option maxRecDepth 100000 in
set_option maxHeartbeats 1000000 in
theorem told_any (w : World) (hok : Ok w) : Calls Tryd.prog 8 #[] w (RetTrue w) := by
  have hg := G.refl w
  have p1 : parentB [97, 47, 98] = ([97], true) := by decide
  have p2 : parentB [] = ([], false) := by decide
  have p3 : parentB [97] = ([], true) := by decide
  have j1 : joinB [97] [98] = ([97, 47, 98], 0) := by decide
  have j2 : joinB [97] [46, 46] = ([], 1) := by decide
  have n1 : nameB [97] = true := by decide
  have n2 : nameB [46, 46] = false := by decide
  have n3 : nameB [97, 47, 98] = false := by decide
  have m1 : mayB [] = true := by decide
  have m2 : mayB [97, 47, 98] = true := by decide
  have m3 : mayB [97, 47, 47, 98] = false := by decide
  have m4 : mayB [47, 97] = false := by decide
  have u1 : underB [97, 47, 98] [97] = true := by decide
  have u2 : underB [97, 98] [97] = false := by decide
  have u3 : underB [97] [] = true := by decide
  have d1 : depthB [97, 47, 98] = 2 := by decide
  have d2 : depthB [46, 46] = -1 := by decide
  have l1 : lastB [97, 47, 98] = [98] := by decide
  have e1 : lessB [97, 47, 98] [97, 45, 98] = true := by decide
  have e2 : lessB [97] [97, 47, 98] = true := by decide
  have e3 : lessB [97] [97] = false := by decide
  have q1 : partsB [97, 47, 98] = [[97], [98]] := by decide
  go_enter Tryd.func8, Tryd.ntmps8
  go_wp2_with (first | (go_at_call 9; refine (parent_any _ _ hok (by simp)).mono ?_; rintro e w1 ⟨rfl, g1⟩; have hok := hok.of g1; have hg := hg.trans g1; clear g1) | (go_at_call 11; refine (join_any _ _ _ hok (by simp) (by simp)).mono ?_; rintro e w1 ⟨rfl, g1⟩; have hok := hok.of g1; have hg := hg.trans g1; clear g1) | (go_at_call 13; refine (name_any _ _ (by simp [maxLen])).mono ?_; rintro e w1 ⟨rfl, rfl⟩) | (go_at_call 15; refine (may_any _ _ hok (by simp)).mono ?_; rintro e w1 ⟨rfl, g1⟩; have hok := hok.of g1; have hg := hg.trans g1; clear g1) | (go_at_call 24; refine (under_any _ _ _ hok (by simp) (by simp)).mono ?_; rintro e w1 ⟨rfl, g1⟩; have hok := hok.of g1; have hg := hg.trans g1; clear g1) | (go_at_call 20; refine (depth_any _ _ hok (by simp)).mono ?_; rintro e w1 ⟨rfl, g1⟩; have hok := hok.of g1; have hg := hg.trans g1; clear g1) | (go_at_call 22; refine (last_any _ _ hok (by simp)).mono ?_; rintro e w1 ⟨rfl, g1⟩; have hok := hok.of g1; have hg := hg.trans g1; clear g1) | (go_at_call 26; refine (less_any _ _ _ hok (by simp) (by simp)).mono ?_; rintro e w1 ⟨rfl, g1⟩; have hok := hok.of g1; have hg := hg.trans g1; clear g1))
  refine (parts_any _ _ hok (by simp)).mono ?_
  rintro e w1 ⟨v, rfl, h1, g1⟩
  have hg := hg.trans g1
  rw [q1] at h1
  obtain ⟨p, cap, rfl, hp⟩ := h1.shape
  clear hp h1 g1 hok
  go_wp2_with fail
  go_ret
  exact ⟨rfl, hg⟩
end Go.Proofs.YtoahloacafhpdaaDoor
