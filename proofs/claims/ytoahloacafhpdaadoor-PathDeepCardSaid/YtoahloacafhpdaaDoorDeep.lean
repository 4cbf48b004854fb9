/-
  THE WALK of steamerlaw1.PathDeep.
-/
import Derived.Test.YtoahloacafhpdaaDoorTold
import Derived.Test.YtoahloacafhpdaaDoorPlain
import Derived.Test.YtoahloacafhpdaaDoorMod
namespace Go.Proofs.YtoahloacafhpdaaDoor
open Go.RowKit PathSpec

theorem may_joinN {xs : List (List UInt8)} (h : ∀ x ∈ xs, nameB x = true) : mayB (joinN xs) = (decide (xs.length ≤ 8) && decide ((joinN xs).length ≤ 100)) := by
  by_cases h0 : xs = []
  · subst h0; rfl
  · have hn := names_joinN h0 (fun x hx => (nameB_parts (h x hx)).2.2)
    have hne := joinN_ne h0 (fun x hx => nameB_ne (h x hx))
    have he : (joinN xs).isEmpty = false := by simp [hne]
    have ha : xs.all nameB = true := List.all_eq_true.2 h
    simp only [mayB, he, mayK, hn, ha, Bool.false_or, Bool.true_and, Nat.zero_add]
    rw [Bool.and_comm]
theorem xs_name : ∀ j, j < 20 → nameB (List.replicate (j + 1) 120) = true := by decide
theorem xs_cut : ∀ j, j < 20 → (ByteArray.mk #[120, 120, 120, 120, 120, 120, 120, 120, 120, 120, 120, 120, 120, 120, 120, 120, 120, 120, 120, 120]).extract 0 (j + 1) = ⟨(List.replicate (j + 1) (120 : UInt8)).toArray⟩ := by
  intro j hj
  rw [show (#[120, 120, 120, 120, 120, 120, 120, 120, 120, 120, 120, 120, 120, 120, 120, 120, 120, 120, 120, 120] : Array UInt8) = (List.replicate 20 120).toArray from rfl, ba_extract, List.drop_zero, List.take_replicate]
  rw [Nat.min_eq_left (by omega)]
/-- k equal names, joined. -/
def rep (nm : List UInt8) (k : Nat) : List UInt8 := joinN (List.replicate k nm)
theorem rep_one (nm : List UInt8) : rep nm 1 = nm := rfl
theorem rep_succ (nm : List UInt8) {k : Nat} (h : 0 < k) : rep nm (k + 1) = rep nm k ++ 47 :: nm := by
  unfold rep
  rw [List.replicate_succ', joinN_snoc (by simp; omega)]
theorem rep_len (nm : List UInt8) (k : Nat) : (rep nm k).length ≤ k * (nm.length + 1) := by
  induction k with
  | zero => simp [rep, joinN]
  | succ k ih =>
    by_cases h : 0 < k
    · rw [rep_succ nm h]; simp only [List.length_append, List.length_cons]; rw [Nat.add_mul]; omega
    · have : k = 0 := by omega
      subst this; simp [rep, joinN]
theorem rep_may {nm : List UInt8} (hn : nameB nm = true) (k : Nat) : mayB (rep nm k) = (decide (k ≤ 8) && decide ((rep nm k).length ≤ 100)) := by
  have := may_joinN (xs := List.replicate k nm) (fun x hx => by rw [List.eq_of_mem_replicate hx]; exact hn)
  rw [List.length_replicate] at this
  exact this
theorem rep_yes {nm : List UInt8} (hn : nameB nm = true) {k : Nat} (h1 : k ≤ 8) (h2 : (rep nm k).length ≤ 100) : mayB (rep nm k) = true ∧ depthB (rep nm k) = (k : Int) ∧ (partsB (rep nm k)).length = k := by
  have ok : okN (List.replicate k nm) := ⟨fun x hx => by rw [List.eq_of_mem_replicate hx]; exact hn, by simpa using h1, h2⟩
  refine ⟨ok.may, ?_, ?_⟩
  · have := ok.depth; rw [List.length_replicate] at this; exact this
  · have := ok.parts; unfold rep; rw [this]; simp
theorem rep_no {nm : List UInt8} (hn : nameB nm = true) {k : Nat} (h : ¬ (k ≤ 8 ∧ (rep nm k).length ≤ 100)) : mayB (rep nm k) = false ∧ depthB (rep nm k) = -1 ∧ partsB (rep nm k) = [] := by
  have hm : mayB (rep nm k) = false := by
    rw [rep_may hn, Bool.eq_false_iff]; simpa using h
  exact ⟨hm, by simp [depthB, hm], by simp [partsB, hm]⟩

set_option maxRecDepth 100000 in
set_option maxHeartbeats 1000000 in
theorem deep_any (n m : Int) (w : World) (hok : Ok w) : Calls Tryd.prog 7 #[.int .i64 n, .int .i64 m] w (RetTrue w) := by
  have hg := G.refl w
  obtain ⟨k, hk, e1⟩ := u64_mod n 13 (by decide)
  obtain ⟨j, hj, e2⟩ := u64_mod m 20 (by decide)
  simp only [Int.cast_ofNat_Int] at e1 e2
  have Hx := Lib.hid (xs_cut j hj)
  rw [Nat.add_comm j 1] at Hx
  have Hnm := Lib.hid (xs_name j hj)
  have hnl : (List.replicate (j + 1) (120 : UInt8)).length ≤ 20 := by simp; omega
  rw [Nat.add_comm j 1] at Hnm hnl
  generalize List.replicate (1 + j) (120 : UInt8) = nm at *
  go_enter Tryd.func7, Tryd.ntmps7
  go_wp2_with fail
  rw [Hx.out]
  clear Hx e1 e2
  go_loop [8, 9] (fun s i => ∃ c : Nat, c ≤ k ∧ i = .int .i64 c ∧ s = .string ⟨(rep nm c).toArray⟩) (fun _ i => k - (intOf i).toNat)
  case atStart => exact ⟨0, Nat.zero_le _, rfl, rfl⟩
  case round =>
    obtain ⟨c, hc, rfl, rfl⟩ := hrel
    have hl := rep_len nm c
    have hm : c * (nm.length + 1) ≤ 13 * 21 := Nat.mul_le_mul (by omega) (by omega)
    by_cases hlt : c < k
    · by_cases h0 : c = 0
      · subst h0
        go_wp2_with fail
        go_round
        case rel => exact ⟨1, by omega, by go_num, by rw [rep_one]; exact congrArg Value.string (ba_append [] nm)⟩
        case measure => simp [intOf]; omega
      · have hpos : 0 < c := by omega
        have Hs := Lib.hid (rep_succ nm hpos)
        have hl2 : (rep nm c).length ≤ 273 := by omega
        clear hm hl h0
        go_wp2_with fail
        go_round
        case rel => exact ⟨c + 1, by omega, by go_num, by rw [Hs.out, ba_append, ba_append]; simp⟩
        case measure => simp [intOf]; omega
    · have hck : c = k := by omega
      subst hck
      have hl2 : (rep nm c).length ≤ 273 := by omega
      clear hm hl
      by_cases h8 : c ≤ 8
      · by_cases h100 : (rep nm c).length ≤ 100
        · obtain ⟨m1, d1, p1⟩ := rep_yes Hnm.out h8 h100
          have P1 := Lib.hid p1
          clear p1
          go_wp2_with fail
          refine (told_any _ hok).mono ?_; rintro e w1 ⟨rfl, g1⟩; have hok := hok.of g1; have hg := hg.trans g1; clear g1
          go_wp2_with fail
          refine (may_any _ _ hok (by omega)).mono ?_; rintro e w1 ⟨rfl, g1⟩; have hok := hok.of g1; have hg := hg.trans g1; clear g1
          go_wp2_with fail
          refine (depth_any _ _ hok (by omega)).mono ?_; rintro e w1 ⟨rfl, g1⟩; have hok := hok.of g1; have hg := hg.trans g1; clear g1
          go_wp2_with fail
          refine (parts_any _ _ hok (by omega)).mono ?_; rintro e w1 ⟨v, rfl, h1, g1⟩; have hg := hg.trans g1
          obtain ⟨p, cap, rfl, hp⟩ := h1.shape
          rw [P1.out]
          clear hp h1 g1 hok
          go_wp2_with fail
          go_ret
          exact ⟨rfl, hg⟩
        · obtain ⟨m1, d1, p1⟩ := rep_no Hnm.out (k := c) (fun h => h100 h.2)
          have hd100 : decide (((rep nm c).length : Int) ≤ 100) = false := by simp; omega
          have P1 := Lib.hid p1
          clear p1
          go_wp2_with fail
          refine (told_any _ hok).mono ?_; rintro e w1 ⟨rfl, g1⟩; have hok := hok.of g1; have hg := hg.trans g1; clear g1
          go_wp2_with fail
          refine (may_any _ _ hok (by omega)).mono ?_; rintro e w1 ⟨rfl, g1⟩; have hok := hok.of g1; have hg := hg.trans g1; clear g1
          go_wp2_with fail
          refine (depth_any _ _ hok (by omega)).mono ?_; rintro e w1 ⟨rfl, g1⟩; have hok := hok.of g1; have hg := hg.trans g1; clear g1
          go_wp2_with fail
          refine (parts_any _ _ hok (by omega)).mono ?_; rintro e w1 ⟨v, rfl, h1, g1⟩; have hg := hg.trans g1
          rw [P1.out] at h1
          obtain ⟨p, cap, rfl, hp⟩ := h1.shape
          clear hp h1 g1 hok
          go_wp2_with fail
          go_ret
          exact ⟨rfl, hg⟩
      · obtain ⟨m1, d1, p1⟩ := rep_no Hnm.out (k := c) (fun h => h8 h.1)
        have P1 := Lib.hid p1
        clear p1
        go_wp2_with fail
        refine (told_any _ hok).mono ?_; rintro e w1 ⟨rfl, g1⟩; have hok := hok.of g1; have hg := hg.trans g1; clear g1
        go_wp2_with fail
        refine (may_any _ _ hok (by omega)).mono ?_; rintro e w1 ⟨rfl, g1⟩; have hok := hok.of g1; have hg := hg.trans g1; clear g1
        go_wp2_with fail
        refine (depth_any _ _ hok (by omega)).mono ?_; rintro e w1 ⟨rfl, g1⟩; have hok := hok.of g1; have hg := hg.trans g1; clear g1
        go_wp2_with fail
        refine (parts_any _ _ hok (by omega)).mono ?_; rintro e w1 ⟨v, rfl, h1, g1⟩; have hg := hg.trans g1
        rw [P1.out] at h1
        obtain ⟨p, cap, rfl, hp⟩ := h1.shape
        clear hp h1 g1 hok
        go_wp2_with fail
        go_ret
        exact ⟨rfl, hg⟩
end Go.Proofs.YtoahloacafhpdaaDoor
