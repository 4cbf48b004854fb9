/-
  PLAIN: whom an ACL lets, as the reference says it.
-/
import Derived.Test.YtmchdjpgceiloaaDoorALSpec
import Derived.Test.YtmchdjpgceiloaaDoorANSpec
import Derived.Test.YtmchdjpgceiloaaDoorGSort
import Derived.WalkKit
set_option linter.unusedSimpArgs false
set_option linter.unusedVariables false
namespace Go.Proofs.YtmchdjpgceiloaaDoor.AclSpec
open GSort

theorem ofInt_wrap (z : Int) : BitVec.ofInt 64 (IntKind.i64.wrap z) = BitVec.ofInt 64 z := by
  apply BitVec.eq_of_toNat_eq
  rw [BitVec.toNat_ofInt, BitVec.toNat_ofInt]
  congr 1
  show (if (true && decide (z % 18446744073709551616 ≥ 9223372036854775808)) = true then z % 18446744073709551616 - 18446744073709551616 else z % 18446744073709551616) % 18446744073709551616 = z % 18446744073709551616
  split <;> omega
theorem andI_def (a b : Int) : andI a b = IntKind.i64.wrap ((BitVec.ofInt 64 a &&& BitVec.ofInt 64 b).toNat : Int) := rfl
theorem ofInt_and (a b : Int) : BitVec.ofInt 64 (andI a b) = BitVec.ofInt 64 a &&& BitVec.ofInt 64 b := by
  rw [andI_def, ofInt_wrap, BitVec.ofInt_natCast, BitVec.ofNat_toNat, BitVec.setWidth_eq]
theorem seven {ask : Int} (h0 : 0 ≤ ask) (h7 : ask ≤ 7) : BitVec.ofInt 64 7 &&& BitVec.ofInt 64 ask = BitVec.ofInt 64 ask := by
  have : ask = 0 ∨ ask = 1 ∨ ask = 2 ∨ ask = 3 ∨ ask = 4 ∨ ask = 5 ∨ ask = 6 ∨ ask = 7 := by omega
  rcases this with rfl | rfl | rfl | rfl | rfl | rfl | rfl | rfl <;> decide
theorem has7 (x : Int) {ask : Int} (h0 : 0 ≤ ask) (h7 : ask ≤ 7) : hasI (andI x 7) ask = hasI x ask := by
  unfold hasI
  rw [andI_def, ofInt_and, BitVec.and_assoc, seven h0 h7, andI_def x ask]
theorem has7m (x m : Int) {ask : Int} (h0 : 0 ≤ ask) (h7 : ask ≤ 7) : hasI (andI (andI x 7) m) ask = hasI (andI x m) ask := by
  unfold hasI
  rw [andI_def, ofInt_and, ofInt_and, andI_def (andI x m) ask, ofInt_and]
  congr 4
  rw [BitVec.and_assoc, BitVec.and_assoc, BitVec.and_assoc, BitVec.and_comm (BitVec.ofInt 64 m) (BitVec.ofInt 64 ask), ← BitVec.and_assoc (BitVec.ofInt 64 7), seven h0 h7]

/-- The last mask's right, or 7. -/
def rmask (l : List Ace) : Int := l.foldl (fun m a => if a.kind = 3 then a.perm else m) 7
theorem rmask_succ {l : List Ace} {i : Nat} {a : Ace} (h : l[i]? = some a) : rmask (l.take (i + 1)) = if a.kind = 3 then a.perm else rmask (l.take i) := by
  obtain ⟨hi, rfl⟩ := List.getElem?_eq_some_iff.1 h
  unfold rmask
  rw [List.take_succ_eq_append_getElem hi, List.foldl_append]; rfl
theorem mask_last {b : Ace} {l : List Ace} (hb : goodB b = true) (hk : b.kind = 3) (h : chk (some b) l = true) : l = [] := by
  cases l with
  | nil => rfl
  | cons a r =>
    exfalso
    simp only [chk, Bool.and_eq_true, decide_eq_true_eq] at h
    have h1 := h.1.1
    have h2 := (cmpA_lt b a).1 h.1.2
    simp only [goodB, Bool.and_eq_true, decide_eq_true_eq, Bool.or_eq_true, Bool.not_eq_true', beq_eq_false_iff_ne, beq_iff_eq] at h1 hb
    omega
theorem rmask_fold : ∀ (l : List Ace) (o : Option Ace) (m : Int), chk o l = true → l.foldl (fun m a => if a.kind = 3 then a.perm else m) m = if (maskB l).2 then (maskB l).1 else m
  | [], _, m, _ => by simp [maskB]
  | a :: r, o, m, h => by
    have hg : goodB a = true ∧ chk (some a) r = true := by
      cases o <;> simp only [chk, Bool.and_eq_true] at h
      · exact h
      · exact ⟨h.1.1, h.2⟩
    rw [List.foldl_cons, rmask_fold r (some a) _ hg.2]
    by_cases hk : a.kind = 3
    · have := mask_last hg.1 hk hg.2
      subst this
      simp [maskB, hk]
    · simp [maskB, hk]
theorem rmask_may {l : List Ace} (h : mayA l = true) : rmask l = mostB l := by
  have hc : chkAt l 0 = true := by
    unfold mayA at h; simp only [Bool.and_eq_true] at h; exact h.1.2
  unfold chkAt at hc
  rw [List.drop_zero] at hc
  exact rmask_fold _ _ _ hc
theorem grp_or (gs : List Int) (most ask : Int) : ∀ (l : List Ace) (f r : Bool), grp gs most ask (f, r) l = (f || (grp gs most ask (false, false) l).1, r || (grp gs most ask (false, false) l).2)
  | [], f, r => by simp [grp]
  | a :: t, f, r => by
    simp only [grp]
    split
    · rw [grp_or gs most ask t true, grp_or gs most ask t true (false || _)]
      simp [Bool.or_assoc]
    · exact grp_or gs most ask t f r
/-- What the reference answers behind its loop. -/
def rfin (s : Bool × Bool) (mode gid : Int) (gs : List Int) (m ask : Int) : Bool :=
  if gs.contains gid then s.2 || hasI (andI (andI (mode / 8) 7) m) ask else if s.1 then s.2 else hasI (andI mode 7) ask
theorem rfin_rest {l : List Ace} {mode gid ask : Int} {gs : List Int} (h0 : 0 ≤ ask) (h7 : ask ≤ 7) : rfin (grp gs (mostB l) ask (false, false) l) mode gid gs (mostB l) ask = restB l mode gid gs ask := by
  unfold rfin restB finB
  rw [grp_or gs (mostB l) ask l (gs.contains gid), has7m _ _ h0 h7, has7 _ h0 h7]
  cases gs.contains gid
  · simp
  · simp [Bool.or_comm]

/-! ### The row in order, as the reference makes it -/
def ltK (x y : Int × Int) : Bool := decide (x.1 < y.1 ∨ x.1 = y.1 ∧ x.2 < y.2)
theorem ltK_lo : LO ltK := ⟨fun x => by simp [ltK], fun x y => by
  obtain ⟨a, b⟩ := x; obtain ⟨c, d⟩ := y
  simp only [ltK, decide_eq_true_eq, Prod.mk.injEq]; omega, fun x y z => by simp only [ltK, decide_eq_true_eq]; omega⟩
theorem lt_key (a b : Ace) : ltK (key a) (key b) = decide (cmpA a b < 0) := by
  unfold ltK key
  rw [Bool.eq_iff_iff, decide_eq_true_eq, decide_eq_true_eq, cmpA_lt]
theorem sortedG_iff {l : List Ace} : SortedG key ltK l ↔ SortedA l := by
  unfold SortedG SortedA
  constructor <;> refine fun h => h.imp ?_ <;> intro a b hab
  · rw [lt_key, decide_eq_false_iff_not] at hab; exact hab
  · rw [lt_key, decide_eq_false_iff_not]; exact hab
theorem insertA_sorted {m : List Ace} {k : Nat} {x : Ace} (hs : SortedA m) (h1 : ∀ j y, k ≤ j → m[j]? = some y → cmpA x y < 0) (h2 : k = 0 ∨ ∃ y, m[k - 1]? = some y ∧ ¬ cmpA x y < 0) : SortedA (m.take k ++ x :: m.drop k) := by
  rw [← sortedG_iff]
  refine insert_sorted ltK_lo (sortedG_iff.2 hs) (fun j y hj hy => by rw [lt_key, decide_eq_true_eq]; exact h1 j y hj hy) ?_
  rcases h2 with h | ⟨y, hy, h⟩
  · exact .inl h
  · exact .inr ⟨y, hy, by rw [lt_key, decide_eq_false_iff_not]; exact h⟩
end Go.Proofs.YtmchdjpgceiloaaDoor.AclSpec
