import Derived.Test.YtaeefaehpfjmlaaL14
import Derived.Test.YtaeefaehpfjmlaaFlo
import Derived.Test.YtaeefaehpfjmlaaESpec
import Derived.Test.YtaeefaehpfjmlaaShelfG
import Derived.Test.YtaeefaehpfjmlaaShelf
import Derived.Shelf.SlSortCmp.NoneTotal
set_option linter.unusedSimpArgs false
set_option linter.unusedVariables false
namespace Go.Proofs.Ytaeefaehpfjmlaa
open Go.RowKit Go.Sort Go.Proofs Flo

theorem ordF {a b : Nat} (ha : a ≤ big) (hb : b ≤ big) : FloatKind.f64.format.order (fI a) (fI b) = some (compare (a : Int) (b : Int)) := order_fI ha hb
theorem ret_eq {v u : Value} (h : v = u) : Ending.returned v = Ending.returned u := by rw [h]
def cmpN (a b : Nat) : Int := if a < b then -1 else if b < a then 1 else 0
set_option maxRecDepth 100000 in
theorem isNaNF_any (a : Nat) (h : a ≤ big) (w : World) : Calls Try.prog 74 #[.float .f64 (fI a)] w fun e w' => e = .returned (.bool false) ∧ w' = w := by
  have hc : FloatKind.f64.format.order (fI a) (fI a) = some .eq := by rw [ordF h h, cmp_eq.2 rfl]
  go_enter Try.func74, Try.ntmps74
  go_wp2_with fail
  go_ret
  refine ⟨ret_eq ?_, rfl⟩
  simp [hc]
set_option maxRecDepth 100000 in
theorem cmpF_any (a b : Nat) (ha : a ≤ big) (hb : b ≤ big) (w : World) : Calls Try.prog 54 #[.float .f64 (fI a), .float .f64 (fI b)] w fun e w' => e = .returned (.int .i64 (cmpN a b)) ∧ w' = w := by
  have en : ∀ (vs : Array Value) (w : World), (callFunc 74 vs).run Try.prog w = .ok (.enter 74 vs) w := enters_of Try.func74 (by kernel_rfl) rfl
  have h1 := isNaNF_any a ha w
  have h2 := isNaNF_any b hb w
  have hc := ordF ha hb
  rcases Nat.lt_trichotomy a b with h | h | h
  · have hl : compare (a : Int) (b : Int) = .lt := cmp_lt.2 (by omega)
    rw [hl] at hc
    have hr : cmpN a b = -1 := by simp [cmpN, h]
    have g1 : (FloatKind.f64.format.order (fI a) (fI b) == some Ordering.lt) = true := by rw [hc]; rfl
    rw [hr]
    go_enter Try.func54, Try.ntmps54
    go_wp2_with (first | (refine h1.mono ?_; rintro e w' ⟨rfl, rfl⟩) | (refine h2.mono ?_; rintro e w' ⟨rfl, rfl⟩))
    go_ret
    exact ⟨rfl, rfl⟩
  · have hl : compare (a : Int) (b : Int) = .eq := cmp_eq.2 (by omega)
    rw [hl] at hc
    have hr : cmpN a b = 0 := by simp [cmpN, h]
    have g1 : (FloatKind.f64.format.order (fI a) (fI b) == some Ordering.lt) = false := by rw [hc]; rfl
    have g2 : (FloatKind.f64.format.order (fI a) (fI b) == some Ordering.gt) = false := by rw [hc]; rfl
    rw [hr]
    clear h
    go_enter Try.func54, Try.ntmps54
    go_wp2_with (first | (refine h1.mono ?_; rintro e w' ⟨rfl, rfl⟩) | (refine h2.mono ?_; rintro e w' ⟨rfl, rfl⟩))
    go_ret
    exact ⟨rfl, rfl⟩
  · have hl : compare (a : Int) (b : Int) = .gt := cmp_gt.2 (by omega)
    rw [hl] at hc
    have hr : cmpN a b = 1 := by simp [cmpN, h]; omega
    have g1 : (FloatKind.f64.format.order (fI a) (fI b) == some Ordering.lt) = false := by rw [hc]; rfl
    have g2 : (FloatKind.f64.format.order (fI a) (fI b) == some Ordering.gt) = true := by rw [hc]; rfl
    rw [hr]
    go_enter Try.func54, Try.ntmps54
    go_wp2_with (first | (refine h1.mono ?_; rintro e w' ⟨rfl, rfl⟩) | (refine h2.mono ?_; rintro e w' ⟨rfl, rfl⟩))
    go_ret
    exact ⟨rfl, rfl⟩

def eV (z : Nat × Nat) : Value := .complex .f64 (fI (min z.1 big)) (fI (min z.2 big))
def cmpE (x y : Nat × Nat) : Int := cmpN (min x.1 big) (min y.1 big)
theorem cmpE_lt {x y : Nat × Nat} : cmpE x y < 0 ↔ min x.1 big < min y.1 big := by
  unfold cmpE cmpN; split
  · omega
  · split <;> omega
set_option maxRecDepth 100000 in
theorem cmpE_any (x y : Nat × Nat) (w : World) : Calls Try.prog 53 #[eV x, eV y] w fun e w' => e = .returned (.int .i64 (cmpE x y)) ∧ ∃ q os, w' = grow (w.drewN q) os := by
  have en : ∀ (vs : Array Value) (w : World), (callFunc 54 vs).run Try.prog w = .ok (.enter 54 vs) w := enters_of Try.func54 (by kernel_rfl) rfl
  have h1 := cmpF_any (min x.1 big) (min y.1 big) (Nat.min_le_right _ _) (Nat.min_le_right _ _) w
  unfold eV cmpE
  go_enter Try.func53, Try.ntmps53
  go_wp2_with (refine h1.mono ?_; rintro e w' ⟨rfl, rfl⟩)
  go_ret
  exact ⟨rfl, 0, #[], by simp [Sort.grow, World.drewN]⟩
theorem swoE : SWO (ltOf cmpE) where
  irrefl x := by simp [ltOf, cmpE_lt]
  trans x y z h1 h2 := by simp only [ltOf, cmpE_lt, decide_eq_true_eq] at *; omega
  ntrans x y z h1 h2 := by simp only [ltOf, cmpE_lt, decide_eq_false_iff_not] at *; omega
theorem sortE_enters : ∀ (vs : Array Value) (w : World), (callFunc 52 vs).run Try.prog w = .ok (.enter 52 vs) w :=
  enters_of Try.func52 (by kernel_rfl) rfl
theorem sortE_at : SortsAt Try.prog 52 53 (fun x => [eV x]) 1 cmpE := by
  intro blk cap d w hH hb hl
  have := Any.slices_SortFunc Try.sortCpx eV (fun _ => rfl) cmpE swoE 53 #[] blk 0 cap d w (enters_of Try.func53 (by kernel_rfl) rfl) (fun m os dk hs x y => cmpE_any x y _) (holdsK_one eV hH) hb hl
  refine this.mono ?_
  rintro e w' ⟨he, d', n, os, h1, h2, h3⟩
  exact ⟨he, d', n, os, h1, h2, by rw [sortWorldK_one]; exact h3⟩
theorem sortE_none : SortsNone Try.prog 52 53 := fun w =>
  AnyF.slices_SortFunc_none (Try.laysSlF06_f52) none 0 _ w
end Go.Proofs.Ytaeefaehpfjmlaa
