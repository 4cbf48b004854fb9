/-
  THE WALK of acl.compare.
-/
import Derived.Test.YtmchdjpgceiloaaDoorAGood
import Derived.Test.YtmchdjpgceiloaaDoorShelf
import Derived.StillTailTactics
set_option linter.unusedSimpArgs false
set_option linter.unusedVariables false
namespace Go.Proofs.YtmchdjpgceiloaaDoor
open Go.RowKit AclSpec

theorem compareInt_eq (x y : Int) : Lib.compareInt x y = cmpI x y := rfl

set_option maxRecDepth 100000 in
set_option maxHeartbeats 400000 in
theorem compare_any (a b : Ace) (w : World) :
    Calls Tryd.prog 20 #[.agg #[.int .i64 a.kind, .int .i64 a.id, .int .i64 a.perm], .agg #[.int .i64 b.kind, .int .i64 b.id, .int .i64 b.perm]] w fun e w' => e = .returned (.int .i64 (cmpA a b)) ∧ Grw w w' := by
  go_enter Tryd.func20, Tryd.ntmps20
  go_wp2_with fail
  refine wp_region_still_tail 10 (by kernel_rfl) (by kernel_rfl) ?_
  change wpStill _ _ (World.drew _) (fun a' => wpList _ _ _ _ a' (World.drew _)) _ _
  simp only [List.take_succ_cons, List.take_zero, List.drop_succ_cons, List.drop_zero]
  repeat still_step
  still_call (Tryd.cmp_Compare_int _ _ _)
  repeat still_step
  still_call (Tryd.cmp_Compare_int _ _ _)
  refine wpStill_nil ?_
  rw [compareInt_eq, compareInt_eq]
  go_wp2_with fail
  refine (or_any _ (cmpI a.kind b.kind) (cmpI a.id b.id) _ (by go_simp) (by go_simp)).mono ?_
  rintro e w1 ⟨rfl, rfl⟩
  go_wp2_with fail
  go_ret
  exact ⟨rfl, (((Grw.refl w).alloc _).alloc _ |>.alloc _).drew⟩
end Go.Proofs.YtmchdjpgceiloaaDoor
