import Derived.Test.YtpficpldemickaaRows
import Derived.Test.YtpficpldemickaaOpen
import Derived.Shelf.Vars
set_option linter.unusedSimpArgs false
set_option linter.unusedVariables false
namespace Go.Proofs.Ytpficpldemickaa
open Go.ChangeShapes Go.WideShapes Go.ChangeAt Go.RowKit

theorem own : ownKnob Try.prog.godebug = none := by kernel_rfl
theorem laidOut : laidOutB Try.prog = true := by kernel_rfl
theorem law_post {H : Type} {enc : TypeId × Value → H} {f : Func} {s : ChangeSpec} {W W' : World} {args : Array Value} {ds gs : List (DataW H)} {before : List MemPlace}
    (hvars : s.vars = []) (hs : s.fn H (ds ++ gs) = { results := [.lit (.bool true)],args := ds }) (hr : f.resultTypes = #[4])
    (ht : ∀ t ∈ f.params.toList,Try.prog.readableRec t = true ∧ t < Try.prog.types.size)
    (hW : DataW.Whole enc Try.prog f.params.toList s.vars false W args.toList ds gs before) (hg : G W W') :
    s.post enc Try.prog f false true false false W args (.bool true) W' := by
  have hlt := hW.lt
  obtain ⟨p,q,hA,hV,e,hfz,hnd⟩ := id hW
  rw [hvars] at hV
  obtain ⟨rfl,rfl⟩ := trodVars_none hV
  simp only [List.append_nil] at e
  subst e
  refine ⟨ds,[],before,[],before,[],hW,?_,?_,?_,Below.frame hg _,fun h => by cases h⟩
  · rw [hs,hr]
    exact trodAll_mk1 (shut_bool Try.underlying4 true)
  · rw [hs]
    exact trodAll_stays laidOut hg _ _ _ _ ht hlt hA
  · rw [hs,hvars]
    rfl
theorem glob_shaped {W : World} (h : W.ShapedOpen Try.prog) : Glob Try.prog W := ⟨fun h => absurd h (by
  rw [show (Try.prog.globalNamed "internal/strconv.uint64pow10").isSome = false by kernel_rfl];exact Bool.false_ne_true),fun g hg => by
  rw [show Try.prog.globalNamed "internal/bytealg.MaxLen" = some 0 by kernel_rfl] at hg
  cases hg
  exact cell_of_shapedOpen_int h (t := 3) (zero := #[.int .i64 0]) (of_decide_eq_true (by kernel_rfl)) (by kernel_rfl) rfl (by kernel_rfl) (by kernel_rfl) Try.underlying3⟩
end Go.Proofs.Ytpficpldemickaa
