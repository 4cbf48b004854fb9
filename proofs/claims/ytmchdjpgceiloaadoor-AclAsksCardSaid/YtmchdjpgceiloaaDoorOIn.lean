/-
  WHAT COMES IN: the bounds of numbers.
-/
import Derived.Test.YtmchdjpgceiloaaDoorOAce
import Derived.Test.YtmchdjpgceiloaaDoorKShow
set_option linter.unusedSimpArgs false
set_option linter.unusedVariables false
namespace Go.Proofs.YtmchdjpgceiloaaDoor
open Go.RowKit AclSpec
theorem inI_of {n : Int} (h : inW n) : inI n := by
  unfold inW at h
  simp only [Lit.wf, Bool.and_eq_true, decide_eq_true_eq] at h
  exact h
end Go.Proofs.YtmchdjpgceiloaaDoor
