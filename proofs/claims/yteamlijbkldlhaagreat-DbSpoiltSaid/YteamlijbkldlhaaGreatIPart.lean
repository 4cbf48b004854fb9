import Derived.Test.YteamlijbkldlhaaGreatISpec
import Derived.Test.YteamlijbkldlhaaGreatTNorm
section
set_option linter.unusedSimpArgs false
set_option linter.unusedVariables false
namespace Go.Proofs.YteamlijbkldlhaaGreat.TreeSpec
open AclSpec MetaSpec NodeSpec PathSpec

theorem Valid.rise {t : FTree} (h : Valid t) : Rise t.ents := by
  obtain ⟨x,r,h1,_,h3,_⟩ := h.head
  rw [h1];exact h3
theorem mayT_ord {t : FTree} (h : mayT t = true) : ordG t.nodes none 0 t.ents = true := by
  unfold mayT at h
  simp only [Bool.and_eq_true] at h
  exact h.1.1.2
end Go.Proofs.YteamlijbkldlhaaGreat.TreeSpec
end
section
set_option linter.unusedSimpArgs false
set_option linter.unusedVariables false
namespace Go.Proofs.YteamlijbkldlhaaGreat.TreeSpec
open AclSpec MetaSpec NodeSpec PathSpec

theorem ordG_may {ns : List FNode} : ∀ {l : List TEnt} {p : Option (List UInt8)} {used : Nat},ordG ns p used l = true → ∀ k : Nat,used ≤ k → k < ns.length → mayAt ns k = true
  | [],_,used,h,k,h1,h2 => by
    unfold ordG at h
    have := of_decide_eq_true h
    omega
  | e :: l,p,used,h,k,h1,h2 => by
    unfold ordG at h
    rw [Bool.and_eq_true] at h
    have h3 := h.1
    rw [entOk_head] at h3
    simp only [Bool.and_eq_true,Bool.or_eq_true,Bool.not_eq_true',decide_eq_false_iff_not] at h3
    by_cases c : k = used ∧ e.node = used
    · rcases h3.2 with d | d
      · exact absurd c.2 d
      · rw [c.1];exact d
    · refine ordG_may h.2 k ?_ h2
      unfold nextU
      split
      · rename_i d
        have : k ≠ used := fun x => c ⟨x,d⟩
        omega
      · exact h1
theorem get_may {t : FTree} (h : mayT t = true) {i : Int} (h0 : 0 ≤ i) (h1 : i < t.nodes.length) : mayN (nodeG t.nodes i) = true := by
  have := ordG_may (mayT_ord h) i.toNat (by omega) (by omega)
  have hl : i.toNat < t.nodes.length := by omega
  rw [mayAt_get (List.getElem?_eq_getElem hl)] at this
  unfold nodeG
  rw [List.getElem?_eq_getElem hl]
  exact this
end Go.Proofs.YteamlijbkldlhaaGreat.TreeSpec
end
