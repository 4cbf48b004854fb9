import Derived.Test.YtpficpldemickaaTSpec
set_option linter.unusedSimpArgs false
set_option linter.unusedVariables false
namespace Go.Proofs.Ytpficpldemickaa.TreeSpec
open AclSpec MetaSpec NodeSpec PathSpec

theorem lessL_nil (x : List (List UInt8)) : lessL x [] = false := by cases x <;> rfl
theorem less_nil (p : List UInt8) : lessB p [] = false := by
  unfold lessB
  have : partsB [] = [] := rfl
  rw [this];exact lessL_nil _
structure UseInv (ns : List FNode) (used : Nat) (uses : List Int) : Prop where
  len : uses.length = ns.length
  le : used ≤ ns.length
  lo : ∀ (k : Nat) (u : Int),uses[k]? = some u → k < used → 1 ≤ u
  hi : ∀ (k : Nat) (u : Int),uses[k]? = some u → used ≤ k → u = 0
theorem mayAt_of {ns : List FNode} {i : Nat} {n : FNode} (h : ns[i]? = some n) : mayAt ns i = mayN n := by unfold mayAt;rw [Int.toNat_natCast,h];rfl
theorem kindAt_of {ns : List FNode} {i : Nat} {n : FNode} (h : ns[i]? = some n) : kindAt ns i = n.kind := by unfold kindAt;rw [Int.toNat_natCast,h];rfl
theorem ordG_range {ns : List FNode} : ∀ {r : List TEnt} {prev : Option (List UInt8)} {used : Nat},ordG ns prev used r = true → ∀ e ∈ r,0 ≤ e.node ∧ e.node < ns.length
  | [],_,_,_,e,he => by cases he
  | x :: r,prev,used,h,e,he => by
    unfold ordG entOk at h
    simp only [Bool.and_eq_true,Bool.not_eq_true',decide_eq_false_iff_not] at h
    rcases List.mem_cons.1 he with rfl | he
    · obtain ⟨⟨⟨⟨⟨⟨⟨_,_⟩,a⟩,_⟩,b⟩,_⟩,_⟩,_⟩ := h
      omega
    · exact ordG_range h.2 e he
theorem ordG_paths {ns : List FNode} : ∀ {r : List TEnt} {p : List UInt8} {used : Nat},ordG ns (some p) used r = true → ∀ e ∈ r,e.path ≠ [] ∧ mayB e.path = true
  | [],_,_,_,e,he => by cases he
  | x :: r,p,used,h,e,he => by
    unfold ordG entOk at h
    simp only [Bool.and_eq_true] at h
    rcases List.mem_cons.1 he with rfl | he
    · obtain ⟨⟨⟨⟨⟨⟨⟨a,b⟩,_⟩,_⟩,_⟩,_⟩,_⟩,_⟩ := h
      refine ⟨fun hc => ?_,a⟩
      rw [hc,less_nil] at b;cases b
    · exact ordG_paths h.2 e he
end Go.Proofs.Ytpficpldemickaa.TreeSpec
