import Derived.Test.YtpficpldemickaaASpec
set_option linter.unusedSimpArgs false
set_option linter.unusedVariables false
namespace Go.Proofs.Ytpficpldemickaa.AclSpec

theorem cmpA_lt (a b : Ace) : cmpA a b < 0 ↔ (a.kind < b.kind ∨ a.kind = b.kind ∧ a.id < b.id) := by
  unfold cmpA orI cmpI
  by_cases h1 : a.kind < b.kind
  · simp [h1]
  · by_cases h2 : b.kind < a.kind
    · simp [h1,h2];omega
    · have : a.kind = b.kind := by omega
      simp [this]
      by_cases h3 : a.id < b.id
      · simp [h3]
      · by_cases h4 : b.id < a.id <;> simp [h3,h4]
def key (a : Ace) : Int × Int := (a.kind,a.id)
end Go.Proofs.Ytpficpldemickaa.AclSpec
