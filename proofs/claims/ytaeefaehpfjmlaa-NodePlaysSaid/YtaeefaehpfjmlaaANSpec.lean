import Derived.Test.YtaeefaehpfjmlaaASpec
set_option linter.unusedSimpArgs false
set_option linter.unusedVariables false
namespace Go.Proofs.Ytaeefaehpfjmlaa.AclSpec

def key (a : Ace) : Int × Int := (a.kind, a.id)
end Go.Proofs.Ytaeefaehpfjmlaa.AclSpec
