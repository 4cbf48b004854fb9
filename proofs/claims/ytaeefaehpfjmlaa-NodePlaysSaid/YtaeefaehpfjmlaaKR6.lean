import Derived.Test.YtaeefaehpfjmlaaKR1
import Derived.Test.YtaeefaehpfjmlaaKN5
import Derived.Test.YtaeefaehpfjmlaaKMB
import Derived.Test.YtaeefaehpfjmlaaNRef
import Derived.Test.YtaeefaehpfjmlaaKN6
section
set_option linter.unusedSimpArgs false
set_option linter.unusedVariables false
namespace Go.Proofs.Ytaeefaehpfjmlaa
open Go.RowKit Go.Proofs AclSpec MetaSpec NodeSpec GSort Flo Ext

end Go.Proofs.Ytaeefaehpfjmlaa
end
section
set_option linter.unusedSimpArgs false
set_option linter.unusedVariables false
namespace Go.Proofs.Ytaeefaehpfjmlaa
open Go.RowKit Go.Proofs AclSpec MetaSpec NodeSpec GSort Flo Ext

end Go.Proofs.Ytaeefaehpfjmlaa
end
section
set_option linter.unusedSimpArgs false
set_option linter.unusedVariables false
namespace Go.Proofs.Ytaeefaehpfjmlaa
open Go.RowKit Go.Proofs AclSpec MetaSpec NodeSpec GSort Flo Ext

end Go.Proofs.Ytaeefaehpfjmlaa
end
section
set_option linter.unusedSimpArgs false
set_option linter.unusedVariables false
namespace Go.Proofs.Ytaeefaehpfjmlaa
open Go.RowKit Go.Proofs AclSpec MetaSpec NodeSpec GSort Flo Ext

theorem LW_joinBB {P : Program} {N : Nat} {w0 : World} {S0 : Ent} {id id2 : Nat} {c : Code} {Q : Exit → LSt → Prop} {K : LSt → Prop} {st : LSt} (M : LSt → Prop) (h1 : LW P N w0 S0 c (inBlockL id (inBlockL id2 (thenL M Q))) st) (h2 : ∀ st', M st' → K st') : LW P N w0 S0 c (inBlockL id (inBlockL id2 (thenL K Q))) st :=
  h1.mono fun e st' h => by
    cases e with
    | exit i =>
      simp only [inBlockL] at h ⊢
      split
      · rename_i hi; rw [if_pos hi] at h; exact h2 _ h
      · rename_i hi
        rw [if_neg hi] at h
        split
        · rename_i hi2; rw [if_pos hi2] at h; exact h2 _ h
        · rename_i hi2; rw [if_neg hi2] at h; exact h
    | normal => exact h2 _ h
    | _ => exact h
end Go.Proofs.Ytaeefaehpfjmlaa
end
