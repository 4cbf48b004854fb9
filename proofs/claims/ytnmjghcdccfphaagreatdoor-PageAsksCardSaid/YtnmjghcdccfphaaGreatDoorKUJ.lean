import Derived.Test.YtnmjghcdccfphaaGreatDoorKUF
import Derived.Test.YtnmjghcdccfphaaGreatDoorRBare
import Derived.Test.YtnmjghcdccfphaaGreatDoorKNF
section
set_option linter.unusedSimpArgs false
set_option linter.unusedVariables false
namespace Go.Proofs.YtnmjghcdccfphaaGreatDoor
open Go.RowKit Go.Proofs AclSpec MetaSpec NodeSpec RecSpec PathSpec

end Go.Proofs.YtnmjghcdccfphaaGreatDoor
end
section
set_option linter.unusedSimpArgs false
set_option linter.unusedVariables false
namespace Go.Proofs.YtnmjghcdccfphaaGreatDoor
open Go.RowKit Go.Proofs AclSpec MetaSpec NodeSpec RecSpec PathSpec

theorem putRec_len {r : Rec} (hm : mayRec r = true) (ht : r.node.mt.time < 9223372036854775808) : (putRec r).length ≤ 6000 := by
 obtain ⟨hpl,_,hok⟩ := mayRec_ok hm ht
 have h1 := putT_len r.path (by omega)
 have h2 := putI_len r.lead
 unfold putRec putN
 rw [List.length_append,List.length_append]
 split
 ·simp only [List.length_singleton];omega
 ·rename_i hz
  rcases hok with ⟨c,_⟩ | ⟨k1,k6,hM,hB⟩
  ·exact absurd c hz
  have h3 := restR_len hB
  have h4 := flat_le putAt 254 r.node.mt.attrs fun a ha => putAt_len (hM.attr a ha)
  have h5 := flat_le putAc 51 r.node.mt.acl fun a _ => putAc_len a
  have h6 := hM.attrs
  have h7 := hM.acl
  have h8 := putI_len r.node.mt.mode
  have h9 := putI_len r.node.mt.uid
  have h10 := putI_len r.node.mt.gid
  have h11 := putI_len r.node.mt.time
  have h12 := putU_u64 (n := r.node.mt.attrs.length) (by omega)
  have h13 := putU_u64 (n := r.node.mt.acl.length) (by omega)
  unfold putM
  simp only [List.length_cons,List.length_append]
  omega
def tN : FNode := ⟨2,⟨0,0,0,0,[],[]⟩,5,[⟨1,[97,98,99]⟩],[],0,0⟩
def tB : FNode := ⟨2,⟨0,0,0,0,[],[]⟩,5,[⟨1,[51]⟩],[],0,0⟩
def tZ : Rec := ⟨[97],3,zeroN,0⟩
theorem tsmall {n : FNode} (h : n = tN ∨ n = tB ∨ n = zeroN) : small n := by
 rcases h with rfl | rfl | rfl <;> refine ⟨by decide,by decide,by decide,fun p hp => ?_⟩
 ·simp [tN] at hp;subst hp;decide
 ·simp [tB] at hp;subst hp;decide
 ·cases hp
set_option maxRecDepth 100000 in
theorem rfew_L (r : Rec) (hl : okLen r.node) : LCalls Tryz.prog 16 [.agg (recL r)] (boolL (decide (r.path.length ≤ 120) && fewN r.node)) := by
 have cf := nfew_L r.node hl
 simp only [nodeL,attrsL,acesL,piecesL,rowL] at cf
 refine LCalls.of (fun _ => false) Tryz.func16 rfl (by decide) Tryz.ntmps16 Tryz.results16 (by simp) ?_
 intro w0 S0 vs hgl hwf0 hsz hvs;clear hsz hvs hwf0 hgl
 refine Yg1 (fa5 @recL.eq_1 @nodeL.eq_1 @piecesL.eq_1 @attrsL.eq_1 @acesL.eq_1) ?_
 by_cases h : r.path.length ≤ 120
 ·have hi : ((r.path.length : Int) ≤ 120) = True := eq_true (by omega)
  refine Yr1 @hi ?_;intro K hK
  refine Yc0 (cf) ?_
  refine hK _ ?_;clear hK K;try refine Wh0 ?_
  refine Ye0 ?_;try (with_reducible exact trivial)
  simp [h]
 ·have hi : ¬ ((r.path.length : Int) ≤ 120) := by omega
  refine Yr1 @hi ?_;intro K hK
  refine hK _ ?_;clear hK K;try refine Wh0 ?_
  refine Ye0 ?_;try (with_reducible exact trivial)
  simp [h]
end Go.Proofs.YtnmjghcdccfphaaGreatDoor
end
section
set_option linter.unusedSimpArgs false
set_option linter.unusedVariables false
namespace Go.Proofs.YtnmjghcdccfphaaGreatDoor
open Go.RowKit Go.Proofs AclSpec MetaSpec NodeSpec RecSpec PathSpec

theorem recL_len (r : Rec) : (recL r).length = 15 := rfl
theorem drop_rec {l : List Rec} {i : Nat} {r : Rec} (h : l[i]? = some r) : (l.flatMap recL).drop (i * 15) = recL r ++ (l.drop (i + 1)).flatMap recL := drop_flat recL 15 recL_len h
theorem recL_strip (l : List Rec) : (l.flatMap recL).map strip1 = l.flatMap recL := strip1_enc (fun _ => rfl) l
theorem recL_flen (l : List Rec) : (l.flatMap recL).length = l.length * 15 := len_flat recL 15 recL_len l
def fewR (r : Rec) : Bool := decide (r.path.length ≤ 120) && fewN r.node
end Go.Proofs.YtnmjghcdccfphaaGreatDoor
end
