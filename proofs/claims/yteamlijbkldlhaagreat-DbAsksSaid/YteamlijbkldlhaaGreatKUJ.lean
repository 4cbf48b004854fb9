import Derived.Test.YteamlijbkldlhaaGreatKUF
import Derived.Test.YteamlijbkldlhaaGreatRBare
import Derived.Test.YteamlijbkldlhaaGreatKNF
section
set_option linter.unusedSimpArgs false
set_option linter.unusedVariables false
namespace Go.Proofs.YteamlijbkldlhaaGreat
open Go.RowKit Go.Proofs AclSpec MetaSpec NodeSpec RecSpec PathSpec

end Go.Proofs.YteamlijbkldlhaaGreat
end
section
set_option linter.unusedSimpArgs false
set_option linter.unusedVariables false
namespace Go.Proofs.YteamlijbkldlhaaGreat
open Go.RowKit Go.Proofs AclSpec MetaSpec NodeSpec RecSpec PathSpec

set_option maxRecDepth 100000 in
theorem rfew_L (r : Rec) (hl : okLen r.node) : LCalls Tryz.prog 41 [.agg (recL r)] (boolL (decide (r.path.length ≤ 120) && fewN r.node)) := by
  have cf := nfew_L r.node hl
  simp only [nodeL,attrsL,acesL,piecesL,rowL] at cf
  refine LCalls.of (fun _ => false) Tryz.func41 rfl (by decide) Tryz.ntmps41 Tryz.results41 (by simp) ?_
  intro w0 S0 vs hgl hwf0 hsz hvs;clear hsz hvs hwf0 hgl
  refine Yg1 (fa5 @recL.eq_1 @nodeL.eq_1 @piecesL.eq_1 @attrsL.eq_1 @acesL.eq_1) ?_
  by_cases h : r.path.length ≤ 120
  · have hi : ((r.path.length : Int) ≤ 120) = True := eq_true (by omega)
    refine Yr1 @hi ?_;intro K hK
    refine Yc0 (cf) ?_
    refine hK _ ?_;clear hK K;try refine Wh0 ?_
    refine Ye0 ?_;try (with_reducible exact trivial)
    simp [h]
  · have hi : ¬ ((r.path.length : Int) ≤ 120) := by omega
    refine Yr1 @hi ?_;intro K hK
    refine hK _ ?_;clear hK K;try refine Wh0 ?_
    refine Ye0 ?_;try (with_reducible exact trivial)
    simp [h]
end Go.Proofs.YteamlijbkldlhaaGreat
end
section
set_option linter.unusedSimpArgs false
set_option linter.unusedVariables false
namespace Go.Proofs.YteamlijbkldlhaaGreat
open Go.RowKit Go.Proofs AclSpec MetaSpec NodeSpec RecSpec PathSpec

theorem recL_len (r : Rec) : (recL r).length = 15 := rfl
theorem drop_rec {l : List Rec} {i : Nat} {r : Rec} (h : l[i]? = some r) : (l.flatMap recL).drop (i * 15) = recL r ++ (l.drop (i + 1)).flatMap recL := drop_flat recL 15 recL_len h
theorem recL_strip (l : List Rec) : (l.flatMap recL).map strip1 = l.flatMap recL := strip1_enc (fun _ => rfl) l
theorem recL_one (l : List Rec) : (l.flatMap recL).all oneL = true := by
  rw [List.all_eq_true]
  intro x hx
  obtain ⟨a,_,ha⟩ := List.mem_flatMap.1 hx
  simp only [recL,nodeL,attrsL,acesL,piecesL,rowL,List.cons_append,List.nil_append,List.mem_cons,List.not_mem_nil,or_false] at ha
  rcases ha with h | h | h | h | h | h | h | h | h | h | h | h | h | h | h <;> (rw [h];rfl)
theorem recL_flen (l : List Rec) : (l.flatMap recL).length = l.length * 15 := len_flat recL 15 recL_len l
end Go.Proofs.YteamlijbkldlhaaGreat
end
