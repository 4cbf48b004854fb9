import Derived.Test.YteamlijbkldlhaaGreatKU4
import Derived.Test.YteamlijbkldlhaaGreatKNF
section
set_option linter.unusedSimpArgs false
set_option linter.unusedVariables false
namespace Go.Proofs.YteamlijbkldlhaaGreat
open Go.RowKit Go.Proofs AclSpec MetaSpec NodeSpec RecSpec

def recL (r : Rec) : List LV := strL r.path :: intL r.lead :: (nodeL r.node ++ [intL r.pos])
theorem okLen_zero : okLen zeroN := by unfold okLen zeroN;refine ⟨?_,?_,?_⟩ <;> exact Nat.zero_le _
set_option maxRecDepth 100000 in
theorem rzero_L (n : FNode) (h : okLen n) : LCalls Tryz.prog 79 [.agg (nodeL n)] (boolL (decide (n = zeroN))) := by
  have c := nsame_L n zeroN h okLen_zero
  simp only [nodeL,attrsL,acesL,piecesL,rowL,zeroN,List.flatMap_nil,List.length_nil] at c
  refine LCalls.of (fun _ => false) Tryz.func79 rfl (by decide) Tryz.ntmps79 Tryz.results79 (by simp) ?_
  intro w0 S0 vs hgl hwf0 hsz hvs;clear hsz hvs hwf0 hgl
  refine Yg1 (fa4 @nodeL.eq_1 @piecesL.eq_1 @attrsL.eq_1 @acesL.eq_1) ?_
  refine Yr0 ?_;intro K hK
  refine Yc0 (c) ?_
  refine hK _ ?_;clear hK K;try refine Wh0 ?_
  refine Ye0 ?_;try (with_reducible exact trivial)
  rfl
set_option maxRecDepth 100000 in
theorem recsame_L (a b : Rec) (ha : okLen a.node) (hb : okLen b.node) : LCalls Tryz.prog 71 [.agg (recL a),.agg (recL b)] (boolL (decide (a = b))) := by
  have c := nsame_L a.node b.node ha hb
  simp only [nodeL,attrsL,acesL,piecesL,rowL] at c
  have hR : decide (a = b) = (decide (a.path = b.path) && decide (a.lead = b.lead) && decide (a.pos = b.pos) && decide (a.node = b.node)) := by
    obtain ⟨p,l,n,q⟩ := a
    obtain ⟨p2,l2,n2,q2⟩ := b
    rw [Bool.eq_iff_iff]
    simp only [Rec.mk.injEq,decide_eq_true_eq,Bool.and_eq_true]
    exact ⟨fun ⟨a,b,c,d⟩ => ⟨⟨⟨a,b⟩,d⟩,c⟩,fun ⟨⟨⟨a,b⟩,d⟩,c⟩ => ⟨a,b,c,d⟩⟩
  refine LCalls.of (fun _ => false) Tryz.func71 rfl (by decide) Tryz.ntmps71 Tryz.results71 (by simp) ?_
  intro w0 S0 vs hgl hwf0 hsz hvs;clear hsz hvs hwf0 hgl
  rw [hR]
  refine Yg1 (fa5 @recL.eq_1 @nodeL.eq_1 @piecesL.eq_1 @attrsL.eq_1 @acesL.eq_1) ?_
  by_cases h1 : a.path = b.path
  rotate_left
  · refine Yr1 @h1 ?_;intro K hK
    refine hK _ ?_;clear hK K;try refine Wh0 ?_
    refine Ye0 ?_;try (with_reducible exact trivial)
    simp [h1]
  by_cases h2 : a.lead = b.lead
  rotate_left
  · refine Yr1 (fa2 @h1 @h2) ?_;intro K hK
    refine hK _ ?_;clear hK K;try refine Wh0 ?_
    refine Ye0 ?_;try (with_reducible exact trivial)
    simp [h1,h2]
  by_cases h3 : a.pos = b.pos
  rotate_left
  · refine Yr1 (fa3 @h1 @h2 @h3) ?_;intro K hK
    refine hK _ ?_;clear hK K;try refine Wh0 ?_
    refine Ye0 ?_;try (with_reducible exact trivial)
    simp [h1,h2,h3]
  refine Yr1 (fa3 @h1 @h2 @h3) ?_;intro K hK
  refine Yc0 (c) ?_
  refine hK _ ?_;clear hK K;try refine Wh0 ?_
  refine Ye0 ?_;try (with_reducible exact trivial)
  simp [h1,h2,h3]
end Go.Proofs.YteamlijbkldlhaaGreat
end
section
set_option linter.unusedSimpArgs false
set_option linter.unusedVariables false
namespace Go.Proofs.YteamlijbkldlhaaGreat
open Go.RowKit Go.Proofs AclSpec MetaSpec NodeSpec RecSpec PathSpec

set_option maxRecDepth 100000 in
theorem rmay_of (r : Rec) (hp : r.path.length < 1000000) (ho : okLen r.node) (hf : ∀ n,fullN r.node = some n → small n)
    (cf : LCalls Tryz.prog 80 [.agg (nodeL r.node)] (.tup [.agg (nodeL ((fullN r.node).getD zeroN)),boolL (fullN r.node).isSome])) :
    LCalls Tryz.prog 63 [.agg (recL r)] (boolL (mayRec r)) := by
  have cp := pmay_L r.path hp
  have cz := rzero_L r.node ho
  simp only [nodeL,attrsL,acesL,piecesL,rowL] at cz
  refine LCalls.of (fun _ => false) Tryz.func63 rfl (by decide) Tryz.ntmps63 Tryz.results63 (by simp) ?_
  intro w0 S0 vs hgl hwf0 hsz hvs;clear hsz hvs hwf0 hgl
  generalize hR : mayRec r = R
  unfold mayRec at hR
  refine Yg1 (fa5 @recL.eq_1 @nodeL.eq_1 @piecesL.eq_1 @attrsL.eq_1 @acesL.eq_1) ?_
  refine LW_slim (fun st => st.env 1 = .ptr 1 0 ∧ st.box 1 = some (recL r) ∧ st.mode = fun _ => false) ⟨Yq0,(Yq1 (fa5 @recL.eq_1 @nodeL.eq_1 @piecesL.eq_1 @attrsL.eq_1 @acesL.eq_1)),Yq0⟩ ?_
  rintro st ⟨e1,b1,hmd⟩
  simp only [recL,nodeL,attrsL,acesL,piecesL,rowL,List.cons_append,List.nil_append] at b1
  cases hm : mayB r.path
  · rw [hm] at cp
    refine Yr1 (fa2 @e1 @b1) ?_;intro K hK
    refine Yc1 (cp) (fa2 @e1 @b1) ?_
    refine hK _ ?_;clear hK K;try refine Wh0 ?_
    refine Yt0 ?_
    refine Yg0 ?_
    refine Ye0 ?_;try (with_reducible exact trivial)
    rw [← hR];simp [hm]
  rw [hm] at cp hR
  by_cases c1 : r.lead < 0
  · refine Yr1 (fa3 @e1 @b1 @c1) ?_;intro K hK
    refine Yc1 (cp) (fa3 @e1 @b1 @c1) ?_
    refine hK _ ?_;clear hK K;try refine Wh0 ?_
    refine Yt0 ?_
    refine Yg0 ?_
    refine Ye0 ?_;try (with_reducible exact trivial)
    rw [← hR];simp [hm,c1]
  by_cases c2 : 100 ≤ r.lead
  · refine Yr1 (fa4 @e1 @b1 @c1 @c2) ?_;intro K hK
    refine Yc1 (cp) (fa4 @e1 @b1 @c1 @c2) ?_
    refine hK _ ?_;clear hK K;try refine Wh0 ?_
    refine Yt0 ?_
    refine Yg0 ?_
    refine Ye0 ?_;try (with_reducible exact trivial)
    rw [← hR];simp [hm,c1,c2]
  by_cases c3 : r.pos < 0
  · refine Yr1 (fa5 @e1 @b1 @c1 @c2 @c3) ?_;intro K hK
    refine Yc1 (cp) (fa5 @e1 @b1 @c1 @c2 @c3) ?_
    refine hK _ ?_;clear hK K;try refine Wh0 ?_
    refine Yt0 ?_
    refine Yg0 ?_
    refine Ye0 ?_;try (with_reducible exact trivial)
    rw [← hR];simp [hm,c1,c2,c3]
  by_cases c4 : 400000 < r.pos
  · refine Yr1 (fa6 @e1 @b1 @c1 @c2 @c3 @c4) ?_;intro K hK
    refine Yc1 (cp) (fa6 @e1 @b1 @c1 @c2 @c3 @c4) ?_
    refine hK _ ?_;clear hK K;try refine Wh0 ?_
    refine Yt0 ?_
    refine Yg0 ?_
    refine Ye0 ?_;try (with_reducible exact trivial)
    rw [← hR];simp [hm,c1,c2,c3,c4]
  simp only [c1,c2,c3,c4,decide_false,Bool.not_false,Bool.and_true,Bool.true_and] at hR
  refine Yr1 (fa6 @e1 @b1 @c1 @c2 @c3 @c4) ?_;intro K hK
  refine Yc1 (cp) (fa6 @e1 @b1 @c1 @c2 @c3 @c4) ?_
  refine hK _ ?_;clear hK K;try refine Wh0 ?_
  refine Yf0 ?_
  refine LW_slim (fun st => st.env 1 = .ptr 1 0 ∧ st.box 1 = some (recL r) ∧ st.mode = fun _ => false) ⟨(Yq1 @e1),(Yq1 (fa7 @b1 @recL.eq_1 @nodeL.eq_1 @piecesL.eq_1 @attrsL.eq_1 @acesL.eq_1 @rowL.eq_1)),(Yq1 @hmd)⟩ ?_
  clear e1 b1 hmd st
  rintro st ⟨e1,b1,hmd⟩
  simp only [recL,nodeL,attrsL,acesL,piecesL,rowL,List.cons_append,List.nil_append] at b1
  by_cases hz : r.node = zeroN
  · rw [decide_eq_true hz] at cz
    rw [if_pos hz] at hR
    refine Yr1 (fa2 @e1 @b1) ?_;intro K hK
    refine Yc1 (cz) (fa2 @e1 @b1) ?_
    refine hK _ ?_;clear hK K;try refine Wh0 ?_
    refine Yt0 ?_
    refine Yg1 (fa2 @e1 @b1) ?_
    refine Ye0 ?_;try (with_reducible exact trivial)
    rw [← hR]
  rw [decide_eq_false hz] at cz
  rw [if_neg hz] at hR
  refine Yr1 (fa2 @e1 @b1) ?_;intro K hK
  refine Yc1 (cz) (fa2 @e1 @b1) ?_
  refine hK _ ?_;clear hK K;try refine Wh0 ?_
  refine Yf0 ?_
  cases hfn : fullN r.node with
  | none =>
    rw [hfn] at cf hR
    simp only [nodeL,attrsL,acesL,piecesL,rowL,Option.getD_none,Option.isSome_none] at cf
    refine Yr1 (fa2 @e1 @b1) ?_;intro K hK
    refine Yc1 (cf) (fa2 @e1 @b1) ?_
    refine hK _ ?_;clear hK K;try refine Wh0 ?_
    refine Yr1 (fa2 @e1 @b1) ?_;intro K hK
    refine hK _ ?_;clear hK K;try refine Wh0 ?_
    refine Ye0 ?_;try (with_reducible exact trivial)
    rw [← hR]
  | some n =>
    have cn := nmay_L n (hf n hfn)
    rw [hfn] at cf hR
    simp only [nodeL,attrsL,acesL,piecesL,rowL,Option.getD_some,Option.isSome_some] at cf cn
    refine Yr1 (fa2 @e1 @b1) ?_;intro K hK
    refine Yc1 (cf) (fa2 @e1 @b1) ?_
    refine hK _ ?_;clear hK K;try refine Wh0 ?_
    replace hR : mayNR n r.pos = R := hR
    unfold mayNR at hR
    refine LW_slim (fun st => st.env 1 = .ptr 1 0 ∧ st.box 1 = some (recL r) ∧ st.env 3 = .ptr 3 0 ∧ st.box 3 = some (nodeL n) ∧ st.env 4 = boolL true ∧ st.mode = fun _ => false) ⟨(Yq1 @e1),(Yq1 (fa7 @b1 @recL.eq_1 @nodeL.eq_1 @piecesL.eq_1 @attrsL.eq_1 @acesL.eq_1 @rowL.eq_1)),Yq0,(Yq1 (fa5 @nodeL.eq_1 @piecesL.eq_1 @attrsL.eq_1 @acesL.eq_1 @rowL.eq_1)),Yq0,(Yq1 @hmd)⟩ ?_
    clear e1 b1 hmd st
    rintro st ⟨e1,b1,e3,b3,e4,hmd⟩
    simp only [recL,nodeL,attrsL,acesL,piecesL,rowL,List.cons_append,List.nil_append] at b1 b3
    cases hmn : mayN n
    · rw [hmn] at cn
      refine Yr1 (fa5 @e1 @b1 @e3 @b3 @e4) ?_;intro K hK
      refine Yc1 (cn) (fa5 @e1 @b1 @e3 @b3 @e4) ?_
      refine hK _ ?_;clear hK K;try refine Wh0 ?_
      refine Ye0 ?_;try (with_reducible exact trivial)
      rw [← hR];simp [hmn]
    rw [hmn] at cn
    by_cases h0 : r.pos = 0
    · refine Yr1 (fa6 @e1 @b1 @e3 @b3 @e4 @h0) ?_;intro K hK
      refine Yc1 (cn) (fa6 @e1 @b1 @e3 @b3 @e4 @h0) ?_
      refine hK _ ?_;clear hK K;try refine Wh0 ?_
      refine Ye0 ?_;try (with_reducible exact trivial)
      rw [← hR];simp [hmn,h0]
    by_cases hk : n.kind = 2
    rotate_left
    · refine Yr1 (fa7 @e1 @b1 @e3 @b3 @e4 @h0 @hk) ?_;intro K hK
      refine Yc1 (cn) (fa7 @e1 @b1 @e3 @b3 @e4 @h0 @hk) ?_
      refine hK _ ?_;clear hK K;try refine Wh0 ?_
      refine Ye0 ?_;try (with_reducible exact trivial)
      rw [← hR];simp [hmn,h0,hk]
    by_cases hd : 0 < n.dat.length
    · have hdi : ((0 : Int) < (n.dat.length : Int)) = True := eq_true (by omega)
      have hne : n.dat ≠ [] := by intro h;rw [h] at hd;cases hd
      simp only [hk] at cn b3
      refine Yr1 (fa7 @e1 @b1 @e3 @b3 @e4 @h0 @hdi) ?_;intro K hK
      refine Yc1 (cn) (fa7 @e1 @b1 @e3 @b3 @e4 @h0 @hdi) ?_
      refine hK _ ?_;clear hK K;try refine Wh0 ?_
      refine Ye0 ?_;try (with_reducible exact trivial)
      rw [← hR];simp [hmn,h0,hk,hne]
    · have hdi : ¬ ((0 : Int) < (n.dat.length : Int)) := by omega
      have hne : n.dat = [] := List.length_eq_zero_iff.1 (by omega)
      simp only [hk] at cn b3
      refine Yr1 (fa7 @e1 @b1 @e3 @b3 @e4 @h0 @hdi) ?_;intro K hK
      refine Yc1 (cn) (fa7 @e1 @b1 @e3 @b3 @e4 @h0 @hdi) ?_
      refine hK _ ?_;clear hK K;try refine Wh0 ?_
      refine Ye0 ?_;try (with_reducible exact trivial)
      rw [← hR];simp [hmn,h0,hk,hne]
end Go.Proofs.YteamlijbkldlhaaGreat
end
section
set_option linter.unusedSimpArgs false
set_option linter.unusedVariables false
namespace Go.Proofs.YteamlijbkldlhaaGreat
open Go.RowKit Go.Proofs RecSpec

end Go.Proofs.YteamlijbkldlhaaGreat
end
section
set_option linter.unusedSimpArgs false
set_option linter.unusedVariables false
namespace Go.Proofs.YteamlijbkldlhaaGreat
open Go.RowKit Go.Proofs AclSpec MetaSpec NodeSpec RecSpec

end Go.Proofs.YteamlijbkldlhaaGreat
end
