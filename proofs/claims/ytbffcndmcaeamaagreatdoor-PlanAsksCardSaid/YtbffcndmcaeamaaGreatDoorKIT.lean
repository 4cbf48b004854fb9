import Derived.Test.YtbffcndmcaeamaaGreatDoorKTD
import Derived.Test.YtbffcndmcaeamaaGreatDoorKNF
import Derived.Test.YtbffcndmcaeamaaGreatDoorISame
section
set_option linter.unusedSimpArgs false
set_option linter.unusedVariables false
namespace Go.Proofs.YtbffcndmcaeamaaGreatDoor
open Go.RowKit Go.Proofs AclSpec MetaSpec NodeSpec PathSpec TreeSpec

end Go.Proofs.YtbffcndmcaeamaaGreatDoor
end
section
set_option linter.unusedSimpArgs false
set_option linter.unusedVariables false
namespace Go.Proofs.YtbffcndmcaeamaaGreatDoor
open Go.RowKit Go.Proofs AclSpec MetaSpec NodeSpec PathSpec TreeSpec

end Go.Proofs.YtbffcndmcaeamaaGreatDoor
end
section
set_option linter.unusedSimpArgs false
set_option linter.unusedVariables false
namespace Go.Proofs.YtbffcndmcaeamaaGreatDoor
open Go.RowKit Go.Proofs AclSpec MetaSpec NodeSpec PathSpec TreeSpec

end Go.Proofs.YtbffcndmcaeamaaGreatDoor
end
section
set_option linter.unusedSimpArgs false
set_option linter.unusedVariables false
namespace Go.Proofs.YtbffcndmcaeamaaGreatDoor.TreeSpec
open AclSpec MetaSpec NodeSpec PathSpec
end Go.Proofs.YtbffcndmcaeamaaGreatDoor.TreeSpec
end
section
set_option linter.unusedSimpArgs false
set_option linter.unusedVariables false
namespace Go.Proofs.YtbffcndmcaeamaaGreatDoor
open Go.RowKit Go.Proofs AclSpec MetaSpec NodeSpec PathSpec TreeSpec

def fewT (t : FTree) : Bool := t.ents.all (fun e => decide (e.path.length ≤ 120)) && (t.nodes.all fewN && (decide (t.ents.length ≤ 30) && decide (t.nodes.length ≤ 30)))
theorem fewT_small {t : FTree} (h : fewT t = true) : SmallT t := by
  unfold fewT at h
  simp only [Bool.and_eq_true,decide_eq_true_eq,List.all_eq_true] at h
  obtain ⟨h1,h2,h3,h4⟩ := h
  refine ⟨by omega,by omega,fun e he => ?_,fun n hn => ?_⟩
  · have := h1 e he;omega
  · obtain ⟨a,_,_,b,_⟩ := fewN_small (h2 n hn)
    exact ⟨a,by unfold maxLen;omega⟩
def okLenT (t : FTree) : Prop := t.ents.length ≤ maxLen ∧ t.nodes.length ≤ maxLen ∧ ∀ n ∈ t.nodes,okLen n

set_option maxRecDepth 100000 in
set_option maxHeartbeats 4000000 in
theorem tfew_L (t : FTree) (ho : okLenT t) : LCalls Tryz.prog 4 [.agg (treeL t)] (boolL (fewT t)) := by
  obtain ⟨hle,hln,hok⟩ := ho
  unfold maxLen at hle hln
  refine LCalls.of (fun _ => false) Tryz.func4 rfl (by decide) Tryz.ntmps4 Tryz.results4 (by simp) ?_
  intro w0 S0 vs hgl hwf0 hsz hvs;clear hsz hvs hwf0 hgl
  generalize hR : fewT t = R
  unfold fewT at hR
  generalize hp : (fun a : TEnt => decide (a.path.length ≤ 120)) = p at hR
  refine Yg1 @treeL.eq_1 ?_
  refine LW_joinB (fun st => st.env 1 = .ptr 1 0 ∧ st.box 1 = some (treeL t) ∧ t.ents.all p = true) ?_ ?_
  · refine LW_loop (fun k st => ∃ i : Nat,k + i = t.ents.length ∧ st.env 1 = .ptr 1 0 ∧ st.box 1 = some (treeL t) ∧ st.env 3 = intL i ∧ (t.ents.take i).all p = true) t.ents.length ⟨0,by omega,rfl,(Yq1 @treeL.eq_1),rfl,rfl⟩ ?_
    rintro k st ⟨i,hn,e1,b1,e3,hall⟩
    simp only [treeL] at b1
    by_cases hlt : i < t.ents.length
    rotate_left
    · refine Yg1 (fa4 @e1 @b1 @e3 @hlt) ?_
      refine Yf1 @hlt ?_
      refine LW_exit ?_;simp only [thenL,jumpsL,inBlockL,twoL,reduceIte,Nat.reduceEqDiff]
      rw [List.take_of_length_le (by omega)] at hall
      exact ⟨(Yq1 @e1),(Yq1 (fa2 @b1 @treeL.eq_1)),hall⟩
    obtain ⟨a,ha⟩ := get_of_lt hlt
    have hd := drop_tent ha
    have hw := w64s (n := i) (by omega)
    have hip : (0 : Int) ≤ (i : Int) := by omega
    have hs := all_take_succ (p := p) ha
    refine Yg1 (fa4 @e1 @b1 @e3 @hlt) ?_
    refine Yt1 @hlt ?_
    by_cases g1 : (120 : Int) < a.path.length
    · refine Yg1 (fa7 @e1 @b1 @e3 @hlt @hip @hd @g1) ?_
      refine Yt1 @g1 ?_
      refine Yg0 ?_
      refine Ye0 ?_;try (with_reducible exact trivial)
      have hpf : p a = false := by rw [← hp];simp only;rw [decide_eq_false (by omega)]
      rw [← hR,all_false_of ha hpf];rfl
    · refine Yg1 (fa7 @e1 @b1 @e3 @hlt @hip @hd @g1) ?_
      refine Yf1 @g1 ?_
      refine Yg1 (fa2 @e3 @hw) ?_
      have hpt : p a = true := by rw [← hp];simp only;rw [decide_eq_true (by omega)]
      exact ⟨k - 1,by omega,i + 1,by omega,(Yq1 @e1),(Yq1 (fa2 @b1 @treeL.eq_1)),Yq0,by rw [hs,hall,hpt];rfl⟩
  rintro st ⟨e1,b1,hall⟩
  rw [hall,Bool.true_and] at hR
  refine Yg1 @e1 ?_
  refine LW_joinB (fun st => st.env 1 = .ptr 1 0 ∧ st.box 1 = some (treeL t) ∧ t.nodes.all fewN = true) ?_ ?_
  · refine LW_loop (fun k st => ∃ i : Nat,k + i = t.nodes.length ∧ st.env 1 = .ptr 1 0 ∧ st.box 1 = some (treeL t) ∧ st.env 4 = intL i ∧ (t.nodes.take i).all fewN = true) t.nodes.length ⟨0,by omega,(Yq1 @e1),(Yq1 @b1),Yq0,rfl⟩ ?_
    clear e1 b1 st
    rintro k st ⟨i,hn,e1,b1,e4,hall2⟩
    simp only [treeL] at b1
    by_cases hlt : i < t.nodes.length
    rotate_left
    · refine Yg1 (fa4 @e1 @b1 @e4 @hlt) ?_
      refine Yf1 @hlt ?_
      refine LW_exit ?_;simp only [thenL,jumpsL,inBlockL,twoL,reduceIte,Nat.reduceEqDiff]
      rw [List.take_of_length_le (by omega)] at hall2
      exact ⟨(Yq1 @e1),(Yq1 (fa2 @b1 @treeL.eq_1)),hall2⟩
    obtain ⟨a,ha⟩ := get_of_lt hlt
    have hd := drop_node ha
    have cf := nfew_L a (hok a (List.mem_of_getElem? ha))
    simp only [nodeL,attrsL,acesL,piecesL,rowL,List.cons_append,List.nil_append] at cf hd
    have hw := w64s (n := i) (by omega)
    have hip : (0 : Int) ≤ (i : Int) := by omega
    have hs := all_take_succ (p := fewN) ha
    refine Yg1 (fa4 @e1 @b1 @e4 @hlt) ?_
    refine Yt1 @hlt ?_
    cases g1 : fewN a
    · rw [g1] at cf
      refine Yr1 (fa6 @e1 @b1 @e4 @hlt @hip @hd) ?_;intro K hK
      refine Yc0 (cf) ?_
      refine hK _ ?_;clear hK K;try refine Wh0 ?_
      refine Yt0 ?_
      refine Yg0 ?_
      refine Ye0 ?_;try (with_reducible exact trivial)
      rw [← hR,all_false_of ha g1];rfl
    · rw [g1] at cf
      refine Yr1 (fa6 @e1 @b1 @e4 @hlt @hip @hd) ?_;intro K hK
      refine Yc0 (cf) ?_
      refine hK _ ?_;clear hK K;try refine Wh0 ?_
      refine Yf0 ?_
      refine Yg1 (fa2 @e4 @hw) ?_
      exact ⟨k - 1,by omega,i + 1,by omega,(Yq1 @e1),(Yq1 (fa2 @b1 @treeL.eq_1)),Yq0,by rw [hs,hall2,g1];rfl⟩
  clear e1 b1 st
  rintro st ⟨e1,b1,hall2⟩
  simp only [treeL] at b1
  rw [hall2,Bool.true_and] at hR
  by_cases g1 : (t.ents.length : Int) ≤ 30
  · rw [decide_eq_true (by omega),Bool.true_and] at hR
    by_cases g2 : (t.nodes.length : Int) ≤ 30
    · rw [decide_eq_true (by omega)] at hR
      refine Yg1 (fa4 @e1 @b1 @g1 @g2) ?_
      refine Ye0 ?_;try (with_reducible exact trivial)
      exact hR
    · rw [decide_eq_false (by omega)] at hR
      refine Yg1 (fa4 @e1 @b1 @g1 @g2) ?_
      refine Ye0 ?_;try (with_reducible exact trivial)
      exact hR
  · rw [decide_eq_false (p := t.ents.length ≤ 30) (by omega),Bool.false_and] at hR
    refine Yg1 (fa3 @e1 @b1 @g1) ?_
    refine Ye0 ?_;try (with_reducible exact trivial)
    exact hR
end Go.Proofs.YtbffcndmcaeamaaGreatDoor
end
