import Derived.Test.YteamlijbkldlhaaDoorMSpec
import Derived.Test.YteamlijbkldlhaaDoorKRef
import Derived.Test.YteamlijbkldlhaaDoorL25
section
set_option linter.unusedSimpArgs false
set_option linter.unusedVariables false
namespace Go.Proofs.YteamlijbkldlhaaDoor
open Go.RowKit AclSpec MetaSpec GSort

def attrL (a : Attr) : List LV := [strL a.name,strL a.value]
theorem attrL_len (a : Attr) : (attrL a).length = 2 := rfl
def attrsL (l : List Attr) : LV := rowL attrL l
def metaL (m : FMeta) : List LV := [intL m.mode,intL m.uid,intL m.gid,intL m.time,attrsL m.attrs,acesL m.acl]
theorem drop_attr {l : List Attr} {i : Nat} {a : Attr} (h : l[i]? = some a) : (l.flatMap attrL).drop (i * 2) = strL a.name :: strL a.value :: (l.drop (i + 1)).flatMap attrL := drop_flat attrL 2 attrL_len h
theorem attrL_strip (l : List Attr) : (l.flatMap attrL).map strip1 = l.flatMap attrL := strip1_enc (fun _ => rfl) l
theorem attrL_one (l : List Attr) : (l.flatMap attrL).all oneL = true := by
  rw [List.all_eq_true];intro x hx
  obtain ⟨a,_,ha⟩ := List.mem_flatMap.1 hx
  simp [attrL,strL] at ha
  rcases ha with rfl | rfl <;> rfl
theorem attrL_flen (l : List Attr) : (l.flatMap attrL).length = l.length * 2 := len_flat attrL 2 attrL_len l

set_option maxRecDepth 100000 in
theorem mgood_L (a : Attr) : LCalls Tryd.prog 50 [.agg (attrL a)] (boolL (goodT a)) := by
  refine LCalls.of (fun _ => false) Tryd.func50 rfl (by decide) Tryd.ntmps50 Tryd.results50 (by simp) ?_
  intro w0 S0 vs hgl hwf0 hsz hvs;clear hsz hvs hwf0 hgl
  unfold goodT
  by_cases h1 : (1 : Int) ≤ a.name.length
  · by_cases h2 : (a.name.length : Int) ≤ 20
    · refine Wg1 (fa3 @attrL.eq_1 @h1 @h2) ?_
      refine We0 ?_;try (with_reducible exact trivial)
      have g1 : 1 ≤ a.name.length := by omega
      have g2 : a.name.length ≤ 20 := by omega
      rw [decide_eq_true g1,decide_eq_true g2,Bool.true_and,Bool.true_and,Bool.eq_iff_iff,decide_eq_true_eq,decide_eq_true_eq];omega
    · refine Wg1 (fa3 @attrL.eq_1 @h1 @h2) ?_
      refine We0 ?_;try (with_reducible exact trivial)
      have g2 : ¬ a.name.length ≤ 20 := by omega
      rw [decide_eq_false g2,Bool.and_false,Bool.false_and]
  · refine Wg1 (fa2 @attrL.eq_1 @h1) ?_
    refine We0 ?_;try (with_reducible exact trivial)
    have g1 : ¬ 1 ≤ a.name.length := by omega
    rw [decide_eq_false g1,Bool.false_and,Bool.false_and]
set_option maxRecDepth 100000 in
theorem mid_L (n : Int) : LCalls Tryd.prog 49 [intL n] (boolL (idB n)) := by
  refine LCalls.of (fun _ => false) Tryd.func49 rfl (by decide) Tryd.ntmps49 Tryd.results49 (by simp) ?_
  intro w0 S0 vs hgl hwf0 hsz hvs;clear hsz hvs hwf0 hgl
  unfold idB
  by_cases h1 : 0 ≤ n
  · refine Wg1 @h1 ?_
    refine We0 ?_;try (with_reducible exact trivial)
    rw [decide_eq_true h1,Bool.true_and]
  · refine Wg1 @h1 ?_
    refine We0 ?_;try (with_reducible exact trivial)
    rw [decide_eq_false h1,Bool.false_and]

set_option maxRecDepth 100000 in
set_option maxHeartbeats 2000000 in
theorem mmay_L (m : FMeta) (hl : m.acl.length ≤ maxLen) : LCalls Tryd.prog 30 [.agg (metaL m)] (boolL (mayM m)) := by
  refine LCalls.of (fun _ => false) Tryd.func30 rfl (by decide) Tryd.ntmps30 Tryd.results30 (by simp) ?_
  intro w0 S0 vs hgl hwf0 hsz hvs;clear hsz hvs hwf0 hgl
  generalize hR : mayM m = R
  unfold mayM at hR
  have ca := may_L m.acl hl
  simp only [acesL] at ca
  by_cases h1 : m.mode < 0
  · refine Wg1 (fa4 @metaL.eq_1 @attrsL.eq_1 @acesL.eq_1 @h1) ?_
    refine LW_scope_straight ?_
    refine Wg1 @h1 ?_
    refine Wt0 ?_
    refine Wg0 ?_
    refine We0 ?_;try (with_reducible exact trivial)
    rw [← hR,decide_eq_false (by omega)];simp
  by_cases h2 : 4095 < m.mode
  · refine Wg1 (fa3 @metaL.eq_1 @attrsL.eq_1 @acesL.eq_1) ?_
    refine LW_scope_straight ?_
    refine Wg1 (fa2 @h1 @h2) ?_
    refine Wt0 ?_
    refine Wg0 ?_
    refine We0 ?_;try (with_reducible exact trivial)
    rw [← hR,decide_eq_false (p := m.mode ≤ 4095) (by omega)];simp
  rw [decide_eq_true (p := 0 ≤ m.mode) (by omega),decide_eq_true (p := m.mode ≤ 4095) (by omega),Bool.true_and,Bool.true_and] at hR
  cases h3 : idB m.uid
  · refine Wg1 (fa3 @metaL.eq_1 @attrsL.eq_1 @acesL.eq_1) ?_
    refine LW_scope_straight ?_
    refine Wr1 (fa2 @h1 @h2) ?_;intro K hK
    refine Wc1 (mid_L m.uid) @h3 ?_
    refine hK _ ?_;clear hK K;try refine Wh0 ?_
    refine Wt0 ?_
    refine Wg0 ?_
    refine We0 ?_;try (with_reducible exact trivial)
    rw [← hR,h3];simp
  cases h4 : idB m.gid
  · refine Wg1 (fa3 @metaL.eq_1 @attrsL.eq_1 @acesL.eq_1) ?_
    refine LW_scope_straight ?_
    refine Wr1 (fa2 @h1 @h2) ?_;intro K hK
    refine Wc1 (mid_L m.uid) @h3 ?_
    refine Wc1 (mid_L m.gid) @h4 ?_
    refine hK _ ?_;clear hK K;try refine Wh0 ?_
    refine Wt0 ?_
    refine Wg0 ?_
    refine We0 ?_;try (with_reducible exact trivial)
    rw [← hR,h4];simp
  rw [h3,h4,Bool.true_and,Bool.true_and] at hR
  by_cases h5 : m.time < 0
  · refine Wg1 (fa3 @metaL.eq_1 @attrsL.eq_1 @acesL.eq_1) ?_
    refine LW_scope_straight ?_
    refine Wr1 (fa2 @h1 @h2) ?_;intro K hK
    refine Wc1 (mid_L m.uid) @h3 ?_
    refine Wc1 (mid_L m.gid) (fa2 @h4 @h5) ?_
    refine hK _ ?_;clear hK K;try refine Wh0 ?_
    refine Wt0 ?_
    refine Wg0 ?_
    refine We0 ?_;try (with_reducible exact trivial)
    rw [← hR,decide_eq_false (by omega)];simp
  rw [decide_eq_true (p := 0 ≤ m.time) (by omega),Bool.true_and] at hR
  refine Wg1 (fa3 @metaL.eq_1 @attrsL.eq_1 @acesL.eq_1) ?_
  refine LW_lab1 (fun n st => ∃ i : Nat,n + i = m.attrs.length ∧ m.attrs.length ≤ 8 ∧ st.env 1 = .ptr 1 0 ∧ st.box 1 = some (metaL m) ∧ st.env 3 = intL i ∧ (chkT m.attrs i && mayA m.acl) = R) rfl ?_ ?_
  · intro hJ
    refine Wr1 (fa2 @h1 @h2) ?_;intro K hK
    refine Wc1 (mid_L m.uid) @h3 ?_
    refine Wc1 (mid_L m.gid) (fa2 @h4 @h5) ?_
    refine hK _ ?_;clear hK K;try refine Wh0 ?_
    refine Wf0 ?_
    refine Wg0 ?_
    by_cases h6 : (8 : Int) < m.attrs.length
    · refine Wt1 @h6 ?_
      refine Wg0 ?_
      refine We0 ?_;try (with_reducible exact trivial)
      rw [← hR,decide_eq_false (by omega)];simp
    · rw [decide_eq_true (by omega),Bool.true_and] at hR
      refine Wf1 @h6 ?_
      refine Wl0 ?_
      exact hJ.out m.attrs.length _ ⟨0,by omega,by omega,rfl,rfl,rfl,hR⟩
  · rintro n st ⟨i,hn,h8,e1,b1,e3,hr⟩
    refine Wg1 (fa5 @e1 @b1 @e3 @metaL.eq_1 @attrsL.eq_1) ?_
    by_cases hlt : i < m.attrs.length
    · obtain ⟨a,ha⟩ := get_of_lt hlt
      have hd := drop_attr ha
      have hw := w64s (n := i) (by omega)
      refine Wt1 @hlt ?_
      cases hg : goodT a
      · refine Wn1 (fa7 @e1 @b1 @e3 @metaL.eq_1 @attrsL.eq_1 @hlt @hd) ?_;intro K hK
        refine Wc1 (mgood_L a) (fa2 @attrL.eq_1 @hg) ?_
        refine hK _ ?_;clear hK K;try refine Wh0 ?_
        refine Wt0 ?_
        refine Wg0 ?_
        refine We0 ?_;try (with_reducible exact trivial)
        rw [← hr];unfold chkT;rw [chkGAt_bad ha hg];rfl
      · by_cases h0 : (0 : Int) < i
        · obtain ⟨b,hb⟩ := get_of_lt (l := m.attrs) (i := i - 1) (by omega)
          have hdb := drop_attr hb
          have hi1 : i - 1 < m.attrs.length := by omega
          have hwp := w64p (n := i) (by omega) (by omega)
          have hat := chkGAt_at (key := Attr.name) (lt := Op.bytesLess) (by omega) ha hb hg
          refine Wn1 (fa7 @e1 @b1 @e3 @metaL.eq_1 @attrsL.eq_1 @hlt @hd) ?_;intro K hK
          refine Wc1 (mgood_L a) (fa13 @attrL.eq_1 @hg @e1 @b1 @e3 @h0 @hi1 @hwp @hdb @hlt @hd @metaL.eq_1 @attrsL.eq_1) ?_
          refine hK _ ?_;clear hK K;try refine Wh0 ?_
          cases hc : Op.bytesLess b.name a.name
          · refine Wt1 @hc ?_
            refine Wg0 ?_
            refine We0 ?_;try (with_reducible exact trivial)
            rw [← hr];unfold chkT;rw [hat,hc];rfl
          · refine Wf1 @hc ?_
            refine Wg1 (fa2 @e3 @hw) ?_
            refine LW_goto ?_;simp only [thenL,jumpsL,inBlockL,twoL,true_and]
            refine ⟨n - 1,by omega,i + 1,by omega,h8,(Wq1 @e1),(Wq1 @b1),Wq0,?_⟩
            rw [← hr];unfold chkT;rw [hat,hc,Bool.true_and]
        · have hi0 : i = 0 := by omega
          have hf := chkGAt_first (key := Attr.name) (lt := Op.bytesLess) (by rw [hi0] at ha;exact ha) hg
          refine Wn1 (fa7 @e1 @b1 @e3 @metaL.eq_1 @attrsL.eq_1 @hlt @hd) ?_;intro K hK
          refine Wc1 (mgood_L a) (fa8 @attrL.eq_1 @hg @e1 @b1 @e3 @h0 @metaL.eq_1 @attrsL.eq_1) ?_
          refine hK _ ?_;clear hK K;try refine Wh0 ?_
          refine Wf0 ?_
          refine Wg1 (fa2 @e3 @hw) ?_
          refine LW_goto ?_;simp only [thenL,jumpsL,inBlockL,twoL,true_and]
          refine ⟨n - 1,by omega,i + 1,by omega,h8,(Wq1 @e1),(Wq1 @b1),Wq0,?_⟩
          rw [← hr];unfold chkT;rw [hi0,hf]
    · refine Wf1 @hlt ?_
      unfold chkT at hr
      rw [chkGAt_end (by omega),Bool.true_and] at hr
      refine Wr1 (fa4 @e1 @b1 @metaL.eq_1 @acesL.eq_1) ?_;intro K hK
      refine Wc1 (ca) @hr ?_
      refine hK _ ?_;clear hK K;try refine Wh0 ?_
      refine We0 ?_;try (with_reducible exact trivial)
end Go.Proofs.YteamlijbkldlhaaDoor
end
section
set_option linter.unusedSimpArgs false
set_option linter.unusedVariables false
namespace Go.Proofs.YteamlijbkldlhaaDoor
open Go.RowKit AclSpec MetaSpec GSort

set_option maxRecDepth 100000 in
theorem equalAttr_L (l m : List Attr) (hl : l.length ≤ maxLen) (hm : m.length ≤ maxLen) : LCalls Tryd.prog 77 [attrsL l,attrsL m] (boolL (decide (l = m))) := by
  unfold maxLen at hl hm
  refine LCalls.of (fun _ => false) Tryd.func77 rfl (by decide) Tryd.ntmps77 Tryd.results77 (by simp) ?_
  intro w0 S0 vs hgl hwf0 hsz hvs;clear hsz hvs hwf0 hgl
  refine Wg1 @attrsL.eq_1 ?_
  by_cases hlen : (l.length : Int) = m.length
  · refine Wf1 @hlen ?_
    refine Wg1 @attrsL.eq_1 ?_
    refine LW_loop (fun n st => ∃ i : Nat,n + i = l.length ∧ st.env 0 = attrsL l ∧ st.env 1 = attrsL m ∧ st.env 12 = intL l.length ∧ st.env 13 = intL i ∧ l.take i = m.take i) l.length ⟨0,by omega,rfl,rfl,rfl,rfl,rfl⟩ ?_
    rintro n st ⟨i,hn,h0,h1,h12,h13,ht⟩
    refine Wg1 (fa4 @h0 @h1 @h12 @h13) ?_
    by_cases hlt : i < l.length
    · obtain ⟨a,ha⟩ := get_of_lt hlt
      obtain ⟨b,hb⟩ := get_of_lt (l := m) (i := i) (by omega)
      have hda := drop_attr ha
      have hdb := drop_attr hb
      have hltm : i < m.length := by omega
      have hw := w64s (n := i) (by omega)
      refine Wt1 @hlt ?_
      refine Wg1 (fa5 @h0 @h1 @h12 @h13 @attrsL.eq_1) ?_
      refine Wn1 (fa9 @h0 @h1 @h12 @h13 @attrsL.eq_1 @hlt @hltm @hda @hdb) ?_;intro K hK
      refine hK _ ?_;clear hK K;try refine Wh0 ?_
      by_cases he : a = b
      · have e1 : a.name = b.name := by rw [he]
        have e2 : a.value = b.value := by rw [he]
        refine Wf1 (fa2 @e1 @e2) ?_
        refine Wg1 (fa5 @h0 @h1 @h12 @h13 @hw) ?_
        exact ⟨n - 1,by omega,i + 1,by omega,h0,h1,h12,rfl,take_succ_eq ht ha hb he⟩
      · have hne : (decide (a.name = b.name) && decide (a.value = b.value)) = false := by
          rw [Bool.eq_false_iff];intro h;simp at h;exact he (by cases a;cases b;simp_all)
        refine Wt1 @hne ?_
        refine Wg0 ?_
        refine We0 ?_;try (with_reducible exact trivial)
        simp [ne_of_get ha hb he]
    · refine Wf1 @hlt ?_
      refine LW_exit ?_;simp only [thenL,jumpsL,inBlockL,twoL,reduceIte,Nat.reduceEqDiff]
      refine Wg0 ?_
      refine We0 ?_;try (with_reducible exact trivial)
      rw [List.take_of_length_le (by omega),List.take_of_length_le (by omega)] at ht
      simp [ht]
  · refine Wt1 @hlen ?_
    refine Wg0 ?_
    refine We0 ?_;try (with_reducible exact trivial)
    simp;rintro rfl;exact hlen rfl

set_option maxRecDepth 100000 in
set_option maxHeartbeats 2000000 in
theorem diff_L (a b : FMeta) (h1 : a.attrs.length ≤ maxLen) (h2 : b.attrs.length ≤ maxLen) (h3 : a.acl.length ≤ maxLen) (h4 : b.acl.length ≤ maxLen) : LCalls Tryd.prog 58 [.agg (metaL a),.agg (metaL b)] (strL (diffM a b)) := by
  have c1 := equalAttr_L a.attrs b.attrs h1 h2
  have c2 := same_L a.acl b.acl h3 h4
  simp only [attrsL] at c1
  simp only [acesL] at c2
  refine LCalls.of (fun _ => false) Tryd.func58 rfl (by decide) Tryd.ntmps58 Tryd.results58 (by simp) ?_
  intro w0 S0 vs hgl hwf0 hsz hvs;clear hsz hvs hwf0 hgl
  generalize hR : diffM a b = R
  unfold diffM at hR
  refine Wg1 (fa3 @metaL.eq_1 @attrsL.eq_1 @acesL.eq_1) ?_
  by_cases g1 : a.mode = b.mode
  · rw [if_neg (not_not_intro g1)] at hR
    refine Wf1 @g1 ?_
    refine Wg0 ?_
    by_cases g2 : a.uid = b.uid
    · rw [if_neg (not_not_intro g2)] at hR
      refine Wf1 @g2 ?_
      refine Wg0 ?_
      by_cases g3 : a.gid = b.gid
      · rw [if_neg (not_not_intro g3)] at hR
        refine Wf1 @g3 ?_
        refine Wg0 ?_
        by_cases g4 : a.time = b.time
        · rw [if_neg (not_not_intro g4)] at hR
          refine Wf1 @g4 ?_
          refine Wr0 ?_;intro K hK
          refine Wc0 (c1) ?_
          refine hK _ ?_;clear hK K;try refine Wh0 ?_
          by_cases g5 : a.attrs = b.attrs
          · rw [if_neg (not_not_intro g5)] at hR
            refine Wf1 @g5 ?_
            refine Wr0 ?_;intro K hK
            refine Wc0 (c2) ?_
            refine hK _ ?_;clear hK K;try refine Wh0 ?_
            by_cases g6 : a.acl = b.acl
            · rw [if_neg (not_not_intro g6)] at hR
              refine Wf1 @g6 ?_
              refine Wg0 ?_
              refine We0 ?_;try (with_reducible exact trivial)
              rw [← hR]
            · rw [if_pos g6] at hR
              refine Wt1 @g6 ?_
              refine Wg0 ?_
              refine We0 ?_;try (with_reducible exact trivial)
              rw [← hR]
          · rw [if_pos g5] at hR
            refine Wt1 @g5 ?_
            refine Wg0 ?_
            refine We0 ?_;try (with_reducible exact trivial)
            rw [← hR]
        · rw [if_pos g4] at hR
          refine Wt1 @g4 ?_
          refine Wg0 ?_
          refine We0 ?_;try (with_reducible exact trivial)
          rw [← hR]
      · rw [if_pos g3] at hR
        refine Wt1 @g3 ?_
        refine Wg0 ?_
        refine We0 ?_;try (with_reducible exact trivial)
        rw [← hR]
    · rw [if_pos g2] at hR
      refine Wt1 @g2 ?_
      refine Wg0 ?_
      refine We0 ?_;try (with_reducible exact trivial)
      rw [← hR]
  · rw [if_pos g1] at hR
    refine Wt1 @g1 ?_
    refine Wg0 ?_
    refine We0 ?_;try (with_reducible exact trivial)
    rw [← hR]

theorem all_take_succ {α : Type} {p : α → Bool} {l : List α} {i : Nat} {a : α} (h : l[i]? = some a) : (l.take (i + 1)).all p = ((l.take i).all p && p a) := by
  obtain ⟨hi,rfl⟩ := List.getElem?_eq_some_iff.1 h
  rw [List.take_succ_eq_append_getElem hi,List.all_append];simp
theorem all_false_of {α : Type} {p : α → Bool} {l : List α} {i : Nat} {a : α} (h : l[i]? = some a) (hp : p a = false) : l.all p = false := by
  rw [List.all_eq_false];exact ⟨a,List.mem_of_getElem? h,by simp [hp]⟩

set_option maxRecDepth 100000 in
set_option maxHeartbeats 2000000 in
theorem few_L (m : FMeta) (hl : m.attrs.length ≤ maxLen) : LCalls Tryd.prog 24 [.agg (metaL m)] (boolL (fewM m)) := by
  unfold maxLen at hl
  refine LCalls.of (fun _ => false) Tryd.func24 rfl (by decide) Tryd.ntmps24 Tryd.results24 (by simp) ?_
  intro w0 S0 vs hgl hwf0 hsz hvs;clear hsz hvs hwf0 hgl
  generalize hR : fewM m = R
  unfold fewM at hR
  generalize hp : (fun a : Attr => decide (a.name.length ≤ 250) && decide (a.value.length ≤ 250)) = p at hR
  refine Wg1 (fa3 @metaL.eq_1 @attrsL.eq_1 @acesL.eq_1) ?_
  refine LW_loop (fun n st => ∃ i : Nat,n + i = m.attrs.length ∧ st.env 1 = .ptr 1 0 ∧ st.box 1 = some (metaL m) ∧ st.env 3 = intL i ∧ (m.attrs.take i).all p = true) m.attrs.length ⟨0,by omega,rfl,rfl,rfl,rfl⟩ ?_
  rintro n st ⟨i,hn,e1,b1,e3,hall⟩
  refine Wg1 (fa5 @e1 @b1 @e3 @metaL.eq_1 @attrsL.eq_1) ?_
  by_cases hlt : i < m.attrs.length
  · obtain ⟨a,ha⟩ := get_of_lt hlt
    have hd := drop_attr ha
    have hw := w64s (n := i) (by omega)
    have hs := all_take_succ (p := p) ha
    refine Wt1 @hlt ?_
    by_cases g1 : (250 : Int) < a.name.length
    · refine Wg1 (fa8 @e1 @b1 @e3 @metaL.eq_1 @attrsL.eq_1 @hlt @hd @g1) ?_
      refine Wt0 ?_
      refine Wg0 ?_
      refine We0 ?_;try (with_reducible exact trivial)
      have hpf : p a = false := by rw [← hp];simp only;rw [decide_eq_false (by omega)];rfl
      rw [← hR,all_false_of ha hpf];rfl
    · by_cases g2 : (250 : Int) < a.value.length
      · refine Wg1 (fa9 @e1 @b1 @e3 @metaL.eq_1 @attrsL.eq_1 @hlt @hd @g1 @g2) ?_
        refine Wt0 ?_
        refine Wg0 ?_
        refine We0 ?_;try (with_reducible exact trivial)
        have hpf : p a = false := by rw [← hp];simp only;rw [decide_eq_false (p := a.value.length ≤ 250) (by omega),Bool.and_false]
        rw [← hR,all_false_of ha hpf];rfl
      · refine Wg1 (fa9 @e1 @b1 @e3 @metaL.eq_1 @attrsL.eq_1 @hlt @hd @g1 @g2) ?_
        refine Wf0 ?_
        refine Wg1 (fa2 @e3 @hw) ?_
        have hpt : p a = true := by rw [← hp];simp only;rw [decide_eq_true (by omega),decide_eq_true (by omega)];rfl
        exact ⟨n - 1,by omega,i + 1,by omega,(Wq1 @e1),(Wq1 @b1),Wq0,by rw [hs,hall,hpt];rfl⟩
  · refine Wf1 @hlt ?_
    refine LW_exit ?_;simp only [thenL,jumpsL,inBlockL,twoL,reduceIte,Nat.reduceEqDiff]
    rw [List.take_of_length_le (by omega)] at hall
    rw [hall,Bool.true_and] at hR
    by_cases g1 : (m.attrs.length : Int) ≤ 12
    · rw [decide_eq_true (by omega),Bool.true_and] at hR
      refine Wg1 (fa6 @e1 @b1 @metaL.eq_1 @attrsL.eq_1 @acesL.eq_1 @g1) ?_
      refine We0 ?_;try (with_reducible exact trivial)
      rw [← hR,Bool.eq_iff_iff,decide_eq_true_eq,decide_eq_true_eq];omega
    · rw [decide_eq_false (by omega),Bool.false_and] at hR
      refine Wg1 (fa6 @e1 @b1 @metaL.eq_1 @attrsL.eq_1 @acesL.eq_1 @g1) ?_
      refine We0 ?_;try (with_reducible exact trivial)
      exact hR
end Go.Proofs.YteamlijbkldlhaaDoor
end
