import Derived.Test.YteamlijbkldlhaaGreatKP2
set_option linter.unusedSimpArgs false
set_option linter.unusedVariables false
namespace Go.Proofs.YteamlijbkldlhaaGreat
open Go.RowKit Go.Proofs AclSpec MetaSpec NodeSpec RecSpec PathSpec PageSpec

set_option maxRecDepth 100000 in
theorem equalStr_L (l m : List (List UInt8)) (hl : l.length ≤ maxLen) (hm : m.length ≤ maxLen) : LCalls Tryz.prog 69 [strsL l,strsL m] (boolL (decide (l = m))) := by
  unfold maxLen at hl hm
  refine LCalls.of (fun _ => false) Tryz.func69 rfl (by decide) Tryz.ntmps69 Tryz.results69 (by simp) ?_
  intro w0 S0 vs hgl hwf0 hsz hvs;clear hsz hvs hwf0 hgl
  refine Yg1 (fa2 @strsL.eq_1 @rowL.eq_1) ?_
  by_cases hlen : (l.length : Int) = m.length
  · refine Yf1 @hlen ?_
    refine Yg1 (fa2 @strsL.eq_1 @rowL.eq_1) ?_
    refine LW_loop (fun n st => ∃ i : Nat,n + i = l.length ∧ st.env 0 = strsL l ∧ st.env 1 = strsL m ∧ st.env 12 = intL l.length ∧ st.env 13 = intL i ∧ l.take i = m.take i) l.length ⟨0,by omega,rfl,rfl,rfl,rfl,rfl⟩ ?_
    rintro n st ⟨i,hn,h0,h1,h12,h13,ht⟩
    refine Yg1 (fa4 @h0 @h1 @h12 @h13) ?_
    by_cases hlt : i < l.length
    · obtain ⟨a,ha⟩ := get_of_lt hlt
      obtain ⟨b,hb⟩ := get_of_lt (l := m) (i := i) (by omega)
      have hda := drop_str ha
      have hdb := drop_str hb
      have hltm : i < m.length := by omega
      have hw := w64s (n := i) (by omega)
      refine Yt1 @hlt ?_
      refine Yg1 (fa6 @h0 @h1 @h12 @h13 @strsL.eq_1 @rowL.eq_1) ?_
      refine Yn1 (fa10 @h0 @h1 @h12 @h13 @strsL.eq_1 @rowL.eq_1 @hlt @hltm @hda @hdb) ?_;intro K hK
      refine hK _ ?_;clear hK K;try refine Wh0 ?_
      by_cases he : a = b
      · refine Yf1 @he ?_
        refine Yg1 (fa5 @h0 @h1 @h12 @h13 @hw) ?_
        exact ⟨n - 1,by omega,i + 1,by omega,h0,h1,h12,rfl,take_succ_eq ht ha hb he⟩
      · refine Yt1 @he ?_
        refine Yg0 ?_
        refine Ye0 ?_;try (with_reducible exact trivial)
        simp [ne_of_get ha hb he]
    · refine Yf1 @hlt ?_
      refine LW_exit ?_;simp only [thenL,jumpsL,inBlockL,twoL,reduceIte,Nat.reduceEqDiff]
      refine Yg0 ?_
      refine Ye0 ?_;try (with_reducible exact trivial)
      rw [List.take_of_length_le (by omega),List.take_of_length_le (by omega)] at ht
      simp [ht]
  · refine Yt1 @hlen ?_
    refine Yg0 ?_
    refine Ye0 ?_;try (with_reducible exact trivial)
    simp;rintro rfl;exact hlen rfl
set_option maxRecDepth 100000 in
theorem equalInt_L (l m : List Int) (hl : l.length ≤ maxLen) (hm : m.length ≤ maxLen) : LCalls Tryz.prog 70 [intsL l,intsL m] (boolL (decide (l = m))) := by
  unfold maxLen at hl hm
  refine LCalls.of (fun _ => false) Tryz.func70 rfl (by decide) Tryz.ntmps70 Tryz.results70 (by simp) ?_
  intro w0 S0 vs hgl hwf0 hsz hvs;clear hsz hvs hwf0 hgl
  refine Yg1 (fa2 @intsL.eq_1 @rowL.eq_1) ?_
  by_cases hlen : (l.length : Int) = m.length
  · refine Yf1 @hlen ?_
    refine Yg1 (fa2 @intsL.eq_1 @rowL.eq_1) ?_
    refine LW_loop (fun n st => ∃ i : Nat,n + i = l.length ∧ st.env 0 = intsL l ∧ st.env 1 = intsL m ∧ st.env 12 = intL l.length ∧ st.env 13 = intL i ∧ l.take i = m.take i) l.length ⟨0,by omega,rfl,rfl,rfl,rfl,rfl⟩ ?_
    rintro n st ⟨i,hn,h0,h1,h12,h13,ht⟩
    refine Yg1 (fa4 @h0 @h1 @h12 @h13) ?_
    by_cases hlt : i < l.length
    · obtain ⟨a,ha⟩ := get_of_lt hlt
      obtain ⟨b,hb⟩ := get_of_lt (l := m) (i := i) (by omega)
      have hda := drop_int ha
      have hdb := drop_int hb
      have hltm : i < m.length := by omega
      have hw := w64s (n := i) (by omega)
      refine Yt1 @hlt ?_
      refine Yg1 (fa6 @h0 @h1 @h12 @h13 @intsL.eq_1 @rowL.eq_1) ?_
      refine Yn1 (fa10 @h0 @h1 @h12 @h13 @intsL.eq_1 @rowL.eq_1 @hlt @hltm @hda @hdb) ?_;intro K hK
      refine hK _ ?_;clear hK K;try refine Wh0 ?_
      by_cases he : a = b
      · refine Yf1 @he ?_
        refine Yg1 (fa5 @h0 @h1 @h12 @h13 @hw) ?_
        exact ⟨n - 1,by omega,i + 1,by omega,h0,h1,h12,rfl,take_succ_eq ht ha hb he⟩
      · refine Yt1 @he ?_
        refine Yg0 ?_
        refine Ye0 ?_;try (with_reducible exact trivial)
        simp [ne_of_get ha hb he]
    · refine Yf1 @hlt ?_
      refine LW_exit ?_;simp only [thenL,jumpsL,inBlockL,twoL,reduceIte,Nat.reduceEqDiff]
      refine Yg0 ?_
      refine Ye0 ?_;try (with_reducible exact trivial)
      rw [List.take_of_length_le (by omega),List.take_of_length_le (by omega)] at ht
      simp [ht]
  · refine Yt1 @hlen ?_
    refine Yg0 ?_
    refine Ye0 ?_;try (with_reducible exact trivial)
    simp;rintro rfl;exact hlen rfl
theorem samePg_eq (a b : Pg) : decide (a = b) = (decide (a.leaf = b.leaf) && decide (a.recs = b.recs) && decide (a.keys = b.keys) && decide (a.pages = b.pages)) := by
  obtain ⟨p,l,n,q⟩ := a
  obtain ⟨p2,l2,n2,q2⟩ := b
  rw [Bool.eq_iff_iff]
  simp only [Pg.mk.injEq,decide_eq_true_eq,Bool.and_eq_true]
  exact ⟨fun ⟨a,b,c,d⟩ => ⟨⟨⟨a,b⟩,c⟩,d⟩,fun ⟨⟨⟨a,b⟩,c⟩,d⟩ => ⟨a,b,c,d⟩⟩
def okPg (p : Pg) : Prop := p.recs.length ≤ maxLen ∧ p.keys.length ≤ maxLen ∧ p.pages.length ≤ maxLen ∧ ∀ r ∈ p.recs,okLen r.node
set_option maxRecDepth 100000 in
set_option maxHeartbeats 4000000 in
theorem psame_L (a b : Pg) (ha : okPg a) (hb : okPg b) : LCalls Tryz.prog 43 [.agg (pgL a),.agg (pgL b)] (boolL (decide (a = b))) := by
  obtain ⟨a1,a2,a3,a4⟩ := ha
  obtain ⟨b1,b2,b3,b4⟩ := hb
  have ck := equalStr_L a.keys b.keys a2 b2
  have cn := equalInt_L a.pages b.pages a3 b3
  unfold maxLen at a1 b1
  simp only [strsL,intsL,rowL] at ck cn
  refine LCalls.of (fun _ => false) Tryz.func43 rfl (by decide) Tryz.ntmps43 Tryz.results43 (by simp) ?_
  intro w0 S0 vs hgl hwf0 hsz hvs;clear hsz hvs hwf0 hgl
  generalize hR : decide (a = b) = R
  rw [samePg_eq] at hR
  refine Yg1 (fa4 @pgL.eq_1 @rowL.eq_1 @strsL.eq_1 @intsL.eq_1) ?_
  refine LW_lab1 (fun n st => ∃ i : Nat,n + i = a.recs.length ∧ a.recs.length = b.recs.length ∧ decide (a.recs = b.recs) = R ∧ st.env 2 = .ptr 2 0 ∧ st.box 2 = some (pgL a) ∧ st.env 3 = .ptr 3 0 ∧ st.box 3 = some (pgL b) ∧ st.env 5 = intL i ∧ a.recs.take i = b.recs.take i ∧ st.mode = fun _ => false) rfl ?_ ?_
  · intro hJ
    by_cases h1 : a.leaf = b.leaf
    rotate_left
    · have hb1 : (a.leaf == b.leaf) = false := by simp [h1]
      refine Yg1 @hb1 ?_
      refine Yt0 ?_
      refine Yg0 ?_
      refine Ye0 ?_;try (with_reducible exact trivial)
      rw [← hR];simp [h1]
    have hb1 : (a.leaf == b.leaf) = true := by rw [h1];simp
    by_cases h2 : (a.recs.length : Int) = (b.recs.length : Int)
    rotate_left
    · refine Yg1 (fa2 @hb1 @h2) ?_
      refine Yt0 ?_
      refine Yg0 ?_
      refine Ye0 ?_;try (with_reducible exact trivial)
      have : a.recs ≠ b.recs := by rintro c;rw [c] at h2;exact h2 rfl
      rw [← hR];simp [this]
    refine Yg1 (fa2 @hb1 @h2) ?_
    refine Yf0 ?_
    by_cases h3 : a.keys = b.keys
    rotate_left
    · rw [decide_eq_false h3] at ck
      refine Yr0 ?_;intro K hK
      refine Yc0 (ck) ?_
      refine hK _ ?_;clear hK K;try refine Wh0 ?_
      refine Yt0 ?_
      refine Yg0 ?_
      refine Ye0 ?_;try (with_reducible exact trivial)
      rw [← hR];simp [h3]
    rw [decide_eq_true h3] at ck
    by_cases h4 : a.pages = b.pages
    rotate_left
    · rw [decide_eq_false h4] at cn
      refine Yr0 ?_;intro K hK
      refine Yc0 (ck) ?_
      refine Yc0 (cn) ?_
      refine hK _ ?_;clear hK K;try refine Wh0 ?_
      refine Yt0 ?_
      refine Yg0 ?_
      refine Ye0 ?_;try (with_reducible exact trivial)
      rw [← hR];simp [h4]
    rw [decide_eq_true h4] at cn
    refine Yr0 ?_;intro K hK
    refine Yc0 (ck) ?_
    refine Yc0 (cn) ?_
    refine hK _ ?_;clear hK K;try refine Wh0 ?_
    refine Yf0 ?_
    rw [decide_eq_true h1,decide_eq_true h3,decide_eq_true h4] at hR
    simp only [Bool.true_and,Bool.and_true] at hR
    refine Yl0 ?_
    exact hJ.out a.recs.length _ ⟨0,by omega,by omega,hR,Yq0,(Yq1 (fa4 @pgL.eq_1 @rowL.eq_1 @strsL.eq_1 @intsL.eq_1)),Yq0,(Yq1 (fa4 @pgL.eq_1 @rowL.eq_1 @strsL.eq_1 @intsL.eq_1)),Yq0,rfl,rfl⟩
  · rintro n st ⟨i,hn,hll,hr0,e2,x2,e3,x3,e5,ht,hmd⟩
    simp only [pgL,rowL,strsL,intsL] at x2 x3
    by_cases hlt : i < a.recs.length
    rotate_left
    · have hin : ((i : Int) = (a.recs.length : Int)) = True := eq_true (by omega)
      refine Yg1 (fa4 @e2 @x2 @e5 @hin) ?_
      refine Yt0 ?_
      refine Yg0 ?_
      refine Ye0 ?_;try (with_reducible exact trivial)
      rw [List.take_of_length_le (by omega),List.take_of_length_le (by omega)] at ht
      rw [← hr0];simp [ht]
    have hin : ¬ ((i : Int) = (a.recs.length : Int)) := by omega
    have hltm : i < b.recs.length := by omega
    obtain ⟨r,hr⟩ := get_of_lt hlt
    obtain ⟨q,hq⟩ := get_of_lt hltm
    have hdr := drop_rec hr
    have hdq := drop_rec hq
    have hw := w64s (n := i) (by omega)
    have hip : (0 : Int) ≤ (i : Int) := by omega
    have cs := recsame_L r q (a4 r (List.mem_of_getElem? hr)) (b4 q (List.mem_of_getElem? hq))
    simp only [recL,nodeL,attrsL,acesL,piecesL,rowL,List.cons_append,List.nil_append] at cs hdr hdq
    refine Yg1 (fa4 @e2 @x2 @e5 @hin) ?_
    refine Yf0 ?_
    by_cases he : r = q
    · rw [decide_eq_true he] at cs
      refine Yn1 (fa11 @e2 @x2 @e3 @x3 @e5 @hip @hlt @hltm @hdr @hdq @hmd) ?_;intro K hK
      refine Yc1 (cs) (fa10 @e2 @x2 @e3 @x3 @e5 @hip @hlt @hltm @hdr @hdq) ?_
      refine hK _ ?_;clear hK K;try refine Wh0 ?_
      refine Yf0 ?_
      refine Yg1 (fa2 @e5 @hw) ?_
      refine LW_goto ?_;simp only [thenL,jumpsL,inBlockL,twoL,true_and]
      exact ⟨n - 1,by omega,i + 1,by omega,hll,hr0,(Yq1 @e2),(Yq1 (fa5 @x2 @pgL.eq_1 @rowL.eq_1 @strsL.eq_1 @intsL.eq_1)),(Yq1 @e3),(Yq1 (fa5 @x3 @pgL.eq_1 @rowL.eq_1 @strsL.eq_1 @intsL.eq_1)),(Yq1 @hw),take_succ_eq ht hr hq he,(Yq1 @hmd)⟩
    · rw [decide_eq_false he] at cs
      refine Yn1 (fa11 @e2 @x2 @e3 @x3 @e5 @hip @hlt @hltm @hdr @hdq @hmd) ?_;intro K hK
      refine Yc1 (cs) (fa10 @e2 @x2 @e3 @x3 @e5 @hip @hlt @hltm @hdr @hdq) ?_
      refine hK _ ?_;clear hK K;try refine Wh0 ?_
      refine Yt0 ?_
      refine Yg0 ?_
      refine Ye0 ?_;try (with_reducible exact trivial)
      rw [← hr0];simp [ne_of_get hr hq he]
theorem i00 : ((0 : Int) ≤ 0) = True := eq_true (by decide)
theorem i0n : (0 : Int).toNat = 0 := rfl
set_option maxRecDepth 100000 in
theorem pfirst_L (p : Pg) (h : SmallP p) : LCalls Tryz.prog 82 [.agg (pgL p)] (strL (firstPg p)) := by
  have cm := ppmay_L p h
  simp only [pgL,rowL,strsL,intsL] at cm
  refine LCalls.of (fun _ => false) Tryz.func82 rfl (by decide) Tryz.ntmps82 Tryz.results82 (by simp) ?_
  intro w0 S0 vs hgl hwf0 hsz hvs;clear hsz hvs hwf0 hgl
  generalize hR : firstPg p = R
  unfold firstPg at hR
  refine Yg1 (fa4 @pgL.eq_1 @rowL.eq_1 @strsL.eq_1 @intsL.eq_1) ?_
  cases hm : mayPg p
  · rw [hm] at cm
    rw [hm,if_neg (by decide)] at hR
    subst hR
    refine Yr0 ?_;intro K hK
    refine Yc0 (cm) ?_
    refine hK _ ?_;clear hK K;try refine Wh0 ?_
    refine Yt0 ?_
    refine Yg0 ?_
    refine Ye1 @strL.eq_1 ?_;try (with_reducible exact trivial)
  rw [hm,if_pos rfl] at hR
  have hm2 := hm
  rw [hm] at cm
  unfold mayPg at hm2
  refine Yr0 ?_;intro K hK
  refine Yc0 (cm) ?_
  refine hK _ ?_;clear hK K;try refine Wh0 ?_
  refine Yf0 ?_
  cases hlf : p.leaf
  · rw [hlf,if_neg (by decide)] at hR hm2
    unfold mayInner at hm2
    simp only [Bool.and_eq_true,Bool.not_eq_true',decide_eq_true_eq,decide_eq_false_iff_not] at hm2
    obtain ⟨k,hk⟩ := get_of_lt (l := p.keys) (i := 0) (by omega)
    have hd := drop_str hk
    have hlt : ((0 : Int) < (p.keys.length : Int)) = True := eq_true (by omega)
    rw [List.head?_eq_getElem?,hk] at hR
    simp only [Option.getD_some] at hR
    subst hR
    refine Yg1 @hlf ?_
    refine Yf0 ?_
    rw [List.drop_zero] at hd
    refine Yg1 (fa4 @hlt @i00 @i0n @hd) ?_
    refine Ye0 ?_;try (with_reducible exact trivial)
  · rw [hlf,if_pos rfl] at hR hm2
    unfold mayLeaf at hm2
    simp only [Bool.and_eq_true,Bool.not_eq_true',decide_eq_true_eq,decide_eq_false_iff_not] at hm2
    obtain ⟨r,hr⟩ := get_of_lt (l := p.recs) (i := 0) (by omega)
    have hd := drop_rec hr
    have hlt : ((0 : Int) < (p.recs.length : Int)) = True := eq_true (by omega)
    rw [List.head?_eq_getElem?,hr] at hR
    simp only [Option.map_some,Option.getD_some] at hR
    subst hR
    simp only [recL,nodeL,attrsL,acesL,piecesL,rowL,List.cons_append,List.nil_append] at hd
    refine Yg1 @hlf ?_
    refine Yt0 ?_
    rw [Nat.zero_mul,List.drop_zero] at hd
    refine Yg1 (fa4 @hlt @i00 @i0n @hd) ?_
    refine Ye0 ?_;try (with_reducible exact trivial)
end Go.Proofs.YteamlijbkldlhaaGreat
