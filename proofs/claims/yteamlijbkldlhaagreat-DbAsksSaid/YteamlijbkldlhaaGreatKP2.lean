import Derived.Test.YteamlijbkldlhaaGreatDTab
import Derived.Test.YteamlijbkldlhaaGreatKUJ
import Derived.Test.YteamlijbkldlhaaGreatKTB
section
set_option linter.unusedSimpArgs false
set_option linter.unusedVariables false
namespace Go.Proofs.YteamlijbkldlhaaGreat
open Go.RowKit Go.Proofs AclSpec MetaSpec NodeSpec RecSpec PathSpec PageSpec

def pgL (p : Pg) : List LV := [boolL p.leaf,rowL recL p.recs,strsL p.keys,intsL p.pages]
structure SmallP (p : Pg) : Prop where
  recs : p.recs.length ≤ 1000000
  keys : p.keys.length ≤ 1000000
  pages : p.pages.length ≤ 1000000
  one : ∀ r ∈ p.recs,r.path.length < 1000000 ∧ small r.node
  key : ∀ k ∈ p.keys,k.length < 1000000
theorem risesR_cons {l : List Rec} {i : Nat} {r : Rec} {o : Option (List UInt8)} (h : l[i]? = some r) : risesR o (l.drop i) = (mayRec r && (match o with | none => true | some p => lessB p r.path) && risesR (some r.path) (l.drop (i + 1))) := by
  obtain ⟨hi,rfl⟩ := List.getElem?_eq_some_iff.1 h
  rw [List.drop_eq_getElem_cons hi,risesR.eq_def]
  cases o <;> rfl
theorem risesK_cons {ks : List (List UInt8)} {ns : List Int} {i : Nat} {k : List UInt8} {n : Int} {o : Option (List UInt8 × Int)} (h : ks[i]? = some k) (h2 : ns[i]? = some n) : risesK o (ks.drop i) (ns.drop i) = ((!decide (n < 0) && !decide (10000 < n) && mayB k) && (match o with | none => true | some q => !decide (n ≤ q.2) && lessB q.1 k) && risesK (some (k,n)) (ks.drop (i + 1)) (ns.drop (i + 1))) := by
  obtain ⟨hi,rfl⟩ := List.getElem?_eq_some_iff.1 h
  obtain ⟨hj,rfl⟩ := List.getElem?_eq_some_iff.1 h2
  rw [List.drop_eq_getElem_cons hi,List.drop_eq_getElem_cons hj,risesK.eq_def]
  cases o <;> rfl
set_option maxRecDepth 100000 in
set_option maxHeartbeats 4000000 in
theorem pmayLeaf_L (p : Pg) (h : SmallP p) : LCalls Tryz.prog 125 [.agg (pgL p)] (boolL (mayLeaf p)) := by
  have hl := h.recs
  refine LCalls.of (fun _ => false) Tryz.func125 rfl (by decide) Tryz.ntmps125 Tryz.results125 (by simp) ?_
  intro w0 S0 vs hgl hwf0 hsz hvs;clear hsz hvs hwf0 hgl
  generalize hR : mayLeaf p = R
  unfold mayLeaf at hR
  refine Yg1 (fa4 @pgL.eq_1 @rowL.eq_1 @strsL.eq_1 @intsL.eq_1) ?_
  refine LW_lab1 (fun n st => ∃ (i : Nat) (o : Option (List UInt8)),n + i = p.recs.length ∧ ((i = 0 ∧ o = none) ∨ (0 < i ∧ ∃ r,p.recs[i - 1]? = some r ∧ o = some r.path)) ∧ st.env 1 = .ptr 1 0 ∧ st.box 1 = some (pgL p) ∧ st.env 3 = intL i ∧ risesR o (p.recs.drop i) = R ∧ st.mode = fun _ => false) rfl ?_ ?_
  · intro hJ
    by_cases h1 : p.recs.length < 1
    · have h1i : ((p.recs.length : Int) < 1) = True := eq_true (by omega)
      refine Yg1 @h1i ?_
      refine Yt0 ?_
      refine Yg0 ?_
      refine Ye0 ?_;try (with_reducible exact trivial)
      rw [← hR];simp [h1]
    have h1i : ¬ ((p.recs.length : Int) < 1) := by omega
    by_cases h2 : 4 < p.recs.length
    · have h2i : (4 < (p.recs.length : Int)) = True := eq_true (by omega)
      refine Yg1 (fa2 @h1i @h2i) ?_
      refine Yt0 ?_
      refine Yg0 ?_
      refine Ye0 ?_;try (with_reducible exact trivial)
      rw [← hR];simp [h2]
    have h2i : ¬ (4 < (p.recs.length : Int)) := by omega
    by_cases h3 : 0 < p.keys.length
    · have h3i : (0 < (p.keys.length : Int)) = True := eq_true (by omega)
      refine Yg1 (fa3 @h1i @h2i @h3i) ?_
      refine Yt0 ?_
      refine Yg0 ?_
      refine Ye0 ?_;try (with_reducible exact trivial)
      rw [← hR];simp [h3]
    have h3i : ¬ (0 < (p.keys.length : Int)) := by omega
    by_cases h4 : 0 < p.pages.length
    · have h4i : (0 < (p.pages.length : Int)) = True := eq_true (by omega)
      refine Yg1 (fa4 @h1i @h2i @h3i @h4i) ?_
      refine Yt0 ?_
      refine Yg0 ?_
      refine Ye0 ?_;try (with_reducible exact trivial)
      rw [← hR];simp [h4]
    have h4i : ¬ (0 < (p.pages.length : Int)) := by omega
    rw [decide_eq_false h1,decide_eq_false h2,decide_eq_false h3,decide_eq_false h4] at hR
    simp only [Bool.not_false,Bool.true_and] at hR
    refine Yg1 (fa4 @h1i @h2i @h3i @h4i) ?_
    refine Yf0 ?_
    refine Yl0 ?_
    exact hJ.out p.recs.length _ ⟨0,none,by omega,.inl ⟨rfl,rfl⟩,Yq0,(Yq1 (fa4 @pgL.eq_1 @rowL.eq_1 @strsL.eq_1 @intsL.eq_1)),Yq0,hR,rfl⟩
  · rintro n st ⟨i,o,hn,ho,e1,b1,e3,hr,hmd⟩
    simp only [pgL,rowL,strsL,intsL] at b1
    by_cases hlt : i < p.recs.length
    rotate_left
    · rw [List.drop_of_length_le (by omega),risesR.eq_def] at hr
      have hin : ((i : Int) = (p.recs.length : Int)) = True := eq_true (by omega)
      refine Yg1 (fa4 @e1 @b1 @e3 @hin) ?_
      refine Yt0 ?_
      refine Yg0 ?_
      refine Ye0 ?_;try (with_reducible exact trivial)
      exact hr
    have hin : ¬ ((i : Int) = (p.recs.length : Int)) := by omega
    obtain ⟨r,hre⟩ := get_of_lt hlt
    have hd := drop_rec hre
    have hw := w64s (n := i) (by omega)
    have hip : (0 : Int) ≤ (i : Int) := by omega
    obtain ⟨hpl,hsm⟩ := h.one r (List.mem_of_getElem? hre)
    have cm := recmay_L r hpl hsm
    rw [risesR_cons hre] at hr
    simp only [recL,nodeL,attrsL,acesL,piecesL,rowL,List.cons_append,List.nil_append] at cm hd
    refine Yg1 (fa4 @e1 @b1 @e3 @hin) ?_
    refine Yf0 ?_
    cases hm : mayRec r
    · rw [hm] at cm hr
      refine Yr1 (fa6 @e1 @b1 @e3 @hip @hlt @hd) ?_;intro K hK
      refine Yc1 (cm) (fa6 @e1 @b1 @e3 @hip @hlt @hd) ?_
      refine hK _ ?_;clear hK K;try refine Wh0 ?_
      refine Yt0 ?_
      refine Yg0 ?_
      refine Ye0 ?_;try (with_reducible exact trivial)
      exact hr
    rw [hm] at cm hr
    refine Yr1 (fa6 @e1 @b1 @e3 @hip @hlt @hd) ?_;intro K hK
    refine Yc1 (cm) (fa6 @e1 @b1 @e3 @hip @hlt @hd) ?_
    refine hK _ ?_;clear hK K;try refine Wh0 ?_
    refine Yf0 ?_
    rcases ho with ⟨rfl,rfl⟩ | ⟨hi0,q,hq,rfl⟩
    · simp only [Bool.true_and] at hr
      refine Yn1 (fa2 @e3 @hmd) ?_;intro K hK
      refine hK _ ?_;clear hK K;try refine Wh0 ?_
      refine Yf0 ?_
      refine Yg1 (fa2 @e3 @hw) ?_
      refine LW_goto ?_;simp only [thenL,jumpsL,inBlockL,twoL,true_and]
      exact ⟨n - 1,by omega,0 + 1,some r.path,by omega,.inr ⟨by omega,r,hre,rfl⟩,(Yq1 @e1),(Yq1 (fa5 @b1 @pgL.eq_1 @rowL.eq_1 @strsL.eq_1 @intsL.eq_1)),(Yq1 @hw),hr,(Yq1 @hmd)⟩
    · obtain ⟨j,rfl⟩ : ∃ j,i = j + 1 := ⟨i - 1,by omega⟩
      rw [Nat.add_sub_cancel] at hq
      have hdq := drop_rec hq
      obtain ⟨hql,_⟩ := h.one q (List.mem_of_getElem? hq)
      have cl := pless_L q.path r.path hql hpl
      have hip2 : ((0 : Int) < ((j + 1 : Nat) : Int)) = True := eq_true (by omega)
      have hj : IntKind.i64.wrap (((j + 1 : Nat) : Int) - 1) = (j : Int) := w64p (n := j + 1) (by omega) (by omega)
      have hj0 : (0 : Int) ≤ (j : Int) := by omega
      have hjl : j < p.recs.length := by omega
      simp only [recL,nodeL,attrsL,acesL,piecesL,rowL,List.cons_append,List.nil_append] at hdq
      simp only [Bool.true_and] at hr
      cases hle : lessB q.path r.path
      · rw [hle] at cl hr
        refine Yn1 (fa12 @e1 @b1 @e3 @hip @hip2 @hlt @hd @hdq @hj @hj0 @hjl @hmd) ?_;intro K hK
        refine Yc1 (cl) (fa11 @e1 @b1 @e3 @hip @hip2 @hlt @hd @hdq @hj @hj0 @hjl) ?_
        refine hK _ ?_;clear hK K;try refine Wh0 ?_
        refine Yt0 ?_
        refine Yg0 ?_
        refine Ye0 ?_;try (with_reducible exact trivial)
        exact hr
      · rw [hle] at cl hr
        refine Yn1 (fa12 @e1 @b1 @e3 @hip @hip2 @hlt @hd @hdq @hj @hj0 @hjl @hmd) ?_;intro K hK
        refine Yc1 (cl) (fa11 @e1 @b1 @e3 @hip @hip2 @hlt @hd @hdq @hj @hj0 @hjl) ?_
        refine hK _ ?_;clear hK K;try refine Wh0 ?_
        refine Yf0 ?_
        refine Yg1 (fa2 @e3 @hw) ?_
        refine LW_goto ?_;simp only [thenL,jumpsL,inBlockL,twoL,true_and]
        exact ⟨n - 1,by omega,j + 1 + 1,some r.path,by omega,.inr ⟨by omega,r,by rw [Nat.add_sub_cancel];exact hre,rfl⟩,(Yq1 @e1),(Yq1 (fa5 @b1 @pgL.eq_1 @rowL.eq_1 @strsL.eq_1 @intsL.eq_1)),(Yq1 @hw),hr,(Yq1 @hmd)⟩
end Go.Proofs.YteamlijbkldlhaaGreat
end
section
set_option linter.unusedSimpArgs false
set_option linter.unusedVariables false
namespace Go.Proofs.YteamlijbkldlhaaGreat
open Go.RowKit Go.Proofs AclSpec MetaSpec NodeSpec RecSpec PathSpec PageSpec

set_option maxRecDepth 100000 in
set_option maxHeartbeats 4000000 in
theorem pmayInner_L (p : Pg) (h : SmallP p) : LCalls Tryz.prog 126 [.agg (pgL p)] (boolL (mayInner p)) := by
  have hl := h.pages
  refine LCalls.of (fun _ => false) Tryz.func126 rfl (by decide) Tryz.ntmps126 Tryz.results126 (by simp) ?_
  intro w0 S0 vs hgl hwf0 hsz hvs;clear hsz hvs hwf0 hgl
  generalize hR : mayInner p = R
  unfold mayInner at hR
  refine Yg1 (fa4 @pgL.eq_1 @rowL.eq_1 @strsL.eq_1 @intsL.eq_1) ?_
  refine LW_lab1 (fun m st => ∃ (i : Nat) (o : Option (List UInt8 × Int)),m + i = p.pages.length ∧ p.keys.length = p.pages.length ∧ ((i = 0 ∧ o = none) ∨ (0 < i ∧ ∃ k n,p.keys[i - 1]? = some k ∧ p.pages[i - 1]? = some n ∧ o = some (k,n))) ∧ st.env 1 = .ptr 1 0 ∧ st.box 1 = some (pgL p) ∧ st.env 3 = intL i ∧ risesK o (p.keys.drop i) (p.pages.drop i) = R ∧ st.mode = fun _ => false) rfl ?_ ?_
  · intro hJ
    by_cases h1 : p.pages.length < 1
    · have h1i : ((p.pages.length : Int) < 1) = True := eq_true (by omega)
      refine Yg1 @h1i ?_
      refine Yt0 ?_
      refine Yg0 ?_
      refine Ye0 ?_;try (with_reducible exact trivial)
      rw [← hR];simp [h1]
    have h1i : ¬ ((p.pages.length : Int) < 1) := by omega
    by_cases h2 : 4 < p.pages.length
    · have h2i : (4 < (p.pages.length : Int)) = True := eq_true (by omega)
      refine Yg1 (fa2 @h1i @h2i) ?_
      refine Yt0 ?_
      refine Yg0 ?_
      refine Ye0 ?_;try (with_reducible exact trivial)
      rw [← hR];simp [h2]
    have h2i : ¬ (4 < (p.pages.length : Int)) := by omega
    by_cases h3 : p.keys.length = p.pages.length
    rotate_left
    · have h3i : ¬ ((p.keys.length : Int) = (p.pages.length : Int)) := by omega
      refine Yg1 (fa3 @h1i @h2i @h3i) ?_
      refine Yt0 ?_
      refine Yg0 ?_
      refine Ye0 ?_;try (with_reducible exact trivial)
      rw [← hR];simp [h3]
    have h3i : ((p.keys.length : Int) = (p.pages.length : Int)) = True := eq_true (by omega)
    by_cases h4 : 0 < p.recs.length
    · have h4i : (0 < (p.recs.length : Int)) = True := eq_true (by omega)
      refine Yg1 (fa4 @h1i @h2i @h3i @h4i) ?_
      refine Yt0 ?_
      refine Yg0 ?_
      refine Ye0 ?_;try (with_reducible exact trivial)
      rw [← hR];simp [h4]
    have h4i : ¬ (0 < (p.recs.length : Int)) := by omega
    rw [decide_eq_false h1,decide_eq_false h2,decide_eq_true h3,decide_eq_false h4] at hR
    simp only [Bool.not_false,Bool.true_and] at hR
    refine Yg1 (fa4 @h1i @h2i @h3i @h4i) ?_
    refine Yf0 ?_
    refine Yl0 ?_
    exact hJ.out p.pages.length _ ⟨0,none,by omega,h3,.inl ⟨rfl,rfl⟩,Yq0,(Yq1 (fa4 @pgL.eq_1 @rowL.eq_1 @strsL.eq_1 @intsL.eq_1)),Yq0,hR,rfl⟩
  · rintro m st ⟨i,o,hn,h3,ho,e1,b1,e3,hr,hmd⟩
    simp only [pgL,rowL,strsL,intsL] at b1
    by_cases hlt : i < p.pages.length
    rotate_left
    · rw [List.drop_of_length_le (show p.pages.length ≤ i by omega),List.drop_of_length_le (show p.keys.length ≤ i by omega),risesK.eq_def] at hr
      have hin : ((i : Int) = (p.pages.length : Int)) = True := eq_true (by omega)
      refine Yg1 (fa4 @e1 @b1 @e3 @hin) ?_
      refine Yt0 ?_
      refine Yg0 ?_
      refine Ye0 ?_;try (with_reducible exact trivial)
      exact hr
    have hin : ¬ ((i : Int) = (p.pages.length : Int)) := by omega
    have hlk : i < p.keys.length := by omega
    obtain ⟨n,hn'⟩ := get_of_lt hlt
    obtain ⟨k,hk'⟩ := get_of_lt hlk
    have hd := drop_int hn'
    have hdk := drop_str hk'
    have hw := w64s (n := i) (by omega)
    have hip : (0 : Int) ≤ (i : Int) := by omega
    have hkl := h.key k (List.mem_of_getElem? hk')
    have cm := pmay_L k hkl
    rw [risesK_cons hk' hn'] at hr
    refine Yg1 (fa4 @e1 @b1 @e3 @hin) ?_
    refine Yf0 ?_
    by_cases n0 : n < 0
    · have n0i : (n < 0) = True := eq_true n0
      rw [decide_eq_true n0] at hr
      refine Yr1 (fa7 @e1 @b1 @e3 @hip @hlt @hd @n0i) ?_;intro K hK
      refine hK _ ?_;clear hK K;try refine Wh0 ?_
      refine Yt0 ?_
      refine Yg0 ?_
      refine Ye0 ?_;try (with_reducible exact trivial)
      exact hr
    by_cases n1 : 10000 < n
    · have n1i : (10000 < n) = True := eq_true n1
      rw [decide_eq_true n1] at hr
      refine Yr1 (fa8 @e1 @b1 @e3 @hip @hlt @hd @n0 @n1i) ?_;intro K hK
      refine hK _ ?_;clear hK K;try refine Wh0 ?_
      refine Yt0 ?_
      refine Yg0 ?_
      refine Ye0 ?_;try (with_reducible exact trivial)
      rw [← hr];simp
    cases hm : mayB k
    · rw [hm] at cm hr
      refine Yr1 (fa10 @e1 @b1 @e3 @hip @hlt @hlk @hd @hdk @n0 @n1) ?_;intro K hK
      refine Yc1 (cm) (fa10 @e1 @b1 @e3 @hip @hlt @hlk @hd @hdk @n0 @n1) ?_
      refine hK _ ?_;clear hK K;try refine Wh0 ?_
      refine Yt0 ?_
      refine Yg0 ?_
      refine Ye0 ?_;try (with_reducible exact trivial)
      rw [← hr];simp
    rw [hm] at cm hr
    rw [decide_eq_false n0,decide_eq_false n1] at hr
    simp only [Bool.not_false,Bool.true_and] at hr
    refine Yr1 (fa10 @e1 @b1 @e3 @hip @hlt @hlk @hd @hdk @n0 @n1) ?_;intro K hK
    refine Yc1 (cm) (fa10 @e1 @b1 @e3 @hip @hlt @hlk @hd @hdk @n0 @n1) ?_
    refine hK _ ?_;clear hK K;try refine Wh0 ?_
    refine Yf0 ?_
    rcases ho with ⟨rfl,rfl⟩ | ⟨hi0,qk,qn,hqk,hqn,rfl⟩
    · simp only [Bool.true_and] at hr
      refine Yn1 (fa2 @e3 @hmd) ?_;intro K hK
      refine hK _ ?_;clear hK K;try refine Wh0 ?_
      refine Yf0 ?_
      refine Yg1 (fa2 @e3 @hw) ?_
      refine LW_goto ?_;simp only [thenL,jumpsL,inBlockL,twoL,true_and]
      exact ⟨m - 1,by omega,0 + 1,some (k,n),by omega,h3,.inr ⟨by omega,k,n,hk',hn',rfl⟩,(Yq1 @e1),(Yq1 (fa5 @b1 @pgL.eq_1 @rowL.eq_1 @strsL.eq_1 @intsL.eq_1)),(Yq1 @hw),hr,(Yq1 @hmd)⟩
    · obtain ⟨j,rfl⟩ : ∃ j,i = j + 1 := ⟨i - 1,by omega⟩
      rw [Nat.add_sub_cancel] at hqk hqn
      have hdq := drop_int hqn
      have hdqk := drop_str hqk
      have hql := h.key qk (List.mem_of_getElem? hqk)
      have cl := pless_L qk k hql hkl
      have hip2 : ((0 : Int) < ((j + 1 : Nat) : Int)) = True := eq_true (by omega)
      have hj : IntKind.i64.wrap (((j + 1 : Nat) : Int) - 1) = (j : Int) := w64p (n := j + 1) (by omega) (by omega)
      have hj0 : (0 : Int) ≤ (j : Int) := by omega
      have hjl : j < p.pages.length := by omega
      have hjk : j < p.keys.length := by omega
      by_cases hle : n ≤ qn
      · have hlei : (n ≤ qn) = True := eq_true hle
        simp only [hle,decide_true,Bool.not_true,Bool.false_and] at hr
        refine Yn1 (fa17 @e1 @b1 @e3 @hip @hip2 @hlt @hlk @hd @hdk @hdq @hdqk @hj @hj0 @hjl @hjk @hlei @hmd) ?_;intro K hK
        refine hK _ ?_;clear hK K;try refine Wh0 ?_
        refine Yt0 ?_
        refine Yg0 ?_
        refine Ye0 ?_;try (with_reducible exact trivial)
        exact hr
      simp only [hle,decide_false,Bool.not_false,Bool.true_and] at hr
      cases hlb : lessB qk k
      · rw [hlb] at cl hr
        refine Yn1 (fa17 @e1 @b1 @e3 @hip @hip2 @hlt @hlk @hd @hdk @hdq @hdqk @hj @hj0 @hjl @hjk @hle @hmd) ?_;intro K hK
        refine Yc1 (cl) (fa16 @e1 @b1 @e3 @hip @hip2 @hlt @hlk @hd @hdk @hdq @hdqk @hj @hj0 @hjl @hjk @hle) ?_
        refine hK _ ?_;clear hK K;try refine Wh0 ?_
        refine Yt0 ?_
        refine Yg0 ?_
        refine Ye0 ?_;try (with_reducible exact trivial)
        exact hr
      · rw [hlb] at cl hr
        refine Yn1 (fa17 @e1 @b1 @e3 @hip @hip2 @hlt @hlk @hd @hdk @hdq @hdqk @hj @hj0 @hjl @hjk @hle @hmd) ?_;intro K hK
        refine Yc1 (cl) (fa16 @e1 @b1 @e3 @hip @hip2 @hlt @hlk @hd @hdk @hdq @hdqk @hj @hj0 @hjl @hjk @hle) ?_
        refine hK _ ?_;clear hK K;try refine Wh0 ?_
        refine Yf0 ?_
        refine Yg1 (fa2 @e3 @hw) ?_
        refine LW_goto ?_;simp only [thenL,jumpsL,inBlockL,twoL,true_and]
        exact ⟨m - 1,by omega,j + 1 + 1,some (k,n),by omega,h3,.inr ⟨by omega,k,n,by rw [Nat.add_sub_cancel];exact hk',by rw [Nat.add_sub_cancel];exact hn',rfl⟩,(Yq1 @e1),(Yq1 (fa5 @b1 @pgL.eq_1 @rowL.eq_1 @strsL.eq_1 @intsL.eq_1)),(Yq1 @hw),hr,(Yq1 @hmd)⟩
set_option maxRecDepth 100000 in
theorem ppmay_L (p : Pg) (h : SmallP p) : LCalls Tryz.prog 102 [.agg (pgL p)] (boolL (mayPg p)) := by
  have c1 := pmayLeaf_L p h
  have c2 := pmayInner_L p h
  simp only [pgL,rowL,strsL,intsL] at c1 c2
  refine LCalls.of (fun _ => false) Tryz.func102 rfl (by decide) Tryz.ntmps102 Tryz.results102 (by simp) ?_
  intro w0 S0 vs hgl hwf0 hsz hvs;clear hsz hvs hwf0 hgl
  generalize hR : mayPg p = R
  unfold mayPg at hR
  refine Yg1 (fa4 @pgL.eq_1 @rowL.eq_1 @strsL.eq_1 @intsL.eq_1) ?_
  cases hlf : p.leaf
  · rw [hlf] at c1 c2
    rw [hlf,if_neg (by decide)] at hR
    rw [hR] at c2
    refine Yg1 @hlf ?_
    refine Yf0 ?_
    refine Yr1 @hlf ?_;intro K hK
    refine Yc0 (c2) ?_
    refine hK _ ?_;clear hK K;try refine Wh0 ?_
    refine Ye0 ?_;try (with_reducible exact trivial)
  · rw [hlf] at c1 c2
    rw [hlf,if_pos rfl] at hR
    rw [hR] at c1
    refine Yg1 @hlf ?_
    refine Yt0 ?_
    refine Yr1 @hlf ?_;intro K hK
    refine Yc0 (c1) ?_
    refine hK _ ?_;clear hK K;try refine Wh0 ?_
    refine Ye0 ?_;try (with_reducible exact trivial)
end Go.Proofs.YteamlijbkldlhaaGreat
end
