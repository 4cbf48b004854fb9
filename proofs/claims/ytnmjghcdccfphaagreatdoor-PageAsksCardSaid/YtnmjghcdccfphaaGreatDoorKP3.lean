import Derived.Test.YtnmjghcdccfphaaGreatDoorPRef
import Derived.Test.YtnmjghcdccfphaaGreatDoorKUJ
import Derived.Test.YtnmjghcdccfphaaGreatDoorKTB
import Derived.Test.YtnmjghcdccfphaaGreatDoorL25
section
set_option linter.unusedSimpArgs false
set_option linter.unusedVariables false
namespace Go.Proofs.YtnmjghcdccfphaaGreatDoor
open Go.RowKit Go.Proofs AclSpec MetaSpec NodeSpec RecSpec PathSpec PageSpec

def pgL (p : Pg) : List LV := [boolL p.leaf,rowL recL p.recs,strsL p.keys,intsL p.pages]
structure SmallP (p : Pg) : Prop where
 recs : p.recs.length ≤ 1000000
 keys : p.keys.length ≤ 1000000
 pages : p.pages.length ≤ 1000000
 one : ∀ r ∈ p.recs,r.path.length < 1000000 ∧ small r.node
 key : ∀ k ∈ p.keys,k.length < 1000000
theorem risesR_cons {l : List Rec} {i : Nat} {r : Rec} {o : Option (List UInt8)} (h : l[i]? = some r) : risesR o (l.drop i) = (mayRec r && (match o with | none => true | some p => lessB p r.path) && risesR (some r.path) (l.drop (i + 1))) := by
 obtain ⟨hi,rfl⟩ := List.getElem?_eq_some_iff.1 h
 rw [List.drop_eq_getElem_cons hi,risesR.eq_def]
 cases o <;> rfl
theorem risesK_cons {ks : List (List UInt8)} {ns : List Int} {i : Nat} {k : List UInt8} {n : Int} {o : Option (List UInt8 × Int)} (h : ks[i]? = some k) (h2 : ns[i]? = some n) : risesK o (ks.drop i) (ns.drop i) = ((!decide (n < 0) && !decide (10000 < n) && mayB k) && (match o with | none => true | some q => !decide (n ≤ q.2) && lessB q.1 k) && risesK (some (k,n)) (ks.drop (i + 1)) (ns.drop (i + 1))) := by
 obtain ⟨hi,rfl⟩ := List.getElem?_eq_some_iff.1 h
 obtain ⟨hj,rfl⟩ := List.getElem?_eq_some_iff.1 h2
 rw [List.drop_eq_getElem_cons hi,List.drop_eq_getElem_cons hj,risesK.eq_def]
 cases o <;> rfl
set_option maxRecDepth 100000 in
set_option maxHeartbeats 4000000 in
theorem pmayLeaf_L (p : Pg) (h : SmallP p) : LCalls Tryz.prog 30 [.agg (pgL p)] (boolL (mayLeaf p)) := by
 have hl := h.recs
 refine LCalls.of (fun _ => false) Tryz.func30 rfl (by decide) Tryz.ntmps30 Tryz.results30 (by simp) ?_
 intro w0 S0 vs hgl hwf0 hsz hvs;clear hsz hvs hwf0 hgl
 generalize hR : mayLeaf p = R
 unfold mayLeaf at hR
 refine Yg1 (fa4 @pgL.eq_1 @rowL.eq_1 @strsL.eq_1 @intsL.eq_1) ?_
 refine LW_lab1 (fun n st => ∃ (i : Nat) (o : Option (List UInt8)),n + i = p.recs.length ∧ ((i = 0 ∧ o = none) ∨ (0 < i ∧ ∃ r,p.recs[i - 1]? = some r ∧ o = some r.path)) ∧ st.env 1 = .ptr 1 0 ∧ st.box 1 = some (pgL p) ∧ st.env 3 = intL i ∧ risesR o (p.recs.drop i) = R ∧ st.mode = fun _ => false) rfl ?_ ?_
 ·intro hJ
  by_cases h1 : p.recs.length < 1
  ·have h1i : ((p.recs.length : Int) < 1) = True := eq_true (by omega)
   refine Yg1 @h1i ?_
   refine Yt0 ?_
   refine Yg0 ?_
   refine Ye0 ?_;try (with_reducible exact trivial)
   rw [← hR];simp [h1]
  have h1i : ¬ ((p.recs.length : Int) < 1) := by omega
  by_cases h2 : 4 < p.recs.length
  ·have h2i : (4 < (p.recs.length : Int)) = True := eq_true (by omega)
   refine Yg1 (fa2 @h1i @h2i) ?_
   refine Yt0 ?_
   refine Yg0 ?_
   refine Ye0 ?_;try (with_reducible exact trivial)
   rw [← hR];simp [h2]
  have h2i : ¬ (4 < (p.recs.length : Int)) := by omega
  by_cases h3 : 0 < p.keys.length
  ·have h3i : (0 < (p.keys.length : Int)) = True := eq_true (by omega)
   refine Yg1 (fa3 @h1i @h2i @h3i) ?_
   refine Yt0 ?_
   refine Yg0 ?_
   refine Ye0 ?_;try (with_reducible exact trivial)
   rw [← hR];simp [h3]
  have h3i : ¬ (0 < (p.keys.length : Int)) := by omega
  by_cases h4 : 0 < p.pages.length
  ·have h4i : (0 < (p.pages.length : Int)) = True := eq_true (by omega)
   refine Yg1 (fa4 @h1i @h2i @h3i @h4i) ?_
   refine Yt0 ?_
   refine Yg0 ?_
   refine Ye0 ?_;try (with_reducible exact trivial)
   rw [← hR];simp [h4]
  have h4i : ¬ (0 < (p.pages.length : Int)) := by omega
  rw [decide_eq_false h1,decide_eq_false h2,decide_eq_false h3,decide_eq_false h4] at hR
  simp only [Bool.not_false,Bool.true_and] at hR
  refine Yg1 (fa4 @h1i @h2i @h3i @h4i) ?_
  refine Yf0 ?_
  refine Yl0 ?_
  exact hJ.out p.recs.length _ ⟨0,none,by omega,.inl ⟨rfl,rfl⟩,Yq0,(Yq1 (fa4 @pgL.eq_1 @rowL.eq_1 @strsL.eq_1 @intsL.eq_1)),Yq0,hR,rfl⟩
 ·rintro n st ⟨i,o,hn,ho,e1,b1,e3,hr,hmd⟩
  simp only [pgL,rowL,strsL,intsL] at b1
  by_cases hlt : i < p.recs.length
  rotate_left
  ·rw [List.drop_of_length_le (by omega),risesR.eq_def] at hr
   have hin : ((i : Int) = (p.recs.length : Int)) = True := eq_true (by omega)
   refine Yg1 (fa4 @e1 @b1 @e3 @hin) ?_
   refine Yt0 ?_
   refine Yg0 ?_
   refine Ye0 ?_;try (with_reducible exact trivial)
   exact hr
  have hin : ¬ ((i : Int) = (p.recs.length : Int)) := by omega
  obtain ⟨r,hre⟩ := get_of_lt hlt
  have hd := drop_rec hre
  have hw := w64s (n := i) (by omega)
  have hip : (0 : Int) ≤ (i : Int) := by omega
  obtain ⟨hpl,hsm⟩ := h.one r (List.mem_of_getElem? hre)
  have cm := recmay_L r hpl hsm
  rw [risesR_cons hre] at hr
  simp only [recL,nodeL,attrsL,acesL,piecesL,rowL,List.cons_append,List.nil_append] at cm hd
  refine Yg1 (fa4 @e1 @b1 @e3 @hin) ?_
  refine Yf0 ?_
  cases hm : mayRec r
  ·rw [hm] at cm hr
   refine Yr1 (fa6 @e1 @b1 @e3 @hip @hlt @hd) ?_;intro K hK
   refine Yc1 (cm) (fa6 @e1 @b1 @e3 @hip @hlt @hd) ?_
   refine hK _ ?_;clear hK K;try refine Wh0 ?_
   refine Yt0 ?_
   refine Yg0 ?_
   refine Ye0 ?_;try (with_reducible exact trivial)
   exact hr
  rw [hm] at cm hr
  refine Yr1 (fa6 @e1 @b1 @e3 @hip @hlt @hd) ?_;intro K hK
  refine Yc1 (cm) (fa6 @e1 @b1 @e3 @hip @hlt @hd) ?_
  refine hK _ ?_;clear hK K;try refine Wh0 ?_
  refine Yf0 ?_
  rcases ho with ⟨rfl,rfl⟩ | ⟨hi0,q,hq,rfl⟩
  ·simp only [Bool.true_and] at hr
   refine Yn1 (fa2 @e3 @hmd) ?_;intro K hK
   refine hK _ ?_;clear hK K;try refine Wh0 ?_
   refine Yf0 ?_
   refine Yg1 (fa2 @e3 @hw) ?_
   refine LW_goto ?_;simp only [thenL,jumpsL,inBlockL,twoL,true_and]
   exact ⟨n - 1,by omega,0 + 1,some r.path,by omega,.inr ⟨by omega,r,hre,rfl⟩,(Yq1 @e1),(Yq1 (fa5 @b1 @pgL.eq_1 @rowL.eq_1 @strsL.eq_1 @intsL.eq_1)),(Yq1 @hw),hr,(Yq1 @hmd)⟩
  ·obtain ⟨j,rfl⟩ : ∃ j,i = j + 1 := ⟨i - 1,by omega⟩
   rw [Nat.add_sub_cancel] at hq
   have hdq := drop_rec hq
   obtain ⟨hql,_⟩ := h.one q (List.mem_of_getElem? hq)
   have cl := pless_L q.path r.path hql hpl
   have hip2 : ((0 : Int) < ((j + 1 : Nat) : Int)) = True := eq_true (by omega)
   have hj : IntKind.i64.wrap (((j + 1 : Nat) : Int) - 1) = (j : Int) := w64p (n := j + 1) (by omega) (by omega)
   have hj0 : (0 : Int) ≤ (j : Int) := by omega
   have hjl : j < p.recs.length := by omega
   simp only [recL,nodeL,attrsL,acesL,piecesL,rowL,List.cons_append,List.nil_append] at hdq
   simp only [Bool.true_and] at hr
   cases hle : lessB q.path r.path
   ·rw [hle] at cl hr
    refine Yn1 (fa12 @e1 @b1 @e3 @hip @hip2 @hlt @hd @hdq @hj @hj0 @hjl @hmd) ?_;intro K hK
    refine Yc1 (cl) (fa11 @e1 @b1 @e3 @hip @hip2 @hlt @hd @hdq @hj @hj0 @hjl) ?_
    refine hK _ ?_;clear hK K;try refine Wh0 ?_
    refine Yt0 ?_
    refine Yg0 ?_
    refine Ye0 ?_;try (with_reducible exact trivial)
    exact hr
   ·rw [hle] at cl hr
    refine Yn1 (fa12 @e1 @b1 @e3 @hip @hip2 @hlt @hd @hdq @hj @hj0 @hjl @hmd) ?_;intro K hK
    refine Yc1 (cl) (fa11 @e1 @b1 @e3 @hip @hip2 @hlt @hd @hdq @hj @hj0 @hjl) ?_
    refine hK _ ?_;clear hK K;try refine Wh0 ?_
    refine Yf0 ?_
    refine Yg1 (fa2 @e3 @hw) ?_
    refine LW_goto ?_;simp only [thenL,jumpsL,inBlockL,twoL,true_and]
    exact ⟨n - 1,by omega,j + 1 + 1,some r.path,by omega,.inr ⟨by omega,r,by rw [Nat.add_sub_cancel];exact hre,rfl⟩,(Yq1 @e1),(Yq1 (fa5 @b1 @pgL.eq_1 @rowL.eq_1 @strsL.eq_1 @intsL.eq_1)),(Yq1 @hw),hr,(Yq1 @hmd)⟩
end Go.Proofs.YtnmjghcdccfphaaGreatDoor
end
section
set_option linter.unusedSimpArgs false
set_option linter.unusedVariables false
namespace Go.Proofs.YtnmjghcdccfphaaGreatDoor
open Go.RowKit Go.Proofs AclSpec MetaSpec NodeSpec RecSpec PathSpec PageSpec

set_option maxRecDepth 100000 in
set_option maxHeartbeats 4000000 in
theorem pmayInner_L (p : Pg) (h : SmallP p) : LCalls Tryz.prog 31 [.agg (pgL p)] (boolL (mayInner p)) := by
 have hl := h.pages
 refine LCalls.of (fun _ => false) Tryz.func31 rfl (by decide) Tryz.ntmps31 Tryz.results31 (by simp) ?_
 intro w0 S0 vs hgl hwf0 hsz hvs;clear hsz hvs hwf0 hgl
 generalize hR : mayInner p = R
 unfold mayInner at hR
 refine Yg1 (fa4 @pgL.eq_1 @rowL.eq_1 @strsL.eq_1 @intsL.eq_1) ?_
 refine LW_lab1 (fun m st => ∃ (i : Nat) (o : Option (List UInt8 × Int)),m + i = p.pages.length ∧ p.keys.length = p.pages.length ∧ ((i = 0 ∧ o = none) ∨ (0 < i ∧ ∃ k n,p.keys[i - 1]? = some k ∧ p.pages[i - 1]? = some n ∧ o = some (k,n))) ∧ st.env 1 = .ptr 1 0 ∧ st.box 1 = some (pgL p) ∧ st.env 3 = intL i ∧ risesK o (p.keys.drop i) (p.pages.drop i) = R ∧ st.mode = fun _ => false) rfl ?_ ?_
 ·intro hJ
  by_cases h1 : p.pages.length < 1
  ·have h1i : ((p.pages.length : Int) < 1) = True := eq_true (by omega)
   refine Yg1 @h1i ?_
   refine Yt0 ?_
   refine Yg0 ?_
   refine Ye0 ?_;try (with_reducible exact trivial)
   rw [← hR];simp [h1]
  have h1i : ¬ ((p.pages.length : Int) < 1) := by omega
  by_cases h2 : 4 < p.pages.length
  ·have h2i : (4 < (p.pages.length : Int)) = True := eq_true (by omega)
   refine Yg1 (fa2 @h1i @h2i) ?_
   refine Yt0 ?_
   refine Yg0 ?_
   refine Ye0 ?_;try (with_reducible exact trivial)
   rw [← hR];simp [h2]
  have h2i : ¬ (4 < (p.pages.length : Int)) := by omega
  by_cases h3 : p.keys.length = p.pages.length
  rotate_left
  ·have h3i : ¬ ((p.keys.length : Int) = (p.pages.length : Int)) := by omega
   refine Yg1 (fa3 @h1i @h2i @h3i) ?_
   refine Yt0 ?_
   refine Yg0 ?_
   refine Ye0 ?_;try (with_reducible exact trivial)
   rw [← hR];simp [h3]
  have h3i : ((p.keys.length : Int) = (p.pages.length : Int)) = True := eq_true (by omega)
  by_cases h4 : 0 < p.recs.length
  ·have h4i : (0 < (p.recs.length : Int)) = True := eq_true (by omega)
   refine Yg1 (fa4 @h1i @h2i @h3i @h4i) ?_
   refine Yt0 ?_
   refine Yg0 ?_
   refine Ye0 ?_;try (with_reducible exact trivial)
   rw [← hR];simp [h4]
  have h4i : ¬ (0 < (p.recs.length : Int)) := by omega
  rw [decide_eq_false h1,decide_eq_false h2,decide_eq_true h3,decide_eq_false h4] at hR
  simp only [Bool.not_false,Bool.true_and] at hR
  refine Yg1 (fa4 @h1i @h2i @h3i @h4i) ?_
  refine Yf0 ?_
  refine Yl0 ?_
  exact hJ.out p.pages.length _ ⟨0,none,by omega,h3,.inl ⟨rfl,rfl⟩,Yq0,(Yq1 (fa4 @pgL.eq_1 @rowL.eq_1 @strsL.eq_1 @intsL.eq_1)),Yq0,hR,rfl⟩
 ·rintro m st ⟨i,o,hn,h3,ho,e1,b1,e3,hr,hmd⟩
  simp only [pgL,rowL,strsL,intsL] at b1
  by_cases hlt : i < p.pages.length
  rotate_left
  ·rw [List.drop_of_length_le (show p.pages.length ≤ i by omega),List.drop_of_length_le (show p.keys.length ≤ i by omega),risesK.eq_def] at hr
   have hin : ((i : Int) = (p.pages.length : Int)) = True := eq_true (by omega)
   refine Yg1 (fa4 @e1 @b1 @e3 @hin) ?_
   refine Yt0 ?_
   refine Yg0 ?_
   refine Ye0 ?_;try (with_reducible exact trivial)
   exact hr
  have hin : ¬ ((i : Int) = (p.pages.length : Int)) := by omega
  have hlk : i < p.keys.length := by omega
  obtain ⟨n,hn'⟩ := get_of_lt hlt
  obtain ⟨k,hk'⟩ := get_of_lt hlk
  have hd := drop_int hn'
  have hdk := drop_str hk'
  have hw := w64s (n := i) (by omega)
  have hip : (0 : Int) ≤ (i : Int) := by omega
  have hkl := h.key k (List.mem_of_getElem? hk')
  have cm := pmay_L k hkl
  rw [risesK_cons hk' hn'] at hr
  refine Yg1 (fa4 @e1 @b1 @e3 @hin) ?_
  refine Yf0 ?_
  by_cases n0 : n < 0
  ·have n0i : (n < 0) = True := eq_true n0
   rw [decide_eq_true n0] at hr
   refine Yr1 (fa7 @e1 @b1 @e3 @hip @hlt @hd @n0i) ?_;intro K hK
   refine hK _ ?_;clear hK K;try refine Wh0 ?_
   refine Yt0 ?_
   refine Yg0 ?_
   refine Ye0 ?_;try (with_reducible exact trivial)
   exact hr
  by_cases n1 : 10000 < n
  ·have n1i : (10000 < n) = True := eq_true n1
   rw [decide_eq_true n1] at hr
   refine Yr1 (fa8 @e1 @b1 @e3 @hip @hlt @hd @n0 @n1i) ?_;intro K hK
   refine hK _ ?_;clear hK K;try refine Wh0 ?_
   refine Yt0 ?_
   refine Yg0 ?_
   refine Ye0 ?_;try (with_reducible exact trivial)
   rw [← hr];simp
  cases hm : mayB k
  ·rw [hm] at cm hr
   refine Yr1 (fa10 @e1 @b1 @e3 @hip @hlt @hlk @hd @hdk @n0 @n1) ?_;intro K hK
   refine Yc1 (cm) (fa10 @e1 @b1 @e3 @hip @hlt @hlk @hd @hdk @n0 @n1) ?_
   refine hK _ ?_;clear hK K;try refine Wh0 ?_
   refine Yt0 ?_
   refine Yg0 ?_
   refine Ye0 ?_;try (with_reducible exact trivial)
   rw [← hr];simp
  rw [hm] at cm hr
  rw [decide_eq_false n0,decide_eq_false n1] at hr
  simp only [Bool.not_false,Bool.true_and] at hr
  refine Yr1 (fa10 @e1 @b1 @e3 @hip @hlt @hlk @hd @hdk @n0 @n1) ?_;intro K hK
  refine Yc1 (cm) (fa10 @e1 @b1 @e3 @hip @hlt @hlk @hd @hdk @n0 @n1) ?_
  refine hK _ ?_;clear hK K;try refine Wh0 ?_
  refine Yf0 ?_
  rcases ho with ⟨rfl,rfl⟩ | ⟨hi0,qk,qn,hqk,hqn,rfl⟩
  ·simp only [Bool.true_and] at hr
   refine Yn1 (fa2 @e3 @hmd) ?_;intro K hK
   refine hK _ ?_;clear hK K;try refine Wh0 ?_
   refine Yf0 ?_
   refine Yg1 (fa2 @e3 @hw) ?_
   refine LW_goto ?_;simp only [thenL,jumpsL,inBlockL,twoL,true_and]
   exact ⟨m - 1,by omega,0 + 1,some (k,n),by omega,h3,.inr ⟨by omega,k,n,hk',hn',rfl⟩,(Yq1 @e1),(Yq1 (fa5 @b1 @pgL.eq_1 @rowL.eq_1 @strsL.eq_1 @intsL.eq_1)),(Yq1 @hw),hr,(Yq1 @hmd)⟩
  ·obtain ⟨j,rfl⟩ : ∃ j,i = j + 1 := ⟨i - 1,by omega⟩
   rw [Nat.add_sub_cancel] at hqk hqn
   have hdq := drop_int hqn
   have hdqk := drop_str hqk
   have hql := h.key qk (List.mem_of_getElem? hqk)
   have cl := pless_L qk k hql hkl
   have hip2 : ((0 : Int) < ((j + 1 : Nat) : Int)) = True := eq_true (by omega)
   have hj : IntKind.i64.wrap (((j + 1 : Nat) : Int) - 1) = (j : Int) := w64p (n := j + 1) (by omega) (by omega)
   have hj0 : (0 : Int) ≤ (j : Int) := by omega
   have hjl : j < p.pages.length := by omega
   have hjk : j < p.keys.length := by omega
   by_cases hle : n ≤ qn
   ·have hlei : (n ≤ qn) = True := eq_true hle
    simp only [hle,decide_true,Bool.not_true,Bool.false_and] at hr
    refine Yn1 (fa17 @e1 @b1 @e3 @hip @hip2 @hlt @hlk @hd @hdk @hdq @hdqk @hj @hj0 @hjl @hjk @hlei @hmd) ?_;intro K hK
    refine hK _ ?_;clear hK K;try refine Wh0 ?_
    refine Yt0 ?_
    refine Yg0 ?_
    refine Ye0 ?_;try (with_reducible exact trivial)
    exact hr
   simp only [hle,decide_false,Bool.not_false,Bool.true_and] at hr
   cases hlb : lessB qk k
   ·rw [hlb] at cl hr
    refine Yn1 (fa17 @e1 @b1 @e3 @hip @hip2 @hlt @hlk @hd @hdk @hdq @hdqk @hj @hj0 @hjl @hjk @hle @hmd) ?_;intro K hK
    refine Yc1 (cl) (fa16 @e1 @b1 @e3 @hip @hip2 @hlt @hlk @hd @hdk @hdq @hdqk @hj @hj0 @hjl @hjk @hle) ?_
    refine hK _ ?_;clear hK K;try refine Wh0 ?_
    refine Yt0 ?_
    refine Yg0 ?_
    refine Ye0 ?_;try (with_reducible exact trivial)
    exact hr
   ·rw [hlb] at cl hr
    refine Yn1 (fa17 @e1 @b1 @e3 @hip @hip2 @hlt @hlk @hd @hdk @hdq @hdqk @hj @hj0 @hjl @hjk @hle @hmd) ?_;intro K hK
    refine Yc1 (cl) (fa16 @e1 @b1 @e3 @hip @hip2 @hlt @hlk @hd @hdk @hdq @hdqk @hj @hj0 @hjl @hjk @hle) ?_
    refine hK _ ?_;clear hK K;try refine Wh0 ?_
    refine Yf0 ?_
    refine Yg1 (fa2 @e3 @hw) ?_
    refine LW_goto ?_;simp only [thenL,jumpsL,inBlockL,twoL,true_and]
    exact ⟨m - 1,by omega,j + 1 + 1,some (k,n),by omega,h3,.inr ⟨by omega,k,n,by rw [Nat.add_sub_cancel];exact hk',by rw [Nat.add_sub_cancel];exact hn',rfl⟩,(Yq1 @e1),(Yq1 (fa5 @b1 @pgL.eq_1 @rowL.eq_1 @strsL.eq_1 @intsL.eq_1)),(Yq1 @hw),hr,(Yq1 @hmd)⟩
set_option maxRecDepth 100000 in
theorem ppmay_L (p : Pg) (h : SmallP p) : LCalls Tryz.prog 10 [.agg (pgL p)] (boolL (mayPg p)) := by
 have c1 := pmayLeaf_L p h
 have c2 := pmayInner_L p h
 simp only [pgL,rowL,strsL,intsL] at c1 c2
 refine LCalls.of (fun _ => false) Tryz.func10 rfl (by decide) Tryz.ntmps10 Tryz.results10 (by simp) ?_
 intro w0 S0 vs hgl hwf0 hsz hvs;clear hsz hvs hwf0 hgl
 generalize hR : mayPg p = R
 unfold mayPg at hR
 refine Yg1 (fa4 @pgL.eq_1 @rowL.eq_1 @strsL.eq_1 @intsL.eq_1) ?_
 cases hlf : p.leaf
 ·rw [hlf] at c1 c2
  rw [hlf,if_neg (by decide)] at hR
  rw [hR] at c2
  refine Yg1 @hlf ?_
  refine Yf0 ?_
  refine Yr1 @hlf ?_;intro K hK
  refine Yc0 (c2) ?_
  refine hK _ ?_;clear hK K;try refine Wh0 ?_
  refine Ye0 ?_;try (with_reducible exact trivial)
 ·rw [hlf] at c1 c2
  rw [hlf,if_pos rfl] at hR
  rw [hR] at c1
  refine Yg1 @hlf ?_
  refine Yt0 ?_
  refine Yr1 @hlf ?_;intro K hK
  refine Yc0 (c1) ?_
  refine hK _ ?_;clear hK K;try refine Wh0 ?_
  refine Ye0 ?_;try (with_reducible exact trivial)
end Go.Proofs.YtnmjghcdccfphaaGreatDoor
end
section
set_option linter.unusedSimpArgs false
set_option linter.unusedVariables false
namespace Go.Proofs.YtnmjghcdccfphaaGreatDoor
open Nat renaming reduceAdd → zz1,reduceMul → zz2,reduceSub → zz3,reduceLT → zz4,reduceLeDiff → zz5,reduceEqDiff → zz6,reduceBEq → zzf
open Int renaming reduceAdd → zz7,reduceSub → zz8,reduceMul → zz9,reduceLT → zza,reduceLE → zzb,reduceEq → zzc,reduceNeg → zzd,reduceToNat → zze
open Op renaming operands → zo
open Call renaming operands → zc
open Go.RowKit Go.Proofs AclSpec MetaSpec NodeSpec RecSpec PathSpec PageSpec

theorem putKs_cons (k : List UInt8) (ks : List (List UInt8)) (n : Int) (ns : List Int) : putKs (k :: ks) (n :: ns) = putT k ++ putI n ++ putKs ks ns := rfl
theorem putKs_snoc : ∀ {ks : List (List UInt8)} {ns : List Int} {i : Nat} {k : List UInt8} {n : Int},ks[i]? = some k → ns[i]? = some n → putKs (ks.take (i + 1)) (ns.take (i + 1)) = putKs (ks.take i) (ns.take i) ++ putT k ++ putI n
 | [],_,_,_,_,h,_ => by simp at h
 | _ :: _,[],_,_,_,_,h => by simp at h
 | a :: ks,b :: ns,0,k,n,h,h2 => by
  simp at h h2
  subst h h2
  rw [List.take_succ_cons,List.take_succ_cons,putKs_cons]
  simp [putKs]
 | a :: ks,b :: ns,i + 1,k,n,h,h2 => by
  have ih := putKs_snoc (ks := ks) (ns := ns) (i := i) (k := k) (n := n) (by simpa using h) (by simpa using h2)
  rw [List.take_succ_cons,List.take_succ_cons,List.take_succ_cons,List.take_succ_cons,putKs_cons,ih,putKs_cons]
  simp only [List.append_assoc]
theorem putKs_len : ∀ {ks : List (List UInt8)} {ns : List Int},(∀ k ∈ ks,k.length ≤ 100) → (putKs ks ns).length ≤ 134 * ns.length
 | [],_,_ => by simp [putKs]
 | _ :: _,[],_ => by simp [putKs]
 | k :: ks,n :: ns,h => by
  have ih := putKs_len (ks := ks) (ns := ns) fun a ha => h a (List.mem_cons_of_mem _ ha)
  have h1 := h k (List.mem_cons_self ..)
  have h2 := putT_len k (by omega)
  have h3 := putI_len n
  rw [putKs.eq_def]
  simp only [List.length_append,List.length_cons]
  omega
theorem mayLeaf_parts {p : Pg} (h : mayLeaf p = true) : 1 ≤ p.recs.length ∧ p.recs.length ≤ 4 ∧ p.keys = [] ∧ p.pages = [] ∧ ∀ r ∈ p.recs,mayRec r = true := by
 unfold mayLeaf at h
 simp only [Bool.and_eq_true,Bool.not_eq_true',decide_eq_false_iff_not] at h
 obtain ⟨⟨⟨⟨h1,h2⟩,h3⟩,h4⟩,h5⟩ := h
 exact ⟨by omega,by omega,List.eq_nil_of_length_eq_zero (by omega),List.eq_nil_of_length_eq_zero (by omega),risesR_all h5⟩
theorem mayInner_parts {p : Pg} (h : mayInner p = true) : 1 ≤ p.pages.length ∧ p.pages.length ≤ 4 ∧ p.keys.length = p.pages.length ∧ p.recs = [] ∧ (∀ k ∈ p.keys,mayB k = true) ∧ ∀ n ∈ p.pages,0 ≤ n ∧ n ≤ 10000 := by
 unfold mayInner at h
 simp only [Bool.and_eq_true,Bool.not_eq_true',decide_eq_true_eq,decide_eq_false_iff_not] at h
 obtain ⟨⟨⟨⟨h1,h2⟩,h3⟩,h4⟩,h5⟩ := h
 obtain ⟨a1,a2⟩ := risesK_all h5 h3
 exact ⟨by omega,by omega,h3,List.eq_nil_of_length_eq_zero (by omega),a1,a2⟩
theorem putPg_len {p : Pg} (hm : mayPg p = true) (ht : okTime p) : (putPg p).length ≤ 24100 := by
 unfold mayPg at hm
 unfold putPg
 by_cases hl : p.leaf = true
 ·rw [if_pos hl] at hm
  rw [if_pos hl]
  obtain ⟨h1,h2,_,_,h5⟩ := mayLeaf_parts hm
  have h6 := putU_u64 (n := p.recs.length) (by omega)
  have h7 := flat_le putRec 6000 p.recs fun a ha => putRec_len (h5 a ha) (ht a ha)
  simp only [List.length_cons,List.length_append]
  omega
 ·rw [if_neg hl] at hm
  rw [if_neg hl]
  obtain ⟨h1,h2,h3,_,h5,_⟩ := mayInner_parts hm
  have h6 := putU_u64 (n := p.pages.length) (by omega)
  have h7 := putKs_len (ks := p.keys) (ns := p.pages) fun a ha => mayB_len (h5 a ha)
  simp only [List.length_cons,List.length_append]
  omega
set_option maxRecDepth 100000 in
set_option maxHeartbeats 4000000 in
theorem pputLeaf_L (p : Pg) (h : SmallP p) (ht : okTime p) (hm : mayLeaf p = true) : LCalls Tryz.prog 17 [.agg (pgL p)] (.tup [bytesL' (1 :: (putU p.recs.length ++ p.recs.flatMap putRec)),intL 0]) := by
 obtain ⟨hl1,hl4,_,_,hall⟩ := mayLeaf_parts hm
 have cp := nput_O p.recs.length (by omega)
 simp only [u64L] at cp
 have hu := putU_u64 (n := p.recs.length) (by omega)
 have h1 := bL_len (putU p.recs.length)
 have h2 := bL_one (putU p.recs.length)
 have h3 := strip_bL (putU p.recs.length)
 have hcv := wuN (n := p.recs.length) (by omega)
 have hfl := recL_flen p.recs
 refine LCalls.of (fun d => d == 8) Tryz.func17 rfl (by decide) Tryz.ntmps17 Tryz.results17 (by simp) ?_
 intro w0 S0 vs hgl hwf0 hsz hvs;clear hsz hvs hwf0 hgl
 generalize hX : 1 :: (putU p.recs.length ++ p.recs.flatMap putRec) = X
 generalize hU : putU p.recs.length = u at *
 refine Yg1 (fa4 @pgL.eq_1 @rowL.eq_1 @strsL.eq_1 @intsL.eq_1) ?_
 refine LW_lab1 (fun n st => ∃ (i : Nat) (c : List UInt8),n + i = p.recs.length ∧ c = 1 :: (u ++ (p.recs.take i).flatMap putRec) ∧ c.length ≤ 18 + 6000 * i ∧ st.env 1 = .ptr 1 0 ∧ st.box 1 = some (pgL p) ∧ st.env 4 = .sl c.length (bL c) (.row 8) ∧ st.row 8 = some (5,c.length) ∧ st.env 5 = intL i ∧ st.mode = fun d => d == 8) rfl ?_ ?_
 ·intro hJ
  have hmd : (fun d : Nat => d == 8) = fun d : Nat => d == 8 := rfl
  (repeat (first | refine LW_seq ?_ | (refine LW_skip ?_;simp only [LSj,reduceIte,zze]) | refine LW_block ?_));refine LW_regionO [(13,⟨_,_,_,_,_,[],[(2000,1000)],_,[],(cp).toS,rfl,rfl,rfl⟩)] ?_;intro K hK;simp only [LZ,zo,zc,reduceCtorEq,reduceIte,zz1,zz2,zz3,zz4,zz5,zz6,zz7,zz8,zz9,zza,zzb,zzc,zzd,zze,zzf,hcv,h1,h2,h3]
  refine ⟨by (repeat' apply And.intro) <;> first | omega | (unfold maxLen;omega) | (intro _;omega) | decide,?_⟩
  refine hK _ ?_;clear hK K;try refine Wh0 ?_
  refine LW_slim (fun st => st.env 1 = .ptr 1 0 ∧ st.box 1 = some (pgL p) ∧ st.env 4 = .bsl 8 (1 :: u).length 5 ∧ st.arr 8 = some (bL (1 :: u)) ∧ st.mode = fun d => d == 8) ⟨Yq0,(Yq1 (fa4 @pgL.eq_1 @rowL.eq_1 @strsL.eq_1 @intsL.eq_1)),?_,?_,Yq0⟩ ?_
  ·rw [List.length_cons,Nat.add_comm];exact Yq0
  ·have hb1 : bL (1 :: u) = .lit (.int .u8 1) :: bL u := rfl
   rw [hb1];exact Yq0
  rintro st ⟨e1,b1,e4,a8,hmd⟩
  refine LW_rowVar (n := (1 :: u).length) (e := 5) (cs := bL (1 :: u)) 4 8 (Yq1 @e4) (Yq1 @a8) (by rw [show sizeL Tryz.prog 5 = 1 by kernel_rfl,Nat.mul_one];exact bL_len _) (by rw [show sizeL Tryz.prog 5 = 1 by kernel_rfl];decide) ?_
  refine Yl0 ?_
  exact hJ.out p.recs.length _ ⟨0,1 :: u,by omega,by simp,by rw [List.length_cons];omega,(Yq1 @e1),(Yq1 @b1),Yq0,Yq0,Yq0,(Yq1 @hmd)⟩
 ·rintro n st ⟨i,c,hn,hc,hcl,e1,b1,e4,r8,e5,hmd⟩
  simp only [pgL,rowL,strsL,intsL] at b1
  by_cases hlt : i < p.recs.length
  rotate_left
  ·have hin : ((i : Int) = (p.recs.length : Int)) = True := eq_true (by omega)
   rw [List.take_of_length_le (by omega)] at hc
   rw [hX] at hc
   subst hc
   refine Yg1 (fa4 @e1 @b1 @e5 @hin) ?_
   refine Yt0 ?_
   refine LW_plain 4 (n := c.length) (cs := bL c) (t := .row 8) (Yq1 @e4) ?_
   refine Yg0 ?_
   refine Ye1 @bytesL'.eq_1 ?_;try (with_reducible exact trivial)
  have hin : ¬ ((i : Int) = (p.recs.length : Int)) := by omega
  obtain ⟨r,hr⟩ := get_of_lt hlt
  have hrm := List.mem_of_getElem? hr
  obtain ⟨hpl,hsm⟩ := h.one r hrm
  have hm1 := hall r hrm
  have hd := drop_rec hr
  have hw := w64s (n := i) (by omega)
  have hip : (0 : Int) ≤ (i : Int) := by omega
  have cr := rput_L r hpl hsm (ht r hrm)
  rw [show putP r = (putRec r,0) by unfold putP;rw [if_pos hm1]] at cr
  have hpl2 := putRec_len hm1 (ht r hrm)
  have g1 := bL_len (putRec r)
  have g2 := bL_one (putRec r)
  have g3 := strip_bL (putRec r)
  have g4 := bL_len c
  simp only [recL,nodeL,attrsL,acesL,piecesL,rowL,bytesL',List.cons_append,List.nil_append] at cr hd
  have htk : (p.recs.take (i + 1)).flatMap putRec = (p.recs.take i).flatMap putRec ++ putRec r := by
   obtain ⟨hi,rfl⟩ := List.getElem?_eq_some_iff.1 hr
   rw [List.take_succ_eq_append_getElem hi,List.flatMap_append];simp
  generalize hY : putRec r = Y at *
  refine Yg1 (fa4 @e1 @b1 @e5 @hin) ?_
  refine Yf0 ?_
  refine Yr1 (fa6 @e1 @b1 @e5 @hip @hlt @hd) ?_;intro K hK
  refine Yc1 (cr) (fa6 @e1 @b1 @e5 @hip @hlt @hd) ?_
  refine hK _ ?_;clear hK K;try refine Wh0 ?_
  refine Yg0 ?_
  refine Yf0 ?_
  refine Yr1 (fa7 @e4 @r8 @hmd @g1 @g2 @g3 @g4) ?_;intro K hK
  refine ⟨by (repeat' apply And.intro) <;> first | omega | (unfold maxLen;omega) | (intro _;omega) | decide,?_⟩
  refine hK _ ?_;clear hK K;try refine Wh0 ?_
  refine Yg1 (fa2 @e5 @hw) ?_
  refine LW_goto ?_;simp only [thenL,jumpsL,inBlockL,twoL,true_and]
  refine ⟨n - 1,by omega,i + 1,c ++ Y,by omega,by rw [htk,hc];simp,by rw [List.length_append];omega,(Yq1 @e1),(Yq1 (fa5 @b1 @pgL.eq_1 @rowL.eq_1 @strsL.eq_1 @intsL.eq_1)),?_,?_,(Yq1 @hw),(Yq1 @hmd)⟩
  ·rw [List.length_append,bL_app];exact Yq0
  ·rw [List.length_append];exact Yq0
set_option maxRecDepth 100000 in
set_option maxHeartbeats 4000000 in
theorem pputInner_L (p : Pg) (h : SmallP p) (hm : mayInner p = true) : LCalls Tryz.prog 18 [.agg (pgL p)] (bytesL' (2 :: (putU p.pages.length ++ putKs p.keys p.pages))) := by
 obtain ⟨hl1,hl4,hkn,_,hall,hall2⟩ := mayInner_parts hm
 have cp := nput_O p.pages.length (by omega)
 simp only [u64L] at cp
 have hu := putU_u64 (n := p.pages.length) (by omega)
 have h1 := bL_len (putU p.pages.length)
 have h2 := bL_one (putU p.pages.length)
 have h3 := strip_bL (putU p.pages.length)
 have hcv := wuN (n := p.pages.length) (by omega)
 refine LCalls.of (fun d => d == 5) Tryz.func18 rfl (by decide) Tryz.ntmps18 Tryz.results18 (by simp) ?_
 intro w0 S0 vs hgl hwf0 hsz hvs;clear hsz hvs hwf0 hgl
 generalize hX : 2 :: (putU p.pages.length ++ putKs p.keys p.pages) = X
 generalize hU : putU p.pages.length = u at *
 refine Yg1 (fa4 @pgL.eq_1 @rowL.eq_1 @strsL.eq_1 @intsL.eq_1) ?_
 refine LW_lab1 (fun n st => ∃ (i : Nat) (c : List UInt8),n + i = p.pages.length ∧ c = 2 :: (u ++ putKs (p.keys.take i) (p.pages.take i)) ∧ c.length ≤ 18 + 134 * i ∧ st.env 1 = .ptr 1 0 ∧ st.box 1 = some (pgL p) ∧ st.env 3 = .sl c.length (bL c) (.row 5) ∧ st.row 5 = some (5,c.length) ∧ st.env 4 = intL i ∧ st.mode = fun d => d == 5) rfl ?_ ?_
 ·intro hJ
  have hmd : (fun d : Nat => d == 5) = fun d : Nat => d == 5 := rfl
  (repeat (first | refine LW_seq ?_ | (refine LW_skip ?_;simp only [LSj,reduceIte,zze]) | refine LW_block ?_));refine LW_regionO [(10,⟨_,_,_,_,_,[],[(2000,1000)],_,[],(cp).toS,rfl,rfl,rfl⟩)] ?_;intro K hK;simp only [LZ,zo,zc,reduceCtorEq,reduceIte,zz1,zz2,zz3,zz4,zz5,zz6,zz7,zz8,zz9,zza,zzb,zzc,zzd,zze,zzf,hcv,h1,h2,h3]
  refine ⟨by (repeat' apply And.intro) <;> first | omega | (unfold maxLen;omega) | (intro _;omega) | decide,?_⟩
  refine hK _ ?_;clear hK K;try refine Wh0 ?_
  refine LW_slim (fun st => st.env 1 = .ptr 1 0 ∧ st.box 1 = some (pgL p) ∧ st.env 3 = .bsl 5 (2 :: u).length 5 ∧ st.arr 5 = some (bL (2 :: u)) ∧ st.mode = fun d => d == 5) ⟨Yq0,(Yq1 (fa4 @pgL.eq_1 @rowL.eq_1 @strsL.eq_1 @intsL.eq_1)),?_,?_,Yq0⟩ ?_
  ·rw [List.length_cons,Nat.add_comm];exact Yq0
  ·have hb1 : bL (2 :: u) = .lit (.int .u8 2) :: bL u := rfl
   rw [hb1];exact Yq0
  rintro st ⟨e1,b1,e3,a5,hmd⟩
  refine LW_rowVar (n := (2 :: u).length) (e := 5) (cs := bL (2 :: u)) 3 5 (Yq1 @e3) (Yq1 @a5) (by rw [show sizeL Tryz.prog 5 = 1 by kernel_rfl,Nat.mul_one];exact bL_len _) (by rw [show sizeL Tryz.prog 5 = 1 by kernel_rfl];decide) ?_
  refine Yl0 ?_
  exact hJ.out p.pages.length _ ⟨0,2 :: u,by omega,by simp [putKs],by rw [List.length_cons];omega,(Yq1 @e1),(Yq1 @b1),Yq0,Yq0,Yq0,(Yq1 @hmd)⟩
 ·rintro n st ⟨i,c,hn,hc,hcl,e1,b1,e3,r5,e4,hmd⟩
  simp only [pgL,rowL,strsL,intsL] at b1
  by_cases hlt : i < p.pages.length
  rotate_left
  ·have hin : ((i : Int) = (p.pages.length : Int)) = True := eq_true (by omega)
   rw [List.take_of_length_le (show p.keys.length ≤ i by omega),List.take_of_length_le (show p.pages.length ≤ i by omega)] at hc
   rw [hX] at hc
   subst hc
   refine Yg1 (fa4 @e1 @b1 @e4 @hin) ?_
   refine Yt0 ?_
   refine LW_plain 3 (n := c.length) (cs := bL c) (t := .row 5) (Yq1 @e3) ?_
   refine Yg0 ?_
   refine Ye1 @bytesL'.eq_1 ?_;try (with_reducible exact trivial)
  have hin : ¬ ((i : Int) = (p.pages.length : Int)) := by omega
  have hlk : i < p.keys.length := by omega
  obtain ⟨x,hx⟩ := get_of_lt hlt
  obtain ⟨k,hk⟩ := get_of_lt hlk
  have hkl := mayB_len (hall k (List.mem_of_getElem? hk))
  have hd := drop_int hx
  have hdk := drop_str hk
  have hw := w64s (n := i) (by omega)
  have hip : (0 : Int) ≤ (i : Int) := by omega
  have ct := ntext_O k (by omega)
  have cn := nput_O (uI x) (uI_lt x)
  simp only [u64L] at cn
  have hxw := wuI x
  have g1 := bL_len (putT k)
  have g2 := bL_one (putT k)
  have g3 := strip_bL (putT k)
  have g4 := bL_len c
  have g5 := putT_len k (by omega)
  have f1 := bL_len (putU (uI x))
  have f2 := bL_one (putU (uI x))
  have f3 := strip_bL (putU (uI x))
  have f5 := putI_len x
  have htk := putKs_snoc hk hx
  unfold putI at f5 htk
  generalize putT k = Y at *
  generalize putU (uI x) = Z at *
  refine Yg1 (fa4 @e1 @b1 @e4 @hin) ?_
  refine Yf0 ?_
  (repeat (first | refine LW_seq ?_ | (refine LW_skip ?_;simp only [LSj,reduceIte,zze]) | refine LW_block ?_));refine LW_regionO [(24,⟨_,_,_,_,_,[],[(2000,1000)],_,[],(ct).toS,rfl,rfl,rfl⟩)] ?_;intro K hK;simp only [LZ,zo,zc,reduceCtorEq,reduceIte,zz1,zz2,zz3,zz4,zz5,zz6,zz7,zz8,zz9,zza,zzb,zzc,zzd,zze,zzf,e1,b1,e3,e4,r5,hmd,hip,hlk,hdk,g1,g2,g3,g4]
  refine ⟨by (repeat' apply And.intro) <;> first | omega | (unfold maxLen;omega) | (intro _;omega) | decide,?_⟩
  refine hK _ ?_;clear hK K;try refine Wh0 ?_
  refine LW_slim (fun st => st.env 1 = .ptr 1 0 ∧ st.box 1 = some (pgL p) ∧ st.env 3 = .sl (c ++ Y).length (bL (c ++ Y)) (.row 5) ∧ st.row 5 = some (5,(c ++ Y).length) ∧ st.env 4 = intL i ∧ st.mode = fun d => d == 5) ⟨(Yq1 @e1),(Yq1 (fa5 @b1 @pgL.eq_1 @rowL.eq_1 @strsL.eq_1 @intsL.eq_1)),?_,?_,(Yq1 @e4),(Yq1 @hmd)⟩ ?_
  ·rw [List.length_append,bL_app];exact Yq0
  ·rw [List.length_append];exact Yq0
  clear e1 b1 e3 r5 e4 hmd st
  rintro st ⟨e1,b1,e3,r5,e4,hmd⟩
  simp only [pgL,rowL,strsL,intsL] at b1
  have g6 := bL_len (c ++ Y)
  have g7 : (c ++ Y).length = c.length + Y.length := List.length_append
  (repeat (first | refine LW_seq ?_ | (refine LW_skip ?_;simp only [LSj,reduceIte,zze]) | refine LW_block ?_));refine LW_regionO [(33,⟨_,_,_,_,_,[],[(2000,1000)],_,[],(cn).toS,rfl,rfl,rfl⟩)] ?_;intro K hK;simp only [LZ,zo,zc,reduceCtorEq,reduceIte,zz1,zz2,zz3,zz4,zz5,zz6,zz7,zz8,zz9,zza,zzb,zzc,zzd,zze,zzf,e1,b1,e3,e4,r5,hmd,hip,hlt,hd,hxw,f1,f2,f3,g6]
  refine ⟨by (repeat' apply And.intro) <;> first | omega | (unfold maxLen;omega) | (intro _;omega) | decide,?_⟩
  refine hK _ ?_;clear hK K;try refine Wh0 ?_
  refine Yg1 (fa2 @e4 @hw) ?_
  refine LW_goto ?_;simp only [thenL,jumpsL,inBlockL,twoL,true_and]
  refine ⟨n - 1,by omega,i + 1,c ++ Y ++ Z,by omega,by rw [htk,hc];simp,by rw [List.length_append,List.length_append];omega,(Yq1 @e1),(Yq1 (fa5 @b1 @pgL.eq_1 @rowL.eq_1 @strsL.eq_1 @intsL.eq_1)),?_,?_,(Yq1 @hw),(Yq1 @hmd)⟩
  ·rw [List.length_append,bL_app (c ++ Y) Z,g7];exact Yq0
  ·rw [List.length_append,g7];exact Yq0
end Go.Proofs.YtnmjghcdccfphaaGreatDoor
end
