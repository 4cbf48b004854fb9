import Derived.Test.YteamlijbkldlhaaGreatKR4
import Derived.Test.YteamlijbkldlhaaGreatKPD
import Derived.Test.YteamlijbkldlhaaGreatDTab
import Derived.Test.YteamlijbkldlhaaGreatKD5
import Derived.Test.YteamlijbkldlhaaGreatKUJ
section
set_option linter.unusedSimpArgs false
set_option linter.unusedVariables false
namespace Go.Proofs.YteamlijbkldlhaaGreat
open Nat renaming reduceAdd → zz1,reduceMul → zz2,reduceSub → zz3,reduceLT → zz4,reduceLeDiff → zz5,reduceEqDiff → zz6,reduceBEq → zzf
open Int renaming reduceAdd → zz7,reduceSub → zz8,reduceMul → zz9,reduceLT → zza,reduceLE → zzb,reduceEq → zzc,reduceNeg → zzd,reduceToNat → zze
open Go.RowKit Go.Proofs AclSpec MetaSpec NodeSpec RecSpec PathSpec PageSpec DbSpec

set_option maxRecDepth 100000 in
set_option maxHeartbeats 4000000 in
theorem sameRec_L (a : Rec) (ha : small a.node) : LCalls Tryz.prog 22 [.agg (recL a),.agg (recL a)] (boolL true) := by
  have cs := rsameNode_L a.node a.node (okLen_of_small ha) (okLen_of_small ha)
  rw [decide_eq_true rfl] at cs
  simp only [nodeL,attrsL,acesL,piecesL,rowL] at cs
  refine LCalls.of (fun _ => false) Tryz.func22 rfl (by decide) Tryz.ntmps22 Tryz.results22 (by simp) ?_
  intro w0 S0 vs hgl hwf0 hsz hvs;clear hsz hvs hwf0 hgl
  refine Yo1 (fa6 @recL.eq_1 @nodeL.eq_1 @attrsL.eq_1 @acesL.eq_1 @piecesL.eq_1 @rowL.eq_1) ?_
  refine Yr0 ?_;intro K hK
  refine Yc0 (cs) ?_
  refine hK _ ?_;clear hK K;try refine Wh0 ?_
  refine Ye0 ?_;try (with_reducible exact trivial)
theorem drop_recS {l : List Rec} {i : Nat} {a : Rec} (h : l[i]? = some a) : (l.flatMap recL).drop (i * 15) = recL a ++ (l.drop (i + 1)).flatMap recL := drop_flat recL 15 (fun _ => rfl) h
set_option maxRecDepth 100000 in
set_option maxHeartbeats 4000000 in
theorem sameRecs_L (l : List Rec) (hl : l.length ≤ 1000000) (hs : ∀ r ∈ l,small r.node) : LCalls Tryz.prog 24 [rowL recL l,rowL recL l] (boolL true) := by
  refine LCalls.of (fun _ => false) Tryz.func24 rfl (by decide) Tryz.ntmps24 Tryz.results24 (by simp) ?_
  intro w0 S0 vs hgl hwf0 hsz hvs;clear hsz hvs hwf0 hgl
  refine Yg1 @rowL.eq_1 ?_
  refine Yf0 ?_
  refine Yg0 ?_
  refine LW_joinB (fun st => True) ?_ ?_
  · refine LW_loop (fun n st => ∃ i : Nat,n + i = l.length ∧ st.env 0 = rowL recL l ∧ st.env 1 = rowL recL l ∧ st.env 5 = intL i ∧ st.mode = fun _ => false) l.length ⟨0,by omega,(Yq1 @rowL.eq_1),(Yq1 @rowL.eq_1),Yq0,Yq0⟩ ?_
    rintro n st ⟨i,hn,e0,e1,e5,hmd⟩
    simp only [rowL] at e0 e1
    by_cases hlt : i < l.length
    rotate_left
    · have hll : ¬ ((i : Int) < (l.length : Int)) := by omega
      refine Yg1 (fa3 @e0 @e5 @hll) ?_
      refine Yf0 ?_
      refine LW_exit ?_;simp only [thenL,jumpsL,inBlockL,twoL,reduceIte,Nat.reduceEqDiff]
    obtain ⟨r,hr⟩ := get_of_lt hlt
    have hd := drop_recS hr
    have cs := sameRec_L r (hs r (List.mem_of_getElem? hr))
    have hlti : ((i : Int) < (l.length : Int)) = True := eq_true (by omega)
    have hip : (0 : Int) ≤ (i : Int) := by omega
    have hw := w64s (n := i) (by omega)
    simp only [recL,nodeL,attrsL,acesL,piecesL,rowL,List.cons_append,List.nil_append] at hd cs
    refine Yg1 (fa3 @e0 @e5 @hlti) ?_
    refine Yt0 ?_
    refine LW_skip ?_
    simp only [LSj,reduceIte,zze]
    refine LW_seq ?_
    refine LW_block ?_
    (repeat refine LW_seq ?_)
    refine Yn1 (fa7 @e0 @e1 @e5 @hlt @hip @hd @hmd) ?_;intro K hK
    refine Yc1 (cs) (fa7 @e0 @e1 @e5 @hlt @hip @hd @hmd) ?_
    refine hK _ ?_;clear hK K;try refine Wh0 ?_
    refine Yf0 ?_
    refine Yg1 (fa2 @e5 @hw) ?_
    exact ⟨n - 1,by omega,i + 1,by omega,(Yq1 (fa2 @e0 @rowL.eq_1)),(Yq1 (fa2 @e1 @rowL.eq_1)),(Yq1 @hw),(Yq1 @hmd)⟩
  rintro st -
  refine Yg0 ?_
  refine Ye0 ?_;try (with_reducible exact trivial)
end Go.Proofs.YteamlijbkldlhaaGreat
end
section
set_option linter.unusedSimpArgs false
set_option linter.unusedVariables false
namespace Go.Proofs.YteamlijbkldlhaaGreat
open Nat renaming reduceAdd → zz1,reduceMul → zz2,reduceSub → zz3,reduceLT → zz4,reduceLeDiff → zz5,reduceEqDiff → zz6,reduceBEq → zzf
open Int renaming reduceAdd → zz7,reduceSub → zz8,reduceMul → zz9,reduceLT → zza,reduceLE → zzb,reduceEq → zzc,reduceNeg → zzd,reduceToNat → zze
open Go.RowKit Go.Proofs AclSpec MetaSpec NodeSpec RecSpec PathSpec PageSpec DbSpec

set_option maxRecDepth 100000 in
set_option maxHeartbeats 8000000 in
theorem samePage_L (p : Pg) (hs : SmallP p) : LCalls Tryz.prog 44 [.agg (pgL p),.agg (pgL p)] (boolL true) := by
  have hkl := hs.keys
  have hpl := hs.pages
  have cs := sameRecs_L p.recs hs.recs (fun r hr => (hs.one r hr).2)
  simp only [rowL] at cs
  refine LCalls.of (fun _ => false) Tryz.func44 rfl (by decide) Tryz.ntmps44 Tryz.results44 (by simp) ?_
  intro w0 S0 vs hgl hwf0 hsz hvs;clear hsz hvs hwf0 hgl
  refine Yo1 (fa4 @pgL.eq_1 @rowL.eq_1 @strsL.eq_1 @intsL.eq_1) ?_
  (repeat refine LW_seq ?_)
  refine Yr0 ?_;intro K hK
  refine Yc0 (cs) ?_
  refine hK _ ?_;clear hK K;try refine Wh0 ?_
  refine LW_slim (fun st => st.env 2 = .ptr 2 0 ∧ st.box 2 = some [boolL p.leaf,.sl p.recs.length (p.recs.flatMap recL) .no,.sl p.keys.length (p.keys.flatMap strE) .no,.sl p.pages.length (p.pages.flatMap intE) .no] ∧ st.env 3 = .ptr 3 0 ∧ st.box 3 = some [boolL p.leaf,.sl p.recs.length (p.recs.flatMap recL) .no,.sl p.keys.length (p.keys.flatMap strE) .no,.sl p.pages.length (p.pages.flatMap intE) .no] ∧ st.env 37 = boolL false ∧ st.mode = fun _ => false) ⟨Yq0,Yq0,Yq0,Yq0,Yq0,Yq0⟩ ?_
  rintro st ⟨e2,b2,e3,b3,e37,hmd⟩
  refine Yf1 @e37 ?_
  refine Yg0 ?_
  refine LW_joinB (fun st => st.env 2 = .ptr 2 0 ∧ st.box 2 = some [boolL p.leaf,.sl p.recs.length (p.recs.flatMap recL) .no,.sl p.keys.length (p.keys.flatMap strE) .no,.sl p.pages.length (p.pages.flatMap intE) .no] ∧ st.env 3 = .ptr 3 0 ∧ st.box 3 = some [boolL p.leaf,.sl p.recs.length (p.recs.flatMap recL) .no,.sl p.keys.length (p.keys.flatMap strE) .no,.sl p.pages.length (p.pages.flatMap intE) .no] ∧ st.mode = fun _ => false) ?_ ?_
  · refine LW_loop (fun n st => ∃ i : Nat,n + i = p.keys.length ∧ st.env 2 = .ptr 2 0 ∧ st.box 2 = some [boolL p.leaf,.sl p.recs.length (p.recs.flatMap recL) .no,.sl p.keys.length (p.keys.flatMap strE) .no,.sl p.pages.length (p.pages.flatMap intE) .no] ∧ st.env 3 = .ptr 3 0 ∧ st.box 3 = some [boolL p.leaf,.sl p.recs.length (p.recs.flatMap recL) .no,.sl p.keys.length (p.keys.flatMap strE) .no,.sl p.pages.length (p.pages.flatMap intE) .no] ∧ st.env 5 = intL i ∧ st.mode = fun _ => false) p.keys.length ⟨0,by omega,(Yq1 @e2),(Yq1 @b2),(Yq1 @e3),(Yq1 @b3),Yq0,(Yq1 @hmd)⟩ ?_
    clear e2 b2 e3 b3 e37 hmd st
    rintro n st ⟨i,hn,e2,b2,e3,b3,e5,hmd⟩
    by_cases hlt : i < p.keys.length
    rotate_left
    · have hll : ¬ ((i : Int) < (p.keys.length : Int)) := by omega
      refine Yg1 (fa4 @e2 @b2 @e5 @hll) ?_
      refine Yf0 ?_
      refine LW_exit ?_;simp only [thenL,jumpsL,inBlockL,twoL,reduceIte,Nat.reduceEqDiff]
      exact ⟨(Yq1 @e2),(Yq1 @b2),(Yq1 @e3),(Yq1 @b3),(Yq1 @hmd)⟩
    obtain ⟨k,hk⟩ := get_of_lt hlt
    have hd := drop_str hk
    have hlti : ((i : Int) < (p.keys.length : Int)) = True := eq_true (by omega)
    have hip : (0 : Int) ≤ (i : Int) := by omega
    have hw := w64s (n := i) (by omega)
    refine Yg1 (fa4 @e2 @b2 @e5 @hlti) ?_
    refine Yt0 ?_
    refine LW_skip ?_
    simp only [LSj,reduceIte,zze]
    refine LW_seq ?_
    refine LW_block ?_
    (repeat refine LW_seq ?_)
    refine Yn1 (fa9 @e2 @b2 @e3 @b3 @e5 @hlt @hip @hd @hmd) ?_;intro K hK
    refine hK _ ?_;clear hK K;try refine Wh0 ?_
    refine Yf0 ?_
    refine Yg1 (fa2 @e5 @hw) ?_
    exact ⟨n - 1,by omega,i + 1,by omega,(Yq1 @e2),(Yq1 @b2),(Yq1 @e3),(Yq1 @b3),(Yq1 @hw),(Yq1 @hmd)⟩
  clear e2 b2 e3 b3 e37 hmd st
  rintro st ⟨e2,b2,e3,b3,hmd⟩
  refine Yg0 ?_
  refine LW_joinB (fun st => True) ?_ ?_
  · refine LW_loop (fun n st => ∃ i : Nat,n + i = p.pages.length ∧ st.env 2 = .ptr 2 0 ∧ st.box 2 = some [boolL p.leaf,.sl p.recs.length (p.recs.flatMap recL) .no,.sl p.keys.length (p.keys.flatMap strE) .no,.sl p.pages.length (p.pages.flatMap intE) .no] ∧ st.env 3 = .ptr 3 0 ∧ st.box 3 = some [boolL p.leaf,.sl p.recs.length (p.recs.flatMap recL) .no,.sl p.keys.length (p.keys.flatMap strE) .no,.sl p.pages.length (p.pages.flatMap intE) .no] ∧ st.env 6 = intL i ∧ st.mode = fun _ => false) p.pages.length ⟨0,by omega,(Yq1 @e2),(Yq1 @b2),(Yq1 @e3),(Yq1 @b3),Yq0,(Yq1 @hmd)⟩ ?_
    clear e2 b2 e3 b3 hmd st
    rintro n st ⟨i,hn,e2,b2,e3,b3,e6,hmd⟩
    by_cases hlt : i < p.pages.length
    rotate_left
    · have hll : ¬ ((i : Int) < (p.pages.length : Int)) := by omega
      refine Yg1 (fa4 @e2 @b2 @e6 @hll) ?_
      refine Yf0 ?_
      refine LW_exit ?_;simp only [thenL,jumpsL,inBlockL,twoL,reduceIte,Nat.reduceEqDiff]
    obtain ⟨k,hk⟩ := get_of_lt hlt
    have hd := drop_int hk
    have hlti : ((i : Int) < (p.pages.length : Int)) = True := eq_true (by omega)
    have hip : (0 : Int) ≤ (i : Int) := by omega
    have hw := w64s (n := i) (by omega)
    refine Yg1 (fa4 @e2 @b2 @e6 @hlti) ?_
    refine Yt0 ?_
    refine LW_skip ?_
    simp only [LSj,reduceIte,zze]
    refine LW_seq ?_
    refine LW_block ?_
    (repeat refine LW_seq ?_)
    refine Yn1 (fa9 @e2 @b2 @e3 @b3 @e6 @hlt @hip @hd @hmd) ?_;intro K hK
    refine hK _ ?_;clear hK K;try refine Wh0 ?_
    refine Yf0 ?_
    refine Yg1 (fa2 @e6 @hw) ?_
    exact ⟨n - 1,by omega,i + 1,by omega,(Yq1 @e2),(Yq1 @b2),(Yq1 @e3),(Yq1 @b3),(Yq1 @hw),(Yq1 @hmd)⟩
  rintro st -
  refine Yg0 ?_
  refine Ye0 ?_;try (with_reducible exact trivial)
set_option maxRecDepth 100000 in
set_option maxHeartbeats 8000000 in
theorem samePages_L (ps : List Pg) (hl : ps.length ≤ 1000000) (hs : ∀ x ∈ ps,SmallP x) : LCalls Tryz.prog 16 [rowL pgL ps,rowL pgL ps] (boolL true) := by
  refine LCalls.of (fun _ => false) Tryz.func16 rfl (by decide) Tryz.ntmps16 Tryz.results16 (by simp) ?_
  intro w0 S0 vs hgl hwf0 hsz hvs;clear hsz hvs hwf0 hgl
  refine Yg1 @rowL.eq_1 ?_
  refine Yf0 ?_
  refine Yg0 ?_
  refine LW_joinB (fun st => True) ?_ ?_
  · refine LW_loop (fun n st => ∃ i : Nat,n + i = ps.length ∧ st.env 0 = rowL pgL ps ∧ st.env 1 = rowL pgL ps ∧ st.env 5 = intL i ∧ st.mode = fun _ => false) ps.length ⟨0,by omega,(Yq1 @rowL.eq_1),(Yq1 @rowL.eq_1),Yq0,Yq0⟩ ?_
    rintro n st ⟨i,hn,e0,e1,e5,hmd⟩
    simp only [rowL] at e0 e1
    by_cases hlt : i < ps.length
    rotate_left
    · have hll : ¬ ((i : Int) < (ps.length : Int)) := by omega
      refine Yg1 (fa3 @e0 @e5 @hll) ?_
      refine Yf0 ?_
      refine LW_exit ?_;simp only [thenL,jumpsL,inBlockL,twoL,reduceIte,Nat.reduceEqDiff]
    obtain ⟨x,hx⟩ := get_of_lt hlt
    have hd := drop_pg hx
    have cs := samePage_L x (hs x (List.mem_of_getElem? hx))
    have hlti : ((i : Int) < (ps.length : Int)) = True := eq_true (by omega)
    have hip : (0 : Int) ≤ (i : Int) := by omega
    have hw := w64s (n := i) (by omega)
    simp only [pgL,rowL,strsL,intsL,List.cons_append,List.nil_append] at hd cs
    refine Yg1 (fa3 @e0 @e5 @hlti) ?_
    refine Yt0 ?_
    refine LW_skip ?_
    simp only [LSj,reduceIte,zze]
    refine LW_seq ?_
    refine LW_block ?_
    (repeat refine LW_seq ?_)
    refine Yn1 (fa7 @e0 @e1 @e5 @hlt @hip @hd @hmd) ?_;intro K hK
    refine Yc1 (cs) (fa7 @e0 @e1 @e5 @hlt @hip @hd @hmd) ?_
    refine hK _ ?_;clear hK K;try refine Wh0 ?_
    refine Yf0 ?_
    refine Yg1 (fa2 @e5 @hw) ?_
    exact ⟨n - 1,by omega,i + 1,by omega,(Yq1 (fa2 @e0 @rowL.eq_1)),(Yq1 (fa2 @e1 @rowL.eq_1)),(Yq1 @hw),(Yq1 @hmd)⟩
  rintro st -
  refine Yg0 ?_
  refine Ye0 ?_;try (with_reducible exact trivial)
end Go.Proofs.YteamlijbkldlhaaGreat
end
