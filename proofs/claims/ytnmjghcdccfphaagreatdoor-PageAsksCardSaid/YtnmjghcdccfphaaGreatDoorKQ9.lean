import Derived.Test.YtnmjghcdccfphaaGreatDoorKR4
import Derived.Test.YtnmjghcdccfphaaGreatDoorKP6
import Derived.Test.YtnmjghcdccfphaaGreatDoorKPD
import Derived.Test.YtnmjghcdccfphaaGreatDoorKQ7
import Derived.Test.YtnmjghcdccfphaaGreatDoorKP9
section
set_option linter.unusedSimpArgs false
set_option linter.unusedVariables false
namespace Go.Proofs.YtnmjghcdccfphaaGreatDoor
open Nat renaming reduceAdd → zz1,reduceMul → zz2,reduceSub → zz3,reduceLT → zz4,reduceLeDiff → zz5,reduceEqDiff → zz6,reduceBEq → zzf
open Int renaming reduceAdd → zz7,reduceSub → zz8,reduceMul → zz9,reduceLT → zza,reduceLE → zzb,reduceEq → zzc,reduceNeg → zzd,reduceToNat → zze
open Go.RowKit Go.Proofs AclSpec MetaSpec NodeSpec RecSpec PathSpec PageSpec

set_option maxRecDepth 100000 in
set_option maxHeartbeats 4000000 in
theorem sameRecQ_L (a b : Rec) (ha : okLen a.node) (hb : okLen b.node) : LCalls Tryz.prog 60 [.agg (recL a),.agg (recL b)] (boolL (decide (a = b))) := by
 have c := rsameNode_L a.node b.node ha hb
 simp only [nodeL,attrsL,acesL,piecesL,rowL] at c
 have hR : decide (a = b) = (decide (a.path = b.path) && decide (a.lead = b.lead) && decide (a.pos = b.pos) && decide (a.node = b.node)) := by
  obtain ⟨p,l,n,q⟩ := a
  obtain ⟨p2,l2,n2,q2⟩ := b
  rw [Bool.eq_iff_iff]
  simp only [Rec.mk.injEq,decide_eq_true_eq,Bool.and_eq_true]
  exact ⟨fun ⟨a,b,c,d⟩ => ⟨⟨⟨a,b⟩,d⟩,c⟩,fun ⟨⟨⟨a,b⟩,d⟩,c⟩ => ⟨a,b,c,d⟩⟩
 refine LCalls.of (fun _ => false) Tryz.func60 rfl (by decide) Tryz.ntmps60 Tryz.results60 (by simp) ?_
 intro w0 S0 vs hgl hwf0 hsz hvs;clear hsz hvs hwf0 hgl
 rw [hR]
 refine Yo1 (fa6 @recL.eq_1 @nodeL.eq_1 @attrsL.eq_1 @acesL.eq_1 @piecesL.eq_1 @rowL.eq_1) ?_
 by_cases h1 : a.path = b.path
 rotate_left
 ·refine Yr1 @h1 ?_;intro K hK
  refine hK _ ?_;clear hK K;try refine Wh0 ?_
  refine Ye0 ?_;try (with_reducible exact trivial)
  simp [h1]
 by_cases h2 : a.lead = b.lead
 rotate_left
 ·refine Yr1 (fa2 @h1 @h2) ?_;intro K hK
  refine hK _ ?_;clear hK K;try refine Wh0 ?_
  refine Ye0 ?_;try (with_reducible exact trivial)
  simp [h1,h2]
 by_cases h3 : a.pos = b.pos
 rotate_left
 ·refine Yr1 (fa3 @h1 @h2 @h3) ?_;intro K hK
  refine hK _ ?_;clear hK K;try refine Wh0 ?_
  refine Ye0 ?_;try (with_reducible exact trivial)
  simp [h1,h2,h3]
 refine Yr1 (fa3 @h1 @h2 @h3) ?_;intro K hK
 refine Yc0 (c) ?_
 refine hK _ ?_;clear hK K;try refine Wh0 ?_
 refine Ye0 ?_;try (with_reducible exact trivial)
 simp [h1,h2,h3]
set_option maxRecDepth 100000 in
set_option maxHeartbeats 4000000 in
theorem sameRecsQ_L (l m : List Rec) (hl : l.length ≤ maxLen) (hm : m.length ≤ maxLen) (h1 : ∀ r ∈ l,okLen r.node) (h2 : ∀ r ∈ m,okLen r.node) : LCalls Tryz.prog 35 [rowL recL l,rowL recL m] (boolL (decide (l = m))) := by
 unfold maxLen at hl hm
 refine LCalls.of (fun _ => false) Tryz.func35 rfl (by decide) Tryz.ntmps35 Tryz.results35 (by simp) ?_
 intro w0 S0 vs hgl hwf0 hsz hvs;clear hsz hvs hwf0 hgl
 generalize hR : decide (l = m) = R
 refine Yg1 @rowL.eq_1 ?_
 by_cases hlen : (l.length : Int) = m.length
 rotate_left
 ·refine Yt1 @hlen ?_
  refine Yg0 ?_
  refine Ye0 ?_;try (with_reducible exact trivial)
  rw [← hR];simp;rintro rfl;exact hlen rfl
 refine Yf1 @hlen ?_
 refine Yg0 ?_
 refine LW_joinB (fun st => l = m) ?_ ?_
 ·refine LW_loop (fun n st => ∃ i : Nat,n + i = l.length ∧ l.take i = m.take i ∧ st.env 0 = rowL recL l ∧ st.env 1 = rowL recL m ∧ st.env 5 = intL i ∧ (st.mode = fun _ => false)) l.length ⟨0,by omega,rfl,(Yq1 @rowL.eq_1),(Yq1 @rowL.eq_1),Yq0,Yq0⟩ ?_
  rintro n st ⟨i,hn,ht,e0,e1,e5,hmd⟩
  simp only [rowL] at e0 e1
  by_cases hlt : i < l.length
  rotate_left
  ·have hll : ¬ ((i : Int) < (l.length : Int)) := by omega
   refine Yg1 (fa3 @e0 @e5 @hll) ?_
   refine Yf0 ?_
   refine LW_exit ?_;simp only [thenL,jumpsL,inBlockL,twoL,reduceIte,Nat.reduceEqDiff]
   rw [List.take_of_length_le (by omega),List.take_of_length_le (by omega)] at ht
   exact ht
  have hltm : i < m.length := by omega
  obtain ⟨r,hr⟩ := get_of_lt hlt
  obtain ⟨q,hq⟩ := get_of_lt hltm
  have hd := drop_rec hr
  have hdq := drop_rec hq
  have cs := sameRecQ_L r q (h1 r (List.mem_of_getElem? hr)) (h2 q (List.mem_of_getElem? hq))
  have hlti : ((i : Int) < (l.length : Int)) = True := eq_true (by omega)
  have hip : (0 : Int) ≤ (i : Int) := by omega
  have hw := w64s (n := i) (by omega)
  simp only [recL,nodeL,attrsL,acesL,piecesL,rowL,List.cons_append,List.nil_append] at hd hdq cs
  refine Yg1 (fa3 @e0 @e5 @hlti) ?_
  refine Yt0 ?_
  refine LW_skip ?_
  simp only [LSj,reduceIte,zze]
  refine LW_seq ?_
  refine LW_block ?_
  (repeat refine LW_seq ?_)
  by_cases he : r = q
  ·rw [decide_eq_true he] at cs
   refine Yn1 (fa9 @e0 @e1 @e5 @hlt @hltm @hip @hd @hdq @hmd) ?_;intro K hK
   refine Yc1 (cs) (fa9 @e0 @e1 @e5 @hlt @hltm @hip @hd @hdq @hmd) ?_
   refine hK _ ?_;clear hK K;try refine Wh0 ?_
   refine Yf0 ?_
   refine Yg1 (fa2 @e5 @hw) ?_
   exact ⟨n - 1,by omega,i + 1,by omega,take_succ_eq ht hr hq he,(Yq1 (fa2 @e0 @rowL.eq_1)),(Yq1 (fa2 @e1 @rowL.eq_1)),(Yq1 @hw),(Yq1 @hmd)⟩
  ·rw [decide_eq_false he] at cs
   refine Yn1 (fa9 @e0 @e1 @e5 @hlt @hltm @hip @hd @hdq @hmd) ?_;intro K hK
   refine Yc1 (cs) (fa9 @e0 @e1 @e5 @hlt @hltm @hip @hd @hdq @hmd) ?_
   refine hK _ ?_;clear hK K;try refine Wh0 ?_
   refine Yt0 ?_
   refine Yg0 ?_
   refine Ye0 ?_;try (with_reducible exact trivial)
   rw [← hR];simp [ne_of_get hr hq he]
 rintro st he
 refine Yg0 ?_
 refine Ye0 ?_;try (with_reducible exact trivial)
 rw [← hR,decide_eq_true he]
set_option maxRecDepth 100000 in
set_option maxHeartbeats 8000000 in
theorem samePageQ_L (a b : Pg) (ha : okPg a) (hb : okPg b) : LCalls Tryz.prog 12 [.agg (pgL a),.agg (pgL b)] (boolL (decide (a = b))) := by
 obtain ⟨a1,a2,a3,a4⟩ := ha
 obtain ⟨b1,b2,b3,b4⟩ := hb
 have cs := sameRecsQ_L a.recs b.recs a1 b1 a4 b4
 simp only [rowL] at cs
 unfold maxLen at a1 a2 a3 b1 b2 b3
 refine LCalls.of (fun _ => false) Tryz.func12 rfl (by decide) Tryz.ntmps12 Tryz.results12 (by simp) ?_
 intro w0 S0 vs hgl hwf0 hsz hvs;clear hsz hvs hwf0 hgl
 generalize hR : decide (a = b) = R
 rw [samePg_eq] at hR
 refine Yo1 (fa4 @pgL.eq_1 @rowL.eq_1 @strsL.eq_1 @intsL.eq_1) ?_
 (repeat refine LW_seq ?_)
 by_cases h1 : a.leaf = b.leaf
 rotate_left
 ·have hb1 : (a.leaf == b.leaf) = false := by simp [h1]
  refine Yr1 @hb1 ?_;intro K hK
  refine hK _ ?_;clear hK K;try refine Wh0 ?_
  refine Yt0 ?_
  refine Yg0 ?_
  refine Ye0 ?_;try (with_reducible exact trivial)
  rw [← hR];simp [h1]
 have hb1 : (a.leaf == b.leaf) = true := by rw [h1];simp
 by_cases h2 : a.recs = b.recs
 rotate_left
 ·rw [decide_eq_false h2] at cs
  refine Yr1 @hb1 ?_;intro K hK
  refine Yc1 (cs) @hb1 ?_
  refine hK _ ?_;clear hK K;try refine Wh0 ?_
  refine Yt0 ?_
  refine Yg0 ?_
  refine Ye0 ?_;try (with_reducible exact trivial)
  rw [← hR];simp [h2]
 rw [decide_eq_true h2] at cs
 by_cases h3 : (a.keys.length : Int) = (b.keys.length : Int)
 rotate_left
 ·refine Yr1 (fa2 @hb1 @h3) ?_;intro K hK
  refine Yc1 (cs) (fa2 @hb1 @h3) ?_
  refine hK _ ?_;clear hK K;try refine Wh0 ?_
  refine Yt0 ?_
  refine Yg0 ?_
  refine Ye0 ?_;try (with_reducible exact trivial)
  have : a.keys ≠ b.keys := by rintro c;rw [c] at h3;exact h3 rfl
  rw [← hR];simp [this]
 by_cases h4 : (a.pages.length : Int) = (b.pages.length : Int)
 rotate_left
 ·refine Yr1 (fa3 @hb1 @h3 @h4) ?_;intro K hK
  refine Yc1 (cs) (fa3 @hb1 @h3 @h4) ?_
  refine hK _ ?_;clear hK K;try refine Wh0 ?_
  refine Yt0 ?_
  refine Yg0 ?_
  refine Ye0 ?_;try (with_reducible exact trivial)
  have : a.pages ≠ b.pages := by rintro c;rw [c] at h4;exact h4 rfl
  rw [← hR];simp [this]
 refine Yr1 (fa3 @hb1 @h3 @h4) ?_;intro K hK
 refine Yc1 (cs) (fa3 @hb1 @h3 @h4) ?_
 refine hK _ ?_;clear hK K;try refine Wh0 ?_
 refine LW_slim (fun st => st.env 2 = .ptr 2 0 ∧ st.box 2 = some [boolL a.leaf,.sl a.recs.length (a.recs.flatMap recL) .no,.sl a.keys.length (a.keys.flatMap strE) .no,.sl a.pages.length (a.pages.flatMap intE) .no] ∧ st.env 3 = .ptr 3 0 ∧ st.box 3 = some [boolL b.leaf,.sl b.recs.length (b.recs.flatMap recL) .no,.sl b.keys.length (b.keys.flatMap strE) .no,.sl b.pages.length (b.pages.flatMap intE) .no] ∧ (st.mode = fun _ => false) ∧ st.env 37 = boolL false) ⟨Yq0,Yq0,Yq0,Yq0,Yq0,Yq0⟩ ?_
 rintro st ⟨e2,x2,e3,x3,hmd,e37⟩
 refine Yf1 @e37 ?_
 refine Yg0 ?_
 refine LW_joinB (fun st => st.env 2 = .ptr 2 0 ∧ st.box 2 = some [boolL a.leaf,.sl a.recs.length (a.recs.flatMap recL) .no,.sl a.keys.length (a.keys.flatMap strE) .no,.sl a.pages.length (a.pages.flatMap intE) .no] ∧ st.env 3 = .ptr 3 0 ∧ st.box 3 = some [boolL b.leaf,.sl b.recs.length (b.recs.flatMap recL) .no,.sl b.keys.length (b.keys.flatMap strE) .no,.sl b.pages.length (b.pages.flatMap intE) .no] ∧ (st.mode = fun _ => false) ∧ a.keys = b.keys) ?_ ?_
 ·refine LW_loop (fun n st => ∃ i : Nat,n + i = a.keys.length ∧ a.keys.take i = b.keys.take i ∧ st.env 2 = .ptr 2 0 ∧ st.box 2 = some [boolL a.leaf,.sl a.recs.length (a.recs.flatMap recL) .no,.sl a.keys.length (a.keys.flatMap strE) .no,.sl a.pages.length (a.pages.flatMap intE) .no] ∧ st.env 3 = .ptr 3 0 ∧ st.box 3 = some [boolL b.leaf,.sl b.recs.length (b.recs.flatMap recL) .no,.sl b.keys.length (b.keys.flatMap strE) .no,.sl b.pages.length (b.pages.flatMap intE) .no] ∧ (st.mode = fun _ => false) ∧ st.env 5 = intL i) a.keys.length ⟨0,by omega,rfl,(Yq1 @e2),(Yq1 @x2),(Yq1 @e3),(Yq1 @x3),(Yq1 @hmd),Yq0⟩ ?_
  clear e2 x2 e3 x3 hmd e37 st
  rintro n st ⟨i,hn,ht,e2,x2,e3,x3,hmd,e5⟩
  by_cases hlt : i < a.keys.length
  rotate_left
  ·have hll : ¬ ((i : Int) < (a.keys.length : Int)) := by omega
   refine Yg1 (fa4 @e2 @x2 @e5 @hll) ?_
   refine Yf0 ?_
   refine LW_exit ?_;simp only [thenL,jumpsL,inBlockL,twoL,reduceIte,Nat.reduceEqDiff]
   rw [List.take_of_length_le (by omega),List.take_of_length_le (by omega)] at ht
   exact ⟨(Yq1 @e2),(Yq1 @x2),(Yq1 @e3),(Yq1 @x3),(Yq1 @hmd),ht⟩
  have hltm : i < b.keys.length := by omega
  obtain ⟨x,hx⟩ := get_of_lt hlt
  obtain ⟨y,hy⟩ := get_of_lt hltm
  have hda := drop_str hx
  have hdb := drop_str hy
  have hlti : ((i : Int) < (a.keys.length : Int)) = True := eq_true (by omega)
  have hip : (0 : Int) ≤ (i : Int) := by omega
  have hw := w64s (n := i) (by omega)
  refine Yg1 (fa4 @e2 @x2 @e5 @hlti) ?_
  refine Yt0 ?_
  refine LW_skip ?_
  simp only [LSj,reduceIte,zze]
  refine LW_seq ?_
  refine LW_block ?_
  (repeat refine LW_seq ?_)
  by_cases he : x = y
  ·refine Yn1 (fa12 @e2 @x2 @e3 @x3 @e5 @hlt @hltm @hip @hda @hdb @he @hmd) ?_;intro K hK
   refine hK _ ?_;clear hK K;try refine Wh0 ?_
   refine Yf0 ?_
   refine Yg1 (fa2 @e5 @hw) ?_
   exact ⟨n - 1,by omega,i + 1,by omega,take_succ_eq ht hx hy he,(Yq1 @e2),(Yq1 @x2),(Yq1 @e3),(Yq1 @x3),(Yq1 @hmd),(Yq1 @hw)⟩
  ·refine Yn1 (fa12 @e2 @x2 @e3 @x3 @e5 @hlt @hltm @hip @hda @hdb @he @hmd) ?_;intro K hK
   refine hK _ ?_;clear hK K;try refine Wh0 ?_
   refine Yt0 ?_
   refine Yg0 ?_
   refine Ye0 ?_;try (with_reducible exact trivial)
   rw [← hR];simp [ne_of_get hx hy he]
 clear e2 x2 e3 x3 hmd e37 st
 rintro st ⟨e2,x2,e3,x3,hmd,k3⟩
 refine Yg0 ?_
 refine LW_joinB (fun st => a.pages = b.pages) ?_ ?_
 ·refine LW_loop (fun n st => ∃ i : Nat,n + i = a.pages.length ∧ a.pages.take i = b.pages.take i ∧ st.env 2 = .ptr 2 0 ∧ st.box 2 = some [boolL a.leaf,.sl a.recs.length (a.recs.flatMap recL) .no,.sl a.keys.length (a.keys.flatMap strE) .no,.sl a.pages.length (a.pages.flatMap intE) .no] ∧ st.env 3 = .ptr 3 0 ∧ st.box 3 = some [boolL b.leaf,.sl b.recs.length (b.recs.flatMap recL) .no,.sl b.keys.length (b.keys.flatMap strE) .no,.sl b.pages.length (b.pages.flatMap intE) .no] ∧ (st.mode = fun _ => false) ∧ st.env 6 = intL i) a.pages.length ⟨0,by omega,rfl,(Yq1 @e2),(Yq1 @x2),(Yq1 @e3),(Yq1 @x3),(Yq1 @hmd),Yq0⟩ ?_
  clear e2 x2 e3 x3 hmd st
  rintro n st ⟨i,hn,ht,e2,x2,e3,x3,hmd,e6⟩
  by_cases hlt : i < a.pages.length
  rotate_left
  ·have hll : ¬ ((i : Int) < (a.pages.length : Int)) := by omega
   refine Yg1 (fa4 @e2 @x2 @e6 @hll) ?_
   refine Yf0 ?_
   refine LW_exit ?_;simp only [thenL,jumpsL,inBlockL,twoL,reduceIte,Nat.reduceEqDiff]
   rw [List.take_of_length_le (by omega),List.take_of_length_le (by omega)] at ht
   exact ht
  have hltm : i < b.pages.length := by omega
  obtain ⟨x,hx⟩ := get_of_lt hlt
  obtain ⟨y,hy⟩ := get_of_lt hltm
  have hda := drop_int hx
  have hdb := drop_int hy
  have hlti : ((i : Int) < (a.pages.length : Int)) = True := eq_true (by omega)
  have hip : (0 : Int) ≤ (i : Int) := by omega
  have hw := w64s (n := i) (by omega)
  refine Yg1 (fa4 @e2 @x2 @e6 @hlti) ?_
  refine Yt0 ?_
  refine LW_skip ?_
  simp only [LSj,reduceIte,zze]
  refine LW_seq ?_
  refine LW_block ?_
  (repeat refine LW_seq ?_)
  by_cases he : x = y
  ·refine Yn1 (fa12 @e2 @x2 @e3 @x3 @e6 @hlt @hltm @hip @hda @hdb @he @hmd) ?_;intro K hK
   refine hK _ ?_;clear hK K;try refine Wh0 ?_
   refine Yf0 ?_
   refine Yg1 (fa2 @e6 @hw) ?_
   exact ⟨n - 1,by omega,i + 1,by omega,take_succ_eq ht hx hy he,(Yq1 @e2),(Yq1 @x2),(Yq1 @e3),(Yq1 @x3),(Yq1 @hmd),(Yq1 @hw)⟩
  ·refine Yn1 (fa12 @e2 @x2 @e3 @x3 @e6 @hlt @hltm @hip @hda @hdb @he @hmd) ?_;intro K hK
   refine hK _ ?_;clear hK K;try refine Wh0 ?_
   refine Yt0 ?_
   refine Yg0 ?_
   refine Ye0 ?_;try (with_reducible exact trivial)
   rw [← hR];simp [ne_of_get hx hy he]
 rintro st k4
 refine Yg0 ?_
 refine Ye0 ?_;try (with_reducible exact trivial)
 rw [← hR];simp [h1,h2,k3,k4]
end Go.Proofs.YtnmjghcdccfphaaGreatDoor
end
section
set_option linter.unusedSimpArgs false
set_option linter.unusedVariables false
namespace Go.Proofs.YtnmjghcdccfphaaGreatDoor
open Nat renaming reduceAdd → zz1,reduceMul → zz2,reduceSub → zz3,reduceLT → zz4,reduceLeDiff → zz5,reduceEqDiff → zz6,reduceBEq → zzf
open Int renaming reduceAdd → zz7,reduceSub → zz8,reduceMul → zz9,reduceLT → zza,reduceLE → zzb,reduceEq → zzc,reduceNeg → zzd,reduceToNat → zze
open Op renaming operands → zo
open Call renaming operands → zc
open Go.RowKit Go.Proofs AclSpec MetaSpec NodeSpec RecSpec PathSpec PageSpec

theorem fewPg_target {p : Pg} (h : fewPg p = true) : ∀ r ∈ p.recs,r.node.target.length ≤ maxLen := by
 intro r hr
 unfold fewPg at h
 simp only [Bool.and_eq_true,List.all_eq_true] at h
 have h1 := h.1 r hr
 unfold fewR at h1
 simp only [Bool.and_eq_true] at h1
 have := (fewN_small h1.2).2.2.2.1
 unfold maxLen;omega
set_option maxRecDepth 100000 in
set_option maxHeartbeats 16000000 in
theorem pageAsks_L (p q : Pg) (b : List UInt8) (ho : okPg p) (htm : okTime p) (hoq : okPg q) :
  LCalls Tryz.prog 3 [.agg (pgL p),.agg (pgL q),bytesL' b] (boolL true) := by
 have t0 := ptold_L
 have cf := pfew_L p ho
 have cfq := pfew_L q hoq
 have hbl := bL_len b
 simp only [boolL] at t0
 simp only [pgL,rowL,strsL,intsL] at cf cfq
 refine LCalls.of (fun _ => false) Tryz.func3 rfl (by decide) Tryz.ntmps3 Tryz.results3 (by simp) ?_
 intro w0 S0 vs hgl hwf0 hsz hvs;clear hsz hvs hwf0 hgl
 refine Yg1 (fa5 @pgL.eq_1 @rowL.eq_1 @strsL.eq_1 @intsL.eq_1 @bytesL'.eq_1) ?_
 cases hf : fewPg p
 ·rw [hf] at cf
  refine Yr1 @hbl ?_;intro K hK
  refine Yc1 (cf) @hbl ?_
  refine hK _ ?_;clear hK K;try refine Wh0 ?_
  refine Yt0 ?_
  refine Yr0 ?_;intro K hK
  refine Yc0 (t0) ?_
  refine hK _ ?_;clear hK K;try refine Wh0 ?_
  refine Ye0 ?_;try (with_reducible exact trivial)
 rw [hf] at cf
 cases hfq : fewPg q
 ·rw [hfq] at cfq
  refine Yr1 @hbl ?_;intro K hK
  refine Yc1 (cf) @hbl ?_
  refine Yc1 (cfq) @hbl ?_
  refine hK _ ?_;clear hK K;try refine Wh0 ?_
  refine Yt0 ?_
  refine Yr0 ?_;intro K hK
  refine Yc0 (t0) ?_
  refine hK _ ?_;clear hK K;try refine Wh0 ?_
  refine Ye0 ?_;try (with_reducible exact trivial)
 rw [hfq] at cfq
 by_cases h3 : 300 < b.length
 ·have h3i : ((300 : Int) < (b.length : Int)) = True := eq_true (by omega)
  refine Yr1 (fa2 @hbl @h3i) ?_;intro K hK
  refine Yc1 (cf) (fa2 @hbl @h3i) ?_
  refine Yc1 (cfq) (fa2 @hbl @h3i) ?_
  refine hK _ ?_;clear hK K;try refine Wh0 ?_
  refine Yt0 ?_
  refine Yr0 ?_;intro K hK
  refine Yc0 (t0) ?_
  refine hK _ ?_;clear hK K;try refine Wh0 ?_
  refine Ye0 ?_;try (with_reducible exact trivial)
 have h3i : ¬ ((300 : Int) < (b.length : Int)) := by omega
 have hs := fewPg_small hf
 have htg := fewPg_target hf
 have c1 := pput_L p hs htm
 have c2 := qputpg_L p hs htm htg
 have c3 := pgetPg_L b (by omega)
 have c4 := qgetpg_L b (by omega)
 have m1 := ppmay_L p hs
 have m2 := qmaypage_L p hs htg
 have f1 := pfirst_L p hs
 have f2 := qfirst_L p hs htg
 have s0 := samePageQ_L _ _ (getPg_ok b) (getPg_ok b)
 rw [decide_eq_true rfl] at s0
 have s1 := psame_L p q ho hoq
 have s2 := samePageQ_L p q ho hoq
 generalize pputP p = X at *
 obtain ⟨X,cx⟩ := X
 generalize getPg b = G at *
 obtain ⟨G,dg⟩ := G
 generalize firstPg p = F at *
 generalize mayPg p = M at *
 generalize decide (p = q) = D at *
 have hM : (M == M) = true := by simp
 have hD : (D == D) = true := by simp
 have hXl := bL_len X
 simp only [pgL,rowL,strsL,intsL,bytesL',intL] at c1 c2 c3 c4 m1 m2 f1 f2 s0 s1 s2
 refine Yr1 (fa2 @hbl @h3i) ?_;intro K hK
 refine Yc1 (cf) (fa2 @hbl @h3i) ?_
 refine Yc1 (cfq) (fa2 @hbl @h3i) ?_
 refine hK _ ?_;clear hK K;try refine Wh0 ?_
 refine Yf0 ?_
 refine LW_slim (fun st => st.env 2 = bytesL' b ∧ st.env 3 = .ptr 3 0 ∧ st.box 3 = some [boolL p.leaf,.sl p.recs.length (p.recs.flatMap recL) .no,.sl p.keys.length (p.keys.flatMap strE) .no,.sl p.pages.length (p.pages.flatMap intE) .no] ∧ st.env 4 = .ptr 4 0 ∧ st.box 4 = some [boolL q.leaf,.sl q.recs.length (q.recs.flatMap recL) .no,.sl q.keys.length (q.keys.flatMap strE) .no,.sl q.pages.length (q.pages.flatMap intE) .no] ∧ (st.mode = fun _ => false)) ⟨(Yq1 @bytesL'.eq_1),Yq0,Yq0,Yq0,Yq0,Yq0⟩ ?_
 rintro st ⟨e2,e3,b3,e4,b4,hmd⟩
 (repeat refine LW_seq ?_)
 refine LW_join (fun st => st.env 2 = bytesL' b ∧ st.env 3 = .ptr 3 0 ∧ st.box 3 = some [boolL p.leaf,.sl p.recs.length (p.recs.flatMap recL) .no,.sl p.keys.length (p.keys.flatMap strE) .no,.sl p.pages.length (p.pages.flatMap intE) .no] ∧ st.env 4 = .ptr 4 0 ∧ st.box 4 = some [boolL q.leaf,.sl q.recs.length (q.recs.flatMap recL) .no,.sl q.keys.length (q.keys.flatMap strE) .no,.sl q.pages.length (q.pages.flatMap intE) .no] ∧ st.env 7 = .ptr 7 0 ∧ st.box 7 = some [boolL p.leaf,.sl p.recs.length (p.recs.flatMap recL) .no,.sl p.keys.length (p.keys.flatMap strE) .no,.sl p.pages.length (p.pages.flatMap intE) .no] ∧ st.env 8 = .ptr 8 0 ∧ st.box 8 = some [boolL p.leaf,.sl p.recs.length (p.recs.flatMap recL) .no,.sl p.keys.length (p.keys.flatMap strE) .no,.sl p.pages.length (p.pages.flatMap intE) .no] ∧ (st.mode = fun _ => false)) ?_ ?_
 ·(repeat (first | refine LW_seq ?_ | (refine LW_skip ?_;simp only [LSj,reduceIte,zze]) | refine LW_block ?_));refine LW_mix2 [] [] (fun _ => false) [(0,[3]),(1,[3]),(2,[3]),(3,[3]),(4,[3]),(5,[3])] [0,1] [[2,3,4,5],[3,2,4,5]] rfl (by kernel_rfl) (by kernel_rfl) (by kernel_rfl) (by first | exact rfl | exact hmd | simp only [LZ,zo,zc,reduceCtorEq,reduceIte,zz1,zz2,zz3,zz4,zz5,zz6,zz7,zz8,zz9,zza,zzb,zzc,zzd,zze,zzf,e3,b3,hmd]) ?_;intro K hK;simp only [LZ,zo,zc,reduceCtorEq,reduceIte,zz1,zz2,zz3,zz4,zz5,zz6,zz7,zz8,zz9,zza,zzb,zzc,zzd,zze,zzf,e3,b3,hmd]
  (repeat' apply And.intro) <;> (refine hK _ ?_;clear hK K;try refine Wh0 ?_) <;> exact ⟨(Yq1 @e2),(Yq1 @e3),(Yq1 @b3),(Yq1 @e4),(Yq1 @b4),Yq0,Yq0,Yq0,Yq0,(Yq1 @hmd)⟩
 clear e2 e3 b3 e4 b4 hmd st
 rintro st ⟨e2,e3,b3,e4,b4,e7,b7,e8,b8,hmd⟩
 simp only [bytesL'] at e2
 (repeat refine LW_seq ?_)
 refine Yr1 (fa2 @e7 @b7) ?_;intro K hK
 refine Yc1 (c1) (fa2 @e7 @b7) ?_
 refine hK _ ?_;clear hK K;try refine Wh0 ?_
 (repeat refine LW_seq ?_)
 refine Yr1 (fa2 @e8 @b8) ?_;intro K hK
 refine Yc1 (c2) (fa2 @e8 @b8) ?_
 refine hK _ ?_;clear hK K;try refine Wh0 ?_
 (repeat refine LW_seq ?_)
 refine Yr1 @e2 ?_;intro K hK
 refine Yc1 (c3) @e2 ?_
 refine hK _ ?_;clear hK K;try refine Wh0 ?_
 (repeat refine LW_seq ?_)
 refine Yr1 (fa3 @e2 @hbl @bytesOf_bL) ?_;intro K hK
 refine Yc1 (c4) (fa3 @e2 @hbl @bytesOf_bL) ?_
 refine hK _ ?_;clear hK K;try refine Wh0 ?_
 refine LW_slim (fun st => st.env 4 = .ptr 4 0 ∧ st.box 4 = some [boolL q.leaf,.sl q.recs.length (q.recs.flatMap recL) .no,.sl q.keys.length (q.keys.flatMap strE) .no,.sl q.pages.length (q.pages.flatMap intE) .no] ∧ st.env 7 = .ptr 7 0 ∧ st.box 7 = some [boolL p.leaf,.sl p.recs.length (p.recs.flatMap recL) .no,.sl p.keys.length (p.keys.flatMap strE) .no,.sl p.pages.length (p.pages.flatMap intE) .no] ∧ st.env 8 = .ptr 8 0 ∧ st.box 8 = some [boolL p.leaf,.sl p.recs.length (p.recs.flatMap recL) .no,.sl p.keys.length (p.keys.flatMap strE) .no,.sl p.pages.length (p.pages.flatMap intE) .no] ∧ (st.mode = fun _ => false) ∧ st.env 9 = bytesL' X ∧ st.env 10 = intL cx ∧ st.env 11 = strL X ∧ st.env 12 = intL cx ∧ st.env 13 = .ptr 13 0 ∧ st.box 13 = some [boolL G.leaf,.sl G.recs.length (G.recs.flatMap recL) .no,.sl G.keys.length (G.keys.flatMap strE) .no,.sl G.pages.length (G.pages.flatMap intE) .no] ∧ st.env 14 = intL dg ∧ st.env 15 = .ptr 15 0 ∧ st.box 15 = some [boolL G.leaf,.sl G.recs.length (G.recs.flatMap recL) .no,.sl G.keys.length (G.keys.flatMap strE) .no,.sl G.pages.length (G.pages.flatMap intE) .no] ∧ st.env 16 = intL dg) ⟨(Yq1 @e4),(Yq1 @b4),(Yq1 @e7),(Yq1 @b7),(Yq1 @e8),(Yq1 @b8),(Yq1 @hmd),(Yq1 @bytesL'.eq_1),Yq0,Yq0,Yq0,Yq0,Yq0,Yq0,Yq0,Yq0,Yq0⟩ ?_
 clear e2 e3 b3 e4 b4 e7 b7 e8 b8 hmd st
 rintro st ⟨e4,b4,e7,b7,e8,b8,hmd,e9,e10,e11,e12,e13,b13,e14,e15,b15,e16⟩
 simp only [bytesL'] at e9
 (repeat refine LW_seq ?_)
 refine Yn1 (fa21 @e4 @b4 @e7 @b7 @e8 @b8 @e9 @e10 @e11 @e12 @e13 @b13 @e14 @e15 @b15 @e16 @hM @hD @hXl @bytesOf_bL @hmd) ?_;intro K hK
 refine Yc1 (t0) (fa20 @e4 @b4 @e7 @b7 @e8 @b8 @e9 @e10 @e11 @e12 @e13 @b13 @e14 @e15 @b15 @e16 @hM @hD @hXl @bytesOf_bL) ?_
 refine Yc1 (m1) (fa20 @e4 @b4 @e7 @b7 @e8 @b8 @e9 @e10 @e11 @e12 @e13 @b13 @e14 @e15 @b15 @e16 @hM @hD @hXl @bytesOf_bL) ?_
 refine Yc1 (m2) (fa20 @e4 @b4 @e7 @b7 @e8 @b8 @e9 @e10 @e11 @e12 @e13 @b13 @e14 @e15 @b15 @e16 @hM @hD @hXl @bytesOf_bL) ?_
 refine Yc1 (s0) (fa20 @e4 @b4 @e7 @b7 @e8 @b8 @e9 @e10 @e11 @e12 @e13 @b13 @e14 @e15 @b15 @e16 @hM @hD @hXl @bytesOf_bL) ?_
 refine Yc1 (f1) (fa20 @e4 @b4 @e7 @b7 @e8 @b8 @e9 @e10 @e11 @e12 @e13 @b13 @e14 @e15 @b15 @e16 @hM @hD @hXl @bytesOf_bL) ?_
 refine Yc1 (f2) (fa20 @e4 @b4 @e7 @b7 @e8 @b8 @e9 @e10 @e11 @e12 @e13 @b13 @e14 @e15 @b15 @e16 @hM @hD @hXl @bytesOf_bL) ?_
 refine Yc1 (s1) (fa20 @e4 @b4 @e7 @b7 @e8 @b8 @e9 @e10 @e11 @e12 @e13 @b13 @e14 @e15 @b15 @e16 @hM @hD @hXl @bytesOf_bL) ?_
 refine Yc1 (s2) (fa20 @e4 @b4 @e7 @b7 @e8 @b8 @e9 @e10 @e11 @e12 @e13 @b13 @e14 @e15 @b15 @e16 @hM @hD @hXl @bytesOf_bL) ?_
 refine hK _ ?_;clear hK K;try refine Wh0 ?_
 refine Ye0 ?_;try (with_reducible exact trivial)
end Go.Proofs.YtnmjghcdccfphaaGreatDoor
end
