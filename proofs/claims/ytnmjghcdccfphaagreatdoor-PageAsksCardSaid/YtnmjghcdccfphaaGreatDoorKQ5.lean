import Derived.Test.YtnmjghcdccfphaaGreatDoorKQ3
import Derived.Test.YtnmjghcdccfphaaGreatDoorKPD
import Derived.Test.YtnmjghcdccfphaaGreatDoorKUJ
import Derived.Test.YtnmjghcdccfphaaGreatDoorKP6
section
set_option linter.unusedSimpArgs false
set_option linter.unusedVariables false
namespace Go.Proofs.YtnmjghcdccfphaaGreatDoor
open Nat renaming reduceAdd → zz1,reduceMul → zz2,reduceSub → zz3,reduceLT → zz4,reduceLeDiff → zz5,reduceEqDiff → zz6,reduceBEq → zzf
open Int renaming reduceAdd → zz7,reduceSub → zz8,reduceMul → zz9,reduceLT → zza,reduceLE → zzb,reduceEq → zzc,reduceNeg → zzd,reduceToNat → zze
open Go.RowKit Go.Proofs AclSpec MetaSpec NodeSpec RecSpec PathSpec

theorem putIx (x : Int) : putU (uI x) = putI x := rfl
set_option maxRecDepth 100000 in
set_option maxHeartbeats 8000000 in
theorem qput_L (r : Rec) (hp : r.path.length < 1000000) (hs : small r.node) (ht : r.node.mt.time < 9223372036854775808) (h3 : r.node.target.length ≤ maxLen) :
  LCalls Tryz.prog 20 [.agg (recL r)] (.tup [strL (putP r).1,intL (putP r).2]) := by
 have cm := qmayrec_L r hp hs h3
 simp only [recL,nodeL,attrsL,acesL,piecesL,rowL,List.cons_append,List.nil_append] at cm
 refine LCalls.of (fun _ => false) Tryz.func20 rfl (by decide) Tryz.ntmps20 Tryz.results20 (by simp) ?_
 intro w0 S0 vs hgl hwf0 hsz hvs;clear hsz hvs hwf0 hgl
 refine Yg1 (fa5 @recL.eq_1 @nodeL.eq_1 @piecesL.eq_1 @attrsL.eq_1 @acesL.eq_1) ?_
 generalize hPR : putP r = PR
 unfold putP at hPR
 cases hm : mayRec r
 ·rw [hm] at cm
  refine Yr0 ?_;intro K hK
  refine Yc0 (cm) ?_
  refine hK _ ?_;clear hK K;try refine Wh0 ?_
  refine Yt0 ?_
  refine Yg0 ?_
  refine Ye0 ?_;try (with_reducible exact trivial)
  rw [← hPR,hm];exact ⟨rfl,rfl⟩
 rw [hm] at cm
 rw [if_pos hm] at hPR
 obtain ⟨hpl,_,hok⟩ := mayRec_ok hm ht
 have cz := qzero_L r.node (small_okLen hs)
 simp only [nodeL,attrsL,acesL,piecesL,rowL] at cz
 refine Yr0 ?_;intro K hK
 refine Yc0 (cm) ?_
 refine hK _ ?_;clear hK K;try refine Wh0 ?_
 refine Yf0 ?_
 generalize hR : putRec r = R at hPR
 subst hPR
 unfold putRec putN at hR
 have ct := q9text_L r.path (by omega)
 have hc1 := putT_len r.path (by omega)
 have hc2 := putI_len r.lead
 have cn := q9put_L (uI r.lead) (uI_lt _)
 simp only [u64L,putIx] at cn
 have hwl := wuI r.lead
 have hcl : (putT r.path ++ putI r.lead).length ≤ 140 := by rw [List.length_append];omega
 have hcat : (putT r.path).length + (putI r.lead).length ≤ 9223372036854775807 := by omega
 refine LW_slim (fun st => st.env 1 = .ptr 1 0 ∧ st.box 1 = some (recL r) ∧ (st.mode = fun _ => false)) ⟨Yq0,(Yq1 (fa6 @recL.eq_1 @nodeL.eq_1 @piecesL.eq_1 @attrsL.eq_1 @acesL.eq_1 @rowL.eq_1)),Yq0⟩ ?_
 rintro st ⟨e1,b1,hmd⟩
 simp only [recL,nodeL,attrsL,acesL,piecesL,rowL,List.cons_append,List.nil_append] at b1
 (repeat refine LW_seq ?_)
 refine Yn1 (fa5 @e1 @b1 @hwl @hcat @hmd) ?_;intro K hK
 refine Yc1 (ct) (fa4 @e1 @b1 @hwl @hcat) ?_
 refine Yc1 (cn) (fa4 @e1 @b1 @hwl @hcat) ?_
 refine hK _ ?_;clear hK K;try refine Wh0 ?_
 generalize hC1 : putT r.path ++ putI r.lead = c1 at *
 refine LW_slim (fun st => st.env 1 = .ptr 1 0 ∧ st.box 1 = some (recL r) ∧ st.env 4 = strL c1 ∧ (st.mode = fun _ => false)) ⟨(Yq1 @e1),(Yq1 (fa7 @b1 @recL.eq_1 @nodeL.eq_1 @piecesL.eq_1 @attrsL.eq_1 @acesL.eq_1 @rowL.eq_1)),Yq0,(Yq1 @hmd)⟩ ?_
 clear e1 b1 hmd st
 rintro st ⟨e1,b1,e4,hmd⟩
 simp only [recL,nodeL,attrsL,acesL,piecesL,rowL,List.cons_append,List.nil_append] at b1
 by_cases hz : r.node = zeroN
 ·rw [decide_eq_true hz] at cz
  rw [if_pos hz] at hR
  have hby : bytesOf [.lit (.int .u8 0)] = some [0] := by
   have := bytesOf_bL [0]
   unfold bL at this
   exact this
  have hcat2 : c1.length + 1 ≤ 9223372036854775807 := by omega
  refine Yr1 (fa2 @e1 @b1) ?_;intro K hK
  refine Yc1 (cz) (fa2 @e1 @b1) ?_
  refine hK _ ?_;clear hK K;try refine Wh0 ?_
  refine Yt0 ?_
  (repeat refine LW_seq ?_)
  refine Yr1 (fa4 @e4 @hmd @hby @hcat2) ?_;intro K hK
  refine hK _ ?_;clear hK K;try refine Wh0 ?_
  refine Ye0 ?_;try (with_reducible exact trivial)
  rw [← hR]
 rw [decide_eq_false hz] at cz
 rw [if_neg hz] at hR
 rcases hok with ⟨c,_⟩ | ⟨k1,k6,hM,hB⟩
 ·exact absurd c hz
 refine Yr1 (fa2 @e1 @b1) ?_;intro K hK
 refine Yc1 (cz) (fa2 @e1 @b1) ?_
 refine hK _ ?_;clear hK K;try refine Wh0 ?_
 refine Yf0 ?_
 refine Yg1 (fa2 @e1 @b1) ?_
 refine LW_slim (fun st => st.env 1 = .ptr 1 0 ∧ st.box 1 = some (recL r) ∧ st.env 4 = strL c1 ∧ st.env 5 = .ptr 5 0 ∧ st.box 5 = some (nodeL r.node) ∧ (st.mode = fun _ => false)) ⟨(Yq1 @e1),(Yq1 (fa7 @b1 @recL.eq_1 @nodeL.eq_1 @piecesL.eq_1 @attrsL.eq_1 @acesL.eq_1 @rowL.eq_1)),(Yq1 @e4),Yq0,(Yq1 (fa5 @nodeL.eq_1 @attrsL.eq_1 @acesL.eq_1 @piecesL.eq_1 @rowL.eq_1)),(Yq1 @hmd)⟩ ?_
 clear e1 b1 e4 hmd st
 rintro st ⟨e1,b1,e4,e5,b5,hmd⟩
 simp only [recL,nodeL,attrsL,acesL,piecesL,rowL,List.cons_append,List.nil_append] at b1
 simp only [nodeL,attrsL,acesL,piecesL,rowL] at b5
 have hkw := kindB_wrap r.node.kind
 have hby : bytesOf [.lit (.int .u8 ((kindB r.node.kind).toNat : Int))] = some [kindB r.node.kind] := by
  have := bytesOf_bL [kindB r.node.kind]
  unfold bL at this
  exact this
 have p1 := q9put_L (uI r.node.mt.mode) (uI_lt _)
 have p2 := q9put_L (uI r.node.mt.uid) (uI_lt _)
 have p3 := q9put_L (uI r.node.mt.gid) (uI_lt _)
 have p4 := q9put_L (uI r.node.mt.time) (uI_lt _)
 have p5 := q9put_L r.node.mt.attrs.length (by have := hM.attrs;omega)
 simp only [u64L,putIx] at p1 p2 p3 p4 p5
 have w1 := wuI r.node.mt.mode
 have w2 := wuI r.node.mt.uid
 have w3 := wuI r.node.mt.gid
 have w4 := wuI r.node.mt.time
 have w5 := wuN (n := r.node.mt.attrs.length) (by have := hM.attrs;omega)
 have l1 := putI_len r.node.mt.mode
 have l2 := putI_len r.node.mt.uid
 have l3 := putI_len r.node.mt.gid
 have l4 := putI_len r.node.mt.time
 have l5 := putU_u64 (n := r.node.mt.attrs.length) (by have := hM.attrs;omega)
 generalize hC2 : c1 ++ [kindB r.node.kind] = c2
 have k2 : c2.length = c1.length + 1 := by rw [← hC2,List.length_append,List.length_singleton]
 have k1' : c1.length ≤ 9223372036854775806 := by omega
 have n1 : c2.length + (putI r.node.mt.mode).length ≤ 9223372036854775807 := by omega
 have n2 : c2.length + (putI r.node.mt.mode).length + (putI r.node.mt.uid).length ≤ 9223372036854775807 := by omega
 have n3 : c2.length + (putI r.node.mt.mode).length + (putI r.node.mt.uid).length + (putI r.node.mt.gid).length ≤ 9223372036854775807 := by omega
 have n4 : c2.length + (putI r.node.mt.mode).length + (putI r.node.mt.uid).length + (putI r.node.mt.gid).length + (putI r.node.mt.time).length ≤ 9223372036854775807 := by omega
 have n5 : c2.length + (putI r.node.mt.mode).length + (putI r.node.mt.uid).length + (putI r.node.mt.gid).length + (putI r.node.mt.time).length + (putU r.node.mt.attrs.length).length ≤ 9223372036854775807 := by omega
 (repeat refine LW_seq ?_)
 refine Yn1 (fa20 @e1 @b1 @e4 @e5 @b5 @hkw @hby @w1 @w2 @w3 @w4 @w5 @hC2 @k1' @n1 @n2 @n3 @n4 @n5 @hmd) ?_;intro K hK
 refine Yc1 (p1) (fa19 @e1 @b1 @e4 @e5 @b5 @hkw @hby @w1 @w2 @w3 @w4 @w5 @hC2 @k1' @n1 @n2 @n3 @n4 @n5) ?_
 refine Yc1 (p2) (fa19 @e1 @b1 @e4 @e5 @b5 @hkw @hby @w1 @w2 @w3 @w4 @w5 @hC2 @k1' @n1 @n2 @n3 @n4 @n5) ?_
 refine Yc1 (p3) (fa19 @e1 @b1 @e4 @e5 @b5 @hkw @hby @w1 @w2 @w3 @w4 @w5 @hC2 @k1' @n1 @n2 @n3 @n4 @n5) ?_
 refine Yc1 (p4) (fa19 @e1 @b1 @e4 @e5 @b5 @hkw @hby @w1 @w2 @w3 @w4 @w5 @hC2 @k1' @n1 @n2 @n3 @n4 @n5) ?_
 refine Yc1 (p5) (fa19 @e1 @b1 @e4 @e5 @b5 @hkw @hby @w1 @w2 @w3 @w4 @w5 @hC2 @k1' @n1 @n2 @n3 @n4 @n5) ?_
 refine hK _ ?_;clear hK K;try refine Wh0 ?_
 generalize hC3 : c2 ++ putI r.node.mt.mode ++ putI r.node.mt.uid ++ putI r.node.mt.gid ++ putI r.node.mt.time ++ putU r.node.mt.attrs.length = c3
 have hcl3 : c3.length ≤ 300 := by rw [← hC3];simp only [List.length_append];omega
 (repeat refine LW_seq ?_)
 refine Yo0 ?_
 refine LW_slim (fun st => st.env 1 = .ptr 1 0 ∧ st.box 1 = some (recL r) ∧ st.env 5 = .ptr 5 0 ∧ st.box 5 = some (nodeL r.node) ∧ (st.mode = fun _ => false) ∧ st.env 4 = strL c3 ∧ st.env 6 = intL 0) ⟨(Yq1 @e1),(Yq1 (fa7 @b1 @recL.eq_1 @nodeL.eq_1 @piecesL.eq_1 @attrsL.eq_1 @acesL.eq_1 @rowL.eq_1)),(Yq1 @e5),(Yq1 (fa6 @b5 @nodeL.eq_1 @piecesL.eq_1 @attrsL.eq_1 @acesL.eq_1 @rowL.eq_1)),(Yq1 @hmd),by rw [← hC3];exact Yq0,Yq0⟩ ?_
 clear e1 b1 e4 e5 b5 hmd st
 rintro st ⟨e1,b1,e5,b5,hmd,e4,e6⟩
 simp only [recL,nodeL,attrsL,acesL,piecesL,rowL,List.cons_append,List.nil_append] at b1
 simp only [nodeL,attrsL,acesL,piecesL,rowL] at b5
 have hal := hM.attrs
 (repeat refine LW_seq ?_)
 refine LW_block ?_
 refine LW_joinB (fun st => st.env 1 = .ptr 1 0 ∧ st.box 1 = some (recL r) ∧ st.env 5 = .ptr 5 0 ∧ st.box 5 = some (nodeL r.node) ∧ (st.mode = fun _ => false) ∧ st.env 4 = strL (c3 ++ r.node.mt.attrs.flatMap putAt)) ?_ ?_
 ·refine LW_loop (fun m st => ∃ (i : Nat) (c : List UInt8),m + i = r.node.mt.attrs.length ∧ c = c3 ++ (r.node.mt.attrs.take i).flatMap putAt ∧ c.length ≤ 300 + 254 * i ∧ st.env 1 = .ptr 1 0 ∧ st.box 1 = some (recL r) ∧ st.env 5 = .ptr 5 0 ∧ st.box 5 = some (nodeL r.node) ∧ (st.mode = fun _ => false) ∧ st.env 4 = strL c ∧ st.env 6 = intL i) r.node.mt.attrs.length ⟨0,c3,by omega,by simp,by omega,(Yq1 @e1),(Yq1 (fa7 @b1 @recL.eq_1 @nodeL.eq_1 @piecesL.eq_1 @attrsL.eq_1 @acesL.eq_1 @rowL.eq_1)),(Yq1 @e5),(Yq1 (fa6 @b5 @nodeL.eq_1 @piecesL.eq_1 @attrsL.eq_1 @acesL.eq_1 @rowL.eq_1)),(Yq1 @hmd),(Yq1 @e4),(Yq1 @e6)⟩ ?_
  clear e1 b1 e5 b5 hmd e4 e6 st
  rintro m st ⟨i,c,hmi,hc,hcl,e1,b1,e5,b5,hmd,e4,e6⟩
  simp only [recL,nodeL,attrsL,acesL,piecesL,rowL,List.cons_append,List.nil_append] at b1
  simp only [nodeL,attrsL,acesL,piecesL,rowL] at b5
  by_cases hlt : i < r.node.mt.attrs.length
  rotate_left
  ·have hii : ¬ ((i : Int) < (r.node.mt.attrs.length : Int)) := by omega
   refine Yg1 (fa4 @e5 @b5 @e6 @hii) ?_
   refine Yf0 ?_
   refine LW_exit ?_;simp only [thenL,jumpsL,inBlockL,twoL,reduceIte,Nat.reduceEqDiff]
   rw [List.take_of_length_le (by omega)] at hc
   subst hc
   exact ⟨(Yq1 @e1),(Yq1 (fa7 @b1 @recL.eq_1 @nodeL.eq_1 @piecesL.eq_1 @attrsL.eq_1 @acesL.eq_1 @rowL.eq_1)),(Yq1 @e5),(Yq1 (fa6 @b5 @nodeL.eq_1 @piecesL.eq_1 @attrsL.eq_1 @acesL.eq_1 @rowL.eq_1)),(Yq1 @hmd),(Yq1 @e4)⟩
  have hii : ((i : Int) < (r.node.mt.attrs.length : Int)) = True := eq_true (by omega)
  have hip : (0 : Int) ≤ (i : Int) := by omega
  have hw := w64s (n := i) (by omega)
  obtain ⟨x,hx⟩ := get_of_lt hlt
  have hxm := List.mem_of_getElem? hx
  obtain ⟨hx1,hx2⟩ := hM.attr x hxm
  have hd := drop_attr hx
  have t1 := q9text_L x.name (by omega)
  have t2 := q9text_L x.value (by omega)
  have h8 := putT_len x.name (by omega)
  have h9 := putT_len x.value (by omega)
  have hpl := putAt_len (hM.attr x hxm)
  have hpe : c ++ putT x.name ++ putT x.value = c ++ putAt x := by rw [List.append_assoc];rfl
  have m1 : c.length + (putT x.name).length ≤ 9223372036854775807 := by omega
  have m2 : c.length + (putT x.name).length + (putT x.value).length ≤ 9223372036854775807 := by omega
  refine Yg1 (fa4 @e5 @b5 @e6 @hii) ?_
  refine Yt0 ?_
  refine LW_skip ?_
  simp only [LSj,reduceIte,zze]
  refine LW_seq ?_
  refine LW_block ?_
  (repeat refine LW_seq ?_)
  refine Yn1 (fa11 @e4 @e5 @b5 @e6 @hip @hii @hlt @hd @m1 @m2 @hmd) ?_;intro K hK
  refine Yc1 (t1) (fa10 @e4 @e5 @b5 @e6 @hip @hii @hlt @hd @m1 @m2) ?_
  refine Yc1 (t2) (fa10 @e4 @e5 @b5 @e6 @hip @hii @hlt @hd @m1 @m2) ?_
  refine hK _ ?_;clear hK K;try refine Wh0 ?_
  refine Yg1 (fa2 @e6 @hw) ?_
  refine ⟨m - 1,by omega,i + 1,c ++ putAt x,by omega,?_,?_,(Yq1 @e1),(Yq1 (fa7 @b1 @recL.eq_1 @nodeL.eq_1 @piecesL.eq_1 @attrsL.eq_1 @acesL.eq_1 @rowL.eq_1)),(Yq1 @e5),(Yq1 (fa6 @b5 @nodeL.eq_1 @piecesL.eq_1 @attrsL.eq_1 @acesL.eq_1 @rowL.eq_1)),(Yq1 @hmd),by rw [← hpe];exact Yq0,(Yq1 @hw)⟩
  ·obtain ⟨hi,rfl⟩ := List.getElem?_eq_some_iff.1 hx
   rw [hc,List.append_assoc,List.take_succ_eq_append_getElem hi,List.flatMap_append]
   simp
  ·rw [List.length_append]
   omega
 clear e1 b1 e5 b5 hmd e4 e6 st
 rintro st ⟨e1,b1,e5,b5,hmd,e4⟩
 simp only [recL,nodeL,attrsL,acesL,piecesL,rowL,List.cons_append,List.nil_append] at b1
 simp only [nodeL,attrsL,acesL,piecesL,rowL] at b5
 have haal := fun a ha => putAt_len (hM.attr a ha)
 have hcl4 : (c3 ++ r.node.mt.attrs.flatMap putAt).length ≤ 2400 := by
  rw [List.length_append]
  have := flat_le putAt 254 r.node.mt.attrs haal
  omega
 generalize hC4 : c3 ++ r.node.mt.attrs.flatMap putAt = c4 at *
 have hacl := hM.acl
 have p6 := q9put_L r.node.mt.acl.length (by omega)
 simp only [u64L] at p6
 have w6 := wuN (n := r.node.mt.acl.length) (by omega)
 have l6 := putU_u64 (n := r.node.mt.acl.length) (by omega)
 have n6 : c4.length + (putU r.node.mt.acl.length).length ≤ 9223372036854775807 := by omega
 (repeat refine LW_seq ?_)
 refine Yr1 (fa6 @e4 @e5 @b5 @w6 @n6 @hmd) ?_;intro K hK
 refine Yc1 (p6) (fa5 @e4 @e5 @b5 @w6 @n6) ?_
 refine hK _ ?_;clear hK K;try refine Wh0 ?_
 generalize hC5 : c4 ++ putU r.node.mt.acl.length = c5
 have hcl5 : c5.length ≤ 2417 := by rw [← hC5,List.length_append];omega
 (repeat refine LW_seq ?_)
 refine Yo0 ?_
 refine LW_slim (fun st => st.env 1 = .ptr 1 0 ∧ st.box 1 = some (recL r) ∧ st.env 5 = .ptr 5 0 ∧ st.box 5 = some (nodeL r.node) ∧ (st.mode = fun _ => false) ∧ st.env 4 = strL c5 ∧ st.env 7 = intL 0) ⟨(Yq1 @e1),(Yq1 (fa7 @b1 @recL.eq_1 @nodeL.eq_1 @piecesL.eq_1 @attrsL.eq_1 @acesL.eq_1 @rowL.eq_1)),(Yq1 @e5),(Yq1 (fa6 @b5 @nodeL.eq_1 @piecesL.eq_1 @attrsL.eq_1 @acesL.eq_1 @rowL.eq_1)),(Yq1 @hmd),by rw [← hC5];exact Yq0,Yq0⟩ ?_
 clear e1 b1 e4 e5 b5 hmd st
 rintro st ⟨e1,b1,e5,b5,hmd,e4,e7⟩
 simp only [recL,nodeL,attrsL,acesL,piecesL,rowL,List.cons_append,List.nil_append] at b1
 simp only [nodeL,attrsL,acesL,piecesL,rowL] at b5
 (repeat refine LW_seq ?_)
 refine LW_block ?_
 refine LW_joinB (fun st => st.env 1 = .ptr 1 0 ∧ st.box 1 = some (recL r) ∧ st.env 5 = .ptr 5 0 ∧ st.box 5 = some (nodeL r.node) ∧ (st.mode = fun _ => false) ∧ st.env 4 = strL (c5 ++ r.node.mt.acl.flatMap putAc)) ?_ ?_
 ·refine LW_loop (fun m st => ∃ (i : Nat) (c : List UInt8),m + i = r.node.mt.acl.length ∧ c = c5 ++ (r.node.mt.acl.take i).flatMap putAc ∧ c.length ≤ 2417 + 51 * i ∧ st.env 1 = .ptr 1 0 ∧ st.box 1 = some (recL r) ∧ st.env 5 = .ptr 5 0 ∧ st.box 5 = some (nodeL r.node) ∧ (st.mode = fun _ => false) ∧ st.env 4 = strL c ∧ st.env 7 = intL i) r.node.mt.acl.length ⟨0,c5,by omega,by simp,by omega,(Yq1 @e1),(Yq1 (fa7 @b1 @recL.eq_1 @nodeL.eq_1 @piecesL.eq_1 @attrsL.eq_1 @acesL.eq_1 @rowL.eq_1)),(Yq1 @e5),(Yq1 (fa6 @b5 @nodeL.eq_1 @piecesL.eq_1 @attrsL.eq_1 @acesL.eq_1 @rowL.eq_1)),(Yq1 @hmd),(Yq1 @e4),(Yq1 @e7)⟩ ?_
  clear e1 b1 e5 b5 hmd e4 e7 st
  rintro m st ⟨i,c,hmi,hc,hcl,e1,b1,e5,b5,hmd,e4,e7⟩
  simp only [recL,nodeL,attrsL,acesL,piecesL,rowL,List.cons_append,List.nil_append] at b1
  simp only [nodeL,attrsL,acesL,piecesL,rowL] at b5
  by_cases hlt : i < r.node.mt.acl.length
  rotate_left
  ·have hii : ¬ ((i : Int) < (r.node.mt.acl.length : Int)) := by omega
   refine Yg1 (fa4 @e5 @b5 @e7 @hii) ?_
   refine Yf0 ?_
   refine LW_exit ?_;simp only [thenL,jumpsL,inBlockL,twoL,reduceIte,Nat.reduceEqDiff]
   rw [List.take_of_length_le (by omega)] at hc
   subst hc
   exact ⟨(Yq1 @e1),(Yq1 (fa7 @b1 @recL.eq_1 @nodeL.eq_1 @piecesL.eq_1 @attrsL.eq_1 @acesL.eq_1 @rowL.eq_1)),(Yq1 @e5),(Yq1 (fa6 @b5 @nodeL.eq_1 @piecesL.eq_1 @attrsL.eq_1 @acesL.eq_1 @rowL.eq_1)),(Yq1 @hmd),(Yq1 @e4)⟩
  have hii : ((i : Int) < (r.node.mt.acl.length : Int)) = True := eq_true (by omega)
  have hip : (0 : Int) ≤ (i : Int) := by omega
  have hw := w64s (n := i) (by omega)
  obtain ⟨x,hx⟩ := get_of_lt hlt
  have hxm := List.mem_of_getElem? hx
  have hd := drop_aceL hx
  have t1 := q9put_L (uI x.kind) (uI_lt _)
  have t2 := q9put_L (uI x.id) (uI_lt _)
  have t3 := q9put_L (uI x.perm) (uI_lt _)
  simp only [u64L,putIx] at t1 t2 t3
  have u1 := wuI x.kind
  have u2 := wuI x.id
  have u3 := wuI x.perm
  have h7 := putI_len x.kind
  have h8 := putI_len x.id
  have h9 := putI_len x.perm
  have hpl := putAc_len x
  have hpe : c ++ putI x.kind ++ putI x.id ++ putI x.perm = c ++ putAc x := by unfold putAc;simp only [List.append_assoc]
  have m1 : c.length + (putI x.kind).length ≤ 9223372036854775807 := by omega
  have m2 : c.length + (putI x.kind).length + (putI x.id).length ≤ 9223372036854775807 := by omega
  have m3 : c.length + (putI x.kind).length + (putI x.id).length + (putI x.perm).length ≤ 9223372036854775807 := by omega
  refine Yg1 (fa4 @e5 @b5 @e7 @hii) ?_
  refine Yt0 ?_
  refine LW_skip ?_
  simp only [LSj,reduceIte,zze]
  refine LW_seq ?_
  refine LW_block ?_
  (repeat refine LW_seq ?_)
  refine Yr1 (fa8 @e5 @b5 @e7 @hip @hii @hlt @hd @hmd) ?_;intro K hK
  refine hK _ ?_;clear hK K;try refine Wh0 ?_
  (repeat refine LW_seq ?_)
  refine Yn1 (fa8 @e4 @u1 @u2 @u3 @m1 @m2 @m3 @hmd) ?_;intro K hK
  refine Yc1 (t1) (fa7 @e4 @u1 @u2 @u3 @m1 @m2 @m3) ?_
  refine Yc1 (t2) (fa7 @e4 @u1 @u2 @u3 @m1 @m2 @m3) ?_
  refine Yc1 (t3) (fa7 @e4 @u1 @u2 @u3 @m1 @m2 @m3) ?_
  refine hK _ ?_;clear hK K;try refine Wh0 ?_
  refine Yg1 (fa2 @e7 @hw) ?_
  refine ⟨m - 1,by omega,i + 1,c ++ putAc x,by omega,?_,?_,(Yq1 @e1),(Yq1 (fa7 @b1 @recL.eq_1 @nodeL.eq_1 @piecesL.eq_1 @attrsL.eq_1 @acesL.eq_1 @rowL.eq_1)),(Yq1 @e5),(Yq1 (fa6 @b5 @nodeL.eq_1 @piecesL.eq_1 @attrsL.eq_1 @acesL.eq_1 @rowL.eq_1)),(Yq1 @hmd),by rw [← hpe];exact Yq0,(Yq1 @hw)⟩
  ·obtain ⟨hi,rfl⟩ := List.getElem?_eq_some_iff.1 hx
   rw [hc,List.append_assoc,List.take_succ_eq_append_getElem hi,List.flatMap_append]
   simp
  ·rw [List.length_append]
   omega
 clear e1 b1 e5 b5 hmd e4 e7 st
 rintro st ⟨e1,b1,e5,b5,hmd,e4⟩
 simp only [recL,nodeL,attrsL,acesL,piecesL,rowL,List.cons_append,List.nil_append] at b1
 simp only [nodeL,attrsL,acesL,piecesL,rowL] at b5
 have hcl6 : (c5 ++ r.node.mt.acl.flatMap putAc).length ≤ 3300 := by
  rw [List.length_append]
  have := flat_le putAc 51 r.node.mt.acl fun a _ => putAc_len a
  omega
 generalize hC6 : c5 ++ r.node.mt.acl.flatMap putAc = c6 at *
 have hRe : R = c6 ++ restR r.node r.pos := by
  rw [← hR,← hC6,← hC5,← hC4,← hC3,← hC2]
  unfold putM
  simp only [List.append_assoc,List.singleton_append,List.cons_append,List.nil_append]
 clear hR hC6 hC5 hC4 hC3 hC2 hC1 cm cz p1 p2 p3 p4 p5 p6
 have hrl := restR_len hB
 unfold restR at hRe hrl
 (repeat refine LW_seq ?_)
 refine Yr1 (fa2 @e5 @b5) ?_;intro K hK
 refine hK _ ?_;clear hK K;try refine Wh0 ?_
 refine LW_slim (fun st => st.env 1 = .ptr 1 0 ∧ st.box 1 = some (recL r) ∧ st.env 5 = .ptr 5 0 ∧ st.box 5 = some (nodeL r.node) ∧ (st.mode = fun _ => false) ∧ st.env 4 = strL c6 ∧ st.env 134 = intL r.node.kind) ⟨(Yq1 @e1),(Yq1 (fa7 @b1 @recL.eq_1 @nodeL.eq_1 @piecesL.eq_1 @attrsL.eq_1 @acesL.eq_1 @rowL.eq_1)),(Yq1 @e5),(Yq1 (fa6 @b5 @nodeL.eq_1 @piecesL.eq_1 @attrsL.eq_1 @acesL.eq_1 @rowL.eq_1)),(Yq1 @hmd),(Yq1 @e4),Yq0⟩ ?_
 clear e1 b1 e4 e5 b5 hmd st
 rintro st ⟨e1,b1,e5,b5,hmd,e4,e134⟩
 simp only [recL,nodeL,attrsL,acesL,piecesL,rowL,List.cons_append,List.nil_append] at b1
 simp only [nodeL,attrsL,acesL,piecesL,rowL] at b5
 (repeat refine LW_seq ?_)
 refine LW_block ?_
 refine LW_joinB (fun st => st.env 4 = strL R) ?_ ?_
 rotate_left
 ·rintro st e4
  (repeat refine LW_seq ?_)
  refine Yg1 @e4 ?_
  refine Ye0 ?_;try (with_reducible exact trivial)
 by_cases k2 : r.node.kind = 2
 ·have hi : (r.node.kind = 2) = True := eq_true k2
  rw [if_pos k2] at hRe hrl
  have hdl := hB.len
  have p7 := q9put_L (uI r.node.size) (uI_lt _)
  have p8 := q9put_L r.node.dat.length (by omega)
  simp only [u64L,putIx] at p7 p8
  have w7 := wuI r.node.size
  have w8 := wuN (n := r.node.dat.length) (by omega)
  have l7 := putI_len r.node.size
  have l8 := putU_u64 (n := r.node.dat.length) (by omega)
  have n7 : c6.length + (putI r.node.size).length ≤ 9223372036854775807 := by omega
  have n8 : c6.length + (putI r.node.size).length + (putU r.node.dat.length).length ≤ 9223372036854775807 := by omega
  refine Yg1 (fa2 @e134 @hi) ?_
  refine Yt0 ?_
  (repeat refine LW_seq ?_)
  refine Yn1 (fa8 @e4 @e5 @b5 @w7 @w8 @n7 @n8 @hmd) ?_;intro K hK
  refine Yc1 (p7) (fa7 @e4 @e5 @b5 @w7 @w8 @n7 @n8) ?_
  refine Yc1 (p8) (fa7 @e4 @e5 @b5 @w7 @w8 @n7 @n8) ?_
  refine hK _ ?_;clear hK K;try refine Wh0 ?_
  generalize hC7 : c6 ++ putI r.node.size ++ putU r.node.dat.length = c7
  have hcl7 : c7.length ≤ 3334 := by rw [← hC7];simp only [List.length_append];omega
  (repeat refine LW_seq ?_)
  refine Yo0 ?_
  refine LW_slim (fun st => st.env 1 = .ptr 1 0 ∧ st.box 1 = some (recL r) ∧ st.env 5 = .ptr 5 0 ∧ st.box 5 = some (nodeL r.node) ∧ (st.mode = fun _ => false) ∧ st.env 4 = strL c7 ∧ st.env 9 = intL 0) ⟨(Yq1 @e1),(Yq1 (fa7 @b1 @recL.eq_1 @nodeL.eq_1 @piecesL.eq_1 @attrsL.eq_1 @acesL.eq_1 @rowL.eq_1)),(Yq1 @e5),(Yq1 (fa6 @b5 @nodeL.eq_1 @piecesL.eq_1 @attrsL.eq_1 @acesL.eq_1 @rowL.eq_1)),(Yq1 @hmd),by rw [← hC7];exact Yq0,Yq0⟩ ?_
  clear e1 b1 e4 e5 b5 hmd e134 st
  rintro st ⟨e1,b1,e5,b5,hmd,e4,e9⟩
  simp only [recL,nodeL,attrsL,acesL,piecesL,rowL,List.cons_append,List.nil_append] at b1
  simp only [nodeL,attrsL,acesL,piecesL,rowL] at b5
  (repeat refine LW_seq ?_)
  refine LW_block ?_
  refine LW_joinB (fun st => st.env 1 = .ptr 1 0 ∧ st.box 1 = some (recL r) ∧ st.env 5 = .ptr 5 0 ∧ st.box 5 = some (nodeL r.node) ∧ (st.mode = fun _ => false) ∧ st.env 4 = strL (c7 ++ r.node.dat.flatMap putPc)) ?_ ?_
  ·refine LW_loop (fun m st => ∃ (i : Nat) (c : List UInt8),m + i = r.node.dat.length ∧ c = c7 ++ (r.node.dat.take i).flatMap putPc ∧ c.length ≤ 3334 + 34 * i ∧ st.env 1 = .ptr 1 0 ∧ st.box 1 = some (recL r) ∧ st.env 5 = .ptr 5 0 ∧ st.box 5 = some (nodeL r.node) ∧ (st.mode = fun _ => false) ∧ st.env 4 = strL c ∧ st.env 9 = intL i) r.node.dat.length ⟨0,c7,by omega,by simp,by omega,(Yq1 @e1),(Yq1 (fa7 @b1 @recL.eq_1 @nodeL.eq_1 @piecesL.eq_1 @attrsL.eq_1 @acesL.eq_1 @rowL.eq_1)),(Yq1 @e5),(Yq1 (fa6 @b5 @nodeL.eq_1 @piecesL.eq_1 @attrsL.eq_1 @acesL.eq_1 @rowL.eq_1)),(Yq1 @hmd),(Yq1 @e4),(Yq1 @e9)⟩ ?_
   clear e1 b1 e5 b5 hmd e4 e9 st
   rintro m st ⟨i,c,hmi,hc,hcl,e1,b1,e5,b5,hmd,e4,e9⟩
   simp only [recL,nodeL,attrsL,acesL,piecesL,rowL,List.cons_append,List.nil_append] at b1
   simp only [nodeL,attrsL,acesL,piecesL,rowL] at b5
   by_cases hlt : i < r.node.dat.length
   rotate_left
   ·have hii : ¬ ((i : Int) < (r.node.dat.length : Int)) := by omega
    refine Yg1 (fa4 @e5 @b5 @e9 @hii) ?_
    refine Yf0 ?_
    refine LW_exit ?_;simp only [thenL,jumpsL,inBlockL,twoL,reduceIte,Nat.reduceEqDiff]
    rw [List.take_of_length_le (by omega)] at hc
    subst hc
    exact ⟨(Yq1 @e1),(Yq1 (fa7 @b1 @recL.eq_1 @nodeL.eq_1 @piecesL.eq_1 @attrsL.eq_1 @acesL.eq_1 @rowL.eq_1)),(Yq1 @e5),(Yq1 (fa6 @b5 @nodeL.eq_1 @piecesL.eq_1 @attrsL.eq_1 @acesL.eq_1 @rowL.eq_1)),(Yq1 @hmd),(Yq1 @e4)⟩
   have hii : ((i : Int) < (r.node.dat.length : Int)) = True := eq_true (by omega)
   have hip : (0 : Int) ≤ (i : Int) := by omega
   have hw := w64s (n := i) (by omega)
   obtain ⟨x,hx⟩ := get_of_lt hlt
   have hxm := List.mem_of_getElem? hx
   have hpl := hs.2.2.2 x hxm
   have hd := drop_piece hx
   have cl := qlong_L x.dat (by omega)
   have hl4 : lenS x.dat < half := by
    by_cases h0 : lenS x.dat = 0
    ·rw [h0];decide
    ·have := (ito_lenS h0).2;unfold half;omega
   unfold half at hl4
   have t1 := q9put_L (uI x.pos) (uI_lt _)
   have t2 := q9put_L (lenS x.dat) (by omega)
   simp only [u64L,putIx] at t1 t2
   have u1 := wuI x.pos
   have u2 := wuN (n := lenS x.dat) (by omega)
   have h8 := putI_len x.pos
   have h9 := putU_u64 (n := lenS x.dat) (by omega)
   have hpp : (putPc x).length ≤ 34 := by unfold putPc;rw [List.length_append];omega
   have hpe : c ++ putI x.pos ++ putU (lenS x.dat) = c ++ putPc x := by rw [List.append_assoc];rfl
   have m1 : c.length + (putI x.pos).length ≤ 9223372036854775807 := by omega
   have m2 : c.length + (putI x.pos).length + (putU (lenS x.dat)).length ≤ 9223372036854775807 := by omega
   refine Yg1 (fa4 @e5 @b5 @e9 @hii) ?_
   refine Yt0 ?_
   refine LW_skip ?_
   simp only [LSj,reduceIte,zze]
   refine LW_seq ?_
   refine LW_block ?_
   (repeat refine LW_seq ?_)
   refine Yn1 (fa13 @e4 @e5 @b5 @e9 @hip @hii @hlt @hd @u1 @u2 @m1 @m2 @hmd) ?_;intro K hK
   refine Yc1 (t1) (fa12 @e4 @e5 @b5 @e9 @hip @hii @hlt @hd @u1 @u2 @m1 @m2) ?_
   refine Yc1 (cl) (fa12 @e4 @e5 @b5 @e9 @hip @hii @hlt @hd @u1 @u2 @m1 @m2) ?_
   refine Yc1 (t2) (fa12 @e4 @e5 @b5 @e9 @hip @hii @hlt @hd @u1 @u2 @m1 @m2) ?_
   refine hK _ ?_;clear hK K;try refine Wh0 ?_
   refine Yg1 (fa2 @e9 @hw) ?_
   refine ⟨m - 1,by omega,i + 1,c ++ putPc x,by omega,?_,?_,(Yq1 @e1),(Yq1 (fa7 @b1 @recL.eq_1 @nodeL.eq_1 @piecesL.eq_1 @attrsL.eq_1 @acesL.eq_1 @rowL.eq_1)),(Yq1 @e5),(Yq1 (fa6 @b5 @nodeL.eq_1 @piecesL.eq_1 @attrsL.eq_1 @acesL.eq_1 @rowL.eq_1)),(Yq1 @hmd),by rw [← hpe];exact Yq0,(Yq1 @hw)⟩
   ·obtain ⟨hi,rfl⟩ := List.getElem?_eq_some_iff.1 hx
    rw [hc,List.append_assoc,List.take_succ_eq_append_getElem hi,List.flatMap_append]
    simp
   ·rw [List.length_append]
    omega
  clear e1 b1 e5 b5 hmd e4 e9 st
  rintro st ⟨e1,b1,e5,b5,hmd,e4⟩
  simp only [recL,nodeL,attrsL,acesL,piecesL,rowL,List.cons_append,List.nil_append] at b1
  simp only [nodeL,attrsL,acesL,piecesL,rowL] at b5
  have hcl8 : (c7 ++ r.node.dat.flatMap putPc).length ≤ 5000 := by
   rw [← hC7]
   simp only [List.length_append] at hrl ⊢
   omega
  have hRe2 : R = (c7 ++ r.node.dat.flatMap putPc) ++ (if r.node.dat = [] then [] else putI r.pos) := by
   rw [hRe,← hC7];simp only [List.append_assoc]
  generalize hC8 : c7 ++ r.node.dat.flatMap putPc = c8 at *
  (repeat refine LW_seq ?_)
  by_cases hn : r.node.dat = []
  ·have hni : ¬ ((0 : Int) < (r.node.dat.length : Int)) := by rw [hn];simp
   rw [if_pos hn,List.append_nil] at hRe2
   refine Yg1 (fa3 @e5 @b5 @hni) ?_
   refine Yf0 ?_
   refine Yg0 ?_
   rw [hRe2];exact (Yq1 @e4)
  have hnl : r.node.dat.length ≠ 0 := fun h => hn (List.eq_nil_of_length_eq_zero h)
  have hni : ((0 : Int) < (r.node.dat.length : Int)) = True := eq_true (by omega)
  rw [if_neg hn] at hRe2
  have p9 := q9put_L (uI r.pos) (uI_lt _)
  simp only [u64L,putIx] at p9
  have w9 := wuI r.pos
  have l9 := putI_len r.pos
  have n9 : c8.length + (putI r.pos).length ≤ 9223372036854775807 := by omega
  refine Yg1 (fa3 @e5 @b5 @hni) ?_
  refine Yt0 ?_
  (repeat refine LW_seq ?_)
  refine Yr1 (fa6 @e4 @e1 @b1 @w9 @n9 @hmd) ?_;intro K hK
  refine Yc1 (p9) (fa5 @e4 @e1 @b1 @w9 @n9) ?_
  refine hK _ ?_;clear hK K;try refine Wh0 ?_
  rw [hRe2];exact Yq0
 have k2i : ¬ (r.node.kind = 2) := k2
 rw [if_neg k2] at hRe hrl
 by_cases k3 : r.node.kind = 3
 ·have hi : (r.node.kind = 3) = True := eq_true k3
  rw [if_pos k3] at hRe hrl
  have htl := hB.target
  have p7 := q9text_L r.node.target (by omega)
  have n7 : c6.length + (putT r.node.target).length ≤ 9223372036854775807 := by omega
  refine Yg1 (fa2 @e134 @k2i) ?_
  refine Yf0 ?_
  refine Yg1 (fa2 @e134 @hi) ?_
  refine Yt0 ?_
  (repeat refine LW_seq ?_)
  refine Yr1 (fa5 @e4 @e5 @b5 @n7 @hmd) ?_;intro K hK
  refine Yc1 (p7) (fa4 @e4 @e5 @b5 @n7) ?_
  refine hK _ ?_;clear hK K;try refine Wh0 ?_
  rw [hRe];exact Yq0
 have k3i : ¬ (r.node.kind = 3) := k3
 rw [if_neg k3] at hRe hrl
 by_cases k45 : r.node.kind = 4 ∨ r.node.kind = 5
 rotate_left
 ·have k4i : ¬ (r.node.kind = 4) := fun h => k45 (.inl h)
  have k5i : ¬ (r.node.kind = 5) := fun h => k45 (.inr h)
  rw [if_neg k45,List.append_nil] at hRe
  refine Yg1 (fa2 @e134 @k2i) ?_
  refine Yf0 ?_
  refine Yg1 (fa2 @e134 @k3i) ?_
  refine Yf0 ?_
  refine Yg1 (fa2 @e134 @k4i) ?_
  refine Yf0 ?_
  refine Yg1 (fa2 @e134 @k5i) ?_
  refine Yf0 ?_
  refine Yg0 ?_
  rw [hRe];exact (Yq1 @e4)
 rw [if_pos k45] at hRe hrl
 have p7 := q9put_L (uI r.node.major) (uI_lt _)
 have p8 := q9put_L (uI r.node.minor) (uI_lt _)
 simp only [u64L,putIx] at p7 p8
 have w7 := wuI r.node.major
 have w8 := wuI r.node.minor
 have l7 := putI_len r.node.major
 have l8 := putI_len r.node.minor
 have n7 : c6.length + (putI r.node.major).length ≤ 9223372036854775807 := by omega
 have n8 : c6.length + (putI r.node.major).length + (putI r.node.minor).length ≤ 9223372036854775807 := by omega
 have hRe : R = c6 ++ putI r.node.major ++ putI r.node.minor := by rw [hRe,List.append_assoc]
 refine Yg1 (fa2 @e134 @k2i) ?_
 refine Yf0 ?_
 refine Yg1 (fa2 @e134 @k3i) ?_
 refine Yf0 ?_
 by_cases k4 : r.node.kind = 4
 ·have hi : (r.node.kind = 4) = True := eq_true k4
  refine Yg1 (fa2 @e134 @hi) ?_
  refine Yt0 ?_
  refine Yg0 ?_
  refine Yt0 ?_
  (repeat refine LW_seq ?_)
  refine Yn1 (fa8 @e4 @e5 @b5 @w7 @w8 @n7 @n8 @hmd) ?_;intro K hK
  refine Yc1 (p7) (fa7 @e4 @e5 @b5 @w7 @w8 @n7 @n8) ?_
  refine Yc1 (p8) (fa7 @e4 @e5 @b5 @w7 @w8 @n7 @n8) ?_
  refine hK _ ?_;clear hK K;try refine Wh0 ?_
  rw [hRe];exact Yq0
 ·have k4i : ¬ (r.node.kind = 4) := k4
  have hi : (r.node.kind = 5) = True := eq_true (k45.resolve_left k4)
  refine Yg1 (fa2 @e134 @k4i) ?_
  refine Yf0 ?_
  refine Yg1 (fa2 @e134 @hi) ?_
  refine Yt0 ?_
  (repeat refine LW_seq ?_)
  refine Yn1 (fa8 @e4 @e5 @b5 @w7 @w8 @n7 @n8 @hmd) ?_;intro K hK
  refine Yc1 (p7) (fa7 @e4 @e5 @b5 @w7 @w8 @n7 @n8) ?_
  refine Yc1 (p8) (fa7 @e4 @e5 @b5 @w7 @w8 @n7 @n8) ?_
  refine hK _ ?_;clear hK K;try refine Wh0 ?_
  rw [hRe];exact Yq0
end Go.Proofs.YtnmjghcdccfphaaGreatDoor
end
section
set_option linter.unusedSimpArgs false
set_option linter.unusedVariables false
namespace Go.Proofs.YtnmjghcdccfphaaGreatDoor
open Nat renaming reduceAdd → zz1,reduceMul → zz2,reduceSub → zz3,reduceLT → zz4,reduceLeDiff → zz5,reduceEqDiff → zz6,reduceBEq → zzf
open Int renaming reduceAdd → zz7,reduceSub → zz8,reduceMul → zz9,reduceLT → zza,reduceLE → zzb,reduceEq → zzc,reduceNeg → zzd,reduceToNat → zze
open Go.RowKit Go.Proofs AclSpec MetaSpec NodeSpec RecSpec PathSpec PageSpec

set_option maxRecDepth 100000 in
set_option maxHeartbeats 8000000 in
theorem qputpg_L (p : Pg) (h : SmallP p) (ht : okTime p) (htg : ∀ r ∈ p.recs,r.node.target.length ≤ maxLen) :
  LCalls Tryz.prog 7 [.agg (pgL p)] (.tup [strL (pputP p).1,intL (pputP p).2]) := by
 have cm := qmaypage_L p h htg
 simp only [pgL,rowL,strsL,intsL] at cm
 refine LCalls.of (fun _ => false) Tryz.func7 rfl (by decide) Tryz.ntmps7 Tryz.results7 (by simp) ?_
 intro w0 S0 vs hgl hwf0 hsz hvs;clear hsz hvs hwf0 hgl
 generalize hR : pputP p = R
 unfold pputP at hR
 refine Yg1 (fa4 @pgL.eq_1 @rowL.eq_1 @strsL.eq_1 @intsL.eq_1) ?_
 cases hm : mayPg p
 ·rw [hm] at cm
  refine Yr0 ?_;intro K hK
  refine Yc0 (cm) ?_
  refine hK _ ?_;clear hK K;try refine Wh0 ?_
  refine Yt0 ?_
  refine Yg0 ?_
  refine Ye0 ?_;try (with_reducible exact trivial)
  rw [← hR,hm];exact ⟨rfl,rfl⟩
 rw [if_pos hm] at hR
 have hlen := putPg_len hm ht
 generalize hX : putPg p = X at hR
 subst hR
 have hm2 := hm
 unfold mayPg at hm2
 unfold putPg at hX hlen
 rw [hm] at cm
 refine Yr0 ?_;intro K hK
 refine Yc0 (cm) ?_
 refine hK _ ?_;clear hK K;try refine Wh0 ?_
 refine Yf0 ?_
 refine LW_slim (fun st => st.env 1 = .ptr 1 0 ∧ st.box 1 = some (pgL p) ∧ (st.mode = fun _ => false)) ⟨Yq0,(Yq1 (fa4 @pgL.eq_1 @rowL.eq_1 @strsL.eq_1 @intsL.eq_1)),Yq0⟩ ?_
 rintro st ⟨e1,b1,hmd⟩
 simp only [pgL,rowL,strsL,intsL] at b1
 by_cases hlf : p.leaf = true
 ·rw [if_pos hlf] at hm2 hX hlen
  obtain ⟨hl1,hl4,_,_,hall⟩ := mayLeaf_parts hm2
  have hby : bytesOf [.lit (.int .u8 1)] = some [1] := by
   have := bytesOf_bL [1]
   unfold bL at this
   exact this
  have cp := q9put_L p.recs.length (by omega)
  simp only [u64L] at cp
  have hu := putU_u64 (n := p.recs.length) (by omega)
  have hcv := wuN (n := p.recs.length) (by omega)
  have n1 : (putU p.recs.length).length ≤ 9223372036854775806 := by omega
  have n2 : 1 + (putU p.recs.length).length ≤ 9223372036854775807 := by omega
  refine Yg1 (fa3 @e1 @b1 @hlf) ?_
  refine Yt0 ?_
  (repeat refine LW_seq ?_)
  refine Yn1 (fa7 @e1 @b1 @hby @hcv @n1 @n2 @hmd) ?_;intro K hK
  refine Yc1 (cp) (fa6 @e1 @b1 @hby @hcv @n1 @n2) ?_
  refine hK _ ?_;clear hK K;try refine Wh0 ?_
  generalize hC : 1 :: putU p.recs.length = c0
  have hcl0 : c0.length ≤ 18 := by rw [← hC,List.length_cons];omega
  (repeat refine LW_seq ?_)
  refine Yo0 ?_
  refine LW_slim (fun st => st.env 1 = .ptr 1 0 ∧ st.box 1 = some (pgL p) ∧ (st.mode = fun _ => false) ∧ st.env 4 = strL c0 ∧ st.env 5 = intL 0) ⟨(Yq1 @e1),(Yq1 (fa5 @b1 @pgL.eq_1 @rowL.eq_1 @strsL.eq_1 @intsL.eq_1)),(Yq1 @hmd),by rw [← hC];exact Yq0,Yq0⟩ ?_
  clear e1 b1 hmd st
  rintro st ⟨e1,b1,hmd,e4,e5⟩
  (repeat refine LW_seq ?_)
  refine LW_block ?_
  refine LW_joinB (fun st => st.env 4 = strL X) ?_ ?_
  rotate_left
  ·rintro st e4
   (repeat refine LW_seq ?_)
   refine Yg1 @e4 ?_
   refine Ye0 ?_;try (with_reducible exact trivial)
  refine LW_loop (fun m st => ∃ (i : Nat) (c : List UInt8),m + i = p.recs.length ∧ c = c0 ++ (p.recs.take i).flatMap putRec ∧ c.length ≤ 18 + 6000 * i ∧ st.env 1 = .ptr 1 0 ∧ st.box 1 = some (pgL p) ∧ (st.mode = fun _ => false) ∧ st.env 4 = strL c ∧ st.env 5 = intL i) p.recs.length ⟨0,c0,by omega,by simp,by omega,(Yq1 @e1),(Yq1 @b1),(Yq1 @hmd),(Yq1 @e4),(Yq1 @e5)⟩ ?_
  clear e1 b1 hmd e4 e5 st
  rintro m st ⟨i,c,hmi,hc,hcl,e1,b1,hmd,e4,e5⟩
  simp only [pgL,rowL,strsL,intsL] at b1
  by_cases hlt : i < p.recs.length
  rotate_left
  ·have hii : ¬ ((i : Int) < (p.recs.length : Int)) := by omega
   refine Yg1 (fa4 @e1 @b1 @e5 @hii) ?_
   refine Yf0 ?_
   refine LW_exit ?_;simp only [thenL,jumpsL,inBlockL,twoL,reduceIte,Nat.reduceEqDiff]
   rw [List.take_of_length_le (by omega),← hC,List.cons_append,hX] at hc
   subst hc
   exact (Yq1 @e4)
  have hii : ((i : Int) < (p.recs.length : Int)) = True := eq_true (by omega)
  have hip : (0 : Int) ≤ (i : Int) := by omega
  have hw := w64s (n := i) (by omega)
  obtain ⟨r,hr⟩ := get_of_lt hlt
  have hrm := List.mem_of_getElem? hr
  obtain ⟨hpl,hsm⟩ := h.one r hrm
  have hm1 := hall r hrm
  have hd := drop_rec hr
  have cr := qput_L r hpl hsm (ht r hrm) (htg r hrm)
  rw [show putP r = (putRec r,0) by unfold putP;rw [if_pos hm1]] at cr
  have hpl2 := putRec_len hm1 (ht r hrm)
  simp only [recL,nodeL,attrsL,acesL,piecesL,rowL,List.cons_append,List.nil_append] at cr hd
  have htk : (p.recs.take (i + 1)).flatMap putRec = (p.recs.take i).flatMap putRec ++ putRec r := by
   obtain ⟨hi,rfl⟩ := List.getElem?_eq_some_iff.1 hr
   rw [List.take_succ_eq_append_getElem hi,List.flatMap_append];simp
  generalize hY : putRec r = Y at *
  have n3 : c.length + Y.length ≤ 9223372036854775807 := by omega
  refine Yg1 (fa4 @e1 @b1 @e5 @hii) ?_
  refine Yt0 ?_
  refine LW_skip ?_
  simp only [LSj,reduceIte,zze]
  refine LW_seq ?_
  refine LW_block ?_
  (repeat refine LW_seq ?_)
  refine Yr1 (fa6 @e1 @b1 @e5 @hip @hlt @hd) ?_;intro K hK
  refine Yc1 (cr) (fa6 @e1 @b1 @e5 @hip @hlt @hd) ?_
  refine hK _ ?_;clear hK K;try refine Wh0 ?_
  refine Yg1 (fa2 @e4 @n3) ?_
  refine Yg1 (fa2 @e5 @hw) ?_
  exact ⟨m - 1,by omega,i + 1,c ++ Y,by omega,by rw [htk,hc,List.append_assoc],by rw [List.length_append];omega,(Yq1 @e1),(Yq1 (fa5 @b1 @pgL.eq_1 @rowL.eq_1 @strsL.eq_1 @intsL.eq_1)),(Yq1 @hmd),(Yq1 (fa2 @e4 @n3)),(Yq1 @hw)⟩
 have hlf' : p.leaf = false := by cases h : p.leaf <;> simp_all
 rw [if_neg hlf] at hm2 hX hlen
 obtain ⟨hl1,hl4,hkn,_,hall,hall2⟩ := mayInner_parts hm2
 have hby : bytesOf [.lit (.int .u8 2)] = some [2] := by
  have := bytesOf_bL [2]
  unfold bL at this
  exact this
 have cp := q9put_L p.pages.length (by omega)
 simp only [u64L] at cp
 have hu := putU_u64 (n := p.pages.length) (by omega)
 have hcv := wuN (n := p.pages.length) (by omega)
 have n1 : (putU p.pages.length).length ≤ 9223372036854775806 := by omega
 have n2 : 1 + (putU p.pages.length).length ≤ 9223372036854775807 := by omega
 refine Yg1 (fa3 @e1 @b1 @hlf') ?_
 refine Yf0 ?_
 (repeat refine LW_seq ?_)
 refine Yn1 (fa7 @e1 @b1 @hby @hcv @n1 @n2 @hmd) ?_;intro K hK
 refine Yc1 (cp) (fa6 @e1 @b1 @hby @hcv @n1 @n2) ?_
 refine hK _ ?_;clear hK K;try refine Wh0 ?_
 generalize hC : 2 :: putU p.pages.length = c0
 have hcl0 : c0.length ≤ 18 := by rw [← hC,List.length_cons];omega
 (repeat refine LW_seq ?_)
 refine Yo0 ?_
 refine LW_slim (fun st => st.env 1 = .ptr 1 0 ∧ st.box 1 = some (pgL p) ∧ (st.mode = fun _ => false) ∧ st.env 8 = strL c0 ∧ st.env 9 = intL 0) ⟨(Yq1 @e1),(Yq1 (fa5 @b1 @pgL.eq_1 @rowL.eq_1 @strsL.eq_1 @intsL.eq_1)),(Yq1 @hmd),by rw [← hC];exact Yq0,Yq0⟩ ?_
 clear e1 b1 hmd st
 rintro st ⟨e1,b1,hmd,e8,e9⟩
 (repeat refine LW_seq ?_)
 refine LW_block ?_
 refine LW_joinB (fun st => st.env 8 = strL X) ?_ ?_
 rotate_left
 ·rintro st e8
  (repeat refine LW_seq ?_)
  refine Yg1 @e8 ?_
  refine Ye0 ?_;try (with_reducible exact trivial)
 refine LW_loop (fun m st => ∃ (i : Nat) (c : List UInt8),m + i = p.pages.length ∧ c = c0 ++ putKs (p.keys.take i) (p.pages.take i) ∧ c.length ≤ 18 + 134 * i ∧ st.env 1 = .ptr 1 0 ∧ st.box 1 = some (pgL p) ∧ (st.mode = fun _ => false) ∧ st.env 8 = strL c ∧ st.env 9 = intL i) p.pages.length ⟨0,c0,by omega,by simp [putKs],by omega,(Yq1 @e1),(Yq1 @b1),(Yq1 @hmd),(Yq1 @e8),(Yq1 @e9)⟩ ?_
 clear e1 b1 hmd e8 e9 st
 rintro m st ⟨i,c,hmi,hc,hcl,e1,b1,hmd,e8,e9⟩
 simp only [pgL,rowL,strsL,intsL] at b1
 by_cases hlt : i < p.pages.length
 rotate_left
 ·have hii : ¬ ((i : Int) < (p.pages.length : Int)) := by omega
  refine Yg1 (fa4 @e1 @b1 @e9 @hii) ?_
  refine Yf0 ?_
  refine LW_exit ?_;simp only [thenL,jumpsL,inBlockL,twoL,reduceIte,Nat.reduceEqDiff]
  rw [List.take_of_length_le (show p.keys.length ≤ i by omega),List.take_of_length_le (show p.pages.length ≤ i by omega),← hC,List.cons_append,hX] at hc
  subst hc
  exact (Yq1 @e8)
 have hii : ((i : Int) < (p.pages.length : Int)) = True := eq_true (by omega)
 have hip : (0 : Int) ≤ (i : Int) := by omega
 have hw := w64s (n := i) (by omega)
 have hlk : i < p.keys.length := by omega
 obtain ⟨x,hx⟩ := get_of_lt hlt
 obtain ⟨k,hk⟩ := get_of_lt hlk
 have hkl := mayB_len (hall k (List.mem_of_getElem? hk))
 have hd := drop_int hx
 have hdk := drop_str hk
 have hsn := putKs_snoc hk hx
 have ct := q9text_L k (by omega)
 have cn := q9put_L (uI x) (uI_lt x)
 simp only [u64L,putIx] at cn
 have hxw := wuI x
 have g5 := putT_len k (by omega)
 have g6 := putI_len x
 have m1 : c.length + (putT k).length ≤ 9223372036854775807 := by omega
 have m2 : c.length + (putT k).length + (putI x).length ≤ 9223372036854775807 := by omega
 refine Yg1 (fa4 @e1 @b1 @e9 @hii) ?_
 refine Yt0 ?_
 refine LW_skip ?_
 simp only [LSj,reduceIte,zze]
 refine LW_seq ?_
 refine LW_block ?_
 (repeat refine LW_seq ?_)
 refine Yn1 (fa14 @e1 @b1 @e8 @e9 @hip @hii @hlt @hlk @hd @hdk @hxw @m1 @m2 @hmd) ?_;intro K hK
 refine Yc1 (ct) (fa13 @e1 @b1 @e8 @e9 @hip @hii @hlt @hlk @hd @hdk @hxw @m1 @m2) ?_
 refine Yc1 (cn) (fa13 @e1 @b1 @e8 @e9 @hip @hii @hlt @hlk @hd @hdk @hxw @m1 @m2) ?_
 refine hK _ ?_;clear hK K;try refine Wh0 ?_
 refine Yg1 (fa2 @e9 @hw) ?_
 exact ⟨m - 1,by omega,i + 1,c ++ putT k ++ putI x,by omega,by rw [hsn,hc];simp only [List.append_assoc],by simp only [List.length_append];omega,(Yq1 @e1),(Yq1 (fa5 @b1 @pgL.eq_1 @rowL.eq_1 @strsL.eq_1 @intsL.eq_1)),(Yq1 @hmd),Yq0,(Yq1 @hw)⟩
end Go.Proofs.YtnmjghcdccfphaaGreatDoor
end
