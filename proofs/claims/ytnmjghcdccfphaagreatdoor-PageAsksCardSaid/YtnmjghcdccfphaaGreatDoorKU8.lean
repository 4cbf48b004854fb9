import Derived.Test.YtnmjghcdccfphaaGreatDoorKU4
import Derived.Test.YtnmjghcdccfphaaGreatDoorKNF
section
set_option linter.unusedSimpArgs false
set_option linter.unusedVariables false
namespace Go.Proofs.YtnmjghcdccfphaaGreatDoor
open Go.RowKit Go.Proofs AclSpec MetaSpec NodeSpec RecSpec

def recL (r : Rec) : List LV := strL r.path :: intL r.lead :: (nodeL r.node ++ [intL r.pos])
theorem okLen_zero : okLen zeroN := by unfold okLen zeroN;refine ⟨?_,?_,?_⟩ <;> exact Nat.zero_le _
set_option maxRecDepth 100000 in
theorem rzero_L (n : FNode) (h : okLen n) : LCalls Tryz.prog 64 [.agg (nodeL n)] (boolL (decide (n = zeroN))) := by
 have c := nsame_L n zeroN h okLen_zero
 simp only [nodeL,attrsL,acesL,piecesL,rowL,zeroN,List.flatMap_nil,List.length_nil] at c
 refine LCalls.of (fun _ => false) Tryz.func64 rfl (by decide) Tryz.ntmps64 Tryz.results64 (by simp) ?_
 intro w0 S0 vs hgl hwf0 hsz hvs;clear hsz hvs hwf0 hgl
 refine Yg1 (fa4 @nodeL.eq_1 @piecesL.eq_1 @attrsL.eq_1 @acesL.eq_1) ?_
 refine Yr0 ?_;intro K hK
 refine Yc0 (c) ?_
 refine hK _ ?_;clear hK K;try refine Wh0 ?_
 refine Ye0 ?_;try (with_reducible exact trivial)
 rfl
set_option maxRecDepth 100000 in
theorem recsame_L (a b : Rec) (ha : okLen a.node) (hb : okLen b.node) : LCalls Tryz.prog 38 [.agg (recL a),.agg (recL b)] (boolL (decide (a = b))) := by
 have c := nsame_L a.node b.node ha hb
 simp only [nodeL,attrsL,acesL,piecesL,rowL] at c
 have hR : decide (a = b) = (decide (a.path = b.path) && decide (a.lead = b.lead) && decide (a.pos = b.pos) && decide (a.node = b.node)) := by
  obtain ⟨p,l,n,q⟩ := a
  obtain ⟨p2,l2,n2,q2⟩ := b
  rw [Bool.eq_iff_iff]
  simp only [Rec.mk.injEq,decide_eq_true_eq,Bool.and_eq_true]
  exact ⟨fun ⟨a,b,c,d⟩ => ⟨⟨⟨a,b⟩,d⟩,c⟩,fun ⟨⟨⟨a,b⟩,d⟩,c⟩ => ⟨a,b,c,d⟩⟩
 refine LCalls.of (fun _ => false) Tryz.func38 rfl (by decide) Tryz.ntmps38 Tryz.results38 (by simp) ?_
 intro w0 S0 vs hgl hwf0 hsz hvs;clear hsz hvs hwf0 hgl
 rw [hR]
 refine Yg1 (fa5 @recL.eq_1 @nodeL.eq_1 @piecesL.eq_1 @attrsL.eq_1 @acesL.eq_1) ?_
 by_cases h1 : a.path = b.path
 rotate_left
 ·refine Yr1 @h1 ?_;intro K hK
  refine hK _ ?_;clear hK K;try refine Wh0 ?_
  refine Ye0 ?_;try (with_reducible exact trivial)
  simp [h1]
 by_cases h2 : a.lead = b.lead
 rotate_left
 ·refine Yr1 (fa2 @h1 @h2) ?_;intro K hK
  refine hK _ ?_;clear hK K;try refine Wh0 ?_
  refine Ye0 ?_;try (with_reducible exact trivial)
  simp [h1,h2]
 by_cases h3 : a.pos = b.pos
 rotate_left
 ·refine Yr1 (fa3 @h1 @h2 @h3) ?_;intro K hK
  refine hK _ ?_;clear hK K;try refine Wh0 ?_
  refine Ye0 ?_;try (with_reducible exact trivial)
  simp [h1,h2,h3]
 refine Yr1 (fa3 @h1 @h2 @h3) ?_;intro K hK
 refine Yc0 (c) ?_
 refine hK _ ?_;clear hK K;try refine Wh0 ?_
 refine Ye0 ?_;try (with_reducible exact trivial)
 simp [h1,h2,h3]
end Go.Proofs.YtnmjghcdccfphaaGreatDoor
end
section
set_option linter.unusedSimpArgs false
set_option linter.unusedVariables false
namespace Go.Proofs.YtnmjghcdccfphaaGreatDoor
open Go.RowKit Go.Proofs AclSpec MetaSpec NodeSpec RecSpec PathSpec

set_option maxRecDepth 100000 in
theorem rmay_of (r : Rec) (hp : r.path.length < 1000000) (ho : okLen r.node) (hf : ∀ n,fullN r.node = some n → small n)
  (cf : LCalls Tryz.prog 70 [.agg (nodeL r.node)] (.tup [.agg (nodeL ((fullN r.node).getD zeroN)),boolL (fullN r.node).isSome])) :
  LCalls Tryz.prog 53 [.agg (recL r)] (boolL (mayRec r)) := by
 have cp := pmay_L r.path hp
 have cz := rzero_L r.node ho
 simp only [nodeL,attrsL,acesL,piecesL,rowL] at cz
 refine LCalls.of (fun _ => false) Tryz.func53 rfl (by decide) Tryz.ntmps53 Tryz.results53 (by simp) ?_
 intro w0 S0 vs hgl hwf0 hsz hvs;clear hsz hvs hwf0 hgl
 generalize hR : mayRec r = R
 unfold mayRec at hR
 refine Yg1 (fa5 @recL.eq_1 @nodeL.eq_1 @piecesL.eq_1 @attrsL.eq_1 @acesL.eq_1) ?_
 refine LW_slim (fun st => st.env 1 = .ptr 1 0 ∧ st.box 1 = some (recL r) ∧ st.mode = fun _ => false) ⟨Yq0,(Yq1 (fa5 @recL.eq_1 @nodeL.eq_1 @piecesL.eq_1 @attrsL.eq_1 @acesL.eq_1)),Yq0⟩ ?_
 rintro st ⟨e1,b1,hmd⟩
 simp only [recL,nodeL,attrsL,acesL,piecesL,rowL,List.cons_append,List.nil_append] at b1
 cases hm : mayB r.path
 ·rw [hm] at cp
  refine Yr1 (fa2 @e1 @b1) ?_;intro K hK
  refine Yc1 (cp) (fa2 @e1 @b1) ?_
  refine hK _ ?_;clear hK K;try refine Wh0 ?_
  refine Yt0 ?_
  refine Yg0 ?_
  refine Ye0 ?_;try (with_reducible exact trivial)
  rw [← hR];simp [hm]
 rw [hm] at cp hR
 by_cases c1 : r.lead < 0
 ·refine Yr1 (fa3 @e1 @b1 @c1) ?_;intro K hK
  refine Yc1 (cp) (fa3 @e1 @b1 @c1) ?_
  refine hK _ ?_;clear hK K;try refine Wh0 ?_
  refine Yt0 ?_
  refine Yg0 ?_
  refine Ye0 ?_;try (with_reducible exact trivial)
  rw [← hR];simp [hm,c1]
 by_cases c2 : 100 ≤ r.lead
 ·refine Yr1 (fa4 @e1 @b1 @c1 @c2) ?_;intro K hK
  refine Yc1 (cp) (fa4 @e1 @b1 @c1 @c2) ?_
  refine hK _ ?_;clear hK K;try refine Wh0 ?_
  refine Yt0 ?_
  refine Yg0 ?_
  refine Ye0 ?_;try (with_reducible exact trivial)
  rw [← hR];simp [hm,c1,c2]
 by_cases c3 : r.pos < 0
 ·refine Yr1 (fa5 @e1 @b1 @c1 @c2 @c3) ?_;intro K hK
  refine Yc1 (cp) (fa5 @e1 @b1 @c1 @c2 @c3) ?_
  refine hK _ ?_;clear hK K;try refine Wh0 ?_
  refine Yt0 ?_
  refine Yg0 ?_
  refine Ye0 ?_;try (with_reducible exact trivial)
  rw [← hR];simp [hm,c1,c2,c3]
 by_cases c4 : 400000 < r.pos
 ·refine Yr1 (fa6 @e1 @b1 @c1 @c2 @c3 @c4) ?_;intro K hK
  refine Yc1 (cp) (fa6 @e1 @b1 @c1 @c2 @c3 @c4) ?_
  refine hK _ ?_;clear hK K;try refine Wh0 ?_
  refine Yt0 ?_
  refine Yg0 ?_
  refine Ye0 ?_;try (with_reducible exact trivial)
  rw [← hR];simp [hm,c1,c2,c3,c4]
 simp only [c1,c2,c3,c4,decide_false,Bool.not_false,Bool.and_true,Bool.true_and] at hR
 refine Yr1 (fa6 @e1 @b1 @c1 @c2 @c3 @c4) ?_;intro K hK
 refine Yc1 (cp) (fa6 @e1 @b1 @c1 @c2 @c3 @c4) ?_
 refine hK _ ?_;clear hK K;try refine Wh0 ?_
 refine Yf0 ?_
 refine LW_slim (fun st => st.env 1 = .ptr 1 0 ∧ st.box 1 = some (recL r) ∧ st.mode = fun _ => false) ⟨(Yq1 @e1),(Yq1 (fa7 @b1 @recL.eq_1 @nodeL.eq_1 @piecesL.eq_1 @attrsL.eq_1 @acesL.eq_1 @rowL.eq_1)),(Yq1 @hmd)⟩ ?_
 clear e1 b1 hmd st
 rintro st ⟨e1,b1,hmd⟩
 simp only [recL,nodeL,attrsL,acesL,piecesL,rowL,List.cons_append,List.nil_append] at b1
 by_cases hz : r.node = zeroN
 ·rw [decide_eq_true hz] at cz
  rw [if_pos hz] at hR
  refine Yr1 (fa2 @e1 @b1) ?_;intro K hK
  refine Yc1 (cz) (fa2 @e1 @b1) ?_
  refine hK _ ?_;clear hK K;try refine Wh0 ?_
  refine Yt0 ?_
  refine Yg1 (fa2 @e1 @b1) ?_
  refine Ye0 ?_;try (with_reducible exact trivial)
  rw [← hR]
 rw [decide_eq_false hz] at cz
 rw [if_neg hz] at hR
 refine Yr1 (fa2 @e1 @b1) ?_;intro K hK
 refine Yc1 (cz) (fa2 @e1 @b1) ?_
 refine hK _ ?_;clear hK K;try refine Wh0 ?_
 refine Yf0 ?_
 cases hfn : fullN r.node with
 | none =>
  rw [hfn] at cf hR
  simp only [nodeL,attrsL,acesL,piecesL,rowL,Option.getD_none,Option.isSome_none] at cf
  refine Yr1 (fa2 @e1 @b1) ?_;intro K hK
  refine Yc1 (cf) (fa2 @e1 @b1) ?_
  refine hK _ ?_;clear hK K;try refine Wh0 ?_
  refine Yr1 (fa2 @e1 @b1) ?_;intro K hK
  refine hK _ ?_;clear hK K;try refine Wh0 ?_
  refine Ye0 ?_;try (with_reducible exact trivial)
  rw [← hR]
 | some n =>
  have cn := nmay_L n (hf n hfn)
  rw [hfn] at cf hR
  simp only [nodeL,attrsL,acesL,piecesL,rowL,Option.getD_some,Option.isSome_some] at cf cn
  refine Yr1 (fa2 @e1 @b1) ?_;intro K hK
  refine Yc1 (cf) (fa2 @e1 @b1) ?_
  refine hK _ ?_;clear hK K;try refine Wh0 ?_
  replace hR : mayNR n r.pos = R := hR
  unfold mayNR at hR
  refine LW_slim (fun st => st.env 1 = .ptr 1 0 ∧ st.box 1 = some (recL r) ∧ st.env 3 = .ptr 3 0 ∧ st.box 3 = some (nodeL n) ∧ st.env 4 = boolL true ∧ st.mode = fun _ => false) ⟨(Yq1 @e1),(Yq1 (fa7 @b1 @recL.eq_1 @nodeL.eq_1 @piecesL.eq_1 @attrsL.eq_1 @acesL.eq_1 @rowL.eq_1)),Yq0,(Yq1 (fa5 @nodeL.eq_1 @piecesL.eq_1 @attrsL.eq_1 @acesL.eq_1 @rowL.eq_1)),Yq0,(Yq1 @hmd)⟩ ?_
  clear e1 b1 hmd st
  rintro st ⟨e1,b1,e3,b3,e4,hmd⟩
  simp only [recL,nodeL,attrsL,acesL,piecesL,rowL,List.cons_append,List.nil_append] at b1 b3
  cases hmn : mayN n
  ·rw [hmn] at cn
   refine Yr1 (fa5 @e1 @b1 @e3 @b3 @e4) ?_;intro K hK
   refine Yc1 (cn) (fa5 @e1 @b1 @e3 @b3 @e4) ?_
   refine hK _ ?_;clear hK K;try refine Wh0 ?_
   refine Ye0 ?_;try (with_reducible exact trivial)
   rw [← hR];simp [hmn]
  rw [hmn] at cn
  by_cases h0 : r.pos = 0
  ·refine Yr1 (fa6 @e1 @b1 @e3 @b3 @e4 @h0) ?_;intro K hK
   refine Yc1 (cn) (fa6 @e1 @b1 @e3 @b3 @e4 @h0) ?_
   refine hK _ ?_;clear hK K;try refine Wh0 ?_
   refine Ye0 ?_;try (with_reducible exact trivial)
   rw [← hR];simp [hmn,h0]
  by_cases hk : n.kind = 2
  rotate_left
  ·refine Yr1 (fa7 @e1 @b1 @e3 @b3 @e4 @h0 @hk) ?_;intro K hK
   refine Yc1 (cn) (fa7 @e1 @b1 @e3 @b3 @e4 @h0 @hk) ?_
   refine hK _ ?_;clear hK K;try refine Wh0 ?_
   refine Ye0 ?_;try (with_reducible exact trivial)
   rw [← hR];simp [hmn,h0,hk]
  by_cases hd : 0 < n.dat.length
  ·have hdi : ((0 : Int) < (n.dat.length : Int)) = True := eq_true (by omega)
   have hne : n.dat ≠ [] := by intro h;rw [h] at hd;cases hd
   simp only [hk] at cn b3
   refine Yr1 (fa7 @e1 @b1 @e3 @b3 @e4 @h0 @hdi) ?_;intro K hK
   refine Yc1 (cn) (fa7 @e1 @b1 @e3 @b3 @e4 @h0 @hdi) ?_
   refine hK _ ?_;clear hK K;try refine Wh0 ?_
   refine Ye0 ?_;try (with_reducible exact trivial)
   rw [← hR];simp [hmn,h0,hk,hne]
  ·have hdi : ¬ ((0 : Int) < (n.dat.length : Int)) := by omega
   have hne : n.dat = [] := List.length_eq_zero_iff.1 (by omega)
   simp only [hk] at cn b3
   refine Yr1 (fa7 @e1 @b1 @e3 @b3 @e4 @h0 @hdi) ?_;intro K hK
   refine Yc1 (cn) (fa7 @e1 @b1 @e3 @b3 @e4 @h0 @hdi) ?_
   refine hK _ ?_;clear hK K;try refine Wh0 ?_
   refine Ye0 ?_;try (with_reducible exact trivial)
   rw [← hR];simp [hmn,h0,hk,hne]
end Go.Proofs.YtnmjghcdccfphaaGreatDoor
end
section
set_option linter.unusedSimpArgs false
set_option linter.unusedVariables false
namespace Go.Proofs.YtnmjghcdccfphaaGreatDoor
open Nat renaming reduceAdd → zz1,reduceMul → zz2,reduceSub → zz3,reduceLT → zz4,reduceLeDiff → zz5,reduceEqDiff → zz6,reduceBEq → zzf
open Int renaming reduceAdd → zz7,reduceSub → zz8,reduceMul → zz9,reduceLT → zza,reduceLE → zzb,reduceEq → zzc,reduceNeg → zzd,reduceToNat → zze
open Op renaming operands → zo
open Call renaming operands → zc
open Go.RowKit Go.Proofs RecSpec

theorem uI_lt (x : Int) : uI x < 18446744073709551616 := by unfold uI;omega
theorem wuI (x : Int) : IntKind.u64.wrap x = ((uI x : Nat) : Int) := by
 have h2 : IntKind.u64.wrap x = x % 18446744073709551616 := by unfold IntKind.wrap;rfl
 rw [h2];unfold uI;omega
theorem strip_bL (b : List UInt8) : (bL b).map strip1 = bL b := by
 unfold bL;rw [List.map_map];rfl
theorem putI_len (x : Int) : (putI x).length ≤ 17 := putU_u64 (uI_lt x)
set_option maxRecDepth 100000 in
theorem numbers_O (b : List UInt8) (hb : b.length ≤ 1000000) (l : List Int) (hl : l.length ≤ 1000) :
  OCalls Tryz.prog 63 [.sl b.length (bL b) (.row 1000),intsL l] ⟨[(1000,(5,b.length))],[],[]⟩ (.sl (b ++ l.flatMap putI).length (bL (b ++ l.flatMap putI)) (.row 2000)) ⟨[(2000,(5,(b ++ l.flatMap putI).length))],[],[]⟩ := by
 refine OCalls.of (fun _ => false) Tryz.func63 rfl (by decide) Tryz.ntmps63 Tryz.results63 (by simp) ?_
 intro w0 S0 vs
 generalize hR : b ++ l.flatMap putI = R
 refine Yg0 ?_
 refine LW_lab1 (fun m st => ∃ (i : Nat) (c : List UInt8),m + i = l.length ∧ c ++ (l.drop i).flatMap putI = R ∧ c.length ≤ 1000000 + 17 * i ∧ st.env 0 = .sl c.length (bL c) (.row 1000) ∧ st.row 1000 = some (5,c.length) ∧ st.env 1 = intsL l ∧ st.env 5 = intL i ∧ st.mode = fun _ => false) rfl ?_ ?_
 ·intro hJ
  refine Yl0 ?_
  exact hJ.out l.length _ ⟨0,b,by omega,hR,by omega,Yq0,Yq0,(Yq1 (fa2 @intsL.eq_1 @rowL.eq_1)),Yq0,Yq0⟩
 ·rintro m st ⟨i,c,hm,hc,hcl,e0,r0,e1,e5,hmd⟩
  simp only [intsL,rowL] at e1
  by_cases hlt : i < l.length
  rotate_left
  ·have hei : ((i : Int) = (l.length : Int)) = True := eq_true (by omega)
   rw [List.drop_of_length_le (by omega),List.flatMap_nil,List.append_nil] at hc
   refine Yg1 (fa3 @e1 @e5 @hei) ?_
   refine Yt0 ?_
   refine Yg1 @e0 ?_
   refine LW_ret ?_;simp only [thenL,jumpsL,inBlockL,twoL,bodyO];refine ⟨[(1000,2000)],rfl,?_⟩;simp only [thenL,jumpsL,inBlockL,twoL,bodyQ,LV.lit.injEq,LV.tup.injEq,LV.agg.injEq,LV.sl.injEq,List.cons.injEq,Value.int.injEq,Value.bool.injEq,Value.string.injEq,ByteArray.mk.injEq,exists_eq_left',exists_eq_left,exists_eq_right,LZ,zo,zc,reduceCtorEq,reduceIte,zz1,zz2,zz3,zz4,zz5,zz6,zz7,zz8,zz9,zza,zzb,zzc,zzd,zze,zzf,e0,r0]
   subst hc
   (repeat' apply And.intro) <;> first | rfl | exact r0
  ·have hei : ¬ ((i : Int) = (l.length : Int)) := by omega
   obtain ⟨x,hx⟩ := (⟨_,List.getElem?_eq_getElem hlt⟩ : ∃ x,l[i]? = some x)
   have hd := drop_int hx
   have hip : (0 : Int) ≤ (i : Int) := by omega
   have hw := w64s (n := i) (by omega)
   have hu := wuI x
   have cp := nput_O (uI x) (uI_lt x)
   have h17 := putU_u64 (uI_lt x)
   have h1 := bL_len (putU (uI x))
   have h2 := bL_len c
   have h3 := bL_one (putU (uI x))
   have h4 := strip_bL (putU (uI x))
   simp only [u64L] at cp
   have hdx : l.drop i = x :: l.drop (i + 1) := by
    obtain ⟨h,rfl⟩ := List.getElem?_eq_some_iff.1 hx
    exact List.drop_eq_getElem_cons h
   refine Yg1 (fa3 @e1 @e5 @hei) ?_
   refine Yf0 ?_
   (repeat (first | refine LW_seq ?_ | (refine LW_skip ?_;simp only [LSj,reduceIte,zze]) | refine LW_block ?_));refine LW_regionO [(17,⟨_,_,_,_,_,[],[(2000,1001)],_,[],(cp).toS,rfl,rfl,rfl⟩)] ?_;intro K hK;simp only [LZ,zo,zc,reduceCtorEq,reduceIte,zz1,zz2,zz3,zz4,zz5,zz6,zz7,zz8,zz9,zza,zzb,zzc,zzd,zze,zzf,e0,r0,e1,e5,hd,hlt,hip,hu,hmd,h1,h2,h3,h4]
   refine ⟨by (repeat' apply And.intro) <;> first | omega | (unfold maxLen;omega) | (intro _;omega) | decide,?_⟩
   refine hK _ ?_;clear hK K;try refine Wh0 ?_
   refine Yg1 (fa2 @e5 @hw) ?_
   refine LW_goto ?_;simp only [thenL,jumpsL,inBlockL,twoL,true_and]
   refine ⟨m - 1,by omega,i + 1,c ++ putU (uI x),by omega,?_,by rw [List.length_append];omega,?_,?_,(Yq1 (fa3 @e1 @intsL.eq_1 @rowL.eq_1)),(Yq1 @hw),(Yq1 @hmd)⟩
   ·rw [← hc,hdx,List.flatMap_cons,List.append_assoc];rfl
   ·rw [List.length_append,bL_app];exact (Yq1 @h4)
   ·rw [List.length_append];exact Yq0
set_option maxRecDepth 100000 in
theorem numbers_nil_O (l : List Int) (hl : l.length ≤ 1000) :
  OCalls Tryz.prog 63 [.sl 0 [] .nil,intsL l] ⟨[],[],[]⟩ (.sl (l.flatMap putI).length (bL (l.flatMap putI)) (.row 2000)) ⟨[(2000,(5,(l.flatMap putI).length))],[],[]⟩ := by
 refine OCalls.of (fun _ => false) Tryz.func63 rfl (by decide) Tryz.ntmps63 Tryz.results63 (by simp) ?_
 intro w0 S0 vs
 generalize hR : l.flatMap putI = R
 refine Yg0 ?_
 refine LW_lab1 (fun m st => ∃ (i : Nat) (c : List UInt8),m + i = l.length ∧ c ++ (l.drop i).flatMap putI = R ∧ c.length ≤ 1000000 + 17 * i ∧ st.env 0 = .sl c.length (bL c) (.row 1000) ∧ st.row 1000 = some (5,c.length) ∧ st.env 1 = intsL l ∧ st.env 5 = intL i ∧ st.mode = fun _ => false) rfl ?_ ?_
 ·intro hJ
  refine Yo0 ?_
  refine LW_nil (k := 0) (q := 1000) (e := 5) Yq0 ?_
  refine Yl0 ?_
  exact hJ.out l.length _ ⟨0,[],by omega,hR,by simp,Yq0,Yq0,(Yq1 (fa2 @intsL.eq_1 @rowL.eq_1)),Yq0,Yq0⟩
 ·rintro m st ⟨i,c,hm,hc,hcl,e0,r0,e1,e5,hmd⟩
  simp only [intsL,rowL] at e1
  by_cases hlt : i < l.length
  rotate_left
  ·have hei : ((i : Int) = (l.length : Int)) = True := eq_true (by omega)
   rw [List.drop_of_length_le (by omega),List.flatMap_nil,List.append_nil] at hc
   refine Yg1 (fa3 @e1 @e5 @hei) ?_
   refine Yt0 ?_
   refine Yg1 @e0 ?_
   refine LW_ret ?_;simp only [thenL,jumpsL,inBlockL,twoL,bodyO];refine ⟨[(1000,2000)],rfl,?_⟩;simp only [thenL,jumpsL,inBlockL,twoL,bodyQ,LV.lit.injEq,LV.tup.injEq,LV.agg.injEq,LV.sl.injEq,List.cons.injEq,Value.int.injEq,Value.bool.injEq,Value.string.injEq,ByteArray.mk.injEq,exists_eq_left',exists_eq_left,exists_eq_right,LZ,zo,zc,reduceCtorEq,reduceIte,zz1,zz2,zz3,zz4,zz5,zz6,zz7,zz8,zz9,zza,zzb,zzc,zzd,zze,zzf,e0,r0]
   subst hc
   (repeat' apply And.intro) <;> first | rfl | exact r0
  ·have hei : ¬ ((i : Int) = (l.length : Int)) := by omega
   obtain ⟨x,hx⟩ := (⟨_,List.getElem?_eq_getElem hlt⟩ : ∃ x,l[i]? = some x)
   have hd := drop_int hx
   have hip : (0 : Int) ≤ (i : Int) := by omega
   have hw := w64s (n := i) (by omega)
   have hu := wuI x
   have cp := nput_O (uI x) (uI_lt x)
   have h17 := putU_u64 (uI_lt x)
   have h1 := bL_len (putU (uI x))
   have h2 := bL_len c
   have h3 := bL_one (putU (uI x))
   have h4 := strip_bL (putU (uI x))
   simp only [u64L] at cp
   have hdx : l.drop i = x :: l.drop (i + 1) := by
    obtain ⟨h,rfl⟩ := List.getElem?_eq_some_iff.1 hx
    exact List.drop_eq_getElem_cons h
   refine Yg1 (fa3 @e1 @e5 @hei) ?_
   refine Yf0 ?_
   (repeat (first | refine LW_seq ?_ | (refine LW_skip ?_;simp only [LSj,reduceIte,zze]) | refine LW_block ?_));refine LW_regionO [(17,⟨_,_,_,_,_,[],[(2000,1001)],_,[],(cp).toS,rfl,rfl,rfl⟩)] ?_;intro K hK;simp only [LZ,zo,zc,reduceCtorEq,reduceIte,zz1,zz2,zz3,zz4,zz5,zz6,zz7,zz8,zz9,zza,zzb,zzc,zzd,zze,zzf,e0,r0,e1,e5,hd,hlt,hip,hu,hmd,h1,h2,h3,h4]
   refine ⟨by (repeat' apply And.intro) <;> first | omega | (unfold maxLen;omega) | (intro _;omega) | decide,?_⟩
   refine hK _ ?_;clear hK K;try refine Wh0 ?_
   refine Yg1 (fa2 @e5 @hw) ?_
   refine LW_goto ?_;simp only [thenL,jumpsL,inBlockL,twoL,true_and]
   refine ⟨m - 1,by omega,i + 1,c ++ putU (uI x),by omega,?_,by rw [List.length_append];omega,?_,?_,(Yq1 (fa3 @e1 @intsL.eq_1 @rowL.eq_1)),(Yq1 @hw),(Yq1 @hmd)⟩
   ·rw [← hc,hdx,List.flatMap_cons,List.append_assoc];rfl
   ·rw [List.length_append,bL_app];exact (Yq1 @h4)
   ·rw [List.length_append];exact Yq0
end Go.Proofs.YtnmjghcdccfphaaGreatDoor
end
section
set_option linter.unusedSimpArgs false
set_option linter.unusedVariables false
namespace Go.Proofs.YtnmjghcdccfphaaGreatDoor
open Nat renaming reduceAdd → zz1,reduceMul → zz2,reduceSub → zz3,reduceLT → zz4,reduceLeDiff → zz5,reduceEqDiff → zz6,reduceBEq → zzf
open Int renaming reduceAdd → zz7,reduceSub → zz8,reduceMul → zz9,reduceLT → zza,reduceLE → zzb,reduceEq → zzc,reduceNeg → zzd,reduceToNat → zze
open Op renaming operands → zo
open Call renaming operands → zc
open Go.RowKit Go.Proofs AclSpec MetaSpec NodeSpec RecSpec

set_option maxRecDepth 100000 in
theorem rest_O (r : Rec) (hs : small r.node) (h3 : r.node.target.length ≤ 1000000) (h16 : r.node.dat.length ≤ 1000) :
  OCalls Tryz.prog 65 [.agg (recL r)] ⟨[],[],[]⟩ (.sl (restR r.node r.pos).length (bL (restR r.node r.pos)) (.row 2000)) ⟨[(2000,(5,(restR r.node r.pos).length))],[],[]⟩ := by
 refine OCalls.of (fun _ => false) Tryz.func65 rfl (by decide) Tryz.ntmps65 Tryz.results65 (by simp) ?_
 intro w0 S0 vs
 generalize hR : restR r.node r.pos = R
 unfold restR at hR
 refine Yg1 (fa5 @recL.eq_1 @nodeL.eq_1 @piecesL.eq_1 @attrsL.eq_1 @acesL.eq_1) ?_
 by_cases k2 : r.node.kind = 2
 ·have cn := numbers_nil_O [r.node.size,(r.node.dat.length : Int)] (by simp)
  simp only [intsL,rowL,List.flatMap_cons,List.flatMap_nil,List.append_nil,intE,List.length_cons,List.length_nil,List.cons_append,List.nil_append] at cn
  rw [if_pos k2] at hR
  refine Yt1 @k2 ?_
  (repeat refine LW_seq ?_)
  (repeat (first | refine LW_seq ?_ | (refine LW_skip ?_;simp only [LSj,reduceIte,zze]) | refine LW_block ?_));refine LW_regionO [(19,⟨_,_,_,_,_,[],[(2000,1000)],_,[],(cn).toS,rfl,rfl,rfl⟩)] ?_;intro K hK;simp only [LZ,zo,zc,reduceCtorEq,reduceIte,zz1,zz2,zz3,zz4,zz5,zz6,zz7,zz8,zz9,zza,zzb,zzc,zzd,zze,zzf]
  refine hK _ ?_;clear hK K;try refine Wh0 ?_
  refine Yg0 ?_
  have hz := putU_u64 (uI_lt r.node.size)
  have hcl0 : (putI r.node.size ++ putI (r.node.dat.length : Int)).length ≤ 34 := by
   rw [List.length_append]
   have := putI_len r.node.size
   have := putI_len (r.node.dat.length : Int)
   omega
  rw [← putI_nat (show r.node.dat.length < half by unfold half;omega)] at hR
  have hcl1 := @List.length_append _ (putI r.node.size) (putI (r.node.dat.length : Int))
  generalize hC0 : putI r.node.size ++ putI (r.node.dat.length : Int) = c0 at *
  replace hcl1 := hcl1.symm
  refine LW_slim (fun st => st.env 1 = .ptr 1 0 ∧ st.box 1 = some (recL r) ∧ st.env 3 = .ptr 3 0 ∧ st.box 3 = some (nodeL r.node) ∧ st.env 4 = .sl c0.length (bL c0) (.row 1000) ∧ st.row 1000 = some (5,c0.length) ∧ st.env 21 = piecesL r.node.dat ∧ st.env 22 = intL r.node.dat.length ∧ st.env 23 = intL 0 ∧ st.mode = fun _ => false) ⟨Yq0,(Yq1 (fa6 @recL.eq_1 @nodeL.eq_1 @piecesL.eq_1 @attrsL.eq_1 @acesL.eq_1 @rowL.eq_1)),Yq0,(Yq1 (fa5 @nodeL.eq_1 @piecesL.eq_1 @attrsL.eq_1 @acesL.eq_1 @rowL.eq_1)),(Yq1 (fa2 @hcl1 @hC0)),(Yq1 (fa2 @hcl1 @hC0)),(Yq1 (fa2 @piecesL.eq_1 @rowL.eq_1)),Yq0,Yq0,Yq0⟩ ?_
  rintro st ⟨e1,b1,e3,b3,e4,r4,e21,e22,e23,hmd⟩
  refine LW_joinB (fun st => st.env 1 = .ptr 1 0 ∧ st.box 1 = some (recL r) ∧ st.env 3 = .ptr 3 0 ∧ st.box 3 = some (nodeL r.node) ∧ (c0 ++ r.node.dat.flatMap putPc).length ≤ 34 + 34 * r.node.dat.length ∧ st.env 4 = .sl (c0 ++ r.node.dat.flatMap putPc).length (bL (c0 ++ r.node.dat.flatMap putPc)) (.row 1000) ∧ st.row 1000 = some (5,(c0 ++ r.node.dat.flatMap putPc).length) ∧ st.mode = fun _ => false) ?_ ?_
  ·refine LW_loop (fun m st => ∃ (i : Nat) (c : List UInt8),m + i = r.node.dat.length ∧ c = c0 ++ (r.node.dat.take i).flatMap putPc ∧ c.length ≤ 34 + 34 * i ∧ st.env 1 = .ptr 1 0 ∧ st.box 1 = some (recL r) ∧ st.env 3 = .ptr 3 0 ∧ st.box 3 = some (nodeL r.node) ∧ st.env 4 = .sl c.length (bL c) (.row 1000) ∧ st.row 1000 = some (5,c.length) ∧ st.env 21 = piecesL r.node.dat ∧ st.env 22 = intL r.node.dat.length ∧ st.env 23 = intL i ∧ st.mode = fun _ => false) r.node.dat.length ⟨0,c0,by omega,by simp,by omega,e1,b1,e3,b3,e4,r4,e21,e22,e23,hmd⟩ ?_
   clear e1 b1 e3 b3 e4 r4 e21 e22 e23 hmd st
   rintro m st ⟨i,c,hm,hc,hcl,e1,b1,e3,b3,e4,r4,e21,e22,e23,hmd⟩
   refine Yg1 (fa2 @e22 @e23) ?_
   by_cases hlt : i < r.node.dat.length
   rotate_left
   ·refine Yf1 @hlt ?_
    refine LW_exit ?_;simp only [thenL,jumpsL,inBlockL,twoL,reduceIte,Nat.reduceEqDiff]
    rw [List.take_of_length_le (by omega)] at hc
    subst hc
    exact ⟨(Yq1 @e1),(Yq1 @b1),(Yq1 @e3),(Yq1 @b3),by omega,(Yq1 @e4),(Yq1 @r4),(Yq1 @hmd)⟩
   ·obtain ⟨p,hp⟩ := get_of_lt hlt
    have hpl := hs.2.2.2 p (List.mem_of_getElem? hp)
    have hd := drop_piece hp
    have hw := w64s (n := i) (by omega)
    have cl := (rlen_L p.dat hpl).toO
    simp only [strip,strip2,strip1,strL,intL] at cl
    have cn2 := numbers_O c (by omega) [p.pos,(lenS p.dat : Int)] (by simp)
    simp only [intsL,rowL,List.flatMap_cons,List.flatMap_nil,List.append_nil,intE,List.length_cons,List.length_nil,List.cons_append,List.nil_append] at cn2
    have hl4 : lenS p.dat < half := by
     by_cases h0 : lenS p.dat = 0
     ·rw [h0];decide
     ·have := (ito_lenS h0).2;unfold half;omega
    rw [putI_nat hl4] at cn2
    have hpe : putI p.pos ++ putU (lenS p.dat) = putPc p := rfl
    rw [hpe] at cn2
    have hcl2 : (c ++ putPc p).length ≤ 34 + 34 * (i + 1) := by
     rw [← hpe,List.length_append,List.length_append]
     have h1 := putI_len p.pos
     have h2 := putI_len (lenS p.dat : Int)
     rw [putI_nat hl4] at h2
     omega
    refine Yt1 @hlt ?_
    refine Yg1 (fa5 @e21 @e23 @piecesL.eq_1 @hlt @hd) ?_
    (repeat (first | refine LW_seq ?_ | (refine LW_skip ?_;simp only [LSj,reduceIte,zze]) | refine LW_block ?_));refine LW_mix2 [(32,⟨_,_,_,_,_,[],[],_,[],(cl).toS,rfl,rfl,rfl⟩),(34,⟨_,_,_,_,_,[(1000,1000)],[(2000,1000)],_,[],(cn2).toS,rfl,rfl,rfl⟩)] [32,34] (fun _ => false) [(0,[1000]),(1,[6]),(2,[6]),(3,[6]),(4,[6]),(5,[1000,6]),(6,[1000])] [0,1,2,3,4] [[5,6,7,8]] rfl (by kernel_rfl) (by kernel_rfl) (by kernel_rfl) (by first | exact rfl | exact hmd | simp only [LZ,zo,zc,reduceCtorEq,reduceIte,zz1,zz2,zz3,zz4,zz5,zz6,zz7,zz8,zz9,zza,zzb,zzc,zzd,zze,zzf,e4,r4,hmd]) ?_;intro K hK;simp only [LZ,zo,zc,reduceCtorEq,reduceIte,zz1,zz2,zz3,zz4,zz5,zz6,zz7,zz8,zz9,zza,zzb,zzc,zzd,zze,zzf,e4,r4,hmd]
    refine hK _ ?_;clear hK K;try refine Wh0 ?_
    refine Yg1 (fa2 @e23 @hw) ?_
    refine ⟨m - 1,by omega,i + 1,c ++ putPc p,by omega,?_,hcl2,(Yq1 @e1),(Yq1 (fa7 @b1 @recL.eq_1 @nodeL.eq_1 @piecesL.eq_1 @attrsL.eq_1 @acesL.eq_1 @rowL.eq_1)),(Yq1 @e3),(Yq1 (fa6 @b3 @nodeL.eq_1 @piecesL.eq_1 @attrsL.eq_1 @acesL.eq_1 @rowL.eq_1)),Yq0,Yq0,(Yq1 (fa3 @e21 @piecesL.eq_1 @rowL.eq_1)),(Yq1 @e22),(Yq1 @hw),(Yq1 @hmd)⟩
    obtain ⟨hi,rfl⟩ := List.getElem?_eq_some_iff.1 hp
    rw [hc,List.append_assoc,List.take_succ_eq_append_getElem hi,List.flatMap_append]
    simp
  ·rintro st ⟨e1,b1,e3,b3,hcl,e4,r4,hmd⟩
   generalize hC : c0 ++ r.node.dat.flatMap putPc = c at *
   simp only [recL,nodeL,attrsL,acesL,piecesL,rowL,List.cons_append,List.nil_append] at b1 b3
   refine Yg1 (fa2 @e3 @b3) ?_
   by_cases h0 : r.node.dat = []
   ·have h0i : ¬ ((0 : Int) < (r.node.dat.length : Int)) := by rw [h0];simp
    rw [if_pos h0,List.append_nil] at hR
    subst hR
    refine Yf1 @h0i ?_
    refine Yg1 (fa2 @e4 @r4) ?_
    refine LW_ret ?_;simp only [thenL,jumpsL,inBlockL,twoL,bodyO];refine ⟨[(1000,2000)],rfl,?_⟩;simp only [thenL,jumpsL,inBlockL,twoL,bodyQ,LV.lit.injEq,LV.tup.injEq,LV.agg.injEq,LV.sl.injEq,List.cons.injEq,Value.int.injEq,Value.bool.injEq,Value.string.injEq,ByteArray.mk.injEq,exists_eq_left',exists_eq_left,exists_eq_right,LZ,zo,zc,reduceCtorEq,reduceIte,zz1,zz2,zz3,zz4,zz5,zz6,zz7,zz8,zz9,zza,zzb,zzc,zzd,zze,zzf,e4,r4]
   ·have h0i : ((0 : Int) < (r.node.dat.length : Int)) = True := eq_true (by have := List.length_pos_iff.2 h0;omega)
    have cn2 := numbers_O c (by omega) [r.pos] (by simp)
    simp only [intsL,rowL,List.flatMap_cons,List.flatMap_nil,List.append_nil,intE,List.length_cons,List.length_nil,List.cons_append,List.nil_append] at cn2
    rw [if_neg h0] at hR
    rw [hR] at cn2
    refine Yt1 @h0i ?_
    (repeat (first | refine LW_seq ?_ | (refine LW_skip ?_;simp only [LSj,reduceIte,zze]) | refine LW_block ?_));refine LW_regionO [(44,⟨_,_,_,_,_,[(1000,1000)],[(2000,1000)],_,[],(cn2).toS,rfl,rfl,rfl⟩)] ?_;intro K hK;simp only [LZ,zo,zc,reduceCtorEq,reduceIte,zz1,zz2,zz3,zz4,zz5,zz6,zz7,zz8,zz9,zza,zzb,zzc,zzd,zze,zzf,e1,b1,e4,r4,hmd]
    refine hK _ ?_;clear hK K;try refine Wh0 ?_
    refine Yg0 ?_
    refine LW_ret ?_;simp only [thenL,jumpsL,inBlockL,twoL,bodyO];refine ⟨[(1000,2000)],rfl,?_⟩;simp only [thenL,jumpsL,inBlockL,twoL,bodyQ,LV.lit.injEq,LV.tup.injEq,LV.agg.injEq,LV.sl.injEq,List.cons.injEq,Value.int.injEq,Value.bool.injEq,Value.string.injEq,ByteArray.mk.injEq,exists_eq_left',exists_eq_left,exists_eq_right,LZ,zo,zc,reduceCtorEq,reduceIte,zz1,zz2,zz3,zz4,zz5,zz6,zz7,zz8,zz9,zza,zzb,zzc,zzd,zze,zzf]
 by_cases k3 : r.node.kind = 3
 ·have cn := ntext_O r.node.target h3
  rw [if_neg k2,if_pos k3] at hR
  rw [hR] at cn
  refine Yf1 @k2 ?_
  refine Yg1 @k3 ?_
  refine Yt1 @k3 ?_
  (repeat (first | refine LW_seq ?_ | (refine LW_skip ?_;simp only [LSj,reduceIte,zze]) | refine LW_block ?_));refine LW_regionO [(50,⟨_,_,_,_,_,[],[(2000,1000)],_,[],(cn).toS,rfl,rfl,rfl⟩)] ?_;intro K hK;simp only [LZ,zo,zc,reduceCtorEq,reduceIte,zz1,zz2,zz3,zz4,zz5,zz6,zz7,zz8,zz9,zza,zzb,zzc,zzd,zze,zzf]
  refine hK _ ?_;clear hK K;try refine Wh0 ?_
  refine LW_ret ?_;simp only [thenL,jumpsL,inBlockL,twoL,bodyO];refine ⟨[(1000,2000)],rfl,?_⟩;simp only [thenL,jumpsL,inBlockL,twoL,bodyQ,LV.lit.injEq,LV.tup.injEq,LV.agg.injEq,LV.sl.injEq,List.cons.injEq,Value.int.injEq,Value.bool.injEq,Value.string.injEq,ByteArray.mk.injEq,exists_eq_left',exists_eq_left,exists_eq_right,LZ,zo,zc,reduceCtorEq,reduceIte,zz1,zz2,zz3,zz4,zz5,zz6,zz7,zz8,zz9,zza,zzb,zzc,zzd,zze,zzf]
 by_cases k4 : r.node.kind = 4
 ·have cn := numbers_nil_O [r.node.major,r.node.minor] (by simp)
  simp only [intsL,rowL,List.flatMap_cons,List.flatMap_nil,List.append_nil,intE,List.length_cons,List.length_nil,List.cons_append,List.nil_append] at cn
  rw [if_neg k2,if_neg k3,if_pos (.inl k4)] at hR
  rw [hR] at cn
  refine Yf1 @k2 ?_
  refine Yg1 @k3 ?_
  refine Yf1 @k3 ?_
  refine Yg1 @k4 ?_
  refine Yt1 @k4 ?_
  refine Yg1 @k4 ?_
  refine Yt1 @k4 ?_
  (repeat (first | refine LW_seq ?_ | (refine LW_skip ?_;simp only [LSj,reduceIte,zze]) | refine LW_block ?_));refine LW_regionO [(59,⟨_,_,_,_,_,[],[(2000,1000)],_,[],(cn).toS,rfl,rfl,rfl⟩)] ?_;intro K hK;simp only [LZ,zo,zc,reduceCtorEq,reduceIte,zz1,zz2,zz3,zz4,zz5,zz6,zz7,zz8,zz9,zza,zzb,zzc,zzd,zze,zzf]
  refine hK _ ?_;clear hK K;try refine Wh0 ?_
  refine LW_ret ?_;simp only [thenL,jumpsL,inBlockL,twoL,bodyO];refine ⟨[(1000,2000)],rfl,?_⟩;simp only [thenL,jumpsL,inBlockL,twoL,bodyQ,LV.lit.injEq,LV.tup.injEq,LV.agg.injEq,LV.sl.injEq,List.cons.injEq,Value.int.injEq,Value.bool.injEq,Value.string.injEq,ByteArray.mk.injEq,exists_eq_left',exists_eq_left,exists_eq_right,LZ,zo,zc,reduceCtorEq,reduceIte,zz1,zz2,zz3,zz4,zz5,zz6,zz7,zz8,zz9,zza,zzb,zzc,zzd,zze,zzf]
 by_cases k5 : r.node.kind = 5
 ·have cn := numbers_nil_O [r.node.major,r.node.minor] (by simp)
  simp only [intsL,rowL,List.flatMap_cons,List.flatMap_nil,List.append_nil,intE,List.length_cons,List.length_nil,List.cons_append,List.nil_append] at cn
  rw [if_neg k2,if_neg k3,if_pos (.inr k5)] at hR
  rw [hR] at cn
  refine Yf1 @k2 ?_
  refine Yg1 @k3 ?_
  refine Yf1 @k3 ?_
  refine Yg1 @k4 ?_
  refine Yf1 @k4 ?_
  refine Yg1 @k5 ?_
  refine Yt1 @k5 ?_
  (repeat (first | refine LW_seq ?_ | (refine LW_skip ?_;simp only [LSj,reduceIte,zze]) | refine LW_block ?_));refine LW_regionO [(59,⟨_,_,_,_,_,[],[(2000,1000)],_,[],(cn).toS,rfl,rfl,rfl⟩)] ?_;intro K hK;simp only [LZ,zo,zc,reduceCtorEq,reduceIte,zz1,zz2,zz3,zz4,zz5,zz6,zz7,zz8,zz9,zza,zzb,zzc,zzd,zze,zzf]
  refine hK _ ?_;clear hK K;try refine Wh0 ?_
  refine LW_ret ?_;simp only [thenL,jumpsL,inBlockL,twoL,bodyO];refine ⟨[(1000,2000)],rfl,?_⟩;simp only [thenL,jumpsL,inBlockL,twoL,bodyQ,LV.lit.injEq,LV.tup.injEq,LV.agg.injEq,LV.sl.injEq,List.cons.injEq,Value.int.injEq,Value.bool.injEq,Value.string.injEq,ByteArray.mk.injEq,exists_eq_left',exists_eq_left,exists_eq_right,LZ,zo,zc,reduceCtorEq,reduceIte,zz1,zz2,zz3,zz4,zz5,zz6,zz7,zz8,zz9,zza,zzb,zzc,zzd,zze,zzf]
 rw [if_neg k2,if_neg k3,if_neg (by rintro (h | h);exact k4 h;exact k5 h)] at hR
 subst hR
 refine Yf1 @k2 ?_
 refine Yg1 @k3 ?_
 refine Yf1 @k3 ?_
 refine Yg1 @k4 ?_
 refine Yf1 @k4 ?_
 refine Yg1 @k5 ?_
 refine Yf1 @k5 ?_
 refine Yg0 ?_
 refine LW_nil (k := 2) (q := 1000) (e := 5) Yq0 ?_
 refine LW_ret ?_;simp only [thenL,jumpsL,inBlockL,twoL,bodyO];refine ⟨[(1000,2000)],rfl,?_⟩;simp only [thenL,jumpsL,inBlockL,twoL,bodyQ,LV.lit.injEq,LV.tup.injEq,LV.agg.injEq,LV.sl.injEq,List.cons.injEq,Value.int.injEq,Value.bool.injEq,Value.string.injEq,ByteArray.mk.injEq,exists_eq_left',exists_eq_left,exists_eq_right,LZ,zo,zc,reduceCtorEq,reduceIte,zz1,zz2,zz3,zz4,zz5,zz6,zz7,zz8,zz9,zza,zzb,zzc,zzd,zze,zzf]
 rfl
end Go.Proofs.YtnmjghcdccfphaaGreatDoor
end
