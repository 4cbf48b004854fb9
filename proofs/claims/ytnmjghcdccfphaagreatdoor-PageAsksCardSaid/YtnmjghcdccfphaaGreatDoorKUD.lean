import Derived.Test.YtnmjghcdccfphaaGreatDoorKUA
import Derived.Test.YtnmjghcdccfphaaGreatDoorRBare
section
set_option linter.unusedSimpArgs false
set_option linter.unusedVariables false
namespace Go.Proofs.YtnmjghcdccfphaaGreatDoor
open Nat renaming reduceAdd → zz1,reduceMul → zz2,reduceSub → zz3,reduceLT → zz4,reduceLeDiff → zz5,reduceEqDiff → zz6,reduceBEq → zzf
open Int renaming reduceAdd → zz7,reduceSub → zz8,reduceMul → zz9,reduceLT → zza,reduceLE → zzb,reduceEq → zzc,reduceNeg → zzd,reduceToNat → zze
open Op renaming operands → zo
open Call renaming operands → zc
open Go.RowKit Go.Proofs AclSpec MetaSpec NodeSpec RecSpec PathSpec

theorem kindB_wrap (k : Int) : IntKind.u8.wrap k = ((kindB k).toNat : Int) := by
 have h2 : IntKind.u8.wrap k = k % 256 := by unfold IntKind.wrap;rfl
 rw [h2];unfold kindB
 have : (k % 256).toNat < 256 := by omega
 rw [show ((k % 256).toNat.toUInt8).toNat = (k % 256).toNat % 256 from rfl]
 omega
theorem putT_len (t : List UInt8) (h : t.length ≤ 1000000) : (putT t).length ≤ 17 + t.length := by
 unfold putT
 rw [List.length_append]
 have := putU_u64 (n := t.length) (by omega)
 omega
theorem putAt_len {a : Attr} (h : okAt a) : (putAt a).length ≤ 254 := by
 unfold putAt
 rw [List.length_append]
 have h1 := putT_len a.name (by have := h.1;omega)
 have h2 := putT_len a.value (by have := h.2;omega)
 have := h.1
 have := h.2
 omega
theorem putAc_len (a : Ace) : (putAc a).length ≤ 51 := by
 unfold putAc
 rw [List.length_append,List.length_append]
 have := putI_len a.kind
 have := putI_len a.id
 have := putI_len a.perm
 omega
theorem drop_aceL {l : List Ace} {i : Nat} {a : Ace} (h : l[i]? = some a) : (l.flatMap aceL).drop (i * 3) = intL a.kind :: intL a.id :: intL a.perm :: (l.drop (i + 1)).flatMap aceL := by
 exact drop_flat aceL 3 aceL_len h
theorem flat_le {α : Type} (f : α → List UInt8) (B : Nat) (l : List α) (h : ∀ a ∈ l,(f a).length ≤ B) : (l.flatMap f).length ≤ B * l.length := by
 induction l with
 | nil => simp
 | cons a l ih =>
  rw [List.flatMap_cons,List.length_append,List.length_cons,Nat.mul_add,Nat.mul_one]
  have := h a (by simp)
  have := ih fun b hb => h b (by simp [hb])
  omega
theorem restR_len {n : FNode} {pos : Int} (h : OkB n pos) : (restR n pos).length ≤ 1000 := by
 have h1 := putI_len n.size
 have h2 := putI_len pos
 have h3 := putI_len n.major
 have h4 := putI_len n.minor
 have h5 := putT_len n.target (by have := h.target;omega)
 have h6 := h.target
 have h7 := h.len
 have h8 := putU_u64 (n := n.dat.length) (by omega)
 have h9 := flat_le putPc 34 n.dat fun p hp => by
  unfold putPc
  rw [List.length_append]
  have := putI_len p.pos
  have := putU_u64 (n := lenS p.dat) (by
   by_cases h0 : lenS p.dat = 0
   ·omega
   ·have := (ito_lenS h0).2;omega)
  omega
 unfold restR
 split
 ·rw [List.length_append,List.length_append,List.length_append]
  split
  ·rw [List.length_nil];omega
  ·omega
 ·split
  ·omega
  ·split
   ·rw [List.length_append];omega
   ·simp
set_option maxRecDepth 100000 in
set_option maxHeartbeats 4000000 in
theorem rput_O (r : Rec) (hp : r.path.length < 1000000) (hs : small r.node) (ht : r.node.mt.time < 9223372036854775808) :
  OCalls Tryz.prog 41 [.agg (recL r)] ⟨[],[],[]⟩ (.tup [bytesL' (if mayRec r = true then putRec r else []),intL (if mayRec r = true then 0 else 1)]) ⟨[],[],[]⟩ := by
 have cm := recmay_L r hp hs
 simp only [recL,nodeL,attrsL,acesL,piecesL,rowL,List.cons_append,List.nil_append] at cm
 refine OCalls.of (fun _ => false) Tryz.func41 rfl (by decide) Tryz.ntmps41 Tryz.results41 (by simp) ?_
 intro w0 S0 vs
 refine Yg1 (fa5 @recL.eq_1 @nodeL.eq_1 @piecesL.eq_1 @attrsL.eq_1 @acesL.eq_1) ?_
 cases hm : mayRec r
 ·rw [hm] at cm
  refine Yr0 ?_;intro K hK
  refine Yc0 (cm) ?_
  refine hK _ ?_;clear hK K;try refine Wh0 ?_
  refine Yt0 ?_
  refine Yg0 ?_
  refine LW_ret ?_;simp only [thenL,jumpsL,inBlockL,twoL,bodyO];refine ⟨[],rfl,?_⟩;simp only [thenL,jumpsL,inBlockL,twoL,bodyQ,LV.lit.injEq,LV.tup.injEq,LV.agg.injEq,LV.sl.injEq,List.cons.injEq,Value.int.injEq,Value.bool.injEq,Value.string.injEq,ByteArray.mk.injEq,exists_eq_left',exists_eq_left,exists_eq_right,LZ,zo,zc,reduceCtorEq,reduceIte,zz1,zz2,zz3,zz4,zz5,zz6,zz7,zz8,zz9,zza,zzb,zzc,zzd,zze,zzf,bytesL']
  rfl
 rw [hm] at cm
 obtain ⟨hpl,_,hok⟩ := mayRec_ok hm ht
 have cz := rzero_L r.node (small_okLen hs)
 simp only [nodeL,attrsL,acesL,piecesL,rowL] at cz
 refine Yr0 ?_;intro K hK
 refine Yc0 (cm) ?_
 refine hK _ ?_;clear hK K;try refine Wh0 ?_
 refine Yf0 ?_
 generalize hR : putRec r = R
 unfold putRec putN at hR
 have ct := ntext_O r.path (by omega)
 have hc1 := putT_len r.path (by omega)
 have hc2 := putI_len r.lead
 have cn := numbers_O (putT r.path) (by omega) [r.lead] (by simp)
 simp only [intsL,rowL,List.flatMap_cons,List.flatMap_nil,List.append_nil,intE,List.length_cons,List.length_nil,List.cons_append,List.nil_append] at cn
 have hcl : (putT r.path ++ putI r.lead).length ≤ 140 := by rw [List.length_append];omega
 generalize hC1 : putT r.path ++ putI r.lead = c1 at *
 refine LW_slim (fun st => st.env 1 = .ptr 1 0 ∧ st.box 1 = some (recL r) ∧ st.mode = fun _ => false) ⟨Yq0,(Yq1 (fa6 @recL.eq_1 @nodeL.eq_1 @piecesL.eq_1 @attrsL.eq_1 @acesL.eq_1 @rowL.eq_1)),Yq0⟩ ?_
 rintro st ⟨e1,b1,hmd⟩
 (repeat refine LW_seq ?_)
 refine LW_join (fun st => st.env 1 = .ptr 1 0 ∧ st.box 1 = some (recL r) ∧ st.env 4 = .sl c1.length (bL c1) (.row 1000) ∧ st.row 1000 = some (5,c1.length) ∧ st.mode = fun _ => false) ?_ ?_
 ·simp only [recL,nodeL,attrsL,acesL,piecesL,rowL,List.cons_append,List.nil_append] at b1
  (repeat (first | refine LW_seq ?_ | (refine LW_skip ?_;simp only [LSj,reduceIte,zze]) | refine LW_block ?_));refine LW_mix2 [(15,⟨_,_,_,_,_,[],[(2000,1000)],_,[],(ct).toS,rfl,rfl,rfl⟩),(19,⟨_,_,_,_,_,[(1000,1000)],[(2000,1000)],_,[],(cn).toS,rfl,rfl,rfl⟩)] [15,19] (fun _ => false) [(0,[1]),(1,[1]),(3,[1]),(4,[1]),(2,[1]),(5,[1])] [0,1,3,4] [[2,5,6,7],[5,2,6,7]] rfl (by kernel_rfl) (by kernel_rfl) (by kernel_rfl) (by first | exact rfl | exact hmd | simp only [LZ,zo,zc,reduceCtorEq,reduceIte,zz1,zz2,zz3,zz4,zz5,zz6,zz7,zz8,zz9,zza,zzb,zzc,zzd,zze,zzf,e1,b1,hmd]) ?_;intro K hK;simp only [LZ,zo,zc,reduceCtorEq,reduceIte,zz1,zz2,zz3,zz4,zz5,zz6,zz7,zz8,zz9,zza,zzb,zzc,zzd,zze,zzf,e1,b1,hmd]
  (repeat' apply And.intro) <;> (refine hK _ ?_;clear hK K;try refine Wh0 ?_) <;> exact ⟨(Yq1 @e1),(Yq1 (fa7 @b1 @recL.eq_1 @nodeL.eq_1 @piecesL.eq_1 @attrsL.eq_1 @acesL.eq_1 @rowL.eq_1)),Yq0,Yq0,(Yq1 @hmd)⟩
 clear e1 b1 hmd st
 rintro st ⟨e1,b1,e4,r4,hmd⟩
 simp only [recL,nodeL,attrsL,acesL,piecesL,rowL,List.cons_append,List.nil_append] at b1
 have hb1 := bL_len c1
 by_cases hz : r.node = zeroN
 ·rw [decide_eq_true hz] at cz
  rw [if_pos hz] at hR
  refine Yr1 (fa2 @e1 @b1) ?_;intro K hK
  refine Yc1 (cz) (fa2 @e1 @b1) ?_
  refine hK _ ?_;clear hK K;try refine Wh0 ?_
  refine Yt0 ?_
  refine Yr1 (fa4 @e4 @r4 @hmd @hb1) ?_;intro K hK
  refine ⟨by (repeat' apply And.intro) <;> first | omega | (unfold maxLen;omega) | (intro _;omega) | decide,?_⟩
  refine hK _ ?_;clear hK K;try refine Wh0 ?_
  refine LW_ret ?_;simp only [thenL,jumpsL,inBlockL,twoL,bodyO];refine ⟨[],rfl,?_⟩;simp only [thenL,jumpsL,inBlockL,twoL,bodyQ,LV.lit.injEq,LV.tup.injEq,LV.agg.injEq,LV.sl.injEq,List.cons.injEq,Value.int.injEq,Value.bool.injEq,Value.string.injEq,ByteArray.mk.injEq,exists_eq_left',exists_eq_left,exists_eq_right,LZ,zo,zc,reduceCtorEq,reduceIte,zz1,zz2,zz3,zz4,zz5,zz6,zz7,zz8,zz9,zza,zzb,zzc,zzd,zze,zzf,bytesL']
  rw [← hR,List.length_append,bL_app]
  exact ⟨rfl,rfl⟩
 rw [decide_eq_false hz] at cz
 rw [if_neg hz] at hR
 rcases hok with ⟨c,_⟩ | ⟨k1,k6,hM,hB⟩
 ·exact absurd c hz
 refine Yr1 (fa2 @e1 @b1) ?_;intro K hK
 refine Yc1 (cz) (fa2 @e1 @b1) ?_
 refine hK _ ?_;clear hK K;try refine Wh0 ?_
 refine Yf0 ?_
 refine Yg1 (fa2 @e1 @b1) ?_
 refine LW_slim (fun st => st.env 1 = .ptr 1 0 ∧ st.box 1 = some (recL r) ∧ st.env 4 = .sl c1.length (bL c1) (.row 1000) ∧ st.row 1000 = some (5,c1.length) ∧ st.env 5 = .ptr 5 0 ∧ st.box 5 = some (metaL r.node.mt) ∧ st.mode = fun _ => false) ⟨(Yq1 @e1),(Yq1 (fa7 @b1 @recL.eq_1 @nodeL.eq_1 @piecesL.eq_1 @attrsL.eq_1 @acesL.eq_1 @rowL.eq_1)),(Yq1 @e4),(Yq1 @r4),Yq0,(Yq1 (fa4 @metaL.eq_1 @attrsL.eq_1 @acesL.eq_1 @rowL.eq_1)),(Yq1 @hmd)⟩ ?_
 clear e1 b1 e4 r4 hmd st
 rintro st ⟨e1,b1,e4,r4,e5,b5,hmd⟩
 have hkw := kindB_wrap r.node.kind
 have hmn := putI_nat (n := r.node.mt.attrs.length) (by have := hM.attrs;unfold half;omega)
 have cn2 := numbers_O (c1 ++ [kindB r.node.kind]) (by rw [List.length_append,List.length_singleton];omega) [r.node.mt.mode,r.node.mt.uid,r.node.mt.gid,r.node.mt.time,(r.node.mt.attrs.length : Int)] (by simp)
 simp only [intsL,rowL,List.flatMap_cons,List.flatMap_nil,List.append_nil,intE,List.length_cons,List.length_nil,List.cons_append,List.nil_append] at cn2
 rw [bL_snoc,List.length_append,List.length_singleton] at cn2
 have hcl2 : (c1 ++ [kindB r.node.kind] ++ (putI r.node.mt.mode ++ (putI r.node.mt.uid ++ (putI r.node.mt.gid ++ (putI r.node.mt.time ++ putI (r.node.mt.attrs.length : Int)))))).length ≤ 240 := by
  simp only [List.length_append,List.length_singleton]
  have := putI_len r.node.mt.mode
  have := putI_len r.node.mt.uid
  have := putI_len r.node.mt.gid
  have := putI_len r.node.mt.time
  have := putI_len (r.node.mt.attrs.length : Int)
  omega
 generalize hC2 : c1 ++ [kindB r.node.kind] ++ (putI r.node.mt.mode ++ (putI r.node.mt.uid ++ (putI r.node.mt.gid ++ (putI r.node.mt.time ++ putI (r.node.mt.attrs.length : Int))))) = c2 at *
 (repeat refine LW_seq ?_)
 refine LW_join (fun st => st.env 1 = .ptr 1 0 ∧ st.box 1 = some (recL r) ∧ st.env 4 = .sl c2.length (bL c2) (.row 1000) ∧ st.row 1000 = some (5,c2.length) ∧ st.env 5 = .ptr 5 0 ∧ st.box 5 = some (metaL r.node.mt) ∧ st.mode = fun _ => false) ?_ ?_
 ·simp only [recL,nodeL,attrsL,acesL,piecesL,rowL,List.cons_append,List.nil_append] at b1
  simp only [metaL,attrsL,acesL,rowL] at b5
  simp only [byL] at cn2
  (repeat (first | refine LW_seq ?_ | (refine LW_skip ?_;simp only [LSj,reduceIte,zze]) | refine LW_block ?_));refine LW_mix2 [(48,⟨_,_,_,_,_,[(1000,1000)],[(2000,1000)],_,[],(cn2).toS,rfl,rfl,rfl⟩)] [48] (fun _ => false) [(0,[1000]),(1,[1]),(2,[1]),(3,[1]),(4,[]),(7,[5]),(8,[5]),(9,[5]),(10,[5]),(11,[5]),(12,[5]),(13,[5]),(14,[5]),(15,[5]),(16,[5]),(17,[]),(5,[1000,1,5]),(6,[1,5]),(18,[1000,1,5])] [0,1,2,3,4,7,8,9,10,11,12,13,14,15,16,17] [[5,6,18,19,20],[5,18,6,19,20],[18,5,6,19,20]] rfl (by kernel_rfl) (by kernel_rfl) (by kernel_rfl) (by first | exact rfl | exact hmd | simp only [LZ,zo,zc,reduceCtorEq,reduceIte,zz1,zz2,zz3,zz4,zz5,zz6,zz7,zz8,zz9,zza,zzb,zzc,zzd,zze,zzf,e1,b1,e4,r4,e5,b5,hmd,hkw,hb1,Array.toList_append]) ?_;intro K hK;simp only [LZ,zo,zc,reduceCtorEq,reduceIte,zz1,zz2,zz3,zz4,zz5,zz6,zz7,zz8,zz9,zza,zzb,zzc,zzd,zze,zzf,e1,b1,e4,r4,e5,b5,hmd,hkw,hb1,Array.toList_append]
  (repeat' apply And.intro) <;> first | omega | (unfold maxLen;omega) | ((refine hK _ ?_;clear hK K;try refine Wh0 ?_);exact ⟨(Yq1 @e1),(Yq1 (fa7 @b1 @recL.eq_1 @nodeL.eq_1 @piecesL.eq_1 @attrsL.eq_1 @acesL.eq_1 @rowL.eq_1)),Yq0,Yq0,(Yq1 @e5),(Yq1 (fa5 @b5 @metaL.eq_1 @attrsL.eq_1 @acesL.eq_1 @rowL.eq_1)),(Yq1 @hmd)⟩)
 clear e1 b1 e4 r4 e5 b5 hmd st
 rintro st ⟨e1,b1,e4,r4,e5,b5,hmd⟩
 have hal := hM.attrs
 have haal := fun a ha => putAt_len (hM.attr a ha)
 have hmx : ∀ {α : Type} (f : α → List UInt8) (B : Nat) (l : List α),(∀ a ∈ l,(f a).length ≤ B) → (l.flatMap f).length ≤ B * l.length := by
  intro α f B l
  induction l with
  | nil => intro _;simp
  | cons a l ih =>
   intro h
   rw [List.flatMap_cons,List.length_append,List.length_cons,Nat.mul_add,Nat.mul_one]
   have := h a (by simp)
   have := ih fun b hb => h b (by simp [hb])
   omega
 simp only [metaL,attrsL,acesL,rowL] at b5
 refine Yg1 (fa2 @e5 @b5) ?_
 refine LW_joinB (fun st => st.env 1 = .ptr 1 0 ∧ st.box 1 = some (recL r) ∧ st.env 4 = .sl (c2 ++ r.node.mt.attrs.flatMap putAt).length (bL (c2 ++ r.node.mt.attrs.flatMap putAt)) (.row 1000) ∧ st.row 1000 = some (5,(c2 ++ r.node.mt.attrs.flatMap putAt).length) ∧ st.env 5 = .ptr 5 0 ∧ st.box 5 = some (metaL r.node.mt) ∧ st.mode = fun _ => false) ?_ ?_
 ·refine LW_loop (fun m st => ∃ (i : Nat) (c : List UInt8),m + i = r.node.mt.attrs.length ∧ c = c2 ++ (r.node.mt.attrs.take i).flatMap putAt ∧ c.length ≤ 240 + 254 * i ∧ st.env 1 = .ptr 1 0 ∧ st.box 1 = some (recL r) ∧ st.env 4 = .sl c.length (bL c) (.row 1000) ∧ st.row 1000 = some (5,c.length) ∧ st.env 5 = .ptr 5 0 ∧ st.box 5 = some (metaL r.node.mt) ∧ st.env 50 = attrsL r.node.mt.attrs ∧ st.env 51 = intL r.node.mt.attrs.length ∧ st.env 52 = intL i ∧ st.mode = fun _ => false) r.node.mt.attrs.length ⟨0,c2,by omega,by simp,by omega,(Yq1 @e1),(Yq1 (fa7 @b1 @recL.eq_1 @nodeL.eq_1 @piecesL.eq_1 @attrsL.eq_1 @acesL.eq_1 @rowL.eq_1)),(Yq1 @e4),(Yq1 @r4),(Yq1 @e5),(Yq1 (fa5 @b5 @metaL.eq_1 @attrsL.eq_1 @acesL.eq_1 @rowL.eq_1)),(Yq1 (fa2 @attrsL.eq_1 @rowL.eq_1)),Yq0,Yq0,(Yq1 @hmd)⟩ ?_
  clear e1 b1 e4 r4 e5 b5 hmd st
  rintro m st ⟨i,c,hmi,hc,hcl3,e1,b1,e4,r4,e5,b5,e50,e51,e52,hmd⟩
  refine Yg1 (fa2 @e51 @e52) ?_
  by_cases hlt : i < r.node.mt.attrs.length
  rotate_left
  ·refine Yf1 @hlt ?_
   refine LW_exit ?_;simp only [thenL,jumpsL,inBlockL,twoL,reduceIte,Nat.reduceEqDiff]
   rw [List.take_of_length_le (by omega)] at hc
   subst hc
   exact ⟨(Yq1 @e1),(Yq1 @b1),(Yq1 @e4),(Yq1 @r4),(Yq1 @e5),(Yq1 @b5),(Yq1 @hmd)⟩
  obtain ⟨x,hx⟩ := get_of_lt hlt
  have hxm := List.mem_of_getElem? hx
  obtain ⟨hx1,hx2⟩ := hM.attr x hxm
  have hd := drop_attr hx
  have hw := w64s (n := i) (by omega)
  have t1 := ntext_O x.name (by omega)
  have t2 := ntext_O x.value (by omega)
  have h1 := bL_len (putT x.name)
  have h2 := bL_len (putT x.value)
  have h3 := bL_len c
  have h4 := bL_one (putT x.name)
  have h5 := bL_one (putT x.value)
  have h6 := strip_bL (putT x.name)
  have h7 := strip_bL (putT x.value)
  have h8 := putT_len x.name (by omega)
  have h9 := putT_len x.value (by omega)
  refine Yt1 @hlt ?_
  refine Yg1 (fa7 @e50 @e52 @attrsL.eq_1 @rowL.eq_1 @hlt @hd @attrL.eq_1) ?_
  (repeat (first | refine LW_seq ?_ | (refine LW_skip ?_;simp only [LSj,reduceIte,zze]) | refine LW_block ?_));refine LW_mix2 [(59,⟨_,_,_,_,_,[],[(2000,1001)],_,[],(t1).toS,rfl,rfl,rfl⟩),(63,⟨_,_,_,_,_,[],[(2000,1002)],_,[],(t2).toS,rfl,rfl,rfl⟩)] [59,63] (fun _ => false) [(0,[1000]),(1,[7]),(2,[7]),(5,[7]),(6,[7]),(3,[1000,7]),(4,[7])] [0,1,2,5,6] [[3,4,7,8,9]] rfl (by kernel_rfl) (by kernel_rfl) (by kernel_rfl) (by first | exact rfl | exact hmd | simp only [LZ,zo,zc,reduceCtorEq,reduceIte,zz1,zz2,zz3,zz4,zz5,zz6,zz7,zz8,zz9,zza,zzb,zzc,zzd,zze,zzf,e4,r4,hmd,h1,h2,h3,h4,h5,h6,h7]) ?_;intro K hK;simp only [LZ,zo,zc,reduceCtorEq,reduceIte,zz1,zz2,zz3,zz4,zz5,zz6,zz7,zz8,zz9,zza,zzb,zzc,zzd,zze,zzf,e4,r4,hmd,h1,h2,h3,h4,h5,h6,h7]
  refine ⟨by (repeat' apply And.intro) <;> first | omega | (unfold maxLen;omega),?_⟩
  refine ⟨by (repeat' apply And.intro) <;> first | omega | (unfold maxLen;omega),?_⟩
  refine hK _ ?_;clear hK K;try refine Wh0 ?_
  refine Yg1 (fa2 @e52 @hw) ?_
  have hpe : putT x.name ++ putT x.value = putAt x := rfl
  refine ⟨m - 1,by omega,i + 1,c ++ putAt x,by omega,?_,?_,(Yq1 @e1),(Yq1 (fa7 @b1 @recL.eq_1 @nodeL.eq_1 @piecesL.eq_1 @attrsL.eq_1 @acesL.eq_1 @rowL.eq_1)),?_,?_,(Yq1 @e5),(Yq1 (fa5 @b5 @metaL.eq_1 @attrsL.eq_1 @acesL.eq_1 @rowL.eq_1)),(Yq1 (fa3 @e50 @attrsL.eq_1 @rowL.eq_1)),(Yq1 @e51),(Yq1 @hw),(Yq1 @hmd)⟩
  ·obtain ⟨hi,rfl⟩ := List.getElem?_eq_some_iff.1 hx
   rw [hc,List.append_assoc,List.take_succ_eq_append_getElem hi,List.flatMap_append]
   simp
  ·rw [List.length_append]
   have := putAt_len (hM.attr x hxm)
   omega
  ·rw [← hpe,← List.append_assoc,List.length_append,List.length_append,bL_app,bL_app]
   exact Yq0
  ·rw [← hpe,← List.append_assoc,List.length_append,List.length_append]
   exact Yq0
 clear e1 b1 e4 r4 e5 b5 hmd st
 rintro st ⟨e1,b1,e4,r4,e5,b5,hmd⟩
 have hcl3 : (c2 ++ r.node.mt.attrs.flatMap putAt).length ≤ 3000 := by
  rw [List.length_append]
  have := hmx putAt 254 r.node.mt.attrs haal
  omega
 have hcl := hM.acl
 have cn3 := numbers_O (c2 ++ r.node.mt.attrs.flatMap putAt) (by omega) [(r.node.mt.acl.length : Int)] (by simp)
 simp only [intsL,rowL,List.flatMap_cons,List.flatMap_nil,List.append_nil,intE,List.length_cons,List.length_nil,List.cons_append,List.nil_append] at cn3
 have hcl4 : (c2 ++ r.node.mt.attrs.flatMap putAt ++ putI (r.node.mt.acl.length : Int)).length ≤ 3100 := by
  rw [List.length_append]
  have := putI_len (r.node.mt.acl.length : Int)
  omega
 generalize hC3 : c2 ++ r.node.mt.attrs.flatMap putAt = c3 at *
 generalize hC4 : c3 ++ putI (r.node.mt.acl.length : Int) = c4 at *
 simp only [metaL,attrsL,acesL,rowL] at b5
 (repeat (first | refine LW_seq ?_ | (refine LW_skip ?_;simp only [LSj,reduceIte,zze]) | refine LW_block ?_));refine LW_regionO [(71,⟨_,_,_,_,_,[(1000,1000)],[(2000,1000)],_,[],(cn3).toS,rfl,rfl,rfl⟩)] ?_;intro K hK;simp only [LZ,zo,zc,reduceCtorEq,reduceIte,zz1,zz2,zz3,zz4,zz5,zz6,zz7,zz8,zz9,zza,zzb,zzc,zzd,zze,zzf,e4,r4,e5,b5,hmd]
 refine hK _ ?_;clear hK K;try refine Wh0 ?_
 refine Yg1 (fa2 @e5 @b5) ?_
 refine LW_slim (fun st => st.env 1 = .ptr 1 0 ∧ st.box 1 = some (recL r) ∧ st.env 4 = .sl c4.length (bL c4) (.row 1000) ∧ st.row 1000 = some (5,c4.length) ∧ st.env 73 = acesL r.node.mt.acl ∧ st.env 74 = intL r.node.mt.acl.length ∧ st.env 75 = intL 0 ∧ st.mode = fun _ => false) ⟨(Yq1 @e1),(Yq1 (fa7 @b1 @recL.eq_1 @nodeL.eq_1 @piecesL.eq_1 @attrsL.eq_1 @acesL.eq_1 @rowL.eq_1)),Yq0,Yq0,(Yq1 (fa2 @acesL.eq_1 @rowL.eq_1)),Yq0,Yq0,(Yq1 @hmd)⟩ ?_
 clear e1 b1 e4 r4 e5 b5 hmd st
 rintro st ⟨e1,b1,e4,r4,e73,e74,e75,hmd⟩
 refine LW_joinB (fun st => st.env 1 = .ptr 1 0 ∧ st.box 1 = some (recL r) ∧ st.env 4 = .sl (c4 ++ r.node.mt.acl.flatMap putAc).length (bL (c4 ++ r.node.mt.acl.flatMap putAc)) (.row 1000) ∧ st.row 1000 = some (5,(c4 ++ r.node.mt.acl.flatMap putAc).length) ∧ st.mode = fun _ => false) ?_ ?_
 ·refine LW_loop (fun m st => ∃ (i : Nat) (c : List UInt8),m + i = r.node.mt.acl.length ∧ c = c4 ++ (r.node.mt.acl.take i).flatMap putAc ∧ c.length ≤ 3100 + 51 * i ∧ st.env 1 = .ptr 1 0 ∧ st.box 1 = some (recL r) ∧ st.env 4 = .sl c.length (bL c) (.row 1000) ∧ st.row 1000 = some (5,c.length) ∧ st.env 73 = acesL r.node.mt.acl ∧ st.env 74 = intL r.node.mt.acl.length ∧ st.env 75 = intL i ∧ st.mode = fun _ => false) r.node.mt.acl.length ⟨0,c4,by omega,by simp,by omega,e1,b1,e4,r4,e73,e74,e75,hmd⟩ ?_
  clear e1 b1 e4 r4 e73 e74 e75 hmd st
  rintro m st ⟨i,c,hmi,hc,hcl5,e1,b1,e4,r4,e73,e74,e75,hmd⟩
  refine Yg1 (fa2 @e74 @e75) ?_
  by_cases hlt : i < r.node.mt.acl.length
  rotate_left
  ·refine Yf1 @hlt ?_
   refine LW_exit ?_;simp only [thenL,jumpsL,inBlockL,twoL,reduceIte,Nat.reduceEqDiff]
   rw [List.take_of_length_le (by omega)] at hc
   subst hc
   exact ⟨(Yq1 @e1),(Yq1 @b1),(Yq1 @e4),(Yq1 @r4),(Yq1 @hmd)⟩
  obtain ⟨x,hx⟩ := get_of_lt hlt
  have hd := drop_aceL hx
  have hw := w64s (n := i) (by omega)
  have cn5 := numbers_O c (by omega) [x.kind,x.id,x.perm] (by simp)
  simp only [intsL,rowL,List.flatMap_cons,List.flatMap_nil,List.append_nil,intE,List.length_cons,List.length_nil,List.cons_append,List.nil_append] at cn5
  have hpe : putI x.kind ++ (putI x.id ++ putI x.perm) = putAc x := by unfold putAc;rw [List.append_assoc]
  rw [hpe] at cn5
  refine Yt1 @hlt ?_
  refine Yg1 (fa7 @e73 @e75 @acesL.eq_1 @rowL.eq_1 @hlt @hd @aceL.eq_1) ?_
  (repeat (first | refine LW_seq ?_ | (refine LW_skip ?_;simp only [LSj,reduceIte,zze]) | refine LW_block ?_));refine LW_regionO [(87,⟨_,_,_,_,_,[(1000,1000)],[(2000,1000)],_,[],(cn5).toS,rfl,rfl,rfl⟩)] ?_;intro K hK;simp only [LZ,zo,zc,reduceCtorEq,reduceIte,zz1,zz2,zz3,zz4,zz5,zz6,zz7,zz8,zz9,zza,zzb,zzc,zzd,zze,zzf,e4,r4,hmd]
  refine hK _ ?_;clear hK K;try refine Wh0 ?_
  refine Yg1 (fa2 @e75 @hw) ?_
  refine ⟨m - 1,by omega,i + 1,c ++ putAc x,by omega,?_,?_,(Yq1 @e1),(Yq1 (fa7 @b1 @recL.eq_1 @nodeL.eq_1 @piecesL.eq_1 @attrsL.eq_1 @acesL.eq_1 @rowL.eq_1)),Yq0,Yq0,(Yq1 (fa3 @e73 @acesL.eq_1 @rowL.eq_1)),(Yq1 @e74),(Yq1 @hw),(Yq1 @hmd)⟩
  ·obtain ⟨hi,rfl⟩ := List.getElem?_eq_some_iff.1 hx
   rw [hc,List.append_assoc,List.take_succ_eq_append_getElem hi,List.flatMap_append]
   simp
  ·rw [List.length_append]
   have := putAc_len x
   omega
 clear e1 b1 e4 r4 e73 e74 e75 hmd st
 rintro st ⟨e1,b1,e4,r4,hmd⟩
 have hcl6 : (c4 ++ r.node.mt.acl.flatMap putAc).length ≤ 4000 := by
  rw [List.length_append]
  have := hmx putAc 51 r.node.mt.acl (fun a _ => putAc_len a)
  omega
 generalize hC5 : c4 ++ r.node.mt.acl.flatMap putAc = c5 at *
 have cr := rest_O r hs (by have := hB.target;omega) (by have := hB.len;omega)
 have hrl := restR_len hB
 simp only [recL,nodeL,attrsL,acesL,piecesL,rowL,List.cons_append,List.nil_append] at b1 cr
 have h1 := bL_len (restR r.node r.pos)
 have h2 := bL_one (restR r.node r.pos)
 have h3 := strip_bL (restR r.node r.pos)
 have h4 := bL_len c5
 (repeat (first | refine LW_seq ?_ | (refine LW_skip ?_;simp only [LSj,reduceIte,zze]) | refine LW_block ?_));refine LW_regionO [(91,⟨_,_,_,_,_,[],[(2000,1001)],_,[],(cr).toS,rfl,rfl,rfl⟩)] ?_;intro K hK;simp only [LZ,zo,zc,reduceCtorEq,reduceIte,zz1,zz2,zz3,zz4,zz5,zz6,zz7,zz8,zz9,zza,zzb,zzc,zzd,zze,zzf,e1,b1,e4,r4,hmd,h1,h2,h3,h4]
 refine ⟨by (repeat' apply And.intro) <;> first | omega | (unfold maxLen;omega) | (intro _;omega) | decide,?_⟩
 refine hK _ ?_;clear hK K;try refine Wh0 ?_
 refine LW_ret ?_;simp only [thenL,jumpsL,inBlockL,twoL,bodyO];refine ⟨[],rfl,?_⟩;simp only [thenL,jumpsL,inBlockL,twoL,bodyQ,LV.lit.injEq,LV.tup.injEq,LV.agg.injEq,LV.sl.injEq,List.cons.injEq,Value.int.injEq,Value.bool.injEq,Value.string.injEq,ByteArray.mk.injEq,exists_eq_left',exists_eq_left,exists_eq_right,LZ,zo,zc,reduceCtorEq,reduceIte,zz1,zz2,zz3,zz4,zz5,zz6,zz7,zz8,zz9,zza,zzb,zzc,zzd,zze,zzf,bytesL']
 have hac := putI_nat (n := r.node.mt.acl.length) (by have := hM.acl;unfold half;omega)
 have hRe : R = c5 ++ restR r.node r.pos := by
  rw [← hR,← hC5,← hC4,← hC3,← hC2]
  unfold putM
  rw [← hmn,← hac]
  simp [List.append_assoc]
 rw [hRe,List.length_append,bL_app]
 exact ⟨rfl,rfl⟩
def putP (r : Rec) : List UInt8 × Int := if mayRec r = true then (putRec r,0) else ([],1)
theorem rput_L (r : Rec) (hp : r.path.length < 1000000) (hs : small r.node) (ht : r.node.mt.time < 9223372036854775808) : LCalls Tryz.prog 41 [.agg (recL r)] (.tup [bytesL' (putP r).1,intL (putP r).2]) := by
 have := (rput_O r hp hs ht).toL
 unfold putP
 cases h : mayRec r
 ·rw [h] at this;exact this
 ·rw [h] at this;exact this
end Go.Proofs.YtnmjghcdccfphaaGreatDoor
end
section
set_option linter.unusedSimpArgs false
set_option linter.unusedVariables false
namespace Go.Proofs.YtnmjghcdccfphaaGreatDoor
open Nat renaming reduceAdd → zz1,reduceMul → zz2,reduceSub → zz3,reduceLT → zz4,reduceLeDiff → zz5,reduceEqDiff → zz6,reduceBEq → zzf
open Int renaming reduceAdd → zz7,reduceSub → zz8,reduceMul → zz9,reduceLT → zza,reduceLE → zzb,reduceEq → zzc,reduceNeg → zzd,reduceToNat → zze
open Op renaming operands → zo
open Call renaming operands → zc
open Go.RowKit Go.Proofs AclSpec MetaSpec NodeSpec RecSpec PathSpec

def rdL (b : List UInt8) (s : Rd) : List LV := [bytesL' b,intL s.pos,boolL s.bad]
theorem rLong_lt {b : List UInt8} {s : Rd} (hs : s.pos ≤ b.length) : (rLong b s).1 < half := by
 unfold rLong
 split
 ·split
  ·show 0 < half;decide
  ·rename_i n r hg hc
   show n < half
   omega
 ·show 0 < half;decide
set_option maxRecDepth 100000 in
theorem long_S (b : List UInt8) (hb : b.length ≤ 1000000) (s : Rd) (hs : s.pos ≤ b.length) :
  SCalls Tryz.prog 78 [.ptr 1000 0] ⟨[],[],[(1000,rdL b s)]⟩ (intL ((rLong b s).1 : Int)) ⟨[],[],[(2000,rdL b (rLong b s).2)]⟩ [(1000,2000)] := by
 have cg := nget_L b hb s.pos hs
 unfold getP at cg
 refine SCalls.of (fun _ => false) [(1000,2000)] 0 Tryz.func78 rfl (by decide) Tryz.ntmps78 Tryz.results78 (by simp) (.inr ⟨_,_,rfl,by decide,rfl⟩) ?_
 intro w0 S0 vs
 generalize hR : rLong b s = R
 unfold rLong at hR
 have hmd : (fun _ : Nat => false) = fun _ : Nat => false := rfl
 refine Yg0 ?_
 cases hg : getU (b.drop s.pos) 0 1 true with
 | none =>
  rw [hg] at cg hR
  simp only [bytesL',intL,u64L] at cg
  rw [show ((3 : Nat) : Int) = 3 from rfl] at cg
  cases hbad : s.bad
  all_goals
   refine Yn1 (fa3 @hmd @rdL.eq_1 @bytesL'.eq_1) ?_;intro K hK
   refine Yc1 (cg) (fa2 @rdL.eq_1 @bytesL'.eq_1) ?_
   refine hK _ ?_;clear hK K;try refine Wh0 ?_
   refine Yg1 @hbad ?_
   refine Yt0 ?_
   refine Yg0 ?_
   refine LW_ret ?_;simp only [thenL,jumpsL,inBlockL,twoL,bodyS];refine ⟨[(1000,2000)],rfl,.inr ⟨_,_,_,rfl,rfl,(by first | exact rfl | assumption | (simp only [LZ,zo,zc,reduceCtorEq,reduceIte,zz1,zz2,zz3,zz4,zz5,zz6,zz7,zz8,zz9,zza,zzb,zzc,zzd,zze,zzf,rdL,bytesL'] <;> exact rfl)),(by first | exact rfl | assumption | (simp only [LZ,zo,zc,reduceCtorEq,reduceIte,zz1,zz2,zz3,zz4,zz5,zz6,zz7,zz8,zz9,zza,zzb,zzc,zzd,zze,zzf,rdL,bytesL'] <;> exact rfl))⟩,?_⟩;simp only [thenL,jumpsL,inBlockL,twoL,bodyQ,LV.lit.injEq,LV.tup.injEq,LV.agg.injEq,LV.sl.injEq,List.cons.injEq,Value.int.injEq,Value.bool.injEq,Value.string.injEq,ByteArray.mk.injEq,exists_eq_left',exists_eq_left,exists_eq_right,LZ,zo,zc,reduceCtorEq,reduceIte,zz1,zz2,zz3,zz4,zz5,zz6,zz7,zz8,zz9,zza,zzb,zzc,zzd,zze,zzf,rdL,bytesL']
   rw [← hR];exact ⟨rfl,rfl,rfl⟩
 | some q =>
  obtain ⟨n,r⟩ := q
  obtain ⟨hn,hrl,hdr⟩ := get_pos hs hg
  rw [hg] at cg hR
  simp only [bytesL',intL,u64L] at cg
  simp only at hR
  refine Yn1 (fa3 @hmd @rdL.eq_1 @bytesL'.eq_1) ?_;intro K hK
  refine Yc1 (cg) (fa2 @rdL.eq_1 @bytesL'.eq_1) ?_
  refine hK _ ?_;clear hK K;try refine Wh0 ?_
  by_cases hbad : s.bad = true
  ·rw [if_pos (.inl hbad)] at hR
   refine Yg1 @hbad ?_
   refine Yt0 ?_
   refine Yg0 ?_
   refine LW_ret ?_;simp only [thenL,jumpsL,inBlockL,twoL,bodyS];refine ⟨[(1000,2000)],rfl,.inr ⟨_,_,_,rfl,rfl,(by first | exact rfl | assumption | (simp only [LZ,zo,zc,reduceCtorEq,reduceIte,zz1,zz2,zz3,zz4,zz5,zz6,zz7,zz8,zz9,zza,zzb,zzc,zzd,zze,zzf,rdL,bytesL'] <;> exact rfl)),(by first | exact rfl | assumption | (simp only [LZ,zo,zc,reduceCtorEq,reduceIte,zz1,zz2,zz3,zz4,zz5,zz6,zz7,zz8,zz9,zza,zzb,zzc,zzd,zze,zzf,rdL,bytesL'] <;> exact rfl))⟩,?_⟩;simp only [thenL,jumpsL,inBlockL,twoL,bodyQ,LV.lit.injEq,LV.tup.injEq,LV.agg.injEq,LV.sl.injEq,List.cons.injEq,Value.int.injEq,Value.bool.injEq,Value.string.injEq,ByteArray.mk.injEq,exists_eq_left',exists_eq_left,exists_eq_right,LZ,zo,zc,reduceCtorEq,reduceIte,zz1,zz2,zz3,zz4,zz5,zz6,zz7,zz8,zz9,zza,zzb,zzc,zzd,zze,zzf,rdL,bytesL']
   rw [← hR];exact ⟨rfl,rfl,rfl⟩
  by_cases hh : half ≤ n
  ·rw [if_pos (.inr hh)] at hR
   have hhi : ((9223372036854775807 : Int) < (n : Int)) = True := eq_true (by unfold half at hh;omega)
   refine Yg1 (fa2 @hbad @hhi) ?_
   refine Yt0 ?_
   refine Yg0 ?_
   refine LW_ret ?_;simp only [thenL,jumpsL,inBlockL,twoL,bodyS];refine ⟨[(1000,2000)],rfl,.inr ⟨_,_,_,rfl,rfl,(by first | exact rfl | assumption | (simp only [LZ,zo,zc,reduceCtorEq,reduceIte,zz1,zz2,zz3,zz4,zz5,zz6,zz7,zz8,zz9,zza,zzb,zzc,zzd,zze,zzf,rdL,bytesL'] <;> exact rfl)),(by first | exact rfl | assumption | (simp only [LZ,zo,zc,reduceCtorEq,reduceIte,zz1,zz2,zz3,zz4,zz5,zz6,zz7,zz8,zz9,zza,zzb,zzc,zzd,zze,zzf,rdL,bytesL'] <;> exact rfl))⟩,?_⟩;simp only [thenL,jumpsL,inBlockL,twoL,bodyQ,LV.lit.injEq,LV.tup.injEq,LV.agg.injEq,LV.sl.injEq,List.cons.injEq,Value.int.injEq,Value.bool.injEq,Value.string.injEq,ByteArray.mk.injEq,exists_eq_left',exists_eq_left,exists_eq_right,LZ,zo,zc,reduceCtorEq,reduceIte,zz1,zz2,zz3,zz4,zz5,zz6,zz7,zz8,zz9,zza,zzb,zzc,zzd,zze,zzf,rdL,bytesL']
   rw [← hR];exact ⟨rfl,rfl,rfl⟩
  ·rw [if_neg (by rintro (c | c);exact hbad c;exact hh c)] at hR
   have hhi : ¬ ((9223372036854775807 : Int) < (n : Int)) := by unfold half at hh;omega
   have hw : IntKind.i64.wrap (n : Int) = (n : Int) := w64 (by unfold half at hh;omega)
   refine Yg1 (fa2 @hbad @hhi) ?_
   refine Yf0 ?_
   refine Yg1 @hw ?_
   refine LW_ret ?_;simp only [thenL,jumpsL,inBlockL,twoL,bodyS];refine ⟨[(1000,2000)],rfl,.inr ⟨_,_,_,rfl,rfl,(by first | exact rfl | assumption | (simp only [LZ,zo,zc,reduceCtorEq,reduceIte,zz1,zz2,zz3,zz4,zz5,zz6,zz7,zz8,zz9,zza,zzb,zzc,zzd,zze,zzf,rdL,bytesL'] <;> exact rfl)),(by first | exact rfl | assumption | (simp only [LZ,zo,zc,reduceCtorEq,reduceIte,zz1,zz2,zz3,zz4,zz5,zz6,zz7,zz8,zz9,zza,zzb,zzc,zzd,zze,zzf,rdL,bytesL'] <;> exact rfl))⟩,?_⟩;simp only [thenL,jumpsL,inBlockL,twoL,bodyQ,LV.lit.injEq,LV.tup.injEq,LV.agg.injEq,LV.sl.injEq,List.cons.injEq,Value.int.injEq,Value.bool.injEq,Value.string.injEq,ByteArray.mk.injEq,exists_eq_left',exists_eq_left,exists_eq_right,LZ,zo,zc,reduceCtorEq,reduceIte,zz1,zz2,zz3,zz4,zz5,zz6,zz7,zz8,zz9,zza,zzb,zzc,zzd,zze,zzf,rdL,bytesL']
   rw [← hR];exact ⟨rfl,rfl,rfl⟩
set_option maxRecDepth 100000 in
theorem number_S (b : List UInt8) (hb : b.length ≤ 1000000) (s : Rd) (hs : s.pos ≤ b.length) (most : Nat) :
  SCalls Tryz.prog 68 [.ptr 1000 0,intL most] ⟨[],[],[(1000,rdL b s)]⟩ (intL ((rNum b most s).1 : Int)) ⟨[],[],[(2000,rdL b (rNum b most s).2)]⟩ [(1000,2000)] := by
 have cl := long_S b hb s hs
 have hlt := rLong_lt hs
 simp only [rdL,bytesL',intL] at cl
 refine SCalls.of (fun _ => false) [(1000,2000)] 0 Tryz.func68 rfl (by decide) Tryz.ntmps68 Tryz.results68 (by simp) (.inr ⟨_,_,rfl,by decide,rfl⟩) ?_
 intro w0 S0 vs
 generalize hR : rNum b most s = R
 unfold rNum at hR
 have hmd : (fun _ : Nat => false) = fun _ : Nat => false := rfl
 refine Yg0 ?_
 (repeat (first | refine LW_seq ?_ | (refine LW_skip ?_;simp only [LSj,reduceIte,zze]) | refine LW_block ?_));refine LW_regionO [(7,⟨_,_,_,_,_,[(1000,1000)],[(2000,1000)],_,[1001000],(cl).toS,rfl,rfl,rfl⟩)] ?_;intro K hK;simp only [LZ,zo,zc,reduceCtorEq,reduceIte,zz1,zz2,zz3,zz4,zz5,zz6,zz7,zz8,zz9,zza,zzb,zzc,zzd,zze,zzf,rdL,bytesL']
 refine hK _ ?_;clear hK K;try refine Wh0 ?_
 by_cases h : most < (rLong b s).1
 ·have hi : ((most : Int) < ((rLong b s).1 : Int)) = True := eq_true (by omega)
  rw [if_pos h] at hR
  refine Yg1 @hi ?_
  refine Yt0 ?_
  refine Yg0 ?_
  refine LW_ret ?_;simp only [thenL,jumpsL,inBlockL,twoL,bodyS];refine ⟨[(1000,2000)],rfl,.inr ⟨_,_,_,rfl,rfl,(by first | exact rfl | assumption | (simp only [LZ,zo,zc,reduceCtorEq,reduceIte,zz1,zz2,zz3,zz4,zz5,zz6,zz7,zz8,zz9,zza,zzb,zzc,zzd,zze,zzf,rdL,bytesL'] <;> exact rfl)),(by first | exact rfl | assumption | (simp only [LZ,zo,zc,reduceCtorEq,reduceIte,zz1,zz2,zz3,zz4,zz5,zz6,zz7,zz8,zz9,zza,zzb,zzc,zzd,zze,zzf,rdL,bytesL'] <;> exact rfl))⟩,?_⟩;simp only [thenL,jumpsL,inBlockL,twoL,bodyQ,LV.lit.injEq,LV.tup.injEq,LV.agg.injEq,LV.sl.injEq,List.cons.injEq,Value.int.injEq,Value.bool.injEq,Value.string.injEq,ByteArray.mk.injEq,exists_eq_left',exists_eq_left,exists_eq_right,LZ,zo,zc,reduceCtorEq,reduceIte,zz1,zz2,zz3,zz4,zz5,zz6,zz7,zz8,zz9,zza,zzb,zzc,zzd,zze,zzf,rdL,bytesL']
  rw [← hR];exact ⟨rfl,rfl,rfl⟩
 ·have hi : ¬ ((most : Int) < ((rLong b s).1 : Int)) := by omega
  have hw : IntKind.i64.wrap ((rLong b s).1 : Int) = ((rLong b s).1 : Int) := w64 (by unfold half at hlt;omega)
  rw [if_neg h] at hR
  refine Yg1 (fa2 @hi @hw) ?_
  refine Yf0 ?_
  refine Yg1 @hw ?_
  refine LW_ret ?_;simp only [thenL,jumpsL,inBlockL,twoL,bodyS];refine ⟨[(1000,2000)],rfl,.inr ⟨_,_,_,rfl,rfl,(by first | exact rfl | assumption | (simp only [LZ,zo,zc,reduceCtorEq,reduceIte,zz1,zz2,zz3,zz4,zz5,zz6,zz7,zz8,zz9,zza,zzb,zzc,zzd,zze,zzf,rdL,bytesL'] <;> exact rfl)),(by first | exact rfl | assumption | (simp only [LZ,zo,zc,reduceCtorEq,reduceIte,zz1,zz2,zz3,zz4,zz5,zz6,zz7,zz8,zz9,zza,zzb,zzc,zzd,zze,zzf,rdL,bytesL'] <;> exact rfl))⟩,?_⟩;simp only [thenL,jumpsL,inBlockL,twoL,bodyQ,LV.lit.injEq,LV.tup.injEq,LV.agg.injEq,LV.sl.injEq,List.cons.injEq,Value.int.injEq,Value.bool.injEq,Value.string.injEq,ByteArray.mk.injEq,exists_eq_left',exists_eq_left,exists_eq_right,LZ,zo,zc,reduceCtorEq,reduceIte,zz1,zz2,zz3,zz4,zz5,zz6,zz7,zz8,zz9,zza,zzb,zzc,zzd,zze,zzf,rdL,bytesL']
  rw [← hR];exact ⟨rfl,rfl,rfl⟩
theorem getTP_T {b : List UInt8} {i most : Nat} (hi : i ≤ b.length) : (∃ t r,getT (b.drop i) most = some (t,r) ∧ getTP b i most = (t,b.length - r.length,0)) ∨ (getT (b.drop i) most = none ∧ ∃ e : Nat,e ≠ 0 ∧ getTP b i most = ([],i,e)) := by
 unfold getT getTP
 cases hg : getU (b.drop i) 0 1 true with
 | none => exact .inr ⟨rfl,3,by decide,rfl⟩
 | some q =>
  obtain ⟨n,r⟩ := q
  obtain ⟨hn,hrl,hdr⟩ := get_pos hi hg
  simp only
  by_cases h1 : most < n
  ·rw [if_pos h1,if_pos (.inl h1)];exact .inr ⟨rfl,13,by decide,rfl⟩
  ·by_cases h2 : r.length < n
   ·rw [if_neg h1,if_pos h2,if_pos (.inr h2)];exact .inr ⟨rfl,3,by decide,rfl⟩
   ·rw [if_neg h1,if_neg h2,if_neg (by rintro (c | c);exact h1 c;exact h2 c)]
    refine .inl ⟨_,_,rfl,?_⟩
    rw [List.length_drop]
    congr 2;omega
set_option maxRecDepth 100000 in
theorem text_S (b : List UInt8) (hb : b.length ≤ 1000000) (s : Rd) (hs : s.pos ≤ b.length) (most : Nat) (hm : most < 9223372036854775808) :
  SCalls Tryz.prog 67 [.ptr 1000 0,intL most] ⟨[],[],[(1000,rdL b s)]⟩ (strL (rText b most s).1) ⟨[],[],[(2000,rdL b (rText b most s).2)]⟩ [(1000,2000)] := by
 have cg := ngettext_L b hb s.pos hs most hm
 refine SCalls.of (fun _ => false) [(1000,2000)] 0 Tryz.func67 rfl (by decide) Tryz.ntmps67 Tryz.results67 (by simp) (.inr ⟨_,_,rfl,by decide,rfl⟩) ?_
 intro w0 S0 vs
 generalize hR : rText b most s = R
 unfold rText at hR
 have hmd : (fun _ : Nat => false) = fun _ : Nat => false := rfl
 refine Yg0 ?_
 rcases getTP_T (b := b) (i := s.pos) (most := most) hs with ⟨t,r,hg,hp⟩ | ⟨hg,e,he,hp⟩
 ·rw [hg] at hR
  rw [hp] at cg
  simp only [bytesL',intL] at cg
  simp only at hR
  rw [show ((0 : Nat) : Int) = 0 from rfl] at cg
  by_cases hbad : s.bad = true
  ·rw [if_pos hbad] at hR
   refine Yn1 (fa3 @hmd @rdL.eq_1 @bytesL'.eq_1) ?_;intro K hK
   refine Yc1 (cg) (fa2 @rdL.eq_1 @bytesL'.eq_1) ?_
   refine hK _ ?_;clear hK K;try refine Wh0 ?_
   refine Yg1 @hbad ?_
   refine Yt0 ?_
   refine Yg0 ?_
   refine LW_ret ?_;simp only [thenL,jumpsL,inBlockL,twoL,bodyS];refine ⟨[(1000,2000)],rfl,.inr ⟨_,_,_,rfl,rfl,(by first | exact rfl | assumption | (simp only [LZ,zo,zc,reduceCtorEq,reduceIte,zz1,zz2,zz3,zz4,zz5,zz6,zz7,zz8,zz9,zza,zzb,zzc,zzd,zze,zzf,rdL,bytesL'] <;> exact rfl)),(by first | exact rfl | assumption | (simp only [LZ,zo,zc,reduceCtorEq,reduceIte,zz1,zz2,zz3,zz4,zz5,zz6,zz7,zz8,zz9,zza,zzb,zzc,zzd,zze,zzf,rdL,bytesL'] <;> exact rfl))⟩,?_⟩;simp only [thenL,jumpsL,inBlockL,twoL,bodyQ,LV.lit.injEq,LV.tup.injEq,LV.agg.injEq,LV.sl.injEq,List.cons.injEq,Value.int.injEq,Value.bool.injEq,Value.string.injEq,ByteArray.mk.injEq,exists_eq_left',exists_eq_left,exists_eq_right,LZ,zo,zc,reduceCtorEq,reduceIte,zz1,zz2,zz3,zz4,zz5,zz6,zz7,zz8,zz9,zza,zzb,zzc,zzd,zze,zzf,rdL,bytesL']
   rw [← hR];exact ⟨rfl,rfl,rfl⟩
  ·rw [if_neg hbad] at hR
   refine Yn1 (fa3 @hmd @rdL.eq_1 @bytesL'.eq_1) ?_;intro K hK
   refine Yc1 (cg) (fa2 @rdL.eq_1 @bytesL'.eq_1) ?_
   refine hK _ ?_;clear hK K;try refine Wh0 ?_
   refine Yg1 @hbad ?_
   refine Yf0 ?_
   refine Yg0 ?_
   refine LW_ret ?_;simp only [thenL,jumpsL,inBlockL,twoL,bodyS];refine ⟨[(1000,2000)],rfl,.inr ⟨_,_,_,rfl,rfl,(by first | exact rfl | assumption | (simp only [LZ,zo,zc,reduceCtorEq,reduceIte,zz1,zz2,zz3,zz4,zz5,zz6,zz7,zz8,zz9,zza,zzb,zzc,zzd,zze,zzf,rdL,bytesL'] <;> exact rfl)),(by first | exact rfl | assumption | (simp only [LZ,zo,zc,reduceCtorEq,reduceIte,zz1,zz2,zz3,zz4,zz5,zz6,zz7,zz8,zz9,zza,zzb,zzc,zzd,zze,zzf,rdL,bytesL'] <;> exact rfl))⟩,?_⟩;simp only [thenL,jumpsL,inBlockL,twoL,bodyQ,LV.lit.injEq,LV.tup.injEq,LV.agg.injEq,LV.sl.injEq,List.cons.injEq,Value.int.injEq,Value.bool.injEq,Value.string.injEq,ByteArray.mk.injEq,exists_eq_left',exists_eq_left,exists_eq_right,LZ,zo,zc,reduceCtorEq,reduceIte,zz1,zz2,zz3,zz4,zz5,zz6,zz7,zz8,zz9,zza,zzb,zzc,zzd,zze,zzf,rdL,bytesL']
   rw [← hR];exact ⟨rfl,rfl,rfl⟩
 ·rw [hg] at hR
  rw [hp] at cg
  simp only [bytesL',intL] at cg
  simp only at hR
  have hei : ¬ ((e : Int) = 0) := by omega
  cases hbad : s.bad
  all_goals
   refine Yn1 (fa3 @hmd @rdL.eq_1 @bytesL'.eq_1) ?_;intro K hK
   refine Yc1 (cg) (fa2 @rdL.eq_1 @bytesL'.eq_1) ?_
   refine hK _ ?_;clear hK K;try refine Wh0 ?_
   refine Yg1 (fa2 @hbad @hei) ?_
   refine Yt0 ?_
   refine Yg0 ?_
   refine LW_ret ?_;simp only [thenL,jumpsL,inBlockL,twoL,bodyS];refine ⟨[(1000,2000)],rfl,.inr ⟨_,_,_,rfl,rfl,(by first | exact rfl | assumption | (simp only [LZ,zo,zc,reduceCtorEq,reduceIte,zz1,zz2,zz3,zz4,zz5,zz6,zz7,zz8,zz9,zza,zzb,zzc,zzd,zze,zzf,rdL,bytesL'] <;> exact rfl)),(by first | exact rfl | assumption | (simp only [LZ,zo,zc,reduceCtorEq,reduceIte,zz1,zz2,zz3,zz4,zz5,zz6,zz7,zz8,zz9,zza,zzb,zzc,zzd,zze,zzf,rdL,bytesL'] <;> exact rfl))⟩,?_⟩;simp only [thenL,jumpsL,inBlockL,twoL,bodyQ,LV.lit.injEq,LV.tup.injEq,LV.agg.injEq,LV.sl.injEq,List.cons.injEq,Value.int.injEq,Value.bool.injEq,Value.string.injEq,ByteArray.mk.injEq,exists_eq_left',exists_eq_left,exists_eq_right,LZ,zo,zc,reduceCtorEq,reduceIte,zz1,zz2,zz3,zz4,zz5,zz6,zz7,zz8,zz9,zza,zzb,zzc,zzd,zze,zzf,rdL,bytesL']
   rw [← hR];exact ⟨rfl,rfl,rfl⟩
set_option maxRecDepth 100000 in
theorem kind_S (b : List UInt8) (hb : b.length ≤ 1000000) (s : Rd) (hs : s.pos ≤ b.length) :
  SCalls Tryz.prog 79 [.ptr 1000 0] ⟨[],[],[(1000,rdL b s)]⟩ (intL ((rKind b s).1 : Int)) ⟨[],[],[(2000,rdL b (rKind b s).2)]⟩ [(1000,2000)] := by
 have hbl := bL_len b
 have hip : (0 : Int) ≤ (s.pos : Int) := by omega
 refine SCalls.of (fun _ => false) [(1000,2000)] 0 Tryz.func79 rfl (by decide) Tryz.ntmps79 Tryz.results79 (by simp) (.inr ⟨_,_,rfl,by decide,rfl⟩) ?_
 intro w0 S0 vs
 generalize hR : rKind b s = R
 unfold rKind at hR
 have hmd : (fun _ : Nat => false) = fun _ : Nat => false := rfl
 refine Yg0 ?_
 by_cases h1 : s.pos < b.length
 rotate_left
 ·have hei : ((s.pos : Int) = (b.length : Int)) = True := eq_true (by omega)
  rw [List.getElem?_eq_none (by omega)] at hR
  cases hbad : s.bad
  all_goals
   refine Yn1 (fa5 @hmd @rdL.eq_1 @bytesL'.eq_1 @hbad @hei) ?_;intro K hK
   refine hK _ ?_;clear hK K;try refine Wh0 ?_
   refine Yt0 ?_
   refine Yg0 ?_
   refine LW_ret ?_;simp only [thenL,jumpsL,inBlockL,twoL,bodyS];refine ⟨[(1000,2000)],rfl,.inr ⟨_,_,_,rfl,rfl,(by first | exact rfl | assumption | (simp only [LZ,zo,zc,reduceCtorEq,reduceIte,zz1,zz2,zz3,zz4,zz5,zz6,zz7,zz8,zz9,zza,zzb,zzc,zzd,zze,zzf,rdL,bytesL'] <;> exact rfl)),(by first | exact rfl | assumption | (simp only [LZ,zo,zc,reduceCtorEq,reduceIte,zz1,zz2,zz3,zz4,zz5,zz6,zz7,zz8,zz9,zza,zzb,zzc,zzd,zze,zzf,rdL,bytesL'] <;> exact rfl))⟩,?_⟩;simp only [thenL,jumpsL,inBlockL,twoL,bodyQ,LV.lit.injEq,LV.tup.injEq,LV.agg.injEq,LV.sl.injEq,List.cons.injEq,Value.int.injEq,Value.bool.injEq,Value.string.injEq,ByteArray.mk.injEq,exists_eq_left',exists_eq_left,exists_eq_right,LZ,zo,zc,reduceCtorEq,reduceIte,zz1,zz2,zz3,zz4,zz5,zz6,zz7,zz8,zz9,zza,zzb,zzc,zzd,zze,zzf,rdL,bytesL']
   rw [← hR];exact ⟨rfl,rfl,rfl⟩
 have hei : ¬ ((s.pos : Int) = (b.length : Int)) := by omega
 obtain ⟨c,hc⟩ := get_of_lt h1
 have hd := bL_get hc
 simp only [byL] at hd
 rw [hc] at hR
 simp only at hR
 by_cases hbad : s.bad = true
 ·rw [if_pos (.inl hbad)] at hR
  refine Yn1 (fa5 @hmd @rdL.eq_1 @bytesL'.eq_1 @hbad @hei) ?_;intro K hK
  refine hK _ ?_;clear hK K;try refine Wh0 ?_
  refine Yt0 ?_
  refine Yg0 ?_
  refine LW_ret ?_;simp only [thenL,jumpsL,inBlockL,twoL,bodyS];refine ⟨[(1000,2000)],rfl,.inr ⟨_,_,_,rfl,rfl,(by first | exact rfl | assumption | (simp only [LZ,zo,zc,reduceCtorEq,reduceIte,zz1,zz2,zz3,zz4,zz5,zz6,zz7,zz8,zz9,zza,zzb,zzc,zzd,zze,zzf,rdL,bytesL'] <;> exact rfl)),(by first | exact rfl | assumption | (simp only [LZ,zo,zc,reduceCtorEq,reduceIte,zz1,zz2,zz3,zz4,zz5,zz6,zz7,zz8,zz9,zza,zzb,zzc,zzd,zze,zzf,rdL,bytesL'] <;> exact rfl))⟩,?_⟩;simp only [thenL,jumpsL,inBlockL,twoL,bodyQ,LV.lit.injEq,LV.tup.injEq,LV.agg.injEq,LV.sl.injEq,List.cons.injEq,Value.int.injEq,Value.bool.injEq,Value.string.injEq,ByteArray.mk.injEq,exists_eq_left',exists_eq_left,exists_eq_right,LZ,zo,zc,reduceCtorEq,reduceIte,zz1,zz2,zz3,zz4,zz5,zz6,zz7,zz8,zz9,zza,zzb,zzc,zzd,zze,zzf,rdL,bytesL']
  rw [← hR];exact ⟨rfl,rfl,rfl⟩
 by_cases h6 : 6 < c.toNat
 ·have h6i : ((6 : Int) < (c.toNat : Int)) = True := eq_true (by omega)
  rw [if_pos (.inr h6)] at hR
  refine Yn1 (fa9 @hmd @rdL.eq_1 @bytesL'.eq_1 @hbad @hei @h1 @hip @hd @h6i) ?_;intro K hK
  refine hK _ ?_;clear hK K;try refine Wh0 ?_
  refine Yt0 ?_
  refine Yg0 ?_
  refine LW_ret ?_;simp only [thenL,jumpsL,inBlockL,twoL,bodyS];refine ⟨[(1000,2000)],rfl,.inr ⟨_,_,_,rfl,rfl,(by first | exact rfl | assumption | (simp only [LZ,zo,zc,reduceCtorEq,reduceIte,zz1,zz2,zz3,zz4,zz5,zz6,zz7,zz8,zz9,zza,zzb,zzc,zzd,zze,zzf,rdL,bytesL'] <;> exact rfl)),(by first | exact rfl | assumption | (simp only [LZ,zo,zc,reduceCtorEq,reduceIte,zz1,zz2,zz3,zz4,zz5,zz6,zz7,zz8,zz9,zza,zzb,zzc,zzd,zze,zzf,rdL,bytesL'] <;> exact rfl))⟩,?_⟩;simp only [thenL,jumpsL,inBlockL,twoL,bodyQ,LV.lit.injEq,LV.tup.injEq,LV.agg.injEq,LV.sl.injEq,List.cons.injEq,Value.int.injEq,Value.bool.injEq,Value.string.injEq,ByteArray.mk.injEq,exists_eq_left',exists_eq_left,exists_eq_right,LZ,zo,zc,reduceCtorEq,reduceIte,zz1,zz2,zz3,zz4,zz5,zz6,zz7,zz8,zz9,zza,zzb,zzc,zzd,zze,zzf,rdL,bytesL']
  rw [← hR];exact ⟨rfl,rfl,rfl⟩
 have h6i : ¬ ((6 : Int) < (c.toNat : Int)) := by omega
 rw [if_neg (by rintro (d | d);exact hbad d;exact h6 d)] at hR
 have hw := w64s (n := s.pos) (by omega)
 have hw2 : IntKind.i64.wrap (((s.pos + 1 : Nat) : Int) - 1) = (s.pos : Int) := by rw [show ((s.pos + 1 : Nat) : Int) - 1 = (s.pos : Int) by omega];exact w64 (by omega)
 have hw3 : IntKind.i64.wrap (c.toNat : Int) = (c.toNat : Int) := w64 (by have := c.toNat_lt;omega)
 refine Yn1 (fa9 @hmd @rdL.eq_1 @bytesL'.eq_1 @hbad @hei @h1 @hip @hd @h6i) ?_;intro K hK
 refine hK _ ?_;clear hK K;try refine Wh0 ?_
 refine Yf0 ?_
 refine Yg1 @hw ?_
 refine Yn1 (fa6 @hmd @hw2 @h1 @hip @hd @hw3) ?_;intro K hK
 refine hK _ ?_;clear hK K;try refine Wh0 ?_
 refine LW_ret ?_;simp only [thenL,jumpsL,inBlockL,twoL,bodyS];refine ⟨[(1000,2000)],rfl,.inr ⟨_,_,_,rfl,rfl,(by first | exact rfl | assumption | (simp only [LZ,zo,zc,reduceCtorEq,reduceIte,zz1,zz2,zz3,zz4,zz5,zz6,zz7,zz8,zz9,zza,zzb,zzc,zzd,zze,zzf,rdL,bytesL'] <;> exact rfl)),(by first | exact rfl | assumption | (simp only [LZ,zo,zc,reduceCtorEq,reduceIte,zz1,zz2,zz3,zz4,zz5,zz6,zz7,zz8,zz9,zza,zzb,zzc,zzd,zze,zzf,rdL,bytesL'] <;> exact rfl))⟩,?_⟩;simp only [thenL,jumpsL,inBlockL,twoL,bodyQ,LV.lit.injEq,LV.tup.injEq,LV.agg.injEq,LV.sl.injEq,List.cons.injEq,Value.int.injEq,Value.bool.injEq,Value.string.injEq,ByteArray.mk.injEq,exists_eq_left',exists_eq_left,exists_eq_right,LZ,zo,zc,reduceCtorEq,reduceIte,zz1,zz2,zz3,zz4,zz5,zz6,zz7,zz8,zz9,zza,zzb,zzc,zzd,zze,zzf,rdL,bytesL']
 rw [← hR];exact ⟨rfl,rfl,rfl⟩
end Go.Proofs.YtnmjghcdccfphaaGreatDoor
end
section
set_option linter.unusedSimpArgs false
set_option linter.unusedVariables false
namespace Go.Proofs.YtnmjghcdccfphaaGreatDoor
open Nat renaming reduceAdd → zz1,reduceMul → zz2,reduceSub → zz3,reduceLT → zz4,reduceLeDiff → zz5,reduceEqDiff → zz6,reduceBEq → zzf
open Int renaming reduceAdd → zz7,reduceSub → zz8,reduceMul → zz9,reduceLT → zza,reduceLE → zzb,reduceEq → zzc,reduceNeg → zzd,reduceToNat → zze
open Op renaming operands → zo
open Call renaming operands → zc
open Go.RowKit Go.Proofs AclSpec MetaSpec NodeSpec RecSpec PathSpec

theorem rNum_pos {b : List UInt8} {most : Nat} {s : Rd} (h : s.pos ≤ b.length) : (rNum b most s).2.pos ≤ b.length := (rNum_ok b most).pos s h
theorem rLong_pos {b : List UInt8} {s : Rd} (h : s.pos ≤ b.length) : (rLong b s).2.pos ≤ b.length := (rLong_ok b).pos s h
theorem rText_pos {b : List UInt8} {most : Nat} (hm : most < half) {s : Rd} (h : s.pos ≤ b.length) : (rText b most s).2.pos ≤ b.length := (rText_ok b most hm).pos s h
theorem rNum_le {b : List UInt8} {most : Nat} {s : Rd} : (rNum b most s).1 ≤ most := by
 unfold rNum
 split
 ·exact Nat.zero_le _
 ·omega
theorem rText_le {b : List UInt8} {most : Nat} {s : Rd} (h : s.pos ≤ b.length) : (rText b most s).1.length ≤ most := by
 unfold rText
 split
 ·split
  ·simp
  ·rename_i t r hg hc
   exact (getT_inv hg).2
 ·simp
theorem rRep_succ {α : Type} (f : Rdr α) (k : Nat) (s : Rd) : rRep f (k + 1) s = ((f s).1 :: (rRep f k (f s).2).1,(rRep f k (f s).2).2) := rfl
theorem rRep_step {α : Type} {f : Rdr α} {k : Nat} {s0 s : Rd} {n : Nat} {l : List α} (h : rRep f n s0 = (l ++ (rRep f (k + 1) s).1,(rRep f (k + 1) s).2)) : rRep f n s0 = (l ++ [(f s).1] ++ (rRep f k (f s).2).1,(rRep f k (f s).2).2) := by
 rw [h,rRep_succ];simp
def zMeta : List LV := [intL 0,intL 0,intL 0,intL 0,.sl 0 [] .nil,.sl 0 [] .nil]
set_option maxRecDepth 100000 in
set_option maxHeartbeats 8000000 in
theorem meta_S (b : List UInt8) (hb : b.length ≤ 1000000) (s : Rd) (hs : s.pos ≤ b.length) :
  SCalls Tryz.prog 80 [.ptr 1000 0] ⟨[],[],[(1000,rdL b s)]⟩ (.agg (metaL (rMeta b s).1)) ⟨[],[],[(2000,rdL b (rMeta b s).2)]⟩ [(1000,2000)] := by
 have c1 := number_S b hb s hs mxI
 have h1 := rNum_pos (most := mxI) hs
 have hM : rMeta b s = (⟨((rNum b mxI s).1 : Int),((rNum b mxI (rNum b mxI s).2).1 : Int),((rNum b mxI (rNum b mxI (rNum b mxI s).2).2).1 : Int),((rLong b (rNum b mxI (rNum b mxI (rNum b mxI s).2).2).2).1 : Int),
  (rRep (rAttr b) (rNum b 8 (rLong b (rNum b mxI (rNum b mxI (rNum b mxI s).2).2).2).2).1 (rNum b 8 (rLong b (rNum b mxI (rNum b mxI (rNum b mxI s).2).2).2).2).2).1,
  (rRep (rAce b) (rNum b 16 (rRep (rAttr b) (rNum b 8 (rLong b (rNum b mxI (rNum b mxI (rNum b mxI s).2).2).2).2).1 (rNum b 8 (rLong b (rNum b mxI (rNum b mxI (rNum b mxI s).2).2).2).2).2).2).1 (rNum b 16 (rRep (rAttr b) (rNum b 8 (rLong b (rNum b mxI (rNum b mxI (rNum b mxI s).2).2).2).2).1 (rNum b 8 (rLong b (rNum b mxI (rNum b mxI (rNum b mxI s).2).2).2).2).2).2).2).1⟩,
  (rRep (rAce b) (rNum b 16 (rRep (rAttr b) (rNum b 8 (rLong b (rNum b mxI (rNum b mxI (rNum b mxI s).2).2).2).2).1 (rNum b 8 (rLong b (rNum b mxI (rNum b mxI (rNum b mxI s).2).2).2).2).2).2).1 (rNum b 16 (rRep (rAttr b) (rNum b 8 (rLong b (rNum b mxI (rNum b mxI (rNum b mxI s).2).2).2).2).1 (rNum b 8 (rLong b (rNum b mxI (rNum b mxI (rNum b mxI s).2).2).2).2).2).2).2).2) := rfl
 generalize rMeta b s = R at *
 generalize rNum b mxI s = p1 at *
 have c2 := number_S b hb p1.2 h1 mxI
 have h2 := rNum_pos (most := mxI) h1
 generalize rNum b mxI p1.2 = p2 at *
 have c3 := number_S b hb p2.2 h2 mxI
 have h3 := rNum_pos (most := mxI) h2
 generalize rNum b mxI p2.2 = p3 at *
 have c4 := long_S b hb p3.2 h3
 have h4 := rLong_pos h3
 generalize rLong b p3.2 = p4 at *
 have c5 := number_S b hb p4.2 h4 8
 have h5 := rNum_pos (most := 8) h4
 have h58 := rNum_le (b := b) (most := 8) (s := p4.2)
 generalize rNum b 8 p4.2 = p5 at *
 have hmx : ((mxI : Nat) : Int) = 9223372036854775807 := rfl
 have h8 : ((8 : Nat) : Int) = 8 := rfl
 simp only [rdL,bytesL',intL,hmx,h8] at c1 c2 c3 c4 c5
 refine SCalls.of (fun _ => false) [(1000,2000)] 0 Tryz.func80 rfl (by decide) Tryz.ntmps80 Tryz.results80 (by simp) (.inr ⟨_,_,rfl,by decide,rfl⟩) ?_
 intro w0 S0 vs
 refine Yg0 ?_
 refine LW_lab2
  (fun n st => ∃ (k : Nat) (l : List Attr) (t : Rd) (tok : Tok),n = k + 100 ∧ rRep (rAttr b) p5.1 p5.2 = (l ++ (rRep (rAttr b) k t).1,(rRep (rAttr b) k t).2) ∧ t.pos ≤ b.length ∧ l.length + k = p5.1 ∧ st.env 0 = .ptr 1000 0 ∧ st.val 0 = vs[0]? ∧ st.box 1000 = some (rdL b t) ∧ st.env 2 = .ptr 2 0 ∧ st.box 2 = some zMeta ∧ st.env 3 = .ptr 3 0 ∧ st.box 3 = some [intL p1.1,intL p2.1,intL p3.1,intL p4.1,.sl l.length (l.flatMap attrL) tok,.sl 0 [] .nil] ∧
   ((tok = .nil ∧ l = []) ∨ (tok = .row 26 ∧ st.row 26 = some (86,l.length))) ∧ st.env 4 = intL k ∧ st.mode = fun _ => false)
  (fun n st => ∃ (l : List Attr) (q6 : Nat × Rd) (k : Nat) (m : List Ace) (t : Rd) (t1 tok : Tok),k = n ∧ k ≤ 16 ∧ (rRep (rAttr b) p5.1 p5.2).1 = l ∧ rNum b 16 (rRep (rAttr b) p5.1 p5.2).2 = q6 ∧ rRep (rAce b) q6.1 q6.2 = (m ++ (rRep (rAce b) k t).1,(rRep (rAce b) k t).2) ∧ t.pos ≤ b.length ∧ m.length + k = q6.1 ∧ st.env 0 = .ptr 1000 0 ∧ st.val 0 = vs[0]? ∧ st.box 1000 = some (rdL b t) ∧ st.env 2 = .ptr 2 0 ∧ st.box 2 = some zMeta ∧ st.env 3 = .ptr 3 0 ∧ st.box 3 = some [intL p1.1,intL p2.1,intL p3.1,intL p4.1,.sl l.length (l.flatMap attrL) t1,.sl m.length (m.flatMap aceL) tok] ∧
   (t1 = .nil ∨ t1 = .row 26) ∧ ((tok = .nil ∧ m = []) ∨ (tok = .row 44 ∧ st.row 44 = some (88,m.length))) ∧ st.env 4 = intL k ∧ st.mode = fun _ => false) rfl rfl ?_ ?_ ?_
 ·intro hJ0 hJ1
  (repeat (first | refine LW_seq ?_ | (refine LW_skip ?_;simp only [LSj,reduceIte,zze]) | refine LW_block ?_));refine LW_regionO [(6,⟨_,_,_,_,_,[(1000,1000)],[(2000,1000)],_,[1001000],(c1).toS,rfl,rfl,rfl⟩),(8,⟨_,_,_,_,_,[(1000,1000)],[(2000,1000)],_,[1001000],(c2).toS,rfl,rfl,rfl⟩),(10,⟨_,_,_,_,_,[(1000,1000)],[(2000,1000)],_,[1001000],(c3).toS,rfl,rfl,rfl⟩),(12,⟨_,_,_,_,_,[(1000,1000)],[(2000,1000)],_,[1001000],(c4).toS,rfl,rfl,rfl⟩)] ?_;intro K hK;simp only [LZ,zo,zc,reduceCtorEq,reduceIte,zz1,zz2,zz3,zz4,zz5,zz6,zz7,zz8,zz9,zza,zzb,zzc,zzd,zze,zzf,rdL,bytesL']
  refine hK _ ?_;clear hK K;try refine Wh0 ?_
  (repeat (first | refine LW_seq ?_ | (refine LW_skip ?_;simp only [LSj,reduceIte,zze]) | refine LW_block ?_));refine LW_regionO [(15,⟨_,_,_,_,_,[(1000,1000)],[(2000,1000)],_,[1001000],(c5).toS,rfl,rfl,rfl⟩)] ?_;intro K hK;simp only [LZ,zo,zc,reduceCtorEq,reduceIte,zz1,zz2,zz3,zz4,zz5,zz6,zz7,zz8,zz9,zza,zzb,zzc,zzd,zze,zzf]
  refine hK _ ?_;clear hK K;try refine Wh0 ?_
  refine Yl0 ?_
  exact hJ0.out (p5.1 + 100) _ ⟨p5.1,[],p5.2,.nil,rfl,by simp,h5,by simp,Yq0,Yq0,(Yq1 (fa2 @rdL.eq_1 @bytesL'.eq_1)),Yq0,(Yq1 @zMeta.eq_1),Yq0,Yq0,.inl ⟨rfl,rfl⟩,Yq0,Yq0⟩
 ·rintro n st ⟨k,l,t,tok,rfl,hrep,ht,hlk,e0,v0,b1000,e2,b2,e3,b3,htok,e4,hmd⟩ hJ
  simp only [rdL,bytesL'] at b1000
  simp only [zMeta] at b2
  cases k with
  | zero =>
   have hk0 : ¬ ((0 : Int) < ((0 : Nat) : Int)) := by omega
   have hr0 : rRep (rAttr b) p5.1 p5.2 = (l,t) := by rw [hrep];simp [rRep,pureR]
   have c6 := number_S b hb t ht 16
   have h16 : ((16 : Nat) : Int) = 16 := rfl
   simp only [rdL,bytesL',intL,h16] at c6
   refine Yg1 @e4 ?_
   refine Yf1 @hk0 ?_
   (repeat (first | refine LW_seq ?_ | (refine LW_skip ?_;simp only [LSj,reduceIte,zze]) | refine LW_block ?_));refine LW_regionO [(31,⟨_,_,_,_,_,[(1000,1000)],[(2000,1000)],_,[1001000],(c6).toS,rfl,rfl,rfl⟩)] ?_;intro K hK;simp only [LZ,zo,zc,reduceCtorEq,reduceIte,zz1,zz2,zz3,zz4,zz5,zz6,zz7,zz8,zz9,zza,zzb,zzc,zzd,zze,zzf,e0,b1000]
   refine hK _ ?_;clear hK K;try refine Wh0 ?_
   refine Yl0 ?_
   have hbx : tok = .nil ∨ tok = .row 26 := by
    rcases htok with ⟨h,_⟩ | ⟨h,_⟩
    ·exact .inl h
    ·exact .inr h
   have h16' := rNum_le (b := b) (most := 16) (s := t)
   refine hJ.out (rNum b 16 t).1 _ (by omega) ⟨l,rNum b 16 t,(rNum b 16 t).1,[],(rNum b 16 t).2,tok,.nil,rfl,h16',by rw [hr0],by rw [hr0],by simp,rNum_pos ht,by simp,(Yq1 @e0),(Yq1 @v0),(Yq1 (fa2 @rdL.eq_1 @bytesL'.eq_1)),(Yq1 @e2),(Yq1 (fa2 @b2 @zMeta.eq_1)),(Yq1 @e3),?_,hbx,.inl ⟨rfl,rfl⟩,Yq0,(Yq1 @hmd)⟩
   rcases htok with ⟨rfl,_⟩ | ⟨rfl,_⟩ <;> exact (Yq1 @b3)
  | succ k =>
   have hk0 : ((0 : Int) < ((k + 1 : Nat) : Int)) = True := eq_true (by omega)
   have hwk : IntKind.i64.wrap (((k + 1 : Nat) : Int) - 1) = (k : Int) := by rw [show ((k + 1 : Nat) : Int) - 1 = (k : Int) by omega];exact w64 (by omega)
   have hst := rRep_step hrep
   have ct1 := text_S b hb t ht 20 (by omega)
   have ht1 := rText_pos (most := 20) (by decide) ht
   have hl1 := rText_le (most := 20) ht
   have ct2 := text_S b hb (rText b 20 t).2 ht1 200 (by omega)
   have ht2 := rText_pos (most := 200) (by decide) ht1
   have hat : rAttr b t = (⟨(rText b 20 t).1,(rText b 200 (rText b 20 t).2).1⟩,(rText b 200 (rText b 20 t).2).2) := rfl
   rw [hat] at hst
   generalize rText b 20 t = q1 at *
   generalize rText b 200 q1.2 = q2 at *
   have h20 : ((20 : Nat) : Int) = 20 := rfl
   have h200 : ((200 : Nat) : Int) = 200 := rfl
   simp only [rdL,bytesL',intL,h20,h200] at ct1 ct2
   have hlen := attrL_flen l
   refine Yg1 @e4 ?_
   refine Yt1 @hk0 ?_
   (repeat refine LW_seq ?_)
   refine LW_join (fun st => st.env 0 = .ptr 1000 0 ∧ st.val 0 = vs[0]? ∧ st.box 1000 = some (rdL b q2.2) ∧ st.env 2 = .ptr 2 0 ∧ st.box 2 = some zMeta ∧ st.env 3 = .ptr 3 0 ∧ st.box 3 = some [intL p1.1,intL p2.1,intL p3.1,intL p4.1,.sl (l.length + 1) ((l ++ [(⟨q1.1,q2.1⟩ : Attr)]).flatMap attrL) (.row 26),.sl 0 [] .nil] ∧ st.row 26 = some (86,l.length + 1) ∧ st.env 4 = intL ((k + 1 : Nat) : Int) ∧ st.mode = fun _ => false) ?_ ?_
   ·rcases htok with ⟨rfl,rfl⟩ | ⟨rfl,r26⟩
    ·have r26 : True := trivial
     (repeat (first | refine LW_seq ?_ | (refine LW_skip ?_;simp only [LSj,reduceIte,zze]) | refine LW_block ?_));refine LW_mix2 [(21,⟨_,_,_,_,_,[(1000,1000)],[(2000,1000)],_,[1001000],(ct1).toS,rfl,rfl,rfl⟩),(23,⟨_,_,_,_,_,[(1000,1000)],[(2000,1000)],_,[1001000],(ct2).toS,rfl,rfl,rfl⟩)] [21,23] (fun _ => false) [(0,[3,26]),(1,[3,26]),(2,[1000]),(3,[3,26]),(5,[3,26])] [0,1,2] [[3,4,5,6,7,8,9,10],[4,3,5,6,7,8,9,10]] rfl (by kernel_rfl) (by kernel_rfl) (by kernel_rfl) (by first | exact rfl | exact hmd | simp only [LZ,zo,zc,reduceCtorEq,reduceIte,zz1,zz2,zz3,zz4,zz5,zz6,zz7,zz8,zz9,zza,zzb,zzc,zzd,zze,zzf,e0,b1000,e3,b3,hmd,List.flatMap_nil]) ?_;intro K hK;simp only [LZ,zo,zc,reduceCtorEq,reduceIte,zz1,zz2,zz3,zz4,zz5,zz6,zz7,zz8,zz9,zza,zzb,zzc,zzd,zze,zzf,e0,b1000,e3,b3,hmd,List.flatMap_nil]
     (repeat' apply And.intro) <;> first | omega | (unfold maxLen;omega) | ((refine hK _ ?_;clear hK K;try refine Wh0 ?_);exact ⟨(Yq1 @e0),(Yq1 @v0),(Yq1 (fa2 @rdL.eq_1 @bytesL'.eq_1)),(Yq1 @e2),(Yq1 (fa2 @b2 @zMeta.eq_1)),(Yq1 @e3),(by first | exact rfl | assumption | (simp only [LZ,zo,zc,reduceCtorEq,reduceIte,zz1,zz2,zz3,zz4,zz5,zz6,zz7,zz8,zz9,zza,zzb,zzc,zzd,zze,zzf,b3,List.flatMap_nil,List.flatMap_append,List.flatMap_cons,attrL] <;> exact rfl)),Yq0,(Yq1 @e4),(Yq1 @hmd)⟩)
    ·(repeat (first | refine LW_seq ?_ | (refine LW_skip ?_;simp only [LSj,reduceIte,zze]) | refine LW_block ?_));refine LW_mix2 [(21,⟨_,_,_,_,_,[(1000,1000)],[(2000,1000)],_,[1001000],(ct1).toS,rfl,rfl,rfl⟩),(23,⟨_,_,_,_,_,[(1000,1000)],[(2000,1000)],_,[1001000],(ct2).toS,rfl,rfl,rfl⟩)] [21,23] (fun _ => false) [(0,[3,26]),(1,[3,26]),(2,[1000]),(3,[3,26]),(5,[3,26])] [0,1,2] [[3,4,5,6,7,8,9,10],[4,3,5,6,7,8,9,10]] rfl (by kernel_rfl) (by kernel_rfl) (by kernel_rfl) (by first | exact rfl | exact hmd | simp only [LZ,zo,zc,reduceCtorEq,reduceIte,zz1,zz2,zz3,zz4,zz5,zz6,zz7,zz8,zz9,zza,zzb,zzc,zzd,zze,zzf,e0,b1000,e3,b3,hmd,r26,hlen]) ?_;intro K hK;simp only [LZ,zo,zc,reduceCtorEq,reduceIte,zz1,zz2,zz3,zz4,zz5,zz6,zz7,zz8,zz9,zza,zzb,zzc,zzd,zze,zzf,e0,b1000,e3,b3,hmd,r26,hlen]
     (repeat' apply And.intro) <;> first | omega | (unfold maxLen;omega) | ((refine hK _ ?_;clear hK K;try refine Wh0 ?_);exact ⟨(Yq1 @e0),(Yq1 @v0),(Yq1 (fa2 @rdL.eq_1 @bytesL'.eq_1)),(Yq1 @e2),(Yq1 (fa2 @b2 @zMeta.eq_1)),(Yq1 @e3),(by first | exact rfl | assumption | (simp only [LZ,zo,zc,reduceCtorEq,reduceIte,zz1,zz2,zz3,zz4,zz5,zz6,zz7,zz8,zz9,zza,zzb,zzc,zzd,zze,zzf,b3,List.flatMap_nil,List.flatMap_append,List.flatMap_cons,attrL] <;> exact rfl)),Yq0,(Yq1 @e4),(Yq1 @hmd)⟩)
   clear e0 v0 b1000 e2 b2 e3 b3 htok e4 hmd st
   rintro st ⟨e0,v0,b1000,e2,b2,e3,b3,r26,e4,hmd⟩
   refine Yg1 (fa2 @e4 @hwk) ?_
   refine LW_goto ?_;simp only [thenL,jumpsL,inBlockL,twoL,true_and]
   refine ⟨k + 100,by omega,k,l ++ [(⟨q1.1,q2.1⟩ : Attr)],q2.2,.row 26,rfl,hst,ht2,by rw [List.length_append,List.length_singleton];omega,(Yq1 @e0),(Yq1 @v0),(Yq1 @b1000),(Yq1 @e2),(Yq1 (fa2 @b2 @zMeta.eq_1)),(Yq1 @e3),?_,.inr ⟨rfl,?_⟩,(Yq1 @hwk),(Yq1 @hmd)⟩
   ·rw [List.length_append,List.length_singleton];exact (Yq1 @b3)
   ·rw [List.length_append,List.length_singleton];exact (Yq1 @r26)
 ·rintro n st ⟨l,q6,k,m,t,t1,tok,rfl,hk16,hl,hq6,hrep,ht,hmk,e0,v0,b1000,e2,b2,e3,b3,ht1,htok,e4,hmd⟩ hJ
  simp only [rdL,bytesL'] at b1000
  simp only [zMeta] at b2
  have hq16 : q6.1 ≤ 16 := by rw [← hq6];exact rNum_le
  cases k with
  | zero =>
   have hk0 : ¬ ((0 : Int) < ((0 : Nat) : Int)) := by omega
   have hr0 : rRep (rAce b) q6.1 q6.2 = (m,t) := by rw [hrep];simp [rRep,pureR]
   rw [hl,hq6,hr0] at hM
   subst hM
   refine Yg1 @e4 ?_
   refine Yf1 @hk0 ?_
   rcases ht1 with rfl | rfl <;> rcases htok with ⟨rfl,rfl⟩ | ⟨rfl,r44⟩
   all_goals
    refine Yg1 (fa4 @e2 @b2 @e3 @b3) ?_
    refine LW_ret ?_;simp only [thenL,jumpsL,inBlockL,twoL,bodyS];refine ⟨[(1000,2000)],rfl,.inr ⟨_,_,_,rfl,rfl,(by first | exact rfl | assumption | (simp only [LZ,zo,zc,reduceCtorEq,reduceIte,zz1,zz2,zz3,zz4,zz5,zz6,zz7,zz8,zz9,zza,zzb,zzc,zzd,zze,zzf,e0,v0,b1000,e2,metaL,attrsL,acesL,rowL,rdL,bytesL'] <;> exact rfl)),(by first | exact rfl | assumption | (simp only [LZ,zo,zc,reduceCtorEq,reduceIte,zz1,zz2,zz3,zz4,zz5,zz6,zz7,zz8,zz9,zza,zzb,zzc,zzd,zze,zzf,e0,v0,b1000,e2,metaL,attrsL,acesL,rowL,rdL,bytesL'] <;> exact rfl))⟩,?_⟩;simp only [thenL,jumpsL,inBlockL,twoL,bodyQ,LV.lit.injEq,LV.tup.injEq,LV.agg.injEq,LV.sl.injEq,List.cons.injEq,Value.int.injEq,Value.bool.injEq,Value.string.injEq,ByteArray.mk.injEq,exists_eq_left',exists_eq_left,exists_eq_right,LZ,zo,zc,reduceCtorEq,reduceIte,zz1,zz2,zz3,zz4,zz5,zz6,zz7,zz8,zz9,zza,zzb,zzc,zzd,zze,zzf,e0,v0,b1000,e2,metaL,attrsL,acesL,rowL,rdL,bytesL']
  | succ k =>
   have hk0 : ((0 : Int) < ((k + 1 : Nat) : Int)) = True := eq_true (by omega)
   have hwk : IntKind.i64.wrap (((k + 1 : Nat) : Int) - 1) = (k : Int) := by rw [show ((k + 1 : Nat) : Int) - 1 = (k : Int) by omega];exact w64 (by omega)
   have hst := rRep_step hrep
   have cn1 := number_S b hb t ht mxI
   have hn1 := rNum_pos (most := mxI) ht
   have cn2 := number_S b hb (rNum b mxI t).2 hn1 mxI
   have hn2 := rNum_pos (most := mxI) hn1
   have cn3 := number_S b hb (rNum b mxI (rNum b mxI t).2).2 hn2 mxI
   have hn3 := rNum_pos (most := mxI) hn2
   have hat : rAce b t = (⟨((rNum b mxI t).1 : Int),((rNum b mxI (rNum b mxI t).2).1 : Int),((rNum b mxI (rNum b mxI (rNum b mxI t).2).2).1 : Int)⟩,(rNum b mxI (rNum b mxI (rNum b mxI t).2).2).2) := rfl
   rw [hat] at hst
   generalize rNum b mxI t = q1 at *
   generalize rNum b mxI q1.2 = q2 at *
   generalize rNum b mxI q2.2 = q3 at *
   simp only [rdL,bytesL',intL,hmx] at cn1 cn2 cn3
   have hlen := aceL_flen m
   refine Yg1 @e4 ?_
   refine Yt1 @hk0 ?_
   (repeat refine LW_seq ?_)
   refine LW_join (fun st => st.env 0 = .ptr 1000 0 ∧ st.val 0 = vs[0]? ∧ st.box 1000 = some (rdL b q3.2) ∧ st.env 2 = .ptr 2 0 ∧ st.box 2 = some zMeta ∧ st.env 3 = .ptr 3 0 ∧ st.box 3 = some [intL p1.1,intL p2.1,intL p3.1,intL p4.1,.sl l.length (l.flatMap attrL) t1,.sl (m.length + 1) ((m ++ [(⟨(q1.1 : Int),(q2.1 : Int),(q3.1 : Int)⟩ : Ace)]).flatMap aceL) (.row 44)] ∧ st.row 44 = some (88,m.length + 1) ∧ st.env 4 = intL ((k + 1 : Nat) : Int) ∧ st.mode = fun _ => false) ?_ ?_
   ·have r44' : True := trivial
    rcases ht1 with rfl | rfl <;> rcases htok with ⟨rfl,rfl⟩ | ⟨rfl,r44⟩
    ·(repeat (first | refine LW_seq ?_ | (refine LW_skip ?_;simp only [LSj,reduceIte,zze]) | refine LW_block ?_));refine LW_mix2 [(37,⟨_,_,_,_,_,[(1000,1000)],[(2000,1000)],_,[1001000],(cn1).toS,rfl,rfl,rfl⟩),(39,⟨_,_,_,_,_,[(1000,1000)],[(2000,1000)],_,[1001000],(cn2).toS,rfl,rfl,rfl⟩),(41,⟨_,_,_,_,_,[(1000,1000)],[(2000,1000)],_,[1001000],(cn3).toS,rfl,rfl,rfl⟩)] [37,39,41] (fun _ => false) [(0,[3,26,44]),(1,[3,26,44]),(2,[1000]),(3,[3,26,44]),(5,[3,26,44]),(7,[3,26,44])] [0,1,2] [[3,4,5,6,7,8,9,10,11,12],[3,4,6,5,7,8,9,10,11,12],[3,6,4,5,7,8,9,10,11,12],[4,3,5,6,7,8,9,10,11,12],[4,3,6,5,7,8,9,10,11,12],[4,6,3,5,7,8,9,10,11,12],[6,3,4,5,7,8,9,10,11,12],[6,4,3,5,7,8,9,10,11,12]] rfl (by kernel_rfl) (by kernel_rfl) (by kernel_rfl) (by first | exact rfl | exact hmd | simp only [LZ,zo,zc,reduceCtorEq,reduceIte,zz1,zz2,zz3,zz4,zz5,zz6,zz7,zz8,zz9,zza,zzb,zzc,zzd,zze,zzf,e0,b1000,e3,b3,hmd,List.flatMap_nil]) ?_;intro K hK;simp only [LZ,zo,zc,reduceCtorEq,reduceIte,zz1,zz2,zz3,zz4,zz5,zz6,zz7,zz8,zz9,zza,zzb,zzc,zzd,zze,zzf,e0,b1000,e3,b3,hmd,List.flatMap_nil]
     (repeat' apply And.intro) <;> first | omega | (unfold maxLen;omega) | ((refine hK _ ?_;clear hK K;try refine Wh0 ?_);exact ⟨(Yq1 @e0),(Yq1 @v0),(Yq1 (fa2 @rdL.eq_1 @bytesL'.eq_1)),(Yq1 @e2),(Yq1 (fa2 @b2 @zMeta.eq_1)),(Yq1 @e3),(by first | exact rfl | assumption | (simp only [LZ,zo,zc,reduceCtorEq,reduceIte,zz1,zz2,zz3,zz4,zz5,zz6,zz7,zz8,zz9,zza,zzb,zzc,zzd,zze,zzf,b3,List.flatMap_nil,List.flatMap_append,List.flatMap_cons,aceL] <;> exact rfl)),Yq0,(Yq1 @e4),(Yq1 @hmd)⟩)
    ·(repeat (first | refine LW_seq ?_ | (refine LW_skip ?_;simp only [LSj,reduceIte,zze]) | refine LW_block ?_));refine LW_mix2 [(37,⟨_,_,_,_,_,[(1000,1000)],[(2000,1000)],_,[1001000],(cn1).toS,rfl,rfl,rfl⟩),(39,⟨_,_,_,_,_,[(1000,1000)],[(2000,1000)],_,[1001000],(cn2).toS,rfl,rfl,rfl⟩),(41,⟨_,_,_,_,_,[(1000,1000)],[(2000,1000)],_,[1001000],(cn3).toS,rfl,rfl,rfl⟩)] [37,39,41] (fun _ => false) [(0,[3,26,44]),(1,[3,26,44]),(2,[1000]),(3,[3,26,44]),(5,[3,26,44]),(7,[3,26,44])] [0,1,2] [[3,4,5,6,7,8,9,10,11,12],[3,4,6,5,7,8,9,10,11,12],[3,6,4,5,7,8,9,10,11,12],[4,3,5,6,7,8,9,10,11,12],[4,3,6,5,7,8,9,10,11,12],[4,6,3,5,7,8,9,10,11,12],[6,3,4,5,7,8,9,10,11,12],[6,4,3,5,7,8,9,10,11,12]] rfl (by kernel_rfl) (by kernel_rfl) (by kernel_rfl) (by first | exact rfl | exact hmd | simp only [LZ,zo,zc,reduceCtorEq,reduceIte,zz1,zz2,zz3,zz4,zz5,zz6,zz7,zz8,zz9,zza,zzb,zzc,zzd,zze,zzf,e0,b1000,e3,b3,hmd,r44,hlen]) ?_;intro K hK;simp only [LZ,zo,zc,reduceCtorEq,reduceIte,zz1,zz2,zz3,zz4,zz5,zz6,zz7,zz8,zz9,zza,zzb,zzc,zzd,zze,zzf,e0,b1000,e3,b3,hmd,r44,hlen]
     (repeat' apply And.intro) <;> first | omega | (unfold maxLen;omega) | ((refine hK _ ?_;clear hK K;try refine Wh0 ?_);exact ⟨(Yq1 @e0),(Yq1 @v0),(Yq1 (fa2 @rdL.eq_1 @bytesL'.eq_1)),(Yq1 @e2),(Yq1 (fa2 @b2 @zMeta.eq_1)),(Yq1 @e3),(by first | exact rfl | assumption | (simp only [LZ,zo,zc,reduceCtorEq,reduceIte,zz1,zz2,zz3,zz4,zz5,zz6,zz7,zz8,zz9,zza,zzb,zzc,zzd,zze,zzf,b3,List.flatMap_nil,List.flatMap_append,List.flatMap_cons,aceL] <;> exact rfl)),Yq0,(Yq1 @e4),(Yq1 @hmd)⟩)
    ·(repeat (first | refine LW_seq ?_ | (refine LW_skip ?_;simp only [LSj,reduceIte,zze]) | refine LW_block ?_));refine LW_mix2 [(37,⟨_,_,_,_,_,[(1000,1000)],[(2000,1000)],_,[1001000],(cn1).toS,rfl,rfl,rfl⟩),(39,⟨_,_,_,_,_,[(1000,1000)],[(2000,1000)],_,[1001000],(cn2).toS,rfl,rfl,rfl⟩),(41,⟨_,_,_,_,_,[(1000,1000)],[(2000,1000)],_,[1001000],(cn3).toS,rfl,rfl,rfl⟩)] [37,39,41] (fun _ => false) [(0,[3,26,44]),(1,[3,26,44]),(2,[1000]),(3,[3,26,44]),(5,[3,26,44]),(7,[3,26,44])] [0,1,2] [[3,4,5,6,7,8,9,10,11,12],[3,4,6,5,7,8,9,10,11,12],[3,6,4,5,7,8,9,10,11,12],[4,3,5,6,7,8,9,10,11,12],[4,3,6,5,7,8,9,10,11,12],[4,6,3,5,7,8,9,10,11,12],[6,3,4,5,7,8,9,10,11,12],[6,4,3,5,7,8,9,10,11,12]] rfl (by kernel_rfl) (by kernel_rfl) (by kernel_rfl) (by first | exact rfl | exact hmd | simp only [LZ,zo,zc,reduceCtorEq,reduceIte,zz1,zz2,zz3,zz4,zz5,zz6,zz7,zz8,zz9,zza,zzb,zzc,zzd,zze,zzf,e0,b1000,e3,b3,hmd,List.flatMap_nil]) ?_;intro K hK;simp only [LZ,zo,zc,reduceCtorEq,reduceIte,zz1,zz2,zz3,zz4,zz5,zz6,zz7,zz8,zz9,zza,zzb,zzc,zzd,zze,zzf,e0,b1000,e3,b3,hmd,List.flatMap_nil]
     (repeat' apply And.intro) <;> first | omega | (unfold maxLen;omega) | ((refine hK _ ?_;clear hK K;try refine Wh0 ?_);exact ⟨(Yq1 @e0),(Yq1 @v0),(Yq1 (fa2 @rdL.eq_1 @bytesL'.eq_1)),(Yq1 @e2),(Yq1 (fa2 @b2 @zMeta.eq_1)),(Yq1 @e3),(by first | exact rfl | assumption | (simp only [LZ,zo,zc,reduceCtorEq,reduceIte,zz1,zz2,zz3,zz4,zz5,zz6,zz7,zz8,zz9,zza,zzb,zzc,zzd,zze,zzf,b3,List.flatMap_nil,List.flatMap_append,List.flatMap_cons,aceL] <;> exact rfl)),Yq0,(Yq1 @e4),(Yq1 @hmd)⟩)
    ·(repeat (first | refine LW_seq ?_ | (refine LW_skip ?_;simp only [LSj,reduceIte,zze]) | refine LW_block ?_));refine LW_mix2 [(37,⟨_,_,_,_,_,[(1000,1000)],[(2000,1000)],_,[1001000],(cn1).toS,rfl,rfl,rfl⟩),(39,⟨_,_,_,_,_,[(1000,1000)],[(2000,1000)],_,[1001000],(cn2).toS,rfl,rfl,rfl⟩),(41,⟨_,_,_,_,_,[(1000,1000)],[(2000,1000)],_,[1001000],(cn3).toS,rfl,rfl,rfl⟩)] [37,39,41] (fun _ => false) [(0,[3,26,44]),(1,[3,26,44]),(2,[1000]),(3,[3,26,44]),(5,[3,26,44]),(7,[3,26,44])] [0,1,2] [[3,4,5,6,7,8,9,10,11,12],[3,4,6,5,7,8,9,10,11,12],[3,6,4,5,7,8,9,10,11,12],[4,3,5,6,7,8,9,10,11,12],[4,3,6,5,7,8,9,10,11,12],[4,6,3,5,7,8,9,10,11,12],[6,3,4,5,7,8,9,10,11,12],[6,4,3,5,7,8,9,10,11,12]] rfl (by kernel_rfl) (by kernel_rfl) (by kernel_rfl) (by first | exact rfl | exact hmd | simp only [LZ,zo,zc,reduceCtorEq,reduceIte,zz1,zz2,zz3,zz4,zz5,zz6,zz7,zz8,zz9,zza,zzb,zzc,zzd,zze,zzf,e0,b1000,e3,b3,hmd,r44,hlen]) ?_;intro K hK;simp only [LZ,zo,zc,reduceCtorEq,reduceIte,zz1,zz2,zz3,zz4,zz5,zz6,zz7,zz8,zz9,zza,zzb,zzc,zzd,zze,zzf,e0,b1000,e3,b3,hmd,r44,hlen]
     (repeat' apply And.intro) <;> first | omega | (unfold maxLen;omega) | ((refine hK _ ?_;clear hK K;try refine Wh0 ?_);exact ⟨(Yq1 @e0),(Yq1 @v0),(Yq1 (fa2 @rdL.eq_1 @bytesL'.eq_1)),(Yq1 @e2),(Yq1 (fa2 @b2 @zMeta.eq_1)),(Yq1 @e3),(by first | exact rfl | assumption | (simp only [LZ,zo,zc,reduceCtorEq,reduceIte,zz1,zz2,zz3,zz4,zz5,zz6,zz7,zz8,zz9,zza,zzb,zzc,zzd,zze,zzf,b3,List.flatMap_nil,List.flatMap_append,List.flatMap_cons,aceL] <;> exact rfl)),Yq0,(Yq1 @e4),(Yq1 @hmd)⟩)
   clear e0 v0 b1000 e2 b2 e3 b3 htok e4 hmd st
   rintro st ⟨e0,v0,b1000,e2,b2,e3,b3,r44,e4,hmd⟩
   refine Yg1 (fa2 @e4 @hwk) ?_
   refine LW_goto ?_;simp only [thenL,jumpsL,inBlockL,twoL,true_and]
   refine ⟨k,by omega,l,q6,k,m ++ [(⟨(q1.1 : Int),(q2.1 : Int),(q3.1 : Int)⟩ : Ace)],q3.2,t1,.row 44,rfl,by omega,hl,hq6,hst,hn3,by rw [List.length_append,List.length_singleton];omega,(Yq1 @e0),(Yq1 @v0),(Yq1 @b1000),(Yq1 @e2),(Yq1 (fa2 @b2 @zMeta.eq_1)),(Yq1 @e3),?_,ht1,.inr ⟨rfl,?_⟩,(Yq1 @hwk),(Yq1 @hmd)⟩
   ·rw [List.length_append,List.length_singleton]
    rcases ht1 with rfl | rfl <;> exact (Yq1 @b3)
   ·rw [List.length_append,List.length_singleton];exact (Yq1 @r44)
end Go.Proofs.YtnmjghcdccfphaaGreatDoor
end
