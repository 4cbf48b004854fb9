import Derived.Test.YteamlijbkldlhaaGreatDoorKUA
import Derived.Test.YteamlijbkldlhaaGreatDoorRBare
set_option linter.unusedSimpArgs false
set_option linter.unusedVariables false
namespace Go.Proofs.YteamlijbkldlhaaGreatDoor
open Nat renaming reduceAdd → zz1,reduceMul → zz2,reduceSub → zz3,reduceLT → zz4,reduceLeDiff → zz5,reduceEqDiff → zz6,reduceBEq → zzf
open Int renaming reduceAdd → zz7,reduceSub → zz8,reduceMul → zz9,reduceLT → zza,reduceLE → zzb,reduceEq → zzc,reduceNeg → zzd,reduceToNat → zze
open Op renaming operands → zo
open Call renaming operands → zc
open Go.RowKit Go.Proofs AclSpec MetaSpec NodeSpec RecSpec PathSpec

theorem kindB_wrap (k : Int) : IntKind.u8.wrap k = ((kindB k).toNat : Int) := by
  have h2 : IntKind.u8.wrap k = k % 256 := by unfold IntKind.wrap;rfl
  rw [h2];unfold kindB
  have : (k % 256).toNat < 256 := by omega
  rw [show ((k % 256).toNat.toUInt8).toNat = (k % 256).toNat % 256 from rfl]
  omega
theorem putT_len (t : List UInt8) (h : t.length ≤ 1000000) : (putT t).length ≤ 17 + t.length := by
  unfold putT
  rw [List.length_append]
  have := putU_u64 (n := t.length) (by omega)
  omega
theorem putAt_len {a : Attr} (h : okAt a) : (putAt a).length ≤ 254 := by
  unfold putAt
  rw [List.length_append]
  have h1 := putT_len a.name (by have := h.1;omega)
  have h2 := putT_len a.value (by have := h.2;omega)
  have := h.1
  have := h.2
  omega
theorem putAc_len (a : Ace) : (putAc a).length ≤ 51 := by
  unfold putAc
  rw [List.length_append,List.length_append]
  have := putI_len a.kind
  have := putI_len a.id
  have := putI_len a.perm
  omega
theorem drop_aceL {l : List Ace} {i : Nat} {a : Ace} (h : l[i]? = some a) : (l.flatMap aceL).drop (i * 3) = intL a.kind :: intL a.id :: intL a.perm :: (l.drop (i + 1)).flatMap aceL := by
  exact drop_flat aceL 3 aceL_len h
theorem flat_le {α : Type} (f : α → List UInt8) (B : Nat) (l : List α) (h : ∀ a ∈ l,(f a).length ≤ B) : (l.flatMap f).length ≤ B * l.length := by
  induction l with
  | nil => simp
  | cons a l ih =>
    rw [List.flatMap_cons,List.length_append,List.length_cons,Nat.mul_add,Nat.mul_one]
    have := h a (by simp)
    have := ih fun b hb => h b (by simp [hb])
    omega
theorem restR_len {n : FNode} {pos : Int} (h : OkB n pos) : (restR n pos).length ≤ 1000 := by
  have h1 := putI_len n.size
  have h2 := putI_len pos
  have h3 := putI_len n.major
  have h4 := putI_len n.minor
  have h5 := putT_len n.target (by have := h.target;omega)
  have h6 := h.target
  have h7 := h.len
  have h8 := putU_u64 (n := n.dat.length) (by omega)
  have h9 := flat_le putPc 34 n.dat fun p hp => by
    unfold putPc
    rw [List.length_append]
    have := putI_len p.pos
    have := putU_u64 (n := lenS p.dat) (by
      by_cases h0 : lenS p.dat = 0
      · omega
      · have := (ito_lenS h0).2;omega)
    omega
  unfold restR
  split
  · rw [List.length_append,List.length_append,List.length_append]
    split
    · rw [List.length_nil];omega
    · omega
  · split
    · omega
    · split
      · rw [List.length_append];omega
      · simp
set_option maxRecDepth 100000 in
set_option maxHeartbeats 4000000 in
theorem rput_O (r : Rec) (hp : r.path.length < 1000000) (hs : small r.node) (ht : r.node.mt.time < 9223372036854775808) :
    OCalls Tryz.prog 33 [.agg (recL r)] ⟨[],[],[]⟩ (.tup [bytesL' (if mayRec r = true then putRec r else []),intL (if mayRec r = true then 0 else 1)]) ⟨[],[],[]⟩ := by
  have cm := recmay_L r hp hs
  simp only [recL,nodeL,attrsL,acesL,piecesL,rowL,List.cons_append,List.nil_append] at cm
  refine OCalls.of (fun _ => false) Tryz.func33 rfl (by decide) Tryz.ntmps33 Tryz.results33 (by simp) ?_
  intro w0 S0 vs
  refine Yg1 (fa5 @recL.eq_1 @nodeL.eq_1 @piecesL.eq_1 @attrsL.eq_1 @acesL.eq_1) ?_
  cases hm : mayRec r
  · rw [hm] at cm
    refine Yr0 ?_;intro K hK
    refine Yc0 (cm) ?_
    refine hK _ ?_;clear hK K;try refine Wh0 ?_
    refine Yt0 ?_
    refine Yg0 ?_
    refine LW_ret ?_;simp only [thenL,jumpsL,inBlockL,twoL,bodyO];refine ⟨[],rfl,?_⟩;simp only [thenL,jumpsL,inBlockL,twoL,bodyQ,LV.lit.injEq,LV.tup.injEq,LV.agg.injEq,LV.sl.injEq,List.cons.injEq,Value.int.injEq,Value.bool.injEq,Value.string.injEq,ByteArray.mk.injEq,exists_eq_left',exists_eq_left,exists_eq_right,LZ,zo,zc,reduceCtorEq,reduceIte,zz1,zz2,zz3,zz4,zz5,zz6,zz7,zz8,zz9,zza,zzb,zzc,zzd,zze,zzf,bytesL']
    rfl
  rw [hm] at cm
  obtain ⟨hpl,_,hok⟩ := mayRec_ok hm ht
  have cz := rzero_L r.node (small_okLen hs)
  simp only [nodeL,attrsL,acesL,piecesL,rowL] at cz
  refine Yr0 ?_;intro K hK
  refine Yc0 (cm) ?_
  refine hK _ ?_;clear hK K;try refine Wh0 ?_
  refine Yf0 ?_
  generalize hR : putRec r = R
  unfold putRec putN at hR
  have ct := ntext_O r.path (by omega)
  have hc1 := putT_len r.path (by omega)
  have hc2 := putI_len r.lead
  have cn := numbers_O (putT r.path) (by omega) [r.lead] (by simp)
  simp only [intsL,rowL,List.flatMap_cons,List.flatMap_nil,List.append_nil,intE,List.length_cons,List.length_nil,List.cons_append,List.nil_append] at cn
  have hcl : (putT r.path ++ putI r.lead).length ≤ 140 := by rw [List.length_append];omega
  generalize hC1 : putT r.path ++ putI r.lead = c1 at *
  refine LW_slim (fun st => st.env 1 = .ptr 1 0 ∧ st.box 1 = some (recL r) ∧ st.mode = fun _ => false) ⟨Yq0,(Yq1 (fa6 @recL.eq_1 @nodeL.eq_1 @piecesL.eq_1 @attrsL.eq_1 @acesL.eq_1 @rowL.eq_1)),Yq0⟩ ?_
  rintro st ⟨e1,b1,hmd⟩
  (repeat refine LW_seq ?_)
  refine LW_join (fun st => st.env 1 = .ptr 1 0 ∧ st.box 1 = some (recL r) ∧ st.env 4 = .sl c1.length (bL c1) (.row 1000) ∧ st.row 1000 = some (5,c1.length) ∧ st.mode = fun _ => false) ?_ ?_
  · simp only [recL,nodeL,attrsL,acesL,piecesL,rowL,List.cons_append,List.nil_append] at b1
    (repeat (first | refine LW_seq ?_ | (refine LW_skip ?_;simp only [LSj,reduceIte,zze]) | refine LW_block ?_));refine LW_mix2 [(15,⟨_,_,_,_,_,[],[(2000,1000)],_,[],(ct).toS,rfl,rfl,rfl⟩),(19,⟨_,_,_,_,_,[(1000,1000)],[(2000,1000)],_,[],(cn).toS,rfl,rfl,rfl⟩)] [15,19] (fun _ => false) [(0,[1]),(1,[1]),(3,[1]),(4,[1]),(2,[1]),(5,[1])] [0,1,3,4] [[2,5,6,7],[5,2,6,7]] rfl (by kernel_rfl) (by kernel_rfl) (by kernel_rfl) (by first | exact rfl | exact hmd | simp only [LZ,zo,zc,reduceCtorEq,reduceIte,zz1,zz2,zz3,zz4,zz5,zz6,zz7,zz8,zz9,zza,zzb,zzc,zzd,zze,zzf,e1,b1,hmd]) ?_;intro K hK;simp only [LZ,zo,zc,reduceCtorEq,reduceIte,zz1,zz2,zz3,zz4,zz5,zz6,zz7,zz8,zz9,zza,zzb,zzc,zzd,zze,zzf,e1,b1,hmd]
    (repeat' apply And.intro) <;> (refine hK _ ?_;clear hK K;try refine Wh0 ?_) <;> exact ⟨(Yq1 @e1),(Yq1 (fa7 @b1 @recL.eq_1 @nodeL.eq_1 @piecesL.eq_1 @attrsL.eq_1 @acesL.eq_1 @rowL.eq_1)),Yq0,Yq0,(Yq1 @hmd)⟩
  clear e1 b1 hmd st
  rintro st ⟨e1,b1,e4,r4,hmd⟩
  simp only [recL,nodeL,attrsL,acesL,piecesL,rowL,List.cons_append,List.nil_append] at b1
  have hb1 := bL_len c1
  by_cases hz : r.node = zeroN
  · rw [decide_eq_true hz] at cz
    rw [if_pos hz] at hR
    refine Yr1 (fa2 @e1 @b1) ?_;intro K hK
    refine Yc1 (cz) (fa2 @e1 @b1) ?_
    refine hK _ ?_;clear hK K;try refine Wh0 ?_
    refine Yt0 ?_
    refine Yr1 (fa4 @e4 @r4 @hmd @hb1) ?_;intro K hK
    refine ⟨by (repeat' apply And.intro) <;> first | omega | (unfold maxLen;omega) | (intro _;omega) | decide,?_⟩
    refine hK _ ?_;clear hK K;try refine Wh0 ?_
    refine LW_ret ?_;simp only [thenL,jumpsL,inBlockL,twoL,bodyO];refine ⟨[],rfl,?_⟩;simp only [thenL,jumpsL,inBlockL,twoL,bodyQ,LV.lit.injEq,LV.tup.injEq,LV.agg.injEq,LV.sl.injEq,List.cons.injEq,Value.int.injEq,Value.bool.injEq,Value.string.injEq,ByteArray.mk.injEq,exists_eq_left',exists_eq_left,exists_eq_right,LZ,zo,zc,reduceCtorEq,reduceIte,zz1,zz2,zz3,zz4,zz5,zz6,zz7,zz8,zz9,zza,zzb,zzc,zzd,zze,zzf,bytesL']
    rw [← hR,List.length_append,bL_app]
    exact ⟨rfl,rfl⟩
  rw [decide_eq_false hz] at cz
  rw [if_neg hz] at hR
  rcases hok with ⟨c,_⟩ | ⟨k1,k6,hM,hB⟩
  · exact absurd c hz
  refine Yr1 (fa2 @e1 @b1) ?_;intro K hK
  refine Yc1 (cz) (fa2 @e1 @b1) ?_
  refine hK _ ?_;clear hK K;try refine Wh0 ?_
  refine Yf0 ?_
  refine Yg1 (fa2 @e1 @b1) ?_
  refine LW_slim (fun st => st.env 1 = .ptr 1 0 ∧ st.box 1 = some (recL r) ∧ st.env 4 = .sl c1.length (bL c1) (.row 1000) ∧ st.row 1000 = some (5,c1.length) ∧ st.env 5 = .ptr 5 0 ∧ st.box 5 = some (metaL r.node.mt) ∧ st.mode = fun _ => false) ⟨(Yq1 @e1),(Yq1 (fa7 @b1 @recL.eq_1 @nodeL.eq_1 @piecesL.eq_1 @attrsL.eq_1 @acesL.eq_1 @rowL.eq_1)),(Yq1 @e4),(Yq1 @r4),Yq0,(Yq1 (fa4 @metaL.eq_1 @attrsL.eq_1 @acesL.eq_1 @rowL.eq_1)),(Yq1 @hmd)⟩ ?_
  clear e1 b1 e4 r4 hmd st
  rintro st ⟨e1,b1,e4,r4,e5,b5,hmd⟩
  have hkw := kindB_wrap r.node.kind
  have hmn := putI_nat (n := r.node.mt.attrs.length) (by have := hM.attrs;unfold half;omega)
  have cn2 := numbers_O (c1 ++ [kindB r.node.kind]) (by rw [List.length_append,List.length_singleton];omega) [r.node.mt.mode,r.node.mt.uid,r.node.mt.gid,r.node.mt.time,(r.node.mt.attrs.length : Int)] (by simp)
  simp only [intsL,rowL,List.flatMap_cons,List.flatMap_nil,List.append_nil,intE,List.length_cons,List.length_nil,List.cons_append,List.nil_append] at cn2
  rw [bL_snoc,List.length_append,List.length_singleton] at cn2
  have hcl2 : (c1 ++ [kindB r.node.kind] ++ (putI r.node.mt.mode ++ (putI r.node.mt.uid ++ (putI r.node.mt.gid ++ (putI r.node.mt.time ++ putI (r.node.mt.attrs.length : Int)))))).length ≤ 240 := by
    simp only [List.length_append,List.length_singleton]
    have := putI_len r.node.mt.mode
    have := putI_len r.node.mt.uid
    have := putI_len r.node.mt.gid
    have := putI_len r.node.mt.time
    have := putI_len (r.node.mt.attrs.length : Int)
    omega
  generalize hC2 : c1 ++ [kindB r.node.kind] ++ (putI r.node.mt.mode ++ (putI r.node.mt.uid ++ (putI r.node.mt.gid ++ (putI r.node.mt.time ++ putI (r.node.mt.attrs.length : Int))))) = c2 at *
  (repeat refine LW_seq ?_)
  refine LW_join (fun st => st.env 1 = .ptr 1 0 ∧ st.box 1 = some (recL r) ∧ st.env 4 = .sl c2.length (bL c2) (.row 1000) ∧ st.row 1000 = some (5,c2.length) ∧ st.env 5 = .ptr 5 0 ∧ st.box 5 = some (metaL r.node.mt) ∧ st.mode = fun _ => false) ?_ ?_
  · simp only [recL,nodeL,attrsL,acesL,piecesL,rowL,List.cons_append,List.nil_append] at b1
    simp only [metaL,attrsL,acesL,rowL] at b5
    simp only [byL] at cn2
    (repeat (first | refine LW_seq ?_ | (refine LW_skip ?_;simp only [LSj,reduceIte,zze]) | refine LW_block ?_));refine LW_mix2 [(48,⟨_,_,_,_,_,[(1000,1000)],[(2000,1000)],_,[],(cn2).toS,rfl,rfl,rfl⟩)] [48] (fun _ => false) [(0,[1000]),(1,[1]),(2,[1]),(3,[1]),(4,[]),(7,[5]),(8,[5]),(9,[5]),(10,[5]),(11,[5]),(12,[5]),(13,[5]),(14,[5]),(15,[5]),(16,[5]),(17,[]),(5,[1000,1,5]),(6,[1,5]),(18,[1000,1,5])] [0,1,2,3,4,7,8,9,10,11,12,13,14,15,16,17] [[5,6,18,19,20],[5,18,6,19,20],[18,5,6,19,20]] rfl (by kernel_rfl) (by kernel_rfl) (by kernel_rfl) (by first | exact rfl | exact hmd | simp only [LZ,zo,zc,reduceCtorEq,reduceIte,zz1,zz2,zz3,zz4,zz5,zz6,zz7,zz8,zz9,zza,zzb,zzc,zzd,zze,zzf,e1,b1,e4,r4,e5,b5,hmd,hkw,hb1,Array.toList_append]) ?_;intro K hK;simp only [LZ,zo,zc,reduceCtorEq,reduceIte,zz1,zz2,zz3,zz4,zz5,zz6,zz7,zz8,zz9,zza,zzb,zzc,zzd,zze,zzf,e1,b1,e4,r4,e5,b5,hmd,hkw,hb1,Array.toList_append]
    (repeat' apply And.intro) <;> first | omega | (unfold maxLen;omega) | ((refine hK _ ?_;clear hK K;try refine Wh0 ?_);exact ⟨(Yq1 @e1),(Yq1 (fa7 @b1 @recL.eq_1 @nodeL.eq_1 @piecesL.eq_1 @attrsL.eq_1 @acesL.eq_1 @rowL.eq_1)),Yq0,Yq0,(Yq1 @e5),(Yq1 (fa5 @b5 @metaL.eq_1 @attrsL.eq_1 @acesL.eq_1 @rowL.eq_1)),(Yq1 @hmd)⟩)
  clear e1 b1 e4 r4 e5 b5 hmd st
  rintro st ⟨e1,b1,e4,r4,e5,b5,hmd⟩
  have hal := hM.attrs
  have haal := fun a ha => putAt_len (hM.attr a ha)
  have hmx : ∀ {α : Type} (f : α → List UInt8) (B : Nat) (l : List α),(∀ a ∈ l,(f a).length ≤ B) → (l.flatMap f).length ≤ B * l.length := by
    intro α f B l
    induction l with
    | nil => intro _;simp
    | cons a l ih =>
      intro h
      rw [List.flatMap_cons,List.length_append,List.length_cons,Nat.mul_add,Nat.mul_one]
      have := h a (by simp)
      have := ih fun b hb => h b (by simp [hb])
      omega
  simp only [metaL,attrsL,acesL,rowL] at b5
  refine Yg1 (fa2 @e5 @b5) ?_
  refine LW_joinB (fun st => st.env 1 = .ptr 1 0 ∧ st.box 1 = some (recL r) ∧ st.env 4 = .sl (c2 ++ r.node.mt.attrs.flatMap putAt).length (bL (c2 ++ r.node.mt.attrs.flatMap putAt)) (.row 1000) ∧ st.row 1000 = some (5,(c2 ++ r.node.mt.attrs.flatMap putAt).length) ∧ st.env 5 = .ptr 5 0 ∧ st.box 5 = some (metaL r.node.mt) ∧ st.mode = fun _ => false) ?_ ?_
  · refine LW_loop (fun m st => ∃ (i : Nat) (c : List UInt8),m + i = r.node.mt.attrs.length ∧ c = c2 ++ (r.node.mt.attrs.take i).flatMap putAt ∧ c.length ≤ 240 + 254 * i ∧ st.env 1 = .ptr 1 0 ∧ st.box 1 = some (recL r) ∧ st.env 4 = .sl c.length (bL c) (.row 1000) ∧ st.row 1000 = some (5,c.length) ∧ st.env 5 = .ptr 5 0 ∧ st.box 5 = some (metaL r.node.mt) ∧ st.env 50 = attrsL r.node.mt.attrs ∧ st.env 51 = intL r.node.mt.attrs.length ∧ st.env 52 = intL i ∧ st.mode = fun _ => false) r.node.mt.attrs.length ⟨0,c2,by omega,by simp,by omega,(Yq1 @e1),(Yq1 (fa7 @b1 @recL.eq_1 @nodeL.eq_1 @piecesL.eq_1 @attrsL.eq_1 @acesL.eq_1 @rowL.eq_1)),(Yq1 @e4),(Yq1 @r4),(Yq1 @e5),(Yq1 (fa5 @b5 @metaL.eq_1 @attrsL.eq_1 @acesL.eq_1 @rowL.eq_1)),(Yq1 (fa2 @attrsL.eq_1 @rowL.eq_1)),Yq0,Yq0,(Yq1 @hmd)⟩ ?_
    clear e1 b1 e4 r4 e5 b5 hmd st
    rintro m st ⟨i,c,hmi,hc,hcl3,e1,b1,e4,r4,e5,b5,e50,e51,e52,hmd⟩
    refine Yg1 (fa2 @e51 @e52) ?_
    by_cases hlt : i < r.node.mt.attrs.length
    rotate_left
    · refine Yf1 @hlt ?_
      refine LW_exit ?_;simp only [thenL,jumpsL,inBlockL,twoL,reduceIte,Nat.reduceEqDiff]
      rw [List.take_of_length_le (by omega)] at hc
      subst hc
      exact ⟨(Yq1 @e1),(Yq1 @b1),(Yq1 @e4),(Yq1 @r4),(Yq1 @e5),(Yq1 @b5),(Yq1 @hmd)⟩
    obtain ⟨x,hx⟩ := get_of_lt hlt
    have hxm := List.mem_of_getElem? hx
    obtain ⟨hx1,hx2⟩ := hM.attr x hxm
    have hd := drop_attr hx
    have hw := w64s (n := i) (by omega)
    have t1 := ntext_O x.name (by omega)
    have t2 := ntext_O x.value (by omega)
    have h1 := bL_len (putT x.name)
    have h2 := bL_len (putT x.value)
    have h3 := bL_len c
    have h4 := bL_one (putT x.name)
    have h5 := bL_one (putT x.value)
    have h6 := strip_bL (putT x.name)
    have h7 := strip_bL (putT x.value)
    have h8 := putT_len x.name (by omega)
    have h9 := putT_len x.value (by omega)
    refine Yt1 @hlt ?_
    refine Yg1 (fa7 @e50 @e52 @attrsL.eq_1 @rowL.eq_1 @hlt @hd @attrL.eq_1) ?_
    (repeat (first | refine LW_seq ?_ | (refine LW_skip ?_;simp only [LSj,reduceIte,zze]) | refine LW_block ?_));refine LW_mix2 [(59,⟨_,_,_,_,_,[],[(2000,1001)],_,[],(t1).toS,rfl,rfl,rfl⟩),(63,⟨_,_,_,_,_,[],[(2000,1002)],_,[],(t2).toS,rfl,rfl,rfl⟩)] [59,63] (fun _ => false) [(0,[1000]),(1,[7]),(2,[7]),(5,[7]),(6,[7]),(3,[1000,7]),(4,[7])] [0,1,2,5,6] [[3,4,7,8,9]] rfl (by kernel_rfl) (by kernel_rfl) (by kernel_rfl) (by first | exact rfl | exact hmd | simp only [LZ,zo,zc,reduceCtorEq,reduceIte,zz1,zz2,zz3,zz4,zz5,zz6,zz7,zz8,zz9,zza,zzb,zzc,zzd,zze,zzf,e4,r4,hmd,h1,h2,h3,h4,h5,h6,h7]) ?_;intro K hK;simp only [LZ,zo,zc,reduceCtorEq,reduceIte,zz1,zz2,zz3,zz4,zz5,zz6,zz7,zz8,zz9,zza,zzb,zzc,zzd,zze,zzf,e4,r4,hmd,h1,h2,h3,h4,h5,h6,h7]
    refine ⟨by (repeat' apply And.intro) <;> first | omega | (unfold maxLen;omega),?_⟩
    refine ⟨by (repeat' apply And.intro) <;> first | omega | (unfold maxLen;omega),?_⟩
    refine hK _ ?_;clear hK K;try refine Wh0 ?_
    refine Yg1 (fa2 @e52 @hw) ?_
    have hpe : putT x.name ++ putT x.value = putAt x := rfl
    refine ⟨m - 1,by omega,i + 1,c ++ putAt x,by omega,?_,?_,(Yq1 @e1),(Yq1 (fa7 @b1 @recL.eq_1 @nodeL.eq_1 @piecesL.eq_1 @attrsL.eq_1 @acesL.eq_1 @rowL.eq_1)),?_,?_,(Yq1 @e5),(Yq1 (fa5 @b5 @metaL.eq_1 @attrsL.eq_1 @acesL.eq_1 @rowL.eq_1)),(Yq1 (fa3 @e50 @attrsL.eq_1 @rowL.eq_1)),(Yq1 @e51),(Yq1 @hw),(Yq1 @hmd)⟩
    · obtain ⟨hi,rfl⟩ := List.getElem?_eq_some_iff.1 hx
      rw [hc,List.append_assoc,List.take_succ_eq_append_getElem hi,List.flatMap_append]
      simp
    · rw [List.length_append]
      have := putAt_len (hM.attr x hxm)
      omega
    · rw [← hpe,← List.append_assoc,List.length_append,List.length_append,bL_app,bL_app]
      exact Yq0
    · rw [← hpe,← List.append_assoc,List.length_append,List.length_append]
      exact Yq0
  clear e1 b1 e4 r4 e5 b5 hmd st
  rintro st ⟨e1,b1,e4,r4,e5,b5,hmd⟩
  have hcl3 : (c2 ++ r.node.mt.attrs.flatMap putAt).length ≤ 3000 := by
    rw [List.length_append]
    have := hmx putAt 254 r.node.mt.attrs haal
    omega
  have hcl := hM.acl
  have cn3 := numbers_O (c2 ++ r.node.mt.attrs.flatMap putAt) (by omega) [(r.node.mt.acl.length : Int)] (by simp)
  simp only [intsL,rowL,List.flatMap_cons,List.flatMap_nil,List.append_nil,intE,List.length_cons,List.length_nil,List.cons_append,List.nil_append] at cn3
  have hcl4 : (c2 ++ r.node.mt.attrs.flatMap putAt ++ putI (r.node.mt.acl.length : Int)).length ≤ 3100 := by
    rw [List.length_append]
    have := putI_len (r.node.mt.acl.length : Int)
    omega
  generalize hC3 : c2 ++ r.node.mt.attrs.flatMap putAt = c3 at *
  generalize hC4 : c3 ++ putI (r.node.mt.acl.length : Int) = c4 at *
  simp only [metaL,attrsL,acesL,rowL] at b5
  (repeat (first | refine LW_seq ?_ | (refine LW_skip ?_;simp only [LSj,reduceIte,zze]) | refine LW_block ?_));refine LW_regionO [(71,⟨_,_,_,_,_,[(1000,1000)],[(2000,1000)],_,[],(cn3).toS,rfl,rfl,rfl⟩)] ?_;intro K hK;simp only [LZ,zo,zc,reduceCtorEq,reduceIte,zz1,zz2,zz3,zz4,zz5,zz6,zz7,zz8,zz9,zza,zzb,zzc,zzd,zze,zzf,e4,r4,e5,b5,hmd]
  refine hK _ ?_;clear hK K;try refine Wh0 ?_
  refine Yg1 (fa2 @e5 @b5) ?_
  refine LW_slim (fun st => st.env 1 = .ptr 1 0 ∧ st.box 1 = some (recL r) ∧ st.env 4 = .sl c4.length (bL c4) (.row 1000) ∧ st.row 1000 = some (5,c4.length) ∧ st.env 73 = acesL r.node.mt.acl ∧ st.env 74 = intL r.node.mt.acl.length ∧ st.env 75 = intL 0 ∧ st.mode = fun _ => false) ⟨(Yq1 @e1),(Yq1 (fa7 @b1 @recL.eq_1 @nodeL.eq_1 @piecesL.eq_1 @attrsL.eq_1 @acesL.eq_1 @rowL.eq_1)),Yq0,Yq0,(Yq1 (fa2 @acesL.eq_1 @rowL.eq_1)),Yq0,Yq0,(Yq1 @hmd)⟩ ?_
  clear e1 b1 e4 r4 e5 b5 hmd st
  rintro st ⟨e1,b1,e4,r4,e73,e74,e75,hmd⟩
  refine LW_joinB (fun st => st.env 1 = .ptr 1 0 ∧ st.box 1 = some (recL r) ∧ st.env 4 = .sl (c4 ++ r.node.mt.acl.flatMap putAc).length (bL (c4 ++ r.node.mt.acl.flatMap putAc)) (.row 1000) ∧ st.row 1000 = some (5,(c4 ++ r.node.mt.acl.flatMap putAc).length) ∧ st.mode = fun _ => false) ?_ ?_
  · refine LW_loop (fun m st => ∃ (i : Nat) (c : List UInt8),m + i = r.node.mt.acl.length ∧ c = c4 ++ (r.node.mt.acl.take i).flatMap putAc ∧ c.length ≤ 3100 + 51 * i ∧ st.env 1 = .ptr 1 0 ∧ st.box 1 = some (recL r) ∧ st.env 4 = .sl c.length (bL c) (.row 1000) ∧ st.row 1000 = some (5,c.length) ∧ st.env 73 = acesL r.node.mt.acl ∧ st.env 74 = intL r.node.mt.acl.length ∧ st.env 75 = intL i ∧ st.mode = fun _ => false) r.node.mt.acl.length ⟨0,c4,by omega,by simp,by omega,e1,b1,e4,r4,e73,e74,e75,hmd⟩ ?_
    clear e1 b1 e4 r4 e73 e74 e75 hmd st
    rintro m st ⟨i,c,hmi,hc,hcl5,e1,b1,e4,r4,e73,e74,e75,hmd⟩
    refine Yg1 (fa2 @e74 @e75) ?_
    by_cases hlt : i < r.node.mt.acl.length
    rotate_left
    · refine Yf1 @hlt ?_
      refine LW_exit ?_;simp only [thenL,jumpsL,inBlockL,twoL,reduceIte,Nat.reduceEqDiff]
      rw [List.take_of_length_le (by omega)] at hc
      subst hc
      exact ⟨(Yq1 @e1),(Yq1 @b1),(Yq1 @e4),(Yq1 @r4),(Yq1 @hmd)⟩
    obtain ⟨x,hx⟩ := get_of_lt hlt
    have hd := drop_aceL hx
    have hw := w64s (n := i) (by omega)
    have cn5 := numbers_O c (by omega) [x.kind,x.id,x.perm] (by simp)
    simp only [intsL,rowL,List.flatMap_cons,List.flatMap_nil,List.append_nil,intE,List.length_cons,List.length_nil,List.cons_append,List.nil_append] at cn5
    have hpe : putI x.kind ++ (putI x.id ++ putI x.perm) = putAc x := by unfold putAc;rw [List.append_assoc]
    rw [hpe] at cn5
    refine Yt1 @hlt ?_
    refine Yg1 (fa7 @e73 @e75 @acesL.eq_1 @rowL.eq_1 @hlt @hd @aceL.eq_1) ?_
    (repeat (first | refine LW_seq ?_ | (refine LW_skip ?_;simp only [LSj,reduceIte,zze]) | refine LW_block ?_));refine LW_regionO [(87,⟨_,_,_,_,_,[(1000,1000)],[(2000,1000)],_,[],(cn5).toS,rfl,rfl,rfl⟩)] ?_;intro K hK;simp only [LZ,zo,zc,reduceCtorEq,reduceIte,zz1,zz2,zz3,zz4,zz5,zz6,zz7,zz8,zz9,zza,zzb,zzc,zzd,zze,zzf,e4,r4,hmd]
    refine hK _ ?_;clear hK K;try refine Wh0 ?_
    refine Yg1 (fa2 @e75 @hw) ?_
    refine ⟨m - 1,by omega,i + 1,c ++ putAc x,by omega,?_,?_,(Yq1 @e1),(Yq1 (fa7 @b1 @recL.eq_1 @nodeL.eq_1 @piecesL.eq_1 @attrsL.eq_1 @acesL.eq_1 @rowL.eq_1)),Yq0,Yq0,(Yq1 (fa3 @e73 @acesL.eq_1 @rowL.eq_1)),(Yq1 @e74),(Yq1 @hw),(Yq1 @hmd)⟩
    · obtain ⟨hi,rfl⟩ := List.getElem?_eq_some_iff.1 hx
      rw [hc,List.append_assoc,List.take_succ_eq_append_getElem hi,List.flatMap_append]
      simp
    · rw [List.length_append]
      have := putAc_len x
      omega
  clear e1 b1 e4 r4 e73 e74 e75 hmd st
  rintro st ⟨e1,b1,e4,r4,hmd⟩
  have hcl6 : (c4 ++ r.node.mt.acl.flatMap putAc).length ≤ 4000 := by
    rw [List.length_append]
    have := hmx putAc 51 r.node.mt.acl (fun a _ => putAc_len a)
    omega
  generalize hC5 : c4 ++ r.node.mt.acl.flatMap putAc = c5 at *
  have cr := rest_O r hs (by have := hB.target;omega) (by have := hB.len;omega)
  have hrl := restR_len hB
  simp only [recL,nodeL,attrsL,acesL,piecesL,rowL,List.cons_append,List.nil_append] at b1 cr
  have h1 := bL_len (restR r.node r.pos)
  have h2 := bL_one (restR r.node r.pos)
  have h3 := strip_bL (restR r.node r.pos)
  have h4 := bL_len c5
  (repeat (first | refine LW_seq ?_ | (refine LW_skip ?_;simp only [LSj,reduceIte,zze]) | refine LW_block ?_));refine LW_regionO [(91,⟨_,_,_,_,_,[],[(2000,1001)],_,[],(cr).toS,rfl,rfl,rfl⟩)] ?_;intro K hK;simp only [LZ,zo,zc,reduceCtorEq,reduceIte,zz1,zz2,zz3,zz4,zz5,zz6,zz7,zz8,zz9,zza,zzb,zzc,zzd,zze,zzf,e1,b1,e4,r4,hmd,h1,h2,h3,h4]
  refine ⟨by (repeat' apply And.intro) <;> first | omega | (unfold maxLen;omega) | (intro _;omega) | decide,?_⟩
  refine hK _ ?_;clear hK K;try refine Wh0 ?_
  refine LW_ret ?_;simp only [thenL,jumpsL,inBlockL,twoL,bodyO];refine ⟨[],rfl,?_⟩;simp only [thenL,jumpsL,inBlockL,twoL,bodyQ,LV.lit.injEq,LV.tup.injEq,LV.agg.injEq,LV.sl.injEq,List.cons.injEq,Value.int.injEq,Value.bool.injEq,Value.string.injEq,ByteArray.mk.injEq,exists_eq_left',exists_eq_left,exists_eq_right,LZ,zo,zc,reduceCtorEq,reduceIte,zz1,zz2,zz3,zz4,zz5,zz6,zz7,zz8,zz9,zza,zzb,zzc,zzd,zze,zzf,bytesL']
  have hac := putI_nat (n := r.node.mt.acl.length) (by have := hM.acl;unfold half;omega)
  have hRe : R = c5 ++ restR r.node r.pos := by
    rw [← hR,← hC5,← hC4,← hC3,← hC2]
    unfold putM
    rw [← hmn,← hac]
    simp [List.append_assoc]
  rw [hRe,List.length_append,bL_app]
  exact ⟨rfl,rfl⟩
def putP (r : Rec) : List UInt8 × Int := if mayRec r = true then (putRec r,0) else ([],1)
theorem rput_L (r : Rec) (hp : r.path.length < 1000000) (hs : small r.node) (ht : r.node.mt.time < 9223372036854775808) : LCalls Tryz.prog 33 [.agg (recL r)] (.tup [bytesL' (putP r).1,intL (putP r).2]) := by
  have := (rput_O r hp hs ht).toL
  unfold putP
  cases h : mayRec r
  · rw [h] at this;exact this
  · rw [h] at this;exact this
end Go.Proofs.YteamlijbkldlhaaGreatDoor
