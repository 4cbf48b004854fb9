import Derived.Test.YteamlijbkldlhaaDoorKUF
import Derived.Test.YteamlijbkldlhaaDoorRBare
import Derived.Test.YteamlijbkldlhaaDoorKNF
section
set_option linter.unusedSimpArgs false
set_option linter.unusedVariables false
namespace Go.Proofs.YteamlijbkldlhaaDoor
open Nat renaming reduceAdd → zz1,reduceMul → zz2,reduceSub → zz3,reduceLT → zz4,reduceLeDiff → zz5,reduceEqDiff → zz6,reduceBEq → zzf
open Int renaming reduceAdd → zz7,reduceSub → zz8,reduceMul → zz9,reduceLT → zza,reduceLE → zzb,reduceEq → zzc,reduceNeg → zzd,reduceToNat → zze
open Op renaming operands → zo
open Call renaming operands → zc
open Go.RowKit Go.Proofs AclSpec MetaSpec NodeSpec RecSpec PathSpec

def bare1 (p : Piece) : Piece := ⟨p.pos,itoB p.dat.length⟩
set_option maxRecDepth 100000 in
set_option maxHeartbeats 4000000 in
theorem rbare_O (n : FNode) (h : small n) : OCalls Tryd.prog 16 [.agg (nodeL n)] ⟨[],[],[]⟩ (.agg (nodeL (bareN n))) ⟨[],[],[]⟩ := by
  have cm := nmay_L n h
  have ca := cloneAttr_L n.mt.attrs h.1
  have cc := cloneAce_L n.mt.acl h.2.1
  simp only [nodeL,piecesL,attrsL,acesL,rowL] at cm ca cc
  refine OCalls.of (fun _ => false) Tryd.func16 rfl (by decide) Tryd.ntmps16 Tryd.results16 (by simp) ?_
  intro w0 S0 vs
  generalize hR : bareN n = R
  unfold bareN at hR
  refine Yg1 (fa4 @nodeL.eq_1 @piecesL.eq_1 @attrsL.eq_1 @acesL.eq_1) ?_
  cases hm : mayN n
  · rw [hm,if_neg (by decide)] at hR
    rw [hm] at cm
    subst hR
    refine LW_scope_straight ?_
    refine Yr0 ?_;intro K hK
    refine Yc0 (cm) ?_
    refine hK _ ?_;clear hK K;try refine Wh0 ?_
    refine Yt0 ?_
    refine Yg0 ?_
    refine LW_ret ?_;simp only [thenL,jumpsL,inBlockL,twoL,bodyO];refine ⟨[],rfl,?_⟩;simp only [thenL,jumpsL,inBlockL,twoL,bodyQ,LV.lit.injEq,LV.tup.injEq,LV.agg.injEq,LV.sl.injEq,List.cons.injEq,Value.int.injEq,Value.bool.injEq,Value.string.injEq,ByteArray.mk.injEq,exists_eq_left',exists_eq_left,exists_eq_right,LZ,zo,zc,reduceCtorEq,reduceIte,zz1,zz2,zz3,zz4,zz5,zz6,zz7,zz8,zz9,zza,zzb,zzc,zzd,zze,zzf,nodeL,piecesL,attrsL,acesL,rowL,zeroN]
    exact ⟨rfl,rfl,rfl⟩
  rw [if_pos hm] at hR
  rw [hm] at cm
  by_cases h0 : n.dat.length = 0
  · have cp := clonePiece_L n.dat h.2.2.1
    have hnil := List.eq_nil_of_length_eq_zero h0
    simp only [piecesL,rowL] at cp
    rw [hnil] at hR
    refine LW_scope_straight ?_
    refine Yr0 ?_;intro K hK
    refine Yc0 (cm) ?_
    refine hK _ ?_;clear hK K;try refine Wh0 ?_
    refine Yf0 ?_
    refine Yr0 ?_;intro K hK
    refine Yc0 (ca) ?_
    refine hK _ ?_;clear hK K;try refine Wh0 ?_
    refine Yr0 ?_;intro K hK
    refine Yc0 (cc) ?_
    refine hK _ ?_;clear hK K;try refine Wh0 ?_
    refine Yr0 ?_;intro K hK
    refine Yc0 (cp) ?_
    refine hK _ ?_;clear hK K;try refine Wh0 ?_
    refine Yg0 ?_
    refine Yt1 @h0 ?_
    refine Yg0 ?_
    refine LW_ret ?_;simp only [thenL,jumpsL,inBlockL,twoL,bodyO];refine ⟨[],rfl,?_⟩;simp only [thenL,jumpsL,inBlockL,twoL,bodyQ,LV.lit.injEq,LV.tup.injEq,LV.agg.injEq,LV.sl.injEq,List.cons.injEq,Value.int.injEq,Value.bool.injEq,Value.string.injEq,ByteArray.mk.injEq,exists_eq_left',exists_eq_left,exists_eq_right,LZ,zo,zc,reduceCtorEq,reduceIte,zz1,zz2,zz3,zz4,zz5,zz6,zz7,zz8,zz9,zza,zzb,zzc,zzd,zze,zzf,nodeL,piecesL,attrsL,acesL,rowL]
    subst hR
    rw [hnil]
    (repeat' apply And.intro) <;> rfl
  have cp := clonePc_O n.dat h.2.2.1 h0
  simp only [piecesL,rowL] at cp
  refine LW_lab1 (fun m st => ∃ i : Nat,m + i = n.dat.length ∧ st.env 1 = .ptr 1 0 ∧ st.box 1 = some (nodeB n 1000 48) ∧ st.arr 1000 = some (((n.dat.take i).map bare1 ++ n.dat.drop i).flatMap pieceL) ∧ st.env 2 = .ptr 2 0 ∧ st.box 2 = some zNode ∧ st.env 3 = intL i ∧ st.mode = fun _ => false) rfl ?_ ?_
  · intro hJ
    refine Yr0 ?_;intro K hK
    refine Yc0 (cm) ?_
    refine hK _ ?_;clear hK K;try refine Wh0 ?_
    refine Yf0 ?_
    refine Yr0 ?_;intro K hK
    refine Yc0 (ca) ?_
    refine hK _ ?_;clear hK K;try refine Wh0 ?_
    refine Yr0 ?_;intro K hK
    refine Yc0 (cc) ?_
    refine hK _ ?_;clear hK K;try refine Wh0 ?_
    (repeat (first | refine LW_seq ?_ | (refine LW_skip ?_;simp only [LSj,reduceIte,zze]) | refine LW_block ?_));refine LW_regionO [(22,⟨_,_,_,_,_,[],[(2000,1000)],_,[],(cp).toS,rfl,rfl,rfl⟩)] ?_;intro K hK;simp only [LZ,zo,zc,reduceCtorEq,reduceIte,zz1,zz2,zz3,zz4,zz5,zz6,zz7,zz8,zz9,zza,zzb,zzc,zzd,zze,zzf]
    refine hK _ ?_;clear hK K;try refine Wh0 ?_
    refine Yl0 ?_
    exact hJ.out n.dat.length _ ⟨0,by omega,Yq0,(Yq1 @nodeB.eq_1),Yq0,Yq0,(Yq1 @zNode.eq_1),Yq0,Yq0⟩
  · rintro m st ⟨i,hmi,e1,b1,a,e2,b2,e3,hmd⟩
    simp only [nodeB] at b1
    simp only [zNode] at b2
    by_cases hlt : i < n.dat.length
    rotate_left
    · have hei : ((i : Int) = (n.dat.length : Int)) = True := eq_true (by omega)
      rw [List.drop_of_length_le (by omega),List.take_of_length_le (by omega),List.append_nil] at a
      subst hR
      have hsf : sizeL Tryd.prog 48 = 2 := by kernel_rfl
      have hfl : ((n.dat.map bare1).flatMap pieceL).length = n.dat.length * 2 := by rw [pieceL_flen,List.length_map]
      refine Yg1 (fa4 @e3 @e1 @b1 @hei) ?_
      refine Yt0 ?_
      refine Yg1 (fa4 @e1 @b1 @e2 @b2) ?_
      refine LW_pub [(1000,(n.dat.map bare1).flatMap pieceL)] ⟨(Yq1 @a),trivial⟩ ?_
      refine LW_ret ?_;simp only [thenL,jumpsL,inBlockL,twoL,bodyO];refine ⟨[],rfl,?_⟩;simp only [thenL,jumpsL,inBlockL,twoL,bodyQ,LV.lit.injEq,LV.tup.injEq,LV.agg.injEq,LV.sl.injEq,List.cons.injEq,Value.int.injEq,Value.bool.injEq,Value.string.injEq,ByteArray.mk.injEq,exists_eq_left',exists_eq_left,exists_eq_right,LZ,zo,zc,reduceCtorEq,reduceIte,zz1,zz2,zz3,zz4,zz5,zz6,zz7,zz8,zz9,zza,zzb,zzc,zzd,zze,zzf,nodeL,piecesL,attrsL,acesL,rowL,e1,b1,e2,b2,hsf,hfl]
      rfl
    obtain ⟨p,hp⟩ := get_of_lt hlt
    have hei : ¬ ((i : Int) = (n.dat.length : Int)) := by omega
    have hip : (0 : Int) ≤ (i : Int) := by omega
    have hdl := h.2.2.1
    have hw := w64s (n := i) (by omega)
    have hpl := h.2.2.2 p (List.mem_of_getElem? hp)
    have ci := (itoa_L p.dat.length hpl).toO
    simp only [strip,strip2,strip1,strL,intL] at ci
    have hg := upd_get (f := bare1) hp
    have hg1 := piece_at hg
    have hfs := flat_set (enc := pieceL) (k := 2) pieceL_len (y := strL (itoB p.dat.length)) (o := 1) (a := p) (a' := bare1 p) (by decide) rfl hg
    rw [upd_step (f := bare1) hp] at hfs
    have hlen : (((n.dat.take i).map bare1 ++ n.dat.drop i).flatMap pieceL).length = n.dat.length * 2 := by rw [pieceL_flen,upd_len]
    refine Yg1 (fa4 @e3 @e1 @b1 @hei) ?_
    refine Yf0 ?_
    (repeat (first | refine LW_seq ?_ | (refine LW_skip ?_;simp only [LSj,reduceIte,zze]) | refine LW_block ?_));refine LW_mix2 [(40,⟨_,_,_,_,_,[],[],_,[],(ci).toS,rfl,rfl,rfl⟩)] [40] (fun _ => false) [(0,[1,1000]),(1,[1,1000]),(2,[]),(10,[1,1000])] [0,1,2,3,4,5,6,7,8,9] [[10,11,12,13]] rfl (by kernel_rfl) (by kernel_rfl) (by kernel_rfl) (by first | exact rfl | exact hmd | simp only [LZ,zo,zc,reduceCtorEq,reduceIte,zz1,zz2,zz3,zz4,zz5,zz6,zz7,zz8,zz9,zza,zzb,zzc,zzd,zze,zzf,e1,b1,e3,a,hmd,hip,hlt,hlen,hg1]) ?_;intro K hK;simp only [LZ,zo,zc,reduceCtorEq,reduceIte,zz1,zz2,zz3,zz4,zz5,zz6,zz7,zz8,zz9,zza,zzb,zzc,zzd,zze,zzf,e1,b1,e3,a,hmd,hip,hlt,hlen,hg1]
    refine ⟨by omega,?_⟩
    refine hK _ ?_;clear hK K;try refine Wh0 ?_
    refine Yg1 (fa2 @e3 @hw) ?_
    refine LW_goto ?_;simp only [thenL,jumpsL,inBlockL,twoL,true_and]
    simp only [strL] at hfs
    refine ⟨m - 1,by omega,i + 1,by omega,(Yq1 @e1),(Yq1 (fa2 @b1 @nodeB.eq_1)),?_,(Yq1 @e2),(Yq1 (fa2 @b2 @zNode.eq_1)),(Yq1 @hw),(Yq1 @hmd)⟩
    simp only [LZ,zo,zc,reduceCtorEq,reduceIte,zz1,zz2,zz3,zz4,zz5,zz6,zz7,zz8,zz9,zza,zzb,zzc,zzd,zze,zzf]
    rw [List.append_assoc]
    exact hfs
theorem rbare_L (n : FNode) (h : small n) : LCalls Tryd.prog 16 [.agg (nodeL n)] (.agg (nodeL (bareN n))) := (rbare_O n h).toL
end Go.Proofs.YteamlijbkldlhaaDoor
end
section
set_option linter.unusedSimpArgs false
set_option linter.unusedVariables false
namespace Go.Proofs.YteamlijbkldlhaaDoor
open Go.RowKit Go.Proofs AclSpec MetaSpec NodeSpec RecSpec PathSpec

theorem putRec_len {r : Rec} (hm : mayRec r = true) (ht : r.node.mt.time < 9223372036854775808) : (putRec r).length ≤ 6000 := by
  obtain ⟨hpl,_,hok⟩ := mayRec_ok hm ht
  have h1 := putT_len r.path (by omega)
  have h2 := putI_len r.lead
  unfold putRec putN
  rw [List.length_append,List.length_append]
  split
  · simp only [List.length_singleton];omega
  · rename_i hz
    rcases hok with ⟨c,_⟩ | ⟨k1,k6,hM,hB⟩
    · exact absurd c hz
    have h3 := restR_len hB
    have h4 := flat_le putAt 254 r.node.mt.attrs fun a ha => putAt_len (hM.attr a ha)
    have h5 := flat_le putAc 51 r.node.mt.acl fun a _ => putAc_len a
    have h6 := hM.attrs
    have h7 := hM.acl
    have h8 := putI_len r.node.mt.mode
    have h9 := putI_len r.node.mt.uid
    have h10 := putI_len r.node.mt.gid
    have h11 := putI_len r.node.mt.time
    have h12 := putU_u64 (n := r.node.mt.attrs.length) (by omega)
    have h13 := putU_u64 (n := r.node.mt.acl.length) (by omega)
    unfold putM
    simp only [List.length_cons,List.length_append]
    omega
def tN : FNode := ⟨2,⟨0,0,0,0,[],[]⟩,5,[⟨1,[97,98,99]⟩],[],0,0⟩
def tB : FNode := ⟨2,⟨0,0,0,0,[],[]⟩,5,[⟨1,[51]⟩],[],0,0⟩
def tR : Rec := ⟨[97],0,tB,7⟩
def tZ : Rec := ⟨[97],3,zeroN,0⟩
def tH : Rec := ⟨[46,46],3,zeroN,0⟩
def tM : Rec := ⟨[],-1,zeroN,0⟩
theorem tN_bare : bareN tN = tB := by
  have h : mayN tN = true := by decide +kernel
  unfold bareN
  rw [if_pos h]
  show (⟨2,⟨0,0,0,0,[],[]⟩,5,[⟨1,itoB 3⟩],[],0,0⟩ : FNode) = _
  rw [itoB_lo (by omega)];rfl
theorem tR_may : mayRec tR = true := by decide +kernel
theorem tZ_may : mayRec tZ = true := by decide +kernel
theorem tH_may : mayRec tH = false := by decide +kernel
theorem tM_may : mayRec tM = false := by decide +kernel
theorem tZ_put : putRec tZ = [1,97,3,0] := by
  unfold putRec putN putT putI
  rw [if_pos (by rfl)]
  show putU 1 ++ [97] ++ putU (uI 3) ++ [0] = _
  rw [show uI 3 = 3 from rfl,putU_lo (by omega),putU_lo (by omega)];rfl
theorem tR_get : getRec (putRec tR) 0 = (tR,((putRec tR).length : Int),0) := by
  have := back_same tR_may (by decide) []
  simpa using this
theorem t0_get : getRec [] 0 = (zeroRec,0,3) := by
  have hl : 0 < (putRec tR).length := by
    unfold putRec putN
    rw [List.length_append,List.length_append,if_neg (by decide)]
    simp only [List.length_cons];omega
  have := back_cut tR_may (by decide) [] (k := 0) hl
  simpa using this
theorem tsmall {n : FNode} (h : n = tN ∨ n = tB ∨ n = zeroN) : small n := by
  rcases h with rfl | rfl | rfl <;> refine ⟨by decide,by decide,by decide,fun p hp => ?_⟩
  · simp [tN] at hp;subst hp;decide
  · simp [tB] at hp;subst hp;decide
  · cases hp
set_option maxRecDepth 100000 in
set_option maxHeartbeats 8000000 in
theorem rtold_L : LCalls Tryd.prog 7 [] (boolL true) := by
  have sN := tsmall (n := tN) (.inl rfl)
  have sB := tsmall (n := tB) (.inr (.inl rfl))
  have sZ := tsmall (n := zeroN) (.inr (.inr rfl))
  have c1 := rbare_L tN sN
  rw [tN_bare] at c1
  have c2 := rput_L tR (by decide) sB (by decide)
  have c3 := rget_L (putRec tR) (by
    have := putRec_len tR_may (by decide);omega) 0
  rw [tR_get] at c3
  have c4 := rput_L tZ (by decide) sZ (by decide)
  have c5 := rput_L tH (by decide) sZ (by decide)
  have c6 := rget_L [] (by decide) 0
  rw [t0_get] at c6
  have c7 := recsame_L tR tR (small_okLen sB) (small_okLen sB)
  rw [decide_eq_true rfl] at c7
  have c8 := recmay_L tR (by decide) sB
  rw [tR_may] at c8
  have c9 := recmay_L tM (by decide) sZ
  rw [tM_may] at c9
  rw [show putP tR = (putRec tR,0) by unfold putP;rw [if_pos tR_may]] at c2
  rw [show putP tZ = ([1,97,3,0],0) by unfold putP;rw [if_pos tZ_may,tZ_put]] at c4
  rw [show putP tH = ([],1) by unfold putP;rw [tH_may];rfl] at c5
  have hX : 0 < (putRec tR).length ∨ True := .inr trivial
  have hbl := bL_len (putRec tR)
  generalize putRec tR = X at *
  simp only [tN,tB,tR,tZ,tH,tM,zeroN,zeroRec,recL,bytesL',bL,nodeL,attrsL,acesL,piecesL,rowL,pieceL,List.map_cons,List.map_nil,List.flatMap_cons,List.flatMap_nil,List.cons_append,List.nil_append,List.append_nil,List.length_cons,List.length_nil,Nat.reduceAdd] at c1 c4 c5 c6
  simp only [tN,tB,tR,tZ,tH,tM,zeroN,zeroRec,recL,bytesL',nodeL,attrsL,acesL,piecesL,rowL,pieceL,List.map_cons,List.map_nil,List.flatMap_cons,List.flatMap_nil,List.cons_append,List.nil_append,List.append_nil,List.length_cons,List.length_nil,Nat.reduceAdd] at c2 c3 c7 c8 c9
  refine LCalls.of (fun _ => false) Tryd.func7 rfl (by decide) Tryd.ntmps7 Tryd.results7 (by simp) ?_
  intro w0 S0 vs hgl hwf0 hsz hvs;clear hsz hvs hwf0 hgl
  refine Yg0 ?_
  refine Yr0 ?_;intro K hK
  refine Yc0 (c1) ?_
  refine hK _ ?_;clear hK K;try refine Wh0 ?_
  refine Yg0 ?_
  refine Yr0 ?_;intro K hK
  refine Yc0 (c2) ?_
  refine hK _ ?_;clear hK K;try refine Wh0 ?_
  refine Yr0 ?_;intro K hK
  refine Yc0 (c3) ?_
  refine hK _ ?_;clear hK K;try refine Wh0 ?_
  refine Yr0 ?_;intro K hK
  refine Yc0 (c4) ?_
  refine hK _ ?_;clear hK K;try refine Wh0 ?_
  refine Yr0 ?_;intro K hK
  refine Yc0 (c5) ?_
  refine hK _ ?_;clear hK K;try refine Wh0 ?_
  refine Yr0 ?_;intro K hK
  refine Yc0 (c6) ?_
  refine hK _ ?_;clear hK K;try refine Wh0 ?_
  (repeat refine LW_seq ?_)
  refine LW_regionA (l := ?l) ?hl ?_
  case hl => (first | simp only [Array.append_eq_append,List.append_toArray,List.append_eq,List.cons_append,List.nil_append] | skip);exact rfl
  have hz0 : ((UInt8.toNat 0 : Nat) : Int) = 0 := rfl
  refine Yr0 ?_;intro K hK
  refine Yc1 (c7) @hz0 ?_
  refine Yc1 (c8) @hz0 ?_
  refine Yc0 (c9) ?_
  refine hK _ ?_;clear hK K;try refine Wh0 ?_
  refine Ye0 ?_;try (with_reducible exact trivial)
set_option maxRecDepth 100000 in
theorem rfew_L (r : Rec) (hl : okLen r.node) : LCalls Tryd.prog 5 [.agg (recL r)] (boolL (decide (r.path.length ≤ 120) && fewN r.node)) := by
  have cf := nfew_L r.node hl
  simp only [nodeL,attrsL,acesL,piecesL,rowL] at cf
  refine LCalls.of (fun _ => false) Tryd.func5 rfl (by decide) Tryd.ntmps5 Tryd.results5 (by simp) ?_
  intro w0 S0 vs hgl hwf0 hsz hvs;clear hsz hvs hwf0 hgl
  refine Yg1 (fa5 @recL.eq_1 @nodeL.eq_1 @piecesL.eq_1 @attrsL.eq_1 @acesL.eq_1) ?_
  by_cases h : r.path.length ≤ 120
  · have hi : ((r.path.length : Int) ≤ 120) = True := eq_true (by omega)
    refine Yr1 @hi ?_;intro K hK
    refine Yc0 (cf) ?_
    refine hK _ ?_;clear hK K;try refine Wh0 ?_
    refine Ye0 ?_;try (with_reducible exact trivial)
    simp [h]
  · have hi : ¬ ((r.path.length : Int) ≤ 120) := by omega
    refine Yr1 @hi ?_;intro K hK
    refine hK _ ?_;clear hK K;try refine Wh0 ?_
    refine Ye0 ?_;try (with_reducible exact trivial)
    simp [h]
end Go.Proofs.YteamlijbkldlhaaDoor
end
