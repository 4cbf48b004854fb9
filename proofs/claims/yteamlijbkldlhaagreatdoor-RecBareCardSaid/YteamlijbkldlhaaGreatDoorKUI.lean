import Derived.Test.YteamlijbkldlhaaGreatDoorKUH
import Derived.Test.YteamlijbkldlhaaGreatDoorKR4
set_option linter.unusedSimpArgs false
set_option linter.unusedVariables false
namespace Go.Proofs.YteamlijbkldlhaaGreatDoor
open Nat renaming reduceAdd → zz1,reduceMul → zz2,reduceSub → zz3,reduceLT → zz4,reduceLeDiff → zz5,reduceEqDiff → zz6,reduceBEq → zzf
open Int renaming reduceAdd → zz7,reduceSub → zz8,reduceMul → zz9,reduceLT → zza,reduceLE → zzb,reduceEq → zzc,reduceNeg → zzd,reduceToNat → zze
open Op renaming operands → zo
open Call renaming operands → zc
open Go.RowKit Go.Proofs AclSpec MetaSpec NodeSpec RecSpec PathSpec

def dull1 (c : UInt8) (p : Piece) : Piece := ⟨p.pos,List.replicate p.dat.length c⟩
theorem dull_shape (c : UInt8) (l : List Piece) : shapeP (l.map (dull1 c)) = shapeP l := by
  unfold shapeP
  rw [List.map_map]
  congr 1
  funext p
  simp [dull1]
theorem bareN_small {n : FNode} (h : small n) : small (bareN n) := by
  unfold bareN
  split
  · refine ⟨h.1,h.2.1,by show (n.dat.map _).length ≤ _;rw [List.length_map];exact h.2.2.1,fun p hp => ?_⟩
    obtain ⟨q,hq,rfl⟩ := List.mem_map.1 hp
    have h1 := h.2.2.2 q hq
    have := ito_len 6 q.dat.length (by omega)
    show (itoB q.dat.length).length ≤ _
    omega
  · exact tsmall (.inr (.inr rfl))
theorem rep_zero (k : Nat) : repL k [.lit (.int .u8 0)] = bL (List.replicate k 0) := by
  unfold repL bL
  rw [List.map_replicate]
  induction k with
  | zero => rfl
  | succ k ih => rw [List.replicate_succ,List.flatten_cons,ih,List.replicate_succ];rfl
theorem fill_step (c : UInt8) (L k : Nat) (h : k < L) : (bL (List.replicate k c ++ List.replicate (L - k) 0)).take k ++ byL c :: (bL (List.replicate k c ++ List.replicate (L - k) 0)).drop (k + 1) = bL (List.replicate (k + 1) c ++ List.replicate (L - (k + 1)) 0) := by
  have h1 : L - k = L - (k + 1) + 1 := by omega
  have h2 : (bL (List.replicate k c)).length = k := by rw [bL_len,List.length_replicate]
  rw [bL_app,h1,List.replicate_succ,List.take_left' h2,List.drop_append,h2,List.drop_of_length_le (by omega)]
  rw [bL_app,List.replicate_succ',bL_snoc,List.append_assoc]
  have : k + 1 - k = 1 := by omega
  rw [this];rfl
theorem may_piece {n : FNode} (hy : mayN n = true) {p : Piece} (hp : p ∈ n.dat) : ¬ p.dat.length = 0 := by
  by_cases hk : n.kind = 2
  · have hfi : isFileN n = true := by unfold isFileN;rw [decide_eq_true hk,hy];rfl
    obtain ⟨_,_,_,_,k4,_⟩ := isFile_ok hfi
    have := List.length_pos_iff.2 (k4 p hp).1
    omega
  · unfold mayN at hy
    simp only [Bool.and_eq_true,Bool.or_eq_true,decide_eq_true_eq] at hy
    have := (hy.1.1.1.2.resolve_left hk).2
    rw [this] at hp;cases hp
set_option maxRecDepth 100000 in
set_option maxHeartbeats 8000000 in
theorem recBare_L (n : FNode) (c : UInt8) (ho : okLen n) : LCalls Tryz.prog 3 [.agg (nodeL n),byL c] (boolL true) := by
  have t0 := rtold_L
  have cf := nfew_L n ho
  simp only [boolL] at t0
  simp only [nodeL,attrsL,acesL,piecesL,rowL] at cf
  refine LCalls.of (fun _ => false) Tryz.func3 rfl (by decide) Tryz.ntmps3 Tryz.results3 (by simp) ?_
  intro w0 S0 vs hgl hwf0 hsz hvs;clear hsz hvs hwf0 hgl
  refine Yg1 (fa5 @nodeL.eq_1 @attrsL.eq_1 @acesL.eq_1 @piecesL.eq_1 @byL.eq_1) ?_
  cases hf : fewN n
  · rw [hf] at cf
    refine Yr0 ?_;intro K hK
    refine Yc0 (cf) ?_
    refine hK _ ?_;clear hK K;try refine Wh0 ?_
    refine Yt0 ?_
    refine Yr0 ?_;intro K hK
    refine Yc0 (t0) ?_
    refine hK _ ?_;clear hK K;try refine Wh0 ?_
    refine Ye0 ?_;try (with_reducible exact trivial)
  rw [hf] at cf
  obtain ⟨hs,_,_,htl,_⟩ := fewN_small hf
  have cm := rmayNode_L n hs (by unfold maxLen;omega)
  simp only [nodeL,attrsL,acesL,piecesL,rowL] at cm
  cases hy : mayN n
  · rw [hy] at cm
    refine Yr0 ?_;intro K hK
    refine Yc0 (cf) ?_
    refine Yc0 (cm) ?_
    refine hK _ ?_;clear hK K;try refine Wh0 ?_
    refine Yt0 ?_
    refine Yr0 ?_;intro K hK
    refine Yc0 (t0) ?_
    refine hK _ ?_;clear hK K;try refine Wh0 ?_
    refine Ye0 ?_;try (with_reducible exact trivial)
  rw [hy] at cm
  refine Yr0 ?_;intro K hK
  refine Yc0 (cf) ?_
  refine Yc0 (cm) ?_
  refine hK _ ?_;clear hK K;try refine Wh0 ?_
  refine Yf0 ?_
  refine Yg0 ?_
  refine LW_slim (fun st => st.env 1 = byL c ∧ st.env 2 = .ptr 2 0 ∧ st.box 2 = some (nodeL n) ∧ st.env 5 = .ptr 5 0 ∧ st.box 5 = some (nodeC n.kind n.mt n.size (.sl 0 [] .nil) n.target n.major n.minor) ∧ st.env 6 = intL 0 ∧ st.mode = fun _ => false) ⟨(Yq1 @byL.eq_1),Yq0,(Yq1 (fa5 @nodeL.eq_1 @piecesL.eq_1 @attrsL.eq_1 @acesL.eq_1 @rowL.eq_1)),Yq0,(Yq1 @nodeC.eq_1),Yq0,Yq0⟩ ?_
  rintro st ⟨e1,e2,b2,e5,b5,e6,hmd⟩
  refine LW_joinB (fun st => ∃ tok,(tok = .nil ∨ tok = .row 58) ∧ st.env 2 = .ptr 2 0 ∧ st.box 2 = some (nodeL n) ∧ st.env 5 = .ptr 5 0 ∧ st.box 5 = some (nodeC n.kind n.mt n.size (.sl n.dat.length ((n.dat.map (dull1 c)).flatMap pieceL) tok) n.target n.major n.minor) ∧ st.mode = fun _ => false) ?_ ?_
  · refine LW_loop (fun mm st => ∃ (i : Nat) (tok : Tok),mm + i = n.dat.length ∧ ((tok = .nil ∧ i = 0) ∨ (tok = .row 58 ∧ st.row 58 = some (33,i))) ∧ st.env 1 = byL c ∧ st.env 2 = .ptr 2 0 ∧ st.box 2 = some (nodeL n) ∧ st.env 5 = .ptr 5 0 ∧ st.box 5 = some (nodeC n.kind n.mt n.size (.sl i (((n.dat.take i).map (dull1 c)).flatMap pieceL) tok) n.target n.major n.minor) ∧ st.env 6 = intL i ∧ st.mode = fun _ => false) n.dat.length ⟨0,.nil,by omega,.inl ⟨rfl,rfl⟩,e1,e2,b2,e5,b5,e6,hmd⟩ ?_
    clear e1 e2 b2 e5 b5 e6 hmd st
    rintro mm st ⟨i,tok,hmi,htok,e1,e2,b2,e5,b5,e6,hmd⟩
    simp only [nodeL,attrsL,acesL,piecesL,rowL] at b2
    simp only [nodeC] at b5
    have hdl := hs.2.2.1
    by_cases hlt : i < n.dat.length
    rotate_left
    · have hei : ¬ (i < n.dat.length) := hlt
      refine Yg1 (fa3 @e6 @e2 @b2) ?_
      refine Yf1 @hei ?_
      refine LW_exit ?_;simp only [thenL,jumpsL,inBlockL,twoL,reduceIte,Nat.reduceEqDiff]
      rw [List.take_of_length_le (by omega)] at b5
      have hin : i = n.dat.length := by omega
      subst hin
      refine ⟨tok,?_,(Yq1 @e2),(Yq1 (fa6 @b2 @nodeL.eq_1 @piecesL.eq_1 @attrsL.eq_1 @acesL.eq_1 @rowL.eq_1)),(Yq1 @e5),?_,(Yq1 @hmd)⟩
      · rcases htok with ⟨h,_⟩ | ⟨h,_⟩
        · exact .inl h
        · exact .inr h
      · rcases htok with ⟨rfl,_⟩ | ⟨rfl,_⟩ <;> exact (Yq1 (fa2 @b5 @nodeC.eq_1))
    obtain ⟨p,hp⟩ := get_of_lt hlt
    have hpl := hs.2.2.2 p (List.mem_of_getElem? hp)
    have hd := drop_piece hp
    have hpa := piece_at hp
    have hip : (0 : Int) ≤ (i : Int) := by omega
    have hw := w64s (n := i) (by omega)
    refine Yg1 (fa3 @e6 @e2 @b2) ?_
    refine Yt1 @hlt ?_
    have htok2 : (tok = .nil ∧ i = 0) ∨ (tok = .row 58 ∧ True) := htok.imp id (fun h => ⟨h.1,trivial⟩)
    have hne := may_piece hy (List.mem_of_getElem? hp)
    have hrz := rep_zero p.dat.length
    refine Yr1 (fa8 @e2 @b2 @e6 @hip @hlt @hd @hpa @hne) ?_;intro K hK
    refine ⟨by (repeat' apply And.intro) <;> first | omega | (unfold maxLen;omega) | (intro _;omega) | decide,?_⟩
    refine hK _ ?_;clear hK K;try refine Wh0 ?_
    refine Yg0 ?_
    have harr0 : bL (List.replicate 0 c ++ List.replicate (p.dat.length - 0) 0) = repL p.dat.length [.lit (.int .u8 0)] := by rw [hrz];rfl
    refine LW_joinB (fun st => st.env 1 = byL c ∧ st.env 2 = .ptr 2 0 ∧ st.box 2 = some (nodeL n) ∧ st.env 5 = .ptr 5 0 ∧ st.box 5 = some (nodeC n.kind n.mt n.size (.sl i (((n.dat.take i).map (dull1 c)).flatMap pieceL) tok) n.target n.major n.minor) ∧ (tok = .row 58 → st.row 58 = some (33,i)) ∧ st.env 6 = intL i ∧ st.env 7 = .bsl 35 p.dat.length 5 ∧ st.arr 35 = some (bL (List.replicate p.dat.length c)) ∧ st.mode = fun _ => false) ?_ ?_
    · refine LW_loop (fun m2 st => ∃ k : Nat,m2 + k = p.dat.length ∧ st.env 1 = byL c ∧ st.env 2 = .ptr 2 0 ∧ st.box 2 = some (nodeL n) ∧ st.env 5 = .ptr 5 0 ∧ st.box 5 = some (nodeC n.kind n.mt n.size (.sl i (((n.dat.take i).map (dull1 c)).flatMap pieceL) tok) n.target n.major n.minor) ∧ (tok = .row 58 → st.row 58 = some (33,i)) ∧ st.env 6 = intL i ∧ st.env 7 = .bsl 35 p.dat.length 5 ∧ st.arr 35 = some (bL (List.replicate k c ++ List.replicate (p.dat.length - k) 0)) ∧ st.env 8 = intL k ∧ st.mode = fun _ => false) p.dat.length ⟨0,by omega,?_⟩ ?_
      · rcases htok with ⟨rfl,rfl⟩ | ⟨rfl,r58⟩
        · exact ⟨(Yq1 (fa2 @e1 @byL.eq_1)),(Yq1 @e2),(Yq1 (fa6 @b2 @nodeL.eq_1 @piecesL.eq_1 @attrsL.eq_1 @acesL.eq_1 @rowL.eq_1)),(Yq1 @e5),(Yq1 (fa2 @b5 @nodeC.eq_1)),(fun h => by cases h),(Yq1 @e6),Yq0,(Yq1 @harr0),Yq0,(Yq1 @hmd)⟩
        · exact ⟨(Yq1 (fa2 @e1 @byL.eq_1)),(Yq1 @e2),(Yq1 (fa6 @b2 @nodeL.eq_1 @piecesL.eq_1 @attrsL.eq_1 @acesL.eq_1 @rowL.eq_1)),(Yq1 @e5),(Yq1 (fa2 @b5 @nodeC.eq_1)),(fun _ => (Yq1 @r58)),(Yq1 @e6),Yq0,(Yq1 @harr0),Yq0,(Yq1 @hmd)⟩
      clear htok e1 e2 b2 e5 b5 e6 hmd st
      rintro m2 st ⟨k,hmk,e1,e2,b2,e5,b5,r58,e6,e7,a35,e8,hmd⟩
      have hkp : (0 : Int) ≤ (k : Int) := by omega
      have hwk := w64s (n := k) (by omega)
      have hal : (bL (List.replicate k c ++ List.replicate (p.dat.length - k) 0)).length = p.dat.length := by rw [bL_len,List.length_append,List.length_replicate,List.length_replicate];omega
      by_cases hk : k < p.dat.length
      rotate_left
      · have hkn : k = p.dat.length := by omega
        have hkd : p.dat.length - p.dat.length = 0 := Nat.sub_self _
        refine Yg1 (fa2 @e7 @e8) ?_
        refine Yf1 @hk ?_
        refine LW_exit ?_;simp only [thenL,jumpsL,inBlockL,twoL,reduceIte,Nat.reduceEqDiff]
        subst hkn
        rw [hkd,List.replicate_zero,List.append_nil] at a35
        refine ⟨(Yq1 (fa2 @e1 @byL.eq_1)),(Yq1 @e2),(Yq1 (fa6 @b2 @nodeL.eq_1 @piecesL.eq_1 @attrsL.eq_1 @acesL.eq_1 @rowL.eq_1)),(Yq1 @e5),?_,?_,(Yq1 @e6),(Yq1 @e7),(Yq1 @a35),(Yq1 @hmd)⟩
        · rcases htok2 with ⟨rfl,_⟩ | ⟨rfl,_⟩ <;> exact (Yq1 (fa2 @b5 @nodeC.eq_1))
        · intro h;have := r58 h;exact (Yq1 @this)
      · have hfs := fill_step c p.dat.length k hk
        simp only [byL] at hfs
        refine Yg1 (fa2 @e7 @e8) ?_
        refine Yt1 @hk ?_
        refine Yr1 (fa8 @e1 @e7 @e8 @a35 @hkp @hk @hal @byL.eq_1) ?_;intro K hK
        refine ⟨by omega,?_⟩
        refine hK _ ?_;clear hK K;try refine Wh0 ?_
        refine Yg1 (fa2 @e8 @hwk) ?_
        refine ⟨m2 - 1,by omega,k + 1,by omega,(Yq1 (fa2 @e1 @byL.eq_1)),(Yq1 @e2),(Yq1 (fa6 @b2 @nodeL.eq_1 @piecesL.eq_1 @attrsL.eq_1 @acesL.eq_1 @rowL.eq_1)),(Yq1 @e5),?_,?_,(Yq1 @e6),(Yq1 @e7),?_,(Yq1 @hwk),(Yq1 @hmd)⟩
        · rcases htok2 with ⟨rfl,_⟩ | ⟨rfl,_⟩ <;> exact (Yq1 (fa2 @b5 @nodeC.eq_1))
        · intro h;have := r58 h;exact (Yq1 @this)
        · simp only [LZ,zo,zc,reduceCtorEq,reduceIte,zz1,zz2,zz3,zz4,zz5,zz6,zz7,zz8,zz9,zza,zzb,zzc,zzd,zze,zzf]
          rw [List.append_assoc]
          exact hfs
    clear htok e1 e2 b2 e5 b5 e6 hmd st
    rintro st ⟨e1,e2,b2,e5,b5,r58,e6,e7,a35,hmd⟩
    simp only [nodeL,attrsL,acesL,piecesL,rowL] at b2
    simp only [nodeC] at b5
    have hb1 := bL_len (List.replicate p.dat.length c)
    have hb2 := bytesOf_bL (List.replicate p.dat.length c)
    have hrl : (List.replicate p.dat.length c).length = p.dat.length := List.length_replicate
    have hms : ((n.dat.take (i + 1)).map (dull1 c)) = ((n.dat.take i).map (dull1 c)) ++ [dull1 c p] := by
      obtain ⟨hi,rfl⟩ := List.getElem?_eq_some_iff.1 hp
      rw [List.take_succ_eq_append_getElem hi,List.map_append];rfl
    have hcl : (((n.dat.take i).map (dull1 c)).flatMap pieceL).length = i * 2 := by rw [pieceL_flen,List.length_map,List.length_take,Nat.min_eq_left (by omega)]
    rcases htok2 with ⟨rfl,hi0⟩ | ⟨rfl,_⟩
    · subst hi0
      have h0lt : ((0 : Int) < (n.dat.length : Int)) = True := eq_true (by omega)
      (repeat (first | refine LW_seq ?_ | (refine LW_skip ?_;simp only [LSj,reduceIte,zze]) | refine LW_block ?_));refine LW_tail 12 (by kernel_rfl) (by kernel_rfl) (by kernel_rfl) (by first | exact rfl | (rw [hmd];exact rfl)) ?_;intro K hK;simp only [LZ,zo,zc,reduceCtorEq,reduceIte,zz1,zz2,zz3,zz4,zz5,zz6,zz7,zz8,zz9,zza,zzb,zzc,zzd,zze,zzf,e2,b2,e5,b5,e6,e7,a35,hmd,hip,hlt,hd,hb1,hb2,hrl,hcl,bconvL,Nat.zero_add,h0lt,List.flatMap_nil]
      refine ⟨by (repeat' apply And.intro) <;> first | omega | (unfold maxLen;omega),?_⟩
      refine hK _ ?_;clear hK K;try refine Wh0 ?_
      refine Yg1 (fa2 @e6 @hw) ?_
      refine ⟨mm - 1,by omega,0 + 1,.row 58,by omega,.inr ⟨rfl,Yq0⟩,(Yq1 (fa2 @e1 @byL.eq_1)),(Yq1 @e2),(Yq1 (fa6 @b2 @nodeL.eq_1 @piecesL.eq_1 @attrsL.eq_1 @acesL.eq_1 @rowL.eq_1)),(Yq1 @e5),?_,(Yq1 @hw),(Yq1 @hmd)⟩
      rw [hms,List.flatMap_append]
      exact (by first | exact rfl | assumption | (simp only [LZ,zo,zc,reduceCtorEq,reduceIte,zz1,zz2,zz3,zz4,zz5,zz6,zz7,zz8,zz9,zza,zzb,zzc,zzd,zze,zzf,b5,nodeC,List.flatMap_nil,List.flatMap_cons,pieceL,dull1] <;> exact rfl))
    · have r58 := r58 rfl
      (repeat (first | refine LW_seq ?_ | (refine LW_skip ?_;simp only [LSj,reduceIte,zze]) | refine LW_block ?_));refine LW_tail 12 (by kernel_rfl) (by kernel_rfl) (by kernel_rfl) (by first | exact rfl | (rw [hmd];exact rfl)) ?_;intro K hK;simp only [LZ,zo,zc,reduceCtorEq,reduceIte,zz1,zz2,zz3,zz4,zz5,zz6,zz7,zz8,zz9,zza,zzb,zzc,zzd,zze,zzf,e2,b2,e5,b5,e6,e7,a35,hmd,hip,hlt,hd,hb1,hb2,hrl,hcl,r58,bconvL]
      refine ⟨by (repeat' apply And.intro) <;> first | omega | (unfold maxLen;omega),?_⟩
      refine hK _ ?_;clear hK K;try refine Wh0 ?_
      refine Yg1 (fa2 @e6 @hw) ?_
      refine ⟨mm - 1,by omega,i + 1,.row 58,by omega,.inr ⟨rfl,Yq0⟩,(Yq1 (fa2 @e1 @byL.eq_1)),(Yq1 @e2),(Yq1 (fa6 @b2 @nodeL.eq_1 @piecesL.eq_1 @attrsL.eq_1 @acesL.eq_1 @rowL.eq_1)),(Yq1 @e5),?_,(Yq1 @hw),(Yq1 @hmd)⟩
      rw [hms,List.flatMap_append]
      exact (by first | exact rfl | assumption | (simp only [LZ,zo,zc,reduceCtorEq,reduceIte,zz1,zz2,zz3,zz4,zz5,zz6,zz7,zz8,zz9,zza,zzb,zzc,zzd,zze,zzf,b5,nodeC,List.flatMap_nil,List.flatMap_cons,pieceL,dull1] <;> exact rfl))
  clear e1 e2 b2 e5 b5 e6 hmd st
  rintro st ⟨tok,htok,e2,b2,e5,b5,hmd⟩
  have cb := rbare_L n hs
  have hbs := bareN_small hs
  have hms : small { n with dat := n.dat.map (dull1 c) } := ⟨hs.1,hs.2.1,by show (n.dat.map _).length ≤ _;rw [List.length_map];exact hs.2.2.1,fun q hq => by
    obtain ⟨p,hp,rfl⟩ := List.mem_map.1 hq
    show (List.replicate p.dat.length c).length ≤ _
    rw [List.length_replicate];exact hs.2.2.2 p hp⟩
  have cb2 := rbare_L { n with dat := n.dat.map (dull1 c) } hms
  rw [bare_same (dull_shape c n.dat)] at cb2
  have cs := rsameNode_L (bareN n) (bareN n) (small_okLen hbs) (small_okLen hbs)
  rw [decide_eq_true rfl] at cs
  obtain ⟨y1,y2,y3,y4⟩ := bare_may hy
  have cy := recmay_L ⟨[113],0,bareN n,0⟩ (by show 1 < 1000000;omega) hbs
  rw [y1] at cy
  generalize bareN n = x at *
  have hml : (n.dat.map (dull1 c)).length = n.dat.length := List.length_map _
  simp only [recL,nodeL,attrsL,acesL,piecesL,rowL,List.cons_append,List.nil_append,hml] at cb cb2 cs cy b2
  simp only [nodeC] at b5
  refine Yr1 (fa2 @e2 @b2) ?_;intro K hK
  refine Yc0 (cb) ?_
  refine hK _ ?_;clear hK K;try refine Wh0 ?_
  rcases htok with rfl | rfl
  all_goals
    refine Yn1 (fa5 @e2 @b2 @e5 @b5 @hmd) ?_;intro K hK
    refine Yc1 (t0) (fa4 @e2 @b2 @e5 @b5) ?_
    refine Yc1 (cb2) (fa4 @e2 @b2 @e5 @b5) ?_
    refine Yc1 (cs) (fa5 @e2 @b2 @e5 @b5 @y2) ?_
    refine Yc1 (cy) (fa7 @e2 @b2 @e5 @b5 @y2 @y3 @y4) ?_
    refine hK _ ?_;clear hK K;try refine Wh0 ?_
    refine Ye0 ?_;try (with_reducible exact trivial)
end Go.Proofs.YteamlijbkldlhaaGreatDoor
