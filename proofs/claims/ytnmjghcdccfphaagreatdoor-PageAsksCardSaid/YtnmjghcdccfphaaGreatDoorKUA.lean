import Derived.Test.YtnmjghcdccfphaaGreatDoorKU8
import Derived.Test.YtnmjghcdccfphaaGreatDoorL25
section
set_option linter.unusedSimpArgs false
set_option linter.unusedVariables false
namespace Go.Proofs.YtnmjghcdccfphaaGreatDoor
open Nat renaming reduceAdd → zz1,reduceMul → zz2,reduceSub → zz3,reduceLT → zz4,reduceLeDiff → zz5,reduceEqDiff → zz6,reduceBEq → zzf
open Int renaming reduceAdd → zz7,reduceSub → zz8,reduceMul → zz9,reduceLT → zza,reduceLE → zzb,reduceEq → zzc,reduceNeg → zzd,reduceToNat → zze
open Op renaming operands → zo
open Call renaming operands → zc
open Go.RowKit Go.Proofs AclSpec MetaSpec NodeSpec RecSpec

theorem rep_rep (c : UInt8) : ∀ n : Nat,Lib.repeatL [c] n = List.replicate n c
 | 0 => rfl
 | n + 1 => by rw [Lib.repeatL,rep_rep c n];rfl
theorem rep_L (n : Nat) (h1 : 1 ≤ n) (h2 : n ≤ 1000000) : LCalls Tryz.prog 83 [strL [120],intL n] (strL (List.replicate n 120)) := by
 refine LCalls.lit_of (enters_of Tryz.func83 (by kernel_rfl) rfl) fun w S vs _ hs hr => ?_
 obtain ⟨a,b,rfl⟩ := args2 hs
 have e0 := (hr 0 _ a rfl rfl).inv_lit
 have e1 := (hr 1 _ b rfl rfl).inv_lit
 subst e0;subst e1
 by_cases h : n = 1
 ·subst h
  refine (Tryz.strings_Repeat_one ⟨#[120]⟩ w).mono ?_
  rintro e w' ⟨rfl,rfl⟩
  exact ⟨rfl,G.refl _⟩
 ·refine (Tryz.strings_Repeat_main ⟨#[120]⟩ n w (by omega) (by omega) (by show 1 * n ≤ _;omega) (by decide)).mono ?_
  rintro e w' ⟨rfl,hb⟩
  refine ⟨?_,hb⟩
  rw [← rep_rep]
set_option maxRecDepth 100000 in
theorem clonePiece_O (l : List Piece) (hl : l.length ≤ 1000000) : OCalls Tryz.prog 82 [piecesL l] ⟨[],[],[]⟩ (piecesL l) ⟨[],[],[]⟩ := by
 have a1 := pieceL_strip l
 have a2 := pieceL_one l
 have a3 := pieceL_flen l
 refine OCalls.of (fun d => d == 5) Tryz.func82 rfl (by decide) Tryz.ntmps82 Tryz.results82 (by simp) ?_
 intro w0 S0 vs
 refine Yg1 (fa2 @piecesL.eq_1 @rowL.eq_1) ?_
 (repeat (first | refine LW_seq ?_ | (refine LW_skip ?_;simp only [LSj,reduceIte,zze]) | refine LW_block ?_));refine LW_mid 1 rfl rfl ?_;intro K hK;simp only [LZ,zo,zc,reduceCtorEq,reduceIte,zz1,zz2,zz3,zz4,zz5,zz6,zz7,zz8,zz9,zza,zzb,zzc,zzd,zze,zzf,piecesL,rowL];refine hK _ ?_;clear hK K
 refine nilq_mid (e := 90) Tryz.underlying52 rfl (by decide) fun b hb => ?_
 intro K hK
 simp only [LZ,zo,zc,reduceCtorEq,reduceIte,zz1,zz2,zz3,zz4,zz5,zz6,zz7,zz8,zz9,zza,zzb,zzc,zzd,zze,zzf]
 refine hK _ ?_;clear hK K;try refine Wh0 ?_
 cases b
 ·refine Yf0 ?_
  refine Yr1 (fa3 @a1 @a2 @a3) ?_;intro K hK
  refine ⟨by (repeat' apply And.intro) <;> first | omega | (unfold maxLen;omega) | (intro _;omega) | decide,?_⟩
  refine hK _ ?_;clear hK K;try refine Wh0 ?_
  refine LW_ret ?_;simp only [thenL,jumpsL,inBlockL,twoL,bodyO];refine ⟨[],rfl,?_⟩;simp only [thenL,jumpsL,inBlockL,twoL,bodyQ,LV.lit.injEq,LV.tup.injEq,LV.agg.injEq,LV.sl.injEq,List.cons.injEq,Value.int.injEq,Value.bool.injEq,Value.string.injEq,ByteArray.mk.injEq,exists_eq_left',exists_eq_left,exists_eq_right,LZ,zo,zc,reduceCtorEq,reduceIte,zz1,zz2,zz3,zz4,zz5,zz6,zz7,zz8,zz9,zza,zzb,zzc,zzd,zze,zzf,piecesL,rowL]
 ·refine Yt0 ?_
  obtain ⟨hn,hc⟩ := hb rfl
  refine Yg0 ?_
  refine LW_plain 2 (n := 0) (cs := []) (t := .nil) Yq0 ?_
  refine LW_ret ?_;simp only [thenL,jumpsL,inBlockL,twoL,bodyO];refine ⟨[],rfl,?_⟩;simp only [thenL,jumpsL,inBlockL,twoL,bodyQ,LV.lit.injEq,LV.tup.injEq,LV.agg.injEq,LV.sl.injEq,List.cons.injEq,Value.int.injEq,Value.bool.injEq,Value.string.injEq,ByteArray.mk.injEq,exists_eq_left',exists_eq_left,exists_eq_right,LZ,zo,zc,reduceCtorEq,reduceIte,zz1,zz2,zz3,zz4,zz5,zz6,zz7,zz8,zz9,zza,zzb,zzc,zzd,zze,zzf,piecesL,rowL]
  rw [hn,hc];exact ⟨rfl,rfl⟩
theorem clonePiece_L (l : List Piece) (hl : l.length ≤ 1000000) : LCalls Tryz.prog 82 [piecesL l] (piecesL l) := (clonePiece_O l hl).toL
set_option maxRecDepth 100000 in
theorem clonePc_O (l : List Piece) (hl : l.length ≤ 1000000) (h0 : l.length ≠ 0) : OCalls Tryz.prog 82 [piecesL l] ⟨[],[],[]⟩ (.bsl 2000 l.length 90) ⟨[],[(2000,l.flatMap pieceL)],[]⟩ := by
 have a1 := pieceL_strip l
 have a2 := pieceL_one l
 have a3 := pieceL_flen l
 refine OCalls.of (fun d => d == 5 || d == 7) Tryz.func82 rfl (by decide) Tryz.ntmps82 Tryz.results82 (by simp) ?_
 intro w0 S0 vs
 refine Yg1 (fa2 @piecesL.eq_1 @rowL.eq_1) ?_
 (repeat (first | refine LW_seq ?_ | (refine LW_skip ?_;simp only [LSj,reduceIte,zze]) | refine LW_block ?_));refine LW_mid 1 rfl rfl ?_;intro K hK;simp only [LZ,zo,zc,reduceCtorEq,reduceIte,zz1,zz2,zz3,zz4,zz5,zz6,zz7,zz8,zz9,zza,zzb,zzc,zzd,zze,zzf,piecesL,rowL];refine hK _ ?_;clear hK K
 refine nilq_mid (e := 90) Tryz.underlying52 rfl (by decide) fun b hb => ?_
 intro K hK
 simp only [LZ,zo,zc,reduceCtorEq,reduceIte,zz1,zz2,zz3,zz4,zz5,zz6,zz7,zz8,zz9,zza,zzb,zzc,zzd,zze,zzf]
 refine hK _ ?_;clear hK K;try refine Wh0 ?_
 cases b
 ·refine Yf0 ?_
  refine Yr1 (fa4 @a1 @a2 @a3 @h0) ?_;intro K hK
  refine ⟨by (repeat' apply And.intro) <;> first | omega | (unfold maxLen;omega) | (intro _;omega) | decide,?_⟩
  refine hK _ ?_;clear hK K;try refine Wh0 ?_
  refine LW_ret ?_;simp only [thenL,jumpsL,inBlockL,twoL,bodyO];refine ⟨[(5,2000)],rfl,?_⟩;simp only [thenL,jumpsL,inBlockL,twoL,bodyQ,LV.lit.injEq,LV.tup.injEq,LV.agg.injEq,LV.sl.injEq,List.cons.injEq,Value.int.injEq,Value.bool.injEq,Value.string.injEq,ByteArray.mk.injEq,exists_eq_left',exists_eq_left,exists_eq_right,LZ,zo,zc,reduceCtorEq,reduceIte,zz1,zz2,zz3,zz4,zz5,zz6,zz7,zz8,zz9,zza,zzb,zzc,zzd,zze,zzf]
 ·exact absurd (hb rfl).1 h0
end Go.Proofs.YtnmjghcdccfphaaGreatDoor
end
section
set_option linter.unusedSimpArgs false
set_option linter.unusedVariables false
namespace Go.Proofs.YtnmjghcdccfphaaGreatDoor
open Nat renaming reduceAdd → zz1,reduceMul → zz2,reduceSub → zz3,reduceLT → zz4,reduceLeDiff → zz5,reduceEqDiff → zz6,reduceBEq → zzf
open Int renaming reduceAdd → zz7,reduceSub → zz8,reduceMul → zz9,reduceLT → zza,reduceLE → zzb,reduceEq → zzc,reduceNeg → zzd,reduceToNat → zze
open Op renaming operands → zo
open Call renaming operands → zc
open Go.RowKit Go.Proofs AclSpec MetaSpec NodeSpec RecSpec PathSpec

def zNode : List LV := [intL 0,intL 0,intL 0,intL 0,intL 0,.sl 0 [] .nil,.sl 0 [] .nil,intL 0,.sl 0 [] .nil,strL [],intL 0,intL 0]
def full1 (p : Piece) : Piece := ⟨p.pos,List.replicate (lenS p.dat) 120⟩
def nodeB (n : FNode) (k : Nat) (e : TypeId) : List LV := [intL n.kind,intL n.mt.mode,intL n.mt.uid,intL n.mt.gid,intL n.mt.time,.sl n.mt.attrs.length (n.mt.attrs.flatMap attrL) .no,.sl n.mt.acl.length (n.mt.acl.flatMap aceL) .no,intL n.size,.bsl k n.dat.length e,strL n.target,intL n.major,intL n.minor]
theorem piece_at {l : List Piece} {i : Nat} {p : Piece} (h : l[i]? = some p) : (l.flatMap pieceL).drop (i * 2 + 1) = strL p.dat :: (l.drop (i + 1)).flatMap pieceL := by
 have hd := congrArg (List.drop 1) (drop_piece h)
 rw [List.drop_drop] at hd
 exact hd
theorem fullP_drop {l : List Piece} {i : Nat} {p : Piece} (hp : l[i]? = some p) : fullP (l.drop i) = if lenS p.dat = 0 then none else (fullP (l.drop (i + 1))).map (full1 p :: ·) := by
 obtain ⟨hi,rfl⟩ := List.getElem?_eq_some_iff.1 hp
 rw [List.drop_eq_getElem_cons hi,fullP];rfl
set_option maxRecDepth 100000 in
set_option maxHeartbeats 4000000 in
theorem full_O (n : FNode) (h : small n) : OCalls Tryz.prog 70 [.agg (nodeL n)] ⟨[],[],[]⟩ (.tup [.agg (nodeL ((fullN n).getD zeroN)),boolL (fullN n).isSome]) ⟨[],[],[]⟩ := by
 refine OCalls.of (fun _ => false) Tryz.func70 rfl (by decide) Tryz.ntmps70 Tryz.results70 (by simp) ?_
 intro w0 S0 vs
 generalize hR : fullN n = R
 unfold fullN at hR
 refine Yg1 (fa4 @nodeL.eq_1 @piecesL.eq_1 @attrsL.eq_1 @acesL.eq_1) ?_
 by_cases k2 : n.kind = 2
 rotate_left
 ·rw [if_neg k2] at hR
  subst hR
  refine LW_scope_straight ?_
  refine Yg1 @k2 ?_
  refine Yt1 @k2 ?_
  refine Yg0 ?_
  refine LW_ret ?_;simp only [thenL,jumpsL,inBlockL,twoL,bodyO];refine ⟨[],rfl,?_⟩;simp only [thenL,jumpsL,inBlockL,twoL,bodyQ,LV.lit.injEq,LV.tup.injEq,LV.agg.injEq,LV.sl.injEq,List.cons.injEq,Value.int.injEq,Value.bool.injEq,Value.string.injEq,ByteArray.mk.injEq,exists_eq_left',exists_eq_left,exists_eq_right,LZ,zo,zc,reduceCtorEq,reduceIte,zz1,zz2,zz3,zz4,zz5,zz6,zz7,zz8,zz9,zza,zzb,zzc,zzd,zze,zzf,nodeL,piecesL,attrsL,acesL,rowL]
  rfl
 rw [if_pos k2] at hR
 have k2i : (n.kind = 2) = True := eq_true k2
 by_cases h16 : 16 < n.dat.length
 ·have h16i : ((16 : Int) < (n.dat.length : Int)) = True := eq_true (by omega)
  rw [if_pos h16] at hR
  subst hR
  refine LW_scope_straight ?_
  refine Yg1 @k2i ?_
  refine Yf1 @k2 ?_
  refine Yg0 ?_
  refine Yt1 @h16i ?_
  refine Yg0 ?_
  refine LW_ret ?_;simp only [thenL,jumpsL,inBlockL,twoL,bodyO];refine ⟨[],rfl,?_⟩;simp only [thenL,jumpsL,inBlockL,twoL,bodyQ,LV.lit.injEq,LV.tup.injEq,LV.agg.injEq,LV.sl.injEq,List.cons.injEq,Value.int.injEq,Value.bool.injEq,Value.string.injEq,ByteArray.mk.injEq,exists_eq_left',exists_eq_left,exists_eq_right,LZ,zo,zc,reduceCtorEq,reduceIte,zz1,zz2,zz3,zz4,zz5,zz6,zz7,zz8,zz9,zza,zzb,zzc,zzd,zze,zzf,nodeL,piecesL,attrsL,acesL,rowL,zeroN]
  exact ⟨⟨rfl,rfl,rfl⟩,rfl⟩
 have h16i : ¬ ((16 : Int) < (n.dat.length : Int)) := by omega
 rw [if_neg h16] at hR
 by_cases h0 : n.dat.length = 0
 ·have cc := clonePiece_L n.dat h.2.2.1
  have hnil := List.eq_nil_of_length_eq_zero h0
  simp only [piecesL,rowL] at cc
  rw [hnil,fullP,Option.map_some] at hR
  refine LW_scope_straight ?_
  refine Yg1 @k2i ?_
  refine Yf1 @k2 ?_
  refine Yg0 ?_
  refine Yf1 @h16i ?_
  refine Yr0 ?_;intro K hK
  refine Yc0 (cc) ?_
  refine hK _ ?_;clear hK K;try refine Wh0 ?_
  refine Yg0 ?_
  refine Yt1 @h0 ?_
  refine Yg0 ?_
  refine LW_ret ?_;simp only [thenL,jumpsL,inBlockL,twoL,bodyO];refine ⟨[],rfl,?_⟩;simp only [thenL,jumpsL,inBlockL,twoL,bodyQ,LV.lit.injEq,LV.tup.injEq,LV.agg.injEq,LV.sl.injEq,List.cons.injEq,Value.int.injEq,Value.bool.injEq,Value.string.injEq,ByteArray.mk.injEq,exists_eq_left',exists_eq_left,exists_eq_right,LZ,zo,zc,reduceCtorEq,reduceIte,zz1,zz2,zz3,zz4,zz5,zz6,zz7,zz8,zz9,zza,zzb,zzc,zzd,zze,zzf,nodeL,piecesL,attrsL,acesL,rowL]
  rw [← hR,← hnil]
  exact ⟨⟨rfl,rfl,rfl,rfl,rfl,⟨rfl,rfl⟩,⟨rfl,rfl⟩,rfl,⟨rfl,rfl⟩,rfl,rfl,rfl⟩,rfl⟩
 have cc := clonePc_O n.dat h.2.2.1 h0
 simp only [piecesL,rowL] at cc
 refine LW_lab1 (fun m st => ∃ i : Nat,m + i = n.dat.length ∧ (fullP n.dat = (fullP (n.dat.drop i)).map ((n.dat.take i).map full1 ++ ·)) ∧ st.env 1 = .ptr 1 0 ∧ st.box 1 = some (nodeB n 1000 90) ∧ st.arr 1000 = some (((n.dat.take i).map full1 ++ n.dat.drop i).flatMap pieceL) ∧ st.env 2 = .ptr 2 0 ∧ st.box 2 = some zNode ∧ st.env 4 = intL i ∧ st.mode = fun _ => false) rfl ?_ ?_
 ·intro hJ
  refine Yg1 @k2i ?_
  refine Yf1 @k2 ?_
  refine Yg0 ?_
  refine Yf1 @h16i ?_
  (repeat (first | refine LW_seq ?_ | (refine LW_skip ?_;simp only [LSj,reduceIte,zze]) | refine LW_block ?_));refine LW_regionO [(17,⟨_,_,_,_,_,[],[(2000,1000)],_,[],(cc).toS,rfl,rfl,rfl⟩)] ?_;intro K hK;simp only [LZ,zo,zc,reduceCtorEq,reduceIte,zz1,zz2,zz3,zz4,zz5,zz6,zz7,zz8,zz9,zza,zzb,zzc,zzd,zze,zzf]
  refine hK _ ?_;clear hK K;try refine Wh0 ?_
  refine Yl0 ?_
  exact hJ.out n.dat.length _ ⟨0,by omega,by simp,Yq0,(Yq1 @nodeB.eq_1),Yq0,Yq0,(Yq1 @zNode.eq_1),Yq0,Yq0⟩
 ·rintro m st ⟨i,hm,hf,e1,b1,a,e2,b2,e4,hmd⟩
  simp only [nodeB] at b1
  simp only [zNode] at b2
  by_cases hlt : i < n.dat.length
  rotate_left
  ·have hei : ((i : Int) = (n.dat.length : Int)) = True := eq_true (by omega)
   have hil : i = n.dat.length := by omega
   rw [List.drop_of_length_le (by omega),List.take_of_length_le (by omega)] at hf a
   rw [List.append_nil] at a
   rw [fullP,Option.map_some,List.append_nil] at hf
   rw [hf,Option.map_some] at hR
   subst hR
   have hsf : sizeL Tryz.prog 90 = 2 := by kernel_rfl
   have hfl : ((n.dat.map full1).flatMap pieceL).length = n.dat.length * 2 := by rw [pieceL_flen,List.length_map]
   refine Yg1 (fa4 @e4 @e1 @b1 @hei) ?_
   refine Yt0 ?_
   refine Yg1 (fa4 @e1 @b1 @e2 @b2) ?_
   refine LW_pub [(1000,(n.dat.map full1).flatMap pieceL)] ⟨(Yq1 @a),trivial⟩ ?_
   refine LW_ret ?_;simp only [thenL,jumpsL,inBlockL,twoL,bodyO];refine ⟨[],rfl,?_⟩;simp only [thenL,jumpsL,inBlockL,twoL,bodyQ,LV.lit.injEq,LV.tup.injEq,LV.agg.injEq,LV.sl.injEq,List.cons.injEq,Value.int.injEq,Value.bool.injEq,Value.string.injEq,ByteArray.mk.injEq,exists_eq_left',exists_eq_left,exists_eq_right,LZ,zo,zc,reduceCtorEq,reduceIte,zz1,zz2,zz3,zz4,zz5,zz6,zz7,zz8,zz9,zza,zzb,zzc,zzd,zze,zzf,nodeL,piecesL,attrsL,acesL,rowL,e1,b1,e2,b2,hsf,hfl]
   rfl
  obtain ⟨p,hp⟩ := get_of_lt hlt
  have hei : ¬ ((i : Int) = (n.dat.length : Int)) := by omega
  have hip : (0 : Int) ≤ (i : Int) := by omega
  have hw := w64s (n := i) (by omega)
  have hpl := h.2.2.2 p (List.mem_of_getElem? hp)
  have cl := rlen_L p.dat hpl
  have hg := upd_get (f := full1) hp
  have hg1 := piece_at hg
  rw [fullP_drop hp] at hf
  refine Yg1 (fa4 @e4 @e1 @b1 @hei) ?_
  refine Yf0 ?_
  refine Yr1 (fa7 @e4 @e1 @b1 @a @hg1 @hip @hlt) ?_;intro K hK
  refine Yc1 (cl) (fa7 @e4 @e1 @b1 @a @hg1 @hip @hlt) ?_
  refine hK _ ?_;clear hK K;try refine Wh0 ?_
  by_cases hz : lenS p.dat = 0
  ·have hzi : ((lenS p.dat : Int) = 0) = True := eq_true (by omega)
   rw [if_pos hz,Option.map_none] at hf
   rw [hf,Option.map_none] at hR
   subst hR
   refine Yg1 @hzi ?_
   refine Yt0 ?_
   refine Yg1 (fa2 @e2 @b2) ?_
   refine LW_ret ?_;simp only [thenL,jumpsL,inBlockL,twoL,bodyO];refine ⟨[],rfl,?_⟩;simp only [thenL,jumpsL,inBlockL,twoL,bodyQ,LV.lit.injEq,LV.tup.injEq,LV.agg.injEq,LV.sl.injEq,List.cons.injEq,Value.int.injEq,Value.bool.injEq,Value.string.injEq,ByteArray.mk.injEq,exists_eq_left',exists_eq_left,exists_eq_right,LZ,zo,zc,reduceCtorEq,reduceIte,zz1,zz2,zz3,zz4,zz5,zz6,zz7,zz8,zz9,zza,zzb,zzc,zzd,zze,zzf,nodeL,piecesL,attrsL,acesL,rowL,zeroN,e2]
   exact ⟨⟨rfl,rfl,rfl⟩,rfl⟩
  have hzi : ¬ ((lenS p.dat : Int) = 0) := by omega
  have hle := (ito_lenS hz).2
  have cr := (rep_L (lenS p.dat) (by omega) (by omega)).toO
  simp only [strip,strip2,strip1,strL,intL] at cr
  rw [if_neg hz] at hf
  have hfs := flat_set (enc := pieceL) (k := 2) pieceL_len (y := strL (List.replicate (lenS p.dat) 120)) (o := 1) (a := p) (a' := full1 p) (by decide) rfl hg
  rw [upd_step (f := full1) hp] at hfs
  have hlen : (((n.dat.take i).map full1 ++ n.dat.drop i).flatMap pieceL).length = n.dat.length * 2 := by rw [pieceL_flen,upd_len]
  refine Yg1 @hzi ?_
  refine Yf0 ?_
  (repeat (first | refine LW_seq ?_ | (refine LW_skip ?_;simp only [LSj,reduceIte,zze]) | refine LW_block ?_));refine LW_mix2 [(39,⟨_,_,_,_,_,[],[],_,[],(cr).toS,rfl,rfl,rfl⟩)] [39] (fun _ => false) [(0,[1,1000]),(1,[1,1000]),(2,[]),(3,[]),(4,[1,1000])] [0,1,2,3] [[4,5,6,7]] rfl (by kernel_rfl) (by kernel_rfl) (by kernel_rfl) (by first | exact rfl | exact hmd | simp only [LZ,zo,zc,reduceCtorEq,reduceIte,zz1,zz2,zz3,zz4,zz5,zz6,zz7,zz8,zz9,zza,zzb,zzc,zzd,zze,zzf,e1,b1,e4,a,hmd,hip,hlt,hlen]) ?_;intro K hK;simp only [LZ,zo,zc,reduceCtorEq,reduceIte,zz1,zz2,zz3,zz4,zz5,zz6,zz7,zz8,zz9,zza,zzb,zzc,zzd,zze,zzf,e1,b1,e4,a,hmd,hip,hlt,hlen]
  refine ⟨by omega,?_⟩
  refine hK _ ?_;clear hK K;try refine Wh0 ?_
  refine Yg1 (fa2 @e4 @hw) ?_
  refine LW_goto ?_;simp only [thenL,jumpsL,inBlockL,twoL,true_and]
  simp only [strL] at hfs
  refine ⟨m - 1,by omega,i + 1,by omega,?_,(Yq1 @e1),(Yq1 (fa2 @b1 @nodeB.eq_1)),?_,(Yq1 @e2),(Yq1 (fa2 @b2 @zNode.eq_1)),(Yq1 @hw),(Yq1 @hmd)⟩
  ·rw [hf,Option.map_map]
   congr 1
   funext l
   obtain ⟨hi,rfl⟩ := List.getElem?_eq_some_iff.1 hp
   rw [List.take_succ_eq_append_getElem hi,List.map_append]
   simp
  ·simp only [LZ,zo,zc,reduceCtorEq,reduceIte,zz1,zz2,zz3,zz4,zz5,zz6,zz7,zz8,zz9,zza,zzb,zzc,zzd,zze,zzf]
   rw [List.append_assoc]
   exact hfs
theorem full_L (n : FNode) (h : small n) : LCalls Tryz.prog 70 [.agg (nodeL n)] (.tup [.agg (nodeL ((fullN n).getD zeroN)),boolL (fullN n).isSome]) := (full_O n h).toL
theorem fullP_small : ∀ {l m : List Piece},fullP l = some m → m.length = l.length ∧ ∀ q ∈ m,q.dat.length ≤ 4000
 | [],m,h => by cases h;exact ⟨rfl,fun q hq => by cases hq⟩
 | p :: l,m,h => by
  unfold fullP at h
  split at h
  ·cases h
  ·rename_i hp
   obtain ⟨m',hm,rfl⟩ := Option.map_eq_some_iff.1 h
   obtain ⟨i1,i2⟩ := fullP_small hm
   refine ⟨by rw [List.length_cons,List.length_cons,i1],fun q hq => ?_⟩
   rcases List.mem_cons.1 hq with rfl | hq
   ·rw [List.length_replicate];exact (ito_lenS hp).2
   ·exact i2 q hq
theorem fullN_small {n m : FNode} (h : small n) (hm : fullN n = some m) : small m := by
 unfold fullN at hm
 split at hm
 ·split at hm
  ·cases hm
  ·obtain ⟨l,hl,rfl⟩ := Option.map_eq_some_iff.1 hm
   obtain ⟨i1,i2⟩ := fullP_small hl
   exact ⟨h.1,h.2.1,by rw [i1];exact h.2.2.1,fun p hp => Nat.le_trans (i2 p hp) (by omega)⟩
 ·cases hm;exact h
theorem small_okLen {n : FNode} (h : small n) : okLen n := ⟨by have := h.1;unfold maxLen;omega,by have := h.2.1;unfold maxLen;omega,by have := h.2.2.1;unfold maxLen;omega⟩
theorem recmay_L (r : Rec) (hp : r.path.length < 1000000) (h : small r.node) : LCalls Tryz.prog 53 [.agg (recL r)] (boolL (mayRec r)) :=
 rmay_of r hp (small_okLen h) (fun n hn => fullN_small h hn) (full_L r.node h)
end Go.Proofs.YtnmjghcdccfphaaGreatDoor
end
