import Derived.Test.YtbffcndmcaeamaaDoorKMB
import Derived.Test.YtbffcndmcaeamaaDoorKE3
import Derived.Test.YtbffcndmcaeamaaDoorNRead
import Derived.Test.YtbffcndmcaeamaaDoorL26
import Derived.Test.YtbffcndmcaeamaaDoorShelf
import Derived.Lib.IndexAny
section
set_option linter.unusedSimpArgs false
set_option linter.unusedVariables false
namespace Go.Proofs.YtbffcndmcaeamaaDoor
open Nat renaming reduceAdd → zz1,reduceMul → zz2,reduceSub → zz3,reduceLT → zz4,reduceLeDiff → zz5,reduceEqDiff → zz6,reduceBEq → zzf
open Int renaming reduceAdd → zz7,reduceSub → zz8,reduceMul → zz9,reduceLT → zza,reduceLE → zzb,reduceEq → zzc,reduceNeg → zzd,reduceToNat → zze
open Op renaming operands → zo
open Call renaming operands → zc
open Go.RowKit Go.Proofs AclSpec MetaSpec NodeSpec GSort Flo Ext

def pieceL (p : Piece) : List LV := [intL p.pos,strL p.dat]
theorem pieceL_len (p : Piece) : (pieceL p).length = 2 := rfl
def piecesL (l : List Piece) : LV := rowL pieceL l
def nodeL (n : FNode) : List LV := [intL n.kind,intL n.mt.mode,intL n.mt.uid,intL n.mt.gid,intL n.mt.time,attrsL n.mt.attrs,acesL n.mt.acl,intL n.size,piecesL n.dat,strL n.target,intL n.major,intL n.minor]
theorem drop_piece {l : List Piece} {i : Nat} {a : Piece} (h : l[i]? = some a) : (l.flatMap pieceL).drop (i * 2) = intL a.pos :: strL a.dat :: (l.drop (i + 1)).flatMap pieceL := drop_flat pieceL 2 pieceL_len h
theorem pieceL_strip (l : List Piece) : (l.flatMap pieceL).map strip1 = l.flatMap pieceL := strip1_enc (fun _ => rfl) l
theorem pieceL_one (l : List Piece) : (l.flatMap pieceL).all oneL = true := by
  rw [List.all_flatMap,List.all_eq_true];intro x _;rfl
theorem pieceL_flen (l : List Piece) : (l.flatMap pieceL).length = l.length * 2 := len_flat pieceL 2 pieceL_len l

set_option maxRecDepth 100000 in
theorem nbytes_L (n : FNode) (h : small n) : LCalls Tryd.prog 66 [.agg (nodeL n)] (intL (bytesN n)) := by
  have hl := h.2.2.1
  have hb := bytesP_le h.2.2.2
  refine LCalls.of (fun _ => false) Tryd.func66 rfl (by decide) Tryd.ntmps66 Tryd.results66 (by simp) ?_
  intro w0 S0 vs hgl hwf0 hsz hvs;clear hsz hvs hwf0 hgl
  refine Yg1 (fa2 @nodeL.eq_1 @piecesL.eq_1) ?_
  refine LW_loop (fun k st => ∃ i : Nat,k + i = n.dat.length ∧ st.env 3 = intL (bytesP (n.dat.take i)) ∧ st.env 7 = piecesL n.dat ∧ st.env 8 = intL n.dat.length ∧ st.env 9 = intL i) n.dat.length ⟨0,by omega,rfl,rfl,rfl,rfl⟩ ?_
  rintro k st ⟨i,hk,e3,e7,e8,e9⟩
  refine Yg1 (fa2 @e8 @e9) ?_
  by_cases hlt : i < n.dat.length
  · obtain ⟨p,hp⟩ := get_of_lt hlt
    have hd := drop_piece hp
    have hw := w64s (n := i) (by omega)
    have ht := bytesP_take hp
    have hm := bytesP_mono (l := n.dat) (i + 1)
    have hs : IntKind.i64.wrap (((bytesP (n.dat.take i) : Nat) : Int) + p.dat.length) = ((bytesP (n.dat.take (i + 1)) : Nat) : Int) := by rw [w64 (by omega),ht];simp
    refine Yt1 @hlt ?_
    refine Yg1 (fa9 @e3 @e7 @e8 @e9 @piecesL.eq_1 @hlt @hd @hs @hw) ?_
    exact ⟨k - 1,by omega,i + 1,by omega,Yq0,(Yq1 @e7),(Yq1 @e8),Yq0⟩
  · refine Yf1 @hlt ?_
    refine LW_exit ?_;simp only [thenL,jumpsL,inBlockL,twoL,reduceIte,Nat.reduceEqDiff]
    refine Yg1 @e3 ?_
    refine Ye0 ?_;try (with_reducible exact trivial)
    rw [List.take_of_length_le (by omega)];rfl

theorem extN_take {l : List Piece} {i : Nat} {p : Piece} (h : l[i]? = some p) : (l.take (i + 1)).map (fun p => ((limN p.pos,limN p.dat.length) : E)) = (l.take i).map (fun p => ((limN p.pos,limN p.dat.length) : E)) ++ [(limN p.pos,limN p.dat.length)] := by
  obtain ⟨hi,rfl⟩ := List.getElem?_eq_some_iff.1 h
  rw [List.take_succ_eq_append_getElem hi,List.map_append];rfl

theorem ceV (z : Nat × Nat) : cellsL (.lit (eV z)) = some [.lit (eV z)] := rfl
theorem oeV (z : Nat × Nat) : oneL (.lit (eV z)) = true := rfl

set_option maxRecDepth 100000 in
theorem nextents_O (n : FNode) (h : small n) : OCalls Tryd.prog 68 [.agg (nodeL n)] ⟨[],[],[]⟩ (.sl (extN n).length ((extN n).flatMap eE) (.row 2000)) ⟨[(2000,(96,(extN n).length))],[],[]⟩ := by
  have hl := h.2.2.1
  refine OCalls.of (fun _ => false) Tryd.func68 rfl (by decide) Tryd.ntmps68 Tryd.results68 (by simp) ?_
  intro w0 S0 vs
  refine Yg1 (fa2 @nodeL.eq_1 @piecesL.eq_1) ?_
  refine LW_nil (k := 3) (q := 1000) (e := 96) rfl ?_
  refine LW_loop (fun k st => ∃ i : Nat,k + i = n.dat.length ∧ st.env 3 = .sl i (((n.dat.take i).map fun p => ((limN p.pos,limN p.dat.length) : E)).flatMap eE) (.row 1000) ∧ st.row 1000 = some (96,i) ∧ st.env 7 = piecesL n.dat ∧ st.env 8 = intL n.dat.length ∧ st.env 9 = intL i ∧ st.mode = fun _ => false) n.dat.length ⟨0,by omega,rfl,rfl,rfl,rfl,rfl,rfl⟩ ?_
  rintro k st ⟨i,hk,e3,r3,e7,e8,e9,hmd⟩
  refine Yg1 (fa2 @e8 @e9) ?_
  by_cases hlt : i < n.dat.length
  · obtain ⟨p,hp⟩ := get_of_lt hlt
    have hd := drop_piece hp
    have hw := w64s (n := i) (by omega)
    have ht := extN_take hp
    have co : LCalls Tryd.prog 80 [intL p.pos,intL p.dat.length] (.lit (eV (limN p.pos,limN p.dat.length))) := of_L p.pos p.dat.length
    have hfl : (((n.dat.take i).map fun p => ((limN p.pos,limN p.dat.length) : E)).flatMap eE).length = i * 1 := by
      rw [len_flat eE 1 eE_len,List.length_map,List.length_take,Nat.min_eq_left (by omega)]
    refine Yt1 @hlt ?_
    refine Yr1 (fa5 @e7 @e9 @piecesL.eq_1 @hlt @hd) ?_;intro K hK
    refine hK _ ?_;clear hK K;try refine Wh0 ?_
    refine Yr1 (fa4 @e3 @r3 @hfl @hmd) ?_;intro K hK
    refine Yc1 (co) (fa6 @e3 @r3 @hfl @hmd @ceV @oeV) ?_
    refine ⟨by (repeat' apply And.intro) <;> first | omega | (unfold maxLen;omega) | rfl,?_⟩
    refine hK _ ?_;clear hK K;try refine Wh0 ?_
    refine Yg1 (fa2 @e9 @hw) ?_
    refine ⟨k - 1,by omega,i + 1,by omega,?_,Yq0,(Yq1 @e7),(Yq1 @e8),Yq0,(Yq1 @hmd)⟩
    simp only [LZ,zo,zc,reduceCtorEq,reduceIte,zz1,zz2,zz3,zz4,zz5,zz6,zz7,zz8,zz9,zza,zzb,zzc,zzd,zze,zzf,e3,ht,List.flatMap_append,List.flatMap_cons,List.flatMap_nil,eE]
  · refine Yf1 @hlt ?_
    refine LW_exit ?_;simp only [thenL,jumpsL,inBlockL,twoL,reduceIte,Nat.reduceEqDiff]
    have hi : i = n.dat.length := by omega
    subst hi
    rw [List.take_length] at e3
    have hle : (extN n).length = n.dat.length := by unfold extN;rw [List.length_map]
    refine Yg1 @e3 ?_
    refine LW_ret ?_;simp only [thenL,jumpsL,inBlockL,twoL,bodyO];refine ⟨[(1000,2000)],rfl,?_⟩;simp only [thenL,jumpsL,inBlockL,twoL,bodyQ,LV.lit.injEq,LV.tup.injEq,LV.agg.injEq,LV.sl.injEq,List.cons.injEq,Value.int.injEq,Value.bool.injEq,Value.string.injEq,ByteArray.mk.injEq,exists_eq_left',exists_eq_left,exists_eq_right,LZ,zo,zc,reduceCtorEq,reduceIte,zz1,zz2,zz3,zz4,zz5,zz6,zz7,zz8,zz9,zza,zzb,zzc,zzd,zze,zzf,e3,r3,hle]
    rfl
end Go.Proofs.YtbffcndmcaeamaaDoor
end
section
set_option linter.unusedSimpArgs false
set_option linter.unusedVariables false
namespace Go.Proofs.YtbffcndmcaeamaaDoor
open Go.RowKit Go.Proofs AclSpec MetaSpec NodeSpec GSort Flo Ext

theorem nextents_L (n : FNode) (h : small n) : LCalls Tryd.prog 68 [.agg (nodeL n)] (eL (extN n)) := (nextents_O n h).toL

def okLen (n : FNode) : Prop := n.mt.attrs.length ≤ maxLen ∧ n.mt.acl.length ≤ maxLen ∧ n.dat.length ≤ maxLen
theorem small.len {n : FNode} (h : small n) : okLen n := by
  obtain ⟨h1,h2,h3,_⟩ := h
  unfold okLen maxLen
  omega
end Go.Proofs.YtbffcndmcaeamaaDoor
end
section
set_option linter.unusedSimpArgs false
set_option linter.unusedVariables false
namespace Go.Proofs.YtbffcndmcaeamaaDoor
open Nat renaming reduceAdd → zz1,reduceMul → zz2,reduceSub → zz3,reduceLT → zz4,reduceLeDiff → zz5,reduceEqDiff → zz6,reduceBEq → zzf
open Int renaming reduceAdd → zz7,reduceSub → zz8,reduceMul → zz9,reduceLT → zza,reduceLE → zzb,reduceEq → zzc,reduceNeg → zzd,reduceToNat → zze
open Op renaming operands → zo
open Call renaming operands → zc
open Go.RowKit Go.Proofs AclSpec MetaSpec NodeSpec GSort Flo Ext

theorem extN_ok (n : FNode) : ∀ z ∈ extN n,okE z := by
  intro z hz
  unfold extN at hz
  obtain ⟨p,_,rfl⟩ := List.mem_map.1 hz
  exact ⟨limI_le _,limI_le _⟩
theorem extN_len (n : FNode) : (extN n).length = n.dat.length := by unfold extN;rw [List.length_map]
theorem okPiece_take {l : List Piece} {i : Nat} {p : Piece} (h : l[i]? = some p) (ht : (l.take i).all okPiece = true) (hp : okPiece p = true) : (l.take (i + 1)).all okPiece = true := by
  obtain ⟨hi,rfl⟩ := List.getElem?_eq_some_iff.1 h
  rw [List.take_succ_eq_append_getElem hi,List.all_append,ht];simp [hp]

set_option maxRecDepth 100000 in
set_option maxHeartbeats 2000000 in
theorem nmayFile_L (n : FNode) (h : small n) : LCalls Tryd.prog 52 [.agg (nodeL n)] (boolL (mayFileN n)) := by
  have hl := h.2.2.1
  have cb := nbytes_L n h
  have ce := nextents_L n h
  have cm := emay_L (extN n) (extN_ok n) (by rw [extN_len];exact hl) n.size
  simp only [nodeL,attrsL,acesL,piecesL] at cb ce
  refine LCalls.of (fun _ => false) Tryd.func52 rfl (by decide) Tryd.ntmps52 Tryd.results52 (by simp) ?_
  intro w0 S0 vs hgl hwf0 hsz hvs;clear hsz hvs hwf0 hgl
  generalize hR : mayFileN n = R
  unfold mayFileN at hR
  refine Yg1 (fa4 @nodeL.eq_1 @piecesL.eq_1 @attrsL.eq_1 @acesL.eq_1) ?_
  by_cases g1 : n.size < 0
  · refine Yg1 @g1 ?_
    refine Yt0 ?_
    refine Yg0 ?_
    refine Ye0 ?_;try (with_reducible exact trivial)
    rw [← hR];simp [g1]
  by_cases g2 : 1099511627776 < n.size
  · refine Yg1 (fa2 @g1 @g2) ?_
    refine Yt0 ?_
    refine Yg0 ?_
    refine Ye0 ?_;try (with_reducible exact trivial)
    rw [← hR];simp [g2]
  by_cases g3 : (16 : Int) < n.dat.length
  · have g3' : 16 < n.dat.length := by omega
    refine Yg1 (fa3 @g1 @g2 @g3) ?_
    refine Yt0 ?_
    refine Yg0 ?_
    refine Ye0 ?_;try (with_reducible exact trivial)
    rw [← hR];simp [g3']
  have g3' : ¬ 16 < n.dat.length := by omega
  rw [decide_eq_false g1,decide_eq_false g2,decide_eq_false g3',Bool.not_false,Bool.true_and,Bool.true_and,Bool.true_and] at hR
  refine Yg1 (fa3 @g1 @g2 @g3) ?_
  refine Yf0 ?_
  refine Yg0 ?_
  refine LW_joinB (fun st => st.env 1 = .ptr 1 0 ∧ st.box 1 = some (nodeL n) ∧ (st.mode = fun _ => false) ∧ n.dat.all okPiece = true) ?_ ?_
  · refine LW_loop (fun k st => ∃ i : Nat,k + i = n.dat.length ∧ st.env 1 = .ptr 1 0 ∧ st.box 1 = some (nodeL n) ∧ (st.mode = fun _ => false) ∧ st.env 20 = piecesL n.dat ∧ st.env 21 = intL n.dat.length ∧ st.env 22 = intL i ∧ (n.dat.take i).all okPiece = true) n.dat.length ⟨0,by omega,rfl,rfl,rfl,rfl,rfl,rfl,rfl⟩ ?_
    rintro k st ⟨i,hk,e1,b1,hmd,e20,e21,e22,hall⟩
    refine Yg1 (fa2 @e21 @e22) ?_
    by_cases hlt : i < n.dat.length
    · obtain ⟨p,hp⟩ := get_of_lt hlt
      have hd := drop_piece hp
      have hw := w64s (n := i) (by omega)
      refine Yt1 @hlt ?_
      have hbad : okPiece p = false → n.dat.all okPiece = false := fun hb => by rw [List.all_eq_false];exact ⟨p,List.mem_of_getElem? hp,by simp [hb]⟩
      by_cases k1 : p.dat = []
      · refine Yg1 (fa6 @e20 @e22 @piecesL.eq_1 @hlt @hd @k1) ?_
        refine Yt0 ?_
        refine Yg0 ?_
        refine Ye0 ?_;try (with_reducible exact trivial)
        rw [← hR,hbad (by unfold okPiece;simp [k1])];simp
      by_cases k2 : p.pos < 0
      · refine Yg1 (fa7 @e20 @e22 @piecesL.eq_1 @hlt @hd @k1 @k2) ?_
        refine Yt0 ?_
        refine Yg0 ?_
        refine Ye0 ?_;try (with_reducible exact trivial)
        rw [← hR,hbad (by unfold okPiece;simp [k2])];simp
      by_cases k3 : 1099511627776 < p.pos
      · refine Yg1 (fa8 @e20 @e22 @piecesL.eq_1 @hlt @hd @k1 @k2 @k3) ?_
        refine Yt0 ?_
        refine Yg0 ?_
        refine Ye0 ?_;try (with_reducible exact trivial)
        rw [← hR,hbad (by unfold okPiece;simp [k3])];simp
      refine Yg1 (fa8 @e20 @e22 @piecesL.eq_1 @hlt @hd @k1 @k2 @k3) ?_
      refine Yf0 ?_
      refine Yg1 (fa2 @e22 @hw) ?_
      refine ⟨k - 1,by omega,i + 1,by omega,(Yq1 @e1),?_,(Yq1 @hmd),(Yq1 @e20),(Yq1 @e21),Yq0,okPiece_take hp hall (by unfold okPiece;simp [k1,k2,k3])⟩
      simp only [LZ,zo,zc,reduceCtorEq,reduceIte,zz1,zz2,zz3,zz4,zz5,zz6,zz7,zz8,zz9,zza,zzb,zzc,zzd,zze,zzf,b1,nodeL,piecesL,attrsL,acesL]
    · refine Yf1 @hlt ?_
      refine LW_exit ?_;simp only [thenL,jumpsL,inBlockL,twoL,reduceIte,Nat.reduceEqDiff]
      rw [List.take_of_length_le (by omega)] at hall
      exact ⟨(Yq1 @e1),(Yq1 @b1),(Yq1 @hmd),hall⟩
  rintro st ⟨e1,b1,hmd,hall⟩
  rw [hall,Bool.true_and] at hR
  by_cases g4 : (bytesN n : Int) ≤ 4000
  · have g4' : bytesN n ≤ 4000 := by omega
    rw [decide_eq_true g4',Bool.true_and] at hR
    refine Yn1 (fa7 @e1 @b1 @nodeL.eq_1 @piecesL.eq_1 @attrsL.eq_1 @acesL.eq_1 @hmd) ?_;intro K hK
    refine Yc1 (cb) (fa7 @e1 @b1 @g4 @nodeL.eq_1 @piecesL.eq_1 @attrsL.eq_1 @acesL.eq_1) ?_
    refine Yc1 (ce) (fa6 @e1 @b1 @nodeL.eq_1 @piecesL.eq_1 @attrsL.eq_1 @acesL.eq_1) ?_
    refine Yc0 (cm) ?_
    refine hK _ ?_;clear hK K;try refine Wh0 ?_
    refine Ye0 ?_;try (with_reducible exact trivial)
    rw [hR]
  · have g4' : ¬ bytesN n ≤ 4000 := by omega
    rw [decide_eq_false g4',Bool.false_and] at hR
    refine Yn1 (fa7 @e1 @b1 @nodeL.eq_1 @piecesL.eq_1 @attrsL.eq_1 @acesL.eq_1 @hmd) ?_;intro K hK
    refine Yc1 (cb) (fa7 @e1 @b1 @g4 @nodeL.eq_1 @piecesL.eq_1 @attrsL.eq_1 @acesL.eq_1) ?_
    refine hK _ ?_;clear hK K;try refine Wh0 ?_
    refine Ye0 ?_;try (with_reducible exact trivial)
    rw [hR]

theorem index_neg (l : List UInt8) (c : UInt8) : decide (Lib.indexByte l c < 0) = !l.contains c := by
  rw [Lib.contains_iff_indexByte,← decide_not,decide_eq_decide];omega
theorem indexByte_L (l : List UInt8) : LCalls Tryd.prog 53 [strL l,.lit (.int .u8 0)] (intL (Lib.indexByte l 0)) := by
  refine LCalls.lit_of (enters_of Tryd.func53 (by kernel_rfl) rfl) fun w S vs _ hs hr => ?_
  obtain ⟨a,b,rfl⟩ : ∃ a b,vs = #[a,b] := by
    obtain ⟨vs⟩ := vs
    match vs,hs with
    | [a,b],_ => exact ⟨a,b,rfl⟩
  have h0 := (hr 0 _ a rfl rfl).inv_lit
  have h1 := (hr 1 _ b rfl rfl).inv_lit
  subst h0;subst h1
  refine (Tryd.strings_IndexByte ⟨l.toArray⟩ 0 w).mono fun e w' ⟨he,hw⟩ => ?_
  subst hw
  exact ⟨he,G.refl w'⟩
end Go.Proofs.YtbffcndmcaeamaaDoor
end
section
set_option linter.unusedSimpArgs false
set_option linter.unusedVariables false
namespace Go.Proofs.YtbffcndmcaeamaaDoor
open Go.RowKit Go.Proofs AclSpec MetaSpec NodeSpec GSort Flo Ext

set_option maxRecDepth 100000 in
set_option maxHeartbeats 4000000 in
theorem nmay_L (n : FNode) (h : small n) : LCalls Tryd.prog 42 [.agg (nodeL n)] (boolL (mayN n)) := by
  have ho := small.len h
  have cm := mmay_L n.mt ho.2.1
  have cf := nmayFile_L n h
  have ci := indexByte_L n.target
  have hin := index_neg n.target 0
  simp only [metaL,attrsL,acesL,rowL] at cm
  simp only [nodeL,attrsL,acesL,piecesL,rowL] at cf
  have hdl : decide (n.dat = []) = decide (n.dat.length = 0) := by simp
  have htl : decide (n.target = []) = decide (n.target.length = 0) := by simp
  refine LCalls.of (fun _ => false) Tryd.func42 rfl (by decide) Tryd.ntmps42 Tryd.results42 (by simp) ?_
  intro w0 S0 vs hgl hwf0 hsz hvs;clear hsz hvs hwf0 hgl
  generalize hR : mayN n = R
  unfold mayN noDev at hR
  refine Yg1 (fa4 @nodeL.eq_1 @piecesL.eq_1 @attrsL.eq_1 @acesL.eq_1) ?_
  by_cases g1 : n.kind < 1
  · refine Yr1 @g1 ?_;intro K hK
    refine hK _ ?_;clear hK K;try refine Wh0 ?_
    refine Yt0 ?_
    refine Yg0 ?_
    refine Ye0 ?_;try (with_reducible exact trivial)
    rw [← hR];simp [g1]
  by_cases g2 : 6 < n.kind
  · refine Yr1 (fa2 @g1 @g2) ?_;intro K hK
    refine hK _ ?_;clear hK K;try refine Wh0 ?_
    refine Yt0 ?_
    refine Yg0 ?_
    refine Ye0 ?_;try (with_reducible exact trivial)
    rw [← hR];simp [g2]
  cases g3 : mayM n.mt
  · rw [g3] at cm
    refine Yr1 (fa2 @g1 @g2) ?_;intro K hK
    refine Yc0 (cm) ?_
    refine hK _ ?_;clear hK K;try refine Wh0 ?_
    refine Yt0 ?_
    refine Yg0 ?_
    refine Ye0 ?_;try (with_reducible exact trivial)
    rw [← hR];simp [g3]
  rw [g3] at cm
  rw [decide_eq_false g1,decide_eq_false g2,g3,Bool.not_false,Bool.true_and,Bool.true_and] at hR
  refine Yr1 (fa2 @g1 @g2) ?_;intro K hK
  refine Yc0 (cm) ?_
  refine hK _ ?_;clear hK K;try refine Wh0 ?_
  refine Yf0 ?_
  have hk : n.kind = 1 ∨ n.kind = 2 ∨ n.kind = 3 ∨ n.kind = 4 ∨ n.kind = 5 ∨ n.kind = 6 := by omega
  clear g1 g2 g3 cm
  rw [Bool.true_and] at hR
  refine LW_slim (fun st => st.env 1 = .ptr 1 0 ∧ st.box 1 = some [intL n.kind,intL n.mt.mode,intL n.mt.uid,intL n.mt.gid,intL n.mt.time,.sl n.mt.attrs.length (n.mt.attrs.flatMap attrL) .no,.sl n.mt.acl.length (n.mt.acl.flatMap aceL) .no,intL n.size,.sl n.dat.length (n.dat.flatMap pieceL) .no,strL n.target,intL n.major,intL n.minor]) ⟨Yq0,Yq0⟩ ?_
  rintro st ⟨e1,b1⟩
  rcases hk with kd | kd | kd | kd | kd | kd
  · have hkk := kd
    by_cases s0 : n.size = 0
    rotate_left
    · refine Yg1 (fa4 @e1 @b1 @kd @s0) ?_
      refine Yt0 ?_
      refine Yg1 (fa2 @e1 @b1) ?_
      refine Ye0 ?_;try (with_reducible exact trivial)
      rw [← hR];simp [kd,s0]
    by_cases d0 : (n.dat.length : Int) = 0
    rotate_left
    · have d0' : ¬ n.dat = [] := fun h => d0 (by rw [h];rfl)
      refine Yg1 (fa5 @e1 @b1 @kd @s0 @d0) ?_
      refine Yt0 ?_
      refine Yg1 (fa2 @e1 @b1) ?_
      refine Ye0 ?_;try (with_reducible exact trivial)
      rw [← hR];simp [kd,s0,d0']
    have d0' : n.dat = [] := List.eq_nil_of_length_eq_zero (by omega)
    refine Yg1 (fa5 @e1 @b1 @kd @s0 @d0) ?_
    refine Yf0 ?_
    by_cases t0 : n.target = []
    rotate_left
    · refine Yg1 (fa4 @e1 @b1 @kd @t0) ?_
      refine Yt0 ?_
      refine Yg1 (fa2 @e1 @b1) ?_
      refine Ye0 ?_;try (with_reducible exact trivial)
      rw [← hR];simp [kd,s0,d0',t0]
    refine Yg1 (fa4 @e1 @b1 @kd @t0) ?_
    refine Yf0 ?_
    by_cases m0 : n.major = 0
    rotate_left
    · refine Yg1 (fa4 @e1 @b1 @kd @m0) ?_
      refine Yt0 ?_
      refine Yg1 (fa2 @e1 @b1) ?_
      refine Ye0 ?_;try (with_reducible exact trivial)
      rw [← hR];simp [kd,s0,d0',t0,m0]
    by_cases m1 : n.minor = 0
    rotate_left
    · refine Yg1 (fa5 @e1 @b1 @kd @m0 @m1) ?_
      refine Yt0 ?_
      refine Yg1 (fa2 @e1 @b1) ?_
      refine Ye0 ?_;try (with_reducible exact trivial)
      rw [← hR];simp [kd,s0,d0',t0,m0,m1]
    refine Yg1 (fa5 @e1 @b1 @kd @m0 @m1) ?_
    refine Yf0 ?_
    refine Yg1 (fa3 @e1 @b1 @kd) ?_
    refine Yf0 ?_
    refine Yg1 (fa3 @e1 @b1 @kd) ?_
    refine Yf0 ?_
    refine Yg1 (fa3 @e1 @b1 @kd) ?_
    refine Yf0 ?_
    refine Yg1 (fa2 @e1 @b1) ?_
    refine Ye0 ?_;try (with_reducible exact trivial)
    rw [← hR];simp [kd,s0,d0',t0,m0,m1]
  · have hkk := kd
    refine Yg1 (fa3 @e1 @b1 @kd) ?_
    refine Yf0 ?_
    by_cases t0 : n.target = []
    rotate_left
    · refine Yg1 (fa4 @e1 @b1 @kd @t0) ?_
      refine Yt0 ?_
      refine Yg1 (fa2 @e1 @b1) ?_
      refine Ye0 ?_;try (with_reducible exact trivial)
      rw [← hR];simp [kd,t0]
    refine Yg1 (fa4 @e1 @b1 @kd @t0) ?_
    refine Yf0 ?_
    by_cases m0 : n.major = 0
    rotate_left
    · refine Yg1 (fa4 @e1 @b1 @kd @m0) ?_
      refine Yt0 ?_
      refine Yg1 (fa2 @e1 @b1) ?_
      refine Ye0 ?_;try (with_reducible exact trivial)
      rw [← hR];simp [kd,t0,m0]
    by_cases m1 : n.minor = 0
    rotate_left
    · refine Yg1 (fa5 @e1 @b1 @kd @m0 @m1) ?_
      refine Yt0 ?_
      refine Yg1 (fa2 @e1 @b1) ?_
      refine Ye0 ?_;try (with_reducible exact trivial)
      rw [← hR];simp [kd,t0,m0,m1]
    refine Yg1 (fa5 @e1 @b1 @kd @m0 @m1) ?_
    refine Yf0 ?_
    refine Yg1 (fa3 @e1 @b1 @kd) ?_
    refine Yt0 ?_
    simp only [kd] at cf
    refine Yr1 (fa3 @e1 @b1 @kd) ?_;intro K hK
    refine Yc1 (cf) (fa3 @e1 @b1 @kd) ?_
    refine hK _ ?_;clear hK K;try refine Wh0 ?_
    refine Ye0 ?_;try (with_reducible exact trivial)
    rw [← hR];simp [kd,t0,m0,m1]
  · have hkk := kd
    by_cases s0 : n.size = 0
    rotate_left
    · refine Yg1 (fa4 @e1 @b1 @kd @s0) ?_
      refine Yt0 ?_
      refine Yg1 (fa2 @e1 @b1) ?_
      refine Ye0 ?_;try (with_reducible exact trivial)
      rw [← hR];simp [kd,s0]
    by_cases d0 : (n.dat.length : Int) = 0
    rotate_left
    · have d0' : ¬ n.dat = [] := fun h => d0 (by rw [h];rfl)
      refine Yg1 (fa5 @e1 @b1 @kd @s0 @d0) ?_
      refine Yt0 ?_
      refine Yg1 (fa2 @e1 @b1) ?_
      refine Ye0 ?_;try (with_reducible exact trivial)
      rw [← hR];simp [kd,s0,d0']
    have d0' : n.dat = [] := List.eq_nil_of_length_eq_zero (by omega)
    refine Yg1 (fa5 @e1 @b1 @kd @s0 @d0) ?_
    refine Yf0 ?_
    refine Yg1 (fa3 @e1 @b1 @kd) ?_
    refine Yf0 ?_
    by_cases m0 : n.major = 0
    rotate_left
    · refine Yg1 (fa4 @e1 @b1 @kd @m0) ?_
      refine Yt0 ?_
      refine Yg1 (fa2 @e1 @b1) ?_
      refine Ye0 ?_;try (with_reducible exact trivial)
      rw [← hR];simp [kd,s0,d0',m0]
    by_cases m1 : n.minor = 0
    rotate_left
    · refine Yg1 (fa5 @e1 @b1 @kd @m0 @m1) ?_
      refine Yt0 ?_
      refine Yg1 (fa2 @e1 @b1) ?_
      refine Ye0 ?_;try (with_reducible exact trivial)
      rw [← hR];simp [kd,s0,d0',m0,m1]
    refine Yg1 (fa5 @e1 @b1 @kd @m0 @m1) ?_
    refine Yf0 ?_
    refine Yg1 (fa3 @e1 @b1 @kd) ?_
    refine Yf0 ?_
    refine Yg1 (fa3 @e1 @b1 @kd) ?_
    refine Yt0 ?_
    by_cases l1 : (1 : Int) ≤ n.target.length
    rotate_left
    · have l1' : ¬ 1 ≤ n.target.length := by omega
      refine Yg1 (fa3 @e1 @b1 @l1) ?_
      refine Ye0 ?_;try (with_reducible exact trivial)
      rw [← hR];simp [kd,s0,d0',m0,m1,l1']
    have l1' : 1 ≤ n.target.length := by omega
    by_cases l2 : (n.target.length : Int) ≤ 200
    rotate_left
    · have l2' : ¬ n.target.length ≤ 200 := by omega
      refine Yg1 (fa4 @e1 @b1 @l1 @l2) ?_
      refine Ye0 ?_;try (with_reducible exact trivial)
      rw [← hR];simp [kd,s0,d0',m0,m1,l1',l2']
    have l2' : n.target.length ≤ 200 := by omega
    refine Yr1 (fa4 @e1 @b1 @l1 @l2) ?_;intro K hK
    refine Yc1 (ci) (fa5 @e1 @b1 @l1 @l2 @hin) ?_
    refine hK _ ?_;clear hK K;try refine Wh0 ?_
    refine Ye0 ?_;try (with_reducible exact trivial)
    rw [← hR];simp [kd,s0,d0',m0,m1,l1',l2']
  · have hkk := kd
    by_cases s0 : n.size = 0
    rotate_left
    · refine Yg1 (fa4 @e1 @b1 @kd @s0) ?_
      refine Yt0 ?_
      refine Yg1 (fa2 @e1 @b1) ?_
      refine Ye0 ?_;try (with_reducible exact trivial)
      rw [← hR];simp [kd,s0]
    by_cases d0 : (n.dat.length : Int) = 0
    rotate_left
    · have d0' : ¬ n.dat = [] := fun h => d0 (by rw [h];rfl)
      refine Yg1 (fa5 @e1 @b1 @kd @s0 @d0) ?_
      refine Yt0 ?_
      refine Yg1 (fa2 @e1 @b1) ?_
      refine Ye0 ?_;try (with_reducible exact trivial)
      rw [← hR];simp [kd,s0,d0']
    have d0' : n.dat = [] := List.eq_nil_of_length_eq_zero (by omega)
    refine Yg1 (fa5 @e1 @b1 @kd @s0 @d0) ?_
    refine Yf0 ?_
    by_cases t0 : n.target = []
    rotate_left
    · refine Yg1 (fa4 @e1 @b1 @kd @t0) ?_
      refine Yt0 ?_
      refine Yg1 (fa2 @e1 @b1) ?_
      refine Ye0 ?_;try (with_reducible exact trivial)
      rw [← hR];simp [kd,s0,d0',t0]
    refine Yg1 (fa4 @e1 @b1 @kd @t0) ?_
    refine Yf0 ?_
    refine Yg1 (fa3 @e1 @b1 @kd) ?_
    refine Yf0 ?_
    refine Yg1 (fa3 @e1 @b1 @kd) ?_
    refine Yf0 ?_
    refine Yg1 (fa3 @e1 @b1 @kd) ?_
    refine Yf0 ?_
    refine Yg1 (fa3 @e1 @b1 @kd) ?_
    refine Yt0 ?_
    by_cases a1 : 0 ≤ n.major
    rotate_left
    · refine Yg1 (fa3 @e1 @b1 @a1) ?_
      refine Ye0 ?_;try (with_reducible exact trivial)
      rw [← hR];simp [kd,s0,d0',t0,a1]
    by_cases a2 : n.major ≤ 65535
    rotate_left
    · refine Yg1 (fa4 @e1 @b1 @a1 @a2) ?_
      refine Ye0 ?_;try (with_reducible exact trivial)
      rw [← hR];simp [kd,s0,d0',t0,a1,a2]
    by_cases a3 : 0 ≤ n.minor
    rotate_left
    · refine Yg1 (fa5 @e1 @b1 @a1 @a2 @a3) ?_
      refine Ye0 ?_;try (with_reducible exact trivial)
      rw [← hR];simp [kd,s0,d0',t0,a1,a2,a3]
    refine Yg1 (fa5 @e1 @b1 @a1 @a2 @a3) ?_
    refine Ye0 ?_;try (with_reducible exact trivial)
    rw [← hR];simp [kd,s0,d0',t0,a1,a2,a3]
  · have hkk := kd
    by_cases s0 : n.size = 0
    rotate_left
    · refine Yg1 (fa4 @e1 @b1 @kd @s0) ?_
      refine Yt0 ?_
      refine Yg1 (fa2 @e1 @b1) ?_
      refine Ye0 ?_;try (with_reducible exact trivial)
      rw [← hR];simp [kd,s0]
    by_cases d0 : (n.dat.length : Int) = 0
    rotate_left
    · have d0' : ¬ n.dat = [] := fun h => d0 (by rw [h];rfl)
      refine Yg1 (fa5 @e1 @b1 @kd @s0 @d0) ?_
      refine Yt0 ?_
      refine Yg1 (fa2 @e1 @b1) ?_
      refine Ye0 ?_;try (with_reducible exact trivial)
      rw [← hR];simp [kd,s0,d0']
    have d0' : n.dat = [] := List.eq_nil_of_length_eq_zero (by omega)
    refine Yg1 (fa5 @e1 @b1 @kd @s0 @d0) ?_
    refine Yf0 ?_
    by_cases t0 : n.target = []
    rotate_left
    · refine Yg1 (fa4 @e1 @b1 @kd @t0) ?_
      refine Yt0 ?_
      refine Yg1 (fa2 @e1 @b1) ?_
      refine Ye0 ?_;try (with_reducible exact trivial)
      rw [← hR];simp [kd,s0,d0',t0]
    refine Yg1 (fa4 @e1 @b1 @kd @t0) ?_
    refine Yf0 ?_
    refine Yg1 (fa3 @e1 @b1 @kd) ?_
    refine Yf0 ?_
    refine Yg1 (fa3 @e1 @b1 @kd) ?_
    refine Yf0 ?_
    refine Yg1 (fa3 @e1 @b1 @kd) ?_
    refine Yf0 ?_
    refine Yg1 (fa3 @e1 @b1 @kd) ?_
    refine Yt0 ?_
    by_cases a1 : 0 ≤ n.major
    rotate_left
    · refine Yg1 (fa3 @e1 @b1 @a1) ?_
      refine Ye0 ?_;try (with_reducible exact trivial)
      rw [← hR];simp [kd,s0,d0',t0,a1]
    by_cases a2 : n.major ≤ 65535
    rotate_left
    · refine Yg1 (fa4 @e1 @b1 @a1 @a2) ?_
      refine Ye0 ?_;try (with_reducible exact trivial)
      rw [← hR];simp [kd,s0,d0',t0,a1,a2]
    by_cases a3 : 0 ≤ n.minor
    rotate_left
    · refine Yg1 (fa5 @e1 @b1 @a1 @a2 @a3) ?_
      refine Ye0 ?_;try (with_reducible exact trivial)
      rw [← hR];simp [kd,s0,d0',t0,a1,a2,a3]
    refine Yg1 (fa5 @e1 @b1 @a1 @a2 @a3) ?_
    refine Ye0 ?_;try (with_reducible exact trivial)
    rw [← hR];simp [kd,s0,d0',t0,a1,a2,a3]
  · have hkk := kd
    by_cases s0 : n.size = 0
    rotate_left
    · refine Yg1 (fa4 @e1 @b1 @kd @s0) ?_
      refine Yt0 ?_
      refine Yg1 (fa2 @e1 @b1) ?_
      refine Ye0 ?_;try (with_reducible exact trivial)
      rw [← hR];simp [kd,s0]
    by_cases d0 : (n.dat.length : Int) = 0
    rotate_left
    · have d0' : ¬ n.dat = [] := fun h => d0 (by rw [h];rfl)
      refine Yg1 (fa5 @e1 @b1 @kd @s0 @d0) ?_
      refine Yt0 ?_
      refine Yg1 (fa2 @e1 @b1) ?_
      refine Ye0 ?_;try (with_reducible exact trivial)
      rw [← hR];simp [kd,s0,d0']
    have d0' : n.dat = [] := List.eq_nil_of_length_eq_zero (by omega)
    refine Yg1 (fa5 @e1 @b1 @kd @s0 @d0) ?_
    refine Yf0 ?_
    by_cases t0 : n.target = []
    rotate_left
    · refine Yg1 (fa4 @e1 @b1 @kd @t0) ?_
      refine Yt0 ?_
      refine Yg1 (fa2 @e1 @b1) ?_
      refine Ye0 ?_;try (with_reducible exact trivial)
      rw [← hR];simp [kd,s0,d0',t0]
    refine Yg1 (fa4 @e1 @b1 @kd @t0) ?_
    refine Yf0 ?_
    by_cases m0 : n.major = 0
    rotate_left
    · refine Yg1 (fa4 @e1 @b1 @kd @m0) ?_
      refine Yt0 ?_
      refine Yg1 (fa2 @e1 @b1) ?_
      refine Ye0 ?_;try (with_reducible exact trivial)
      rw [← hR];simp [kd,s0,d0',t0,m0]
    by_cases m1 : n.minor = 0
    rotate_left
    · refine Yg1 (fa5 @e1 @b1 @kd @m0 @m1) ?_
      refine Yt0 ?_
      refine Yg1 (fa2 @e1 @b1) ?_
      refine Ye0 ?_;try (with_reducible exact trivial)
      rw [← hR];simp [kd,s0,d0',t0,m0,m1]
    refine Yg1 (fa5 @e1 @b1 @kd @m0 @m1) ?_
    refine Yf0 ?_
    refine Yg1 (fa3 @e1 @b1 @kd) ?_
    refine Yf0 ?_
    refine Yg1 (fa3 @e1 @b1 @kd) ?_
    refine Yf0 ?_
    refine Yg1 (fa3 @e1 @b1 @kd) ?_
    refine Yf0 ?_
    refine Yg1 (fa2 @e1 @b1) ?_
    refine Ye0 ?_;try (with_reducible exact trivial)
    rw [← hR];simp [kd,s0,d0',t0,m0,m1]

end Go.Proofs.YtbffcndmcaeamaaDoor
end
section
set_option linter.unusedSimpArgs false
set_option linter.unusedVariables false
namespace Go.Proofs.YtbffcndmcaeamaaDoor
open Go.RowKit Go.Proofs AclSpec MetaSpec NodeSpec GSort Flo Ext

end Go.Proofs.YtbffcndmcaeamaaDoor
end
