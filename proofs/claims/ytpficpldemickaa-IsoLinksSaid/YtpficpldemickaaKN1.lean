import Derived.Test.YtpficpldemickaaKM2
import Derived.Test.YtpficpldemickaaKE3
import Derived.Test.YtpficpldemickaaNRead
import Derived.Test.YtpficpldemickaaL22
set_option linter.unusedSimpArgs false
set_option linter.unusedVariables false
namespace Go.Proofs.Ytpficpldemickaa
open Nat renaming reduceAdd → zz1,reduceMul → zz2,reduceSub → zz3,reduceLT → zz4,reduceLeDiff → zz5,reduceEqDiff → zz6,reduceBEq → zzf
open Int renaming reduceAdd → zz7,reduceSub → zz8,reduceMul → zz9,reduceLT → zza,reduceLE → zzb,reduceEq → zzc,reduceNeg → zzd,reduceToNat → zze
open Op renaming operands → zo
open Call renaming operands → zc
open Go.RowKit Go.Proofs AclSpec MetaSpec NodeSpec GSort Flo Ext

def pieceL (p : Piece) : List LV := [intL p.pos,strL p.dat]
theorem pieceL_len (p : Piece) : (pieceL p).length = 2 := rfl
def piecesL (l : List Piece) : LV := rowL pieceL l
def nodeL (n : FNode) : List LV := [intL n.kind,intL n.mt.mode,intL n.mt.uid,intL n.mt.gid,intL n.mt.time,attrsL n.mt.attrs,acesL n.mt.acl,intL n.size,piecesL n.dat,strL n.target,intL n.major,intL n.minor]
theorem drop_piece {l : List Piece} {i : Nat} {a : Piece} (h : l[i]? = some a) : (l.flatMap pieceL).drop (i * 2) = intL a.pos :: strL a.dat :: (l.drop (i + 1)).flatMap pieceL := drop_flat pieceL 2 pieceL_len h
theorem pieceL_strip (l : List Piece) : (l.flatMap pieceL).map strip1 = l.flatMap pieceL := strip1_enc (fun _ => rfl) l
theorem pieceL_one (l : List Piece) : (l.flatMap pieceL).all oneL = true := by
  rw [List.all_flatMap,List.all_eq_true];intro x _;rfl
theorem pieceL_flen (l : List Piece) : (l.flatMap pieceL).length = l.length * 2 := len_flat pieceL 2 pieceL_len l

set_option maxRecDepth 100000 in
theorem nbytes_L (n : FNode) (h : small n) : LCalls Try.prog 96 [.agg (nodeL n)] (intL (bytesN n)) := by
  have hl := h.2.2.1
  have hb := bytesP_le h.2.2.2
  refine LCalls.of (fun _ => false) Try.func96 rfl (by decide) Try.ntmps96 Try.results96 (by simp) ?_
  intro w0 S0 vs hgl hwf0 hsz hvs;clear hsz hvs hwf0 hgl
  (repeat (first | refine LW_seq ?_ | ((first | (refine LW_region ?_;intro K hK;simp only [LZ,zo,zc,reduceCtorEq,reduceIte,zz1,zz2,zz3,zz4,zz5,zz6,zz7,zz8,zz9,zza,zzb,zzc,zzd,zze,zzf,nodeL,piecesL];refine hK _ ?_;clear hK K) | refine LW_label ?_ | refine LW_skip ?_);try simp only [LSj,reduceIte,zze]) | refine LW_block ?_))
  refine LW_loop (fun k st => ∃ i : Nat,k + i = n.dat.length ∧ st.env 3 = intL (bytesP (n.dat.take i)) ∧ st.env 7 = piecesL n.dat ∧ st.env 8 = intL n.dat.length ∧ st.env 9 = intL i) n.dat.length ⟨0,by omega,rfl,rfl,rfl,rfl⟩ ?_
  rintro k st ⟨i,hk,e3,e7,e8,e9⟩
  (repeat (first | refine LW_seq ?_ | ((first | (refine LW_region ?_;intro K hK;simp only [LZ,zo,zc,reduceCtorEq,reduceIte,zz1,zz2,zz3,zz4,zz5,zz6,zz7,zz8,zz9,zza,zzb,zzc,zzd,zze,zzf,e8,e9];refine hK _ ?_;clear hK K) | refine LW_label ?_ | refine LW_skip ?_);try simp only [LSj,reduceIte,zze]) | refine LW_block ?_))
  by_cases hlt : i < n.dat.length
  · obtain ⟨p,hp⟩ := get_of_lt hlt
    have hd := drop_piece hp
    have hw := w64s (n := i) (by omega)
    have ht := bytesP_take hp
    have hm := bytesP_mono (l := n.dat) (i + 1)
    have hs : IntKind.i64.wrap (((bytesP (n.dat.take i) : Nat) : Int) + p.dat.length) = ((bytesP (n.dat.take (i + 1)) : Nat) : Int) := by rw [w64 (by omega),ht];simp
    refine LW_if ?_;intro X Y hX hY;simp only [LZ,zo,zc,reduceCtorEq,reduceIte,zz1,zz2,zz3,zz4,zz5,zz6,zz7,zz8,zz9,zza,zzb,zzc,zzd,zze,zzf,hlt];refine hX ?_;clear hX hY X Y;try simp only [LSj,reduceIte,zze]
    (repeat (first | refine LW_seq ?_ | ((first | (refine LW_region ?_;intro K hK;simp only [LZ,zo,zc,reduceCtorEq,reduceIte,zz1,zz2,zz3,zz4,zz5,zz6,zz7,zz8,zz9,zza,zzb,zzc,zzd,zze,zzf,e3,e7,e8,e9,piecesL,hlt,hd,hs,hw];refine hK _ ?_;clear hK K) | refine LW_label ?_ | refine LW_skip ?_);try simp only [LSj,reduceIte,zze]) | refine LW_block ?_))
    exact ⟨k - 1,by omega,i + 1,by omega,(by first | exact rfl | assumption | (simp only [LZ,zo,zc,reduceCtorEq,reduceIte,zz1,zz2,zz3,zz4,zz5,zz6,zz7,zz8,zz9,zza,zzb,zzc,zzd,zze,zzf] <;> exact rfl)),(by first | exact rfl | assumption | (simp only [LZ,zo,zc,reduceCtorEq,reduceIte,zz1,zz2,zz3,zz4,zz5,zz6,zz7,zz8,zz9,zza,zzb,zzc,zzd,zze,zzf,e7] <;> exact rfl)),(by first | exact rfl | assumption | (simp only [LZ,zo,zc,reduceCtorEq,reduceIte,zz1,zz2,zz3,zz4,zz5,zz6,zz7,zz8,zz9,zza,zzb,zzc,zzd,zze,zzf,e8] <;> exact rfl)),(by first | exact rfl | assumption | (simp only [LZ,zo,zc,reduceCtorEq,reduceIte,zz1,zz2,zz3,zz4,zz5,zz6,zz7,zz8,zz9,zza,zzb,zzc,zzd,zze,zzf] <;> exact rfl))⟩
  · refine LW_if ?_;intro X Y hX hY;simp only [LZ,zo,zc,reduceCtorEq,reduceIte,zz1,zz2,zz3,zz4,zz5,zz6,zz7,zz8,zz9,zza,zzb,zzc,zzd,zze,zzf,hlt];refine hY ?_;clear hX hY X Y;(try simp only [LSj,reduceIte,zze]);(try (refine LW_skip ?_;simp only [LSj,reduceIte,zze]))
    refine LW_exit ?_;simp only [thenL,jumpsL,inBlockL,twoL,reduceIte,Nat.reduceEqDiff]
    (repeat (first | refine LW_seq ?_ | ((first | (refine LW_region ?_;intro K hK;simp only [LZ,zo,zc,reduceCtorEq,reduceIte,zz1,zz2,zz3,zz4,zz5,zz6,zz7,zz8,zz9,zza,zzb,zzc,zzd,zze,zzf,e3];refine hK _ ?_;clear hK K) | refine LW_label ?_ | refine LW_skip ?_);try simp only [LSj,reduceIte,zze]) | refine LW_block ?_))
    refine LW_ret ?_;simp only [thenL,jumpsL,inBlockL,twoL,bodyQ,LV.lit.injEq,LV.tup.injEq,LV.agg.injEq,LV.sl.injEq,List.cons.injEq,Value.int.injEq,Value.bool.injEq,Value.string.injEq,ByteArray.mk.injEq,exists_eq_left',exists_eq_left,exists_eq_right,LZ,zo,zc,reduceCtorEq,reduceIte,zz1,zz2,zz3,zz4,zz5,zz6,zz7,zz8,zz9,zza,zzb,zzc,zzd,zze,zzf]
    rw [List.take_of_length_le (by omega)];rfl

theorem extN_take {l : List Piece} {i : Nat} {p : Piece} (h : l[i]? = some p) : (l.take (i + 1)).map (fun p => ((limN p.pos,limN p.dat.length) : E)) = (l.take i).map (fun p => ((limN p.pos,limN p.dat.length) : E)) ++ [(limN p.pos,limN p.dat.length)] := by
  obtain ⟨hi,rfl⟩ := List.getElem?_eq_some_iff.1 h
  rw [List.take_succ_eq_append_getElem hi,List.map_append];rfl

theorem ceV (z : Nat × Nat) : cellsL (.lit (eV z)) = some [.lit (eV z)] := rfl
theorem oeV (z : Nat × Nat) : oneL (.lit (eV z)) = true := rfl

set_option maxRecDepth 100000 in
theorem nextents_O (n : FNode) (h : small n) : OCalls Try.prog 98 [.agg (nodeL n)] ⟨[],[],[]⟩ (.sl (extN n).length ((extN n).flatMap eE) (.row 2000)) ⟨[(2000,(99,(extN n).length))],[],[]⟩ := by
  have hl := h.2.2.1
  refine OCalls.of (fun _ => false) Try.func98 rfl (by decide) Try.ntmps98 Try.results98 (by simp) ?_
  intro w0 S0 vs
  (repeat (first | refine LW_seq ?_ | ((first | (refine LW_region ?_;intro K hK;simp only [LZ,zo,zc,reduceCtorEq,reduceIte,zz1,zz2,zz3,zz4,zz5,zz6,zz7,zz8,zz9,zza,zzb,zzc,zzd,zze,zzf,nodeL,piecesL];refine hK _ ?_;clear hK K) | refine LW_label ?_ | refine LW_skip ?_);try simp only [LSj,reduceIte,zze]) | refine LW_block ?_))
  refine LW_nil (k := 3) (q := 1000) (e := 99) rfl ?_
  refine LW_loop (fun k st => ∃ i : Nat,k + i = n.dat.length ∧ st.env 3 = .sl i (((n.dat.take i).map fun p => ((limN p.pos,limN p.dat.length) : E)).flatMap eE) (.row 1000) ∧ st.row 1000 = some (99,i) ∧ st.env 7 = piecesL n.dat ∧ st.env 8 = intL n.dat.length ∧ st.env 9 = intL i ∧ st.mode = fun _ => false) n.dat.length ⟨0,by omega,rfl,rfl,rfl,rfl,rfl,rfl⟩ ?_
  rintro k st ⟨i,hk,e3,r3,e7,e8,e9,hmd⟩
  (repeat (first | refine LW_seq ?_ | ((first | (refine LW_region ?_;intro K hK;simp only [LZ,zo,zc,reduceCtorEq,reduceIte,zz1,zz2,zz3,zz4,zz5,zz6,zz7,zz8,zz9,zza,zzb,zzc,zzd,zze,zzf,e8,e9];refine hK _ ?_;clear hK K) | refine LW_label ?_ | refine LW_skip ?_);try simp only [LSj,reduceIte,zze]) | refine LW_block ?_))
  by_cases hlt : i < n.dat.length
  · obtain ⟨p,hp⟩ := get_of_lt hlt
    have hd := drop_piece hp
    have hw := w64s (n := i) (by omega)
    have ht := extN_take hp
    have co : LCalls Try.prog 107 [intL p.pos,intL p.dat.length] (.lit (eV (limN p.pos,limN p.dat.length))) := of_L p.pos p.dat.length
    have hfl : (((n.dat.take i).map fun p => ((limN p.pos,limN p.dat.length) : E)).flatMap eE).length = i * 1 := by
      rw [len_flat eE 1 eE_len,List.length_map,List.length_take,Nat.min_eq_left (by omega)]
    refine LW_if ?_;intro X Y hX hY;simp only [LZ,zo,zc,reduceCtorEq,reduceIte,zz1,zz2,zz3,zz4,zz5,zz6,zz7,zz8,zz9,zza,zzb,zzc,zzd,zze,zzf,hlt];refine hX ?_;clear hX hY X Y;try simp only [LSj,reduceIte,zze]
    (repeat (first | refine LW_seq ?_ | (refine LW_skip ?_;simp only [LSj,reduceIte,zze]) | refine LW_block ?_));refine LW_region ?_;intro K hK;simp only [LZ,zo,zc,reduceCtorEq,reduceIte,zz1,zz2,zz3,zz4,zz5,zz6,zz7,zz8,zz9,zza,zzb,zzc,zzd,zze,zzf,e7,e9,piecesL,hlt,hd]
    refine hK _ ?_;clear hK K;try simp only [LSj,reduceIte,zze]
    (repeat (first | refine LW_seq ?_ | (refine LW_skip ?_;simp only [LSj,reduceIte,zze]) | refine LW_block ?_));refine LW_region ?_;intro K hK;simp only [LZ,zo,zc,reduceCtorEq,reduceIte,zz1,zz2,zz3,zz4,zz5,zz6,zz7,zz8,zz9,zza,zzb,zzc,zzd,zze,zzf,e3,r3,hfl,hmd]
    refine cop_intro ?ha (co) ?_;(case ha => (simp only [LZ,zo,zc,reduceCtorEq,reduceIte,zz1,zz2,zz3,zz4,zz5,zz6,zz7,zz8,zz9,zza,zzb,zzc,zzd,zze,zzf,e3,r3,hfl,hmd,ceV,oeV]) <;> rfl);simp only [LZ,zo,zc,reduceCtorEq,reduceIte,zz1,zz2,zz3,zz4,zz5,zz6,zz7,zz8,zz9,zza,zzb,zzc,zzd,zze,zzf,e3,r3,hfl,hmd,ceV,oeV]
    refine ⟨by (repeat' apply And.intro) <;> first | omega | (unfold maxLen;omega) | rfl,?_⟩
    refine hK _ ?_;clear hK K;try simp only [LSj,reduceIte,zze]
    (repeat (first | refine LW_seq ?_ | ((first | (refine LW_region ?_;intro K hK;simp only [LZ,zo,zc,reduceCtorEq,reduceIte,zz1,zz2,zz3,zz4,zz5,zz6,zz7,zz8,zz9,zza,zzb,zzc,zzd,zze,zzf,e9,hw];refine hK _ ?_;clear hK K) | refine LW_label ?_ | refine LW_skip ?_);try simp only [LSj,reduceIte,zze]) | refine LW_block ?_))
    refine ⟨k - 1,by omega,i + 1,by omega,?_,(by first | exact rfl | assumption | (simp only [LZ,zo,zc,reduceCtorEq,reduceIte,zz1,zz2,zz3,zz4,zz5,zz6,zz7,zz8,zz9,zza,zzb,zzc,zzd,zze,zzf] <;> exact rfl)),(by first | exact rfl | assumption | (simp only [LZ,zo,zc,reduceCtorEq,reduceIte,zz1,zz2,zz3,zz4,zz5,zz6,zz7,zz8,zz9,zza,zzb,zzc,zzd,zze,zzf,e7] <;> exact rfl)),(by first | exact rfl | assumption | (simp only [LZ,zo,zc,reduceCtorEq,reduceIte,zz1,zz2,zz3,zz4,zz5,zz6,zz7,zz8,zz9,zza,zzb,zzc,zzd,zze,zzf,e8] <;> exact rfl)),(by first | exact rfl | assumption | (simp only [LZ,zo,zc,reduceCtorEq,reduceIte,zz1,zz2,zz3,zz4,zz5,zz6,zz7,zz8,zz9,zza,zzb,zzc,zzd,zze,zzf] <;> exact rfl)),(by first | exact rfl | assumption | (simp only [LZ,zo,zc,reduceCtorEq,reduceIte,zz1,zz2,zz3,zz4,zz5,zz6,zz7,zz8,zz9,zza,zzb,zzc,zzd,zze,zzf,hmd] <;> exact rfl))⟩
    simp only [LZ,zo,zc,reduceCtorEq,reduceIte,zz1,zz2,zz3,zz4,zz5,zz6,zz7,zz8,zz9,zza,zzb,zzc,zzd,zze,zzf,e3,ht,List.flatMap_append,List.flatMap_cons,List.flatMap_nil,eE]
  · refine LW_if ?_;intro X Y hX hY;simp only [LZ,zo,zc,reduceCtorEq,reduceIte,zz1,zz2,zz3,zz4,zz5,zz6,zz7,zz8,zz9,zza,zzb,zzc,zzd,zze,zzf,hlt];refine hY ?_;clear hX hY X Y;(try simp only [LSj,reduceIte,zze]);(try (refine LW_skip ?_;simp only [LSj,reduceIte,zze]))
    refine LW_exit ?_;simp only [thenL,jumpsL,inBlockL,twoL,reduceIte,Nat.reduceEqDiff]
    have hi : i = n.dat.length := by omega
    subst hi
    rw [List.take_length] at e3
    have hle : (extN n).length = n.dat.length := by unfold extN;rw [List.length_map]
    (repeat (first | refine LW_seq ?_ | ((first | (refine LW_region ?_;intro K hK;simp only [LZ,zo,zc,reduceCtorEq,reduceIte,zz1,zz2,zz3,zz4,zz5,zz6,zz7,zz8,zz9,zza,zzb,zzc,zzd,zze,zzf,e3];refine hK _ ?_;clear hK K) | refine LW_label ?_ | refine LW_skip ?_);try simp only [LSj,reduceIte,zze]) | refine LW_block ?_))
    refine LW_ret ?_;simp only [thenL,jumpsL,inBlockL,twoL,bodyO];refine ⟨[(1000,2000)],rfl,?_⟩;simp only [thenL,jumpsL,inBlockL,twoL,bodyQ,LV.lit.injEq,LV.tup.injEq,LV.agg.injEq,LV.sl.injEq,List.cons.injEq,Value.int.injEq,Value.bool.injEq,Value.string.injEq,ByteArray.mk.injEq,exists_eq_left',exists_eq_left,exists_eq_right,LZ,zo,zc,reduceCtorEq,reduceIte,zz1,zz2,zz3,zz4,zz5,zz6,zz7,zz8,zz9,zza,zzb,zzc,zzd,zze,zzf,e3,r3,hle]
    rfl
end Go.Proofs.Ytpficpldemickaa
