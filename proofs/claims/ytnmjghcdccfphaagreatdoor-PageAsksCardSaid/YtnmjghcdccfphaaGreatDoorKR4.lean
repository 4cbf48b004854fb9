import Derived.Test.YtnmjghcdccfphaaGreatDoorKNF
import Derived.Test.YtnmjghcdccfphaaGreatDoorKMB
import Derived.Test.YtnmjghcdccfphaaGreatDoorNRef
section
set_option linter.unusedSimpArgs false
set_option linter.unusedVariables false
namespace Go.Proofs.YtnmjghcdccfphaaGreatDoor
open Nat renaming reduceAdd → zz1,reduceMul → zz2,reduceSub → zz3,reduceLT → zz4,reduceLeDiff → zz5,reduceEqDiff → zz6,reduceBEq → zzf
open Int renaming reduceAdd → zz7,reduceSub → zz8,reduceMul → zz9,reduceLT → zza,reduceLE → zzb,reduceEq → zzc,reduceNeg → zzd,reduceToNat → zze
open Op renaming operands → zo
open Call renaming operands → zc
open Go.RowKit Go.Proofs AclSpec MetaSpec NodeSpec GSort Flo Ext

set_option maxRecDepth 100000 in
theorem rpart_L (b : Nat) : LCalls Tryz.prog 152 [.lit (.float .f64 b)] (intL (partI b)) := by
 refine LCalls.of (fun _ => false) Tryz.func152 rfl (by decide) Tryz.ntmps152 Tryz.results152 (by simp) ?_
 intro w0 S0 vs hgl hwf0 hsz hvs;clear hsz hvs hwf0 hgl
 have hb : ((big : Nat) : Int) = 1099511627776 := rfl
 have h0 : ((0 : Nat) : Int) = 0 := rfl
 rcases part_cases b with ⟨h1,h2⟩ | ⟨h1,h2,h3,h4⟩ | ⟨h1,h2,h3⟩ | ⟨h1,h2,h3,h4⟩ | ⟨h1,h2,h3⟩ | ⟨h1,h2,h3⟩
 ·have g1 : (FloatKind.f64.format.order b 4787326403894837248 == some Ordering.gt || FloatKind.f64.format.order b 4787326403894837248 == some Ordering.eq) = true := by rw [show FloatKind.f64.format.order b 4787326403894837248 = some .gt from h1];rfl
  refine Yg1 @g1 ?_
  refine Yt0 ?_
  refine Yg0 ?_
  refine Ye1 (fa2 @h2 @hb) ?_;try (with_reducible exact trivial)
 ·have g1 : (FloatKind.f64.format.order b 4787326403894837248 == some Ordering.gt || FloatKind.f64.format.order b 4787326403894837248 == some Ordering.eq) = true := by rw [show FloatKind.f64.format.order b 4787326403894837248 = some .eq from h1];rfl
  refine Yg1 @g1 ?_
  refine Yt0 ?_
  refine Yg0 ?_
  refine Ye1 (fa2 @h3 @hb) ?_;try (with_reducible exact trivial)
 ·have g1 : (FloatKind.f64.format.order b 4787326403894837248 == some Ordering.gt || FloatKind.f64.format.order b 4787326403894837248 == some Ordering.eq) = false := by rw [show FloatKind.f64.format.order b 4787326403894837248 = some .lt from h1];rfl
  have g2 : (FloatKind.f64.format.order b 0 == some Ordering.gt || FloatKind.f64.format.order b 0 == some Ordering.eq) = true := by rw [show FloatKind.f64.format.order b 0 = some .gt from h2];rfl
  refine Yg1 @g1 ?_
  refine Yf0 ?_
  refine Yg1 @g2 ?_
  refine Yt0 ?_
  refine Yg1 @h3 ?_
  refine Ye0 ?_;try (with_reducible exact trivial)
 ·have g1 : (FloatKind.f64.format.order b 4787326403894837248 == some Ordering.gt || FloatKind.f64.format.order b 4787326403894837248 == some Ordering.eq) = false := by rw [show FloatKind.f64.format.order b 4787326403894837248 = some .lt from h1];rfl
  have g2 : (FloatKind.f64.format.order b 0 == some Ordering.gt || FloatKind.f64.format.order b 0 == some Ordering.eq) = true := by rw [show FloatKind.f64.format.order b 0 = some .eq from h2];rfl
  refine Yg1 @g1 ?_
  refine Yf0 ?_
  refine Yg1 @g2 ?_
  refine Yt0 ?_
  refine Yg1 @h3 ?_
  refine Ye0 ?_;try (with_reducible exact trivial)
 ·have g1 : (FloatKind.f64.format.order b 4787326403894837248 == some Ordering.gt || FloatKind.f64.format.order b 4787326403894837248 == some Ordering.eq) = false := by rw [show FloatKind.f64.format.order b 4787326403894837248 = some .lt from h1];rfl
  have g2 : (FloatKind.f64.format.order b 0 == some Ordering.gt || FloatKind.f64.format.order b 0 == some Ordering.eq) = false := by rw [show FloatKind.f64.format.order b 0 = some .lt from h2];rfl
  refine Yg1 @g1 ?_
  refine Yf0 ?_
  refine Yg1 @g2 ?_
  refine Yf0 ?_
  refine Yg0 ?_
  refine Ye1 (fa2 @h3 @h0) ?_;try (with_reducible exact trivial)
 ·have g1 : (FloatKind.f64.format.order b 4787326403894837248 == some Ordering.gt || FloatKind.f64.format.order b 4787326403894837248 == some Ordering.eq) = false := by rw [show FloatKind.f64.format.order b 4787326403894837248 = none from h1];rfl
  have g2 : (FloatKind.f64.format.order b 0 == some Ordering.gt || FloatKind.f64.format.order b 0 == some Ordering.eq) = false := by rw [show FloatKind.f64.format.order b 0 = none from h2];rfl
  refine Yg1 @g1 ?_
  refine Yf0 ?_
  refine Yg1 @g2 ?_
  refine Yf0 ?_
  refine Yg0 ?_
  refine Ye1 (fa2 @h3 @h0) ?_;try (with_reducible exact trivial)
set_option maxRecDepth 100000 in
theorem rat_L {z : Nat × Nat} (h : okE z) : LCalls Tryz.prog 138 [.lit (eV z)] (intL z.1) := by
 have c := rpart_L (fI (min z.1 big))
 rw [partE h.1] at c
 unfold eV
 refine LCalls.of (fun _ => false) Tryz.func138 rfl (by decide) Tryz.ntmps138 Tryz.results138 (by simp) ?_
 intro w0 S0 vs hgl hwf0 hsz hvs;clear hsz hvs hwf0 hgl
 refine Yr0 ?_;intro K hK
 refine hK _ ?_;clear hK K;try refine Wh0 ?_
 refine Yr0 ?_;intro K hK
 refine Yc0 (c) ?_
 refine hK _ ?_;clear hK K;try refine Wh0 ?_
 refine Ye0 ?_;try (with_reducible exact trivial)
set_option maxRecDepth 100000 in
theorem rlong_L {z : Nat × Nat} (h : okE z) : LCalls Tryz.prog 137 [.lit (eV z)] (intL z.2) := by
 have c := rpart_L (fI (min z.2 big))
 rw [partE h.2] at c
 unfold eV
 refine LCalls.of (fun _ => false) Tryz.func137 rfl (by decide) Tryz.ntmps137 Tryz.results137 (by simp) ?_
 intro w0 S0 vs hgl hwf0 hsz hvs;clear hsz hvs hwf0 hgl
 refine Yr0 ?_;intro K hK
 refine hK _ ?_;clear hK K;try refine Wh0 ?_
 refine Yr0 ?_;intro K hK
 refine Yc0 (c) ?_
 refine hK _ ?_;clear hK K;try refine Wh0 ?_
 refine Ye0 ?_;try (with_reducible exact trivial)
set_option maxRecDepth 100000 in
theorem rbound_L (v : Int) : LCalls Tryz.prog 153 [intL v] (intL (limI v)) := by
 refine LCalls.of (fun _ => false) Tryz.func153 rfl (by decide) Tryz.ntmps153 Tryz.results153 (by simp) ?_
 intro w0 S0 vs hgl hwf0 hsz hvs;clear hsz hvs hwf0 hgl
 have e : (limI v : Int) = if (1099511627776 : Int) < (if (0 : Int) > v then 0 else v) then 1099511627776 else (if (0 : Int) > v then 0 else v) := by
  unfold limI;split <;> split at * <;> omega
 rw [e]
 refine Yg1 @intL.eq_1 ?_
 refine Ye0 ?_;try (with_reducible exact trivial)
set_option maxRecDepth 100000 in
theorem rof_L (a b : Int) : LCalls Tryz.prog 139 [intL a,intL b] (.lit (eV (limI a,limI b))) := by
 have e : eV (limI a,limI b) = .complex .f64 (floatOfInt .f64 (limI a : Int)) (floatOfInt .f64 (limI b : Int)) := by
  unfold eV fI;rw [Nat.min_eq_left (limI_le a),Nat.min_eq_left (limI_le b)]
 rw [e]
 refine LCalls.of (fun _ => false) Tryz.func139 rfl (by decide) Tryz.ntmps139 Tryz.results139 (by simp) ?_
 intro w0 S0 vs hgl hwf0 hsz hvs;clear hsz hvs hwf0 hgl
 refine Yr0 ?_;intro K hK
 refine hK _ ?_;clear hK K;try refine Wh0 ?_
 refine Yr0 ?_;intro K hK
 refine Yc0 (rbound_L a) ?_
 refine Yc0 (rbound_L b) ?_
 refine hK _ ?_;clear hK K;try refine Wh0 ?_
 refine Ye0 ?_;try (with_reducible exact trivial)
set_option maxRecDepth 100000 in
theorem rbytes_L (n : FNode) (h : small n) : LCalls Tryz.prog 111 [.agg (nodeL n)] (intL (bytesN n)) := by
 have hl := h.2.2.1
 have hb := bytesP_le h.2.2.2
 refine LCalls.of (fun _ => false) Tryz.func111 rfl (by decide) Tryz.ntmps111 Tryz.results111 (by simp) ?_
 intro w0 S0 vs hgl hwf0 hsz hvs;clear hsz hvs hwf0 hgl
 refine Yg1 (fa2 @nodeL.eq_1 @piecesL.eq_1) ?_
 refine LW_loop (fun k st => ∃ i : Nat,k + i = n.dat.length ∧ st.env 3 = intL (bytesP (n.dat.take i)) ∧ st.env 1 = .ptr 1 0 ∧ st.box 1 = some (nodeL n) ∧ st.env 4 = intL i) n.dat.length ⟨0,by omega,rfl,rfl,rfl,rfl⟩ ?_
 rintro k st ⟨i,hk,e3,e1,b1,e4⟩
 simp only [nodeL,piecesL,rowL] at b1
 by_cases hlt : i < n.dat.length
 ·obtain ⟨p,hp⟩ := get_of_lt hlt
  have hd := drop_piece hp
  have hw := w64s (n := i) (by omega)
  have ht := bytesP_take hp
  have hm := bytesP_mono (l := n.dat) (i + 1)
  have hs : IntKind.i64.wrap (((bytesP (n.dat.take i) : Nat) : Int) + p.dat.length) = ((bytesP (n.dat.take (i + 1)) : Nat) : Int) := by rw [w64 (by omega),ht];simp
  refine Yg1 (fa3 @e1 @b1 @e4) ?_
  refine Yt1 @hlt ?_
  refine Yg1 (fa8 @e1 @b1 @e3 @e4 @hlt @hd @hs @hw) ?_
  exact ⟨k - 1,by omega,i + 1,by omega,Yq0,(Yq1 @e1),(Yq1 (fa3 @b1 @nodeL.eq_1 @piecesL.eq_1)),Yq0⟩
 ·refine Yg1 (fa3 @e1 @b1 @e4) ?_
  refine Yf1 @hlt ?_
  refine LW_exit ?_;simp only [thenL,jumpsL,inBlockL,twoL,reduceIte,Nat.reduceEqDiff]
  refine Yg1 @e3 ?_
  refine Ye0 ?_;try (with_reducible exact trivial)
  rw [List.take_of_length_le (by omega)];rfl
set_option maxRecDepth 100000 in
set_option maxHeartbeats 2000000 in
theorem rextents_L (n : FNode) (h : small n) : LCalls Tryz.prog 113 [.agg (nodeL n)] (eL (extN n)) := by
 have hl := h.2.2.1
 refine LCalls.of (fun _ => false) Tryz.func113 rfl (by decide) Tryz.ntmps113 Tryz.results113 (by simp) ?_
 intro w0 S0 vs hgl hwf0 hsz hvs;clear hsz hvs hwf0 hgl
 refine Yg1 (fa2 @nodeL.eq_1 @piecesL.eq_1) ?_
 refine LW_nil (k := 3) (q := 1000) (e := 157) rfl ?_
 refine LW_loop (fun k st => ∃ i : Nat,k + i = n.dat.length ∧ st.env 3 = .sl i (((n.dat.take i).map fun p => ((limN p.pos,limN p.dat.length) : E)).flatMap eE) (.row 1000) ∧ st.row 1000 = some (157,i) ∧ st.env 1 = .ptr 1 0 ∧ st.box 1 = some (nodeL n) ∧ st.env 4 = intL i ∧ st.mode = fun _ => false) n.dat.length ⟨0,by omega,rfl,rfl,rfl,rfl,rfl,rfl⟩ ?_
 rintro k st ⟨i,hk,e3,r3,e1,b1,e4,hmd⟩
 simp only [nodeL,piecesL,rowL] at b1
 by_cases hlt : i < n.dat.length
 ·obtain ⟨p,hp⟩ := get_of_lt hlt
  have hd := drop_piece hp
  have hw := w64s (n := i) (by omega)
  have ht := extN_take hp
  have co : LCalls Tryz.prog 139 [intL p.pos,intL p.dat.length] (.lit (eV (limN p.pos,limN p.dat.length))) := rof_L p.pos p.dat.length
  have hfl : (((n.dat.take i).map fun p => ((limN p.pos,limN p.dat.length) : E)).flatMap eE).length = i * 1 := by
   rw [len_flat eE 1 eE_len,List.length_map,List.length_take,Nat.min_eq_left (by omega)]
  refine Yg1 (fa3 @e1 @b1 @e4) ?_
  refine Yt1 @hlt ?_
  (repeat (first | refine LW_seq ?_ | (refine LW_skip ?_;simp only [LSj,reduceIte,zze]) | refine LW_block ?_));refine LW_tail 16 (by kernel_rfl) (by kernel_rfl) (by kernel_rfl) (by first | exact rfl | (rw [hmd];exact rfl)) ?_;intro K hK;simp only [LZ,zo,zc,reduceCtorEq,reduceIte,zz1,zz2,zz3,zz4,zz5,zz6,zz7,zz8,zz9,zza,zzb,zzc,zzd,zze,zzf,e1,b1,e3,e4,r3,hlt,hd,hfl,hmd]
  refine Yc1 (co) (fa11 @e1 @b1 @e3 @e4 @r3 @hlt @hd @hfl @hmd @ceV @oeV) ?_
  refine ⟨by (repeat' apply And.intro) <;> first | omega | (unfold maxLen;omega) | rfl,?_⟩
  refine hK _ ?_;clear hK K;try refine Wh0 ?_
  refine Yg1 (fa2 @e4 @hw) ?_
  refine ⟨k - 1,by omega,i + 1,by omega,?_,Yq0,(Yq1 @e1),(Yq1 (fa3 @b1 @nodeL.eq_1 @piecesL.eq_1)),Yq0,(Yq1 @hmd)⟩
  simp only [LZ,zo,zc,reduceCtorEq,reduceIte,zz1,zz2,zz3,zz4,zz5,zz6,zz7,zz8,zz9,zza,zzb,zzc,zzd,zze,zzf,e3,ht,List.flatMap_append,List.flatMap_cons,List.flatMap_nil,eE]
 ·refine Yg1 (fa3 @e1 @b1 @e4) ?_
  refine Yf1 @hlt ?_
  refine LW_exit ?_;simp only [thenL,jumpsL,inBlockL,twoL,reduceIte,Nat.reduceEqDiff]
  have hi : i = n.dat.length := by omega
  subst hi
  rw [List.take_length] at e3
  have hle : (extN n).length = n.dat.length := by unfold extN;rw [List.length_map]
  refine LW_plain 3 e3 ?_
  refine Yg0 ?_
  refine Ye1 (fa2 @eL.eq_1 @hle) ?_;try (with_reducible exact trivial)
  rfl
theorem rmayExt_L (l : List E) (hok : ∀ z ∈ l,okE z) (hl : l.length ≤ 1000000) (size : Int) : LCalls Tryz.prog 112 [eL l,intL size] (boolL (mayE big l size)) := by
 have hbig : ((big : Nat) : Int) = 1099511627776 := rfl
 refine LCalls.of (fun _ => false) Tryz.func112 rfl (by decide) Tryz.ntmps112 Tryz.results112 (by simp) ?_
 intro w0 S0 vs hgl hwf0 hsz hvs;clear hsz hvs hwf0 hgl
 unfold mayE
 by_cases b0 : size < 0
 ·refine Yg1 (fa2 @eL.eq_1 @b0) ?_
  refine Yt0 ?_
  refine Yg0 ?_
  refine Ye0 ?_;try (with_reducible exact trivial)
  simp;omega
 by_cases b1 : (1099511627776 : Int) < size
 ·refine Yg1 (fa3 @eL.eq_1 @b0 @b1) ?_
  refine Yt0 ?_
  refine Yg0 ?_
  refine Ye0 ?_;try (with_reducible exact trivial)
  simp;omega
 have e : (decide (0 ≤ size) && decide (size ≤ (big : Int)) && chkE (-1) l size) = chkE (-1) l size := by
  rw [decide_eq_true (by omega),decide_eq_true (by omega)];rfl
 rw [e]
 refine Yg1 (fa3 @eL.eq_1 @b0 @b1) ?_
 refine Yf0 ?_
 refine Yg0 ?_
 refine LW_loop (fun n st => ∃ (i : Nat) (la : Int),n + i = l.length ∧ st.env 0 = eL l ∧ st.env 6 = intL i ∧ st.env 1 = intL size ∧ st.env 5 = intL la ∧ chkE la (l.drop i) size = chkE (-1) l size ∧ st.mode = (fun _ => false)) l.length ⟨0,-1,by omega,rfl,rfl,rfl,rfl,rfl,rfl⟩ ?_
 rintro n st ⟨i,la,hn,e0,e6,h1,h5,hh,hmd⟩
 by_cases hlt : i < l.length
 ·obtain ⟨z,hz⟩ := get_of_lt hlt
  have hzo := hok z (List.mem_of_getElem? hz)
  have hd := drop_e hz
  have hw := w64s (n := i) (by omega)
  rw [drop_cons hz,chkE] at hh
  refine Yg1 (fa3 @e0 @e6 @eL.eq_1) ?_
  refine Yt1 @hlt ?_
  by_cases g1 : ((z.2 : Nat) : Int) = 0
  ·rw [if_pos (.inl (by omega))] at hh
   refine Yr1 (fa5 @e0 @e6 @eL.eq_1 @hlt @hd) ?_;intro K hK
   refine Yc1 (rlong_L hzo) @g1 ?_
   refine hK _ ?_;clear hK K;try refine Wh0 ?_
   refine Yt0 ?_
   refine Yg0 ?_
   refine Ye0 ?_;try (with_reducible exact trivial)
   exact hh
  ·by_cases g2 : (z.1 : Int) ≤ la
   ·rw [if_pos (.inr g2)] at hh
    refine Yr1 (fa5 @e0 @e6 @eL.eq_1 @hlt @hd) ?_;intro K hK
    refine Yc1 (rlong_L hzo) (fa6 @e0 @e6 @eL.eq_1 @hlt @hd @g1) ?_
    refine Yc1 (rat_L hzo) (fa2 @h5 @g2) ?_
    refine hK _ ?_;clear hK K;try refine Wh0 ?_
    refine Yt0 ?_
    refine Yg0 ?_
    refine Ye0 ?_;try (with_reducible exact trivial)
    exact hh
   ·rw [if_neg (by omega)] at hh
    have hws : IntKind.i64.wrap ((z.1 : Int) + (z.2 : Int)) = (fin z : Int) := by
     obtain ⟨h1,h2⟩ := hzo
     unfold big at h1 h2
     rw [w64 (by omega)];unfold fin;omega
    refine Yr1 (fa5 @e0 @e6 @eL.eq_1 @hlt @hd) ?_;intro K hK
    refine Yc1 (rlong_L hzo) (fa6 @e0 @e6 @eL.eq_1 @hlt @hd @g1) ?_
    refine Yc1 (rat_L hzo) (fa2 @h5 @g2) ?_
    refine hK _ ?_;clear hK K;try refine Wh0 ?_
    refine Yf0 ?_
    refine Yn1 (fa5 @e0 @e6 @eL.eq_1 @hlt @hd) ?_;intro K hK
    refine Yc1 (rat_L hzo) (fa5 @e0 @e6 @eL.eq_1 @hlt @hd) ?_
    refine Yc1 (rlong_L hzo) @hws ?_
    refine hK _ ?_;clear hK K;try refine Wh0 ?_
    refine Yg1 (fa2 @e6 @hw) ?_
    exact ⟨n - 1,by omega,i + 1,_,by omega,(Yq1 @e0),Yq0,(Yq1 @h1),Yq0,hh,(Yq1 @hmd)⟩
 ·refine Yg1 (fa3 @e0 @e6 @eL.eq_1) ?_
  refine Yf1 @hlt ?_
  refine LW_exit ?_;simp only [thenL,jumpsL,inBlockL,twoL,reduceIte,Nat.reduceEqDiff]
  rw [List.drop_of_length_le (by omega)] at hh
  rw [← hh]
  refine Yg1 (fa2 @h5 @h1) ?_
  refine Ye0 ?_;try (with_reducible exact trivial)
  rfl
end Go.Proofs.YtnmjghcdccfphaaGreatDoor
end
section
set_option linter.unusedSimpArgs false
set_option linter.unusedVariables false
namespace Go.Proofs.YtnmjghcdccfphaaGreatDoor
open Nat renaming reduceAdd → zz1,reduceMul → zz2,reduceSub → zz3,reduceLT → zz4,reduceLeDiff → zz5,reduceEqDiff → zz6,reduceBEq → zzf
open Int renaming reduceAdd → zz7,reduceSub → zz8,reduceMul → zz9,reduceLT → zza,reduceLE → zzb,reduceEq → zzc,reduceNeg → zzd,reduceToNat → zze
open Op renaming operands → zo
open Call renaming operands → zc
open Go.RowKit Go.Proofs AclSpec MetaSpec NodeSpec GSort Flo Ext

set_option maxRecDepth 100000 in
set_option maxHeartbeats 2000000 in
theorem rdata_L (n : FNode) (h : small n) : LCalls Tryz.prog 89 [.agg (nodeL n)] (boolL (mayFileN n)) := by
 have hl := h.2.2.1
 have cb := rbytes_L n h
 have ce := rextents_L n h
 have cm := rmayExt_L (extN n) (extN_ok n) (by rw [extN_len];exact hl) n.size
 simp only [nodeL,attrsL,acesL,piecesL] at cb ce
 refine LCalls.of (fun _ => false) Tryz.func89 rfl (by decide) Tryz.ntmps89 Tryz.results89 (by simp) ?_
 intro w0 S0 vs hgl hwf0 hsz hvs;clear hsz hvs hwf0 hgl
 generalize hR : mayFileN n = R
 unfold mayFileN at hR
 refine Yg1 (fa4 @nodeL.eq_1 @piecesL.eq_1 @attrsL.eq_1 @acesL.eq_1) ?_
 refine LW_joinB (fun st => st.env 1 = .ptr 1 0 ∧ st.box 1 = some (nodeL n) ∧ (st.mode = fun _ => false) ∧ n.dat.all okPiece = true) ?_ ?_
 ·refine LW_loop (fun k st => ∃ i : Nat,k + i = n.dat.length ∧ st.env 1 = .ptr 1 0 ∧ st.box 1 = some (nodeL n) ∧ (st.mode = fun _ => false) ∧ st.env 3 = intL i ∧ (n.dat.take i).all okPiece = true) n.dat.length ⟨0,by omega,rfl,rfl,rfl,rfl,rfl⟩ ?_
  rintro k st ⟨i,hk,e1,b1,hmd,e3,hall⟩
  simp only [nodeL,piecesL,rowL,attrsL,acesL] at b1
  by_cases hlt : i < n.dat.length
  ·obtain ⟨p,hp⟩ := get_of_lt hlt
   have hd := drop_piece hp
   have hw := w64s (n := i) (by omega)
   refine Yg1 (fa3 @e1 @b1 @e3) ?_
   refine Yt1 @hlt ?_
   have hbad : okPiece p = false → n.dat.all okPiece = false := fun hb => by rw [List.all_eq_false];exact ⟨p,List.mem_of_getElem? hp,by simp [hb]⟩
   by_cases k2 : p.pos < 0
   ·refine Yg1 (fa6 @e1 @b1 @e3 @hlt @hd @k2) ?_
    refine Yt0 ?_
    refine Yg0 ?_
    refine Ye0 ?_;try (with_reducible exact trivial)
    rw [← hR,hbad (by unfold okPiece;simp [k2])];simp
   by_cases k3 : 1099511627776 < p.pos
   ·refine Yg1 (fa7 @e1 @b1 @e3 @hlt @hd @k2 @k3) ?_
    refine Yt0 ?_
    refine Yg0 ?_
    refine Ye0 ?_;try (with_reducible exact trivial)
    rw [← hR,hbad (by unfold okPiece;simp [k3])];simp
   by_cases k1 : (p.dat.length : Int) = 0
   ·have k1' : p.dat = [] := List.eq_nil_of_length_eq_zero (by omega)
    refine Yg1 (fa8 @e1 @b1 @e3 @hlt @hd @k2 @k3 @k1) ?_
    refine Yt0 ?_
    refine Yg0 ?_
    refine Ye0 ?_;try (with_reducible exact trivial)
    rw [← hR,hbad (by unfold okPiece;simp [k1'])];simp
   have k1' : ¬ p.dat = [] := fun h => k1 (by rw [h];rfl)
   refine Yg1 (fa8 @e1 @b1 @e3 @hlt @hd @k2 @k3 @k1) ?_
   refine Yf0 ?_
   refine Yg1 (fa2 @e3 @hw) ?_
   refine ⟨k - 1,by omega,i + 1,by omega,(Yq1 @e1),?_,(Yq1 @hmd),Yq0,okPiece_take hp hall (by unfold okPiece;simp [k1',k2,k3])⟩
   simp only [LZ,zo,zc,reduceCtorEq,reduceIte,zz1,zz2,zz3,zz4,zz5,zz6,zz7,zz8,zz9,zza,zzb,zzc,zzd,zze,zzf,b1,nodeL,piecesL,attrsL,acesL]
  ·refine Yg1 (fa3 @e1 @b1 @e3) ?_
   refine Yf1 @hlt ?_
   refine LW_exit ?_;simp only [thenL,jumpsL,inBlockL,twoL,reduceIte,Nat.reduceEqDiff]
   rw [List.take_of_length_le (by omega)] at hall
   exact ⟨(Yq1 @e1),(Yq1 (fa5 @b1 @nodeL.eq_1 @piecesL.eq_1 @attrsL.eq_1 @acesL.eq_1)),(Yq1 @hmd),hall⟩
 rintro st ⟨e1,b1,hmd,hall⟩
 simp only [nodeL,piecesL,rowL,attrsL,acesL] at b1
 rw [hall,Bool.and_true] at hR
 by_cases g1 : 0 ≤ n.size
 rotate_left
 ·have g1' : n.size < 0 := by omega
  refine Yn1 (fa4 @e1 @b1 @g1 @hmd) ?_;intro K hK
  refine hK _ ?_;clear hK K;try refine Wh0 ?_
  refine Ye0 ?_;try (with_reducible exact trivial)
  rw [← hR];simp [g1']
 by_cases g2 : n.size ≤ 1099511627776
 rotate_left
 ·have g2' : 1099511627776 < n.size := by omega
  refine Yn1 (fa5 @e1 @b1 @g1 @g2 @hmd) ?_;intro K hK
  refine hK _ ?_;clear hK K;try refine Wh0 ?_
  refine Ye0 ?_;try (with_reducible exact trivial)
  rw [← hR];simp [g2']
 have g1' : ¬ n.size < 0 := by omega
 have g2' : ¬ 1099511627776 < n.size := by omega
 by_cases g4 : (bytesN n : Int) ≤ 4000
 rotate_left
 ·have g4' : ¬ bytesN n ≤ 4000 := by omega
  refine Yn1 (fa5 @e1 @b1 @g1 @g2 @hmd) ?_;intro K hK
  refine Yc1 (cb) (fa3 @e1 @b1 @g4) ?_
  refine hK _ ?_;clear hK K;try refine Wh0 ?_
  refine Ye0 ?_;try (with_reducible exact trivial)
  rw [← hR];simp [g4']
 have g4' : bytesN n ≤ 4000 := by omega
 by_cases g3 : (n.dat.length : Int) ≤ 16
 rotate_left
 ·have g3' : 16 < n.dat.length := by omega
  refine Yn1 (fa5 @e1 @b1 @g1 @g2 @hmd) ?_;intro K hK
  refine Yc1 (cb) (fa4 @e1 @b1 @g4 @g3) ?_
  refine hK _ ?_;clear hK K;try refine Wh0 ?_
  refine Ye0 ?_;try (with_reducible exact trivial)
  rw [← hR];simp [g3']
 have g3' : ¬ 16 < n.dat.length := by omega
 refine Yn1 (fa5 @e1 @b1 @g1 @g2 @hmd) ?_;intro K hK
 refine Yc1 (cb) (fa4 @e1 @b1 @g4 @g3) ?_
 refine Yc1 (ce) (fa2 @e1 @b1) ?_
 refine Yc0 (cm) ?_
 refine hK _ ?_;clear hK K;try refine Wh0 ?_
 refine Ye0 ?_;try (with_reducible exact trivial)
 rw [← hR,decide_eq_false g1',decide_eq_false g2',decide_eq_false g3',decide_eq_true g4'];rfl

theorem take_has {l : List UInt8} {i : Nat} {c : UInt8} (h : l[i]? = some c) : (l.take (i + 1)).contains 0 = ((l.take i).contains 0 || c == 0) := by
 obtain ⟨hi,rfl⟩ := List.getElem?_eq_some_iff.1 h
 rw [List.take_succ_eq_append_getElem hi,Bool.eq_iff_iff]
 simp only [List.contains_iff_mem,Bool.or_eq_true,List.mem_append,List.mem_singleton,beq_iff_eq]
 exact or_congr Iff.rfl ⟨Eq.symm,Eq.symm⟩

set_option maxRecDepth 100000 in
set_option maxHeartbeats 4000000 in
theorem rmayNode_L (n : FNode) (h : small n) (ht : n.target.length ≤ maxLen) : LCalls Tryz.prog 74 [.agg (nodeL n)] (boolL (mayN n)) := by
 have ho := small.len h
 have cm := rmmay_L n.mt ho.2.1 ho.1
 have cf := rdata_L n h
 unfold maxLen at ht
 simp only [metaL,attrsL,acesL,rowL] at cm
 simp only [nodeL,attrsL,acesL,piecesL,rowL] at cf
 refine LCalls.of (fun _ => false) Tryz.func74 rfl (by decide) Tryz.ntmps74 Tryz.results74 (by simp) ?_
 intro w0 S0 vs hgl hwf0 hsz hvs;clear hsz hvs hwf0 hgl
 generalize hR : mayN n = R
 unfold mayN at hR
 refine Yg1 (fa4 @nodeL.eq_1 @piecesL.eq_1 @attrsL.eq_1 @acesL.eq_1) ?_
 cases g3 : mayM n.mt
 ·rw [g3] at cm
  refine Yr0 ?_;intro K hK
  refine Yc0 (cm) ?_
  refine hK _ ?_;clear hK K;try refine Wh0 ?_
  refine Yt0 ?_
  refine Yg0 ?_
  refine Ye0 ?_;try (with_reducible exact trivial)
  rw [← hR];simp [g3]
 rw [g3] at cm hR
 refine Yr0 ?_;intro K hK
 refine Yc0 (cm) ?_
 refine hK _ ?_;clear hK K;try refine Wh0 ?_
 refine Yf0 ?_
 obtain ⟨nd,hnd⟩ : ∃ nd,(decide (n.size = 0) && decide (n.dat = [])) = nd := ⟨_,rfl⟩
 obtain ⟨nt,hnt⟩ : ∃ nt,decide (n.target = []) = nt := ⟨_,rfl⟩
 obtain ⟨nv,hnv⟩ : ∃ nv,noDev n = nv := ⟨_,rfl⟩
 rw [hnd,hnt,hnv] at hR
 refine LW_slim (fun st => st.env 1 = .ptr 1 0 ∧ st.box 1 = some [intL n.kind,intL n.mt.mode,intL n.mt.uid,intL n.mt.gid,intL n.mt.time,.sl n.mt.attrs.length (n.mt.attrs.flatMap attrL) .no,.sl n.mt.acl.length (n.mt.acl.flatMap aceL) .no,intL n.size,.sl n.dat.length (n.dat.flatMap pieceL) .no,strL n.target,intL n.major,intL n.minor]) ⟨Yq0,Yq0⟩ ?_
 rintro st ⟨e1,b1⟩
 refine LW_seq ?_
 refine LW_join (fun st => st.env 1 = .ptr 1 0 ∧ st.box 1 = some [intL n.kind,intL n.mt.mode,intL n.mt.uid,intL n.mt.gid,intL n.mt.time,.sl n.mt.attrs.length (n.mt.attrs.flatMap attrL) .no,.sl n.mt.acl.length (n.mt.acl.flatMap aceL) .no,intL n.size,.sl n.dat.length (n.dat.flatMap pieceL) .no,strL n.target,intL n.major,intL n.minor] ∧ st.env 3 = boolL nd) ?_ ?_
 ·by_cases s0 : n.size = 0
  ·by_cases d0 : (n.dat.length : Int) = 0
   ·have d0' : n.dat = [] := List.eq_nil_of_length_eq_zero (by omega)
    have e3 : nd = true := by rw [← hnd,decide_eq_true s0,decide_eq_true d0'];rfl
    rw [e3]
    refine Yg1 (fa4 @e1 @b1 @s0 @d0) ?_
    exact ⟨(Yq1 @e1),(Yq1 @b1),Yq0⟩
   ·have d0' : ¬ n.dat = [] := fun h => d0 (by rw [h];rfl)
    have e3 : nd = false := by rw [← hnd,decide_eq_true s0,decide_eq_false d0'];rfl
    rw [e3]
    refine Yg1 (fa4 @e1 @b1 @s0 @d0) ?_
    exact ⟨(Yq1 @e1),(Yq1 @b1),Yq0⟩
  ·have e3 : nd = false := by rw [← hnd,decide_eq_false s0];rfl
   rw [e3]
   refine Yg1 (fa3 @e1 @b1 @s0) ?_
   exact ⟨(Yq1 @e1),(Yq1 @b1),Yq0⟩
 clear e1 b1 st
 rintro st ⟨e1,b1,e3⟩
 refine LW_seq ?_
 refine LW_join (fun st => st.env 1 = .ptr 1 0 ∧ st.box 1 = some [intL n.kind,intL n.mt.mode,intL n.mt.uid,intL n.mt.gid,intL n.mt.time,.sl n.mt.attrs.length (n.mt.attrs.flatMap attrL) .no,.sl n.mt.acl.length (n.mt.acl.flatMap aceL) .no,intL n.size,.sl n.dat.length (n.dat.flatMap pieceL) .no,strL n.target,intL n.major,intL n.minor] ∧ st.env 3 = boolL nd ∧ st.env 4 = boolL nt) ?_ ?_
 ·refine Yg1 (fa3 @e1 @b1 @hnt) ?_
  exact ⟨(Yq1 @e1),(Yq1 @b1),(Yq1 @e3),(Yq1 @hnt)⟩
 clear e1 b1 e3 st
 rintro st ⟨e1,b1,e3,e4⟩
 refine LW_seq ?_
 refine LW_join (fun st => st.env 1 = .ptr 1 0 ∧ st.box 1 = some [intL n.kind,intL n.mt.mode,intL n.mt.uid,intL n.mt.gid,intL n.mt.time,.sl n.mt.attrs.length (n.mt.attrs.flatMap attrL) .no,.sl n.mt.acl.length (n.mt.acl.flatMap aceL) .no,intL n.size,.sl n.dat.length (n.dat.flatMap pieceL) .no,strL n.target,intL n.major,intL n.minor] ∧ st.env 3 = boolL nd ∧ st.env 4 = boolL nt ∧ st.env 5 = boolL nv) ?_ ?_
 ·by_cases m0 : n.major = 0
  ·have e5 : nv = decide (n.minor = 0) := by rw [← hnv];unfold noDev;rw [decide_eq_true m0,Bool.true_and]
   rw [e5]
   refine Yg1 (fa3 @e1 @b1 @m0) ?_
   exact ⟨(Yq1 @e1),(Yq1 @b1),(Yq1 @e3),(Yq1 @e4),Yq0⟩
  ·have e5 : nv = false := by rw [← hnv];unfold noDev;rw [decide_eq_false m0,Bool.false_and]
   rw [e5]
   refine Yg1 (fa3 @e1 @b1 @m0) ?_
   exact ⟨(Yq1 @e1),(Yq1 @b1),(Yq1 @e3),(Yq1 @e4),Yq0⟩
 clear e1 b1 e3 e4 st
 rintro st ⟨e1,b1,e3,e4,e5⟩
 by_cases k1 : n.kind = 1
 ·refine Yg1 (fa3 @e1 @b1 @k1) ?_
  refine Yt1 @k1 ?_
  refine Yg0 ?_
  refine Yt1 @k1 ?_
  cases nd
  ·refine Yg1 @e3 ?_
   refine Ye0 ?_;try (with_reducible exact trivial)
   rw [← hR];simp [k1]
  cases nt
  ·refine Yg1 (fa2 @e3 @e4) ?_
   refine Ye0 ?_;try (with_reducible exact trivial)
   rw [← hR];simp [k1]
  refine Yg1 (fa3 @e3 @e4 @e5) ?_
  refine Ye0 ?_;try (with_reducible exact trivial)
  rw [← hR];simp [k1]
 by_cases k6 : n.kind = 6
 ·refine Yg1 (fa3 @e1 @b1 @k6) ?_
  refine Yf1 @k6 ?_
  refine Yg1 @k6 ?_
  refine Yt1 @k6 ?_
  cases nd
  ·refine Yg1 @e3 ?_
   refine Ye0 ?_;try (with_reducible exact trivial)
   rw [← hR];simp [k6]
  cases nt
  ·refine Yg1 (fa2 @e3 @e4) ?_
   refine Ye0 ?_;try (with_reducible exact trivial)
   rw [← hR];simp [k6]
  refine Yg1 (fa3 @e3 @e4 @e5) ?_
  refine Ye0 ?_;try (with_reducible exact trivial)
  rw [← hR];simp [k6]
 refine Yg1 (fa2 @e1 @b1) ?_
 refine Yf1 @k1 ?_
 refine Yg1 @k6 ?_
 refine Yf1 @k6 ?_
 by_cases k2 : n.kind = 2
 ·refine Yg1 @k2 ?_
  refine Yt1 @k2 ?_
  cases hf : mayFileN n
  ·rw [hf] at cf hR
   refine Yr1 (fa2 @e1 @b1) ?_;intro K hK
   refine Yc1 (cf) (fa2 @e4 @e5) ?_
   refine hK _ ?_;clear hK K;try refine Wh0 ?_
   refine Ye0 ?_;try (with_reducible exact trivial)
   rw [← hR];simp [k2]
  rw [hf] at cf hR
  cases nt
  ·refine Yr1 (fa2 @e1 @b1) ?_;intro K hK
   refine Yc1 (cf) (fa2 @e4 @e5) ?_
   refine hK _ ?_;clear hK K;try refine Wh0 ?_
   refine Ye0 ?_;try (with_reducible exact trivial)
   rw [← hR];simp [k2]
  refine Yr1 (fa2 @e1 @b1) ?_;intro K hK
  refine Yc1 (cf) (fa2 @e4 @e5) ?_
  refine hK _ ?_;clear hK K;try refine Wh0 ?_
  refine Ye0 ?_;try (with_reducible exact trivial)
  rw [← hR];simp [k2]
 refine Yg1 @k2 ?_
 refine Yf1 @k2 ?_
 by_cases k3 : n.kind = 3
 ·refine Yg1 @k3 ?_
  refine Yt1 @k3 ?_
  refine Yg0 ?_
  refine LW_slim (fun st => st.env 1 = .ptr 1 0 ∧ st.box 1 = some [intL n.kind,intL n.mt.mode,intL n.mt.uid,intL n.mt.gid,intL n.mt.time,.sl n.mt.attrs.length (n.mt.attrs.flatMap attrL) .no,.sl n.mt.acl.length (n.mt.acl.flatMap aceL) .no,intL n.size,.sl n.dat.length (n.dat.flatMap pieceL) .no,strL n.target,intL n.major,intL n.minor] ∧ st.env 3 = boolL nd ∧ st.env 5 = boolL nv ∧ st.env 6 = intL (0 : Nat)) ⟨(Yq1 @e1),(Yq1 @b1),(Yq1 @e3),(Yq1 @e5),Yq0⟩ ?_
  clear e1 b1 e3 e4 e5 st
  rintro st ⟨e1,b1,e3,e5,e6⟩
  refine LW_joinB (fun st => st.env 1 = .ptr 1 0 ∧ st.box 1 = some [intL n.kind,intL n.mt.mode,intL n.mt.uid,intL n.mt.gid,intL n.mt.time,.sl n.mt.attrs.length (n.mt.attrs.flatMap attrL) .no,.sl n.mt.acl.length (n.mt.acl.flatMap aceL) .no,intL n.size,.sl n.dat.length (n.dat.flatMap pieceL) .no,strL n.target,intL n.major,intL n.minor] ∧ st.env 3 = boolL nd ∧ st.env 5 = boolL nv ∧ n.target.contains 0 = false) ?_ ?_
  ·refine LW_loop (fun m st => ∃ i : Nat,m + i = n.target.length ∧ st.env 1 = .ptr 1 0 ∧ st.box 1 = some [intL n.kind,intL n.mt.mode,intL n.mt.uid,intL n.mt.gid,intL n.mt.time,.sl n.mt.attrs.length (n.mt.attrs.flatMap attrL) .no,.sl n.mt.acl.length (n.mt.acl.flatMap aceL) .no,intL n.size,.sl n.dat.length (n.dat.flatMap pieceL) .no,strL n.target,intL n.major,intL n.minor] ∧ st.env 3 = boolL nd ∧ st.env 5 = boolL nv ∧ st.env 6 = intL i ∧ (n.target.take i).contains 0 = false) n.target.length ⟨0,by omega,e1,b1,e3,e5,e6,by simp⟩ ?_
   clear e1 b1 e3 e5 e6 st
   rintro m st ⟨i,hm,e1,b1,e3,e5,e6,hz⟩
   by_cases hlt : i < n.target.length
   ·obtain ⟨c,hc⟩ := get_of_lt hlt
    have hth := take_has hc
    rw [hz,Bool.false_or] at hth
    have g1 : (i : Int) < n.target.length := by omega
    have hw := w64s (n := i) (by omega)
    refine Yg1 (fa4 @e1 @b1 @e6 @g1) ?_
    refine Yt1 @g1 ?_
    by_cases c0 : (c.toNat : Int) = 0
    ·have c0' : c = 0 := by apply UInt8.toNat_inj.1;show c.toNat = 0;omega
     refine Yg1 (fa6 @e1 @b1 @e6 @g1 @hc @c0) ?_
     refine Yt1 @c0 ?_
     refine Yg0 ?_
     refine Ye0 ?_;try (with_reducible exact trivial)
     have hmem : (0 : UInt8) ∈ n.target := by rw [← c0'];exact List.mem_of_getElem? hc
     rw [← hR];simp [k3,hmem]
    ·have c0' : (c == 0) = false := by rw [beq_eq_false_iff_ne];rintro rfl;exact c0 rfl
     rw [c0'] at hth
     refine Yg1 (fa6 @e1 @b1 @e6 @g1 @hc @c0) ?_
     refine Yf1 @c0 ?_
     refine Yg1 (fa2 @e6 @hw) ?_
     exact ⟨m - 1,by omega,i + 1,by omega,(Yq1 @e1),(Yq1 @b1),(Yq1 @e3),(Yq1 @e5),Yq0,hth⟩
   ·have g1 : ¬ (i : Int) < n.target.length := by omega
    rw [List.take_of_length_le (by omega)] at hz
    refine Yg1 (fa4 @e1 @b1 @e6 @g1) ?_
    refine Yf1 @g1 ?_
    refine LW_exit ?_;simp only [thenL,jumpsL,inBlockL,twoL,reduceIte,Nat.reduceEqDiff]
    exact ⟨(Yq1 @e1),(Yq1 @b1),(Yq1 @e3),(Yq1 @e5),hz⟩
  clear e1 b1 e3 e5 e6 st
  rintro st ⟨e1,b1,e3,e5,hz⟩
  rw [hz] at hR
  cases nd
  ·refine Yg1 (fa3 @e1 @b1 @e3) ?_
   refine Ye0 ?_;try (with_reducible exact trivial)
   rw [← hR];simp [k3]
  cases nv
  ·refine Yg1 (fa4 @e1 @b1 @e3 @e5) ?_
   refine Ye0 ?_;try (with_reducible exact trivial)
   rw [← hR];simp [k3]
  by_cases t1 : (1 : Int) ≤ n.target.length
  ·have t1' : 1 ≤ n.target.length := by omega
   by_cases t2 : (n.target.length : Int) ≤ 200
   ·have t2' : n.target.length ≤ 200 := by omega
    refine Yg1 (fa6 @e1 @b1 @e3 @e5 @t1 @t2) ?_
    refine Ye0 ?_;try (with_reducible exact trivial)
    rw [← hR];simp [k3,t1',t2']
   ·have t2' : ¬ n.target.length ≤ 200 := by omega
    refine Yg1 (fa6 @e1 @b1 @e3 @e5 @t1 @t2) ?_
    refine Ye0 ?_;try (with_reducible exact trivial)
    rw [← hR];simp [k3,t1',t2']
  ·have t1' : ¬ 1 ≤ n.target.length := by omega
   refine Yg1 (fa5 @e1 @b1 @e3 @e5 @t1) ?_
   refine Ye0 ?_;try (with_reducible exact trivial)
   rw [← hR];simp only [t1',decide_false,Bool.false_and,Bool.and_false,k3];simp
 refine Yg1 @k3 ?_
 refine Yf1 @k3 ?_
 by_cases k45 : n.kind = 4 ∨ n.kind = 5
 ·have key : ∀ st : LSt,st.env 1 = .ptr 1 0 → st.box 1 = some [intL n.kind,intL n.mt.mode,intL n.mt.uid,intL n.mt.gid,intL n.mt.time,.sl n.mt.attrs.length (n.mt.attrs.flatMap attrL) .no,.sl n.mt.acl.length (n.mt.acl.flatMap aceL) .no,intL n.size,.sl n.dat.length (n.dat.flatMap pieceL) .no,strL n.target,intL n.major,intL n.minor] → True := fun _ _ _ => trivial
  have hR2 : (nd && nt && decide (0 ≤ n.major) && decide (n.major ≤ 65535) && decide (0 ≤ n.minor) && decide (n.minor ≤ 65535)) = R := by
   rw [← hR];rcases k45 with k | k <;> simp [k,Bool.and_assoc]
  clear hR
  refine LW_slim (fun st => st.env 1 = .ptr 1 0 ∧ st.box 1 = some [intL n.kind,intL n.mt.mode,intL n.mt.uid,intL n.mt.gid,intL n.mt.time,.sl n.mt.attrs.length (n.mt.attrs.flatMap attrL) .no,.sl n.mt.acl.length (n.mt.acl.flatMap aceL) .no,intL n.size,.sl n.dat.length (n.dat.flatMap pieceL) .no,strL n.target,intL n.major,intL n.minor] ∧ st.env 3 = boolL nd ∧ st.env 4 = boolL nt ∧ st.env 32 = intL n.kind) ⟨(Yq1 @e1),(Yq1 @b1),(Yq1 @e3),(Yq1 @e4),Yq0⟩ ?_
  clear e1 b1 e3 e4 e5 st key
  rintro st ⟨e1,b1,e3,e4,e32⟩
  refine LW_seq ?_
  refine LW_join (fun st => st.env 1 = .ptr 1 0 ∧ st.box 1 = some [intL n.kind,intL n.mt.mode,intL n.mt.uid,intL n.mt.gid,intL n.mt.time,.sl n.mt.attrs.length (n.mt.attrs.flatMap attrL) .no,.sl n.mt.acl.length (n.mt.acl.flatMap aceL) .no,intL n.size,.sl n.dat.length (n.dat.flatMap pieceL) .no,strL n.target,intL n.major,intL n.minor] ∧ st.env 3 = boolL nd ∧ st.env 4 = boolL nt ∧ st.env 83 = boolL true) ?_ ?_
  ·rcases k45 with k4 | k5
   ·refine Yg1 (fa2 @e32 @k4) ?_
    refine Yt1 @k4 ?_
    refine Yg0 ?_
    exact ⟨(Yq1 @e1),(Yq1 @b1),(Yq1 @e3),(Yq1 @e4),(Yq1 @k4)⟩
   ·have k4 : ¬ n.kind = 4 := by omega
    refine Yg1 (fa2 @e32 @k4) ?_
    refine Yf1 @k4 ?_
    refine Yg1 (fa2 @e32 @k5) ?_
    exact ⟨(Yq1 @e1),(Yq1 @b1),(Yq1 @e3),(Yq1 @e4),(Yq1 @k5)⟩
  clear e1 b1 e3 e4 e32 st
  rintro st ⟨e1,b1,e3,e4,e83⟩
  refine Yt1 @e83 ?_
  cases nd
  ·refine Yg1 (fa3 @e1 @b1 @e3) ?_
   refine Ye0 ?_;try (with_reducible exact trivial)
   rw [← hR2];rfl
  cases nt
  ·refine Yg1 (fa4 @e1 @b1 @e3 @e4) ?_
   refine Ye0 ?_;try (with_reducible exact trivial)
   rw [← hR2];rfl
  by_cases q1 : 0 ≤ n.major
  rotate_left
  ·refine Yg1 (fa5 @e1 @b1 @e3 @e4 @q1) ?_
   refine Ye0 ?_;try (with_reducible exact trivial)
   rw [← hR2];simp [q1]
  by_cases q2 : n.major ≤ 65535
  rotate_left
  ·refine Yg1 (fa6 @e1 @b1 @e3 @e4 @q1 @q2) ?_
   refine Ye0 ?_;try (with_reducible exact trivial)
   rw [← hR2];simp [q2]
  by_cases q3 : 0 ≤ n.minor
  rotate_left
  ·refine Yg1 (fa7 @e1 @b1 @e3 @e4 @q1 @q2 @q3) ?_
   refine Ye0 ?_;try (with_reducible exact trivial)
   rw [← hR2];simp [q3]
  by_cases q4 : n.minor ≤ 65535
  rotate_left
  ·refine Yg1 (fa8 @e1 @b1 @e3 @e4 @q1 @q2 @q3 @q4) ?_
   refine Ye0 ?_;try (with_reducible exact trivial)
   rw [← hR2];simp [q4]
  refine Yg1 (fa8 @e1 @b1 @e3 @e4 @q1 @q2 @q3 @q4) ?_
  refine Ye0 ?_;try (with_reducible exact trivial)
  rw [← hR2];simp [q1,q2,q3,q4]
 have k4 : ¬ n.kind = 4 := fun h => k45 (.inl h)
 have k5 : ¬ n.kind = 5 := fun h => k45 (.inr h)
 refine Yg1 @k4 ?_
 refine Yf1 @k4 ?_
 refine Yg1 @k5 ?_
 refine Yf1 @k5 ?_
 refine Yg0 ?_
 refine Ye0 ?_;try (with_reducible exact trivial)
 have : n.kind < 1 ∨ 6 < n.kind := by omega
 rw [← hR]
 rcases this with c | c <;> simp [c]
end Go.Proofs.YtnmjghcdccfphaaGreatDoor
end
section
set_option linter.unusedSimpArgs false
set_option linter.unusedVariables false
namespace Go.Proofs.YtnmjghcdccfphaaGreatDoor
open Go.RowKit Go.Proofs AclSpec MetaSpec NodeSpec GSort Flo Ext

end Go.Proofs.YtnmjghcdccfphaaGreatDoor
end
section
set_option linter.unusedSimpArgs false
set_option linter.unusedVariables false
namespace Go.Proofs.YtnmjghcdccfphaaGreatDoor
open Go.RowKit Go.Proofs AclSpec MetaSpec NodeSpec GSort Flo Ext

set_option maxRecDepth 100000 in
theorem rsamePieces_L (l m : List Piece) (hl : l.length ≤ maxLen) (hm : m.length ≤ maxLen) : LCalls Tryz.prog 94 [piecesL l,piecesL m] (boolL (decide (l = m))) := by
 unfold maxLen at hl hm
 refine LCalls.of (fun _ => false) Tryz.func94 rfl (by decide) Tryz.ntmps94 Tryz.results94 (by simp) ?_
 intro w0 S0 vs hgl hwf0 hsz hvs;clear hsz hvs hwf0 hgl
 refine Yg1 @piecesL.eq_1 ?_
 by_cases hlen : (l.length : Int) = m.length
 ·refine Yf1 @hlen ?_
  refine Yg1 @piecesL.eq_1 ?_
  refine LW_loop (fun n st => ∃ i : Nat,n + i = l.length ∧ st.env 0 = piecesL l ∧ st.env 1 = piecesL m ∧ st.env 5 = intL i ∧ l.take i = m.take i) l.length ⟨0,by omega,rfl,rfl,rfl,rfl⟩ ?_
  rintro n st ⟨i,hn,h0,h1,h5,ht⟩
  refine Yg1 (fa3 @h0 @h5 @piecesL.eq_1) ?_
  by_cases hlt : i < l.length
  ·obtain ⟨a,ha⟩ := get_of_lt hlt
   obtain ⟨b,hb⟩ := get_of_lt (l := m) (i := i) (by omega)
   have hda := drop_piece ha
   have hdb := drop_piece hb
   have hltm : i < m.length := by omega
   have hw := w64s (n := i) (by omega)
   refine Yt1 @hlt ?_
   refine Yn1 (fa8 @h0 @h1 @h5 @piecesL.eq_1 @hlt @hltm @hda @hdb) ?_;intro K hK
   refine hK _ ?_;clear hK K;try refine Wh0 ?_
   by_cases he : a = b
   ·have e1 : a.pos = b.pos := by rw [he]
    have e2 : a.dat = b.dat := by rw [he]
    refine Yf1 (fa2 @e1 @e2) ?_
    refine Yg1 (fa2 @h5 @hw) ?_
    exact ⟨n - 1,by omega,i + 1,by omega,(Yq1 @h0),(Yq1 @h1),Yq0,take_succ_eq ht ha hb he⟩
   ·have hne : (decide (a.pos = b.pos) && decide (a.dat = b.dat)) = false := by
     rw [Bool.eq_false_iff];intro h;simp at h;exact he (by cases a;cases b;simp_all)
    refine Yt1 @hne ?_
    refine Yg0 ?_
    refine Ye0 ?_;try (with_reducible exact trivial)
    simp [ne_of_get ha hb he]
  ·refine Yf1 @hlt ?_
   refine LW_exit ?_;simp only [thenL,jumpsL,inBlockL,twoL,reduceIte,Nat.reduceEqDiff]
   refine Yg0 ?_
   refine Ye0 ?_;try (with_reducible exact trivial)
   rw [List.take_of_length_le (by omega),List.take_of_length_le (by omega)] at ht
   simp [ht]
 ·refine Yt1 @hlen ?_
  refine Yg0 ?_
  refine Ye0 ?_;try (with_reducible exact trivial)
  simp;rintro rfl;exact hlen rfl

set_option maxRecDepth 100000 in
set_option maxHeartbeats 2000000 in
theorem rdiffNode_L (a b : FNode) (ha : okLen a) (hb : okLen b) : LCalls Tryz.prog 77 [.agg (nodeL a),.agg (nodeL b)] (strL (diffN a b)) := by
 have c1 := rdiff_L a.mt b.mt ha.1 hb.1 ha.2.1 hb.2.1
 have c2 := rsamePieces_L a.dat b.dat ha.2.2 hb.2.2
 simp only [metaL] at c1
 refine LCalls.of (fun _ => false) Tryz.func77 rfl (by decide) Tryz.ntmps77 Tryz.results77 (by simp) ?_
 intro w0 S0 vs hgl hwf0 hsz hvs;clear hsz hvs hwf0 hgl
 generalize hR : diffN a b = R
 unfold diffN at hR
 refine Yg1 (fa2 @nodeL.eq_1 @piecesL.eq_1) ?_
 by_cases g1 : a.kind = b.kind
 ·rw [if_neg (not_not_intro g1)] at hR
  refine Yf1 @g1 ?_
  refine Yr1 @nodeL.eq_1 ?_;intro K hK
  refine Yc0 (c1) ?_
  refine hK _ ?_;clear hK K;try refine Wh0 ?_
  by_cases g2 : diffM a.mt b.mt = []
  ·rw [if_neg (not_not_intro g2)] at hR
   refine Yg1 @g2 ?_
   refine Yf0 ?_
   refine Yg0 ?_
   by_cases g3 : a.size = b.size
   ·rw [if_neg (not_not_intro g3)] at hR
    refine Yf1 @g3 ?_
    refine Yr0 ?_;intro K hK
    refine Yc0 (c2) ?_
    refine hK _ ?_;clear hK K;try refine Wh0 ?_
    by_cases g4 : a.dat = b.dat
    ·rw [if_neg (not_not_intro g4)] at hR
     refine Yf1 @g4 ?_
     refine Yg0 ?_
     by_cases g5 : a.target = b.target
     ·rw [if_neg (not_not_intro g5)] at hR
      refine Yf1 @g5 ?_
      by_cases g6 : a.major = b.major
      ·rw [if_neg (not_not_intro g6)] at hR
       by_cases g7 : a.minor = b.minor
       ·rw [if_neg (not_not_intro g7)] at hR
        refine Yg1 (fa2 @g6 @g7) ?_
        refine Yf0 ?_
        refine Yg0 ?_
        refine Ye0 ?_;try (with_reducible exact trivial)
        rw [← hR]
       ·rw [if_pos g7] at hR
        refine Yg1 (fa2 @g6 @g7) ?_
        refine Yt0 ?_
        refine Yg0 ?_
        refine Ye0 ?_;try (with_reducible exact trivial)
        rw [← hR]
      ·rw [if_pos g6] at hR
       refine Yg1 @g6 ?_
       refine Yt0 ?_
       refine Yg0 ?_
       refine Ye0 ?_;try (with_reducible exact trivial)
       rw [← hR]
     ·rw [if_pos g5] at hR
      refine Yt1 @g5 ?_
      refine Yg0 ?_
      refine Ye0 ?_;try (with_reducible exact trivial)
      rw [← hR]
    ·rw [if_pos g4] at hR
     refine Yt1 @g4 ?_
     refine Yg0 ?_
     refine Ye0 ?_;try (with_reducible exact trivial)
     rw [← hR]
   ·rw [if_pos g3] at hR
    refine Yt1 @g3 ?_
    refine Yg0 ?_
    refine Ye0 ?_;try (with_reducible exact trivial)
    rw [← hR]
  ·rw [if_pos g2] at hR
   refine Yg1 @g2 ?_
   refine Yt1 @g2 ?_
   refine Yg0 ?_
   refine Ye0 ?_;try (with_reducible exact trivial)
   rw [← hR]
 ·rw [if_pos g1] at hR
  refine Yt1 @g1 ?_
  refine Yg0 ?_
  refine Ye0 ?_;try (with_reducible exact trivial)
  rw [← hR]
set_option maxRecDepth 100000 in
theorem rsameNode_L (a b : FNode) (ha : okLen a) (hb : okLen b) : LCalls Tryz.prog 66 [.agg (nodeL a),.agg (nodeL b)] (boolL (decide (a = b))) := by
 have c := rdiffNode_L a b ha hb
 simp only [nodeL,attrsL,acesL,piecesL,rowL] at c
 refine LCalls.of (fun _ => false) Tryz.func66 rfl (by decide) Tryz.ntmps66 Tryz.results66 (by simp) ?_
 intro w0 S0 vs hgl hwf0 hsz hvs;clear hsz hvs hwf0 hgl
 refine Yg1 (fa4 @nodeL.eq_1 @piecesL.eq_1 @attrsL.eq_1 @acesL.eq_1) ?_
 refine Yr0 ?_;intro K hK
 refine Yc0 (c) ?_
 refine hK _ ?_;clear hK K;try refine Wh0 ?_
 refine Ye0 ?_;try (with_reducible exact trivial)
 rw [Bool.eq_iff_iff,decide_eq_true_eq,decide_eq_true_eq,diffN_nil]

end Go.Proofs.YtnmjghcdccfphaaGreatDoor
end
