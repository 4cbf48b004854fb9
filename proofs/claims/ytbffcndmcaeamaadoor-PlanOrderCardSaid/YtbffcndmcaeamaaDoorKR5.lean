import Derived.Test.YtbffcndmcaeamaaDoorKN5
import Derived.Test.YtbffcndmcaeamaaDoorKMB
import Derived.Test.YtbffcndmcaeamaaDoorNRef
import Derived.Test.YtbffcndmcaeamaaDoorKN8
section
set_option linter.unusedSimpArgs false
set_option linter.unusedVariables false
namespace Go.Proofs.YtbffcndmcaeamaaDoor
open Nat renaming reduceAdd → zz1,reduceMul → zz2,reduceSub → zz3,reduceLT → zz4,reduceLeDiff → zz5,reduceEqDiff → zz6,reduceBEq → zzf
open Int renaming reduceAdd → zz7,reduceSub → zz8,reduceMul → zz9,reduceLT → zza,reduceLE → zzb,reduceEq → zzc,reduceNeg → zzd,reduceToNat → zze
open Op renaming operands → zo
open Call renaming operands → zc
open Go.RowKit Go.Proofs AclSpec MetaSpec NodeSpec GSort Flo Ext

set_option maxRecDepth 100000 in
theorem rpart_L (b : Nat) : LCalls Tryd.prog 71 [.lit (.float .f64 b)] (intL (partI b)) := by
  refine LCalls.of (fun _ => false) Tryd.func71 rfl (by decide) Tryd.ntmps71 Tryd.results71 (by simp) ?_
  intro w0 S0 vs hgl hwf0 hsz hvs;clear hsz hvs hwf0 hgl
  have hb : ((big : Nat) : Int) = 1099511627776 := rfl
  have h0 : ((0 : Nat) : Int) = 0 := rfl
  rcases part_cases b with ⟨h1,h2⟩ | ⟨h1,h2,h3,h4⟩ | ⟨h1,h2,h3⟩ | ⟨h1,h2,h3,h4⟩ | ⟨h1,h2,h3⟩ | ⟨h1,h2,h3⟩
  · have g1 : (FloatKind.f64.format.order b 4787326403894837248 == some Ordering.gt || FloatKind.f64.format.order b 4787326403894837248 == some Ordering.eq) = true := by rw [show FloatKind.f64.format.order b 4787326403894837248 = some .gt from h1];rfl
    refine Yg1 @g1 ?_
    refine Yt0 ?_
    refine Yg0 ?_
    refine Ye1 (fa2 @h2 @hb) ?_;try (with_reducible exact trivial)
  · have g1 : (FloatKind.f64.format.order b 4787326403894837248 == some Ordering.gt || FloatKind.f64.format.order b 4787326403894837248 == some Ordering.eq) = true := by rw [show FloatKind.f64.format.order b 4787326403894837248 = some .eq from h1];rfl
    refine Yg1 @g1 ?_
    refine Yt0 ?_
    refine Yg0 ?_
    refine Ye1 (fa2 @h3 @hb) ?_;try (with_reducible exact trivial)
  · have g1 : (FloatKind.f64.format.order b 4787326403894837248 == some Ordering.gt || FloatKind.f64.format.order b 4787326403894837248 == some Ordering.eq) = false := by rw [show FloatKind.f64.format.order b 4787326403894837248 = some .lt from h1];rfl
    have g2 : (FloatKind.f64.format.order b 0 == some Ordering.gt || FloatKind.f64.format.order b 0 == some Ordering.eq) = true := by rw [show FloatKind.f64.format.order b 0 = some .gt from h2];rfl
    refine Yg1 @g1 ?_
    refine Yf0 ?_
    refine Yg1 @g2 ?_
    refine Yt0 ?_
    refine Yg1 @h3 ?_
    refine Ye0 ?_;try (with_reducible exact trivial)
  · have g1 : (FloatKind.f64.format.order b 4787326403894837248 == some Ordering.gt || FloatKind.f64.format.order b 4787326403894837248 == some Ordering.eq) = false := by rw [show FloatKind.f64.format.order b 4787326403894837248 = some .lt from h1];rfl
    have g2 : (FloatKind.f64.format.order b 0 == some Ordering.gt || FloatKind.f64.format.order b 0 == some Ordering.eq) = true := by rw [show FloatKind.f64.format.order b 0 = some .eq from h2];rfl
    refine Yg1 @g1 ?_
    refine Yf0 ?_
    refine Yg1 @g2 ?_
    refine Yt0 ?_
    refine Yg1 @h3 ?_
    refine Ye0 ?_;try (with_reducible exact trivial)
  · have g1 : (FloatKind.f64.format.order b 4787326403894837248 == some Ordering.gt || FloatKind.f64.format.order b 4787326403894837248 == some Ordering.eq) = false := by rw [show FloatKind.f64.format.order b 4787326403894837248 = some .lt from h1];rfl
    have g2 : (FloatKind.f64.format.order b 0 == some Ordering.gt || FloatKind.f64.format.order b 0 == some Ordering.eq) = false := by rw [show FloatKind.f64.format.order b 0 = some .lt from h2];rfl
    refine Yg1 @g1 ?_
    refine Yf0 ?_
    refine Yg1 @g2 ?_
    refine Yf0 ?_
    refine Yg0 ?_
    refine Ye1 (fa2 @h3 @h0) ?_;try (with_reducible exact trivial)
  · have g1 : (FloatKind.f64.format.order b 4787326403894837248 == some Ordering.gt || FloatKind.f64.format.order b 4787326403894837248 == some Ordering.eq) = false := by rw [show FloatKind.f64.format.order b 4787326403894837248 = none from h1];rfl
    have g2 : (FloatKind.f64.format.order b 0 == some Ordering.gt || FloatKind.f64.format.order b 0 == some Ordering.eq) = false := by rw [show FloatKind.f64.format.order b 0 = none from h2];rfl
    refine Yg1 @g1 ?_
    refine Yf0 ?_
    refine Yg1 @g2 ?_
    refine Yf0 ?_
    refine Yg0 ?_
    refine Ye1 (fa2 @h3 @h0) ?_;try (with_reducible exact trivial)
set_option maxRecDepth 100000 in
theorem rat_L {z : Nat × Nat} (h : okE z) : LCalls Tryd.prog 60 [.lit (eV z)] (intL z.1) := by
  have c := rpart_L (fI (min z.1 big))
  rw [partE h.1] at c
  unfold eV
  refine LCalls.of (fun _ => false) Tryd.func60 rfl (by decide) Tryd.ntmps60 Tryd.results60 (by simp) ?_
  intro w0 S0 vs hgl hwf0 hsz hvs;clear hsz hvs hwf0 hgl
  refine Yr0 ?_;intro K hK
  refine hK _ ?_;clear hK K;try refine Wh0 ?_
  refine Yr0 ?_;intro K hK
  refine Yc0 (c) ?_
  refine hK _ ?_;clear hK K;try refine Wh0 ?_
  refine Ye0 ?_;try (with_reducible exact trivial)
set_option maxRecDepth 100000 in
theorem rlong_L {z : Nat × Nat} (h : okE z) : LCalls Tryd.prog 59 [.lit (eV z)] (intL z.2) := by
  have c := rpart_L (fI (min z.2 big))
  rw [partE h.2] at c
  unfold eV
  refine LCalls.of (fun _ => false) Tryd.func59 rfl (by decide) Tryd.ntmps59 Tryd.results59 (by simp) ?_
  intro w0 S0 vs hgl hwf0 hsz hvs;clear hsz hvs hwf0 hgl
  refine Yr0 ?_;intro K hK
  refine hK _ ?_;clear hK K;try refine Wh0 ?_
  refine Yr0 ?_;intro K hK
  refine Yc0 (c) ?_
  refine hK _ ?_;clear hK K;try refine Wh0 ?_
  refine Ye0 ?_;try (with_reducible exact trivial)
set_option maxRecDepth 100000 in
theorem rbound_L (v : Int) : LCalls Tryd.prog 72 [intL v] (intL (limI v)) := by
  refine LCalls.of (fun _ => false) Tryd.func72 rfl (by decide) Tryd.ntmps72 Tryd.results72 (by simp) ?_
  intro w0 S0 vs hgl hwf0 hsz hvs;clear hsz hvs hwf0 hgl
  have e : (limI v : Int) = if (1099511627776 : Int) < (if (0 : Int) > v then 0 else v) then 1099511627776 else (if (0 : Int) > v then 0 else v) := by
    unfold limI;split <;> split at * <;> omega
  rw [e]
  refine Yg1 @intL.eq_1 ?_
  refine Ye0 ?_;try (with_reducible exact trivial)
set_option maxRecDepth 100000 in
theorem rof_L (a b : Int) : LCalls Tryd.prog 61 [intL a,intL b] (.lit (eV (limI a,limI b))) := by
  have e : eV (limI a,limI b) = .complex .f64 (floatOfInt .f64 (limI a : Int)) (floatOfInt .f64 (limI b : Int)) := by
    unfold eV fI;rw [Nat.min_eq_left (limI_le a),Nat.min_eq_left (limI_le b)]
  rw [e]
  refine LCalls.of (fun _ => false) Tryd.func61 rfl (by decide) Tryd.ntmps61 Tryd.results61 (by simp) ?_
  intro w0 S0 vs hgl hwf0 hsz hvs;clear hsz hvs hwf0 hgl
  refine Yr0 ?_;intro K hK
  refine hK _ ?_;clear hK K;try refine Wh0 ?_
  refine Yr0 ?_;intro K hK
  refine Yc0 (rbound_L a) ?_
  refine Yc0 (rbound_L b) ?_
  refine hK _ ?_;clear hK K;try refine Wh0 ?_
  refine Ye0 ?_;try (with_reducible exact trivial)
set_option maxRecDepth 100000 in
theorem rbytes_L (n : FNode) (h : small n) : LCalls Tryd.prog 32 [.agg (nodeL n)] (intL (bytesN n)) := by
  have hl := h.2.2.1
  have hb := bytesP_le h.2.2.2
  refine LCalls.of (fun _ => false) Tryd.func32 rfl (by decide) Tryd.ntmps32 Tryd.results32 (by simp) ?_
  intro w0 S0 vs hgl hwf0 hsz hvs;clear hsz hvs hwf0 hgl
  refine Yg1 (fa2 @nodeL.eq_1 @piecesL.eq_1) ?_
  refine LW_loop (fun k st => ∃ i : Nat,k + i = n.dat.length ∧ st.env 3 = intL (bytesP (n.dat.take i)) ∧ st.env 1 = .ptr 1 0 ∧ st.box 1 = some (nodeL n) ∧ st.env 4 = intL i) n.dat.length ⟨0,by omega,rfl,rfl,rfl,rfl⟩ ?_
  rintro k st ⟨i,hk,e3,e1,b1,e4⟩
  simp only [nodeL,piecesL,rowL] at b1
  by_cases hlt : i < n.dat.length
  · obtain ⟨p,hp⟩ := get_of_lt hlt
    have hd := drop_piece hp
    have hw := w64s (n := i) (by omega)
    have ht := bytesP_take hp
    have hm := bytesP_mono (l := n.dat) (i + 1)
    have hs : IntKind.i64.wrap (((bytesP (n.dat.take i) : Nat) : Int) + p.dat.length) = ((bytesP (n.dat.take (i + 1)) : Nat) : Int) := by rw [w64 (by omega),ht];simp
    refine Yg1 (fa3 @e1 @b1 @e4) ?_
    refine Yt1 @hlt ?_
    refine Yg1 (fa8 @e1 @b1 @e3 @e4 @hlt @hd @hs @hw) ?_
    exact ⟨k - 1,by omega,i + 1,by omega,Yq0,(Yq1 @e1),(Yq1 (fa3 @b1 @nodeL.eq_1 @piecesL.eq_1)),Yq0⟩
  · refine Yg1 (fa3 @e1 @b1 @e4) ?_
    refine Yf1 @hlt ?_
    refine LW_exit ?_;simp only [thenL,jumpsL,inBlockL,twoL,reduceIte,Nat.reduceEqDiff]
    refine Yg1 @e3 ?_
    refine Ye0 ?_;try (with_reducible exact trivial)
    rw [List.take_of_length_le (by omega)];rfl
set_option maxRecDepth 100000 in
set_option maxHeartbeats 2000000 in
theorem rextents_L (n : FNode) (h : small n) : LCalls Tryd.prog 48 [.agg (nodeL n)] (eL (extN n)) := by
  have hl := h.2.2.1
  refine LCalls.of (fun _ => false) Tryd.func48 rfl (by decide) Tryd.ntmps48 Tryd.results48 (by simp) ?_
  intro w0 S0 vs hgl hwf0 hsz hvs;clear hsz hvs hwf0 hgl
  refine Yg1 (fa2 @nodeL.eq_1 @piecesL.eq_1) ?_
  refine LW_nil (k := 3) (q := 1000) (e := 96) rfl ?_
  refine LW_loop (fun k st => ∃ i : Nat,k + i = n.dat.length ∧ st.env 3 = .sl i (((n.dat.take i).map fun p => ((limN p.pos,limN p.dat.length) : E)).flatMap eE) (.row 1000) ∧ st.row 1000 = some (96,i) ∧ st.env 1 = .ptr 1 0 ∧ st.box 1 = some (nodeL n) ∧ st.env 4 = intL i ∧ st.mode = fun _ => false) n.dat.length ⟨0,by omega,rfl,rfl,rfl,rfl,rfl,rfl⟩ ?_
  rintro k st ⟨i,hk,e3,r3,e1,b1,e4,hmd⟩
  simp only [nodeL,piecesL,rowL] at b1
  by_cases hlt : i < n.dat.length
  · obtain ⟨p,hp⟩ := get_of_lt hlt
    have hd := drop_piece hp
    have hw := w64s (n := i) (by omega)
    have ht := extN_take hp
    have co : LCalls Tryd.prog 61 [intL p.pos,intL p.dat.length] (.lit (eV (limN p.pos,limN p.dat.length))) := rof_L p.pos p.dat.length
    have hfl : (((n.dat.take i).map fun p => ((limN p.pos,limN p.dat.length) : E)).flatMap eE).length = i * 1 := by
      rw [len_flat eE 1 eE_len,List.length_map,List.length_take,Nat.min_eq_left (by omega)]
    refine Yg1 (fa3 @e1 @b1 @e4) ?_
    refine Yt1 @hlt ?_
    (repeat (first | refine LW_seq ?_ | (refine LW_skip ?_;simp only [LSj,reduceIte,zze]) | refine LW_block ?_));refine LW_tail 16 (by kernel_rfl) (by kernel_rfl) (by kernel_rfl) (by first | exact rfl | (rw [hmd];exact rfl)) ?_;intro K hK;simp only [LZ,zo,zc,reduceCtorEq,reduceIte,zz1,zz2,zz3,zz4,zz5,zz6,zz7,zz8,zz9,zza,zzb,zzc,zzd,zze,zzf,e1,b1,e3,e4,r3,hlt,hd,hfl,hmd]
    refine Yc1 (co) (fa11 @e1 @b1 @e3 @e4 @r3 @hlt @hd @hfl @hmd @ceV @oeV) ?_
    refine ⟨by (repeat' apply And.intro) <;> first | omega | (unfold maxLen;omega) | rfl,?_⟩
    refine hK _ ?_;clear hK K;try refine Wh0 ?_
    refine Yg1 (fa2 @e4 @hw) ?_
    refine ⟨k - 1,by omega,i + 1,by omega,?_,Yq0,(Yq1 @e1),(Yq1 (fa3 @b1 @nodeL.eq_1 @piecesL.eq_1)),Yq0,(Yq1 @hmd)⟩
    simp only [LZ,zo,zc,reduceCtorEq,reduceIte,zz1,zz2,zz3,zz4,zz5,zz6,zz7,zz8,zz9,zza,zzb,zzc,zzd,zze,zzf,e3,ht,List.flatMap_append,List.flatMap_cons,List.flatMap_nil,eE]
  · refine Yg1 (fa3 @e1 @b1 @e4) ?_
    refine Yf1 @hlt ?_
    refine LW_exit ?_;simp only [thenL,jumpsL,inBlockL,twoL,reduceIte,Nat.reduceEqDiff]
    have hi : i = n.dat.length := by omega
    subst hi
    rw [List.take_length] at e3
    have hle : (extN n).length = n.dat.length := by unfold extN;rw [List.length_map]
    refine LW_plain 3 e3 ?_
    refine Yg0 ?_
    refine Ye1 (fa2 @eL.eq_1 @hle) ?_;try (with_reducible exact trivial)
    rfl
theorem rmayExt_L (l : List E) (hok : ∀ z ∈ l,okE z) (hl : l.length ≤ 1000000) (size : Int) : LCalls Tryd.prog 47 [eL l,intL size] (boolL (mayE big l size)) := by
  have hbig : ((big : Nat) : Int) = 1099511627776 := rfl
  refine LCalls.of (fun _ => false) Tryd.func47 rfl (by decide) Tryd.ntmps47 Tryd.results47 (by simp) ?_
  intro w0 S0 vs hgl hwf0 hsz hvs;clear hsz hvs hwf0 hgl
  unfold mayE
  by_cases b0 : size < 0
  · refine Yg1 (fa2 @eL.eq_1 @b0) ?_
    refine Yt0 ?_
    refine Yg0 ?_
    refine Ye0 ?_;try (with_reducible exact trivial)
    simp;omega
  by_cases b1 : (1099511627776 : Int) < size
  · refine Yg1 (fa3 @eL.eq_1 @b0 @b1) ?_
    refine Yt0 ?_
    refine Yg0 ?_
    refine Ye0 ?_;try (with_reducible exact trivial)
    simp;omega
  have e : (decide (0 ≤ size) && decide (size ≤ (big : Int)) && chkE (-1) l size) = chkE (-1) l size := by
    rw [decide_eq_true (by omega),decide_eq_true (by omega)];rfl
  rw [e]
  refine Yg1 (fa3 @eL.eq_1 @b0 @b1) ?_
  refine Yf0 ?_
  refine Yg0 ?_
  refine LW_loop (fun n st => ∃ (i : Nat) (la : Int),n + i = l.length ∧ st.env 0 = eL l ∧ st.env 6 = intL i ∧ st.env 1 = intL size ∧ st.env 5 = intL la ∧ chkE la (l.drop i) size = chkE (-1) l size ∧ st.mode = (fun _ => false)) l.length ⟨0,-1,by omega,rfl,rfl,rfl,rfl,rfl,rfl⟩ ?_
  rintro n st ⟨i,la,hn,e0,e6,h1,h5,hh,hmd⟩
  by_cases hlt : i < l.length
  · obtain ⟨z,hz⟩ := get_of_lt hlt
    have hzo := hok z (List.mem_of_getElem? hz)
    have hd := drop_e hz
    have hw := w64s (n := i) (by omega)
    rw [drop_cons hz,chkE] at hh
    refine Yg1 (fa3 @e0 @e6 @eL.eq_1) ?_
    refine Yt1 @hlt ?_
    by_cases g1 : ((z.2 : Nat) : Int) = 0
    · rw [if_pos (.inl (by omega))] at hh
      refine Yr1 (fa5 @e0 @e6 @eL.eq_1 @hlt @hd) ?_;intro K hK
      refine Yc1 (rlong_L hzo) @g1 ?_
      refine hK _ ?_;clear hK K;try refine Wh0 ?_
      refine Yt0 ?_
      refine Yg0 ?_
      refine Ye0 ?_;try (with_reducible exact trivial)
      exact hh
    · by_cases g2 : (z.1 : Int) ≤ la
      · rw [if_pos (.inr g2)] at hh
        refine Yr1 (fa5 @e0 @e6 @eL.eq_1 @hlt @hd) ?_;intro K hK
        refine Yc1 (rlong_L hzo) (fa6 @e0 @e6 @eL.eq_1 @hlt @hd @g1) ?_
        refine Yc1 (rat_L hzo) (fa2 @h5 @g2) ?_
        refine hK _ ?_;clear hK K;try refine Wh0 ?_
        refine Yt0 ?_
        refine Yg0 ?_
        refine Ye0 ?_;try (with_reducible exact trivial)
        exact hh
      · rw [if_neg (by omega)] at hh
        have hws : IntKind.i64.wrap ((z.1 : Int) + (z.2 : Int)) = (fin z : Int) := by
          obtain ⟨h1,h2⟩ := hzo
          unfold big at h1 h2
          rw [w64 (by omega)];unfold fin;omega
        refine Yr1 (fa5 @e0 @e6 @eL.eq_1 @hlt @hd) ?_;intro K hK
        refine Yc1 (rlong_L hzo) (fa6 @e0 @e6 @eL.eq_1 @hlt @hd @g1) ?_
        refine Yc1 (rat_L hzo) (fa2 @h5 @g2) ?_
        refine hK _ ?_;clear hK K;try refine Wh0 ?_
        refine Yf0 ?_
        refine Yn1 (fa5 @e0 @e6 @eL.eq_1 @hlt @hd) ?_;intro K hK
        refine Yc1 (rat_L hzo) (fa5 @e0 @e6 @eL.eq_1 @hlt @hd) ?_
        refine Yc1 (rlong_L hzo) @hws ?_
        refine hK _ ?_;clear hK K;try refine Wh0 ?_
        refine Yg1 (fa2 @e6 @hw) ?_
        exact ⟨n - 1,by omega,i + 1,_,by omega,(Yq1 @e0),Yq0,(Yq1 @h1),Yq0,hh,(Yq1 @hmd)⟩
  · refine Yg1 (fa3 @e0 @e6 @eL.eq_1) ?_
    refine Yf1 @hlt ?_
    refine LW_exit ?_;simp only [thenL,jumpsL,inBlockL,twoL,reduceIte,Nat.reduceEqDiff]
    rw [List.drop_of_length_le (by omega)] at hh
    rw [← hh]
    refine Yg1 (fa2 @h5 @h1) ?_
    refine Ye0 ?_;try (with_reducible exact trivial)
    rfl
end Go.Proofs.YtbffcndmcaeamaaDoor
end
section
set_option linter.unusedSimpArgs false
set_option linter.unusedVariables false
namespace Go.Proofs.YtbffcndmcaeamaaDoor
open Nat renaming reduceAdd → zz1,reduceMul → zz2,reduceSub → zz3,reduceLT → zz4,reduceLeDiff → zz5,reduceEqDiff → zz6,reduceBEq → zzf
open Int renaming reduceAdd → zz7,reduceSub → zz8,reduceMul → zz9,reduceLT → zza,reduceLE → zzb,reduceEq → zzc,reduceNeg → zzd,reduceToNat → zze
open Op renaming operands → zo
open Call renaming operands → zc
open Go.RowKit Go.Proofs AclSpec MetaSpec NodeSpec GSort Flo Ext

set_option maxRecDepth 100000 in
set_option maxHeartbeats 2000000 in
theorem rdata_L (n : FNode) (h : small n) : LCalls Tryd.prog 39 [.agg (nodeL n)] (boolL (mayFileN n)) := by
  have hl := h.2.2.1
  have cb := rbytes_L n h
  have ce := rextents_L n h
  have cm := rmayExt_L (extN n) (extN_ok n) (by rw [extN_len];exact hl) n.size
  simp only [nodeL,attrsL,acesL,piecesL] at cb ce
  refine LCalls.of (fun _ => false) Tryd.func39 rfl (by decide) Tryd.ntmps39 Tryd.results39 (by simp) ?_
  intro w0 S0 vs hgl hwf0 hsz hvs;clear hsz hvs hwf0 hgl
  generalize hR : mayFileN n = R
  unfold mayFileN at hR
  refine Yg1 (fa4 @nodeL.eq_1 @piecesL.eq_1 @attrsL.eq_1 @acesL.eq_1) ?_
  refine LW_joinB (fun st => st.env 1 = .ptr 1 0 ∧ st.box 1 = some (nodeL n) ∧ (st.mode = fun _ => false) ∧ n.dat.all okPiece = true) ?_ ?_
  · refine LW_loop (fun k st => ∃ i : Nat,k + i = n.dat.length ∧ st.env 1 = .ptr 1 0 ∧ st.box 1 = some (nodeL n) ∧ (st.mode = fun _ => false) ∧ st.env 3 = intL i ∧ (n.dat.take i).all okPiece = true) n.dat.length ⟨0,by omega,rfl,rfl,rfl,rfl,rfl⟩ ?_
    rintro k st ⟨i,hk,e1,b1,hmd,e3,hall⟩
    simp only [nodeL,piecesL,rowL,attrsL,acesL] at b1
    by_cases hlt : i < n.dat.length
    · obtain ⟨p,hp⟩ := get_of_lt hlt
      have hd := drop_piece hp
      have hw := w64s (n := i) (by omega)
      refine Yg1 (fa3 @e1 @b1 @e3) ?_
      refine Yt1 @hlt ?_
      have hbad : okPiece p = false → n.dat.all okPiece = false := fun hb => by rw [List.all_eq_false];exact ⟨p,List.mem_of_getElem? hp,by simp [hb]⟩
      by_cases k2 : p.pos < 0
      · refine Yg1 (fa6 @e1 @b1 @e3 @hlt @hd @k2) ?_
        refine Yt0 ?_
        refine Yg0 ?_
        refine Ye0 ?_;try (with_reducible exact trivial)
        rw [← hR,hbad (by unfold okPiece;simp [k2])];simp
      by_cases k3 : 1099511627776 < p.pos
      · refine Yg1 (fa7 @e1 @b1 @e3 @hlt @hd @k2 @k3) ?_
        refine Yt0 ?_
        refine Yg0 ?_
        refine Ye0 ?_;try (with_reducible exact trivial)
        rw [← hR,hbad (by unfold okPiece;simp [k3])];simp
      by_cases k1 : (p.dat.length : Int) = 0
      · have k1' : p.dat = [] := List.eq_nil_of_length_eq_zero (by omega)
        refine Yg1 (fa8 @e1 @b1 @e3 @hlt @hd @k2 @k3 @k1) ?_
        refine Yt0 ?_
        refine Yg0 ?_
        refine Ye0 ?_;try (with_reducible exact trivial)
        rw [← hR,hbad (by unfold okPiece;simp [k1'])];simp
      have k1' : ¬ p.dat = [] := fun h => k1 (by rw [h];rfl)
      refine Yg1 (fa8 @e1 @b1 @e3 @hlt @hd @k2 @k3 @k1) ?_
      refine Yf0 ?_
      refine Yg1 (fa2 @e3 @hw) ?_
      refine ⟨k - 1,by omega,i + 1,by omega,(Yq1 @e1),?_,(Yq1 @hmd),Yq0,okPiece_take hp hall (by unfold okPiece;simp [k1',k2,k3])⟩
      simp only [LZ,zo,zc,reduceCtorEq,reduceIte,zz1,zz2,zz3,zz4,zz5,zz6,zz7,zz8,zz9,zza,zzb,zzc,zzd,zze,zzf,b1,nodeL,piecesL,attrsL,acesL]
    · refine Yg1 (fa3 @e1 @b1 @e3) ?_
      refine Yf1 @hlt ?_
      refine LW_exit ?_;simp only [thenL,jumpsL,inBlockL,twoL,reduceIte,Nat.reduceEqDiff]
      rw [List.take_of_length_le (by omega)] at hall
      exact ⟨(Yq1 @e1),(Yq1 (fa5 @b1 @nodeL.eq_1 @piecesL.eq_1 @attrsL.eq_1 @acesL.eq_1)),(Yq1 @hmd),hall⟩
  rintro st ⟨e1,b1,hmd,hall⟩
  simp only [nodeL,piecesL,rowL,attrsL,acesL] at b1
  rw [hall,Bool.and_true] at hR
  by_cases g1 : 0 ≤ n.size
  rotate_left
  · have g1' : n.size < 0 := by omega
    refine Yn1 (fa4 @e1 @b1 @g1 @hmd) ?_;intro K hK
    refine hK _ ?_;clear hK K;try refine Wh0 ?_
    refine Ye0 ?_;try (with_reducible exact trivial)
    rw [← hR];simp [g1']
  by_cases g2 : n.size ≤ 1099511627776
  rotate_left
  · have g2' : 1099511627776 < n.size := by omega
    refine Yn1 (fa5 @e1 @b1 @g1 @g2 @hmd) ?_;intro K hK
    refine hK _ ?_;clear hK K;try refine Wh0 ?_
    refine Ye0 ?_;try (with_reducible exact trivial)
    rw [← hR];simp [g2']
  have g1' : ¬ n.size < 0 := by omega
  have g2' : ¬ 1099511627776 < n.size := by omega
  by_cases g4 : (bytesN n : Int) ≤ 4000
  rotate_left
  · have g4' : ¬ bytesN n ≤ 4000 := by omega
    refine Yn1 (fa5 @e1 @b1 @g1 @g2 @hmd) ?_;intro K hK
    refine Yc1 (cb) (fa3 @e1 @b1 @g4) ?_
    refine hK _ ?_;clear hK K;try refine Wh0 ?_
    refine Ye0 ?_;try (with_reducible exact trivial)
    rw [← hR];simp [g4']
  have g4' : bytesN n ≤ 4000 := by omega
  by_cases g3 : (n.dat.length : Int) ≤ 16
  rotate_left
  · have g3' : 16 < n.dat.length := by omega
    refine Yn1 (fa5 @e1 @b1 @g1 @g2 @hmd) ?_;intro K hK
    refine Yc1 (cb) (fa4 @e1 @b1 @g4 @g3) ?_
    refine hK _ ?_;clear hK K;try refine Wh0 ?_
    refine Ye0 ?_;try (with_reducible exact trivial)
    rw [← hR];simp [g3']
  have g3' : ¬ 16 < n.dat.length := by omega
  refine Yn1 (fa5 @e1 @b1 @g1 @g2 @hmd) ?_;intro K hK
  refine Yc1 (cb) (fa4 @e1 @b1 @g4 @g3) ?_
  refine Yc1 (ce) (fa2 @e1 @b1) ?_
  refine Yc0 (cm) ?_
  refine hK _ ?_;clear hK K;try refine Wh0 ?_
  refine Ye0 ?_;try (with_reducible exact trivial)
  rw [← hR,decide_eq_false g1',decide_eq_false g2',decide_eq_false g3',decide_eq_true g4'];rfl

theorem take_has {l : List UInt8} {i : Nat} {c : UInt8} (h : l[i]? = some c) : (l.take (i + 1)).contains 0 = ((l.take i).contains 0 || c == 0) := by
  obtain ⟨hi,rfl⟩ := List.getElem?_eq_some_iff.1 h
  rw [List.take_succ_eq_append_getElem hi,Bool.eq_iff_iff]
  simp only [List.contains_iff_mem,Bool.or_eq_true,List.mem_append,List.mem_singleton,beq_iff_eq]
  exact or_congr Iff.rfl ⟨Eq.symm,Eq.symm⟩

set_option maxRecDepth 100000 in
set_option maxHeartbeats 4000000 in
theorem rmayNode_L (n : FNode) (h : small n) (ht : n.target.length ≤ maxLen) : LCalls Tryd.prog 28 [.agg (nodeL n)] (boolL (mayN n)) := by
  have ho := small.len h
  have cm := rmmay_L n.mt ho.2.1 ho.1
  have cf := rdata_L n h
  unfold maxLen at ht
  simp only [metaL,attrsL,acesL,rowL] at cm
  simp only [nodeL,attrsL,acesL,piecesL,rowL] at cf
  refine LCalls.of (fun _ => false) Tryd.func28 rfl (by decide) Tryd.ntmps28 Tryd.results28 (by simp) ?_
  intro w0 S0 vs hgl hwf0 hsz hvs;clear hsz hvs hwf0 hgl
  generalize hR : mayN n = R
  unfold mayN at hR
  refine Yg1 (fa4 @nodeL.eq_1 @piecesL.eq_1 @attrsL.eq_1 @acesL.eq_1) ?_
  cases g3 : mayM n.mt
  · rw [g3] at cm
    refine Yr0 ?_;intro K hK
    refine Yc0 (cm) ?_
    refine hK _ ?_;clear hK K;try refine Wh0 ?_
    refine Yt0 ?_
    refine Yg0 ?_
    refine Ye0 ?_;try (with_reducible exact trivial)
    rw [← hR];simp [g3]
  rw [g3] at cm hR
  refine Yr0 ?_;intro K hK
  refine Yc0 (cm) ?_
  refine hK _ ?_;clear hK K;try refine Wh0 ?_
  refine Yf0 ?_
  obtain ⟨nd,hnd⟩ : ∃ nd,(decide (n.size = 0) && decide (n.dat = [])) = nd := ⟨_,rfl⟩
  obtain ⟨nt,hnt⟩ : ∃ nt,decide (n.target = []) = nt := ⟨_,rfl⟩
  obtain ⟨nv,hnv⟩ : ∃ nv,noDev n = nv := ⟨_,rfl⟩
  rw [hnd,hnt,hnv] at hR
  refine LW_slim (fun st => st.env 1 = .ptr 1 0 ∧ st.box 1 = some [intL n.kind,intL n.mt.mode,intL n.mt.uid,intL n.mt.gid,intL n.mt.time,.sl n.mt.attrs.length (n.mt.attrs.flatMap attrL) .no,.sl n.mt.acl.length (n.mt.acl.flatMap aceL) .no,intL n.size,.sl n.dat.length (n.dat.flatMap pieceL) .no,strL n.target,intL n.major,intL n.minor]) ⟨Yq0,Yq0⟩ ?_
  rintro st ⟨e1,b1⟩
  refine LW_seq ?_
  refine LW_join (fun st => st.env 1 = .ptr 1 0 ∧ st.box 1 = some [intL n.kind,intL n.mt.mode,intL n.mt.uid,intL n.mt.gid,intL n.mt.time,.sl n.mt.attrs.length (n.mt.attrs.flatMap attrL) .no,.sl n.mt.acl.length (n.mt.acl.flatMap aceL) .no,intL n.size,.sl n.dat.length (n.dat.flatMap pieceL) .no,strL n.target,intL n.major,intL n.minor] ∧ st.env 3 = boolL nd) ?_ ?_
  · by_cases s0 : n.size = 0
    · by_cases d0 : (n.dat.length : Int) = 0
      · have d0' : n.dat = [] := List.eq_nil_of_length_eq_zero (by omega)
        have e3 : nd = true := by rw [← hnd,decide_eq_true s0,decide_eq_true d0'];rfl
        rw [e3]
        refine Yg1 (fa4 @e1 @b1 @s0 @d0) ?_
        exact ⟨(Yq1 @e1),(Yq1 @b1),Yq0⟩
      · have d0' : ¬ n.dat = [] := fun h => d0 (by rw [h];rfl)
        have e3 : nd = false := by rw [← hnd,decide_eq_true s0,decide_eq_false d0'];rfl
        rw [e3]
        refine Yg1 (fa4 @e1 @b1 @s0 @d0) ?_
        exact ⟨(Yq1 @e1),(Yq1 @b1),Yq0⟩
    · have e3 : nd = false := by rw [← hnd,decide_eq_false s0];rfl
      rw [e3]
      refine Yg1 (fa3 @e1 @b1 @s0) ?_
      exact ⟨(Yq1 @e1),(Yq1 @b1),Yq0⟩
  clear e1 b1 st
  rintro st ⟨e1,b1,e3⟩
  refine LW_seq ?_
  refine LW_join (fun st => st.env 1 = .ptr 1 0 ∧ st.box 1 = some [intL n.kind,intL n.mt.mode,intL n.mt.uid,intL n.mt.gid,intL n.mt.time,.sl n.mt.attrs.length (n.mt.attrs.flatMap attrL) .no,.sl n.mt.acl.length (n.mt.acl.flatMap aceL) .no,intL n.size,.sl n.dat.length (n.dat.flatMap pieceL) .no,strL n.target,intL n.major,intL n.minor] ∧ st.env 3 = boolL nd ∧ st.env 4 = boolL nt) ?_ ?_
  · refine Yg1 (fa3 @e1 @b1 @hnt) ?_
    exact ⟨(Yq1 @e1),(Yq1 @b1),(Yq1 @e3),(Yq1 @hnt)⟩
  clear e1 b1 e3 st
  rintro st ⟨e1,b1,e3,e4⟩
  refine LW_seq ?_
  refine LW_join (fun st => st.env 1 = .ptr 1 0 ∧ st.box 1 = some [intL n.kind,intL n.mt.mode,intL n.mt.uid,intL n.mt.gid,intL n.mt.time,.sl n.mt.attrs.length (n.mt.attrs.flatMap attrL) .no,.sl n.mt.acl.length (n.mt.acl.flatMap aceL) .no,intL n.size,.sl n.dat.length (n.dat.flatMap pieceL) .no,strL n.target,intL n.major,intL n.minor] ∧ st.env 3 = boolL nd ∧ st.env 4 = boolL nt ∧ st.env 5 = boolL nv) ?_ ?_
  · by_cases m0 : n.major = 0
    · have e5 : nv = decide (n.minor = 0) := by rw [← hnv];unfold noDev;rw [decide_eq_true m0,Bool.true_and]
      rw [e5]
      refine Yg1 (fa3 @e1 @b1 @m0) ?_
      exact ⟨(Yq1 @e1),(Yq1 @b1),(Yq1 @e3),(Yq1 @e4),Yq0⟩
    · have e5 : nv = false := by rw [← hnv];unfold noDev;rw [decide_eq_false m0,Bool.false_and]
      rw [e5]
      refine Yg1 (fa3 @e1 @b1 @m0) ?_
      exact ⟨(Yq1 @e1),(Yq1 @b1),(Yq1 @e3),(Yq1 @e4),Yq0⟩
  clear e1 b1 e3 e4 st
  rintro st ⟨e1,b1,e3,e4,e5⟩
  by_cases k1 : n.kind = 1
  · refine Yg1 (fa3 @e1 @b1 @k1) ?_
    refine Yt1 @k1 ?_
    refine Yg0 ?_
    refine Yt1 @k1 ?_
    cases nd
    · refine Yg1 @e3 ?_
      refine Ye0 ?_;try (with_reducible exact trivial)
      rw [← hR];simp [k1]
    cases nt
    · refine Yg1 (fa2 @e3 @e4) ?_
      refine Ye0 ?_;try (with_reducible exact trivial)
      rw [← hR];simp [k1]
    refine Yg1 (fa3 @e3 @e4 @e5) ?_
    refine Ye0 ?_;try (with_reducible exact trivial)
    rw [← hR];simp [k1]
  by_cases k6 : n.kind = 6
  · refine Yg1 (fa3 @e1 @b1 @k6) ?_
    refine Yf1 @k6 ?_
    refine Yg1 @k6 ?_
    refine Yt1 @k6 ?_
    cases nd
    · refine Yg1 @e3 ?_
      refine Ye0 ?_;try (with_reducible exact trivial)
      rw [← hR];simp [k6]
    cases nt
    · refine Yg1 (fa2 @e3 @e4) ?_
      refine Ye0 ?_;try (with_reducible exact trivial)
      rw [← hR];simp [k6]
    refine Yg1 (fa3 @e3 @e4 @e5) ?_
    refine Ye0 ?_;try (with_reducible exact trivial)
    rw [← hR];simp [k6]
  refine Yg1 (fa2 @e1 @b1) ?_
  refine Yf1 @k1 ?_
  refine Yg1 @k6 ?_
  refine Yf1 @k6 ?_
  by_cases k2 : n.kind = 2
  · refine Yg1 @k2 ?_
    refine Yt1 @k2 ?_
    cases hf : mayFileN n
    · rw [hf] at cf hR
      refine Yr1 (fa2 @e1 @b1) ?_;intro K hK
      refine Yc1 (cf) (fa2 @e4 @e5) ?_
      refine hK _ ?_;clear hK K;try refine Wh0 ?_
      refine Ye0 ?_;try (with_reducible exact trivial)
      rw [← hR];simp [k2]
    rw [hf] at cf hR
    cases nt
    · refine Yr1 (fa2 @e1 @b1) ?_;intro K hK
      refine Yc1 (cf) (fa2 @e4 @e5) ?_
      refine hK _ ?_;clear hK K;try refine Wh0 ?_
      refine Ye0 ?_;try (with_reducible exact trivial)
      rw [← hR];simp [k2]
    refine Yr1 (fa2 @e1 @b1) ?_;intro K hK
    refine Yc1 (cf) (fa2 @e4 @e5) ?_
    refine hK _ ?_;clear hK K;try refine Wh0 ?_
    refine Ye0 ?_;try (with_reducible exact trivial)
    rw [← hR];simp [k2]
  refine Yg1 @k2 ?_
  refine Yf1 @k2 ?_
  by_cases k3 : n.kind = 3
  · refine Yg1 @k3 ?_
    refine Yt1 @k3 ?_
    refine Yg0 ?_
    refine LW_slim (fun st => st.env 1 = .ptr 1 0 ∧ st.box 1 = some [intL n.kind,intL n.mt.mode,intL n.mt.uid,intL n.mt.gid,intL n.mt.time,.sl n.mt.attrs.length (n.mt.attrs.flatMap attrL) .no,.sl n.mt.acl.length (n.mt.acl.flatMap aceL) .no,intL n.size,.sl n.dat.length (n.dat.flatMap pieceL) .no,strL n.target,intL n.major,intL n.minor] ∧ st.env 3 = boolL nd ∧ st.env 5 = boolL nv ∧ st.env 6 = intL (0 : Nat)) ⟨(Yq1 @e1),(Yq1 @b1),(Yq1 @e3),(Yq1 @e5),Yq0⟩ ?_
    clear e1 b1 e3 e4 e5 st
    rintro st ⟨e1,b1,e3,e5,e6⟩
    refine LW_joinB (fun st => st.env 1 = .ptr 1 0 ∧ st.box 1 = some [intL n.kind,intL n.mt.mode,intL n.mt.uid,intL n.mt.gid,intL n.mt.time,.sl n.mt.attrs.length (n.mt.attrs.flatMap attrL) .no,.sl n.mt.acl.length (n.mt.acl.flatMap aceL) .no,intL n.size,.sl n.dat.length (n.dat.flatMap pieceL) .no,strL n.target,intL n.major,intL n.minor] ∧ st.env 3 = boolL nd ∧ st.env 5 = boolL nv ∧ n.target.contains 0 = false) ?_ ?_
    · refine LW_loop (fun m st => ∃ i : Nat,m + i = n.target.length ∧ st.env 1 = .ptr 1 0 ∧ st.box 1 = some [intL n.kind,intL n.mt.mode,intL n.mt.uid,intL n.mt.gid,intL n.mt.time,.sl n.mt.attrs.length (n.mt.attrs.flatMap attrL) .no,.sl n.mt.acl.length (n.mt.acl.flatMap aceL) .no,intL n.size,.sl n.dat.length (n.dat.flatMap pieceL) .no,strL n.target,intL n.major,intL n.minor] ∧ st.env 3 = boolL nd ∧ st.env 5 = boolL nv ∧ st.env 6 = intL i ∧ (n.target.take i).contains 0 = false) n.target.length ⟨0,by omega,e1,b1,e3,e5,e6,by simp⟩ ?_
      clear e1 b1 e3 e5 e6 st
      rintro m st ⟨i,hm,e1,b1,e3,e5,e6,hz⟩
      by_cases hlt : i < n.target.length
      · obtain ⟨c,hc⟩ := get_of_lt hlt
        have hth := take_has hc
        rw [hz,Bool.false_or] at hth
        have g1 : (i : Int) < n.target.length := by omega
        have hw := w64s (n := i) (by omega)
        refine Yg1 (fa4 @e1 @b1 @e6 @g1) ?_
        refine Yt1 @g1 ?_
        by_cases c0 : (c.toNat : Int) = 0
        · have c0' : c = 0 := by apply UInt8.toNat_inj.1;show c.toNat = 0;omega
          refine Yg1 (fa6 @e1 @b1 @e6 @g1 @hc @c0) ?_
          refine Yt1 @c0 ?_
          refine Yg0 ?_
          refine Ye0 ?_;try (with_reducible exact trivial)
          have hmem : (0 : UInt8) ∈ n.target := by rw [← c0'];exact List.mem_of_getElem? hc
          rw [← hR];simp [k3,hmem]
        · have c0' : (c == 0) = false := by rw [beq_eq_false_iff_ne];rintro rfl;exact c0 rfl
          rw [c0'] at hth
          refine Yg1 (fa6 @e1 @b1 @e6 @g1 @hc @c0) ?_
          refine Yf1 @c0 ?_
          refine Yg1 (fa2 @e6 @hw) ?_
          exact ⟨m - 1,by omega,i + 1,by omega,(Yq1 @e1),(Yq1 @b1),(Yq1 @e3),(Yq1 @e5),Yq0,hth⟩
      · have g1 : ¬ (i : Int) < n.target.length := by omega
        rw [List.take_of_length_le (by omega)] at hz
        refine Yg1 (fa4 @e1 @b1 @e6 @g1) ?_
        refine Yf1 @g1 ?_
        refine LW_exit ?_;simp only [thenL,jumpsL,inBlockL,twoL,reduceIte,Nat.reduceEqDiff]
        exact ⟨(Yq1 @e1),(Yq1 @b1),(Yq1 @e3),(Yq1 @e5),hz⟩
    clear e1 b1 e3 e5 e6 st
    rintro st ⟨e1,b1,e3,e5,hz⟩
    rw [hz] at hR
    cases nd
    · refine Yg1 (fa3 @e1 @b1 @e3) ?_
      refine Ye0 ?_;try (with_reducible exact trivial)
      rw [← hR];simp [k3]
    cases nv
    · refine Yg1 (fa4 @e1 @b1 @e3 @e5) ?_
      refine Ye0 ?_;try (with_reducible exact trivial)
      rw [← hR];simp [k3]
    by_cases t1 : (1 : Int) ≤ n.target.length
    · have t1' : 1 ≤ n.target.length := by omega
      by_cases t2 : (n.target.length : Int) ≤ 200
      · have t2' : n.target.length ≤ 200 := by omega
        refine Yg1 (fa6 @e1 @b1 @e3 @e5 @t1 @t2) ?_
        refine Ye0 ?_;try (with_reducible exact trivial)
        rw [← hR];simp [k3,t1',t2']
      · have t2' : ¬ n.target.length ≤ 200 := by omega
        refine Yg1 (fa6 @e1 @b1 @e3 @e5 @t1 @t2) ?_
        refine Ye0 ?_;try (with_reducible exact trivial)
        rw [← hR];simp [k3,t1',t2']
    · have t1' : ¬ 1 ≤ n.target.length := by omega
      refine Yg1 (fa5 @e1 @b1 @e3 @e5 @t1) ?_
      refine Ye0 ?_;try (with_reducible exact trivial)
      rw [← hR];simp only [t1',decide_false,Bool.false_and,Bool.and_false,k3];simp
  refine Yg1 @k3 ?_
  refine Yf1 @k3 ?_
  by_cases k45 : n.kind = 4 ∨ n.kind = 5
  · have key : ∀ st : LSt,st.env 1 = .ptr 1 0 → st.box 1 = some [intL n.kind,intL n.mt.mode,intL n.mt.uid,intL n.mt.gid,intL n.mt.time,.sl n.mt.attrs.length (n.mt.attrs.flatMap attrL) .no,.sl n.mt.acl.length (n.mt.acl.flatMap aceL) .no,intL n.size,.sl n.dat.length (n.dat.flatMap pieceL) .no,strL n.target,intL n.major,intL n.minor] → True := fun _ _ _ => trivial
    have hR2 : (nd && nt && decide (0 ≤ n.major) && decide (n.major ≤ 65535) && decide (0 ≤ n.minor) && decide (n.minor ≤ 65535)) = R := by
      rw [← hR];rcases k45 with k | k <;> simp [k,Bool.and_assoc]
    clear hR
    refine LW_slim (fun st => st.env 1 = .ptr 1 0 ∧ st.box 1 = some [intL n.kind,intL n.mt.mode,intL n.mt.uid,intL n.mt.gid,intL n.mt.time,.sl n.mt.attrs.length (n.mt.attrs.flatMap attrL) .no,.sl n.mt.acl.length (n.mt.acl.flatMap aceL) .no,intL n.size,.sl n.dat.length (n.dat.flatMap pieceL) .no,strL n.target,intL n.major,intL n.minor] ∧ st.env 3 = boolL nd ∧ st.env 4 = boolL nt ∧ st.env 32 = intL n.kind) ⟨(Yq1 @e1),(Yq1 @b1),(Yq1 @e3),(Yq1 @e4),Yq0⟩ ?_
    clear e1 b1 e3 e4 e5 st key
    rintro st ⟨e1,b1,e3,e4,e32⟩
    refine LW_seq ?_
    refine LW_join (fun st => st.env 1 = .ptr 1 0 ∧ st.box 1 = some [intL n.kind,intL n.mt.mode,intL n.mt.uid,intL n.mt.gid,intL n.mt.time,.sl n.mt.attrs.length (n.mt.attrs.flatMap attrL) .no,.sl n.mt.acl.length (n.mt.acl.flatMap aceL) .no,intL n.size,.sl n.dat.length (n.dat.flatMap pieceL) .no,strL n.target,intL n.major,intL n.minor] ∧ st.env 3 = boolL nd ∧ st.env 4 = boolL nt ∧ st.env 83 = boolL true) ?_ ?_
    · rcases k45 with k4 | k5
      · refine Yg1 (fa2 @e32 @k4) ?_
        refine Yt1 @k4 ?_
        refine Yg0 ?_
        exact ⟨(Yq1 @e1),(Yq1 @b1),(Yq1 @e3),(Yq1 @e4),(Yq1 @k4)⟩
      · have k4 : ¬ n.kind = 4 := by omega
        refine Yg1 (fa2 @e32 @k4) ?_
        refine Yf1 @k4 ?_
        refine Yg1 (fa2 @e32 @k5) ?_
        exact ⟨(Yq1 @e1),(Yq1 @b1),(Yq1 @e3),(Yq1 @e4),(Yq1 @k5)⟩
    clear e1 b1 e3 e4 e32 st
    rintro st ⟨e1,b1,e3,e4,e83⟩
    refine Yt1 @e83 ?_
    cases nd
    · refine Yg1 (fa3 @e1 @b1 @e3) ?_
      refine Ye0 ?_;try (with_reducible exact trivial)
      rw [← hR2];rfl
    cases nt
    · refine Yg1 (fa4 @e1 @b1 @e3 @e4) ?_
      refine Ye0 ?_;try (with_reducible exact trivial)
      rw [← hR2];rfl
    by_cases q1 : 0 ≤ n.major
    rotate_left
    · refine Yg1 (fa5 @e1 @b1 @e3 @e4 @q1) ?_
      refine Ye0 ?_;try (with_reducible exact trivial)
      rw [← hR2];simp [q1]
    by_cases q2 : n.major ≤ 65535
    rotate_left
    · refine Yg1 (fa6 @e1 @b1 @e3 @e4 @q1 @q2) ?_
      refine Ye0 ?_;try (with_reducible exact trivial)
      rw [← hR2];simp [q2]
    by_cases q3 : 0 ≤ n.minor
    rotate_left
    · refine Yg1 (fa7 @e1 @b1 @e3 @e4 @q1 @q2 @q3) ?_
      refine Ye0 ?_;try (with_reducible exact trivial)
      rw [← hR2];simp [q3]
    by_cases q4 : n.minor ≤ 65535
    rotate_left
    · refine Yg1 (fa8 @e1 @b1 @e3 @e4 @q1 @q2 @q3 @q4) ?_
      refine Ye0 ?_;try (with_reducible exact trivial)
      rw [← hR2];simp [q4]
    refine Yg1 (fa8 @e1 @b1 @e3 @e4 @q1 @q2 @q3 @q4) ?_
    refine Ye0 ?_;try (with_reducible exact trivial)
    rw [← hR2];simp [q1,q2,q3,q4]
  have k4 : ¬ n.kind = 4 := fun h => k45 (.inl h)
  have k5 : ¬ n.kind = 5 := fun h => k45 (.inr h)
  refine Yg1 @k4 ?_
  refine Yf1 @k4 ?_
  refine Yg1 @k5 ?_
  refine Yf1 @k5 ?_
  refine Yg0 ?_
  refine Ye0 ?_;try (with_reducible exact trivial)
  have : n.kind < 1 ∨ 6 < n.kind := by omega
  rw [← hR]
  rcases this with c | c <;> simp [c]
end Go.Proofs.YtbffcndmcaeamaaDoor
end
section
set_option linter.unusedSimpArgs false
set_option linter.unusedVariables false
namespace Go.Proofs.YtbffcndmcaeamaaDoor
open Nat renaming reduceAdd → zz1,reduceMul → zz2,reduceSub → zz3,reduceLT → zz4,reduceLeDiff → zz5,reduceEqDiff → zz6,reduceBEq → zzf
open Int renaming reduceAdd → zz7,reduceSub → zz8,reduceMul → zz9,reduceLT → zza,reduceLE → zzb,reduceEq → zzc,reduceNeg → zzd,reduceToNat → zze
open Op renaming operands → zo
open Call renaming operands → zc
open Go.RowKit Go.Proofs AclSpec MetaSpec NodeSpec GSort Flo Ext

set_option maxRecDepth 100000 in
set_option maxHeartbeats 2000000 in
theorem rclip_O (l : List Piece) (lo hi : Int) (hl : l.length ≤ 1000000) (hok : ∀ p ∈ l,okP p) : OCalls Tryd.prog 30 [piecesL l,intL lo,intL hi] ⟨[],[],[]⟩ (.sl (clipP l lo hi).length ((clipP l lo hi).flatMap pieceL) (.row 2000)) ⟨[(2000,(77,(clipP l lo hi).length))],[],[]⟩ := by
  refine OCalls.of (fun _ => false) Tryd.func30 rfl (by decide) Tryd.ntmps30 Tryd.results30 (by simp) ?_
  intro w0 S0 vs
  refine Yg1 @piecesL.eq_1 ?_
  refine LW_nil (k := 7) (q := 1000) (e := 77) rfl ?_
  refine LW_loop (fun n st => ∃ (i : Nat),n + i = l.length ∧ st.env 0 = piecesL l ∧ st.env 1 = intL lo ∧ st.env 2 = intL hi ∧ st.env 7 = .sl (clipP (l.take i) lo hi).length ((clipP (l.take i) lo hi).flatMap pieceL) (.row 1000) ∧ st.row 1000 = some (77,(clipP (l.take i) lo hi).length) ∧ st.env 8 = intL i ∧ st.mode = fun _ => false) l.length ⟨0,by omega,rfl,rfl,rfl,rfl,rfl,rfl,rfl⟩ ?_
  rintro n st ⟨i,hn,e0,e1,e2,e7,r7,e8,hmd⟩
  simp only [piecesL,rowL] at e0
  by_cases hlt : i < l.length
  · obtain ⟨p,hp⟩ := get_of_lt hlt
    obtain ⟨hp0,hp1,hp2⟩ := hok p (List.mem_of_getElem? hp)
    have hd := drop_piece hp
    have hw := w64s (n := i) (by omega)
    have hct := clipP_take lo hi hp
    have hcl := clipP_len (l.take i) lo hi
    rw [List.length_take] at hcl
    have hfl := pieceL_flen (clipP (l.take i) lo hi)
    have hw3 : IntKind.i64.wrap (p.pos + p.dat.length) = p.pos + p.dat.length := w64 (by omega)
    obtain ⟨A,hA,hA1⟩ : ∃ A : Int,(if p.pos > lo then p.pos else lo) = A ∧ A = max lo p.pos := ⟨_,rfl,by split <;> omega⟩
    obtain ⟨B,hB,hB1⟩ : ∃ B : Int,(if p.pos + (p.dat.length : Int) < hi then p.pos + (p.dat.length : Int) else hi) = B ∧ B = min hi (p.pos + p.dat.length) := ⟨_,rfl,by split <;> omega⟩
    rw [← hA1,← hB1] at hct
    generalize hG : clipP (l.take i) lo hi = cp at *
    refine Yg1 (fa2 @e0 @e8) ?_
    refine Yt1 @hlt ?_
    refine Yn1 (fa9 @e0 @e1 @e2 @e8 @hlt @hd @hw3 @hA @hB) ?_;intro K hK
    refine hK _ ?_;clear hK K;try refine Wh0 ?_
    by_cases hab : A < B
    · rw [if_pos hab] at hct
      have hq1 : IntKind.i64.wrap (A - p.pos) = A - p.pos := w64 (by omega)
      have hq2 : IntKind.i64.wrap (B - p.pos) = B - p.pos := w64 (by omega)
      have c1 : 0 ≤ A - p.pos ∧ A - p.pos ≤ B - p.pos ∧ B - p.pos ≤ (p.dat.length : Int) := by omega
      have hc1 : clip1 lo hi p = ⟨A,(p.dat.take (B - p.pos).toNat).drop (A - p.pos).toNat⟩ := by unfold clip1;rw [← hA1,← hB1]
      rw [hc1] at hct
      refine Yg0 ?_
      refine Yt1 @hab ?_
      (repeat (first | refine LW_seq ?_ | (refine LW_skip ?_;simp only [LSj,reduceIte,zze]) | refine LW_block ?_));refine LW_tail 24 (by kernel_rfl) (by kernel_rfl) (by kernel_rfl) (by first | exact rfl | (rw [hmd];exact rfl)) ?_;intro K hK;simp only [LZ,zo,zc,reduceCtorEq,reduceIte,zz1,zz2,zz3,zz4,zz5,zz6,zz7,zz8,zz9,zza,zzb,zzc,zzd,zze,zzf,e0,e7,e8,r7,hlt,hd,hq1,hq2,c1,hfl,hmd]
      refine ⟨by (repeat' apply And.intro) <;> first | omega | (unfold maxLen;omega) | rfl,?_⟩
      refine hK _ ?_;clear hK K;try refine Wh0 ?_
      refine Yg1 (fa2 @e8 @hw) ?_
      refine ⟨n - 1,by omega,i + 1,by omega,(Yq1 (fa2 @e0 @piecesL.eq_1)),(Yq1 @e1),(Yq1 @e2),?_,?_,Yq0,(Yq1 @hmd)⟩
      · simp only [LZ,zo,zc,reduceCtorEq,reduceIte,zz1,zz2,zz3,zz4,zz5,zz6,zz7,zz8,zz9,zza,zzb,zzc,zzd,zze,zzf,e7,hct,List.flatMap_append,List.flatMap_cons,List.flatMap_nil,pieceL]
      · simp only [LZ,zo,zc,reduceCtorEq,reduceIte,zz1,zz2,zz3,zz4,zz5,zz6,zz7,zz8,zz9,zza,zzb,zzc,zzd,zze,zzf,hct]
    · rw [if_neg hab,List.append_nil] at hct
      refine Yg0 ?_
      refine Yf1 @hab ?_
      refine Yg1 (fa2 @e8 @hw) ?_
      refine ⟨n - 1,by omega,i + 1,by omega,(Yq1 (fa2 @e0 @piecesL.eq_1)),(Yq1 @e1),(Yq1 @e2),?_,?_,Yq0,(Yq1 @hmd)⟩
      · rw [hct];exact (Yq1 @e7)
      · rw [hct];exact (Yq1 @r7)
  · refine Yg1 (fa2 @e0 @e8) ?_
    refine Yf1 @hlt ?_
    refine LW_exit ?_;simp only [thenL,jumpsL,inBlockL,twoL,reduceIte,Nat.reduceEqDiff]
    rw [List.take_of_length_le (by omega)] at e7 r7
    refine Yg1 @e7 ?_
    refine LW_ret ?_;simp only [thenL,jumpsL,inBlockL,twoL,bodyO];refine ⟨[(1000,2000)],rfl,?_⟩;simp only [thenL,jumpsL,inBlockL,twoL,bodyQ,LV.lit.injEq,LV.tup.injEq,LV.agg.injEq,LV.sl.injEq,List.cons.injEq,Value.int.injEq,Value.bool.injEq,Value.string.injEq,ByteArray.mk.injEq,exists_eq_left',exists_eq_left,exists_eq_right,LZ,zo,zc,reduceCtorEq,reduceIte,zz1,zz2,zz3,zz4,zz5,zz6,zz7,zz8,zz9,zza,zzb,zzc,zzd,zze,zzf,e7,r7]
theorem rclip_L (l : List Piece) (lo hi : Int) (hl : l.length ≤ 1000000) (hok : ∀ p ∈ l,okP p) : LCalls Tryd.prog 30 [piecesL l,intL lo,intL hi] (piecesL (clipP l lo hi)) := (rclip_O l lo hi hl hok).toL

theorem pieces_snoc (r : List Piece) (y : Piece) : (r ++ [y]).flatMap pieceL = r.flatMap pieceL ++ [intL y.pos,strL y.dat] := by rw [List.flatMap_append];rfl
theorem stepJ_take {l : List Piece} {i : Nat} {p : Piece} (h : l[i]? = some p) : (l.take (i + 1)).foldl stepJ [] = stepJ ((l.take i).foldl stepJ []) p := by
  obtain ⟨hi,rfl⟩ := List.getElem?_eq_some_iff.1 h
  rw [List.take_succ_eq_append_getElem hi,List.foldl_append];rfl
set_option maxRecDepth 100000 in
set_option maxHeartbeats 2000000 in
theorem rjoined_L (l : List Piece) (hl : l.length ≤ 1000000) (hd0 : DisP l) : LCalls Tryd.prog 31 [piecesL l] (piecesL (joinP l)) := by
  refine LCalls.of (fun _ => false) Tryd.func31 rfl (by decide) Tryd.ntmps31 Tryd.results31 (by simp) ?_
  intro w0 S0 vs hgl hwf0 hsz hvs;clear hsz hvs hwf0 hgl
  refine Yg1 @piecesL.eq_1 ?_
  refine LW_nilB (k := 3) (q := 3) (e := 77) rfl ?_
  refine LW_loop (fun n st => ∃ (i : Nat),n + i = l.length ∧ st.env 0 = piecesL l ∧ st.env 3 = .bsl 3 ((l.take i).foldl stepJ []).length 77 ∧ st.arr 3 = some (((l.take i).foldl stepJ []).flatMap pieceL) ∧ st.env 4 = intL i ∧ st.mode = fun _ => false) l.length ⟨0,by omega,rfl,rfl,rfl,rfl,rfl⟩ ?_
  rintro n st ⟨i,hn,e0,e3,a3,e4,hmd⟩
  simp only [piecesL,rowL] at e0
  by_cases hlt : i < l.length
  · obtain ⟨p,hp⟩ := get_of_lt hlt
    have hpo := hd0.2 p (List.mem_of_getElem? hp)
    have hd := drop_piece hp
    have hw := w64s (n := i) (by omega)
    have hjt := joins_take hd0 i
    have hst := stepJ_take hp
    have hol := joinP_len (l.take i) []
    rw [List.length_take,List.length_nil] at hol
    generalize (l.take i).foldl stepJ [] = out at *
    refine Yg1 (fa2 @e0 @e4) ?_
    refine Yt1 @hlt ?_
    rcases List.eq_nil_or_concat out with rfl | ⟨r,y,rfl⟩
    · simp only [List.flatMap_nil,List.length_nil] at e3 a3
      have hm1 : IntKind.i64.wrap (-1) = -1 := by decide
      have hm2 : ¬ (0 : Int) ≤ -1 := by decide
      have hm3 : IntKind.i64.wrap ((0 : Int) - 1) = -1 := by decide
      refine Yg1 (fa3 @e3 @hm1 @hm3) ?_
      refine Yn1 @hm2 ?_;intro K hK
      refine hK _ ?_;clear hK K;try refine Wh0 ?_
      refine Yf0 ?_
      refine Yr1 (fa7 @e0 @e3 @a3 @e4 @hlt @hd @hmd) ?_;intro K hK
      refine ⟨by (repeat' apply And.intro) <;> first | omega | (unfold maxLen;omega) | (intro _;omega) | decide,?_⟩
      refine hK _ ?_;clear hK K;try refine Wh0 ?_
      refine Yg1 (fa2 @e4 @hw) ?_
      refine ⟨n - 1,by omega,i + 1,by omega,(Yq1 (fa2 @e0 @piecesL.eq_1)),?_,?_,Yq0,(Yq1 @hmd)⟩
      · rw [hst];exact Yq0
      · rw [hst];exact Yq0
    · rw [List.concat_eq_append] at *
      have hyo := hjt.sep.2 y (by simp)
      obtain ⟨hy0,hy1,hy2⟩ := hyo
      have hly : (r ++ [y]).length = r.length + 1 := by simp
      rw [hly] at e3 hol
      rw [pieces_snoc] at a3
      have hfr : (r.flatMap pieceL).length = r.length * 2 := pieceL_flen r
      have hrl : r.length < r.length + 1 := Nat.lt_succ_self _
      have hdr : List.drop (r.length * 2) (r.flatMap pieceL ++ [intL y.pos,strL y.dat]) = [intL y.pos,strL y.dat] := List.drop_left' hfr
      have hdr1 : List.drop (r.length * 2 + 1) (r.flatMap pieceL ++ [intL y.pos,strL y.dat]) = [strL y.dat] := by
        rw [← List.drop_drop,hdr];rfl
      have hwp := w64p (n := r.length + 1) (by omega) (by omega)
      rw [Nat.add_sub_cancel] at hwp
      have hws : IntKind.i64.wrap (y.pos + y.dat.length) = y.pos + y.dat.length := w64 (by omega)
      have hss := stepJ_snoc r y p
      rw [← hst] at hss
      have hr0 : (0 : Int) ≤ (r.length : Int) := by omega
      have hcat : y.dat.length + p.dat.length ≤ 9223372036854775807 := by have := hpo.2;omega
      simp only [intL,strL] at a3 hdr hdr1
      refine Yg1 (fa2 @e3 @hwp) ?_
      refine Yn1 (fa11 @e0 @e3 @a3 @e4 @hlt @hd @hr0 @hrl @hdr @hdr1 @hws) ?_;intro K hK
      refine hK _ ?_;clear hK K;try refine Wh0 ?_
      by_cases hc : y.pos + (y.dat.length : Int) = p.pos
      · rw [if_pos hc] at hss
        have htk : List.take (r.length * 2 + 1) (r.flatMap pieceL ++ [intL y.pos,strL y.dat]) = r.flatMap pieceL ++ [intL y.pos] := by
          rw [show r.length * 2 + 1 = (r.flatMap pieceL).length + 1 by rw [hfr],List.take_append,List.take_of_length_le (by omega)];simp
        have hd2 : List.drop (r.length * 2 + 1 + 1) (r.flatMap pieceL ++ [intL y.pos,strL y.dat]) = [] := by
          apply List.drop_eq_nil_of_le;rw [List.length_append,hfr];exact Nat.le_refl _
        have hd3 : List.drop (r.length * 2 + 2) (r.flatMap pieceL ++ [intL y.pos,strL y.dat]) = [] := hd2
        simp only [intL,strL] at htk hd2 hd3
        refine Yt1 @hc ?_
        (repeat (first | refine LW_seq ?_ | (refine LW_skip ?_;simp only [LSj,reduceIte,zze]) | refine LW_block ?_));refine LW_tail 15 (by kernel_rfl) (by kernel_rfl) (by kernel_rfl) (by first | exact rfl | (rw [hmd];exact rfl)) ?_;intro K hK;simp only [LZ,zo,zc,reduceCtorEq,reduceIte,zz1,zz2,zz3,zz4,zz5,zz6,zz7,zz8,zz9,zza,zzb,zzc,zzd,zze,zzf,e0,e3,a3,e4,hlt,hd,hr0,hrl,hdr,hdr1,htk,hd2,hd3,hfr,hcat,hmd]
        refine ⟨by (repeat' apply And.intro) <;> first | omega | rfl | kernel_rfl,?_⟩
        refine hK _ ?_;clear hK K;try refine Wh0 ?_
        refine LW_exit ?_;simp only [thenL,jumpsL,inBlockL,twoL,reduceIte,Nat.reduceEqDiff]
        refine Yg1 (fa2 @e4 @hw) ?_
        refine ⟨n - 1,by omega,i + 1,by omega,(Yq1 (fa2 @e0 @piecesL.eq_1)),?_,?_,Yq0,(Yq1 @hmd)⟩
        · rw [hss];simp only [List.length_append,List.length_cons,List.length_nil];exact (Yq1 @e3)
        · rw [hss,pieces_snoc];simp only [LZ,zo,zc,reduceCtorEq,reduceIte,zz1,zz2,zz3,zz4,zz5,zz6,zz7,zz8,zz9,zza,zzb,zzc,zzd,zze,zzf,htk,List.append_assoc]
      · rw [if_neg hc] at hss
        refine Yf1 @hc ?_
        refine Yr1 (fa8 @e0 @e3 @a3 @e4 @hlt @hd @hfr @hmd) ?_;intro K hK
        refine ⟨by (repeat' apply And.intro) <;> first | omega | (unfold maxLen;omega) | (intro _;omega) | decide,?_⟩
        refine hK _ ?_;clear hK K;try refine Wh0 ?_
        refine Yg1 (fa2 @e4 @hw) ?_
        refine ⟨n - 1,by omega,i + 1,by omega,(Yq1 (fa2 @e0 @piecesL.eq_1)),?_,?_,Yq0,(Yq1 @hmd)⟩
        · rw [hss];simp only [List.length_append,List.length_cons,List.length_nil];exact Yq0
        · rw [hss,pieces_snoc,pieces_snoc];exact Yq0
  · refine Yg1 (fa2 @e0 @e4) ?_
    refine Yf1 @hlt ?_
    refine LW_exit ?_;simp only [thenL,jumpsL,inBlockL,twoL,reduceIte,Nat.reduceEqDiff]
    rw [List.take_of_length_le (by omega)] at e3 a3
    refine LW_publish 3 (d := 3) (n := (joinP l).length) (e := 77) (cs := (joinP l).flatMap pieceL) e3 a3 (by rw [pieceL_flen,show sizeL Tryd.prog 77 = 2 by kernel_rfl]) ?_
    refine Yg0 ?_
    refine Ye1 @piecesL.eq_1 ?_;try (with_reducible exact trivial)
end Go.Proofs.YtbffcndmcaeamaaDoor
end
section
set_option linter.unusedSimpArgs false
set_option linter.unusedVariables false
namespace Go.Proofs.YtbffcndmcaeamaaDoor
open Go.RowKit Go.Proofs AclSpec MetaSpec NodeSpec GSort Flo Ext

set_option maxRecDepth 100000 in
set_option maxHeartbeats 4000000 in
theorem rcut_L (n : FNode) (h : small n) (htl : n.target.length ≤ maxLen) (s : Int) : LCalls Tryd.prog 17 [.agg (nodeL n),intL s] (.tup [.agg (nodeL (cutN n s).1),intL (cutN n s).2]) := by
  have cm := rmayNode_L n h htl
  simp only [nodeL,attrsL,acesL,piecesL,rowL] at cm
  refine LCalls.of (fun _ => false) Tryd.func17 rfl (by decide) Tryd.ntmps17 Tryd.results17 (by simp) ?_
  intro w0 S0 vs hgl hwf0 hsz hvs;clear hsz hvs hwf0 hgl
  generalize hR : cutN n s = R
  unfold cutN isFileN at hR
  refine Yg1 (fa4 @nodeL.eq_1 @piecesL.eq_1 @attrsL.eq_1 @acesL.eq_1) ?_
  cases g1 : mayN n
  · rw [g1] at cm hR
    refine Yr0 ?_;intro K hK
    refine Yc0 (cm) ?_
    refine hK _ ?_;clear hK K;try refine Wh0 ?_
    refine Yt0 ?_
    refine Yg0 ?_
    refine Ye1 (fa4 @nodeL.eq_1 @piecesL.eq_1 @attrsL.eq_1 @acesL.eq_1) ?_;try (with_reducible exact trivial)
    rw [← hR];simp
  rw [g1] at cm hR
  by_cases g0 : n.kind = 2
  rotate_left
  · refine Yr0 ?_;intro K hK
    refine Yc1 (cm) @g0 ?_
    refine hK _ ?_;clear hK K;try refine Wh0 ?_
    refine Yt0 ?_
    refine Yg0 ?_
    refine Ye1 (fa4 @nodeL.eq_1 @piecesL.eq_1 @attrsL.eq_1 @acesL.eq_1) ?_;try (with_reducible exact trivial)
    rw [← hR];simp [g0]
  by_cases g2 : s < 0
  · refine Yr0 ?_;intro K hK
    refine Yc1 (cm) (fa2 @g0 @g2) ?_
    refine hK _ ?_;clear hK K;try refine Wh0 ?_
    refine Yt0 ?_
    refine Yg0 ?_
    refine Ye1 (fa4 @nodeL.eq_1 @piecesL.eq_1 @attrsL.eq_1 @acesL.eq_1) ?_;try (with_reducible exact trivial)
    rw [← hR];simp [g2,g0]
  by_cases g3 : 1099511627776 < s
  · refine Yr0 ?_;intro K hK
    refine Yc1 (cm) (fa3 @g0 @g2 @g3) ?_
    refine hK _ ?_;clear hK K;try refine Wh0 ?_
    refine Yt0 ?_
    refine Yg0 ?_
    refine Ye1 (fa4 @nodeL.eq_1 @piecesL.eq_1 @attrsL.eq_1 @acesL.eq_1) ?_;try (with_reducible exact trivial)
    rw [← hR];simp [g3,g0]
  have hf : isFileN n = true := by unfold isFileN;rw [decide_eq_true g0,g1];rfl
  rw [if_neg (by simp [g0,g2,g3])] at hR
  have cc := rclip_L n.dat 0 s h.2.2.1 (file_okP hf)
  rw [clip_cut (file_sep hf)] at cc
  simp only [piecesL,rowL] at cc
  refine Yr0 ?_;intro K hK
  refine Yc1 (cm) (fa3 @g0 @g2 @g3) ?_
  refine hK _ ?_;clear hK K;try refine Wh0 ?_
  refine Yf0 ?_
  refine Yr0 ?_;intro K hK
  refine Yc0 (cc) ?_
  refine hK _ ?_;clear hK K;try refine Wh0 ?_
  refine Yg0 ?_
  refine Ye1 (fa4 @nodeL.eq_1 @piecesL.eq_1 @attrsL.eq_1 @acesL.eq_1) ?_;try (with_reducible exact trivial)
  rw [← hR];simp [g0]
end Go.Proofs.YtbffcndmcaeamaaDoor
end
section
set_option linter.unusedSimpArgs false
set_option linter.unusedVariables false
namespace Go.Proofs.YtbffcndmcaeamaaDoor
open Nat renaming reduceAdd → zz1,reduceMul → zz2,reduceSub → zz3,reduceLT → zz4,reduceLeDiff → zz5,reduceEqDiff → zz6,reduceBEq → zzf
open Int renaming reduceAdd → zz7,reduceSub → zz8,reduceMul → zz9,reduceLT → zza,reduceLE → zzb,reduceEq → zzc,reduceNeg → zzd,reduceToNat → zze
open Op renaming operands → zo
open Call renaming operands → zc
open Go.RowKit Go.Proofs AclSpec MetaSpec NodeSpec GSort Flo Ext

set_option maxRecDepth 100000 in
set_option maxHeartbeats 8000000 in
theorem rwrite_L (n : FNode) (h : small n) (htl : n.target.length ≤ maxLen) (a : Int) (s : List UInt8) (hs : s.length ≤ 900000) : LCalls Tryd.prog 16 [.agg (nodeL n),intL a,strL s] (.tup [.agg (nodeL (writeN n a s).1),intL (writeN n a s).2]) := by
  have cm := rmayNode_L n h htl
  simp only [nodeL,attrsL,acesL,piecesL,rowL] at cm
  refine LCalls.of (fun _ => false) Tryd.func16 rfl (by decide) Tryd.ntmps16 Tryd.results16 (by simp) ?_
  intro w0 S0 vs hgl hwf0 hsz hvs;clear hsz hvs hwf0 hgl
  generalize hR : writeN n a s = R
  unfold writeN isFileN at hR
  refine Yg1 (fa4 @nodeL.eq_1 @piecesL.eq_1 @attrsL.eq_1 @acesL.eq_1) ?_
  cases g1 : mayN n
  · rw [g1] at cm hR
    refine Yr0 ?_;intro K hK
    refine Yc0 (cm) ?_
    refine hK _ ?_;clear hK K;try refine Wh0 ?_
    refine Yt0 ?_
    refine Yg0 ?_
    refine Ye1 (fa4 @nodeL.eq_1 @piecesL.eq_1 @attrsL.eq_1 @acesL.eq_1) ?_;try (with_reducible exact trivial)
    rw [← hR];simp
  rw [g1] at cm hR
  by_cases g0 : n.kind = 2
  rotate_left
  · refine Yr0 ?_;intro K hK
    refine Yc1 (cm) @g0 ?_
    refine hK _ ?_;clear hK K;try refine Wh0 ?_
    refine Yt0 ?_
    refine Yg0 ?_
    refine Ye1 (fa4 @nodeL.eq_1 @piecesL.eq_1 @attrsL.eq_1 @acesL.eq_1) ?_;try (with_reducible exact trivial)
    rw [← hR];simp [g0]
  by_cases g2 : a < 0
  · refine Yr0 ?_;intro K hK
    refine Yc1 (cm) (fa2 @g0 @g2) ?_
    refine hK _ ?_;clear hK K;try refine Wh0 ?_
    refine Yt0 ?_
    refine Yg0 ?_
    refine Ye1 (fa4 @nodeL.eq_1 @piecesL.eq_1 @attrsL.eq_1 @acesL.eq_1) ?_;try (with_reducible exact trivial)
    rw [← hR];simp [g2,g0]
  by_cases g3 : 1099511627776 < a
  · refine Yr0 ?_;intro K hK
    refine Yc1 (cm) (fa3 @g0 @g2 @g3) ?_
    refine hK _ ?_;clear hK K;try refine Wh0 ?_
    refine Yt0 ?_
    refine Yg0 ?_
    refine Ye1 (fa4 @nodeL.eq_1 @piecesL.eq_1 @attrsL.eq_1 @acesL.eq_1) ?_;try (with_reducible exact trivial)
    rw [← hR];simp [g3,g0]
  have hf : isFileN n = true := by unfold isFileN;rw [decide_eq_true g0,g1];rfl
  rw [if_neg (by simp [g0,g2,g3])] at hR
  have hsep := file_sep hf
  obtain ⟨_,z1,z2,z3,_⟩ := isFile_ok hf
  refine Yr0 ?_;intro K hK
  refine Yc1 (cm) (fa3 @g0 @g2 @g3) ?_
  refine hK _ ?_;clear hK K;try refine Wh0 ?_
  refine Yf0 ?_
  have hw0 : IntKind.i64.wrap (1099511627776 - a) = 1099511627776 - a := w64 (by omega)
  by_cases g4 : 1099511627776 < a + (s.length : Int)
  · have g4' : 1099511627776 - a < (s.length : Int) := by omega
    rw [if_pos g4] at hR
    refine Yg1 (fa2 @hw0 @g4') ?_
    refine Yt0 ?_
    refine Yg0 ?_
    refine Ye1 (fa4 @nodeL.eq_1 @piecesL.eq_1 @attrsL.eq_1 @acesL.eq_1) ?_;try (with_reducible exact trivial)
    rw [← hR];simp [g0]
  have g4' : ¬ 1099511627776 - a < (s.length : Int) := by omega
  rw [if_neg g4] at hR
  refine Yg1 (fa2 @hw0 @g4') ?_
  refine Yf0 ?_
  by_cases g5 : s = []
  · rw [if_pos g5] at hR
    refine Yg1 @g5 ?_
    refine Yt0 ?_
    refine Yg0 ?_
    refine Ye1 (fa4 @nodeL.eq_1 @piecesL.eq_1 @attrsL.eq_1 @acesL.eq_1) ?_;try (with_reducible exact trivial)
    rw [← hR];simp [g0]
  rw [if_neg g5] at hR
  have hw1 : IntKind.i64.wrap (a + (s.length : Int)) = a + s.length := w64 (by omega)
  refine Yg1 @g5 ?_
  refine Yf0 ?_
  refine Yg1 @hw1 ?_
  refine LW_slim (fun st => st.env 1 = intL a ∧ st.env 2 = strL s ∧ st.env 3 = .ptr 3 0 ∧ st.box 3 = some [intL n.kind,intL n.mt.mode,intL n.mt.uid,intL n.mt.gid,intL n.mt.time,.sl n.mt.attrs.length (n.mt.attrs.flatMap attrL) .no,.sl n.mt.acl.length (n.mt.acl.flatMap aceL) .no,intL n.size,.sl n.dat.length (n.dat.flatMap pieceL) .no,strL n.target,intL n.major,intL n.minor] ∧ st.env 6 = .ptr 6 0 ∧ st.box 6 = some zeroNode ∧ st.env 8 = intL (a + s.length) ∧ st.mode = fun _ => false) ⟨Yq0,Yq0,Yq0,(Yq1 @g0),Yq0,Yq0,Yq0,Yq0⟩ ?_
  rintro st ⟨e1,e2,e3,b3,e6,b6,e8,hmd⟩
  clear cm
  have hj := join_wrote hsep (a := a) (s := s) (by omega) (by omega) g5
  have hdis := around_dis hsep (a := a) (s := s) (by omega) (by omega) g5
  have hok := okP_snoc hsep.2 (a := a) (s := s) (by omega) (by omega) g5
  have hb1 := wrote_bytes hok
  have hb2 := wrote_len (n.dat ++ [(⟨a,s⟩ : Piece)])
  have cj := rjoined_L (aroundP n.dat a s) (by
    unfold aroundP
    have k1 := clipP_len n.dat 0 a
    have k2 := clipP_len n.dat (a + s.length) 1099511627777
    simp only [List.length_append,List.length_cons,List.length_nil];omega) hdis
  rw [hj] at cj
  have co := rclip_O n.dat 0 a h.2.2.1 hsep.2
  have cl := rclip_L n.dat (a + s.length) 1099511627777 h.2.2.1 hsep.2
  unfold aroundP at cj
  have k1 := clipP_len n.dat 0 a
  have k2 := clipP_len n.dat (a + s.length) 1099511627777
  have hR2 : (if 4000 < bytesP (wroteP (n.dat ++ [⟨a,s⟩])) ∨ 16 < (wroteP (n.dat ++ [⟨a,s⟩])).length then (n,13) else ({ n with size := max n.size (a + s.length),dat := wroteP (n.dat ++ [⟨a,s⟩]) },0)) = R := by
    rw [hb1,hb2];exact hR
  clear hR hb1 hb2 hj hdis hok
  have k3 : (wroteP (n.dat ++ [⟨a,s⟩])).length ≤ n.dat.length + 1 := by
    rw [wrote_len]
    have := norm_len (exts (n.dat ++ [⟨a,s⟩]))
    unfold exts at this
    rw [List.length_map,List.length_append] at this
    exact this
  have hbl := wrote_small hsep (a := a) (s := s) (by omega) (by omega) g5
  generalize hc1 : clipP n.dat 0 a = q1 at *
  generalize hc2 : clipP n.dat (a + s.length) 1099511627777 = q2 at *
  generalize hwp : wroteP (n.dat ++ [(⟨a,s⟩ : Piece)]) = wp at *
  simp only [piecesL,rowL,List.length_append,List.length_cons,List.length_nil,List.flatMap_append,List.flatMap_cons,List.flatMap_nil,pieceL,List.append_nil,Nat.zero_add] at cj cl
  have hf1 : (q1.flatMap pieceL).length = q1.length * 2 := pieceL_flen q1
  have hf2 : (q2.flatMap pieceL).length = q2.length * 2 := pieceL_flen q2
  have ho2 := pieceL_one q2
  have hs2 := pieceL_strip q2
  have hbl2 : ∀ p ∈ wp,p.dat.length ≤ 1000000 := fun p hp => by
    have h1 := bytesP_mem hp
    have h2 : bytesP n.dat ≤ 4000 := by have := isFile_ok hf;exact this.2.2.2.2.2.1
    omega
  (repeat (first | refine LW_seq ?_ | (refine LW_skip ?_;simp only [LSj,reduceIte,zze]) | refine LW_block ?_));refine LW_regionO [(47,⟨_,_,_,_,_,[],[(2000,1000)],_,[],(co).toS,rfl,rfl,rfl⟩)] ?_;intro K hK;simp only [LZ,zo,zc,reduceCtorEq,reduceIte,zz1,zz2,zz3,zz4,zz5,zz6,zz7,zz8,zz9,zza,zzb,zzc,zzd,zze,zzf,e1,e2,e3,b3,hmd,hf1]
  refine ⟨by (repeat' apply And.intro) <;> first | omega | (unfold maxLen;omega) | rfl,?_⟩
  refine ⟨by (repeat' apply And.intro) <;> first | omega | (unfold maxLen;omega) | rfl,?_⟩
  refine hK _ ?_;clear hK K;try refine Wh0 ?_
  refine Yr1 (fa7 @e1 @e2 @e3 @b3 @e8 @hmd @hf1) ?_;intro K hK
  refine Yc1 (cl) (fa10 @e1 @e2 @e3 @b3 @e8 @hmd @hf1 @hf2 @ho2 @hs2) ?_
  refine ⟨by (repeat' apply And.intro) <;> first | omega | (unfold maxLen;omega) | rfl | (simp only [List.length_append,List.length_cons,List.length_nil,hf1];omega),?_⟩
  refine Yc0 (cj) ?_
  refine hK _ ?_;clear hK K;try refine Wh0 ?_
  refine Yg1 (fa2 @e3 @b3) ?_
  obtain ⟨sz,hsz,hsz2⟩ : ∃ sz : Int,(if (a + (s.length : Int)) > n.size then (a + (s.length : Int)) else n.size) = sz ∧ sz = max n.size (a + s.length) := ⟨_,rfl,by split <;> omega⟩
  refine LW_slim (fun st => st.env 3 = .ptr 3 0 ∧ st.box 3 = some [intL n.kind,intL n.mt.mode,intL n.mt.uid,intL n.mt.gid,intL n.mt.time,.sl n.mt.attrs.length (n.mt.attrs.flatMap attrL) .no,.sl n.mt.acl.length (n.mt.acl.flatMap aceL) .no,intL n.size,.sl n.dat.length (n.dat.flatMap pieceL) .no,strL n.target,intL n.major,intL n.minor] ∧ st.env 6 = .ptr 6 0 ∧ st.box 6 = some zeroNode ∧ st.env 8 = intL (a + s.length) ∧ st.env 9 = .sl wp.length (wp.flatMap pieceL) .no ∧ st.env 10 = .ptr 10 0 ∧ st.box 10 = some [intL n.kind,intL n.mt.mode,intL n.mt.uid,intL n.mt.gid,intL n.mt.time,.sl n.mt.attrs.length (n.mt.attrs.flatMap attrL) .no,.sl n.mt.acl.length (n.mt.acl.flatMap aceL) .no,intL n.size,.sl n.dat.length (n.dat.flatMap pieceL) .no,strL n.target,intL n.major,intL n.minor] ∧ st.mode = fun _ => false) ⟨(Yq1 @e3),(Yq1 @b3),(Yq1 @e6),by simp only [LZ,zo,zc,reduceCtorEq,reduceIte,zz1,zz2,zz3,zz4,zz5,zz6,zz7,zz8,zz9,zza,zzb,zzc,zzd,zze,zzf,b6,zeroNode],(Yq1 @e8),Yq0,Yq0,(Yq1 (fa2 @e3 @b3)),(Yq1 @hmd)⟩ ?_
  clear e1 e2 e3 b3 e6 b6 e8 hmd st
  rintro st ⟨e3,b3,e6,b6,e8,e9,e10,b10,hmd⟩
  refine LW_join (fun st => st.env 3 = .ptr 3 0 ∧ st.box 3 = some [intL n.kind,intL n.mt.mode,intL n.mt.uid,intL n.mt.gid,intL n.mt.time,.sl n.mt.attrs.length (n.mt.attrs.flatMap attrL) .no,.sl n.mt.acl.length (n.mt.acl.flatMap aceL) .no,intL n.size,.sl n.dat.length (n.dat.flatMap pieceL) .no,strL n.target,intL n.major,intL n.minor] ∧ st.env 6 = .ptr 6 0 ∧ st.box 6 = some zeroNode ∧ st.env 10 = .ptr 10 0 ∧ st.box 10 = some [intL n.kind,intL n.mt.mode,intL n.mt.uid,intL n.mt.gid,intL n.mt.time,.sl n.mt.attrs.length (n.mt.attrs.flatMap attrL) .no,.sl n.mt.acl.length (n.mt.acl.flatMap aceL) .no,intL sz,.sl wp.length (wp.flatMap pieceL) .no,strL n.target,intL n.major,intL n.minor] ∧ st.mode = fun _ => false) ?_ ?_
  · (repeat (first | refine LW_seq ?_ | (refine LW_skip ?_;simp only [LSj,reduceIte,zze]) | refine LW_block ?_));refine LW_mix2 [] [] (fun _ => false) [(0,[]),(1,[3]),(2,[3]),(3,[]),(4,[]),(6,[3]),(8,[3])] [0,1,2,3,4] [[5,6,7,8]] rfl (by kernel_rfl) (by kernel_rfl) (by kernel_rfl) (by first | exact rfl | exact hmd | simp only [LZ,zo,zc,reduceCtorEq,reduceIte,zz1,zz2,zz3,zz4,zz5,zz6,zz7,zz8,zz9,zza,zzb,zzc,zzd,zze,zzf,e3,b3,e8,e9,e10,b10,hsz,hmd]) ?_;intro K hK;simp only [LZ,zo,zc,reduceCtorEq,reduceIte,zz1,zz2,zz3,zz4,zz5,zz6,zz7,zz8,zz9,zza,zzb,zzc,zzd,zze,zzf,e3,b3,e8,e9,e10,b10,hsz,hmd]
    (repeat' apply And.intro)
    all_goals first | omega | rfl | kernel_rfl | (refine hK _ ?_;clear hK K;simp only [LSj,reduceIte,zze];exact ⟨(Yq1 @e3),(Yq1 @b3),(Yq1 @e6),by simp only [LZ,zo,zc,reduceCtorEq,reduceIte,zz1,zz2,zz3,zz4,zz5,zz6,zz7,zz8,zz9,zza,zzb,zzc,zzd,zze,zzf,b6,zeroNode],(Yq1 @e10),Yq0,(Yq1 @hmd)⟩)
  clear e3 b3 e6 b6 e8 e9 e10 b10 hmd st
  rintro st ⟨e3,b3,e6,b6,e10,b10,hmd⟩
  have cb := rbytes_L ({ n with size := sz,dat := wp } : FNode) ⟨h.1,h.2.1,by show wp.length ≤ _;omega,hbl2⟩
  simp only [nodeL,attrsL,acesL,piecesL,rowL] at cb
  rw [show bytesN ({ n with size := sz,dat := wp } : FNode) = bytesP wp from rfl] at cb
  rw [← hsz2] at hR2
  by_cases g6 : (4000 : Int) < bytesP wp
  · rw [if_pos (.inl (by omega))] at hR2
    refine Yr1 (fa2 @e10 @b10) ?_;intro K hK
    refine Yc1 (cb) @g6 ?_
    refine hK _ ?_;clear hK K;try refine Wh0 ?_
    refine Yt0 ?_
    refine Yg1 (fa5 @e3 @b3 @e6 @b6 @zeroNode.eq_1) ?_
    refine Ye1 (fa8 @nodeL.eq_1 @piecesL.eq_1 @attrsL.eq_1 @acesL.eq_1 @e3 @b3 @e6 @b6) ?_;try (with_reducible exact trivial)
    rw [← hR2];simp [g0]
  by_cases g7 : (16 : Int) < wp.length
  · rw [if_pos (.inr (by omega))] at hR2
    refine Yr1 (fa2 @e10 @b10) ?_;intro K hK
    refine Yc1 (cb) (fa4 @e10 @b10 @g6 @g7) ?_
    refine hK _ ?_;clear hK K;try refine Wh0 ?_
    refine Yt0 ?_
    refine Yg1 (fa5 @e3 @b3 @e6 @b6 @zeroNode.eq_1) ?_
    refine Ye1 (fa8 @nodeL.eq_1 @piecesL.eq_1 @attrsL.eq_1 @acesL.eq_1 @e3 @b3 @e6 @b6) ?_;try (with_reducible exact trivial)
    rw [← hR2];simp [g0]
  rw [if_neg (by omega)] at hR2
  refine Yr1 (fa2 @e10 @b10) ?_;intro K hK
  refine Yc1 (cb) (fa4 @e10 @b10 @g6 @g7) ?_
  refine hK _ ?_;clear hK K;try refine Wh0 ?_
  refine Yf0 ?_
  refine Yg1 (fa5 @e10 @b10 @e6 @b6 @zeroNode.eq_1) ?_
  refine Ye1 (fa8 @nodeL.eq_1 @piecesL.eq_1 @attrsL.eq_1 @acesL.eq_1 @e10 @b10 @e6 @b6) ?_;try (with_reducible exact trivial)
  rw [← hR2];simp [g0]
end Go.Proofs.YtbffcndmcaeamaaDoor
end
