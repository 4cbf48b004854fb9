import Derived.Test.YtnmjghcdccfphaaGreatDoorKP3
import Derived.Test.YtnmjghcdccfphaaGreatDoorPRef
import Derived.Test.YtnmjghcdccfphaaGreatDoorKR4
import Derived.Test.YtnmjghcdccfphaaGreatDoorKP6
import Derived.Test.YtnmjghcdccfphaaGreatDoorL26
section
set_option linter.unusedSimpArgs false
set_option linter.unusedVariables false
namespace Go.Proofs.YtnmjghcdccfphaaGreatDoor
open Go.RowKit Go.Proofs AclSpec MetaSpec NodeSpec RecSpec PathSpec PageSpec

set_option maxRecDepth 100000 in
theorem qlong_L (s : List UInt8) (hs : s.length ≤ 1000000) : LCalls Tryz.prog 44 [strL s] (intL (lenS s)) := by
 refine LCalls.of (fun _ => false) Tryz.func44 rfl (by decide) Tryz.ntmps44 Tryz.results44 (by simp) ?_
 intro w0 S0 vs hgl hwf0 hsz hvs;clear hsz hvs hwf0 hgl
 generalize hR : lenS s = R
 refine Yg0 ?_
 refine LW_joinB (fun st => ∃ n : Nat,n ≤ 99999 ∧ st.env 0 = strL s ∧ st.env 3 = intL n ∧ ((4 < s.length ∨ 4000 < n) → R = 0) ∧ (¬ (4 < s.length ∨ 4000 < n) → R = n)) ?_ ?_
 ·refine LW_loop (fun k st => ∃ i n : Nat,k + i = 5 ∧ i ≤ 5 ∧ i ≤ s.length ∧ n < 10 ^ i ∧ numD (s.take i) 0 = some n ∧ (0 < i → s.head? ≠ some 48) ∧ st.env 0 = strL s ∧ st.env 3 = intL n ∧ st.env 4 = intL i) 5 ⟨0,0,by omega,by omega,by omega,by decide,by rw [List.take_zero];rfl,fun h => absurd h (by omega),Yq0,Yq0,Yq0⟩ ?_
  rintro k st ⟨i,n,hki,hi5,hil,hn,hnum,hhd,e0,e3,e4⟩
  have hn5 : n < 100000 := Nat.lt_of_lt_of_le hn (Nat.pow_le_pow_right (by decide) hi5)
  by_cases hlt : i < s.length
  rotate_left
  ·have hlti : ¬ ((i : Int) < (s.length : Int)) := by omega
   refine Yg1 (fa3 @e0 @e4 @hlti) ?_
   refine Yf0 ?_
   refine LW_exit ?_;simp only [thenL,jumpsL,inBlockL,twoL,reduceIte,Nat.reduceEqDiff]
   rw [List.take_of_length_le (by omega)] at hnum
   refine ⟨n,by omega,(Yq1 @e0),(Yq1 @e3),fun h => ?_,fun h => ?_⟩
   ·rcases h with h | h
    ·rw [← hR];exact lenS_long h
    ·rw [← hR];unfold lenS
     split
     ·rfl
     ·rw [hnum];simp only;rw [if_pos h]
   ·rw [← hR];unfold lenS
    rw [if_neg,hnum]
    ·simp only;rw [if_neg (by omega)]
    ·rintro (c | c)
     ·exact h (.inl c)
     ·by_cases h0 : 0 < i
      ·exact hhd h0 c
      ·have : s = [] := List.eq_nil_of_length_eq_zero (by omega)
       rw [this] at c;cases c
  have hlti : ((i : Int) < (s.length : Int)) = True := eq_true (by omega)
  by_cases h5 : i < 5
  rotate_left
  ·have h5i : ¬ ((i : Int) < 5) := by omega
   refine Yg1 (fa4 @e0 @e4 @hlti @h5i) ?_
   refine Yf0 ?_
   refine LW_exit ?_;simp only [thenL,jumpsL,inBlockL,twoL,reduceIte,Nat.reduceEqDiff]
   exact ⟨n,by omega,(Yq1 @e0),(Yq1 @e3),fun _ => by rw [← hR];exact lenS_long (by omega),fun h => absurd (.inl (by omega)) h⟩
  have h5i : ((i : Int) < 5) = True := eq_true (by omega)
  obtain ⟨c,hc⟩ := get_of_lt hlt
  obtain ⟨c0,hc0⟩ := get_of_lt (l := s) (i := 0) (by omega)
  have hg : (i : Int) < s.length := by omega
  have hg0 : ((0 : Int) < (s.length : Int)) = True := eq_true (by omega)
  have hw := w64s (n := i) (by omega)
  have hcn := c.toNat_lt
  refine Yg1 (fa4 @e0 @e4 @hlti @h5i) ?_
  refine Yt0 ?_
  by_cases h1 : c.toNat < 48
  ·have h1i : ((c.toNat : Int) < 48) = True := eq_true (by omega)
   refine Yg1 (fa5 @e0 @e4 @hg @hc @h1i) ?_
   refine Yt0 ?_
   refine Yg0 ?_
   refine Ye0 ?_;try (with_reducible exact trivial)
   rw [← hR,lenS_bad hc (by unfold digB;simp;omega)];rfl
  have h1i : ¬ ((c.toNat : Int) < 48) := by omega
  by_cases h2 : 57 < c.toNat
  ·have h2i : ((57 : Int) < (c.toNat : Int)) = True := eq_true (by omega)
   refine Yg1 (fa6 @e0 @e4 @hg @hc @h1i @h2i) ?_
   refine Yt0 ?_
   refine Yg0 ?_
   refine Ye0 ?_;try (with_reducible exact trivial)
   rw [← hR,lenS_bad hc (by unfold digB;simp;omega)];rfl
  have h2i : ¬ ((57 : Int) < (c.toNat : Int)) := by omega
  have hz : (0 : Int).toNat = 0 := rfl
  by_cases h3 : c0.toNat = 48
  ·have h3i : ((c0.toNat : Int) = 48) = True := eq_true (by omega)
   refine Yg1 (fa10 @e0 @e4 @hg @hc @hg0 @hz @hc0 @h1i @h2i @h3i) ?_
   refine Yt0 ?_
   refine Yg0 ?_
   refine Ye0 ?_;try (with_reducible exact trivial)
   rw [← hR,lenS_head (by rw [List.head?_eq_getElem?,hc0];congr 1;exact UInt8.toNat_inj.1 h3)];rfl
  have h3i : ¬ ((c0.toNat : Int) = 48) := by omega
  have hnum2 := numD_take hc hnum (by unfold digB;simp;omega)
  have f1 : IntKind.u8.wrap ((c.toNat : Int) - 48) = ((c.toNat - 48 : Nat) : Int) := by
   rw [show (c.toNat : Int) - 48 = ((c.toNat - 48 : Nat) : Int) by omega];exact wu8 (by omega)
  have f2 : IntKind.i64.wrap ((c.toNat - 48 : Nat) : Int) = ((c.toNat - 48 : Nat) : Int) := w64 (by omega)
  have f3 : IntKind.i64.wrap ((n : Int) * 10) = ((10 * n : Nat) : Int) := by
   rw [show (n : Int) * 10 = ((10 * n : Nat) : Int) by omega];exact w64 (by omega)
  have f4 : IntKind.i64.wrap (((10 * n : Nat) : Int) + ((c.toNat - 48 : Nat) : Int)) = ((10 * n + (c.toNat - 48) : Nat) : Int) := by
   rw [show ((10 * n : Nat) : Int) + ((c.toNat - 48 : Nat) : Int) = ((10 * n + (c.toNat - 48) : Nat) : Int) by omega];exact w64 (by omega)
  refine Yg1 (fa10 @e0 @e4 @hg @hc @hg0 @hz @hc0 @h1i @h2i @h3i) ?_
  refine Yf0 ?_
  refine Yg1 (fa10 @e0 @e3 @e4 @hg @hc @f1 @f2 @f3 @f4 @hw) ?_
  refine ⟨k - 1,by omega,i + 1,10 * n + (c.toNat - 48),by omega,by omega,by omega,by rw [Nat.pow_succ];omega,hnum2,fun _ h => ?_,(Yq1 @e0),(Yq1 (fa4 @f1 @f2 @f3 @f4)),(Yq1 @hw)⟩
  rw [List.head?_eq_getElem?,hc0] at h
  exact h3 (by rw [Option.some.inj h];rfl)
 rintro st ⟨n,hn,e0,e3,hb,hg⟩
 by_cases h4 : 4 < s.length
 ·have h4i : ((4 : Int) < (s.length : Int)) = True := eq_true (by omega)
  refine Yg1 (fa2 @e0 @h4i) ?_
  refine Yt0 ?_
  refine Yg0 ?_
  refine Ye0 ?_;try (with_reducible exact trivial)
  rw [hb (.inl h4)];rfl
 have h4i : ¬ ((4 : Int) < (s.length : Int)) := by omega
 by_cases hb4 : 4000 < n
 ·have hbi : ((4000 : Int) < (n : Int)) = True := eq_true (by omega)
  refine Yg1 (fa4 @e0 @e3 @h4i @hbi) ?_
  refine Yt0 ?_
  refine Yg0 ?_
  refine Ye0 ?_;try (with_reducible exact trivial)
  rw [hb (.inr hb4)];rfl
 ·have hbi : ¬ ((4000 : Int) < (n : Int)) := by omega
  refine Yg1 (fa4 @e0 @e3 @h4i @hbi) ?_
  refine Yf0 ?_
  refine Yg1 @e3 ?_
  refine Ye0 ?_;try (with_reducible exact trivial)
  rw [hg (by rintro (h | h) <;> omega)]
set_option maxRecDepth 100000 in
theorem qzero_L (n : FNode) (h : okLen n) : LCalls Tryz.prog 43 [.agg (nodeL n)] (boolL (decide (n = zeroN))) := by
 have c := rsameNode_L n zeroN h okLen_zero
 simp only [nodeL,attrsL,acesL,piecesL,rowL,zeroN,List.flatMap_nil,List.length_nil] at c
 refine LCalls.of (fun _ => false) Tryz.func43 rfl (by decide) Tryz.ntmps43 Tryz.results43 (by simp) ?_
 intro w0 S0 vs hgl hwf0 hsz hvs;clear hsz hvs hwf0 hgl
 refine Yg1 (fa4 @nodeL.eq_1 @piecesL.eq_1 @attrsL.eq_1 @acesL.eq_1) ?_
 refine Yr0 ?_;intro K hK
 refine Yc0 (c) ?_
 refine hK _ ?_;clear hK K;try refine Wh0 ?_
 refine Ye0 ?_;try (with_reducible exact trivial)
 rfl
end Go.Proofs.YtnmjghcdccfphaaGreatDoor
end
section
set_option linter.unusedSimpArgs false
set_option linter.unusedVariables false
namespace Go.Proofs.YtnmjghcdccfphaaGreatDoor
open Nat renaming reduceAdd → zz1,reduceMul → zz2,reduceSub → zz3,reduceLT → zz4,reduceLeDiff → zz5,reduceEqDiff → zz6,reduceBEq → zzf
open Int renaming reduceAdd → zz7,reduceSub → zz8,reduceMul → zz9,reduceLT → zza,reduceLE → zzb,reduceEq → zzc,reduceNeg → zzd,reduceToNat → zze
open Op renaming operands → zo
open Call renaming operands → zc
open Go.RowKit Go.Proofs AclSpec MetaSpec NodeSpec RecSpec PathSpec PageSpec

theorem rep_bytes (n : Nat) : repL n [.lit (.int .u8 0)] = bL (List.replicate n 0) := by
 unfold repL bL
 induction n with
 | zero => rfl
 | succ n ih => rw [List.replicate_succ,List.flatten_cons,ih,List.replicate_succ,List.map_cons];rfl
theorem fullZ_take {l : List Piece} {i : Nat} {p : Piece} {m : List Piece} (hp : l[i]? = some p) (h : fullZ (l.take i) = some m) (h0 : lenS p.dat ≠ 0) : fullZ (l.take (i + 1)) = some (m ++ [⟨p.pos,List.replicate (lenS p.dat) 0⟩]) := by
 induction l generalizing i m with
 | nil => simp at hp
 | cons a r ih =>
  cases i with
  | zero =>
   simp at hp
   subst hp
   rw [List.take_zero] at h
   cases h
   rw [List.take_succ_cons,List.take_zero,fullZ,if_neg h0,fullZ];rfl
  | succ i =>
   rw [List.take_succ_cons,fullZ] at h
   rw [List.take_succ_cons,fullZ]
   split at h
   ·cases h
   ·rename_i ha
    obtain ⟨k,hk,rfl⟩ := Option.map_eq_some_iff.1 h
    rw [if_neg ha,ih (by simpa using hp) hk];rfl
theorem fullZ_none {l : List Piece} {i : Nat} {p : Piece} (hp : l[i]? = some p) (h0 : lenS p.dat = 0) : fullZ l = none := by
 induction l generalizing i with
 | nil => simp at hp
 | cons a r ih =>
  rw [fullZ]
  split
  ·rfl
  ·rename_i ha
   cases i with
   | zero =>
    simp at hp
    subst hp
    exact absurd h0 ha
   | succ i =>
    rw [ih (by simpa using hp)];rfl
theorem lenS_le (s : List UInt8) : lenS s ≤ 4000 := by
 unfold lenS
 split
 ·omega
 ·split
  ·split <;> omega
  ·omega
set_option maxRecDepth 100000 in
set_option maxHeartbeats 4000000 in
theorem qfull_L (n : FNode) (h : small n) (ht : n.target.length ≤ maxLen) : LCalls Tryz.prog 56 [.agg (nodeL n)] (.tup [.agg (nodeL (fullR n).1),boolL (fullR n).2]) := by
 refine LCalls.of (fun d => d == 32) Tryz.func56 rfl (by decide) Tryz.ntmps56 Tryz.results56 (by simp) ?_
 intro w0 S0 vs hgl hwf0 hsz hvs;clear hsz hvs hwf0 hgl
 generalize hR : fullR n = R
 unfold fullR at hR
 refine Yg1 (fa4 @nodeL.eq_1 @piecesL.eq_1 @attrsL.eq_1 @acesL.eq_1) ?_
 refine LW_nil (k := 4) (q := 1000) (e := 90) Yq0 ?_
 refine LW_joinB (fun st => ∃ m,fullZ n.dat = some m ∧ st.env 1 = .ptr 1 0 ∧ st.box 1 = some (nodeL n) ∧ st.env 2 = .ptr 2 0 ∧ st.box 2 = some zNode ∧ st.env 4 = .sl m.length (m.flatMap pieceL) (.row 1000) ∧ st.mode = fun d => d == 32) ?_ ?_
 ·refine LW_loop (fun k st => ∃ (i : Nat) (m : List Piece),k + i = n.dat.length ∧ fullZ (n.dat.take i) = some m ∧ st.env 1 = .ptr 1 0 ∧ st.box 1 = some (nodeL n) ∧ st.env 2 = .ptr 2 0 ∧ st.box 2 = some zNode ∧ st.env 4 = .sl m.length (m.flatMap pieceL) (.row 1000) ∧ st.row 1000 = some (90,m.length) ∧ st.env 5 = intL i ∧ st.mode = fun d => d == 32) n.dat.length ⟨0,[],by omega,rfl,Yq0,(Yq1 (fa4 @nodeL.eq_1 @piecesL.eq_1 @attrsL.eq_1 @acesL.eq_1)),Yq0,(Yq1 @zNode.eq_1),Yq0,Yq0,Yq0,Yq0⟩ ?_
  rintro k st ⟨i,m,hk,hm,e1,b1,e2,b2,e4,r1000,e5,hmd⟩
  simp only [nodeL,piecesL,attrsL,acesL,rowL] at b1
  by_cases hlt : i < n.dat.length
  rotate_left
  ·refine Yg1 (fa4 @e1 @b1 @e5 @hlt) ?_
   refine Yf1 @hlt ?_
   refine LW_exit ?_;simp only [thenL,jumpsL,inBlockL,twoL,reduceIte,Nat.reduceEqDiff]
   rw [List.take_of_length_le (by omega)] at hm
   exact ⟨m,hm,(Yq1 @e1),(Yq1 (fa6 @b1 @nodeL.eq_1 @piecesL.eq_1 @attrsL.eq_1 @acesL.eq_1 @rowL.eq_1)),(Yq1 @e2),(Yq1 @b2),(Yq1 @e4),(Yq1 @hmd)⟩
  obtain ⟨p,hp⟩ := get_of_lt hlt
  have hd := drop_piece hp
  have hd1 := piece_at hp
  have hnl := h.2.2.1
  have hw := w64s (n := i) (by omega)
  have hip : (0 : Int) ≤ (i : Int) := by omega
  have hpl := h.2.2.2 p (List.mem_of_getElem? hp)
  have cl := qlong_L p.dat hpl
  have hml : m.length = i := by
   have := (fullZ_small hm).1
   rw [List.length_take] at this;omega
  have hmf : (m.flatMap pieceL).length = m.length * 2 := pieceL_flen m
  have hls := lenS_le p.dat
  refine Yg1 (fa4 @e1 @b1 @e5 @hlt) ?_
  refine Yt1 @hlt ?_
  by_cases h0 : lenS p.dat = 0
  ·rw [h0] at cl
   rw [fullZ_none hp h0] at hR
   subst hR
   refine Yr1 (fa7 @e1 @b1 @e5 @hlt @hip @hd @hd1) ?_;intro K hK
   refine Yc1 (cl) (fa7 @e1 @b1 @e5 @hlt @hip @hd @hd1) ?_
   refine hK _ ?_;clear hK K;try refine Wh0 ?_
   refine Yg0 ?_
   refine Yt0 ?_
   refine Yg1 (fa3 @e2 @b2 @zNode.eq_1) ?_
   refine Ye1 (fa8 @nodeL.eq_1 @piecesL.eq_1 @attrsL.eq_1 @acesL.eq_1 @rowL.eq_1 @e2 @b2 @zeroN.eq_1) ?_;try (with_reducible exact trivial)
   (repeat' apply And.intro) <;> rfl
  have h0i : ¬ ((lenS p.dat : Int) = 0) := by omega
  have hft := fullZ_take hp hm h0
  obtain ⟨k,hk9⟩ : ∃ k,k = lenS p.dat := ⟨_,rfl⟩
  rw [← hk9] at cl h0 h0i hft hls
  have hrb := rep_bytes k
  have hbl : (bL (List.replicate k 0)).length = k := by rw [bL_len,List.length_replicate]
  have hsu : sizeL Tryz.prog 5 = 1 := by kernel_rfl
  have hap : (m ++ [(⟨p.pos,List.replicate k 0⟩ : Piece)]).flatMap pieceL = m.flatMap pieceL ++ [intL p.pos,strL (List.replicate k 0)] := by rw [List.flatMap_append];rfl
  have hal : (m ++ [(⟨p.pos,List.replicate k 0⟩ : Piece)]).length = m.length + 1 := by rw [List.length_append,List.length_singleton]
  refine Yr1 (fa7 @e1 @b1 @e5 @hlt @hip @hd @hd1) ?_;intro K hK
  refine Yc1 (cl) (fa7 @e1 @b1 @e5 @hlt @hip @hd @hd1) ?_
  refine hK _ ?_;clear hK K;try refine Wh0 ?_
  refine Yg1 @h0i ?_
  refine Yf0 ?_
  refine LW_slim (fun st => st.env 1 = .ptr 1 0 ∧ st.box 1 = some (nodeL n) ∧ st.env 2 = .ptr 2 0 ∧ st.box 2 = some zNode ∧ st.env 4 = .sl m.length (m.flatMap pieceL) (.row 1000) ∧ st.row 1000 = some (90,m.length) ∧ st.env 5 = intL i ∧ st.env 6 = intL k ∧ st.mode = fun d => d == 32) ⟨(Yq1 @e1),(Yq1 (fa6 @b1 @nodeL.eq_1 @piecesL.eq_1 @attrsL.eq_1 @acesL.eq_1 @rowL.eq_1)),(Yq1 @e2),(Yq1 @b2),(Yq1 @e4),(Yq1 @r1000),(Yq1 @e5),Yq0,(Yq1 @hmd)⟩ ?_
  clear e1 b1 e2 b2 e4 r1000 e5 hmd st
  rintro st ⟨e1,b1,e2,b2,e4,r1000,e5,e6,hmd⟩
  simp only [nodeL,piecesL,attrsL,acesL,rowL] at b1
  (repeat (first | refine LW_seq ?_ | (refine LW_skip ?_;simp only [LSj,reduceIte,zze]) | refine LW_block ?_));refine LW_mix2 [] [] (fun d => d == 32) [(0,[1000]),(1,[1]),(2,[1]),(3,[]),(4,[1]),(5,[1]),(6,[1]),(8,[1,1000]),(11,[1000,1])] [0,1,2,3,4,5,6,7] [[8,9,10,11,12,13]] rfl (by kernel_rfl) (by kernel_rfl) (by kernel_rfl) (by first | exact rfl | exact hmd | simp only [LZ,zo,zc,reduceCtorEq,reduceIte,zz1,zz2,zz3,zz4,zz5,zz6,zz7,zz8,zz9,zza,zzb,zzc,zzd,zze,zzf,e1,b1,e4,r1000,e5,e6,hmd,hlt,hip,hd,hd1,h0,hrb,hbl,hsu,hmf]) ?_;intro K hK;simp only [LZ,zo,zc,reduceCtorEq,reduceIte,zz1,zz2,zz3,zz4,zz5,zz6,zz7,zz8,zz9,zza,zzb,zzc,zzd,zze,zzf,e1,b1,e4,r1000,e5,e6,hmd,hlt,hip,hd,hd1,h0,hrb,hbl,hsu,hmf]
  refine ⟨by (repeat' apply And.intro) <;> first | omega | (unfold maxLen;omega) | (intro _;omega) | decide,?_⟩
  refine ⟨by (repeat' apply And.intro) <;> first | omega | (unfold maxLen;omega) | (intro _;omega) | decide,?_⟩
  refine hK _ ?_;clear hK K;try refine Wh0 ?_
  refine Yg1 (fa2 @e5 @hw) ?_
  exact ⟨n.dat.length - (i + 1),by omega,i + 1,m ++ [⟨p.pos,List.replicate k 0⟩],by omega,by rw [hk9];rw [hk9] at hft;exact hft,(Yq1 @e1),(Yq1 (fa6 @b1 @nodeL.eq_1 @piecesL.eq_1 @attrsL.eq_1 @acesL.eq_1 @rowL.eq_1)),(Yq1 @e2),(Yq1 (fa2 @b2 @zNode.eq_1)),by rw [hal,hap];exact Yq0,by rw [hal];exact Yq0,(Yq1 @hw),(Yq1 @hmd)⟩
 rintro st ⟨m,hm,e1,b1,e2,b2,e4,hmd⟩
 obtain ⟨hml,hms⟩ := fullZ_small hm
 rw [hm] at hR
 simp only at hR
 have hsm : small { n with dat := m } := ⟨h.1,h.2.1,by show m.length ≤ 1000000;rw [hml];exact h.2.2.1,fun p hp => by have := hms p hp;omega⟩
 have cm := rmayNode_L { n with dat := m } hsm ht
 generalize hB : mayN { n with dat := m } = B at *
 subst hR
 simp only [nodeL,piecesL,attrsL,acesL,rowL] at b1 cm
 simp only [zNode] at b2
 refine LW_plain 4 e4 ?_
 refine Yo1 (fa2 @e1 @b1) ?_
 refine LW_slim (fun st => st.env 1 = .ptr 1 0 ∧ st.box 1 = some (nodeL { n with dat := m }) ∧ st.env 2 = .ptr 2 0 ∧ st.box 2 = some zNode ∧ st.mode = fun d => d == 32) ⟨(Yq1 @e1),(Yq1 (fa5 @nodeL.eq_1 @piecesL.eq_1 @attrsL.eq_1 @acesL.eq_1 @rowL.eq_1)),(Yq1 @e2),(Yq1 (fa2 @b2 @zNode.eq_1)),(Yq1 @hmd)⟩ ?_
 clear e1 b1 e2 b2 e4 hmd st
 rintro st ⟨e1,b1,e2,b2,hmd⟩
 simp only [nodeL,piecesL,attrsL,acesL,rowL] at b1
 simp only [zNode] at b2
 (repeat (first | refine LW_seq ?_ | (refine LW_skip ?_;simp only [LSj,reduceIte,zze]) | refine LW_block ?_));refine LW_mix2 [] [] (fun d => d == 32) [] [0,1,2] [[3,4]] rfl (by kernel_rfl) (by kernel_rfl) (by kernel_rfl) (by first | exact rfl | exact hmd | simp only [LZ,zo,zc,reduceCtorEq,reduceIte,zz1,zz2,zz3,zz4,zz5,zz6,zz7,zz8,zz9,zza,zzb,zzc,zzd,zze,zzf,e1,b1,e2,b2,hmd]) ?_;intro K hK;simp only [LZ,zo,zc,reduceCtorEq,reduceIte,zz1,zz2,zz3,zz4,zz5,zz6,zz7,zz8,zz9,zza,zzb,zzc,zzd,zze,zzf,e1,b1,e2,b2,hmd]
 refine Yx1 (cm) (fa5 @e1 @b1 @e2 @b2 @hmd) ?_
 refine hK _ ?_;clear hK K;try refine Wh0 ?_
 refine Ye1 (fa6 @nodeL.eq_1 @piecesL.eq_1 @attrsL.eq_1 @acesL.eq_1 @rowL.eq_1 @e2) ?_;try (with_reducible exact trivial)
end Go.Proofs.YtnmjghcdccfphaaGreatDoor
end
section
set_option linter.unusedSimpArgs false
set_option linter.unusedVariables false
namespace Go.Proofs.YtnmjghcdccfphaaGreatDoor
open Go.RowKit Go.Proofs AclSpec MetaSpec NodeSpec RecSpec PathSpec PageSpec

theorem okLen_of_small {n : FNode} (h : small n) : okLen n := ⟨by have := h.1;unfold maxLen;omega,by have := h.2.1;unfold maxLen;omega,by have := h.2.2.1;unfold maxLen;omega⟩
set_option maxRecDepth 100000 in
set_option maxHeartbeats 4000000 in
theorem qmayrec_L (r : Rec) (hp : r.path.length < 1000000) (hs : small r.node) (ht : r.node.target.length ≤ maxLen) : LCalls Tryz.prog 32 [.agg (recL r)] (boolL (mayRec r)) := by
 have cm := rpmay_L r.path hp
 have cz := qzero_L r.node (okLen_of_small hs)
 have cf := qfull_L r.node hs ht
 simp only [nodeL,attrsL,acesL,piecesL,rowL] at cz cf
 refine LCalls.of (fun _ => false) Tryz.func32 rfl (by decide) Tryz.ntmps32 Tryz.results32 (by simp) ?_
 intro w0 S0 vs hgl hwf0 hsz hvs;clear hsz hvs hwf0 hgl
 rw [← mayRecR_eq]
 generalize hR : mayRecR r = R
 unfold mayRecR at hR
 refine Yg1 (fa5 @recL.eq_1 @nodeL.eq_1 @piecesL.eq_1 @attrsL.eq_1 @acesL.eq_1) ?_
 cases hm : mayB r.path
 ·rw [hm] at cm hR
  refine Yr0 ?_;intro K hK
  refine Yc0 (cm) ?_
  refine hK _ ?_;clear hK K;try refine Wh0 ?_
  refine Yt0 ?_
  refine Yg0 ?_
  refine Ye0 ?_;try (with_reducible exact trivial)
  rw [← hR];rfl
 rw [hm] at cm hR
 by_cases h1 : r.lead < 0
 ·have h1i : (r.lead < 0) = True := eq_true h1
  refine Yr1 @h1i ?_;intro K hK
  refine Yc1 (cm) @h1i ?_
  refine hK _ ?_;clear hK K;try refine Wh0 ?_
  refine Yt0 ?_
  refine Yg0 ?_
  refine Ye0 ?_;try (with_reducible exact trivial)
  rw [← hR];simp [h1]
 by_cases h2 : 100 ≤ r.lead
 ·have h2i : (100 ≤ r.lead) = True := eq_true h2
  refine Yr1 (fa2 @h1 @h2i) ?_;intro K hK
  refine Yc1 (cm) (fa2 @h1 @h2i) ?_
  refine hK _ ?_;clear hK K;try refine Wh0 ?_
  refine Yt0 ?_
  refine Yg0 ?_
  refine Ye0 ?_;try (with_reducible exact trivial)
  rw [← hR];simp [h2]
 by_cases h3 : r.pos < 0
 ·have h3i : (r.pos < 0) = True := eq_true h3
  refine Yr1 (fa3 @h1 @h2 @h3i) ?_;intro K hK
  refine Yc1 (cm) (fa3 @h1 @h2 @h3i) ?_
  refine hK _ ?_;clear hK K;try refine Wh0 ?_
  refine Yt0 ?_
  refine Yg0 ?_
  refine Ye0 ?_;try (with_reducible exact trivial)
  rw [← hR];simp [h3]
 by_cases h4 : 400000 < r.pos
 ·have h4i : (400000 < r.pos) = True := eq_true h4
  refine Yr1 (fa4 @h1 @h2 @h3 @h4i) ?_;intro K hK
  refine Yc1 (cm) (fa4 @h1 @h2 @h3 @h4i) ?_
  refine hK _ ?_;clear hK K;try refine Wh0 ?_
  refine Yt0 ?_
  refine Yg0 ?_
  refine Ye0 ?_;try (with_reducible exact trivial)
  rw [← hR];simp [h4]
 rw [decide_eq_false h1,decide_eq_false h2,decide_eq_false h3,decide_eq_false h4] at hR
 simp only [Bool.not_false,Bool.and_true,Bool.true_and] at hR
 refine Yr1 (fa4 @h1 @h2 @h3 @h4) ?_;intro K hK
 refine Yc1 (cm) (fa4 @h1 @h2 @h3 @h4) ?_
 refine hK _ ?_;clear hK K;try refine Wh0 ?_
 refine Yf0 ?_
 by_cases hz : r.node = zeroN
 ·rw [if_pos hz] at hR
  rw [decide_eq_true hz] at cz
  by_cases h0 : r.pos = 0
  ·refine Yr0 ?_;intro K hK
   refine Yc0 (cz) ?_
   refine hK _ ?_;clear hK K;try refine Wh0 ?_
   refine Yt0 ?_
   refine Yg1 @h0 ?_
   refine Ye0 ?_;try (with_reducible exact trivial)
   rw [← hR];simp [h0]
  ·refine Yr0 ?_;intro K hK
   refine Yc0 (cz) ?_
   refine hK _ ?_;clear hK K;try refine Wh0 ?_
   refine Yt0 ?_
   refine Yg1 @h0 ?_
   refine Ye0 ?_;try (with_reducible exact trivial)
   rw [← hR];simp [h0]
 rw [if_neg hz] at hR
 rw [decide_eq_false hz] at cz
 generalize fullR r.node = q at *
 obtain ⟨n2,ok⟩ := q
 simp only at hR cf
 refine Yr0 ?_;intro K hK
 refine Yc0 (cz) ?_
 refine hK _ ?_;clear hK K;try refine Wh0 ?_
 refine Yf0 ?_
 cases ok
 ·refine Yr0 ?_;intro K hK
  refine Yc0 (cf) ?_
  refine hK _ ?_;clear hK K;try refine Wh0 ?_
  refine Yg0 ?_
  refine Ye0 ?_;try (with_reducible exact trivial)
  rw [← hR];rfl
 by_cases h0 : r.pos = 0
 ·refine Yr0 ?_;intro K hK
  refine Yc0 (cf) ?_
  refine hK _ ?_;clear hK K;try refine Wh0 ?_
  refine Yg1 @h0 ?_
  refine Ye0 ?_;try (with_reducible exact trivial)
  rw [← hR];simp [h0]
 have hR2 : decide (0 < r.node.dat.length) = R := by
  rw [← hR,decide_eq_false h0]
  cases r.node.dat <;> simp
 by_cases hd : 0 < r.node.dat.length
 ·have hdi : ((0 : Int) < (r.node.dat.length : Int)) = True := eq_true (by omega)
  refine Yr0 ?_;intro K hK
  refine Yc0 (cf) ?_
  refine hK _ ?_;clear hK K;try refine Wh0 ?_
  refine Yg1 (fa2 @h0 @hdi) ?_
  refine Ye0 ?_;try (with_reducible exact trivial)
  rw [← hR2];simp [hd]
 ·have hdi : ¬ ((0 : Int) < (r.node.dat.length : Int)) := by omega
  refine Yr0 ?_;intro K hK
  refine Yc0 (cf) ?_
  refine hK _ ?_;clear hK K;try refine Wh0 ?_
  refine Yg1 (fa2 @h0 @hdi) ?_
  refine Ye0 ?_;try (with_reducible exact trivial)
  rw [← hR2];simp [hd]
end Go.Proofs.YtnmjghcdccfphaaGreatDoor
end
section
set_option linter.unusedSimpArgs false
set_option linter.unusedVariables false
namespace Go.Proofs.YtnmjghcdccfphaaGreatDoor
open Go.RowKit Go.Proofs AclSpec MetaSpec NodeSpec RecSpec PathSpec PageSpec

set_option maxRecDepth 100000 in
set_option maxHeartbeats 8000000 in
theorem qmaypage_L (p : Pg) (h : SmallP p) (ht : ∀ r ∈ p.recs,r.node.target.length ≤ maxLen) : LCalls Tryz.prog 11 [.agg (pgL p)] (boolL (mayPg p)) := by
 have hl1 := h.recs
 have hl2 := h.keys
 have hl3 := h.pages
 refine LCalls.of (fun _ => false) Tryz.func11 rfl (by decide) Tryz.ntmps11 Tryz.results11 (by simp) ?_
 intro w0 S0 vs hgl hwf0 hsz hvs;clear hsz hvs hwf0 hgl
 generalize hR : mayPg p = R
 refine Yg1 (fa4 @pgL.eq_1 @rowL.eq_1 @strsL.eq_1 @intsL.eq_1) ?_
 cases hlf : p.leaf
 rotate_left
 ·rw [mayPg_leaf hlf] at hR
  refine Yt0 ?_
  refine Yg0 ?_
  generalize hT : risesR none p.recs = T at hR
  refine LW_joinB (fun st => T = true ∧ st.env 1 = .ptr 1 0 ∧ st.box 1 = some (pgL p) ∧ st.mode = fun _ => false) ?_ ?_
  ·refine LW_loop (fun k st => ∃ (i : Nat) (o : Option (List UInt8)),k + i = p.recs.length ∧ ((i = 0 ∧ o = none) ∨ (0 < i ∧ ∃ r,p.recs[i - 1]? = some r ∧ o = some r.path)) ∧ st.env 1 = .ptr 1 0 ∧ st.box 1 = some (pgL p) ∧ st.env 3 = intL i ∧ risesR o (p.recs.drop i) = T ∧ st.mode = fun _ => false) p.recs.length ⟨0,none,by omega,.inl ⟨rfl,rfl⟩,Yq0,(Yq1 (fa5 @pgL.eq_1 @rowL.eq_1 @strsL.eq_1 @intsL.eq_1 @hlf)),Yq0,hT,Yq0⟩ ?_
   rintro k st ⟨i,o,hn,ho,e1,b1,e3,hr,hmd⟩
   simp only [pgL,rowL,strsL,intsL] at b1
   by_cases hlt : i < p.recs.length
   rotate_left
   ·rw [List.drop_of_length_le (by omega),risesR.eq_def] at hr
    refine Yg1 (fa4 @e1 @b1 @e3 @hlt) ?_
    refine Yf1 @hlt ?_
    refine LW_exit ?_;simp only [thenL,jumpsL,inBlockL,twoL,reduceIte,Nat.reduceEqDiff]
    exact ⟨hr.symm,(Yq1 @e1),(Yq1 (fa5 @b1 @pgL.eq_1 @rowL.eq_1 @strsL.eq_1 @intsL.eq_1)),(Yq1 @hmd)⟩
   obtain ⟨r,hre⟩ := get_of_lt hlt
   have hrm := List.mem_of_getElem? hre
   have hd := drop_rec hre
   have hw := w64s (n := i) (by omega)
   have hip : (0 : Int) ≤ (i : Int) := by omega
   obtain ⟨hpl,hsm⟩ := h.one r hrm
   have cm := qmayrec_L r hpl hsm (ht r hrm)
   rw [risesR_cons hre] at hr
   simp only [recL,nodeL,attrsL,acesL,piecesL,rowL,List.cons_append,List.nil_append] at cm hd
   refine Yg1 (fa4 @e1 @b1 @e3 @hlt) ?_
   refine Yt1 @hlt ?_
   cases hm : mayRec r
   ·rw [hm] at cm hr
    refine Yn1 (fa7 @e1 @b1 @e3 @hip @hlt @hd @hmd) ?_;intro K hK
    refine Yc1 (cm) (fa6 @e1 @b1 @e3 @hip @hlt @hd) ?_
    refine hK _ ?_;clear hK K;try refine Wh0 ?_
    refine Yt0 ?_
    refine Yg0 ?_
    refine Ye0 ?_;try (with_reducible exact trivial)
    rw [← hR,← hr];rfl
   rw [hm] at cm hr
   rcases ho with ⟨rfl,rfl⟩ | ⟨hi0,q,hq,rfl⟩
   ·simp only [Bool.true_and] at hr
    have hlt0 : ((0 : Int) < (p.recs.length : Int)) = True := eq_true (by omega)
    refine Yn1 (fa10 @e1 @b1 @e3 @hip @hlt @hlt0 @i00 @i0n @hd @hmd) ?_;intro K hK
    refine Yc1 (cm) (fa9 @e1 @b1 @e3 @hip @hlt @hlt0 @i00 @i0n @hd) ?_
    refine hK _ ?_;clear hK K;try refine Wh0 ?_
    refine Yf0 ?_
    refine Yg1 (fa2 @e3 @hw) ?_
    exact ⟨k - 1,by omega,0 + 1,some r.path,by omega,.inr ⟨by omega,r,hre,rfl⟩,(Yq1 @e1),(Yq1 (fa5 @b1 @pgL.eq_1 @rowL.eq_1 @strsL.eq_1 @intsL.eq_1)),(Yq1 @hw),hr,(Yq1 @hmd)⟩
   ·obtain ⟨j,rfl⟩ : ∃ j,i = j + 1 := ⟨i - 1,by omega⟩
    rw [Nat.add_sub_cancel] at hq
    have hdq := drop_rec hq
    obtain ⟨hql,_⟩ := h.one q (List.mem_of_getElem? hq)
    have cl := rpless_L q.path r.path hql hpl
    have hip2 : ((0 : Int) < ((j + 1 : Nat) : Int)) = True := eq_true (by omega)
    have hj : IntKind.i64.wrap (((j + 1 : Nat) : Int) - 1) = (j : Int) := w64p (n := j + 1) (by omega) (by omega)
    have hj0 : (0 : Int) ≤ (j : Int) := by omega
    have hjl : j < p.recs.length := by omega
    simp only [recL,nodeL,attrsL,acesL,piecesL,rowL,List.cons_append,List.nil_append] at hdq
    simp only [Bool.true_and] at hr
    cases hle : lessB q.path r.path
    ·rw [hle] at cl hr
     refine Yn1 (fa12 @e1 @b1 @e3 @hip @hip2 @hlt @hd @hdq @hj @hj0 @hjl @hmd) ?_;intro K hK
     refine Yc1 (cm) (fa11 @e1 @b1 @e3 @hip @hip2 @hlt @hd @hdq @hj @hj0 @hjl) ?_
     refine Yc1 (cl) (fa11 @e1 @b1 @e3 @hip @hip2 @hlt @hd @hdq @hj @hj0 @hjl) ?_
     refine hK _ ?_;clear hK K;try refine Wh0 ?_
     refine Yt0 ?_
     refine Yg0 ?_
     refine Ye0 ?_;try (with_reducible exact trivial)
     rw [← hR,← hr];rfl
    ·rw [hle] at cl hr
     refine Yn1 (fa12 @e1 @b1 @e3 @hip @hip2 @hlt @hd @hdq @hj @hj0 @hjl @hmd) ?_;intro K hK
     refine Yc1 (cm) (fa11 @e1 @b1 @e3 @hip @hip2 @hlt @hd @hdq @hj @hj0 @hjl) ?_
     refine Yc1 (cl) (fa11 @e1 @b1 @e3 @hip @hip2 @hlt @hd @hdq @hj @hj0 @hjl) ?_
     refine hK _ ?_;clear hK K;try refine Wh0 ?_
     refine Yf0 ?_
     refine Yg1 (fa2 @e3 @hw) ?_
     exact ⟨k - 1,by omega,j + 1 + 1,some r.path,by omega,.inr ⟨by omega,r,by rw [Nat.add_sub_cancel];exact hre,rfl⟩,(Yq1 @e1),(Yq1 (fa5 @b1 @pgL.eq_1 @rowL.eq_1 @strsL.eq_1 @intsL.eq_1)),(Yq1 @hw),hr,(Yq1 @hmd)⟩
  rintro st ⟨rfl,e1,b1,hmd⟩
  simp only [pgL,rowL,strsL,intsL] at b1
  rw [Bool.true_and] at hR
  by_cases g1 : 1 ≤ p.recs.length
  rotate_left
  ·have g1i : ¬ ((1 : Int) ≤ (p.recs.length : Int)) := by omega
   refine Yg1 (fa3 @e1 @b1 @g1i) ?_
   refine Ye0 ?_;try (with_reducible exact trivial)
   rw [← hR,decide_eq_false g1];rfl
  have g1i : ((1 : Int) ≤ (p.recs.length : Int)) = True := eq_true (by omega)
  by_cases g2 : p.recs.length ≤ 4
  rotate_left
  ·have g2i : ¬ ((p.recs.length : Int) ≤ 4) := by omega
   refine Yg1 (fa4 @e1 @b1 @g1i @g2i) ?_
   refine Ye0 ?_;try (with_reducible exact trivial)
   rw [← hR,decide_eq_true g1,decide_eq_false g2];rfl
  have g2i : ((p.recs.length : Int) ≤ 4) = True := eq_true (by omega)
  by_cases g3 : p.keys.length = 0
  rotate_left
  ·have g3i : ¬ ((p.keys.length : Int) = 0) := by omega
   refine Yg1 (fa5 @e1 @b1 @g1i @g2i @g3i) ?_
   refine Ye0 ?_;try (with_reducible exact trivial)
   rw [← hR,decide_eq_true g1,decide_eq_true g2,decide_eq_false g3];rfl
  have g3i : ((p.keys.length : Int) = 0) = True := eq_true (by omega)
  by_cases g4 : p.pages.length = 0
  ·have g4i : ((p.pages.length : Int) = 0) = True := eq_true (by omega)
   refine Yg1 (fa6 @e1 @b1 @g1i @g2i @g3i @g4i) ?_
   refine Ye0 ?_;try (with_reducible exact trivial)
   rw [← hR,decide_eq_true g1,decide_eq_true g2,decide_eq_true g3,decide_eq_true g4];rfl
  ·have g4i : ¬ ((p.pages.length : Int) = 0) := by omega
   refine Yg1 (fa6 @e1 @b1 @g1i @g2i @g3i @g4i) ?_
   refine Ye0 ?_;try (with_reducible exact trivial)
   rw [← hR,decide_eq_true g1,decide_eq_true g2,decide_eq_true g3,decide_eq_false g4];rfl
 unfold mayPg mayInner at hR
 rw [if_neg (by rw [hlf];decide)] at hR
 refine Yf0 ?_
 by_cases h1 : p.pages.length < 1
 ·have h1i : ((p.pages.length : Int) < 1) = True := eq_true (by omega)
  refine Yg1 @h1i ?_
  refine Yt0 ?_
  refine Yg0 ?_
  refine Ye0 ?_;try (with_reducible exact trivial)
  rw [← hR];simp [h1]
 have h1i : ¬ ((p.pages.length : Int) < 1) := by omega
 by_cases h2 : 4 < p.pages.length
 ·have h2i : (4 < (p.pages.length : Int)) = True := eq_true (by omega)
  refine Yg1 (fa2 @h1i @h2i) ?_
  refine Yt0 ?_
  refine Yg0 ?_
  refine Ye0 ?_;try (with_reducible exact trivial)
  rw [← hR];simp [h2]
 have h2i : ¬ (4 < (p.pages.length : Int)) := by omega
 by_cases h3 : p.keys.length = p.pages.length
 rotate_left
 ·have h3i : ¬ ((p.keys.length : Int) = (p.pages.length : Int)) := by omega
  refine Yg1 (fa3 @h1i @h2i @h3i) ?_
  refine Yt0 ?_
  refine Yg0 ?_
  refine Ye0 ?_;try (with_reducible exact trivial)
  rw [← hR];simp [h3]
 have h3i : ((p.keys.length : Int) = (p.pages.length : Int)) = True := eq_true (by omega)
 by_cases h4 : 0 < p.recs.length
 ·have h4i : ¬ ((p.recs.length : Int) = 0) := by omega
  refine Yg1 (fa4 @h1i @h2i @h3i @h4i) ?_
  refine Yt0 ?_
  refine Yg0 ?_
  refine Ye0 ?_;try (with_reducible exact trivial)
  rw [← hR];simp [h4]
 have h4i : ((p.recs.length : Int) = 0) = True := eq_true (by omega)
 rw [decide_eq_false h1,decide_eq_false h2,decide_eq_true h3,decide_eq_false h4] at hR
 simp only [Bool.not_false,Bool.true_and] at hR
 refine Yg1 (fa4 @h1i @h2i @h3i @h4i) ?_
 refine Yf0 ?_
 refine Yg0 ?_
 refine LW_joinB (fun st => R = true ∧ st.mode = fun _ => false) ?_ ?_
 ·refine LW_loop (fun m st => ∃ (i : Nat) (o : Option (List UInt8 × Int)),m + i = p.pages.length ∧ ((i = 0 ∧ o = none) ∨ (0 < i ∧ ∃ k n,p.keys[i - 1]? = some k ∧ p.pages[i - 1]? = some n ∧ o = some (k,n))) ∧ st.env 1 = .ptr 1 0 ∧ st.box 1 = some (pgL p) ∧ st.env 4 = intL i ∧ risesK o (p.keys.drop i) (p.pages.drop i) = R ∧ st.mode = fun _ => false) p.pages.length ⟨0,none,by omega,.inl ⟨rfl,rfl⟩,Yq0,(Yq1 (fa5 @pgL.eq_1 @rowL.eq_1 @strsL.eq_1 @intsL.eq_1 @hlf)),Yq0,hR,Yq0⟩ ?_
  rintro m st ⟨i,o,hn,ho,e1,b1,e4,hr,hmd⟩
  simp only [pgL,rowL,strsL,intsL] at b1
  by_cases hlt : i < p.pages.length
  rotate_left
  ·rw [List.drop_of_length_le (show p.pages.length ≤ i by omega),List.drop_of_length_le (show p.keys.length ≤ i by omega),risesK.eq_def] at hr
   refine Yg1 (fa4 @e1 @b1 @e4 @hlt) ?_
   refine Yf1 @hlt ?_
   refine LW_exit ?_;simp only [thenL,jumpsL,inBlockL,twoL,reduceIte,Nat.reduceEqDiff]
   exact ⟨hr.symm,(Yq1 @hmd)⟩
  have hlk : i < p.keys.length := by omega
  obtain ⟨n,hn'⟩ := get_of_lt hlt
  obtain ⟨k,hk'⟩ := get_of_lt hlk
  have hd := drop_int hn'
  have hdk := drop_str hk'
  have hw := w64s (n := i) (by omega)
  have hip : (0 : Int) ≤ (i : Int) := by omega
  have hkl := h.key k (List.mem_of_getElem? hk')
  have cm := rpmay_L k hkl
  rw [risesK_cons hk' hn'] at hr
  refine Yg1 (fa4 @e1 @b1 @e4 @hlt) ?_
  refine Yt1 @hlt ?_
  by_cases n0 : n < 0
  ·have n0i : (n < 0) = True := eq_true n0
   rw [decide_eq_true n0] at hr
   refine Yn1 (fa8 @e1 @b1 @e4 @hip @hlt @hd @n0i @hmd) ?_;intro K hK
   refine hK _ ?_;clear hK K;try refine Wh0 ?_
   refine Yt0 ?_
   refine Yg0 ?_
   refine Ye0 ?_;try (with_reducible exact trivial)
   rw [← hr];rfl
  by_cases n1 : 10000 < n
  ·have n1i : (10000 < n) = True := eq_true n1
   rw [decide_eq_true n1] at hr
   refine Yn1 (fa9 @e1 @b1 @e4 @hip @hlt @hd @n0 @n1i @hmd) ?_;intro K hK
   refine hK _ ?_;clear hK K;try refine Wh0 ?_
   refine Yt0 ?_
   refine Yg0 ?_
   refine Ye0 ?_;try (with_reducible exact trivial)
   rw [← hr];simp
  rw [decide_eq_false n0,decide_eq_false n1] at hr
  simp only [Bool.not_false,Bool.true_and] at hr
  cases hm : mayB k
  ·rw [hm] at cm hr
   refine Yn1 (fa11 @e1 @b1 @e4 @hip @hlt @hlk @hd @hdk @n0 @n1 @hmd) ?_;intro K hK
   refine Yc1 (cm) (fa10 @e1 @b1 @e4 @hip @hlt @hlk @hd @hdk @n0 @n1) ?_
   refine hK _ ?_;clear hK K;try refine Wh0 ?_
   refine Yt0 ?_
   refine Yg0 ?_
   refine Ye0 ?_;try (with_reducible exact trivial)
   rw [← hr];rfl
  rw [hm] at cm hr
  rcases ho with ⟨rfl,rfl⟩ | ⟨hi0,qk,qn,hqk,hqn,rfl⟩
  ·simp only [Bool.true_and] at hr
   have hlt0 : ((0 : Int) < (p.pages.length : Int)) = True := eq_true (by omega)
   have hlk0 : ((0 : Int) < (p.keys.length : Int)) = True := eq_true (by omega)
   refine Yn1 (fa15 @e1 @b1 @e4 @hip @hlt @hlk @hlt0 @hlk0 @i00 @i0n @hd @hdk @n0 @n1 @hmd) ?_;intro K hK
   refine Yc1 (cm) (fa14 @e1 @b1 @e4 @hip @hlt @hlk @hlt0 @hlk0 @i00 @i0n @hd @hdk @n0 @n1) ?_
   refine hK _ ?_;clear hK K;try refine Wh0 ?_
   refine Yf0 ?_
   refine Yg1 (fa2 @e4 @hw) ?_
   exact ⟨m - 1,by omega,0 + 1,some (k,n),by omega,.inr ⟨by omega,k,n,hk',hn',rfl⟩,(Yq1 @e1),(Yq1 (fa5 @b1 @pgL.eq_1 @rowL.eq_1 @strsL.eq_1 @intsL.eq_1)),(Yq1 @hw),hr,(Yq1 @hmd)⟩
  ·obtain ⟨j,rfl⟩ : ∃ j,i = j + 1 := ⟨i - 1,by omega⟩
   rw [Nat.add_sub_cancel] at hqk hqn
   have hdq := drop_int hqn
   have hdqk := drop_str hqk
   have hql := h.key qk (List.mem_of_getElem? hqk)
   have cl := rpless_L qk k hql hkl
   have hip2 : ((0 : Int) < ((j + 1 : Nat) : Int)) = True := eq_true (by omega)
   have hj : IntKind.i64.wrap (((j + 1 : Nat) : Int) - 1) = (j : Int) := w64p (n := j + 1) (by omega) (by omega)
   have hj0 : (0 : Int) ≤ (j : Int) := by omega
   have hjl : j < p.pages.length := by omega
   have hjk : j < p.keys.length := by omega
   by_cases hle : n ≤ qn
   ·have hlei : (n ≤ qn) = True := eq_true hle
    simp only [hle,decide_true,Bool.not_true,Bool.false_and,Bool.and_false] at hr
    refine Yn1 (fa19 @e1 @b1 @e4 @hip @hip2 @hlt @hlk @hd @hdk @hdq @hdqk @hj @hj0 @hjl @hjk @n0 @n1 @hlei @hmd) ?_;intro K hK
    refine Yc1 (cm) (fa18 @e1 @b1 @e4 @hip @hip2 @hlt @hlk @hd @hdk @hdq @hdqk @hj @hj0 @hjl @hjk @n0 @n1 @hlei) ?_
    refine hK _ ?_;clear hK K;try refine Wh0 ?_
    refine Yt0 ?_
    refine Yg0 ?_
    refine Ye0 ?_;try (with_reducible exact trivial)
    rw [← hr]
   simp only [hle,decide_false,Bool.not_false,Bool.true_and] at hr
   cases hlb : lessB qk k
   ·rw [hlb] at cl hr
    refine Yn1 (fa19 @e1 @b1 @e4 @hip @hip2 @hlt @hlk @hd @hdk @hdq @hdqk @hj @hj0 @hjl @hjk @n0 @n1 @hle @hmd) ?_;intro K hK
    refine Yc1 (cm) (fa18 @e1 @b1 @e4 @hip @hip2 @hlt @hlk @hd @hdk @hdq @hdqk @hj @hj0 @hjl @hjk @n0 @n1 @hle) ?_
    refine Yc1 (cl) (fa18 @e1 @b1 @e4 @hip @hip2 @hlt @hlk @hd @hdk @hdq @hdqk @hj @hj0 @hjl @hjk @n0 @n1 @hle) ?_
    refine hK _ ?_;clear hK K;try refine Wh0 ?_
    refine Yt0 ?_
    refine Yg0 ?_
    refine Ye0 ?_;try (with_reducible exact trivial)
    rw [← hr];rfl
   ·rw [hlb] at cl hr
    refine Yn1 (fa19 @e1 @b1 @e4 @hip @hip2 @hlt @hlk @hd @hdk @hdq @hdqk @hj @hj0 @hjl @hjk @n0 @n1 @hle @hmd) ?_;intro K hK
    refine Yc1 (cm) (fa18 @e1 @b1 @e4 @hip @hip2 @hlt @hlk @hd @hdk @hdq @hdqk @hj @hj0 @hjl @hjk @n0 @n1 @hle) ?_
    refine Yc1 (cl) (fa18 @e1 @b1 @e4 @hip @hip2 @hlt @hlk @hd @hdk @hdq @hdqk @hj @hj0 @hjl @hjk @n0 @n1 @hle) ?_
    refine hK _ ?_;clear hK K;try refine Wh0 ?_
    refine Yf0 ?_
    refine Yg1 (fa2 @e4 @hw) ?_
    exact ⟨m - 1,by omega,j + 1 + 1,some (k,n),by omega,.inr ⟨by omega,k,n,by rw [Nat.add_sub_cancel];exact hk',by rw [Nat.add_sub_cancel];exact hn',rfl⟩,(Yq1 @e1),(Yq1 (fa5 @b1 @pgL.eq_1 @rowL.eq_1 @strsL.eq_1 @intsL.eq_1)),(Yq1 @hw),hr,(Yq1 @hmd)⟩
 rintro st ⟨rfl,hmd⟩
 refine Yg0 ?_
 refine Ye0 ?_;try (with_reducible exact trivial)
set_option maxRecDepth 100000 in
theorem qfirst_L (p : Pg) (h : SmallP p) (ht : ∀ r ∈ p.recs,r.node.target.length ≤ maxLen) : LCalls Tryz.prog 14 [.agg (pgL p)] (strL (firstPg p)) := by
 have cm := qmaypage_L p h ht
 simp only [pgL,rowL,strsL,intsL] at cm
 refine LCalls.of (fun _ => false) Tryz.func14 rfl (by decide) Tryz.ntmps14 Tryz.results14 (by simp) ?_
 intro w0 S0 vs hgl hwf0 hsz hvs;clear hsz hvs hwf0 hgl
 generalize hR : firstPg p = R
 unfold firstPg at hR
 refine Yg1 (fa4 @pgL.eq_1 @rowL.eq_1 @strsL.eq_1 @intsL.eq_1) ?_
 cases hm : mayPg p
 ·rw [hm] at cm
  rw [hm,if_neg (by decide)] at hR
  subst hR
  refine Yr0 ?_;intro K hK
  refine Yc0 (cm) ?_
  refine hK _ ?_;clear hK K;try refine Wh0 ?_
  refine Yt0 ?_
  refine Yg0 ?_
  refine Ye1 @strL.eq_1 ?_;try (with_reducible exact trivial)
 rw [hm,if_pos rfl] at hR
 have hm2 := hm
 rw [hm] at cm
 unfold mayPg at hm2
 refine Yr0 ?_;intro K hK
 refine Yc0 (cm) ?_
 refine hK _ ?_;clear hK K;try refine Wh0 ?_
 refine Yf0 ?_
 cases hlf : p.leaf
 ·rw [hlf,if_neg (by decide)] at hR hm2
  unfold mayInner at hm2
  simp only [Bool.and_eq_true,Bool.not_eq_true',decide_eq_true_eq,decide_eq_false_iff_not] at hm2
  obtain ⟨k,hk⟩ := get_of_lt (l := p.keys) (i := 0) (by omega)
  have hd := drop_str hk
  have hlt : ((0 : Int) < (p.keys.length : Int)) = True := eq_true (by omega)
  rw [List.head?_eq_getElem?,hk] at hR
  simp only [Option.getD_some] at hR
  subst hR
  refine Yg1 @hlf ?_
  refine Yf0 ?_
  rw [List.drop_zero] at hd
  refine Yg1 (fa4 @hlt @i00 @i0n @hd) ?_
  refine Ye0 ?_;try (with_reducible exact trivial)
 ·rw [hlf,if_pos rfl] at hR hm2
  unfold mayLeaf at hm2
  simp only [Bool.and_eq_true,Bool.not_eq_true',decide_eq_true_eq,decide_eq_false_iff_not] at hm2
  obtain ⟨r,hr⟩ := get_of_lt (l := p.recs) (i := 0) (by omega)
  have hd := drop_rec hr
  have hlt : ((0 : Int) < (p.recs.length : Int)) = True := eq_true (by omega)
  rw [List.head?_eq_getElem?,hr] at hR
  simp only [Option.map_some,Option.getD_some] at hR
  subst hR
  simp only [recL,nodeL,attrsL,acesL,piecesL,rowL,List.cons_append,List.nil_append] at hd
  refine Yg1 @hlf ?_
  refine Yt0 ?_
  rw [Nat.zero_mul,List.drop_zero] at hd
  refine Yg1 (fa4 @hlt @i00 @i0n @hd) ?_
  refine Ye0 ?_;try (with_reducible exact trivial)
end Go.Proofs.YtnmjghcdccfphaaGreatDoor
end
