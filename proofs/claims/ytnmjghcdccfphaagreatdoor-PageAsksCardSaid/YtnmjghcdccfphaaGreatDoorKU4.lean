import Derived.Test.YtnmjghcdccfphaaGreatDoorKTB
import Derived.Test.YtnmjghcdccfphaaGreatDoorRBare
import Derived.Test.YtnmjghcdccfphaaGreatDoorL25
section
set_option linter.unusedSimpArgs false
set_option linter.unusedVariables false
namespace Go.Proofs.YtnmjghcdccfphaaGreatDoor
open Nat renaming reduceAdd → zz1,reduceMul → zz2,reduceSub → zz3,reduceLT → zz4,reduceLeDiff → zz5,reduceEqDiff → zz6,reduceBEq → zzf
open Int renaming reduceAdd → zz7,reduceSub → zz8,reduceMul → zz9,reduceLT → zza,reduceLE → zzb,reduceEq → zzc,reduceNeg → zzd,reduceToNat → zze
open Op renaming operands → zo
open Call renaming operands → zc
open Go.RowKit Go.Proofs RecSpec

def u64L (n : Nat) : LV := .lit (.int .u64 (n : Int))
def byL (c : UInt8) : LV := .lit (.int .u8 (c.toNat : Int))
def bytesL' (b : List UInt8) : LV := .sl b.length (bL b) .no
theorem rep_tup2 {P : Program} {w : World} {g : Gh} (a b : Value) : Rep P w g (.tup [.lit a,.lit b]) (.tuple #[a,b]) :=
 .tup _ _ _ rfl fun i x u hx hu => by
  rcases i with _ | _ | i
  ·cases hx;cases hu;exact .lit _ _
  ·cases hx;cases hu;exact .lit _ _
  ·simp at hx
theorem mul64_L (x y : Nat) (hx : x < 18446744073709551616) (hy : y < 18446744073709551616) : LCalls Tryz.prog 46 [u64L x,u64L y] (.tup [u64L (x * y / 18446744073709551616),u64L (x * y % 18446744073709551616)]) := by
 refine LCalls.val_of (fun w S => rep_tup2 _ _) (enters_of Tryz.func46 (by kernel_rfl) rfl) fun w S vs hgl hs hr => ?_
 obtain ⟨a,b,rfl⟩ := args2 hs
 have h0 := (hr 0 _ a rfl rfl).inv_lit
 have h1 := (hr 1 _ b rfl rfl).inv_lit
 subst h0;subst h1
 refine (Tryz.bits_Mul64 x y hx hy w).mono ?_
 rintro e w' ⟨rfl,rfl⟩
 exact ⟨rfl,G.refl _⟩
theorem bL_get {b : List UInt8} {i : Nat} {c : UInt8} (h : b[i]? = some c) : (bL b).drop i = byL c :: (bL b).drop (i + 1) := by
 obtain ⟨hi,rfl⟩ := List.getElem?_eq_some_iff.1 h
 have hl : i < (bL b).length := by rw [bL_len];exact hi
 rw [List.drop_eq_getElem_cons hl]
 congr 1
 simp [bL,byL]
theorem bL_snoc (b : List UInt8) (c : UInt8) : bL (b ++ [c]) = bL b ++ [byL c] := by unfold bL byL;rw [List.map_append];rfl
theorem bL_app (b c : List UInt8) : bL (b ++ c) = bL b ++ bL c := by unfold bL;rw [List.map_append]
theorem wu8 {n : Nat} (h : n < 256) : IntKind.u8.wrap (n : Int) = (n : Int) := by
 have h2 : IntKind.u8.wrap (n : Int) = (n : Int) % 256 := by unfold IntKind.wrap;rfl
 rw [h2];omega
theorem wuN {n : Nat} (h : n < 18446744073709551616) : IntKind.u64.wrap (n : Int) = n := by
 have h2 : IntKind.u64.wrap (n : Int) = (n : Int) % 18446744073709551616 := by unfold IntKind.wrap;rfl
 rw [h2];omega
theorem ndiv (a b : Nat) (x : Int) (h : x = b) : (a : Int).tdiv x = ((a / b : Nat) : Int) := by
 rw [h,Int.tdiv_eq_ediv_of_nonneg (by omega)];rfl
theorem nmod (a b : Nat) (x : Int) (h : x = b) : (a : Int).tmod x = ((a % b : Nat) : Int) := by
 rw [h,Int.tmod_eq_emod_of_nonneg (by omega)];rfl
theorem putU_le : ∀ (k n : Nat),n < 250 ^ (k + 1) → (putU n).length ≤ 2 * k + 1
 | 0,n,h => by rw [putU_lo (by omega)];simp
 | k + 1,n,h => by
  by_cases h2 : n < 250
  ·rw [putU_lo h2];simp
  ·rw [putU_hi h2]
   have := putU_le k (n / 250) (by rw [Nat.pow_succ] at h;omega)
   simp only [List.length_cons];omega
theorem putU_u64 {n : Nat} (h : n < 18446744073709551616) : (putU n).length ≤ 17 := putU_le 8 n (by omega)
set_option maxRecDepth 100000 in
theorem nput_O (n : Nat) (hn : n < 18446744073709551616) : OCalls Tryz.prog 40 [u64L n] ⟨[],[],[]⟩ (.sl (putU n).length (bL (putU n)) (.row 2000)) ⟨[(2000,(5,(putU n).length))],[],[]⟩ := by
 have hp := putU_u64 hn
 refine OCalls.of (fun _ => false) Tryz.func40 rfl (by decide) Tryz.ntmps40 Tryz.results40 (by simp) ?_
 intro w0 S0 vs
 generalize hR : putU n = R at *
 refine Yg0 ?_
 refine LW_lab1 (fun k st => ∃ l : List UInt8,k < 18446744073709551616 ∧ l ++ putU k = R ∧ st.env 0 = u64L k ∧ st.env 3 = .sl l.length (bL l) (.row 1000) ∧ st.row 1000 = some (5,l.length) ∧ st.mode = fun _ => false) rfl ?_ ?_
 ·intro hJ
  refine Yo0 ?_
  refine LW_nil (k := 3) (q := 1000) (e := 5) Yq0 ?_
  refine Yl0 ?_
  exact hJ.out n _ ⟨[],hn,by rw [List.nil_append];exact hR,(Yq1 @u64L.eq_1),Yq0,Yq0,rfl⟩
 ·rintro k st ⟨l,hk,hl,e0,e3,r3,hmd⟩
  simp only [u64L] at e0
  have hlen : l.length ≤ 17 := by
   have := congrArg List.length hl
   rw [List.length_append] at this;omega
  have hbl := bL_len l
  by_cases hlo : k < 250
  ·have hli : ((k : Int) < 250) = True := eq_true (by omega)
   have hc := wu8 (n := k) (by omega)
   have hb1 : bL [k.toUInt8] = [.lit (.int .u8 (k : Int))] := by simp [bL,toU8 hlo]
   rw [putU_lo hlo] at hl
   refine Yg1 (fa2 @e0 @hli) ?_
   refine Yt0 ?_
   refine Yr1 (fa6 @e0 @e3 @r3 @hmd @hc @hbl) ?_;intro K hK
   refine ⟨by (repeat' apply And.intro) <;> first | omega | (unfold maxLen;omega) | (intro _;omega) | decide,?_⟩
   refine hK _ ?_;clear hK K;try refine Wh0 ?_
   refine LW_ret ?_;simp only [thenL,jumpsL,inBlockL,twoL,bodyO];refine ⟨[(1000,2000)],rfl,?_⟩;simp only [thenL,jumpsL,inBlockL,twoL,bodyQ,LV.lit.injEq,LV.tup.injEq,LV.agg.injEq,LV.sl.injEq,List.cons.injEq,Value.int.injEq,Value.bool.injEq,Value.string.injEq,ByteArray.mk.injEq,exists_eq_left',exists_eq_left,exists_eq_right,LZ,zo,zc,reduceCtorEq,reduceIte,zz1,zz2,zz3,zz4,zz5,zz6,zz7,zz8,zz9,zza,zzb,zzc,zzd,zze,zzf,hc]
   rw [← hl,List.length_append,bL_app,hb1]
   exact ⟨⟨rfl,rfl⟩,rfl⟩
  ·have hli : ¬ ((k : Int) < 250) := by omega
   have hm := nmod k 250 250 rfl
   have hd := ndiv k 250 250 rfl
   have hc := wu8 (n := k % 250) (by omega)
   have hq := wuN (n := k / 250) (by omega)
   have hb2 : bL [250,(k % 250).toUInt8] = [.lit (.int .u8 250),.lit (.int .u8 ((k % 250 : Nat) : Int))] := by simp [bL,toU8 (show k % 250 < 250 by omega)]
   rw [putU_hi hlo] at hl
   refine Yg1 (fa2 @e0 @hli) ?_
   refine Yf0 ?_
   refine Yr1 (fa7 @e0 @e3 @r3 @hmd @hm @hc @hbl) ?_;intro K hK
   refine ⟨by (repeat' apply And.intro) <;> first | omega | (unfold maxLen;omega) | (intro _;omega) | decide,?_⟩
   refine hK _ ?_;clear hK K;try refine Wh0 ?_
   refine Yg1 (fa3 @e0 @hd @hq) ?_
   refine LW_goto ?_;simp only [thenL,jumpsL,inBlockL,twoL,true_and]
   refine ⟨k / 250,by omega,l ++ [250,(k % 250).toUInt8],by omega,by rw [← hl];simp,(Yq1 (fa3 @hd @hq @u64L.eq_1)),?_,?_,(Yq1 @hmd)⟩
   ·rw [List.length_append,bL_app,hb2];exact Yq0
   ·rw [List.length_append];exact Yq0
theorem bL_one (b : List UInt8) : (bL b).all oneL = true := by
 rw [List.all_eq_true]
 intro x hx
 obtain ⟨c,_,rfl⟩ := List.mem_map.1 hx
 rfl
set_option maxRecDepth 100000 in
theorem ntext_O (t : List UInt8) (ht : t.length ≤ 1000000) : OCalls Tryz.prog 42 [strL t] ⟨[],[],[]⟩ (.sl (putT t).length (bL (putT t)) (.row 2000)) ⟨[(2000,(5,(putT t).length))],[],[]⟩ := by
 have hc := wuN (n := t.length) (by omega)
 have cp := nput_O t.length (by omega)
 have hp := putU_u64 (n := t.length) (by omega)
 have h1 := bL_len (putU t.length)
 have h2 := bL_len t
 have h3 := bL_one t
 simp only [u64L] at cp
 refine OCalls.of (fun _ => false) Tryz.func42 rfl (by decide) Tryz.ntmps42 Tryz.results42 (by simp) ?_
 intro w0 S0 vs
 refine Yg0 ?_
 have hmd : (fun _ : Nat => false) = fun _ : Nat => false := rfl
 (repeat (first | refine LW_seq ?_ | (refine LW_skip ?_;simp only [LSj,reduceIte,zze]) | refine LW_block ?_));refine LW_regionO [(6,⟨_,_,_,_,_,[],[(2000,1000)],_,[],(cp).toS,rfl,rfl,rfl⟩)] ?_;intro K hK;simp only [LZ,zo,zc,reduceCtorEq,reduceIte,zz1,zz2,zz3,zz4,zz5,zz6,zz7,zz8,zz9,zza,zzb,zzc,zzd,zze,zzf,hc,h1,h2,h3]
 refine ⟨by (repeat' apply And.intro) <;> first | omega | (unfold maxLen;omega) | (intro _;omega) | decide,?_⟩
 refine hK _ ?_;clear hK K;try refine Wh0 ?_
 refine LW_ret ?_;simp only [thenL,jumpsL,inBlockL,twoL,bodyO];refine ⟨[(1000,2000)],rfl,?_⟩;simp only [thenL,jumpsL,inBlockL,twoL,bodyQ,LV.lit.injEq,LV.tup.injEq,LV.agg.injEq,LV.sl.injEq,List.cons.injEq,Value.int.injEq,Value.bool.injEq,Value.string.injEq,ByteArray.mk.injEq,exists_eq_left',exists_eq_left,exists_eq_right,LZ,zo,zc,reduceCtorEq,reduceIte,zz1,zz2,zz3,zz4,zz5,zz6,zz7,zz8,zz9,zza,zzb,zzc,zzd,zze,zzf]
 unfold putT
 rw [List.length_append,bL_app]
 exact ⟨⟨rfl,rfl⟩,rfl⟩
def digP (b : List UInt8) (i : Nat) : Nat × Nat × Bool := match b.drop i with
 | c :: r => if c.toNat < 250 then (c.toNat,i + 1,true) else if c.toNat = 250 then (match r with | d :: _ => if d.toNat < 250 then (d.toNat,i + 2,true) else (0,i,false) | [] => (0,i,false)) else (0,i,false)
 | [] => (0,i,false)
theorem wb {c : UInt8} : IntKind.u64.wrap (c.toNat : Int) = (c.toNat : Int) := wuN (by have := c.toNat_lt;omega)
set_option maxRecDepth 100000 in
theorem ndigit_L (b : List UInt8) (hb : b.length ≤ 1000000) (i : Nat) (hi : i ≤ b.length) : LCalls Tryz.prog 45 [bytesL' b,intL i] (.tup [u64L (digP b i).1,intL (digP b i).2.1,boolL (digP b i).2.2]) := by
 have hbl := bL_len b
 have hip : (0 : Int) ≤ (i : Int) := by omega
 have hw := w64s (n := i) (by omega)
 have hw2 : IntKind.i64.wrap ((i : Int) + 2) = ((i + 2 : Nat) : Int) := w64 (by omega)
 refine LCalls.of (fun _ => false) Tryz.func45 rfl (by decide) Tryz.ntmps45 Tryz.results45 (by simp) ?_
 intro w0 S0 vs hgl hwf0 hsz hvs;clear hsz hvs hwf0 hgl
 generalize hR : digP b i = R
 unfold digP at hR
 refine Yg0 ?_
 by_cases h1 : i < b.length
 rotate_left
 ·rw [List.drop_of_length_le (by omega)] at hR
  have h1i : ¬ ((i : Int) < (b.length : Int)) := by omega
  have h2i : ¬ (((i + 1 : Nat) : Int) < (b.length : Int)) := by omega
  refine Yg1 (fa3 @bytesL'.eq_1 @h1 @h1i) ?_
  refine Yf0 ?_
  refine Yg1 (fa3 @bytesL'.eq_1 @hw @h2i) ?_
  refine Yf0 ?_
  refine Yg0 ?_
  refine Ye0 ?_;try (with_reducible exact trivial)
  rw [← hR];exact ⟨rfl,rfl,rfl⟩
 obtain ⟨c,hc⟩ := get_of_lt h1
 have hd := bL_get hc
 have h1i : ((i : Int) < (b.length : Int)) = True := eq_true (by omega)
 rw [List.drop_eq_getElem_cons h1,(List.getElem?_eq_some_iff.1 hc).2] at hR
 simp only at hR
 simp only [byL] at hd
 by_cases h2 : c.toNat < 250
 ·have h2i : ((c.toNat : Int) < 250) = True := eq_true (by omega)
  have hwb := @wb c
  rw [if_pos h2] at hR
  refine Yg1 (fa6 @bytesL'.eq_1 @h1 @h1i @hip @hd @h2i) ?_
  refine Yt0 ?_
  refine Yg1 (fa6 @bytesL'.eq_1 @h1 @hip @hd @hwb @hw) ?_
  refine Ye0 ?_;try (with_reducible exact trivial)
  rw [← hR];exact ⟨rfl,rfl,rfl⟩
 have h2i : ¬ ((c.toNat : Int) < 250) := by omega
 rw [if_neg h2] at hR
 refine Yg1 (fa6 @bytesL'.eq_1 @h1 @h1i @hip @hd @h2i) ?_
 refine Yf0 ?_
 by_cases h3 : i + 1 < b.length
 rotate_left
 ·have h3i : ¬ (((i + 1 : Nat) : Int) < (b.length : Int)) := by omega
  rw [List.drop_of_length_le (by omega)] at hR
  refine Yg1 (fa3 @bytesL'.eq_1 @hw @h3i) ?_
  refine Yf0 ?_
  refine Yg0 ?_
  refine Ye0 ?_;try (with_reducible exact trivial)
  rw [← hR];split <;> exact ⟨rfl,rfl,rfl⟩
 have h3i : (((i + 1 : Nat) : Int) < (b.length : Int)) = True := eq_true (by omega)
 obtain ⟨c2,hc2⟩ := get_of_lt h3
 have hd2 := bL_get hc2
 rw [List.drop_eq_getElem_cons h3,(List.getElem?_eq_some_iff.1 hc2).2] at hR
 simp only at hR
 simp only [byL] at hd2
 have hip2 : (0 : Int) ≤ ((i + 1 : Nat) : Int) := by omega
 by_cases h4 : c.toNat = 250
 rotate_left
 ·have h4i : ¬ ((c.toNat : Int) = 250) := by omega
  rw [if_neg h4] at hR
  refine Yg1 (fa7 @bytesL'.eq_1 @hw @h3i @h1 @hip @hd @h4i) ?_
  refine Yf0 ?_
  refine Yg0 ?_
  refine Ye0 ?_;try (with_reducible exact trivial)
  rw [← hR];exact ⟨rfl,rfl,rfl⟩
 have h4i : ((c.toNat : Int) = 250) = True := eq_true (by omega)
 rw [if_pos h4] at hR
 by_cases h5 : c2.toNat < 250
 ·have h5i : ((c2.toNat : Int) < 250) = True := eq_true (by omega)
  have hwb := @wb c2
  rw [if_pos h5] at hR
  refine Yg1 (fa11 @bytesL'.eq_1 @hw @h3i @h3 @h1 @hip @hip2 @hd @hd2 @h4i @h5i) ?_
  refine Yt0 ?_
  refine Yg1 (fa7 @bytesL'.eq_1 @hw @hw2 @h3 @hip2 @hd2 @hwb) ?_
  refine Ye0 ?_;try (with_reducible exact trivial)
  rw [← hR];exact ⟨rfl,rfl,rfl⟩
 ·have h5i : ¬ ((c2.toNat : Int) < 250) := by omega
  rw [if_neg h5] at hR
  refine Yg1 (fa11 @bytesL'.eq_1 @hw @h3i @h3 @h1 @hip @hip2 @hd @hd2 @h4i @h5i) ?_
  refine Yf0 ?_
  refine Yg0 ?_
  refine Ye0 ?_;try (with_reducible exact trivial)
  rw [← hR];exact ⟨rfl,rfl,rfl⟩
end Go.Proofs.YtnmjghcdccfphaaGreatDoor
end
section
set_option linter.unusedSimpArgs false
set_option linter.unusedVariables false
namespace Go.Proofs.YtnmjghcdccfphaaGreatDoor
open Go.RowKit Go.Proofs RecSpec

theorem digP_ok {b : List UInt8} {k : Nat} : (digP b k).1 < 250 ∧ ((digP b k).2.2 = true → k < (digP b k).2.1 ∧ (digP b k).2.1 ≤ b.length ∧ (digP b k).2.1 ≤ k + 2) ∧ ((digP b k).2.2 = false → (digP b k).1 = 0 ∧ (digP b k).2.1 = k) := by
 unfold digP
 rcases h : b.drop k with _ | ⟨c,_ | ⟨d,s⟩⟩
 ·simp
 ·have := congrArg List.length h
  simp only [List.length_drop,List.length_cons,List.length_nil] at this
  by_cases h1 : c.toNat < 250
  ·simp [h1];omega
  ·by_cases h2 : c.toNat = 250 <;> simp [h1,h2]
 ·have := congrArg List.length h
  simp only [List.length_drop,List.length_cons] at this
  by_cases h1 : c.toNat < 250
  ·simp [h1];omega
  ·by_cases h2 : c.toNat = 250
   ·by_cases h3 : d.toNat < 250 <;> simp [h2,h3];omega
   ·simp [h1,h2]
theorem getU_dig (b : List UInt8) (k n u : Nat) (f : Bool) : getU (b.drop k) n u f =
  if (digP b k).2.2 = false ∨ u = 0 ∨ big ≤ (digP b k).1 * u ∨ big ≤ n + (digP b k).1 * u ∨ ((digP b k).2.1 = k + 1 ∧ (digP b k).1 = 0 ∧ f = false) then none
  else if (digP b k).2.1 = k + 1 then some (n + (digP b k).1 * u,b.drop (digP b k).2.1)
  else getU (b.drop (digP b k).2.1) (n + (digP b k).1 * u) (if big ≤ u * 250 then 0 else u * 250) false := by
 have hd1 : b.drop (k + 1) = (b.drop k).tail := by rw [List.tail_drop]
 have hd2 : b.drop (k + 2) = (b.drop k).tail.tail := by rw [List.tail_drop,List.tail_drop]
 unfold digP
 rcases h : b.drop k with _ | ⟨c,_ | ⟨d,s⟩⟩
 ·simp [getU_nil]
 ·by_cases h1 : c.toNat < 250
  ·rw [getU_lo h1];simp [h1,hd1,h]
  ·by_cases h2 : c.toNat = 250
   ·rw [getU_end h2];simp [h1,h2]
   ·rw [getU_bad h1 h2];simp [h1,h2]
 ·by_cases h1 : c.toNat < 250
  ·rw [getU_lo h1];simp [h1,hd1,h]
  ·by_cases h2 : c.toNat = 250
   ·rw [getU_hi h2]
    by_cases h3 : d.toNat < 250
    ·simp [h2,h3,hd2,h]
    ·simp [h2,h3]
   ·rw [getU_bad h1 h2];simp [h1,h2]
def getP (b : List UInt8) (i : Nat) : Nat × Nat × Nat := match getU (b.drop i) 0 1 true with
 | some (v,r) => (v,b.length - r.length,0)
 | none => (0,i,3)
set_option maxRecDepth 100000 in
theorem nget_L (b : List UInt8) (hb : b.length ≤ 1000000) (i : Nat) (hi : i ≤ b.length) : LCalls Tryz.prog 22 [bytesL' b,intL i] (.tup [u64L (getP b i).1,intL (getP b i).2.1,intL (getP b i).2.2]) := by
 have hbl := bL_len b
 have hip : ¬ ((i : Int) < 0) := by omega
 have hil : ¬ ((b.length : Int) < (i : Int)) := by omega
 refine LCalls.of (fun _ => false) Tryz.func22 rfl (by decide) Tryz.ntmps22 Tryz.results22 (by simp) ?_
 intro w0 S0 vs hgl hwf0 hsz hvs;clear hsz hvs hwf0 hgl
 generalize hR : getP b i = R
 unfold getP at hR
 refine Yg0 ?_
 refine LW_lab1 (fun m st => ∃ k n u,m = b.length - k ∧ i ≤ k ∧ k ≤ b.length ∧ n < 18446744073709551616 ∧ u < 18446744073709551616 ∧ getU (b.drop k) n u (decide (k = i)) = getU (b.drop i) 0 1 true ∧ st.env 0 = bytesL' b ∧ st.env 1 = intL i ∧ st.env 7 = u64L n ∧ st.env 8 = u64L u ∧ st.env 9 = intL k ∧ st.mode = fun _ => false) rfl ?_ ?_
 ·intro hJ
  refine Yg1 (fa3 @bytesL'.eq_1 @hip @hil) ?_
  refine Yf0 ?_
  refine Yl0 ?_
  exact hJ.out (b.length - i) _ ⟨i,0,1,rfl,Nat.le_refl _,hi,by omega,by omega,by simp,(Yq1 @bytesL'.eq_1),Yq0,(Yq1 @u64L.eq_1),(Yq1 @u64L.eq_1),Yq0,Yq0⟩
 ·rintro m st ⟨k,n,u,rfl,hik,hkb,hn,hu,hg,e0,e1,e7,e8,e9,hmd⟩
  rw [getU_dig] at hg
  obtain ⟨hd,hok,hno⟩ := digP_ok (b := b) (k := k)
  have cd := ndigit_L b hb k hkb
  generalize hD : digP b k = D at *
  obtain ⟨d,j,ok⟩ := D
  simp only at hg hd hok hno cd
  have cm := mul64_L d u (by omega) hu
  have cm2 := mul64_L u 250 hu (by omega)
  obtain ⟨hw,ehw⟩ : ∃ x,x = d * u / 18446744073709551616 := ⟨_,rfl⟩
  obtain ⟨lo,elo⟩ : ∃ x,x = d * u % 18446744073709551616 := ⟨_,rfl⟩
  obtain ⟨uh,euh⟩ : ∃ x,x = u * 250 / 18446744073709551616 := ⟨_,rfl⟩
  obtain ⟨ul,eul⟩ : ∃ x,x = u * 250 % 18446744073709551616 := ⟨_,rfl⟩
  obtain ⟨s,es⟩ : ∃ x,x = (n + lo) % 18446744073709551616 := ⟨_,rfl⟩
  obtain ⟨c,ec⟩ : ∃ x,x = (n + lo) / 18446744073709551616 := ⟨_,rfl⟩
  rw [← ehw,← elo] at cm
  rw [← euh,← eul] at cm2
  have hn0 : ((0 : Int) ≤ (n : Int)) = True := eq_true (by omega)
  have hl0 : ((0 : Int) ≤ (lo : Int)) = True := eq_true (by omega)
  have hs1 : ((n : Int) + (lo : Int)) % 18446744073709551616 = (s : Int) := by omega
  have hc1 : ((n : Int) + (lo : Int)) / 18446744073709551616 = (c : Int) := by omega
  have hs2 : ((n : Int) + (lo : Int) + 0) % 18446744073709551616 = (s : Int) := by omega
  have hc2 : ((n : Int) + (lo : Int) + 0) / 18446744073709551616 = (c : Int) := by omega
  have hk1 := w64s (n := k) (by omega)
  have hji : ((j : Int) = ((k + 1 : Nat) : Int)) = (j = k + 1) := propext (by omega)
  simp only [u64L,bytesL',intL] at e0 e1 e7 e8 e9 cd cm cm2
  rw [show ((250 : Nat) : Int) = 250 from rfl] at cm2
  refine Yr1 (fa3 @e0 @e9 @hbl) ?_;intro K hK
  refine Yc0 (cd) ?_
  refine hK _ ?_;clear hK K;try refine Wh0 ?_
  refine Yg1 (fa3 @e9 @hk1 @hji) ?_
  refine Yr1 @e8 ?_;intro K hK
  refine Yc0 (cm) ?_
  refine hK _ ?_;clear hK K;try refine Wh0 ?_
  refine Yo1 (fa7 @e7 @hn0 @hl0 @hs1 @hc1 @hs2 @hc2) ?_
  refine LW_slim (fun st => st.env 0 = bytesL' b ∧ st.env 1 = intL i ∧ st.env 8 = u64L u ∧ st.env 9 = intL k ∧ st.env 10 = u64L d ∧ st.env 11 = intL j ∧ st.env 12 = boolL ok ∧ st.env 13 = boolL (decide (j = k + 1)) ∧ st.env 14 = u64L hw ∧ st.env 16 = u64L s ∧ st.env 17 = u64L c ∧ st.mode = fun _ => false) ⟨(Yq1 (fa2 @e0 @bytesL'.eq_1)),(Yq1 @e1),(Yq1 (fa2 @e8 @u64L.eq_1)),(Yq1 @e9),(Yq1 @u64L.eq_1),Yq0,Yq0,Yq0,(Yq1 @u64L.eq_1),(Yq1 @u64L.eq_1),(Yq1 @u64L.eq_1),(Yq1 @hmd)⟩ ?_
  clear e0 e1 e7 e8 e9 hmd st
  rintro st ⟨e0,e1,e8,e9,e10,e11,e12,e13,e14,e16,e17,hmd⟩
  simp only [u64L] at e8 e10 e14 e16 e17
  simp only [intL] at e9 e11
  clear cd cm
  have hE : ∃ E : Prop,E = (ok = false ∨ u = 0 ∨ hw ≠ 0 ∨ c ≠ 0 ∨ (j = k + 1 ∧ d = 0 ∧ i < k)) := ⟨_,rfl⟩
  obtain ⟨E,hE⟩ := hE
  haveI : Decidable E := Classical.propDecidable E
  have hlt : ((i : Int) < (k : Int)) = (i < k) := propext (by omega)
  (repeat refine LW_seq ?_)
  refine LW_join (fun st => st.env 0 = bytesL' b ∧ st.env 1 = intL i ∧ st.env 8 = u64L u ∧ st.env 9 = intL k ∧ st.env 11 = intL j ∧ st.env 13 = boolL (decide (j = k + 1)) ∧ st.env 16 = u64L s ∧ st.mode = (fun _ => false) ∧ st.env 76 = boolL (decide E)) ?_ ?_
  ·simp only [boolL] at e12 e13
   cases ok
   ·rw [show decide E = true from decide_eq_true (hE ▸ .inl rfl)]
    refine Yg1 @e12 ?_
    exact ⟨(Yq1 @e0),(Yq1 @e1),(Yq1 (fa2 @e8 @u64L.eq_1)),(Yq1 @e9),(Yq1 @e11),(Yq1 @e13),(Yq1 (fa2 @e16 @u64L.eq_1)),(Yq1 @hmd),Yq0⟩
   by_cases hu0 : u = 0
   ·rw [show decide E = true from decide_eq_true (hE ▸ .inr (.inl hu0))]
    refine Yg1 (fa3 @e12 @e8 @hu0) ?_
    exact ⟨(Yq1 @e0),(Yq1 @e1),(Yq1 (fa2 @e8 @u64L.eq_1)),(Yq1 @e9),(Yq1 @e11),(Yq1 @e13),(Yq1 (fa2 @e16 @u64L.eq_1)),(Yq1 @hmd),Yq0⟩
   have hu0i : ¬ ((u : Int) = 0) := by omega
   by_cases hw0 : hw = 0
   rotate_left
   ·have hw0i : ¬ ((hw : Int) = 0) := by omega
    ·rw [show decide E = true from decide_eq_true (hE ▸ .inr (.inr (.inl hw0)))]
     refine Yg1 (fa5 @e12 @e8 @hu0i @e14 @hw0i) ?_
     exact ⟨(Yq1 @e0),(Yq1 @e1),(Yq1 (fa2 @e8 @u64L.eq_1)),(Yq1 @e9),(Yq1 @e11),(Yq1 @e13),(Yq1 (fa2 @e16 @u64L.eq_1)),(Yq1 @hmd),Yq0⟩
   have hw0i : ((hw : Int) = 0) = True := eq_true (by omega)
   by_cases hc0 : c = 0
   rotate_left
   ·have hc0i : ¬ ((c : Int) = 0) := by omega
    ·rw [show decide E = true from decide_eq_true (hE ▸ .inr (.inr (.inr (.inl hc0))))]
     refine Yg1 (fa7 @e12 @e8 @hu0i @e14 @hw0i @e17 @hc0i) ?_
     exact ⟨(Yq1 @e0),(Yq1 @e1),(Yq1 (fa2 @e8 @u64L.eq_1)),(Yq1 @e9),(Yq1 @e11),(Yq1 @e13),(Yq1 (fa2 @e16 @u64L.eq_1)),(Yq1 @hmd),Yq0⟩
   have hc0i : ((c : Int) = 0) = True := eq_true (by omega)
   by_cases hj : j = k + 1
   rotate_left
   ·rw [show decide E = false from decide_eq_false (by rw [hE];simp [hu0,hw0,hc0,hj])]
    refine Yg1 (fa9 @e12 @e8 @hu0i @e14 @hw0i @e17 @hc0i @e13 @hj) ?_
    exact ⟨(Yq1 @e0),(Yq1 @e1),(Yq1 (fa2 @e8 @u64L.eq_1)),(Yq1 @e9),(Yq1 @e11),(Yq1 @e13),(Yq1 (fa2 @e16 @u64L.eq_1)),(Yq1 @hmd),Yq0⟩
   by_cases hd0 : d = 0
   rotate_left
   ·have hd0i : ¬ ((d : Int) = 0) := by omega
    ·rw [show decide E = false from decide_eq_false (by rw [hE];simp [hu0,hw0,hc0,hd0])]
     refine Yg1 (fa11 @e12 @e8 @hu0i @e14 @hw0i @e17 @hc0i @e13 @hj @e10 @hd0i) ?_
     exact ⟨(Yq1 @e0),(Yq1 @e1),(Yq1 (fa2 @e8 @u64L.eq_1)),(Yq1 @e9),(Yq1 @e11),(Yq1 @e13),(Yq1 (fa2 @e16 @u64L.eq_1)),(Yq1 @hmd),Yq0⟩
   have hd0i : ((d : Int) = 0) = True := eq_true (by omega)
   by_cases hk : i < k
   ·rw [show decide E = true from decide_eq_true (hE ▸ .inr (.inr (.inr (.inr ⟨hj,hd0,hk⟩))))]
    refine Yg1 (fa15 @e12 @e8 @hu0i @e14 @hw0i @e17 @hc0i @e13 @hj @e10 @hd0i @e9 @e1 @hlt @hk) ?_
    exact ⟨(Yq1 @e0),(Yq1 @e1),(Yq1 (fa2 @e8 @u64L.eq_1)),(Yq1 @e9),(Yq1 @e11),(Yq1 @e13),(Yq1 (fa2 @e16 @u64L.eq_1)),(Yq1 @hmd),Yq0⟩
   ·rw [show decide E = false from decide_eq_false (by rw [hE];simp [hu0,hw0,hc0,hk])]
    refine Yg1 (fa15 @e12 @e8 @hu0i @e14 @hw0i @e17 @hc0i @e13 @hj @e10 @hd0i @e9 @e1 @hlt @hk) ?_
    exact ⟨(Yq1 @e0),(Yq1 @e1),(Yq1 (fa2 @e8 @u64L.eq_1)),(Yq1 @e9),(Yq1 @e11),(Yq1 @e13),(Yq1 (fa2 @e16 @u64L.eq_1)),(Yq1 @hmd),Yq0⟩
  clear e0 e1 e8 e9 e10 e11 e12 e13 e14 e16 e17 hmd st
  rintro st ⟨e0,e1,e8,e9,e11,e13,e16,hmd,e76⟩
  simp only [u64L,intL] at e1 e8 e9 e11 e16
  by_cases hEE : E
  ·rw [decide_eq_true hEE] at e76
   refine Yg1 @e76 ?_
   refine Yt1 @e76 ?_
   refine Yg1 @e1 ?_
   refine Ye0 ?_;try (with_reducible exact trivial)
   have hgE : getU (b.drop i) 0 1 true = none := by
    rw [← hg,if_pos]
    rw [hE] at hEE
    have hbig : big = 18446744073709551616 := rfl
    rcases hEE with h | h | h | h | ⟨h1,h2,h3⟩
    ·exact .inl h
    ·exact .inr (.inl h)
    ·exact .inr (.inr (.inl (by omega)))
    ·by_cases hdu : 18446744073709551616 ≤ d * u
     ·exact .inr (.inr (.inl (by omega)))
     ·exact .inr (.inr (.inr (.inl (by omega))))
    ·exact .inr (.inr (.inr (.inr ⟨h1,h2,decide_eq_false (by omega)⟩)))
   rw [hgE] at hR
   rw [← hR];exact ⟨rfl,rfl,rfl⟩
  ·rw [decide_eq_false hEE] at e76
   have hbig : big = 18446744073709551616 := rfl
   rw [hE] at hEE
   have hokt : ok = true := by cases ok <;> simp_all
   obtain ⟨hkj,hjb,hjk⟩ := hok hokt
   have hw0 : hw = 0 := Classical.byContradiction fun h => hEE (.inr (.inr (.inl h)))
   have hc0 : c = 0 := Classical.byContradiction fun h => hEE (.inr (.inr (.inr (.inl h))))
   have hsv : s = n + d * u := by omega
   rw [if_neg (show ¬ (ok = false ∨ u = 0 ∨ big ≤ d * u ∨ big ≤ n + d * u ∨ (j = k + 1 ∧ d = 0 ∧ decide (k = i) = false)) by
    rintro (h | h | h | h | ⟨h1,h2,h3⟩)
    ·exact hEE (.inl h)
    ·exact hEE (.inr (.inl h))
    ·rw [hbig] at h;omega
    ·rw [hbig] at h;omega
    ·exact hEE (.inr (.inr (.inr (.inr ⟨h1,h2,by have := of_decide_eq_false h3;omega⟩)))))] at hg
   refine Yg1 @e76 ?_
   refine Yf1 @e76 ?_
   by_cases hj : j = k + 1
   ·rw [if_pos hj] at hg
    replace hg : s = n + d * u ∧ some (n + d * u,b.drop j) = getU (b.drop i) 0 1 true := ⟨hsv,hg⟩
    rw [decide_eq_true hj] at e13
    refine Yg1 @e13 ?_
    refine Yt0 ?_
    refine Yg1 (fa2 @e16 @e11) ?_
    refine Ye0 ?_;try (with_reducible exact trivial)
    have hRR : R = (s,j,0) := by
     rw [← hR,← hg.2]
     simp only [List.length_drop]
     rw [show b.length - (b.length - j) = j by omega,hg.1]
    rw [hRR];exact ⟨rfl,rfl,rfl⟩
   ·rw [if_neg hj] at hg
    replace hg : s = n + d * u ∧ getU (b.drop j) (n + d * u) (if big ≤ u * 250 then 0 else u * 250) false = getU (b.drop i) 0 1 true := ⟨hsv,hg⟩
    rw [decide_eq_false hj] at e13
    refine Yg1 @e13 ?_
    refine Yf0 ?_
    refine Yg1 (fa2 @e16 @e11) ?_
    refine Yr1 @e8 ?_;intro K hK
    refine Yc0 (cm2) ?_
    refine hK _ ?_;clear hK K;try refine Wh0 ?_
    by_cases huh : uh = 0
    ·have huhi : ((uh : Int) = 0) = True := eq_true (by omega)
     refine Yg1 @huhi ?_
     refine Yf0 ?_
     refine LW_goto ?_;simp only [thenL,jumpsL,inBlockL,twoL,true_and]
     refine ⟨b.length - j,by omega,j,s,ul,rfl,by omega,by omega,by omega,by omega,?_,(Yq1 @e0),(Yq1 @e1),(Yq1 (fa2 @e16 @u64L.eq_1)),(Yq1 @u64L.eq_1),(Yq1 @e11),(Yq1 @hmd)⟩
     rw [← hg.2,hg.1,decide_eq_false (show ¬ j = i by omega),if_neg (show ¬ big ≤ u * 250 by rw [hbig];omega),show ul = u * 250 by omega]
    ·have huhi : ¬ ((uh : Int) = 0) := by omega
     refine Yg1 @huhi ?_
     refine Yt0 ?_
     refine Yg0 ?_
     refine LW_goto ?_;simp only [thenL,jumpsL,inBlockL,twoL,true_and]
     refine ⟨b.length - j,by omega,j,s,0,rfl,by omega,by omega,by omega,by omega,?_,(Yq1 @e0),(Yq1 @e1),(Yq1 (fa2 @e16 @u64L.eq_1)),(Yq1 @u64L.eq_1),(Yq1 @e11),(Yq1 @hmd)⟩
     rw [← hg.2,hg.1,decide_eq_false (show ¬ j = i by omega),if_pos (show big ≤ u * 250 by rw [hbig];omega)]
end Go.Proofs.YtnmjghcdccfphaaGreatDoor
end
section
set_option linter.unusedSimpArgs false
set_option linter.unusedVariables false
namespace Go.Proofs.YtnmjghcdccfphaaGreatDoor
open Go.RowKit Go.Proofs RecSpec

def getTP (b : List UInt8) (i most : Nat) : List UInt8 × Nat × Nat := match getU (b.drop i) 0 1 true with
 | none => ([],i,3)
 | some (n,r) => if most < n then ([],i,13) else if r.length < n then ([],i,3) else (r.take n,b.length - r.length + n,0)
theorem get_pos {b r : List UInt8} {i n : Nat} (hi : i ≤ b.length) (h : getU (b.drop i) 0 1 true = some (n,r)) : n < 18446744073709551616 ∧ r.length ≤ b.length ∧ b.drop (b.length - r.length) = r := by
 obtain ⟨_,v,hl,hm,hb,_⟩ := getU_inv _ _ _ _ _ _ h
 have h1 := rest_len hi hl
 have h2 := le_app hi hl
 have h3 := congrArg List.length hl
 rw [List.length_drop,List.length_append] at h3
 refine ⟨by unfold big at hb;omega,by omega,?_⟩
 rw [h1];exact drop_app hl
set_option maxRecDepth 100000 in
theorem ngettext_L (b : List UInt8) (hb : b.length ≤ 1000000) (i : Nat) (hi : i ≤ b.length) (most : Nat) (hm : most < 9223372036854775808) : LCalls Tryz.prog 49 [bytesL' b,intL i,intL most] (.tup [strL (getTP b i most).1,intL (getTP b i most).2.1,intL (getTP b i most).2.2]) := by
 have hbl := bL_len b
 have cg := nget_L b hb i hi
 refine LCalls.of (fun _ => false) Tryz.func49 rfl (by decide) Tryz.ntmps49 Tryz.results49 (by simp) ?_
 intro w0 S0 vs hgl hwf0 hsz hvs;clear hsz hvs hwf0 hgl
 generalize hR : getTP b i most = R
 unfold getTP at hR
 unfold getP at cg
 simp only [u64L,bytesL',intL] at cg
 refine Yg1 @bytesL'.eq_1 ?_
 cases hg : getU (b.drop i) 0 1 true with
 | none =>
  rw [hg] at cg hR
  refine Yr1 @bytesL'.eq_1 ?_;intro K hK
  refine Yc0 (cg) ?_
  refine hK _ ?_;clear hK K;try refine Wh0 ?_
  refine Yg0 ?_
  refine Yt0 ?_
  refine Yg1 @bytesL'.eq_1 ?_
  refine Ye0 ?_;try (with_reducible exact trivial)
  rw [← hR];exact ⟨rfl,rfl,rfl⟩
 | some p =>
  obtain ⟨n,r⟩ := p
  obtain ⟨hn,hr,hdr⟩ := get_pos hi hg
  rw [hg] at cg hR
  simp only at cg hR
  have hm0 : ¬ ((most : Int) < 0) := by omega
  have hcm := wuN (n := most) (by omega)
  refine Yr1 @bytesL'.eq_1 ?_;intro K hK
  refine Yc0 (cg) ?_
  refine hK _ ?_;clear hK K;try refine Wh0 ?_
  refine Yg0 ?_
  refine Yf0 ?_
  by_cases h1 : most < n
  ·have h1i : ((most : Int) < (n : Int)) = True := eq_true (by omega)
   refine Yg1 (fa3 @hm0 @hcm @h1i) ?_
   refine Yt0 ?_
   refine Yg1 @bytesL'.eq_1 ?_
   refine Ye0 ?_;try (with_reducible exact trivial)
   rw [← hR,if_pos h1];exact ⟨rfl,rfl,rfl⟩
  ·have h1i : ¬ ((most : Int) < (n : Int)) := by omega
   rw [if_neg h1] at hR
   refine Yg1 (fa3 @hm0 @hcm @h1i) ?_
   refine Yf0 ?_
   have hsub : IntKind.i64.wrap ((b.length : Int) - ((b.length - r.length : Nat) : Int)) = (r.length : Int) := by rw [show (b.length : Int) - ((b.length - r.length : Nat) : Int) = (r.length : Int) by omega];exact w64 (by omega)
   have hcr := wuN (n := r.length) (by omega)
   by_cases h2 : r.length < n
   ·have h2i : ((r.length : Int) < (n : Int)) = True := eq_true (by omega)
    refine Yg1 (fa4 @bytesL'.eq_1 @hsub @hcr @h2i) ?_
    refine Yt0 ?_
    refine Yg1 @bytesL'.eq_1 ?_
    refine Ye0 ?_;try (with_reducible exact trivial)
    rw [← hR,if_pos h2];exact ⟨rfl,rfl,rfl⟩
   ·have h2i : ¬ ((r.length : Int) < (n : Int)) := by omega
    rw [if_neg h2] at hR
    have hcn : IntKind.i64.wrap (n : Int) = (n : Int) := w64 (by omega)
    have hadd : IntKind.i64.wrap (((b.length - r.length : Nat) : Int) + (n : Int)) = ((b.length - r.length + n : Nat) : Int) := by rw [show ((b.length - r.length : Nat) : Int) + (n : Int) = ((b.length - r.length + n : Nat) : Int) by omega];exact w64 (by omega)
    refine Yg1 (fa4 @bytesL'.eq_1 @hsub @hcr @h2i) ?_
    refine Yf0 ?_
    refine Yg1 (fa2 @hcn @hadd) ?_
    have hp1 : (0 : Int) ≤ ((b.length - r.length : Nat) : Int) := by omega
    have hp2 : ((b.length - r.length : Nat) : Int) ≤ ((b.length - r.length + n : Nat) : Int) := by omega
    have hp3 : ((b.length - r.length + n : Nat) : Int) ≤ (b.length : Int) := by omega
    have hp4 : ((((b.length - r.length + n : Nat) : Int)) - ((b.length - r.length : Nat) : Int)).toNat = n := by omega
    have hp5 : b.length - r.length + n - (b.length - r.length) = n := by omega
    have hct : (List.drop (b.length - r.length) (List.take (b.length - r.length + n) (bL b))) = bL (r.take n) := by
     rw [List.drop_take,hp5];unfold bL;rw [← List.map_drop,← List.map_take,hdr]
    have hcl : (bL (r.take n)).length = n := by rw [bL_len,List.length_take];omega
    have hbo := bytesOf_bL (r.take n)
    refine Yg1 (fa10 @bytesL'.eq_1 @hp1 @hp2 @hp3 @hp4 @hp5 @hct @hcl @hbo @bconvL.eq_1) ?_
    refine Ye0 ?_;try (with_reducible exact trivial)
    rw [← hR];exact ⟨rfl,rfl,rfl⟩
end Go.Proofs.YtnmjghcdccfphaaGreatDoor
end
section
set_option linter.unusedSimpArgs false
set_option linter.unusedVariables false
namespace Go.Proofs.YtnmjghcdccfphaaGreatDoor
open Go.RowKit Go.Proofs RecSpec

theorem hasp_L (s p : List UInt8) : LCalls Tryz.prog 92 [strL s,strL p] (boolL (p.isPrefixOf s)) := by
 refine LCalls.lit_of (enters_of Tryz.func92 (by kernel_rfl) rfl) fun w S vs _ hs hr => ?_
 obtain ⟨a,b,rfl⟩ := args2 hs
 have h0 := (hr 0 _ a rfl rfl).inv_lit
 have h1 := (hr 1 _ b rfl rfl).inv_lit
 subst h0;subst h1
 refine (Tryz.strings_HasPrefix ⟨s.toArray⟩ ⟨p.toArray⟩ w).mono ?_
 rintro e w' ⟨rfl,rfl⟩
 exact ⟨rfl,G.refl _⟩
theorem pre_one (c : UInt8) (s : List UInt8) : [c].isPrefixOf s = decide (s.head? = some c) := by
 cases s with
 | nil => simp
 | cons a r =>
  simp only [List.isPrefixOf,List.head?_cons,Option.some.injEq,Bool.and_true]
  by_cases h : c = a
  ·subst h;simp
  ·simp [h,Ne.symm h]
set_option maxRecDepth 100000 in
theorem rlen_L (s : List UInt8) (hs : s.length ≤ 1000000) : LCalls Tryz.prog 76 [strL s] (intL (lenS s)) := by
 have ch := hasp_L s [48]
 rw [pre_one] at ch
 refine LCalls.of (fun _ => false) Tryz.func76 rfl (by decide) Tryz.ntmps76 Tryz.results76 (by simp) ?_
 intro w0 S0 vs hgl hwf0 hsz hvs;clear hsz hvs hwf0 hgl
 generalize hR : lenS s = R
 unfold lenS at hR
 refine Yg0 ?_
 by_cases h4 : 4 < s.length
 ·have h4i : ((4 : Int) < (s.length : Int)) = True := eq_true (by omega)
  refine LW_scope_straight ?_
  refine Yg1 @h4i ?_
  refine Yt0 ?_
  refine Yg0 ?_
  refine Ye0 ?_;try (with_reducible exact trivial)
  rw [← hR,if_pos (.inl h4)];rfl
 have h4i : ¬ ((4 : Int) < (s.length : Int)) := by omega
 by_cases h0 : s.head? = some 48
 ·rw [decide_eq_true h0] at ch
  refine LW_scope_straight ?_
  refine Yr1 @h4i ?_;intro K hK
  refine Yc0 (ch) ?_
  refine hK _ ?_;clear hK K;try refine Wh0 ?_
  refine Yt0 ?_
  refine Yg0 ?_
  refine Ye0 ?_;try (with_reducible exact trivial)
  rw [← hR,if_pos (.inr h0)];rfl
 rw [decide_eq_false h0] at ch
 rw [if_neg (by rintro (h | h);exact h4 h;exact h0 h)] at hR
 refine LW_lab1 (fun m st => ∃ i n : Nat,m + i = s.length ∧ n < 10 ^ i ∧ numD (s.drop i) n = numD s 0 ∧ st.env 0 = strL s ∧ st.env 3 = intL n ∧ st.env 4 = intL i) rfl ?_ ?_
 ·intro hJ
  refine Yr1 @h4i ?_;intro K hK
  refine Yc0 (ch) ?_
  refine hK _ ?_;clear hK K;try refine Wh0 ?_
  refine Yf0 ?_
  refine Yl0 ?_
  exact hJ.out s.length _ ⟨0,0,by omega,by decide,rfl,Yq0,Yq0,Yq0⟩
 ·rintro m st ⟨i,n,hm,hn,hd,e0,e3,e4⟩
  have hn4 : n < 10000 := Nat.lt_of_lt_of_le hn (Nat.pow_le_pow_right (by decide) (show i ≤ 4 by omega))
  by_cases hlt : i < s.length
  rotate_left
  ·have hei : ((i : Int) = (s.length : Int)) = True := eq_true (by omega)
   rw [List.drop_of_length_le (by omega)] at hd
   rw [← hd] at hR
   simp only [numD] at hR
   refine Yg1 (fa3 @e0 @e4 @hei) ?_
   refine Yt0 ?_
   by_cases hb : 4000 < n
   ·have hbi : ((4000 : Int) < (n : Int)) = True := eq_true (by omega)
    refine Yg1 (fa2 @e3 @hbi) ?_
    refine Yt0 ?_
    refine Yg0 ?_
    refine Ye0 ?_;try (with_reducible exact trivial)
    rw [← hR,if_pos hb];rfl
   ·have hbi : ¬ ((4000 : Int) < (n : Int)) := by omega
    refine Yg1 (fa2 @e3 @hbi) ?_
    refine Yf0 ?_
    refine Yg1 @e3 ?_
    refine Ye0 ?_;try (with_reducible exact trivial)
    rw [← hR,if_neg hb]
  ·obtain ⟨c,hc⟩ := get_of_lt hlt
   have hcl : s[i] = c := by
    have := List.getElem?_eq_getElem hlt
    rw [hc] at this;exact (Option.some.inj this).symm
   have hei : ¬ ((i : Int) = (s.length : Int)) := by omega
   have hg : (i : Int) < s.length := by omega
   have hw := w64s (n := i) (by omega)
   have hcn := c.toNat_lt
   rw [List.drop_eq_getElem_cons hlt,hcl] at hd
   simp only [numD] at hd
   refine Yg1 (fa3 @e0 @e4 @hei) ?_
   refine Yf1 @hei ?_
   by_cases h1 : c.toNat < 48
   ·have h1i : ((c.toNat : Int) < 48) = True := eq_true (by omega)
    refine Yg1 (fa5 @e0 @e4 @hg @hc @h1i) ?_
    refine Yt0 ?_
    refine Yg0 ?_
    refine Ye0 ?_;try (with_reducible exact trivial)
    rw [if_neg (by unfold digB;simp;omega)] at hd
    rw [← hR,← hd];rfl
   have h1i : ¬ ((c.toNat : Int) < 48) := by omega
   by_cases h2 : 57 < c.toNat
   ·have h2i : ((57 : Int) < (c.toNat : Int)) = True := eq_true (by omega)
    refine Yg1 (fa6 @e0 @e4 @hg @hc @h1i @h2i) ?_
    refine Yt0 ?_
    refine Yg0 ?_
    refine Ye0 ?_;try (with_reducible exact trivial)
    rw [if_neg (by unfold digB;simp;omega)] at hd
    rw [← hR,← hd];rfl
   have h2i : ¬ ((57 : Int) < (c.toNat : Int)) := by omega
   rw [if_pos (by unfold digB;simp;omega)] at hd
   have f1 : IntKind.u8.wrap ((c.toNat : Int) - 48) = ((c.toNat - 48 : Nat) : Int) := by
    rw [show (c.toNat : Int) - 48 = ((c.toNat - 48 : Nat) : Int) by omega];exact wu8 (by omega)
   have f2 : IntKind.i64.wrap ((c.toNat - 48 : Nat) : Int) = ((c.toNat - 48 : Nat) : Int) := w64 (by omega)
   have f3 : IntKind.i64.wrap (10 * (n : Int)) = ((10 * n : Nat) : Int) := by
    rw [show 10 * (n : Int) = ((10 * n : Nat) : Int) by omega];exact w64 (by omega)
   have f4 : IntKind.i64.wrap (((10 * n : Nat) : Int) + ((c.toNat - 48 : Nat) : Int)) = ((10 * n + (c.toNat - 48) : Nat) : Int) := by
    rw [show ((10 * n : Nat) : Int) + ((c.toNat - 48 : Nat) : Int) = ((10 * n + (c.toNat - 48) : Nat) : Int) by omega];exact w64 (by omega)
   refine Yg1 (fa6 @e0 @e4 @hg @hc @h1i @h2i) ?_
   refine Yf0 ?_
   refine Yg1 (fa10 @e0 @e3 @e4 @hg @hc @f1 @f2 @f3 @f4 @hw) ?_
   refine LW_goto ?_;simp only [thenL,jumpsL,inBlockL,twoL,true_and]
   exact ⟨m - 1,by omega,i + 1,10 * n + (c.toNat - 48),by omega,by rw [Nat.pow_succ];omega,hd,(Yq1 @e0),(Yq1 (fa4 @f1 @f2 @f3 @f4)),(Yq1 @hw)⟩
end Go.Proofs.YtnmjghcdccfphaaGreatDoor
end
