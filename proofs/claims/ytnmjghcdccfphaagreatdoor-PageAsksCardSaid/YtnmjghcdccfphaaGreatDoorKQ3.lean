import Derived.Test.YtnmjghcdccfphaaGreatDoorKU4
import Derived.Test.YtnmjghcdccfphaaGreatDoorPQP
import Derived.Test.YtnmjghcdccfphaaGreatDoorKU8
import Derived.Test.YtnmjghcdccfphaaGreatDoorKTF
section
set_option linter.unusedSimpArgs false
set_option linter.unusedVariables false
namespace Go.Proofs.YtnmjghcdccfphaaGreatDoor
open Nat renaming reduceAdd → zz1,reduceMul → zz2,reduceSub → zz3,reduceLT → zz4,reduceLeDiff → zz5,reduceEqDiff → zz6,reduceBEq → zzf
open Int renaming reduceAdd → zz7,reduceSub → zz8,reduceMul → zz9,reduceLT → zza,reduceLE → zzb,reduceEq → zzc,reduceNeg → zzd,reduceToNat → zze
open Go.RowKit Go.Proofs RecSpec

set_option maxRecDepth 100000 in
set_option maxHeartbeats 4000000 in
theorem q9put_L (n : Nat) (hn : n < 18446744073709551616) : LCalls Tryz.prog 19 [u64L n] (strL (putU n)) := by
 have hRl := putU_u64 hn
 refine LCalls.of (fun _ => false) Tryz.func19 rfl (by decide) Tryz.ntmps19 Tryz.results19 (by simp) ?_
 intro w0 S0 vs hgl hwf0 hsz hvs;clear hsz hvs hwf0 hgl
 generalize hR : putU n = R at *
 refine Yg1 @u64L.eq_1 ?_
 refine LW_joinB (fun st => ∃ (m : Nat) (s : List UInt8),m < 250 ∧ s.length ≤ 17 ∧ st.env 0 = u64L m ∧ st.env 3 = strL s ∧ s ++ putU m = R ∧ st.mode = fun _ => false) ?_ ?_
 ·refine LW_loop (fun k st => ∃ (m : Nat) (s : List UInt8),k = m ∧ m < 18446744073709551616 ∧ st.env 0 = u64L m ∧ st.env 3 = strL s ∧ s ++ putU m = R ∧ st.mode = fun _ => false) n ⟨n,[],rfl,hn,(Yq1 @u64L.eq_1),Yq0,hR,Yq0⟩ ?_
  rintro k st ⟨m,s,hk,hm,e0,e3,hr,hmd⟩
  have hsl : s.length ≤ 17 := by
   have := congrArg List.length hr
   rw [List.length_append] at this;omega
  simp only [u64L] at e0
  by_cases hc : m < 250
  ·have hge : ¬ ((250 : Int) ≤ (m : Int)) := by omega
   refine Yg1 (fa2 @e0 @hge) ?_
   refine Yf0 ?_
   refine LW_exit ?_;simp only [thenL,jumpsL,inBlockL,twoL,reduceIte,Nat.reduceEqDiff]
   exact ⟨m,s,hc,hsl,(Yq1 (fa2 @e0 @u64L.eq_1)),(Yq1 @e3),hr,(Yq1 @hmd)⟩
  have hge : ((250 : Int) ≤ (m : Int)) = True := eq_true (by omega)
  have hml : m % 250 < 250 := Nat.mod_lt _ (by decide)
  have t1 := nmod m 250 250 rfl
  have t2 := ndiv m 250 250 rfl
  have w1 := wu8 (n := m % 250) (by omega)
  have w2 := wuN (n := m / 250) (by omega)
  have hby : bytesOf [.lit (.int .u8 250),.lit (.int .u8 ((m % 250 : Nat) : Int))] = some [250,(m % 250).toUInt8] := by
   have := bytesOf_bL [250,(m % 250).toUInt8]
   unfold bL at this
   simp only [List.map_cons,List.map_nil,toU8 hml] at this
   exact this
  have hcat : s.length + 2 ≤ 9223372036854775807 := by omega
  rw [putU_hi hc] at hr
  refine Yg1 (fa2 @e0 @hge) ?_
  refine Yt0 ?_
  refine LW_skip ?_
  simp only [LSj,reduceIte,zze]
  refine LW_block ?_
  (repeat refine LW_seq ?_)
  refine Yr1 (fa7 @e0 @e3 @hmd @t1 @w1 @hby @hcat) ?_;intro K hK
  (repeat' apply And.intro) <;> first | omega | rfl | decide | skip
  refine hK _ ?_;clear hK K;try refine Wh0 ?_
  refine Yg1 (fa3 @e0 @t2 @w2) ?_
  exact ⟨m / 250,by omega,m / 250,s ++ [250,(m % 250).toUInt8],rfl,by omega,(Yq1 (fa3 @t2 @w2 @u64L.eq_1)),Yq0,by rw [List.append_assoc];exact hr,(Yq1 @hmd)⟩
 rintro st ⟨m,s,hm,hsl,e0,e3,hr,hmd⟩
 simp only [u64L] at e0
 have w1 := wu8 (n := m) (by omega)
 have hby : bytesOf [.lit (.int .u8 (m : Int))] = some [m.toUInt8] := by
  have := bytesOf_bL [m.toUInt8]
  unfold bL at this
  simp only [List.map_cons,List.map_nil,toU8 hm] at this
  exact this
 have hcat : s.length + 1 ≤ 9223372036854775807 := by omega
 rw [putU_lo hm] at hr
 (repeat refine LW_seq ?_)
 refine Yr1 (fa6 @e0 @e3 @hmd @w1 @hby @hcat) ?_;intro K hK
 (repeat' apply And.intro) <;> first | omega | rfl | decide | skip
 refine hK _ ?_;clear hK K;try refine Wh0 ?_
 refine Ye0 ?_;try (with_reducible exact trivial)
 rw [← hr]
set_option maxRecDepth 100000 in
set_option maxHeartbeats 4000000 in
theorem q9text_L (t : List UInt8) (ht : t.length ≤ 1000000) : LCalls Tryz.prog 21 [strL t] (strL (putT t)) := by
 have cp := q9put_L t.length (by omega)
 have hl := putU_u64 (n := t.length) (by omega)
 have hw := wuN (n := t.length) (by omega)
 have hcat : (putU t.length).length + t.length ≤ 9223372036854775807 := by omega
 simp only [u64L] at cp
 refine LCalls.of (fun _ => false) Tryz.func21 rfl (by decide) Tryz.ntmps21 Tryz.results21 (by simp) ?_
 intro w0 S0 vs hgl hwf0 hsz hvs;clear hsz hvs hwf0 hgl
 unfold putT
 generalize putU t.length = u at *
 refine Yo0 ?_
 (repeat refine LW_seq ?_)
 refine Yr1 (fa2 @hw @hcat) ?_;intro K hK
 refine Yc1 (cp) (fa2 @hw @hcat) ?_
 refine hK _ ?_;clear hK K;try refine Wh0 ?_
 refine Ye0 ?_;try (with_reducible exact trivial)
theorem getU_zero (l : List UInt8) (n : Nat) (f : Bool) : getU l n 0 f = none := by
 cases l with
 | nil => exact getU_nil
 | cons c r =>
  by_cases h1 : c.toNat < 250
  ·rw [getU_lo h1,if_pos (.inl rfl)]
  ·by_cases h2 : c.toNat = 250
   ·cases r with
    | nil => exact getU_end h2
    | cons d s =>
     rw [getU_hi h2]
     split
     ·rw [if_pos (.inl rfl)]
     ·rfl
   ·exact getU_bad h1 h2
theorem pow250 (j : Nat) (h : j ≤ 8) : 250 ^ j < 18446744073709551616 ∧ 0 < 250 ^ j := by
 refine ⟨?_,Nat.pow_pos (by decide)⟩
 have : 250 ^ j ≤ 250 ^ 8 := Nat.pow_le_pow_right (by decide) h
 have h8 : 250 ^ 8 = 15258789062500000000 := by decide
 omega
set_option maxRecDepth 100000 in
set_option maxHeartbeats 8000000 in
theorem q9get_L (b : List UInt8) (hb : b.length ≤ 1000000) (i : Nat) (hi : i ≤ b.length) : LCalls Tryz.prog 50 [strL b,intL i] (.tup [u64L (getP b i).1,intL (getP b i).2.1,intL (getP b i).2.2]) := by
 have hip : ¬ ((i : Int) < 0) := by omega
 have hil : ¬ ((b.length : Int) < (i : Int)) := by omega
 refine LCalls.of (fun _ => false) Tryz.func50 rfl (by decide) Tryz.ntmps50 Tryz.results50 (by simp) ?_
 intro w0 S0 vs hgl hwf0 hsz hvs;clear hsz hvs hwf0 hgl
 generalize hR : getP b i = R
 unfold getP at hR
 refine Yg1 (fa2 @hip @hil) ?_
 refine Yf0 ?_
 refine Yg0 ?_
 have bad : getU (b.drop i) 0 1 true = none → R = (0,i,3) := fun h => by rw [← hR,h]
 refine LW_joinB (fun st => ∃ (j n : Nat),j ≤ 8 ∧ i + 2 * j ≤ b.length ∧ n < 250 ^ j ∧ getU (b.drop i) 0 1 true = getU (b.drop (i + 2 * j)) n (250 ^ j) (decide (j = 0)) ∧ b[i + 2 * j]? ≠ some 250 ∧ st.env 0 = strL b ∧ st.env 1 = intL i ∧ st.env 7 = u64L n ∧ st.env 8 = u64L (250 ^ j) ∧ st.env 9 = intL (i + 2 * j : Nat)) ?_ ?_
 ·refine LW_loop (fun m st => ∃ (j n : Nat),m = 9 - j ∧ j ≤ 8 ∧ i + 2 * j ≤ b.length ∧ n < 250 ^ j ∧ getU (b.drop i) 0 1 true = getU (b.drop (i + 2 * j)) n (250 ^ j) (decide (j = 0)) ∧ st.env 0 = strL b ∧ st.env 1 = intL i ∧ st.env 7 = u64L n ∧ st.env 8 = u64L (250 ^ j) ∧ st.env 9 = intL (i + 2 * j : Nat)) 9 ⟨0,0,rfl,by omega,by omega,by decide,rfl,Yq0,Yq0,(Yq1 @u64L.eq_1),(Yq1 @u64L.eq_1),Yq0⟩ ?_
  rintro m st ⟨j,n,hm,hj,hk,hn,hg,e0,e1,e7,e8,e9⟩
  obtain ⟨hp1,hp2⟩ := pow250 j hj
  simp only [u64L] at e7 e8
  by_cases hlt : i + 2 * j < b.length
  rotate_left
  ·have hll : ¬ (((i + 2 * j : Nat) : Int) < (b.length : Int)) := by omega
   refine Yg1 (fa3 @e0 @e9 @hll) ?_
   refine Yf0 ?_
   refine LW_exit ?_;simp only [thenL,jumpsL,inBlockL,twoL,reduceIte,Nat.reduceEqDiff]
   exact ⟨j,n,hj,hk,hn,hg,(by rw [List.getElem?_eq_none (by omega)];exact (fun c => by cases c)),(Yq1 @e0),(Yq1 @e1),(Yq1 (fa2 @e7 @u64L.eq_1)),(Yq1 (fa2 @e8 @u64L.eq_1)),(Yq1 @e9)⟩
  obtain ⟨c,hc⟩ := get_of_lt hlt
  have hlti : (((i + 2 * j : Nat) : Int) < (b.length : Int)) = True := eq_true (by omega)
  have hkp : (0 : Int) ≤ ((i + 2 * j : Nat) : Int) := by omega
  have hdc : b.drop (i + 2 * j) = c :: b.drop (i + 2 * j + 1) := by
   obtain ⟨h1,h2⟩ := List.getElem?_eq_some_iff.1 hc
   rw [← h2];exact List.drop_eq_getElem_cons h1
  by_cases h250 : c.toNat = 250
  rotate_left
  ·have hci : ¬ ((c.toNat : Int) = 250) := by omega
   refine Yg1 (fa6 @e0 @e9 @hlti @hkp @hc @hci) ?_
   refine Yf0 ?_
   refine LW_exit ?_;simp only [thenL,jumpsL,inBlockL,twoL,reduceIte,Nat.reduceEqDiff]
   exact ⟨j,n,hj,hk,hn,hg,(by rw [hc];intro h;cases h;exact h250 rfl),(Yq1 @e0),(Yq1 @e1),(Yq1 (fa2 @e7 @u64L.eq_1)),(Yq1 (fa2 @e8 @u64L.eq_1)),(Yq1 @e9)⟩
  have hci : ((c.toNat : Int) = 250) = True := eq_true (by omega)
  have hw1 := w64s (n := i + 2 * j) (by omega)
  refine Yg1 (fa6 @e0 @e9 @hlti @hkp @hc @hci) ?_
  refine Yt0 ?_
  refine LW_skip ?_
  simp only [LSj,reduceIte,zze]
  refine LW_block ?_
  (repeat refine LW_seq ?_)
  rw [hdc] at hg
  by_cases hl2 : i + 2 * j + 1 < b.length
  rotate_left
  ·have hll : (((b.length : Nat) : Int) ≤ ((i + 2 * j + 1 : Nat) : Int)) = True := eq_true (by omega)
   rw [List.drop_of_length_le (show b.length ≤ i + 2 * j + 1 by omega),getU_end h250] at hg
   have hR2 := bad hg
   subst hR2
   refine Yg1 (fa5 @e0 @e1 @e9 @hw1 @hll) ?_
   refine Yt0 ?_
   refine Yg1 @e1 ?_
   refine Ye1 @u64L.eq_1 ?_;try (with_reducible exact trivial)
  have hll : ¬ (((b.length : Nat) : Int) ≤ ((i + 2 * j + 1 : Nat) : Int)) := by omega
  obtain ⟨d,hd⟩ := get_of_lt hl2
  have hk1p : (0 : Int) ≤ ((i + 2 * j + 1 : Nat) : Int) := by omega
  have hdd : b.drop (i + 2 * j + 1) = d :: b.drop (i + 2 * j + 1 + 1) := by
   obtain ⟨h1,h2⟩ := List.getElem?_eq_some_iff.1 hd
   rw [← h2];exact List.drop_eq_getElem_cons h1
  rw [hdd,getU_hi h250] at hg
  by_cases hd2 : d.toNat < 250
  rotate_left
  ·have hdi : ((249 : Int) < (d.toNat : Int)) = True := eq_true (by omega)
   rw [if_neg hd2] at hg
   have hR2 := bad hg
   subst hR2
   refine Yg1 (fa8 @e0 @e1 @e9 @hw1 @hll @hk1p @hd @hdi) ?_
   refine Yt0 ?_
   refine Yg1 @e1 ?_
   refine Ye1 @u64L.eq_1 ?_;try (with_reducible exact trivial)
  have hdi : ¬ ((249 : Int) < (d.toNat : Int)) := by omega
  have hsb : IntKind.i64.wrap (((i + 2 * j : Nat) : Int) - (i : Int)) = ((2 * j : Nat) : Int) := by rw [w64 (by omega)];omega
  rw [if_pos hd2] at hg
  by_cases hj8 : j = 8
  ·have h16 : ((16 : Int) ≤ ((2 * j : Nat) : Int)) = True := eq_true (by omega)
   have hz : getU (b.drop i) 0 1 true = none := by
    rw [hg]
    split
    ·rfl
    ·rw [if_pos (by subst hj8;decide),getU_zero]
   have hR2 := bad hz
   subst hR2
   refine Yg1 (fa10 @e0 @e1 @e9 @hw1 @hll @hk1p @hd @hdi @hsb @h16) ?_
   refine Yt0 ?_
   refine Yg1 @e1 ?_
   refine Ye1 @u64L.eq_1 ?_;try (with_reducible exact trivial)
  have h16 : ¬ ((16 : Int) ≤ ((2 * j : Nat) : Int)) := by omega
  obtain ⟨hq1,hq2⟩ := pow250 (j + 1) (by omega)
  have hps : 250 ^ (j + 1) = 250 ^ j * 250 := Nat.pow_succ ..
  have hdm : d.toNat * 250 ^ j ≤ 249 * 250 ^ j := Nat.mul_le_mul_right _ (by omega)
  have hwd : IntKind.u64.wrap (d.toNat : Int) = (d.toNat : Int) := wuN (by have := d.toNat_lt;omega)
  have hmu : IntKind.u64.wrap (((250 ^ j : Nat) : Int) * (d.toNat : Int)) = ((250 ^ j * d.toNat : Nat) : Int) := by
   rw [show ((250 ^ j : Nat) : Int) * (d.toNat : Int) = ((250 ^ j * d.toNat : Nat) : Int) by rw [Int.natCast_mul]]
   exact wuN (by rw [Nat.mul_comm];omega)
  have had : IntKind.u64.wrap ((n : Int) + ((250 ^ j * d.toNat : Nat) : Int)) = ((n + 250 ^ j * d.toNat : Nat) : Int) := by
   rw [show (n : Int) + ((250 ^ j * d.toNat : Nat) : Int) = ((n + 250 ^ j * d.toNat : Nat) : Int) by omega]
   exact wuN (by rw [Nat.mul_comm (250 ^ j)];omega)
  have hw250 : IntKind.u64.wrap (((250 ^ j : Nat) : Int) * 250) = ((250 ^ (j + 1) : Nat) : Int) := by
   rw [show ((250 ^ j : Nat) : Int) * 250 = ((250 ^ (j + 1) : Nat) : Int) by rw [hps];omega]
   exact wuN hq1
  have hw2 : IntKind.i64.wrap (((i + 2 * j : Nat) : Int) + 2) = ((i + 2 * (j + 1) : Nat) : Int) := by rw [w64 (by omega)];omega
  rw [if_neg (by unfold big;rintro (c | c | c) <;> omega),if_neg (by unfold big;omega),← hps] at hg
  refine Yg1 (fa10 @e0 @e1 @e9 @hw1 @hll @hk1p @hd @hdi @hsb @h16) ?_
  refine Yf0 ?_
  refine Yg1 (fa12 @e0 @e7 @e8 @e9 @hw1 @hk1p @hd @hwd @hmu @had @hw250 @hw2) ?_
  refine ⟨9 - (j + 1),by omega,j + 1,n + 250 ^ j * d.toNat,rfl,by omega,by omega,by rw [Nat.mul_comm (250 ^ j),hps];omega,?_,(Yq1 @e0),(Yq1 @e1),(Yq1 (fa2 @had @u64L.eq_1)),(Yq1 (fa2 @hw250 @u64L.eq_1)),(Yq1 @hw2)⟩
  rw [hg,show i + 2 * (j + 1) = i + 2 * j + 1 + 1 by omega,Nat.mul_comm (250 ^ j),decide_eq_false (by omega)]
 rintro st ⟨j,n,hj,hk,hn,hg,hne,e0,e1,e7,e8,e9⟩
 obtain ⟨hp1,hp2⟩ := pow250 j hj
 simp only [u64L] at e7 e8
 by_cases hlt : i + 2 * j < b.length
 rotate_left
 ·have hll : (((b.length : Nat) : Int) ≤ ((i + 2 * j : Nat) : Int)) = True := eq_true (by omega)
  rw [List.drop_of_length_le (show b.length ≤ i + 2 * j by omega),getU_nil] at hg
  have hR2 := bad hg
  subst hR2
  refine Yg1 (fa4 @e0 @e1 @e9 @hll) ?_
  refine Yt0 ?_
  refine Yg1 @e1 ?_
  refine Ye1 @u64L.eq_1 ?_;try (with_reducible exact trivial)
 have hll : ¬ (((b.length : Nat) : Int) ≤ ((i + 2 * j : Nat) : Int)) := by omega
 obtain ⟨c,hc⟩ := get_of_lt hlt
 have hkp : (0 : Int) ≤ ((i + 2 * j : Nat) : Int) := by omega
 have hdc : b.drop (i + 2 * j) = c :: b.drop (i + 2 * j + 1) := by
  obtain ⟨h1,h2⟩ := List.getElem?_eq_some_iff.1 hc
  rw [← h2];exact List.drop_eq_getElem_cons h1
 have hc250 : c.toNat ≠ 250 := by
  intro h
  apply hne
  rw [hc]
  congr 1
  exact UInt8.toNat_inj.1 (by rw [h];rfl)
 rw [hdc] at hg
 by_cases hc2 : c.toNat < 250
 rotate_left
 ·have hci : ((249 : Int) < (c.toNat : Int)) = True := eq_true (by omega)
  rw [getU_bad hc2 hc250] at hg
  have hR2 := bad hg
  subst hR2
  refine Yg1 (fa7 @e0 @e1 @e9 @hll @hkp @hc @hci) ?_
  refine Yt0 ?_
  refine Yg1 @e1 ?_
  refine Ye1 @u64L.eq_1 ?_;try (with_reducible exact trivial)
 have hci : ¬ ((249 : Int) < (c.toNat : Int)) := by omega
 have hwc : IntKind.u64.wrap (c.toNat : Int) = (c.toNat : Int) := wuN (by omega)
 have hw1 := w64s (n := i + 2 * j) (by omega)
 have hlen : (b.drop (i + 2 * j + 1)).length = b.length - (i + 2 * j + 1) := List.length_drop
 rw [getU_lo hc2] at hg
 by_cases hj0 : j = 0
 ·subst hj0
  have hn0 : n = 0 := by simpa using hn
  subst hn0
  rw [if_neg (by unfold big;simp;omega)] at hg
  simp only [Nat.mul_zero,Nat.add_zero,Nat.pow_zero] at e8 e9 hll hkp hc hw1 hg hlt hlen
  have hR2 : R = (c.toNat,i + 1,0) := by
   rw [← hR,hg]
   simp only [hlen]
   congr 1
   ·simp
   ·congr 1;omega
  subst hR2
  have hgt : ¬ ((i : Int) < (i : Int)) := by omega
  have hmu : IntKind.u64.wrap (((1 : Nat) : Int) * (c.toNat : Int)) = (c.toNat : Int) := by rw [show ((1 : Nat) : Int) * (c.toNat : Int) = (c.toNat : Int) by simp];exact hwc
  have had : IntKind.u64.wrap (((0 : Nat) : Int) + (c.toNat : Int)) = (c.toNat : Int) := by rw [show ((0 : Nat) : Int) + (c.toNat : Int) = (c.toNat : Int) by simp];exact hwc
  refine Yg1 (fa8 @e0 @e1 @e9 @hll @hkp @hc @hci @hgt) ?_
  refine Yf0 ?_
  refine Yg1 (fa9 @e0 @e1 @e7 @e8 @e9 @hkp @hc @hwc @hgt) ?_
  refine Yf0 ?_
  refine Yg1 (fa6 @e7 @e8 @e9 @hmu @had @hw1) ?_
  refine Ye1 (fa4 @hmu @had @hw1 @u64L.eq_1) ?_;try (with_reducible exact trivial)
  rw [Int.one_mul,hwc,Int.zero_add,hwc]
 have hgt : ((i : Int) < ((i + 2 * j : Nat) : Int)) = True := eq_true (by omega)
 by_cases hz : c.toNat = 0
 ·have hzi : ((c.toNat : Int) = 0) = True := eq_true (by omega)
  rw [if_pos (.inr (.inr (.inr ⟨hz,by simp [hj0]⟩)))] at hg
  have hR2 := bad hg
  subst hR2
  refine Yg1 (fa9 @e0 @e1 @e9 @hll @hkp @hc @hci @hgt @hzi) ?_
  refine Yt0 ?_
  refine Yg1 @e1 ?_
  refine Ye1 @u64L.eq_1 ?_;try (with_reducible exact trivial)
 have hzi : ¬ ((c.toNat : Int) = 0) := by omega
 have hsb : IntKind.u64.wrap ((18446744073709551615 : Int) - (n : Int)) = ((18446744073709551615 - n : Nat) : Int) := by
  rw [show (18446744073709551615 : Int) - (n : Int) = ((18446744073709551615 - n : Nat) : Int) by omega]
  exact wuN (by omega)
 have hwz : ¬ (((250 ^ j : Nat) : Int) = 0) := by omega
 have hdv : IntKind.u64.wrap (((18446744073709551615 - n : Nat) : Int).tdiv ((250 ^ j : Nat) : Int)) = (((18446744073709551615 - n) / 250 ^ j : Nat) : Int) := by
  rw [ndiv _ _ _ rfl]
  exact wuN (by have := Nat.div_le_self (18446744073709551615 - n) (250 ^ j);omega)
 have hiff : (18446744073709551615 - n) / 250 ^ j < c.toNat ↔ 18446744073709551616 ≤ n + c.toNat * 250 ^ j := by
  rw [Nat.div_lt_iff_lt_mul hp2];omega
 by_cases hov : 18446744073709551616 ≤ n + c.toNat * 250 ^ j
 ·have hoi : ((((18446744073709551615 - n) / 250 ^ j : Nat) : Int) < (c.toNat : Int)) = True := eq_true (by have := hiff.2 hov;omega)
  rw [if_pos (.inr (.inr (.inl (by unfold big;omega))))] at hg
  have hR2 := bad hg
  subst hR2
  refine Yg1 (fa9 @e0 @e1 @e9 @hll @hkp @hc @hci @hgt @hzi) ?_
  refine Yf0 ?_
  refine Yg1 (fa13 @e0 @e1 @e7 @e8 @e9 @hkp @hc @hwc @hgt @hsb @hwz @hdv @hoi) ?_
  refine Yt0 ?_
  refine Yg1 @e1 ?_
  refine Ye1 @u64L.eq_1 ?_;try (with_reducible exact trivial)
 have hoi : ¬ ((((18446744073709551615 - n) / 250 ^ j : Nat) : Int) < (c.toNat : Int)) := by
  intro h
  exact hov (hiff.1 (by omega))
 have hmu : IntKind.u64.wrap (((250 ^ j : Nat) : Int) * (c.toNat : Int)) = ((250 ^ j * c.toNat : Nat) : Int) := by
  rw [show ((250 ^ j : Nat) : Int) * (c.toNat : Int) = ((250 ^ j * c.toNat : Nat) : Int) by rw [Int.natCast_mul]]
  exact wuN (by rw [Nat.mul_comm];omega)
 have had : IntKind.u64.wrap ((n : Int) + ((250 ^ j * c.toNat : Nat) : Int)) = ((n + 250 ^ j * c.toNat : Nat) : Int) := by
  rw [show (n : Int) + ((250 ^ j * c.toNat : Nat) : Int) = ((n + 250 ^ j * c.toNat : Nat) : Int) by omega]
  exact wuN (by rw [Nat.mul_comm (250 ^ j)];omega)
 rw [if_neg (by unfold big;rintro (h | h | h | ⟨h,_⟩) <;> omega)] at hg
 have hR2 : R = (n + 250 ^ j * c.toNat,i + 2 * j + 1,0) := by
  rw [← hR,hg]
  simp only [hlen]
  rw [Nat.mul_comm (250 ^ j)]
  congr 2;omega
 subst hR2
 refine Yg1 (fa9 @e0 @e1 @e9 @hll @hkp @hc @hci @hgt @hzi) ?_
 refine Yf0 ?_
 refine Yg1 (fa13 @e0 @e1 @e7 @e8 @e9 @hkp @hc @hwc @hgt @hsb @hwz @hdv @hoi) ?_
 refine Yf0 ?_
 refine Yg1 (fa6 @e7 @e8 @e9 @hmu @had @hw1) ?_
 refine Ye1 (fa4 @hmu @had @hw1 @u64L.eq_1) ?_;try (with_reducible exact trivial)
set_option maxRecDepth 100000 in
theorem q9gettext_L (b : List UInt8) (hb : b.length ≤ 1000000) (i : Nat) (hi : i ≤ b.length) (most : Nat) (hm : most < 9223372036854775808) : LCalls Tryz.prog 52 [strL b,intL i,intL most] (.tup [strL (getTP b i most).1,intL (getTP b i most).2.1,intL (getTP b i most).2.2]) := by
 have cg := q9get_L b hb i hi
 refine LCalls.of (fun _ => false) Tryz.func52 rfl (by decide) Tryz.ntmps52 Tryz.results52 (by simp) ?_
 intro w0 S0 vs hgl hwf0 hsz hvs;clear hsz hvs hwf0 hgl
 generalize hR : getTP b i most = R
 unfold getTP at hR
 unfold getP at cg
 simp only [u64L,intL] at cg
 refine Yg0 ?_
 cases hg : getU (b.drop i) 0 1 true with
 | none =>
  rw [hg] at cg hR
  refine Yr0 ?_;intro K hK
  refine Yc0 (cg) ?_
  refine hK _ ?_;clear hK K;try refine Wh0 ?_
  refine Yg0 ?_
  refine Yt0 ?_
  refine Yg0 ?_
  refine Ye0 ?_;try (with_reducible exact trivial)
  rw [← hR];exact ⟨rfl,rfl,rfl⟩
 | some p =>
  obtain ⟨n,r⟩ := p
  obtain ⟨hn,hr,hdr⟩ := get_pos hi hg
  rw [hg] at cg hR
  simp only at cg hR
  have hm0 : ¬ ((most : Int) < 0) := by omega
  have hcm := wuN (n := most) (by omega)
  refine Yr0 ?_;intro K hK
  refine Yc0 (cg) ?_
  refine hK _ ?_;clear hK K;try refine Wh0 ?_
  refine Yg0 ?_
  refine Yf0 ?_
  by_cases h1 : most < n
  ·have h1i : ((most : Int) < (n : Int)) = True := eq_true (by omega)
   refine Yg1 (fa3 @hm0 @hcm @h1i) ?_
   refine Yt0 ?_
   refine Yg0 ?_
   refine Ye0 ?_;try (with_reducible exact trivial)
   rw [← hR,if_pos h1];exact ⟨rfl,rfl,rfl⟩
  ·have h1i : ¬ ((most : Int) < (n : Int)) := by omega
   rw [if_neg h1] at hR
   refine Yg1 (fa3 @hm0 @hcm @h1i) ?_
   refine Yf0 ?_
   have hsub : IntKind.i64.wrap ((b.length : Int) - ((b.length - r.length : Nat) : Int)) = (r.length : Int) := by rw [show (b.length : Int) - ((b.length - r.length : Nat) : Int) = (r.length : Int) by omega];exact w64 (by omega)
   have hcr := wuN (n := r.length) (by omega)
   by_cases h2 : r.length < n
   ·have h2i : ((r.length : Int) < (n : Int)) = True := eq_true (by omega)
    refine Yg1 (fa3 @hsub @hcr @h2i) ?_
    refine Yt0 ?_
    refine Yg0 ?_
    refine Ye0 ?_;try (with_reducible exact trivial)
    rw [← hR,if_pos h2];exact ⟨rfl,rfl,rfl⟩
   ·have h2i : ¬ ((r.length : Int) < (n : Int)) := by omega
    rw [if_neg h2] at hR
    have hcn : IntKind.i64.wrap (n : Int) = (n : Int) := w64 (by omega)
    have hadd : IntKind.i64.wrap (((b.length - r.length : Nat) : Int) + (n : Int)) = ((b.length - r.length + n : Nat) : Int) := by rw [show ((b.length - r.length : Nat) : Int) + (n : Int) = ((b.length - r.length + n : Nat) : Int) by omega];exact w64 (by omega)
    refine Yg1 (fa3 @hsub @hcr @h2i) ?_
    refine Yf0 ?_
    have hp1 : (0 : Int) ≤ ((b.length - r.length : Nat) : Int) := by omega
    have hp2 : ((b.length - r.length : Nat) : Int) ≤ ((b.length - r.length + n : Nat) : Int) := by omega
    have hp3 : ((b.length - r.length + n : Nat) : Int) ≤ (b.length : Int) := by omega
    have hp4 : b.length - r.length ≤ b.length - r.length + n := by omega
    have hp6 : b.length - r.length + n ≤ b.length := by omega
    have hct : (b.take (b.length - r.length + n)).drop (b.length - r.length) = r.take n := by
     rw [List.drop_take,show b.length - r.length + n - (b.length - r.length) = n by omega,hdr]
    refine Yg1 (fa8 @hcn @hadd @hp1 @hp2 @hp3 @hp4 @hp6 @hct) ?_
    refine Ye0 ?_;try (with_reducible exact trivial)
    rw [← hR];exact ⟨rfl,rfl,rfl⟩
end Go.Proofs.YtnmjghcdccfphaaGreatDoor
end
section
set_option linter.unusedSimpArgs false
set_option linter.unusedVariables false
namespace Go.Proofs.YtnmjghcdccfphaaGreatDoor
open Nat renaming reduceAdd → zz1,reduceMul → zz2,reduceSub → zz3,reduceLT → zz4,reduceLeDiff → zz5,reduceEqDiff → zz6,reduceBEq → zzf
open Int renaming reduceAdd → zz7,reduceSub → zz8,reduceMul → zz9,reduceLT → zza,reduceLE → zzb,reduceEq → zzc,reduceNeg → zzd,reduceToNat → zze
open Op renaming operands → zo
open Call renaming operands → zc
open Go.RowKit Go.Proofs RecSpec

def cL (b : List UInt8) (s : Rd) : List LV := [strL b,intL s.pos,boolL s.bad]
theorem qNum_eq (b : List UInt8) (most : Nat) (s : Rd) (h : s.bad = false) : qNum b most s = if (getP b s.pos).2.2 ≠ 0 ∨ most < (getP b s.pos).1 then (0,⟨(getP b s.pos).2.1,true⟩) else ((getP b s.pos).1,⟨(getP b s.pos).2.1,false⟩) := by
 unfold qNum guardR qNum0 getP
 rw [if_neg (by rw [h];decide)]
 cases getU (b.drop s.pos) 0 1 true with
 | none => simp
 | some p =>
  obtain ⟨n,r⟩ := p
  by_cases hm : most < n
  ·simp [hm]
  ·simp [hm]
theorem getPQ_pos (b : List UInt8) {i : Nat} (hi : i ≤ b.length) : (getP b i).2.1 ≤ b.length ∧ (getP b i).1 < 18446744073709551616 := by
 unfold getP
 cases hg : getU (b.drop i) 0 1 true with
 | none => exact ⟨hi,show (0 : Nat) < 18446744073709551616 by decide⟩
 | some p =>
  obtain ⟨n,r⟩ := p
  exact ⟨by show b.length - _ ≤ _;omega,(get_pos hi hg).1⟩
set_option maxRecDepth 100000 in
set_option maxHeartbeats 4000000 in
theorem cnum_S (b : List UInt8) (hb : b.length ≤ 1000000) (s : Rd) (hs : s.pos ≤ b.length) (most : Nat) (hm : most < 9223372036854775808) :
  SCalls Tryz.prog 27 [.ptr 1000 0,u64L most] ⟨[],[],[(1000,cL b s)]⟩ (intL (qNum b most s).1) ⟨[],[],[(2000,cL b (qNum b most s).2)]⟩ [(1000,2000)] := by
 have cg := q9get_L b hb s.pos hs
 obtain ⟨hp1,hp2⟩ := getPQ_pos b hs
 refine SCalls.of (fun _ => false) [(1000,2000)] 0 Tryz.func27 rfl (by decide) Tryz.ntmps27 Tryz.results27 (by simp) (.inr ⟨_,_,rfl,by decide,rfl⟩) ?_
 intro w0 S0 vs
 generalize hR : qNum b most s = R
 refine Yg1 (fa2 @cL.eq_1 @u64L.eq_1) ?_
 cases hbad : s.bad
 rotate_left
 ·have hR2 : R = (0,s) := by
   rw [← hR];unfold qNum guardR;rw [if_pos hbad]
  subst hR2
  refine Yt1 @hbad ?_
  refine Yg0 ?_
  refine LW_ret ?_;simp only [thenL,jumpsL,inBlockL,twoL,bodyS];refine ⟨[(1000,2000)],rfl,.inr ⟨_,_,_,rfl,rfl,(by first | exact rfl | assumption | (simp only [LZ,zo,zc,reduceCtorEq,reduceIte,zz1,zz2,zz3,zz4,zz5,zz6,zz7,zz8,zz9,zza,zzb,zzc,zzd,zze,zzf,cL,hbad] <;> exact rfl)),(by first | exact rfl | assumption | (simp only [LZ,zo,zc,reduceCtorEq,reduceIte,zz1,zz2,zz3,zz4,zz5,zz6,zz7,zz8,zz9,zza,zzb,zzc,zzd,zze,zzf,cL,hbad] <;> exact rfl))⟩,?_⟩;simp only [thenL,jumpsL,inBlockL,twoL,bodyQ,LV.lit.injEq,LV.tup.injEq,LV.agg.injEq,LV.sl.injEq,List.cons.injEq,Value.int.injEq,Value.bool.injEq,Value.string.injEq,ByteArray.mk.injEq,exists_eq_left',exists_eq_left,exists_eq_right,LZ,zo,zc,reduceCtorEq,reduceIte,zz1,zz2,zz3,zz4,zz5,zz6,zz7,zz8,zz9,zza,zzb,zzc,zzd,zze,zzf,cL,hbad]
 rw [qNum_eq b most s hbad] at hR
 generalize getP b s.pos = g at *
 obtain ⟨n,k,e⟩ := g
 simp only at hR hp1 hp2 cg
 simp only [u64L] at cg
 refine Yf1 @hbad ?_
 refine Yn0 ?_;intro K hK
 refine Yc0 (cg) ?_
 refine hK _ ?_;clear hK K;try refine Wh0 ?_
 by_cases he : e = 0
 rotate_left
 ·have hei : ¬ ((e : Int) = 0) := by omega
  rw [if_pos (.inl he)] at hR
  subst hR
  refine Yg1 @hei ?_
  refine Yt0 ?_
  refine Yg0 ?_
  refine LW_ret ?_;simp only [thenL,jumpsL,inBlockL,twoL,bodyS];refine ⟨[(1000,2000)],rfl,.inr ⟨_,_,_,rfl,rfl,(by first | exact rfl | assumption | (simp only [LZ,zo,zc,reduceCtorEq,reduceIte,zz1,zz2,zz3,zz4,zz5,zz6,zz7,zz8,zz9,zza,zzb,zzc,zzd,zze,zzf,cL] <;> exact rfl)),(by first | exact rfl | assumption | (simp only [LZ,zo,zc,reduceCtorEq,reduceIte,zz1,zz2,zz3,zz4,zz5,zz6,zz7,zz8,zz9,zza,zzb,zzc,zzd,zze,zzf,cL] <;> exact rfl))⟩,?_⟩;simp only [thenL,jumpsL,inBlockL,twoL,bodyQ,LV.lit.injEq,LV.tup.injEq,LV.agg.injEq,LV.sl.injEq,List.cons.injEq,Value.int.injEq,Value.bool.injEq,Value.string.injEq,ByteArray.mk.injEq,exists_eq_left',exists_eq_left,exists_eq_right,LZ,zo,zc,reduceCtorEq,reduceIte,zz1,zz2,zz3,zz4,zz5,zz6,zz7,zz8,zz9,zza,zzb,zzc,zzd,zze,zzf,cL]
 subst he
 by_cases hmn : most < n
 ·have hmi : ((most : Int) < (n : Int)) = True := eq_true (by omega)
  rw [if_pos (.inr hmn)] at hR
  subst hR
  refine Yg1 @hmi ?_
  refine Yt0 ?_
  refine Yg0 ?_
  refine LW_ret ?_;simp only [thenL,jumpsL,inBlockL,twoL,bodyS];refine ⟨[(1000,2000)],rfl,.inr ⟨_,_,_,rfl,rfl,(by first | exact rfl | assumption | (simp only [LZ,zo,zc,reduceCtorEq,reduceIte,zz1,zz2,zz3,zz4,zz5,zz6,zz7,zz8,zz9,zza,zzb,zzc,zzd,zze,zzf,cL] <;> exact rfl)),(by first | exact rfl | assumption | (simp only [LZ,zo,zc,reduceCtorEq,reduceIte,zz1,zz2,zz3,zz4,zz5,zz6,zz7,zz8,zz9,zza,zzb,zzc,zzd,zze,zzf,cL] <;> exact rfl))⟩,?_⟩;simp only [thenL,jumpsL,inBlockL,twoL,bodyQ,LV.lit.injEq,LV.tup.injEq,LV.agg.injEq,LV.sl.injEq,List.cons.injEq,Value.int.injEq,Value.bool.injEq,Value.string.injEq,ByteArray.mk.injEq,exists_eq_left',exists_eq_left,exists_eq_right,LZ,zo,zc,reduceCtorEq,reduceIte,zz1,zz2,zz3,zz4,zz5,zz6,zz7,zz8,zz9,zza,zzb,zzc,zzd,zze,zzf,cL]
 ·have hmi : ¬ ((most : Int) < (n : Int)) := by omega
  have hw : IntKind.i64.wrap (n : Int) = (n : Int) := w64 (by omega)
  rw [if_neg (by rintro (c | c);exact c rfl;exact hmn c)] at hR
  subst hR
  refine Yg1 @hmi ?_
  refine Yf0 ?_
  refine Yg1 @hw ?_
  refine LW_ret ?_;simp only [thenL,jumpsL,inBlockL,twoL,bodyS];refine ⟨[(1000,2000)],rfl,.inr ⟨_,_,_,rfl,rfl,(by first | exact rfl | assumption | (simp only [LZ,zo,zc,reduceCtorEq,reduceIte,zz1,zz2,zz3,zz4,zz5,zz6,zz7,zz8,zz9,zza,zzb,zzc,zzd,zze,zzf,cL,hw] <;> exact rfl)),(by first | exact rfl | assumption | (simp only [LZ,zo,zc,reduceCtorEq,reduceIte,zz1,zz2,zz3,zz4,zz5,zz6,zz7,zz8,zz9,zza,zzb,zzc,zzd,zze,zzf,cL,hw] <;> exact rfl))⟩,?_⟩;simp only [thenL,jumpsL,inBlockL,twoL,bodyQ,LV.lit.injEq,LV.tup.injEq,LV.agg.injEq,LV.sl.injEq,List.cons.injEq,Value.int.injEq,Value.bool.injEq,Value.string.injEq,ByteArray.mk.injEq,exists_eq_left',exists_eq_left,exists_eq_right,LZ,zo,zc,reduceCtorEq,reduceIte,zz1,zz2,zz3,zz4,zz5,zz6,zz7,zz8,zz9,zza,zzb,zzc,zzd,zze,zzf,cL,hw]
theorem qText_eq (b : List UInt8) (most : Nat) (s : Rd) (hs : s.pos ≤ b.length) (h : s.bad = false) : qText b most s = ((getTP b s.pos most).1,⟨(getTP b s.pos most).2.1,!decide ((getTP b s.pos most).2.2 = 0)⟩) := by
 unfold qText guardR qText0 getT getTP
 rw [if_neg (by rw [h];decide)]
 cases hg : getU (b.drop s.pos) 0 1 true with
 | none => simp
 | some p =>
  obtain ⟨n,r⟩ := p
  obtain ⟨_,hr,_⟩ := get_pos hs hg
  by_cases hm : most < n
  ·simp [hm]
  ·by_cases hr2 : r.length < n
   ·simp [hm,hr2]
   ·simp [hm,hr2]
    omega
set_option maxRecDepth 100000 in
set_option maxHeartbeats 4000000 in
theorem ctext_S (b : List UInt8) (hb : b.length ≤ 1000000) (s : Rd) (hs : s.pos ≤ b.length) (most : Nat) (hm : most < 9223372036854775808) :
  SCalls Tryz.prog 29 [.ptr 1000 0,intL most] ⟨[],[],[(1000,cL b s)]⟩ (strL (qText b most s).1) ⟨[],[],[(2000,cL b (qText b most s).2)]⟩ [(1000,2000)] := by
 have cg := q9gettext_L b hb s.pos hs most hm
 refine SCalls.of (fun _ => false) [(1000,2000)] 0 Tryz.func29 rfl (by decide) Tryz.ntmps29 Tryz.results29 (by simp) (.inr ⟨_,_,rfl,by decide,rfl⟩) ?_
 intro w0 S0 vs
 generalize hR : qText b most s = R
 refine Yg1 @cL.eq_1 ?_
 cases hbad : s.bad
 rotate_left
 ·have hR2 : R = ([],s) := by
   rw [← hR];unfold qText guardR;rw [if_pos hbad]
  subst hR2
  refine Yt1 @hbad ?_
  refine Yg0 ?_
  refine LW_ret ?_;simp only [thenL,jumpsL,inBlockL,twoL,bodyS];refine ⟨[(1000,2000)],rfl,.inr ⟨_,_,_,rfl,rfl,(by first | exact rfl | assumption | (simp only [LZ,zo,zc,reduceCtorEq,reduceIte,zz1,zz2,zz3,zz4,zz5,zz6,zz7,zz8,zz9,zza,zzb,zzc,zzd,zze,zzf,cL,hbad] <;> exact rfl)),(by first | exact rfl | assumption | (simp only [LZ,zo,zc,reduceCtorEq,reduceIte,zz1,zz2,zz3,zz4,zz5,zz6,zz7,zz8,zz9,zza,zzb,zzc,zzd,zze,zzf,cL,hbad] <;> exact rfl))⟩,?_⟩;simp only [thenL,jumpsL,inBlockL,twoL,bodyQ,LV.lit.injEq,LV.tup.injEq,LV.agg.injEq,LV.sl.injEq,List.cons.injEq,Value.int.injEq,Value.bool.injEq,Value.string.injEq,ByteArray.mk.injEq,exists_eq_left',exists_eq_left,exists_eq_right,LZ,zo,zc,reduceCtorEq,reduceIte,zz1,zz2,zz3,zz4,zz5,zz6,zz7,zz8,zz9,zza,zzb,zzc,zzd,zze,zzf,cL,hbad]
 rw [qText_eq b most s hs hbad] at hR
 generalize getTP b s.pos most = g at *
 obtain ⟨t,k,e⟩ := g
 simp only at hR cg
 refine Yf1 @hbad ?_
 refine Yn0 ?_;intro K hK
 refine Yc0 (cg) ?_
 refine hK _ ?_;clear hK K;try refine Wh0 ?_
 by_cases he : e = 0
 ·subst he
  subst hR
  refine Yg0 ?_
  refine LW_ret ?_;simp only [thenL,jumpsL,inBlockL,twoL,bodyS];refine ⟨[(1000,2000)],rfl,.inr ⟨_,_,_,rfl,rfl,(by first | exact rfl | assumption | (simp only [LZ,zo,zc,reduceCtorEq,reduceIte,zz1,zz2,zz3,zz4,zz5,zz6,zz7,zz8,zz9,zza,zzb,zzc,zzd,zze,zzf,cL] <;> exact rfl)),(by first | exact rfl | assumption | (simp only [LZ,zo,zc,reduceCtorEq,reduceIte,zz1,zz2,zz3,zz4,zz5,zz6,zz7,zz8,zz9,zza,zzb,zzc,zzd,zze,zzf,cL] <;> exact rfl))⟩,?_⟩;simp only [thenL,jumpsL,inBlockL,twoL,bodyQ,LV.lit.injEq,LV.tup.injEq,LV.agg.injEq,LV.sl.injEq,List.cons.injEq,Value.int.injEq,Value.bool.injEq,Value.string.injEq,ByteArray.mk.injEq,exists_eq_left',exists_eq_left,exists_eq_right,LZ,zo,zc,reduceCtorEq,reduceIte,zz1,zz2,zz3,zz4,zz5,zz6,zz7,zz8,zz9,zza,zzb,zzc,zzd,zze,zzf,cL]
 ·have hei : ¬ ((e : Int) = 0) := by omega
  rw [decide_eq_false he] at hR
  subst hR
  refine Yg1 @hei ?_
  refine LW_ret ?_;simp only [thenL,jumpsL,inBlockL,twoL,bodyS];refine ⟨[(1000,2000)],rfl,.inr ⟨_,_,_,rfl,rfl,(by first | exact rfl | assumption | (simp only [LZ,zo,zc,reduceCtorEq,reduceIte,zz1,zz2,zz3,zz4,zz5,zz6,zz7,zz8,zz9,zza,zzb,zzc,zzd,zze,zzf,cL] <;> exact rfl)),(by first | exact rfl | assumption | (simp only [LZ,zo,zc,reduceCtorEq,reduceIte,zz1,zz2,zz3,zz4,zz5,zz6,zz7,zz8,zz9,zza,zzb,zzc,zzd,zze,zzf,cL] <;> exact rfl))⟩,?_⟩;simp only [thenL,jumpsL,inBlockL,twoL,bodyQ,LV.lit.injEq,LV.tup.injEq,LV.agg.injEq,LV.sl.injEq,List.cons.injEq,Value.int.injEq,Value.bool.injEq,Value.string.injEq,ByteArray.mk.injEq,exists_eq_left',exists_eq_left,exists_eq_right,LZ,zo,zc,reduceCtorEq,reduceIte,zz1,zz2,zz3,zz4,zz5,zz6,zz7,zz8,zz9,zza,zzb,zzc,zzd,zze,zzf,cL]
set_option maxRecDepth 100000 in
set_option maxHeartbeats 4000000 in
theorem cbyte_S (b : List UInt8) (hb : b.length ≤ 1000000) (s : Rd) (hs : s.pos ≤ b.length) :
  SCalls Tryz.prog 26 [.ptr 1000 0] ⟨[],[],[(1000,cL b s)]⟩ (intL (qByte b s).1) ⟨[],[],[(2000,cL b (qByte b s).2)]⟩ [(1000,2000)] := by
 refine SCalls.of (fun _ => false) [(1000,2000)] 0 Tryz.func26 rfl (by decide) Tryz.ntmps26 Tryz.results26 (by simp) (.inr ⟨_,_,rfl,by decide,rfl⟩) ?_
 intro w0 S0 vs
 generalize hR : qByte b s = R
 unfold qByte guardR qByte0 at hR
 obtain ⟨pos,bad⟩ := s
 simp only at hR hs
 refine Yo1 @cL.eq_1 ?_
 (repeat refine LW_seq ?_)
 cases bad
 rotate_left
 ·rw [if_pos rfl] at hR
  subst hR
  refine Yn1 @cL.eq_1 ?_;intro K hK
  refine hK _ ?_;clear hK K;try refine Wh0 ?_
  refine Yt0 ?_
  refine Yg0 ?_
  refine LW_ret ?_;simp only [thenL,jumpsL,inBlockL,twoL,bodyS];refine ⟨[(1000,2000)],rfl,.inr ⟨_,_,_,rfl,rfl,(by first | exact rfl | assumption | (simp only [LZ,zo,zc,reduceCtorEq,reduceIte,zz1,zz2,zz3,zz4,zz5,zz6,zz7,zz8,zz9,zza,zzb,zzc,zzd,zze,zzf,cL] <;> exact rfl)),(by first | exact rfl | assumption | (simp only [LZ,zo,zc,reduceCtorEq,reduceIte,zz1,zz2,zz3,zz4,zz5,zz6,zz7,zz8,zz9,zza,zzb,zzc,zzd,zze,zzf,cL] <;> exact rfl))⟩,?_⟩;simp only [thenL,jumpsL,inBlockL,twoL,bodyQ,LV.lit.injEq,LV.tup.injEq,LV.agg.injEq,LV.sl.injEq,List.cons.injEq,Value.int.injEq,Value.bool.injEq,Value.string.injEq,ByteArray.mk.injEq,exists_eq_left',exists_eq_left,exists_eq_right,LZ,zo,zc,reduceCtorEq,reduceIte,zz1,zz2,zz3,zz4,zz5,zz6,zz7,zz8,zz9,zza,zzb,zzc,zzd,zze,zzf,cL]
 rw [if_neg (by decide)] at hR
 by_cases hlt : pos < b.length
 rotate_left
 ·have hll : ((b.length : Int) ≤ (pos : Int)) = True := eq_true (by omega)
  rw [List.getElem?_eq_none (by omega)] at hR
  have hR : ((0,⟨pos,true⟩) : Nat × Rd) = R := hR
  subst hR
  refine Yn1 (fa2 @cL.eq_1 @hll) ?_;intro K hK
  refine hK _ ?_;clear hK K;try refine Wh0 ?_
  refine Yt0 ?_
  refine Yg0 ?_
  refine LW_ret ?_;simp only [thenL,jumpsL,inBlockL,twoL,bodyS];refine ⟨[(1000,2000)],rfl,.inr ⟨_,_,_,rfl,rfl,(by first | exact rfl | assumption | (simp only [LZ,zo,zc,reduceCtorEq,reduceIte,zz1,zz2,zz3,zz4,zz5,zz6,zz7,zz8,zz9,zza,zzb,zzc,zzd,zze,zzf,cL] <;> exact rfl)),(by first | exact rfl | assumption | (simp only [LZ,zo,zc,reduceCtorEq,reduceIte,zz1,zz2,zz3,zz4,zz5,zz6,zz7,zz8,zz9,zza,zzb,zzc,zzd,zze,zzf,cL] <;> exact rfl))⟩,?_⟩;simp only [thenL,jumpsL,inBlockL,twoL,bodyQ,LV.lit.injEq,LV.tup.injEq,LV.agg.injEq,LV.sl.injEq,List.cons.injEq,Value.int.injEq,Value.bool.injEq,Value.string.injEq,ByteArray.mk.injEq,exists_eq_left',exists_eq_left,exists_eq_right,LZ,zo,zc,reduceCtorEq,reduceIte,zz1,zz2,zz3,zz4,zz5,zz6,zz7,zz8,zz9,zza,zzb,zzc,zzd,zze,zzf,cL]
 obtain ⟨c,hc⟩ := get_of_lt hlt
 have hll : ¬ ((b.length : Int) ≤ (pos : Int)) := by omega
 rw [hc] at hR
 have hR : ((c.toNat,⟨pos + 1,false⟩) : Nat × Rd) = R := hR
 subst hR
 have hw := w64s (n := pos) (by omega)
 have hw2 : IntKind.i64.wrap (((pos + 1 : Nat) : Int) - 1) = (pos : Int) := w64p (n := pos + 1) (by omega) (by omega)
 have hp0 : (0 : Int) ≤ (pos : Int) := by omega
 have hwc : IntKind.i64.wrap (c.toNat : Int) = (c.toNat : Int) := w64 (by have := c.toNat_lt;omega)
 refine Yn1 (fa2 @cL.eq_1 @hll) ?_;intro K hK
 refine hK _ ?_;clear hK K;try refine Wh0 ?_
 refine Yf0 ?_
 refine Yo1 @hw ?_
 (repeat refine LW_seq ?_)
 refine Yn1 (fa5 @hw @hw2 @hp0 @hc @hwc) ?_;intro K hK
 refine hK _ ?_;clear hK K;try refine Wh0 ?_
 refine LW_ret ?_;simp only [thenL,jumpsL,inBlockL,twoL,bodyS];refine ⟨[(1000,2000)],rfl,.inr ⟨_,_,_,rfl,rfl,(by first | exact rfl | assumption | (simp only [LZ,zo,zc,reduceCtorEq,reduceIte,zz1,zz2,zz3,zz4,zz5,zz6,zz7,zz8,zz9,zza,zzb,zzc,zzd,zze,zzf,cL,hw] <;> exact rfl)),(by first | exact rfl | assumption | (simp only [LZ,zo,zc,reduceCtorEq,reduceIte,zz1,zz2,zz3,zz4,zz5,zz6,zz7,zz8,zz9,zza,zzb,zzc,zzd,zze,zzf,cL,hw] <;> exact rfl))⟩,?_⟩;simp only [thenL,jumpsL,inBlockL,twoL,bodyQ,LV.lit.injEq,LV.tup.injEq,LV.agg.injEq,LV.sl.injEq,List.cons.injEq,Value.int.injEq,Value.bool.injEq,Value.string.injEq,ByteArray.mk.injEq,exists_eq_left',exists_eq_left,exists_eq_right,LZ,zo,zc,reduceCtorEq,reduceIte,zz1,zz2,zz3,zz4,zz5,zz6,zz7,zz8,zz9,zza,zzb,zzc,zzd,zze,zzf,cL,hw]
end Go.Proofs.YtnmjghcdccfphaaGreatDoor
end
section
set_option linter.unusedSimpArgs false
set_option linter.unusedVariables false
namespace Go.Proofs.YtnmjghcdccfphaaGreatDoor
open Nat renaming reduceAdd → zz1,reduceMul → zz2,reduceSub → zz3,reduceLT → zz4,reduceLeDiff → zz5,reduceEqDiff → zz6,reduceBEq → zzf
open Int renaming reduceAdd → zz7,reduceSub → zz8,reduceMul → zz9,reduceLT → zza,reduceLE → zzb,reduceEq → zzc,reduceNeg → zzd,reduceToNat → zze
open Op renaming operands → zo
open Call renaming operands → zc
open Go.RowKit Go.Proofs AclSpec MetaSpec NodeSpec PathSpec RecSpec TreeSpec

theorem qNum_le (b : List UInt8) (most : Nat) (s : Rd) : (qNum b most s).1 ≤ most := by
 unfold qNum guardR qNum0
 split
 ·exact Nat.zero_le _
 ·split
  ·split
   ·exact Nat.zero_le _
   ·rename_i h;exact Nat.not_lt.1 h
  ·exact Nat.zero_le _
theorem qText_le (b : List UInt8) (most : Nat) (s : Rd) : (qText b most s).1.length ≤ most := by
 unfold qText guardR qText0
 split
 ·exact Nat.zero_le _
 ·split
  ·rename_i h;exact (getT_inv h).2
  ·exact Nat.zero_le _
theorem qByte_good (b : List UInt8) (s : Rd) (h : (qByte b s).1 ≠ 0) : (qByte b s).2.bad = false ∧ (qByte b s).1 < 256 := by
 unfold qByte guardR qByte0 at h ⊢
 split at h
 ·exact absurd rfl h
 ·rename_i hb
  rw [if_neg hb]
  split at h
  ·rename_i c hc
   exact ⟨rfl,c.toNat_lt⟩
  ·exact absurd rfl h
theorem ctext_I (b : List UInt8) (hb : b.length ≤ 1000000) (s : Rd) (hs : s.pos ≤ b.length) (most : Nat) (hm : most < 9223372036854775808) (mi : Int) (hi : mi = most) :
  SCalls Tryz.prog 29 [.ptr 1000 0,intL mi] ⟨[],[],[(1000,cL b s)]⟩ (strL (qText b most s).1) ⟨[],[],[(2000,cL b (qText b most s).2)]⟩ [(1000,2000)] := by
 subst hi
 exact ctext_S b hb s hs most hm
theorem cnum_I (b : List UInt8) (hb : b.length ≤ 1000000) (s : Rd) (hs : s.pos ≤ b.length) (most : Nat) (hm : most < 9223372036854775808) (mi : Int) (hi : mi = most) :
  SCalls Tryz.prog 27 [.ptr 1000 0,.lit (.int .u64 mi)] ⟨[],[],[(1000,cL b s)]⟩ (intL (qNum b most s).1) ⟨[],[],[(2000,cL b (qNum b most s).2)]⟩ [(1000,2000)] := by
 subst hi
 exact cnum_S b hb s hs most hm
theorem decQ_ito (n : Nat) : decB n = itoB n := by
 induction n using Nat.strongRecOn with
 | _ n ih =>
  rw [decB,itoB]
  split
  ·rfl
  ·rw [ih (n / 10) (by omega)]
theorem qFile_eq (b : List UInt8) (m : FMeta) (s : Rd) {sz np : Nat} {s12 s13 s14 : Rd} {ps : List Piece} (h1 : qNum b 1099511627776 s = (sz,s12)) (h2 : qNum b 16 s12 = (np,s13)) (h3 : qRep (qPc b) np s13 = (ps,s14)) :
  qFile b m s = if np = 0 then ((⟨2,m,sz,ps,[],0,0⟩,0),s14) else ((⟨2,m,sz,ps,[],0,0⟩,((qNum b 400000 s14).1 : Int)),(qNum b 400000 s14).2) := by
 have e : qFile b m s = (bindR (qNum b 16) fun np => bindR (qRep (qPc b) np) fun ps => if np = 0 then pureR ((⟨2,m,((qNum b 1099511627776 s).1 : Int),ps,[],0,0⟩ : FNode),(0 : Int)) else bindR (qInt b 400000) fun p => pureR ((⟨2,m,((qNum b 1099511627776 s).1 : Int),ps,[],0,0⟩ : FNode),p)) (qNum b 1099511627776 s).2 := rfl
 rw [e,h1]
 show (bindR (qRep (qPc b) (qNum b 16 s12).1) fun ps => if (qNum b 16 s12).1 = 0 then pureR ((⟨2,m,(sz : Int),ps,[],0,0⟩ : FNode),(0 : Int)) else bindR (qInt b 400000) fun p => pureR ((⟨2,m,(sz : Int),ps,[],0,0⟩ : FNode),p)) (qNum b 16 s12).2 = _
 rw [h2]
 show (if np = 0 then pureR ((⟨2,m,(sz : Int),(qRep (qPc b) np s13).1,[],0,0⟩ : FNode),(0 : Int)) else bindR (qInt b 400000) fun p => pureR ((⟨2,m,(sz : Int),(qRep (qPc b) np s13).1,[],0,0⟩ : FNode),p)) (qRep (qPc b) np s13).2 = _
 rw [h3]
 by_cases h : np = 0
 ·rw [if_pos h,if_pos h];rfl
 ·rw [if_neg h,if_neg h];rfl
section
variable {α : Type} {f : Rdr α}
theorem qRep_succ (k : Nat) {s : Rd} (h : s.bad = false) : qRep f (k + 1) s = ((f s).1 :: (qRep f k (f s).2).1,(qRep f k (f s).2).2) := by
 rw [qRep]
 unfold guardR
 rw [if_neg (by rw [h];decide)]
 rfl
theorem qRep_bad (k : Nat) {s : Rd} (h : s.bad = true) : qRep f k s = ([],s) := by
 cases k with
 | zero => rfl
 | succ k =>
  rw [qRep]
  unfold guardR
  rw [if_pos h]
end
set_option maxRecDepth 100000 in
set_option maxHeartbeats 32000000 in
theorem crec_S (b : List UInt8) (hb : b.length ≤ 1000000) (s : Rd) (hs : s.pos ≤ b.length) :
  SCalls Tryz.prog 28 [.ptr 1000 0] ⟨[],[],[(1000,cL b s)]⟩ (.agg (recL (qRec b s).1)) ⟨[],[],[(2000,cL b (qRec b s).2)]⟩ [(1000,2000)] := by
 refine SCalls.of (fun _ => false) [(1000,2000)] 0 Tryz.func28 rfl (by decide) Tryz.ntmps28 Tryz.results28 (by simp) (.inr ⟨_,_,rfl,by decide,rfl⟩) ?_
 intro w0 S0 vs
 generalize hR : qRec b s = R
 simp only [qRec,qInt,bindR,pureR] at hR
 have c1 := ctext_I b hb s hs 100 (by decide) 100 rfl
 have p1 := (qText_ok b 100 (by decide)).pos s hs
 have l1 := qText_le b 100 s
 generalize qText b 100 s = q1 at *
 obtain ⟨p,s1⟩ := q1
 simp only at hR c1 p1 l1
 have c2 := cnum_I b hb s1 p1 100 (by decide) 100 rfl
 have p2 := (qNum_ok b 100 (by decide)).pos s1 p1
 generalize qNum b 100 s1 = q2 at *
 obtain ⟨l,s2⟩ := q2
 simp only at hR c2 p2
 have c3 := cbyte_S b hb s2 p2
 have p3 := (qByte_ok b).pos s2 p2
 have g3 := qByte_good b s2
 have hN : qNode b s2 = (if (qByte b s2).1 = 0 then pureR (zeroN,0) else bindR (qMeta b) fun m => qBody b (qByte b s2).1 m) (qByte b s2).2 := rfl
 generalize qByte b s2 = q3 at *
 obtain ⟨k,s3⟩ := q3
 simp only at hR c3 p3 g3 hN
 simp only [cL] at c1 c2 c3
 refine Yo1 @cL.eq_1 ?_
 (repeat refine LW_seq ?_)
 (repeat (first | refine LW_seq ?_ | (refine LW_skip ?_;simp only [LSj,reduceIte,zze]) | refine LW_block ?_));refine LW_regionO [(13,⟨_,_,_,_,_,[(1000,1000)],[(2000,1000)],_,[1001000],(c1).toS,rfl,rfl,rfl⟩)] ?_;intro K hK;simp only [LZ,zo,zc,reduceCtorEq,reduceIte,zz1,zz2,zz3,zz4,zz5,zz6,zz7,zz8,zz9,zza,zzb,zzc,zzd,zze,zzf]
 refine hK _ ?_;clear hK K;try refine Wh0 ?_
 (repeat refine LW_seq ?_)
 (repeat (first | refine LW_seq ?_ | (refine LW_skip ?_;simp only [LSj,reduceIte,zze]) | refine LW_block ?_));refine LW_regionO [(16,⟨_,_,_,_,_,[(1000,1000)],[(2000,1000)],_,[1001000],(c2).toS,rfl,rfl,rfl⟩)] ?_;intro K hK;simp only [LZ,zo,zc,reduceCtorEq,reduceIte,zz1,zz2,zz3,zz4,zz5,zz6,zz7,zz8,zz9,zza,zzb,zzc,zzd,zze,zzf]
 refine hK _ ?_;clear hK K;try refine Wh0 ?_
 (repeat refine LW_seq ?_)
 (repeat (first | refine LW_seq ?_ | (refine LW_skip ?_;simp only [LSj,reduceIte,zze]) | refine LW_block ?_));refine LW_regionO [(19,⟨_,_,_,_,_,[(1000,1000)],[(2000,1000)],_,[1001000],(c3).toS,rfl,rfl,rfl⟩)] ?_;intro K hK;simp only [LZ,zo,zc,reduceCtorEq,reduceIte,zz1,zz2,zz3,zz4,zz5,zz6,zz7,zz8,zz9,zza,zzb,zzc,zzd,zze,zzf]
 refine hK _ ?_;clear hK K;try refine Wh0 ?_
 refine LW_slim (fun st => st.env 0 = .ptr 1000 0 ∧ st.val 0 = vs[0]? ∧ st.box 1000 = some [strL b,intL s3.pos,boolL s3.bad] ∧ st.env 2 = .ptr 2 0 ∧ st.box 2 = some [strL [],intL 0,intL 0,intL 0,intL 0,intL 0,intL 0,.sl 0 [] .nil,.sl 0 [] .nil,intL 0,.sl 0 [] .nil,strL [],intL 0,intL 0,intL 0] ∧ st.env 3 = .ptr 3 0 ∧ st.box 3 = some [strL p,intL l,intL 0,intL 0,intL 0,intL 0,intL 0,.sl 0 [] .nil,.sl 0 [] .nil,intL 0,.sl 0 [] .nil,strL [],intL 0,intL 0,intL 0] ∧ st.env 4 = .ptr 4 0 ∧ st.box 4 = some [intL k,intL 0,intL 0,intL 0,intL 0,.sl 0 [] .nil,.sl 0 [] .nil,intL 0,.sl 0 [] .nil,strL [],intL 0,intL 0] ∧ (st.mode = fun _ => false)) ⟨Yq0,Yq0,Yq0,Yq0,Yq0,Yq0,Yq0,Yq0,Yq0,Yq0⟩ ?_
 rintro st ⟨e0,v0,b1000,e2,b2,e3,b3,e4,b4,hmd⟩
 by_cases hk : k = 0
 ·have hki : ((k : Int) = 0) = True := eq_true (by omega)
  rw [if_pos hk] at hN
  have hN : qNode b s2 = ((zeroN,0),s3) := hN
  rw [hN] at hR
  subst hR
  refine Yg1 (fa5 @e0 @b1000 @e4 @b4 @hki) ?_
  refine Yt0 ?_
  refine Yg1 (fa4 @e2 @b2 @e3 @b3) ?_
  refine LW_ret ?_;simp only [thenL,jumpsL,inBlockL,twoL,bodyS];refine ⟨[(1000,2000)],rfl,.inr ⟨_,_,_,rfl,rfl,(by first | exact rfl | assumption | (simp only [LZ,zo,zc,reduceCtorEq,reduceIte,zz1,zz2,zz3,zz4,zz5,zz6,zz7,zz8,zz9,zza,zzb,zzc,zzd,zze,zzf,e0,v0,b1000,e2,cL,zeroN,recL,nodeL,attrsL,acesL,piecesL,rowL] <;> exact rfl)),(by first | exact rfl | assumption | (simp only [LZ,zo,zc,reduceCtorEq,reduceIte,zz1,zz2,zz3,zz4,zz5,zz6,zz7,zz8,zz9,zza,zzb,zzc,zzd,zze,zzf,e0,v0,b1000,e2,cL,zeroN,recL,nodeL,attrsL,acesL,piecesL,rowL] <;> exact rfl))⟩,?_⟩;simp only [thenL,jumpsL,inBlockL,twoL,bodyQ,LV.lit.injEq,LV.tup.injEq,LV.agg.injEq,LV.sl.injEq,List.cons.injEq,Value.int.injEq,Value.bool.injEq,Value.string.injEq,ByteArray.mk.injEq,exists_eq_left',exists_eq_left,exists_eq_right,LZ,zo,zc,reduceCtorEq,reduceIte,zz1,zz2,zz3,zz4,zz5,zz6,zz7,zz8,zz9,zza,zzb,zzc,zzd,zze,zzf,e0,v0,b1000,e2,cL,zeroN,recL,nodeL,attrsL,acesL,piecesL,rowL]
  (repeat' apply And.intro) <;> rfl
 have hki : ¬ ((k : Int) = 0) := by omega
 obtain ⟨hbad,hk256⟩ := g3 hk
 rw [hbad] at b1000
 refine Yg1 (fa5 @e0 @b1000 @e4 @b4 @hki) ?_
 refine Yf0 ?_
 rw [if_neg hk] at hN
 simp only [qMeta,qInt,bindR,pureR] at hN
 have c4 := cnum_I b hb s3 p3 4095 (by decide) 4095 rfl
 have p4 := (qNum_ok b 4095 (by decide)).pos s3 p3
 generalize qNum b 4095 s3 = q4 at *
 obtain ⟨mo,s4⟩ := q4
 simp only at hN c4 p4
 have c5 := cnum_I b hb s4 p4 2147483648 (by decide) 2147483648 rfl
 have p5 := (qNum_ok b 2147483648 (by decide)).pos s4 p4
 generalize qNum b 2147483648 s4 = q5 at *
 obtain ⟨u,s5⟩ := q5
 simp only at hN c5 p5
 have c6 := cnum_I b hb s5 p5 2147483648 (by decide) 2147483648 rfl
 have p6 := (qNum_ok b 2147483648 (by decide)).pos s5 p5
 generalize qNum b 2147483648 s5 = q6 at *
 obtain ⟨g,s6⟩ := q6
 simp only at hN c6 p6
 have c7 := cnum_I b hb s6 p6 9223372036854775807 (by decide) 9223372036854775807 rfl
 have p7 := (qNum_ok b 9223372036854775807 (by decide)).pos s6 p6
 generalize qNum b 9223372036854775807 s6 = q7 at *
 obtain ⟨t,s7⟩ := q7
 simp only at hN c7 p7
 have c8 := cnum_I b hb s7 p7 8 (by decide) 8 rfl
 have p8 := (qNum_ok b 8 (by decide)).pos s7 p7
 have le8 := qNum_le b 8 s7
 generalize qNum b 8 s7 = q8 at *
 obtain ⟨na,s8⟩ := q8
 simp only at hN c8 p8 le8
 simp only [cL,hbad] at c4 c5 c6 c7 c8
 refine LW_nilBox (cs := [intL k,intL 0,intL 0,intL 0,intL 0,.sl 0 [] .nil,.sl 0 [] .nil,intL 0,.sl 0 [] .nil,strL [],intL 0,intL 0]) 4 5 1001 86 (Yq1 @b4) rfl ?_
 refine LW_nilBox (cs := [intL k,intL 0,intL 0,intL 0,intL 0,.sl 0 [] (.row 1001),.sl 0 [] .nil,intL 0,.sl 0 [] .nil,strL [],intL 0,intL 0]) 4 6 1002 88 Yq0 rfl ?_
 refine LW_nilBox (cs := [intL k,intL 0,intL 0,intL 0,intL 0,.sl 0 [] (.row 1001),.sl 0 [] (.row 1002),intL 0,.sl 0 [] .nil,strL [],intL 0,intL 0]) 4 8 1003 90 Yq0 rfl ?_
 refine LW_slim (fun st => st.env 0 = .ptr 1000 0 ∧ st.val 0 = vs[0]? ∧ st.box 1000 = some [strL b,intL s3.pos,boolL false] ∧ st.env 2 = .ptr 2 0 ∧ st.box 2 = some [strL [],intL 0,intL 0,intL 0,intL 0,intL 0,intL 0,.sl 0 [] .nil,.sl 0 [] .nil,intL 0,.sl 0 [] .nil,strL [],intL 0,intL 0,intL 0] ∧ st.env 3 = .ptr 3 0 ∧ st.box 3 = some [strL p,intL l,intL 0,intL 0,intL 0,intL 0,intL 0,.sl 0 [] .nil,.sl 0 [] .nil,intL 0,.sl 0 [] .nil,strL [],intL 0,intL 0,intL 0] ∧ st.env 4 = .ptr 4 0 ∧ st.box 4 = some [intL k,intL 0,intL 0,intL 0,intL 0,.sl 0 [] (.row 1001),.sl 0 [] (.row 1002),intL 0,.sl 0 [] (.row 1003),strL [],intL 0,intL 0] ∧ st.row 1001 = some (86,0) ∧ st.row 1002 = some (88,0) ∧ st.row 1003 = some (90,0) ∧ (st.mode = fun _ => false)) ⟨(Yq1 @e0),(Yq1 @v0),(Yq1 @b1000),(Yq1 @e2),(Yq1 @b2),(Yq1 @e3),(Yq1 @b3),(Yq1 @e4),Yq0,Yq0,Yq0,Yq0,(Yq1 @hmd)⟩ ?_
 clear e0 v0 b1000 e2 b2 e3 b3 e4 b4 hmd st
 rintro st ⟨e0,v0,b1000,e2,b2,e3,b3,e4,b4,r1001,r1002,r1003,hmd⟩
 (repeat refine LW_seq ?_)
 (repeat (first | refine LW_seq ?_ | (refine LW_skip ?_;simp only [LSj,reduceIte,zze]) | refine LW_block ?_));refine LW_regionO [(32,⟨_,_,_,_,_,[(1000,1000)],[(2000,1000)],_,[1001000],(c4).toS,rfl,rfl,rfl⟩),(34,⟨_,_,_,_,_,[(1000,1000)],[(2000,1000)],_,[1001000],(c5).toS,rfl,rfl,rfl⟩),(36,⟨_,_,_,_,_,[(1000,1000)],[(2000,1000)],_,[1001000],(c6).toS,rfl,rfl,rfl⟩)] ?_;intro K hK;simp only [LZ,zo,zc,reduceCtorEq,reduceIte,zz1,zz2,zz3,zz4,zz5,zz6,zz7,zz8,zz9,zza,zzb,zzc,zzd,zze,zzf,e0,b1000,e4,b4]
 refine hK _ ?_;clear hK K;try refine Wh0 ?_
 (repeat refine LW_seq ?_)
 (repeat (first | refine LW_seq ?_ | (refine LW_skip ?_;simp only [LSj,reduceIte,zze]) | refine LW_block ?_));refine LW_regionO [(44,⟨_,_,_,_,_,[(1000,1000)],[(2000,1000)],_,[1001000],(c7).toS,rfl,rfl,rfl⟩)] ?_;intro K hK;simp only [LZ,zo,zc,reduceCtorEq,reduceIte,zz1,zz2,zz3,zz4,zz5,zz6,zz7,zz8,zz9,zza,zzb,zzc,zzd,zze,zzf,e0,e4]
 refine hK _ ?_;clear hK K;try refine Wh0 ?_
 (repeat refine LW_seq ?_)
 (repeat (first | refine LW_seq ?_ | (refine LW_skip ?_;simp only [LSj,reduceIte,zze]) | refine LW_block ?_));refine LW_regionO [(48,⟨_,_,_,_,_,[(1000,1000)],[(2000,1000)],_,[1001000],(c8).toS,rfl,rfl,rfl⟩)] ?_;intro K hK;simp only [LZ,zo,zc,reduceCtorEq,reduceIte,zz1,zz2,zz3,zz4,zz5,zz6,zz7,zz8,zz9,zza,zzb,zzc,zzd,zze,zzf,e0]
 refine hK _ ?_;clear hK K;try refine Wh0 ?_
 have pA := ((qAttr_ok b).qrep na).pos s8 p8
 generalize hA : qRep (qAttr b) na s8 = qa at *
 obtain ⟨ats,s9⟩ := qa
 simp only at hN pA
 refine LW_slim (fun st => st.env 0 = .ptr 1000 0 ∧ st.val 0 = vs[0]? ∧ st.box 1000 = some [strL b,intL s8.pos,boolL s8.bad] ∧ st.env 2 = .ptr 2 0 ∧ st.box 2 = some [strL [],intL 0,intL 0,intL 0,intL 0,intL 0,intL 0,.sl 0 [] .nil,.sl 0 [] .nil,intL 0,.sl 0 [] .nil,strL [],intL 0,intL 0,intL 0] ∧ st.env 3 = .ptr 3 0 ∧ st.box 3 = some [strL p,intL l,intL 0,intL 0,intL 0,intL 0,intL 0,.sl 0 [] .nil,.sl 0 [] .nil,intL 0,.sl 0 [] .nil,strL [],intL 0,intL 0,intL 0] ∧ st.env 4 = .ptr 4 0 ∧ st.box 4 = some [intL k,intL mo,intL u,intL g,intL t,.sl 0 [] (.row 1001),.sl 0 [] (.row 1002),intL 0,.sl 0 [] (.row 1003),strL [],intL 0,intL 0] ∧ st.row 1001 = some (86,0) ∧ st.row 1002 = some (88,0) ∧ st.row 1003 = some (90,0) ∧ (st.mode = fun _ => false) ∧ st.env 5 = intL na) ⟨(Yq1 @e0),(Yq1 @v0),Yq0,(Yq1 @e2),(Yq1 @b2),(Yq1 @e3),(Yq1 @b3),(Yq1 @e4),Yq0,(Yq1 @r1001),(Yq1 @r1002),(Yq1 @r1003),(Yq1 @hmd),Yq0⟩ ?_
 clear e0 v0 b1000 e2 b2 e3 b3 e4 b4 r1001 r1002 r1003 hmd st
 rintro st ⟨e0,v0,b1000,e2,b2,e3,b3,e4,b4,r1001,r1002,r1003,hmd,e5⟩
 (repeat refine LW_seq ?_)
 refine LW_block ?_
 refine LW_joinB (fun st => st.env 0 = .ptr 1000 0 ∧ st.val 0 = vs[0]? ∧ st.box 1000 = some [strL b,intL s9.pos,boolL s9.bad] ∧ st.env 2 = .ptr 2 0 ∧ st.box 2 = some [strL [],intL 0,intL 0,intL 0,intL 0,intL 0,intL 0,.sl 0 [] .nil,.sl 0 [] .nil,intL 0,.sl 0 [] .nil,strL [],intL 0,intL 0,intL 0] ∧ st.env 3 = .ptr 3 0 ∧ st.box 3 = some [strL p,intL l,intL 0,intL 0,intL 0,intL 0,intL 0,.sl 0 [] .nil,.sl 0 [] .nil,intL 0,.sl 0 [] .nil,strL [],intL 0,intL 0,intL 0] ∧ st.env 4 = .ptr 4 0 ∧ st.box 4 = some [intL k,intL mo,intL u,intL g,intL t,.sl ats.length (ats.flatMap attrL) (.row 1001),.sl 0 [] (.row 1002),intL 0,.sl 0 [] (.row 1003),strL [],intL 0,intL 0] ∧ st.row 1001 = some (86,ats.length) ∧ st.row 1002 = some (88,0) ∧ st.row 1003 = some (90,0) ∧ (st.mode = fun _ => false)) ?_ ?_
 ·refine LW_loop (fun n st => ∃ (i : Nat) (s' : Rd) (acc : List Attr),n = i ∧ s'.pos ≤ b.length ∧ acc.length + i ≤ 8 ∧ acc ++ (qRep (qAttr b) i s').1 = ats ∧ (qRep (qAttr b) i s').2 = s9 ∧ st.env 0 = .ptr 1000 0 ∧ st.val 0 = vs[0]? ∧ st.box 1000 = some [strL b,intL s'.pos,boolL s'.bad] ∧ st.env 2 = .ptr 2 0 ∧ st.box 2 = some [strL [],intL 0,intL 0,intL 0,intL 0,intL 0,intL 0,.sl 0 [] .nil,.sl 0 [] .nil,intL 0,.sl 0 [] .nil,strL [],intL 0,intL 0,intL 0] ∧ st.env 3 = .ptr 3 0 ∧ st.box 3 = some [strL p,intL l,intL 0,intL 0,intL 0,intL 0,intL 0,.sl 0 [] .nil,.sl 0 [] .nil,intL 0,.sl 0 [] .nil,strL [],intL 0,intL 0,intL 0] ∧ st.env 4 = .ptr 4 0 ∧ st.box 4 = some [intL k,intL mo,intL u,intL g,intL t,.sl acc.length (acc.flatMap attrL) (.row 1001),.sl 0 [] (.row 1002),intL 0,.sl 0 [] (.row 1003),strL [],intL 0,intL 0] ∧ st.row 1001 = some (86,acc.length) ∧ st.row 1002 = some (88,0) ∧ st.row 1003 = some (90,0) ∧ (st.mode = fun _ => false) ∧ st.env 5 = intL i) na ⟨na,s8,[],rfl,p8,by simpa using le8,by rw [hA];rfl,by rw [hA],(Yq1 @e0),(Yq1 @v0),(Yq1 @b1000),(Yq1 @e2),(Yq1 @b2),(Yq1 @e3),(Yq1 @b3),(Yq1 @e4),(Yq1 @b4),(Yq1 @r1001),(Yq1 @r1002),(Yq1 @r1003),(Yq1 @hmd),(Yq1 @e5)⟩ ?_
  clear e0 v0 b1000 e2 b2 e3 b3 e4 b4 r1001 r1002 r1003 hmd e5 st
  rintro n st ⟨i,s',acc,hn,ps',hacc,hr1,hr2,e0,v0,b1000,e2,b2,e3,b3,e4,b4,r1001,r1002,r1003,hmd,e5⟩
  by_cases hst : i = 0 ∨ s'.bad = true
  ·have hq : qRep (qAttr b) i s' = ([],s') := by
    rcases hst with rfl | h
    ·rfl
    ·exact qRep_bad i h
   rw [hq] at hr1 hr2
   have hr1 : acc = ats := by simpa using hr1
   have hr2 : s' = s9 := hr2
   by_cases hi0 : i = 0
   ·have hii : ¬ ((0 : Int) < (i : Int)) := by omega
    refine Yg1 (fa4 @e0 @b1000 @e5 @hii) ?_
    refine Yf0 ?_
    refine LW_exit ?_;simp only [thenL,jumpsL,inBlockL,twoL,reduceIte,Nat.reduceEqDiff]
    rw [← hr1,← hr2]
    exact ⟨(Yq1 @e0),(Yq1 @v0),(Yq1 @b1000),(Yq1 @e2),(Yq1 @b2),(Yq1 @e3),(Yq1 @b3),(Yq1 @e4),(Yq1 @b4),(Yq1 @r1001),(Yq1 @r1002),(Yq1 @r1003),(Yq1 @hmd)⟩
   ·have hii : ((0 : Int) < (i : Int)) = True := eq_true (by omega)
    have hbd : s'.bad = true := hst.resolve_left hi0
    have b1000' := b1000
    rw [hbd] at b1000'
    refine Yg1 (fa4 @e0 @b1000' @e5 @hii) ?_
    refine Yf0 ?_
    refine LW_exit ?_;simp only [thenL,jumpsL,inBlockL,twoL,reduceIte,Nat.reduceEqDiff]
    rw [← hr1,← hr2]
    exact ⟨(Yq1 @e0),(Yq1 @v0),(Yq1 @b1000),(Yq1 @e2),(Yq1 @b2),(Yq1 @e3),(Yq1 @b3),(Yq1 @e4),(Yq1 @b4),(Yq1 @r1001),(Yq1 @r1002),(Yq1 @r1003),(Yq1 @hmd)⟩
  have hi0 : i ≠ 0 := fun c => hst (.inl c)
  have hbd : s'.bad = false := by
   cases h : s'.bad
   ·rfl
   ·exact absurd (.inr h) hst
  obtain ⟨j,rfl⟩ : ∃ j,i = j + 1 := ⟨i - 1,by omega⟩
  rw [qRep_succ j hbd] at hr1 hr2
  have hii : ((0 : Int) < ((j + 1 : Nat) : Int)) = True := eq_true (by omega)
  have hw : IntKind.i64.wrap (((j + 1 : Nat) : Int) - 1) = (j : Int) := w64p (n := j + 1) (by omega) (by omega)
  rw [hbd] at b1000
  have ca := ctext_I b hb s' ps' 20 (by decide) 20 rfl
  have pa := (qText_ok b 20 (by decide)).pos s' ps'
  have hat : qAttr b s' = (⟨(qText b 20 s').1,(qText b 200 (qText b 20 s').2).1⟩,(qText b 200 (qText b 20 s').2).2) := rfl
  generalize qText b 20 s' = qx at *
  obtain ⟨an,sa⟩ := qx
  simp only at hat ca pa
  have cb := ctext_I b hb sa pa 200 (by decide) 200 rfl
  have pb := (qText_ok b 200 (by decide)).pos sa pa
  generalize qText b 200 sa = qy at *
  obtain ⟨av,sb⟩ := qy
  simp only at hat cb pb
  rw [hat] at hr1 hr2
  simp only at hr1 hr2
  simp only [cL,hbd] at ca cb
  have hfl := attrL_flen acc
  have hs1 : (acc ++ [(⟨an,av⟩ : Attr)]).flatMap attrL = acc.flatMap attrL ++ [strL an,strL av] := by rw [List.flatMap_append];rfl
  have hs2 : (acc ++ [(⟨an,av⟩ : Attr)]).length = acc.length + 1 := by simp
  refine Yg1 (fa4 @e0 @b1000 @e5 @hii) ?_
  refine Yt0 ?_
  refine LW_skip ?_
  simp only [LSj,reduceIte,zze]
  refine LW_seq ?_
  refine LW_block ?_
  (repeat refine LW_seq ?_)
  (repeat (first | refine LW_seq ?_ | (refine LW_skip ?_;simp only [LSj,reduceIte,zze]) | refine LW_block ?_));refine LW_regionO [(61,⟨_,_,_,_,_,[(1000,1000)],[(2000,1000)],_,[1001000],(ca).toS,rfl,rfl,rfl⟩)] ?_;intro K hK;simp only [LZ,zo,zc,reduceCtorEq,reduceIte,zz1,zz2,zz3,zz4,zz5,zz6,zz7,zz8,zz9,zza,zzb,zzc,zzd,zze,zzf,e0,b1000]
  refine hK _ ?_;clear hK K;try refine Wh0 ?_
  (repeat refine LW_seq ?_)
  (repeat (first | refine LW_seq ?_ | (refine LW_skip ?_;simp only [LSj,reduceIte,zze]) | refine LW_block ?_));refine LW_regionO [(64,⟨_,_,_,_,_,[(1000,1000)],[(2000,1000)],_,[1001000],(cb).toS,rfl,rfl,rfl⟩)] ?_;intro K hK;simp only [LZ,zo,zc,reduceCtorEq,reduceIte,zz1,zz2,zz3,zz4,zz5,zz6,zz7,zz8,zz9,zza,zzb,zzc,zzd,zze,zzf,e0]
  refine hK _ ?_;clear hK K;try refine Wh0 ?_
  refine LW_slim (fun st => st.env 0 = .ptr 1000 0 ∧ st.val 0 = vs[0]? ∧ st.box 1000 = some [strL b,intL sb.pos,boolL sb.bad] ∧ st.env 2 = .ptr 2 0 ∧ st.box 2 = some [strL [],intL 0,intL 0,intL 0,intL 0,intL 0,intL 0,.sl 0 [] .nil,.sl 0 [] .nil,intL 0,.sl 0 [] .nil,strL [],intL 0,intL 0,intL 0] ∧ st.env 3 = .ptr 3 0 ∧ st.box 3 = some [strL p,intL l,intL 0,intL 0,intL 0,intL 0,intL 0,.sl 0 [] .nil,.sl 0 [] .nil,intL 0,.sl 0 [] .nil,strL [],intL 0,intL 0,intL 0] ∧ st.env 4 = .ptr 4 0 ∧ st.box 4 = some [intL k,intL mo,intL u,intL g,intL t,.sl acc.length (acc.flatMap attrL) (.row 1001),.sl 0 [] (.row 1002),intL 0,.sl 0 [] (.row 1003),strL [],intL 0,intL 0] ∧ st.row 1001 = some (86,acc.length) ∧ st.row 1002 = some (88,0) ∧ st.row 1003 = some (90,0) ∧ (st.mode = fun _ => false) ∧ st.env 5 = intL (j + 1 : Nat) ∧ st.env 6 = .ptr 6 0 ∧ st.box 6 = some [strL an,strL av]) ⟨(Yq1 @e0),(Yq1 @v0),Yq0,(Yq1 @e2),(Yq1 @b2),(Yq1 @e3),(Yq1 @b3),(Yq1 @e4),(Yq1 @b4),(Yq1 @r1001),(Yq1 @r1002),(Yq1 @r1003),(Yq1 @hmd),(Yq1 @e5),Yq0,Yq0⟩ ?_
  clear e0 v0 b1000 e2 b2 e3 b3 e4 b4 r1001 r1002 r1003 hmd e5 st
  rintro st ⟨e0,v0,b1000,e2,b2,e3,b3,e4,b4,r1001,r1002,r1003,hmd,e5,e6,b6⟩
  (repeat refine LW_seq ?_)
  refine Yr1 (fa7 @e4 @b4 @e6 @b6 @r1001 @hmd @hfl) ?_;intro K hK
  refine ⟨by (repeat' apply And.intro) <;> first | omega | (unfold maxLen;omega) | (intro _;omega) | decide,?_⟩
  refine hK _ ?_;clear hK K;try refine Wh0 ?_
  refine Yg1 (fa2 @e5 @hw) ?_
  refine ⟨j,by omega,j,sb,acc ++ [(⟨an,av⟩ : Attr)],rfl,pb,by rw [hs2];omega,by rw [List.append_assoc];exact hr1,hr2,(Yq1 @e0),(Yq1 @v0),(Yq1 @b1000),(Yq1 @e2),(Yq1 @b2),(Yq1 @e3),(Yq1 @b3),(Yq1 @e4),by rw [hs1,hs2];exact Yq0,by rw [hs2];exact Yq0,(Yq1 @r1002),(Yq1 @r1003),(Yq1 @hmd),(Yq1 @hw)⟩
 clear e0 v0 b1000 e2 b2 e3 b3 e4 b4 r1001 r1002 r1003 hmd e5 st
 rintro st ⟨e0,v0,b1000,e2,b2,e3,b3,e4,b4,r1001,r1002,r1003,hmd⟩
 have c9 := cnum_I b hb s9 pA 16 (by decide) 16 rfl
 have p10 := (qNum_ok b 16 (by decide)).pos s9 pA
 have le10 := qNum_le b 16 s9
 generalize qNum b 16 s9 = q10 at *
 obtain ⟨nc,s10⟩ := q10
 simp only at hN c9 p10 le10
 simp only [cL] at c9
 (repeat refine LW_seq ?_)
 (repeat (first | refine LW_seq ?_ | (refine LW_skip ?_;simp only [LSj,reduceIte,zze]) | refine LW_block ?_));refine LW_regionO [(75,⟨_,_,_,_,_,[(1000,1000)],[(2000,1000)],_,[1001000],(c9).toS,rfl,rfl,rfl⟩)] ?_;intro K hK;simp only [LZ,zo,zc,reduceCtorEq,reduceIte,zz1,zz2,zz3,zz4,zz5,zz6,zz7,zz8,zz9,zza,zzb,zzc,zzd,zze,zzf,e0,b1000]
 refine hK _ ?_;clear hK K;try refine Wh0 ?_
 have pC := ((qAce_ok b).qrep nc).pos s10 p10
 generalize hC : qRep (qAce b) nc s10 = qa at *
 obtain ⟨acs,s11⟩ := qa
 simp only at hN pC
 refine LW_slim (fun st => st.env 0 = .ptr 1000 0 ∧ st.val 0 = vs[0]? ∧ st.box 1000 = some [strL b,intL s10.pos,boolL s10.bad] ∧ st.env 2 = .ptr 2 0 ∧ st.box 2 = some [strL [],intL 0,intL 0,intL 0,intL 0,intL 0,intL 0,.sl 0 [] .nil,.sl 0 [] .nil,intL 0,.sl 0 [] .nil,strL [],intL 0,intL 0,intL 0] ∧ st.env 3 = .ptr 3 0 ∧ st.box 3 = some [strL p,intL l,intL 0,intL 0,intL 0,intL 0,intL 0,.sl 0 [] .nil,.sl 0 [] .nil,intL 0,.sl 0 [] .nil,strL [],intL 0,intL 0,intL 0] ∧ st.env 4 = .ptr 4 0 ∧ st.box 4 = some [intL k,intL mo,intL u,intL g,intL t,.sl ats.length (ats.flatMap attrL) (.row 1001),.sl 0 [] (.row 1002),intL 0,.sl 0 [] (.row 1003),strL [],intL 0,intL 0] ∧ st.row 1001 = some (86,ats.length) ∧ st.row 1002 = some (88,0) ∧ st.row 1003 = some (90,0) ∧ (st.mode = fun _ => false) ∧ st.env 7 = intL nc) ⟨(Yq1 @e0),(Yq1 @v0),Yq0,(Yq1 @e2),(Yq1 @b2),(Yq1 @e3),(Yq1 @b3),(Yq1 @e4),(Yq1 @b4),(Yq1 @r1001),(Yq1 @r1002),(Yq1 @r1003),(Yq1 @hmd),Yq0⟩ ?_
 clear e0 v0 b1000 e2 b2 e3 b3 e4 b4 r1001 r1002 r1003 hmd st
 rintro st ⟨e0,v0,b1000,e2,b2,e3,b3,e4,b4,r1001,r1002,r1003,hmd,e7⟩
 (repeat refine LW_seq ?_)
 refine LW_block ?_
 refine LW_joinB (fun st => st.env 0 = .ptr 1000 0 ∧ st.val 0 = vs[0]? ∧ st.box 1000 = some [strL b,intL s11.pos,boolL s11.bad] ∧ st.env 2 = .ptr 2 0 ∧ st.box 2 = some [strL [],intL 0,intL 0,intL 0,intL 0,intL 0,intL 0,.sl 0 [] .nil,.sl 0 [] .nil,intL 0,.sl 0 [] .nil,strL [],intL 0,intL 0,intL 0] ∧ st.env 3 = .ptr 3 0 ∧ st.box 3 = some [strL p,intL l,intL 0,intL 0,intL 0,intL 0,intL 0,.sl 0 [] .nil,.sl 0 [] .nil,intL 0,.sl 0 [] .nil,strL [],intL 0,intL 0,intL 0] ∧ st.env 4 = .ptr 4 0 ∧ st.box 4 = some [intL k,intL mo,intL u,intL g,intL t,.sl ats.length (ats.flatMap attrL) (.row 1001),.sl acs.length (acs.flatMap aceL) (.row 1002),intL 0,.sl 0 [] (.row 1003),strL [],intL 0,intL 0] ∧ st.row 1001 = some (86,ats.length) ∧ st.row 1002 = some (88,acs.length) ∧ st.row 1003 = some (90,0) ∧ (st.mode = fun _ => false)) ?_ ?_
 ·refine LW_loop (fun n st => ∃ (i : Nat) (s' : Rd) (acc : List Ace),n = i ∧ s'.pos ≤ b.length ∧ acc.length + i ≤ 16 ∧ acc ++ (qRep (qAce b) i s').1 = acs ∧ (qRep (qAce b) i s').2 = s11 ∧ st.env 0 = .ptr 1000 0 ∧ st.val 0 = vs[0]? ∧ st.box 1000 = some [strL b,intL s'.pos,boolL s'.bad] ∧ st.env 2 = .ptr 2 0 ∧ st.box 2 = some [strL [],intL 0,intL 0,intL 0,intL 0,intL 0,intL 0,.sl 0 [] .nil,.sl 0 [] .nil,intL 0,.sl 0 [] .nil,strL [],intL 0,intL 0,intL 0] ∧ st.env 3 = .ptr 3 0 ∧ st.box 3 = some [strL p,intL l,intL 0,intL 0,intL 0,intL 0,intL 0,.sl 0 [] .nil,.sl 0 [] .nil,intL 0,.sl 0 [] .nil,strL [],intL 0,intL 0,intL 0] ∧ st.env 4 = .ptr 4 0 ∧ st.box 4 = some [intL k,intL mo,intL u,intL g,intL t,.sl ats.length (ats.flatMap attrL) (.row 1001),.sl acc.length (acc.flatMap aceL) (.row 1002),intL 0,.sl 0 [] (.row 1003),strL [],intL 0,intL 0] ∧ st.row 1001 = some (86,ats.length) ∧ st.row 1002 = some (88,acc.length) ∧ st.row 1003 = some (90,0) ∧ (st.mode = fun _ => false) ∧ st.env 7 = intL i) nc ⟨nc,s10,[],rfl,p10,by simpa using le10,by rw [hC];rfl,by rw [hC],(Yq1 @e0),(Yq1 @v0),(Yq1 @b1000),(Yq1 @e2),(Yq1 @b2),(Yq1 @e3),(Yq1 @b3),(Yq1 @e4),(Yq1 @b4),(Yq1 @r1001),(Yq1 @r1002),(Yq1 @r1003),(Yq1 @hmd),(Yq1 @e7)⟩ ?_
  clear e0 v0 b1000 e2 b2 e3 b3 e4 b4 r1001 r1002 r1003 hmd e7 st
  rintro n st ⟨i,s',acc,hn,ps',hacc,hr1,hr2,e0,v0,b1000,e2,b2,e3,b3,e4,b4,r1001,r1002,r1003,hmd,e7⟩
  by_cases hst : i = 0 ∨ s'.bad = true
  ·have hq : qRep (qAce b) i s' = ([],s') := by
    rcases hst with rfl | h
    ·rfl
    ·exact qRep_bad i h
   rw [hq] at hr1 hr2
   have hr1 : acc = acs := by simpa using hr1
   have hr2 : s' = s11 := hr2
   by_cases hi0 : i = 0
   ·have hii : ¬ ((0 : Int) < (i : Int)) := by omega
    refine Yg1 (fa4 @e0 @b1000 @e7 @hii) ?_
    refine Yf0 ?_
    refine LW_exit ?_;simp only [thenL,jumpsL,inBlockL,twoL,reduceIte,Nat.reduceEqDiff]
    rw [← hr1,← hr2]
    exact ⟨(Yq1 @e0),(Yq1 @v0),(Yq1 @b1000),(Yq1 @e2),(Yq1 @b2),(Yq1 @e3),(Yq1 @b3),(Yq1 @e4),(Yq1 @b4),(Yq1 @r1001),(Yq1 @r1002),(Yq1 @r1003),(Yq1 @hmd)⟩
   ·have hii : ((0 : Int) < (i : Int)) = True := eq_true (by omega)
    have hbd : s'.bad = true := hst.resolve_left hi0
    have b1000' := b1000
    rw [hbd] at b1000'
    refine Yg1 (fa4 @e0 @b1000' @e7 @hii) ?_
    refine Yf0 ?_
    refine LW_exit ?_;simp only [thenL,jumpsL,inBlockL,twoL,reduceIte,Nat.reduceEqDiff]
    rw [← hr1,← hr2]
    exact ⟨(Yq1 @e0),(Yq1 @v0),(Yq1 @b1000),(Yq1 @e2),(Yq1 @b2),(Yq1 @e3),(Yq1 @b3),(Yq1 @e4),(Yq1 @b4),(Yq1 @r1001),(Yq1 @r1002),(Yq1 @r1003),(Yq1 @hmd)⟩
  have hi0 : i ≠ 0 := fun c => hst (.inl c)
  have hbd : s'.bad = false := by
   cases h : s'.bad
   ·rfl
   ·exact absurd (.inr h) hst
  obtain ⟨j,rfl⟩ : ∃ j,i = j + 1 := ⟨i - 1,by omega⟩
  rw [qRep_succ j hbd] at hr1 hr2
  have hii : ((0 : Int) < ((j + 1 : Nat) : Int)) = True := eq_true (by omega)
  have hw : IntKind.i64.wrap (((j + 1 : Nat) : Int) - 1) = (j : Int) := w64p (n := j + 1) (by omega) (by omega)
  rw [hbd] at b1000
  have ca := cnum_I b hb s' ps' 3 (by decide) 3 rfl
  have pa := (qNum_ok b 3 (by decide)).pos s' ps'
  have hat : qAce b s' = (⟨(qNum b 3 s').1,(qNum b 2147483648 (qNum b 3 s').2).1,(qNum b 7 (qNum b 2147483648 (qNum b 3 s').2).2).1⟩,(qNum b 7 (qNum b 2147483648 (qNum b 3 s').2).2).2) := rfl
  generalize qNum b 3 s' = qx at *
  obtain ⟨ak,sa⟩ := qx
  simp only at hat ca pa
  have cb := cnum_I b hb sa pa 2147483648 (by decide) 2147483648 rfl
  have pb := (qNum_ok b 2147483648 (by decide)).pos sa pa
  generalize qNum b 2147483648 sa = qy at *
  obtain ⟨ai,sb⟩ := qy
  simp only at hat cb pb
  have cc := cnum_I b hb sb pb 7 (by decide) 7 rfl
  have pc := (qNum_ok b 7 (by decide)).pos sb pb
  generalize qNum b 7 sb = qz at *
  obtain ⟨ap,sc⟩ := qz
  simp only at hat cc pc
  rw [hat] at hr1 hr2
  simp only at hr1 hr2
  simp only [cL,hbd] at ca cb cc
  have hfl := aceL_flen acc
  have hs1 : (acc ++ [(⟨ak,ai,ap⟩ : Ace)]).flatMap aceL = acc.flatMap aceL ++ [intL ak,intL ai,intL ap] := by rw [List.flatMap_append];rfl
  have hs2 : (acc ++ [(⟨ak,ai,ap⟩ : Ace)]).length = acc.length + 1 := by simp
  refine Yg1 (fa4 @e0 @b1000 @e7 @hii) ?_
  refine Yt0 ?_
  refine LW_skip ?_
  simp only [LSj,reduceIte,zze]
  refine LW_seq ?_
  refine LW_block ?_
  (repeat refine LW_seq ?_)
  (repeat (first | refine LW_seq ?_ | (refine LW_skip ?_;simp only [LSj,reduceIte,zze]) | refine LW_block ?_));refine LW_regionO [(88,⟨_,_,_,_,_,[(1000,1000)],[(2000,1000)],_,[1001000],(ca).toS,rfl,rfl,rfl⟩)] ?_;intro K hK;simp only [LZ,zo,zc,reduceCtorEq,reduceIte,zz1,zz2,zz3,zz4,zz5,zz6,zz7,zz8,zz9,zza,zzb,zzc,zzd,zze,zzf,e0,b1000]
  refine hK _ ?_;clear hK K;try refine Wh0 ?_
  (repeat refine LW_seq ?_)
  (repeat (first | refine LW_seq ?_ | (refine LW_skip ?_;simp only [LSj,reduceIte,zze]) | refine LW_block ?_));refine LW_regionO [(91,⟨_,_,_,_,_,[(1000,1000)],[(2000,1000)],_,[1001000],(cb).toS,rfl,rfl,rfl⟩)] ?_;intro K hK;simp only [LZ,zo,zc,reduceCtorEq,reduceIte,zz1,zz2,zz3,zz4,zz5,zz6,zz7,zz8,zz9,zza,zzb,zzc,zzd,zze,zzf,e0]
  refine hK _ ?_;clear hK K;try refine Wh0 ?_
  (repeat refine LW_seq ?_)
  (repeat (first | refine LW_seq ?_ | (refine LW_skip ?_;simp only [LSj,reduceIte,zze]) | refine LW_block ?_));refine LW_regionO [(94,⟨_,_,_,_,_,[(1000,1000)],[(2000,1000)],_,[1001000],(cc).toS,rfl,rfl,rfl⟩)] ?_;intro K hK;simp only [LZ,zo,zc,reduceCtorEq,reduceIte,zz1,zz2,zz3,zz4,zz5,zz6,zz7,zz8,zz9,zza,zzb,zzc,zzd,zze,zzf,e0]
  refine hK _ ?_;clear hK K;try refine Wh0 ?_
  refine LW_slim (fun st => st.env 0 = .ptr 1000 0 ∧ st.val 0 = vs[0]? ∧ st.box 1000 = some [strL b,intL sc.pos,boolL sc.bad] ∧ st.env 2 = .ptr 2 0 ∧ st.box 2 = some [strL [],intL 0,intL 0,intL 0,intL 0,intL 0,intL 0,.sl 0 [] .nil,.sl 0 [] .nil,intL 0,.sl 0 [] .nil,strL [],intL 0,intL 0,intL 0] ∧ st.env 3 = .ptr 3 0 ∧ st.box 3 = some [strL p,intL l,intL 0,intL 0,intL 0,intL 0,intL 0,.sl 0 [] .nil,.sl 0 [] .nil,intL 0,.sl 0 [] .nil,strL [],intL 0,intL 0,intL 0] ∧ st.env 4 = .ptr 4 0 ∧ st.box 4 = some [intL k,intL mo,intL u,intL g,intL t,.sl ats.length (ats.flatMap attrL) (.row 1001),.sl acc.length (acc.flatMap aceL) (.row 1002),intL 0,.sl 0 [] (.row 1003),strL [],intL 0,intL 0] ∧ st.row 1001 = some (86,ats.length) ∧ st.row 1002 = some (88,acc.length) ∧ st.row 1003 = some (90,0) ∧ (st.mode = fun _ => false) ∧ st.env 7 = intL (j + 1 : Nat) ∧ st.env 8 = .ptr 8 0 ∧ st.box 8 = some [intL ak,intL ai,intL ap]) ⟨(Yq1 @e0),(Yq1 @v0),Yq0,(Yq1 @e2),(Yq1 @b2),(Yq1 @e3),(Yq1 @b3),(Yq1 @e4),(Yq1 @b4),(Yq1 @r1001),(Yq1 @r1002),(Yq1 @r1003),(Yq1 @hmd),(Yq1 @e7),Yq0,Yq0⟩ ?_
  clear e0 v0 b1000 e2 b2 e3 b3 e4 b4 r1001 r1002 r1003 hmd e7 st
  rintro st ⟨e0,v0,b1000,e2,b2,e3,b3,e4,b4,r1001,r1002,r1003,hmd,e7,e8,b8⟩
  (repeat refine LW_seq ?_)
  refine Yr1 (fa7 @e4 @b4 @e8 @b8 @r1002 @hmd @hfl) ?_;intro K hK
  refine ⟨by (repeat' apply And.intro) <;> first | omega | (unfold maxLen;omega) | (intro _;omega) | decide,?_⟩
  refine hK _ ?_;clear hK K;try refine Wh0 ?_
  refine Yg1 (fa2 @e7 @hw) ?_
  refine ⟨j,by omega,j,sc,acc ++ [(⟨ak,ai,ap⟩ : Ace)],rfl,pc,by rw [hs2];omega,by rw [List.append_assoc];exact hr1,hr2,(Yq1 @e0),(Yq1 @v0),(Yq1 @b1000),(Yq1 @e2),(Yq1 @b2),(Yq1 @e3),(Yq1 @b3),(Yq1 @e4),by rw [hs1,hs2];exact Yq0,(Yq1 @r1001),by rw [hs2];exact Yq0,(Yq1 @r1003),(Yq1 @hmd),(Yq1 @hw)⟩
 clear e0 v0 b1000 e2 b2 e3 b3 e4 b4 r1001 r1002 r1003 hmd e7 st
 rintro st ⟨e0,v0,b1000,e2,b2,e3,b3,e4,b4,r1001,r1002,r1003,hmd⟩
 have hN : qNode b s2 = qBody b k ⟨mo,u,g,t,ats,acs⟩ s11 := hN
 (repeat refine LW_seq ?_)
 refine Yo1 (fa2 @e4 @b4) ?_
 refine LW_slim (fun st => st.env 0 = .ptr 1000 0 ∧ st.val 0 = vs[0]? ∧ st.box 1000 = some [strL b,intL s11.pos,boolL s11.bad] ∧ st.env 2 = .ptr 2 0 ∧ st.box 2 = some [strL [],intL 0,intL 0,intL 0,intL 0,intL 0,intL 0,.sl 0 [] .nil,.sl 0 [] .nil,intL 0,.sl 0 [] .nil,strL [],intL 0,intL 0,intL 0] ∧ st.env 3 = .ptr 3 0 ∧ st.box 3 = some [strL p,intL l,intL 0,intL 0,intL 0,intL 0,intL 0,.sl 0 [] .nil,.sl 0 [] .nil,intL 0,.sl 0 [] .nil,strL [],intL 0,intL 0,intL 0] ∧ st.env 4 = .ptr 4 0 ∧ st.box 4 = some [intL k,intL mo,intL u,intL g,intL t,.sl ats.length (ats.flatMap attrL) (.row 1001),.sl acs.length (acs.flatMap aceL) (.row 1002),intL 0,.sl 0 [] (.row 1003),strL [],intL 0,intL 0] ∧ st.row 1001 = some (86,ats.length) ∧ st.row 1002 = some (88,acs.length) ∧ st.row 1003 = some (90,0) ∧ (st.mode = fun _ => false) ∧ st.env 105 = intL k) ⟨(Yq1 @e0),(Yq1 @v0),(Yq1 @b1000),(Yq1 @e2),(Yq1 @b2),(Yq1 @e3),(Yq1 @b3),(Yq1 @e4),(Yq1 @b4),(Yq1 @r1001),(Yq1 @r1002),(Yq1 @r1003),(Yq1 @hmd),Yq0⟩ ?_
 clear e0 v0 b1000 e2 b2 e3 b3 e4 b4 r1001 r1002 r1003 hmd st
 rintro st ⟨e0,v0,b1000,e2,b2,e3,b3,e4,b4,r1001,r1002,r1003,hmd,e105⟩
 (repeat refine LW_seq ?_)
 refine LW_block ?_
 refine LW_joinB (fun st => ∃ (Nn : FNode) (pos : Int) (sF : Rd),qNode b s2 = ((Nn,pos),sF) ∧ st.env 0 = .ptr 1000 0 ∧ st.val 0 = vs[0]? ∧ st.box 1000 = some [strL b,intL sF.pos,boolL sF.bad] ∧ st.env 2 = .ptr 2 0 ∧ st.box 2 = some [strL [],intL 0,intL 0,intL 0,intL 0,intL 0,intL 0,.sl 0 [] .nil,.sl 0 [] .nil,intL 0,.sl 0 [] .nil,strL [],intL 0,intL 0,intL 0] ∧ st.env 3 = .ptr 3 0 ∧ st.box 3 = some [strL p,intL l,intL 0,intL 0,intL 0,intL 0,intL 0,.sl 0 [] .nil,.sl 0 [] .nil,intL 0,.sl 0 [] .nil,strL [],intL 0,intL 0,intL pos] ∧ st.env 4 = .ptr 4 0 ∧ st.box 4 = some [intL Nn.kind,intL Nn.mt.mode,intL Nn.mt.uid,intL Nn.mt.gid,intL Nn.mt.time,.sl Nn.mt.attrs.length (Nn.mt.attrs.flatMap attrL) (.row 1001),.sl Nn.mt.acl.length (Nn.mt.acl.flatMap aceL) (.row 1002),intL Nn.size,.sl Nn.dat.length (Nn.dat.flatMap pieceL) (.row 1003),strL Nn.target,intL Nn.major,intL Nn.minor] ∧ (st.mode = fun _ => false)) ?_ ?_
 ·by_cases k2 : k = 2
  ·subst k2
   have hi : (((2 : Nat) : Int) = 2) = True := eq_true (by omega)
   have hN : qNode b s2 = qFile b ⟨mo,u,g,t,ats,acs⟩ s11 := hN
   have d1 := cnum_I b hb s11 pC 1099511627776 (by decide) 1099511627776 rfl
   have p12 := (qNum_ok b 1099511627776 (by decide)).pos s11 pC
   generalize hq12 : qNum b 1099511627776 s11 = q12 at *
   obtain ⟨sz,s12⟩ := q12
   simp only at d1 p12
   have d2 := cnum_I b hb s12 p12 16 (by decide) 16 rfl
   have p13 := (qNum_ok b 16 (by decide)).pos s12 p12
   have le13 := qNum_le b 16 s12
   generalize hq13 : qNum b 16 s12 = q13 at *
   obtain ⟨np,s13⟩ := q13
   simp only at d2 p13 le13
   have p14 := ((qPc_ok b).qrep np).pos s13 p13
   generalize hP : qRep (qPc b) np s13 = qa at *
   obtain ⟨ps,s14⟩ := qa
   simp only at p14
   rw [qFile_eq b _ s11 hq12 hq13 hP] at hN
   simp only [cL] at d1 d2
   refine Yg1 (fa2 @e105 @hi) ?_
   refine Yt0 ?_
   (repeat refine LW_seq ?_)
   (repeat (first | refine LW_seq ?_ | (refine LW_skip ?_;simp only [LSj,reduceIte,zze]) | refine LW_block ?_));refine LW_regionO [(109,⟨_,_,_,_,_,[(1000,1000)],[(2000,1000)],_,[1001000],(d1).toS,rfl,rfl,rfl⟩)] ?_;intro K hK;simp only [LZ,zo,zc,reduceCtorEq,reduceIte,zz1,zz2,zz3,zz4,zz5,zz6,zz7,zz8,zz9,zza,zzb,zzc,zzd,zze,zzf,e0,b1000,e4,b4]
   refine hK _ ?_;clear hK K;try refine Wh0 ?_
   (repeat refine LW_seq ?_)
   (repeat (first | refine LW_seq ?_ | (refine LW_skip ?_;simp only [LSj,reduceIte,zze]) | refine LW_block ?_));refine LW_regionO [(112,⟨_,_,_,_,_,[(1000,1000)],[(2000,1000)],_,[1001000],(d2).toS,rfl,rfl,rfl⟩)] ?_;intro K hK;simp only [LZ,zo,zc,reduceCtorEq,reduceIte,zz1,zz2,zz3,zz4,zz5,zz6,zz7,zz8,zz9,zza,zzb,zzc,zzd,zze,zzf,e0]
   refine hK _ ?_;clear hK K;try refine Wh0 ?_
   (repeat refine LW_seq ?_)
   refine Yo0 ?_
   refine LW_slim (fun st => st.env 0 = .ptr 1000 0 ∧ st.val 0 = vs[0]? ∧ st.box 1000 = some [strL b,intL s13.pos,boolL s13.bad] ∧ st.env 2 = .ptr 2 0 ∧ st.box 2 = some [strL [],intL 0,intL 0,intL 0,intL 0,intL 0,intL 0,.sl 0 [] .nil,.sl 0 [] .nil,intL 0,.sl 0 [] .nil,strL [],intL 0,intL 0,intL 0] ∧ st.env 3 = .ptr 3 0 ∧ st.box 3 = some [strL p,intL l,intL 0,intL 0,intL 0,intL 0,intL 0,.sl 0 [] .nil,.sl 0 [] .nil,intL 0,.sl 0 [] .nil,strL [],intL 0,intL 0,intL 0] ∧ st.env 4 = .ptr 4 0 ∧ st.box 4 = some [intL (2 : Nat),intL mo,intL u,intL g,intL t,.sl ats.length (ats.flatMap attrL) (.row 1001),.sl acs.length (acs.flatMap aceL) (.row 1002),intL sz,.sl 0 [] (.row 1003),strL [],intL 0,intL 0] ∧ st.row 1001 = some (86,ats.length) ∧ st.row 1002 = some (88,acs.length) ∧ st.row 1003 = some (90,0) ∧ (st.mode = fun _ => false) ∧ st.env 9 = intL np ∧ st.env 10 = intL 0) ⟨(Yq1 @e0),(Yq1 @v0),Yq0,(Yq1 @e2),(Yq1 @b2),(Yq1 @e3),(Yq1 @b3),(Yq1 @e4),Yq0,(Yq1 @r1001),(Yq1 @r1002),(Yq1 @r1003),(Yq1 @hmd),Yq0,Yq0⟩ ?_
   clear e0 v0 b1000 e2 b2 e3 b3 e4 b4 r1001 r1002 r1003 hmd e105 st
   rintro st ⟨e0,v0,b1000,e2,b2,e3,b3,e4,b4,r1001,r1002,r1003,hmd,e9,e10⟩
   (repeat refine LW_seq ?_)
   refine LW_block ?_
   refine LW_joinB (fun st => st.env 0 = .ptr 1000 0 ∧ st.val 0 = vs[0]? ∧ st.box 1000 = some [strL b,intL s14.pos,boolL s14.bad] ∧ st.env 2 = .ptr 2 0 ∧ st.box 2 = some [strL [],intL 0,intL 0,intL 0,intL 0,intL 0,intL 0,.sl 0 [] .nil,.sl 0 [] .nil,intL 0,.sl 0 [] .nil,strL [],intL 0,intL 0,intL 0] ∧ st.env 3 = .ptr 3 0 ∧ st.box 3 = some [strL p,intL l,intL 0,intL 0,intL 0,intL 0,intL 0,.sl 0 [] .nil,.sl 0 [] .nil,intL 0,.sl 0 [] .nil,strL [],intL 0,intL 0,intL 0] ∧ st.env 4 = .ptr 4 0 ∧ st.box 4 = some [intL (2 : Nat),intL mo,intL u,intL g,intL t,.sl ats.length (ats.flatMap attrL) (.row 1001),.sl acs.length (acs.flatMap aceL) (.row 1002),intL sz,.sl ps.length (ps.flatMap pieceL) (.row 1003),strL [],intL 0,intL 0] ∧ st.row 1001 = some (86,ats.length) ∧ st.row 1002 = some (88,acs.length) ∧ st.row 1003 = some (90,ps.length) ∧ (st.mode = fun _ => false) ∧ st.env 9 = intL np) ?_ ?_
   ·refine LW_loop (fun n st => ∃ (i : Nat) (s' : Rd) (acc : List Piece),n + i = np ∧ s'.pos ≤ b.length ∧ acc.length ≤ i ∧ acc ++ (qRep (qPc b) (np - i) s').1 = ps ∧ (qRep (qPc b) (np - i) s').2 = s14 ∧ st.env 0 = .ptr 1000 0 ∧ st.val 0 = vs[0]? ∧ st.box 1000 = some [strL b,intL s'.pos,boolL s'.bad] ∧ st.env 2 = .ptr 2 0 ∧ st.box 2 = some [strL [],intL 0,intL 0,intL 0,intL 0,intL 0,intL 0,.sl 0 [] .nil,.sl 0 [] .nil,intL 0,.sl 0 [] .nil,strL [],intL 0,intL 0,intL 0] ∧ st.env 3 = .ptr 3 0 ∧ st.box 3 = some [strL p,intL l,intL 0,intL 0,intL 0,intL 0,intL 0,.sl 0 [] .nil,.sl 0 [] .nil,intL 0,.sl 0 [] .nil,strL [],intL 0,intL 0,intL 0] ∧ st.env 4 = .ptr 4 0 ∧ st.box 4 = some [intL (2 : Nat),intL mo,intL u,intL g,intL t,.sl ats.length (ats.flatMap attrL) (.row 1001),.sl acs.length (acs.flatMap aceL) (.row 1002),intL sz,.sl acc.length (acc.flatMap pieceL) (.row 1003),strL [],intL 0,intL 0] ∧ st.row 1001 = some (86,ats.length) ∧ st.row 1002 = some (88,acs.length) ∧ st.row 1003 = some (90,acc.length) ∧ (st.mode = fun _ => false) ∧ st.env 9 = intL np ∧ st.env 10 = intL i) np ⟨0,s13,[],by omega,p13,by simp,by rw [Nat.sub_zero,hP];rfl,by rw [Nat.sub_zero,hP],(Yq1 @e0),(Yq1 @v0),(Yq1 @b1000),(Yq1 @e2),(Yq1 @b2),(Yq1 @e3),(Yq1 @b3),(Yq1 @e4),(Yq1 @b4),(Yq1 @r1001),(Yq1 @r1002),(Yq1 @r1003),(Yq1 @hmd),(Yq1 @e9),(Yq1 @e10)⟩ ?_
    clear e0 v0 b1000 e2 b2 e3 b3 e4 b4 r1001 r1002 r1003 hmd e9 e10 st
    rintro n st ⟨i,s',acc,hn,ps',hacc,hr1,hr2,e0,v0,b1000,e2,b2,e3,b3,e4,b4,r1001,r1002,r1003,hmd,e9,e10⟩
    by_cases hst : ¬ i < np ∨ s'.bad = true
    ·have hq : qRep (qPc b) (np - i) s' = ([],s') := by
      rcases hst with h | h
      ·rw [show np - i = 0 by omega];rfl
      ·exact qRep_bad _ h
     rw [hq] at hr1 hr2
     have hr1 : acc = ps := by simpa using hr1
     have hr2 : s' = s14 := hr2
     by_cases hi0 : i < np
     rotate_left
     ·have hii : ¬ ((i : Int) < (np : Int)) := by omega
      refine Yg1 (fa5 @e0 @b1000 @e9 @e10 @hii) ?_
      refine Yf0 ?_
      refine LW_exit ?_;simp only [thenL,jumpsL,inBlockL,twoL,reduceIte,Nat.reduceEqDiff]
      rw [← hr1,← hr2]
      exact ⟨(Yq1 @e0),(Yq1 @v0),(Yq1 @b1000),(Yq1 @e2),(Yq1 @b2),(Yq1 @e3),(Yq1 @b3),(Yq1 @e4),(Yq1 @b4),(Yq1 @r1001),(Yq1 @r1002),(Yq1 @r1003),(Yq1 @hmd),(Yq1 @e9)⟩
     ·have hii : ((i : Int) < (np : Int)) = True := eq_true (by omega)
      have hbd : s'.bad = true := hst.resolve_left (fun c => c hi0)
      have b1000' := b1000
      rw [hbd] at b1000'
      refine Yg1 (fa5 @e0 @b1000' @e9 @e10 @hii) ?_
      refine Yf0 ?_
      refine LW_exit ?_;simp only [thenL,jumpsL,inBlockL,twoL,reduceIte,Nat.reduceEqDiff]
      rw [← hr1,← hr2]
      exact ⟨(Yq1 @e0),(Yq1 @v0),(Yq1 @b1000),(Yq1 @e2),(Yq1 @b2),(Yq1 @e3),(Yq1 @b3),(Yq1 @e4),(Yq1 @b4),(Yq1 @r1001),(Yq1 @r1002),(Yq1 @r1003),(Yq1 @hmd),(Yq1 @e9)⟩
    have hi0 : i < np := Classical.byContradiction fun c => hst (.inl c)
    have hbd : s'.bad = false := by
     cases h : s'.bad
     ·rfl
     ·exact absurd (.inr h) hst
    rw [show np - i = (np - (i + 1)) + 1 by omega,qRep_succ _ hbd] at hr1 hr2
    have hii : ((i : Int) < (np : Int)) = True := eq_true (by omega)
    have hw := w64s (n := i) (by omega)
    rw [hbd] at b1000
    have ca := cnum_I b hb s' ps' 1099511627776 (by decide) 1099511627776 rfl
    have pa := (qNum_ok b 1099511627776 (by decide)).pos s' ps'
    have hat : qPc b s' = (⟨(qNum b 1099511627776 s').1,itoB (qNum b 4000 (qNum b 1099511627776 s').2).1⟩,(qNum b 4000 (qNum b 1099511627776 s').2).2) := rfl
    generalize qNum b 1099511627776 s' = qx at *
    obtain ⟨pa',sa⟩ := qx
    simp only at hat ca pa
    have cb := cnum_I b hb sa pa 4000 (by decide) 4000 rfl
    have pb := (qNum_ok b 4000 (by decide)).pos sa pa
    have leb := qNum_le b 4000 sa
    generalize qNum b 4000 sa = qy at *
    obtain ⟨pn,sb⟩ := qy
    simp only at hat cb pb leb
    have cd := decimal_L pn (by omega)
    rw [decQ_ito] at cd
    rw [hat] at hr1 hr2
    simp only at hr1 hr2
    simp only [cL,hbd] at ca cb
    have hfl := pieceL_flen acc
    have hs1 : (acc ++ [(⟨pa',itoB pn⟩ : Piece)]).flatMap pieceL = acc.flatMap pieceL ++ [intL pa',strL (itoB pn)] := by rw [List.flatMap_append];rfl
    have hs2 : (acc ++ [(⟨pa',itoB pn⟩ : Piece)]).length = acc.length + 1 := by simp
    generalize itoB pn = pd at *
    refine Yg1 (fa5 @e0 @b1000 @e9 @e10 @hii) ?_
    refine Yt0 ?_
    refine LW_skip ?_
    simp only [LSj,reduceIte,zze]
    refine LW_seq ?_
    refine LW_block ?_
    (repeat refine LW_seq ?_)
    (repeat (first | refine LW_seq ?_ | (refine LW_skip ?_;simp only [LSj,reduceIte,zze]) | refine LW_block ?_));refine LW_regionO [(126,⟨_,_,_,_,_,[(1000,1000)],[(2000,1000)],_,[1001000],(ca).toS,rfl,rfl,rfl⟩)] ?_;intro K hK;simp only [LZ,zo,zc,reduceCtorEq,reduceIte,zz1,zz2,zz3,zz4,zz5,zz6,zz7,zz8,zz9,zza,zzb,zzc,zzd,zze,zzf,e0,b1000]
    refine hK _ ?_;clear hK K;try refine Wh0 ?_
    (repeat refine LW_seq ?_)
    (repeat (first | refine LW_seq ?_ | (refine LW_skip ?_;simp only [LSj,reduceIte,zze]) | refine LW_block ?_));refine LW_regionO [(129,⟨_,_,_,_,_,[(1000,1000)],[(2000,1000)],_,[1001000],(cb).toS,rfl,rfl,rfl⟩)] ?_;intro K hK;simp only [LZ,zo,zc,reduceCtorEq,reduceIte,zz1,zz2,zz3,zz4,zz5,zz6,zz7,zz8,zz9,zza,zzb,zzc,zzd,zze,zzf,e0]
    refine Yx1 (cd) @e0 ?_
    refine hK _ ?_;clear hK K;try refine Wh0 ?_
    refine LW_slim (fun st => st.env 0 = .ptr 1000 0 ∧ st.val 0 = vs[0]? ∧ st.box 1000 = some [strL b,intL sb.pos,boolL sb.bad] ∧ st.env 2 = .ptr 2 0 ∧ st.box 2 = some [strL [],intL 0,intL 0,intL 0,intL 0,intL 0,intL 0,.sl 0 [] .nil,.sl 0 [] .nil,intL 0,.sl 0 [] .nil,strL [],intL 0,intL 0,intL 0] ∧ st.env 3 = .ptr 3 0 ∧ st.box 3 = some [strL p,intL l,intL 0,intL 0,intL 0,intL 0,intL 0,.sl 0 [] .nil,.sl 0 [] .nil,intL 0,.sl 0 [] .nil,strL [],intL 0,intL 0,intL 0] ∧ st.env 4 = .ptr 4 0 ∧ st.box 4 = some [intL (2 : Nat),intL mo,intL u,intL g,intL t,.sl ats.length (ats.flatMap attrL) (.row 1001),.sl acs.length (acs.flatMap aceL) (.row 1002),intL sz,.sl acc.length (acc.flatMap pieceL) (.row 1003),strL [],intL 0,intL 0] ∧ st.row 1001 = some (86,ats.length) ∧ st.row 1002 = some (88,acs.length) ∧ st.row 1003 = some (90,acc.length) ∧ (st.mode = fun _ => false) ∧ st.env 9 = intL np ∧ st.env 10 = intL i ∧ st.env 11 = .ptr 11 0 ∧ st.box 11 = some [intL pa',strL pd]) ⟨(Yq1 @e0),(Yq1 @v0),Yq0,(Yq1 @e2),(Yq1 @b2),(Yq1 @e3),(Yq1 @b3),(Yq1 @e4),(Yq1 @b4),(Yq1 @r1001),(Yq1 @r1002),(Yq1 @r1003),(Yq1 @hmd),(Yq1 @e9),(Yq1 @e10),Yq0,Yq0⟩ ?_
    clear e0 v0 b1000 e2 b2 e3 b3 e4 b4 r1001 r1002 r1003 hmd e9 e10 st
    rintro st ⟨e0,v0,b1000,e2,b2,e3,b3,e4,b4,r1001,r1002,r1003,hmd,e9,e10,e11,b11⟩
    (repeat refine LW_seq ?_)
    refine Yr1 (fa7 @e4 @b4 @e11 @b11 @r1003 @hmd @hfl) ?_;intro K hK
    refine ⟨by (repeat' apply And.intro) <;> first | omega | (unfold maxLen;omega) | (intro _;omega) | decide,?_⟩
    refine hK _ ?_;clear hK K;try refine Wh0 ?_
    refine Yg1 (fa2 @e10 @hw) ?_
    refine ⟨n - 1,by omega,i + 1,sb,acc ++ [(⟨pa',pd⟩ : Piece)],by omega,pb,by rw [hs2];omega,by rw [List.append_assoc];exact hr1,hr2,(Yq1 @e0),(Yq1 @v0),(Yq1 @b1000),(Yq1 @e2),(Yq1 @b2),(Yq1 @e3),(Yq1 @b3),(Yq1 @e4),by rw [hs1,hs2];exact Yq0,(Yq1 @r1001),(Yq1 @r1002),by rw [hs2];exact Yq0,(Yq1 @hmd),(Yq1 @e9),(Yq1 @hw)⟩
   clear e0 v0 b1000 e2 b2 e3 b3 e4 b4 r1001 r1002 r1003 hmd e9 e10 st
   rintro st ⟨e0,v0,b1000,e2,b2,e3,b3,e4,b4,r1001,r1002,r1003,hmd,e9⟩
   (repeat refine LW_seq ?_)
   by_cases hnp : np = 0
   ·have hni : ¬ ((0 : Int) < (np : Int)) := by omega
    rw [if_pos hnp] at hN
    refine Yg1 (fa2 @e9 @hni) ?_
    refine Yf0 ?_
    refine Yg0 ?_
    exact ⟨_,_,_,hN,(Yq1 @e0),(Yq1 @v0),(Yq1 @b1000),(Yq1 @e2),(Yq1 @b2),(Yq1 @e3),(Yq1 @b3),(Yq1 @e4),(Yq1 @b4),(Yq1 @hmd)⟩
   have hni : ((0 : Int) < (np : Int)) = True := eq_true (by omega)
   rw [if_neg hnp] at hN
   have hN : qNode b s2 = ((⟨2,⟨mo,u,g,t,ats,acs⟩,sz,ps,[],0,0⟩,((qNum b 400000 s14).1 : Int)),(qNum b 400000 s14).2) := hN
   have d3 := cnum_I b hb s14 p14 400000 (by decide) 400000 rfl
   generalize qNum b 400000 s14 = q15 at *
   obtain ⟨po,s15⟩ := q15
   simp only [cL] at hN d3
   refine Yg1 (fa2 @e9 @hni) ?_
   refine Yt0 ?_
   (repeat refine LW_seq ?_)
   (repeat (first | refine LW_seq ?_ | (refine LW_skip ?_;simp only [LSj,reduceIte,zze]) | refine LW_block ?_));refine LW_regionO [(141,⟨_,_,_,_,_,[(1000,1000)],[(2000,1000)],_,[1001000],(d3).toS,rfl,rfl,rfl⟩)] ?_;intro K hK;simp only [LZ,zo,zc,reduceCtorEq,reduceIte,zz1,zz2,zz3,zz4,zz5,zz6,zz7,zz8,zz9,zza,zzb,zzc,zzd,zze,zzf,e0,b1000,e3,b3]
   refine hK _ ?_;clear hK K;try refine Wh0 ?_
   exact ⟨_,_,_,hN,(Yq1 @e0),(Yq1 @v0),Yq0,(Yq1 @e2),(Yq1 @b2),(Yq1 @e3),(Yq1 @b3),(Yq1 @e4),(Yq1 @b4),(Yq1 @hmd)⟩
  have k2i : ¬ ((k : Int) = 2) := by omega
  have hB : qNode b s2 = (if k = 3 then bindR (qText b 200) fun t' => pureR ((⟨k,⟨mo,u,g,t,ats,acs⟩,0,[],t',0,0⟩,0) : FNode × Int) else if k = 4 ∨ k = 5 then bindR (qInt b 65535) fun a => bindR (qInt b 65535) fun c => pureR (⟨k,⟨mo,u,g,t,ats,acs⟩,0,[],[],a,c⟩,0) else pureR (⟨k,⟨mo,u,g,t,ats,acs⟩,0,[],[],0,0⟩,0)) s11 := by
   rw [hN];unfold qBody;rw [if_neg k2]
  by_cases k3 : k = 3
  ·have hi : ((k : Int) = 3) = True := eq_true (by omega)
   rw [if_pos k3] at hB
   have hB : qNode b s2 = ((⟨k,⟨mo,u,g,t,ats,acs⟩,0,[],(qText b 200 s11).1,0,0⟩,0),(qText b 200 s11).2) := hB
   have d1 := ctext_I b hb s11 pC 200 (by decide) 200 rfl
   generalize qText b 200 s11 = q12 at *
   obtain ⟨tg,s12⟩ := q12
   simp only [cL] at hB d1
   refine Yg1 (fa2 @e105 @k2i) ?_
   refine Yf0 ?_
   refine Yg1 (fa2 @e105 @hi) ?_
   refine Yt0 ?_
   (repeat refine LW_seq ?_)
   (repeat (first | refine LW_seq ?_ | (refine LW_skip ?_;simp only [LSj,reduceIte,zze]) | refine LW_block ?_));refine LW_regionO [(146,⟨_,_,_,_,_,[(1000,1000)],[(2000,1000)],_,[1001000],(d1).toS,rfl,rfl,rfl⟩)] ?_;intro K hK;simp only [LZ,zo,zc,reduceCtorEq,reduceIte,zz1,zz2,zz3,zz4,zz5,zz6,zz7,zz8,zz9,zza,zzb,zzc,zzd,zze,zzf,e0,b1000,e4,b4]
   refine hK _ ?_;clear hK K;try refine Wh0 ?_
   exact ⟨_,_,_,hB,(Yq1 @e0),(Yq1 @v0),Yq0,(Yq1 @e2),(Yq1 @b2),(Yq1 @e3),(Yq1 @b3),(Yq1 @e4),(Yq1 @b4),(Yq1 @hmd)⟩
  have k3i : ¬ ((k : Int) = 3) := by omega
  rw [if_neg k3] at hB
  by_cases k45 : k = 4 ∨ k = 5
  rotate_left
  ·have k4i : ¬ ((k : Int) = 4) := by omega
   have k5i : ¬ ((k : Int) = 5) := by omega
   rw [if_neg k45] at hB
   refine Yg1 (fa2 @e105 @k2i) ?_
   refine Yf0 ?_
   refine Yg1 (fa2 @e105 @k3i) ?_
   refine Yf0 ?_
   refine Yg1 (fa2 @e105 @k4i) ?_
   refine Yf0 ?_
   refine Yg1 (fa2 @e105 @k5i) ?_
   refine Yf0 ?_
   refine Yg0 ?_
   exact ⟨_,_,_,hB,(Yq1 @e0),(Yq1 @v0),(Yq1 @b1000),(Yq1 @e2),(Yq1 @b2),(Yq1 @e3),(Yq1 @b3),(Yq1 @e4),(Yq1 @b4),(Yq1 @hmd)⟩
  rw [if_pos k45] at hB
  have hB : qNode b s2 = ((⟨k,⟨mo,u,g,t,ats,acs⟩,0,[],[],((qNum b 65535 s11).1 : Int),((qNum b 65535 (qNum b 65535 s11).2).1 : Int)⟩,0),(qNum b 65535 (qNum b 65535 s11).2).2) := hB
  have d1 := cnum_I b hb s11 pC 65535 (by decide) 65535 rfl
  have p12 := (qNum_ok b 65535 (by decide)).pos s11 pC
  generalize qNum b 65535 s11 = q12 at *
  obtain ⟨ma,s12⟩ := q12
  simp only at hB d1 p12
  have d2 := cnum_I b hb s12 p12 65535 (by decide) 65535 rfl
  generalize qNum b 65535 s12 = q13 at *
  obtain ⟨mi,s13⟩ := q13
  simp only [cL] at hB d1 d2
  refine Yg1 (fa2 @e105 @k2i) ?_
  refine Yf0 ?_
  refine Yg1 (fa2 @e105 @k3i) ?_
  refine Yf0 ?_
  by_cases k4 : k = 4
  ·have hi : ((k : Int) = 4) = True := eq_true (by omega)
   refine Yg1 (fa2 @e105 @hi) ?_
   refine Yt0 ?_
   refine Yg0 ?_
   refine Yt0 ?_
   (repeat refine LW_seq ?_)
   (repeat (first | refine LW_seq ?_ | (refine LW_skip ?_;simp only [LSj,reduceIte,zze]) | refine LW_block ?_));refine LW_regionO [(152,⟨_,_,_,_,_,[(1000,1000)],[(2000,1000)],_,[1001000],(d1).toS,rfl,rfl,rfl⟩),(154,⟨_,_,_,_,_,[(1000,1000)],[(2000,1000)],_,[1001000],(d2).toS,rfl,rfl,rfl⟩)] ?_;intro K hK;simp only [LZ,zo,zc,reduceCtorEq,reduceIte,zz1,zz2,zz3,zz4,zz5,zz6,zz7,zz8,zz9,zza,zzb,zzc,zzd,zze,zzf,e0,b1000,e4,b4]
   refine hK _ ?_;clear hK K;try refine Wh0 ?_
   exact ⟨_,_,_,hB,(Yq1 @e0),(Yq1 @v0),Yq0,(Yq1 @e2),(Yq1 @b2),(Yq1 @e3),(Yq1 @b3),(Yq1 @e4),(Yq1 @b4),(Yq1 @hmd)⟩
  ·have k4i : ¬ ((k : Int) = 4) := by omega
   have hi : ((k : Int) = 5) = True := eq_true (by omega)
   refine Yg1 (fa2 @e105 @k4i) ?_
   refine Yf0 ?_
   refine Yg1 (fa2 @e105 @hi) ?_
   refine Yt0 ?_
   (repeat refine LW_seq ?_)
   (repeat (first | refine LW_seq ?_ | (refine LW_skip ?_;simp only [LSj,reduceIte,zze]) | refine LW_block ?_));refine LW_regionO [(152,⟨_,_,_,_,_,[(1000,1000)],[(2000,1000)],_,[1001000],(d1).toS,rfl,rfl,rfl⟩),(154,⟨_,_,_,_,_,[(1000,1000)],[(2000,1000)],_,[1001000],(d2).toS,rfl,rfl,rfl⟩)] ?_;intro K hK;simp only [LZ,zo,zc,reduceCtorEq,reduceIte,zz1,zz2,zz3,zz4,zz5,zz6,zz7,zz8,zz9,zza,zzb,zzc,zzd,zze,zzf,e0,b1000,e4,b4]
   refine hK _ ?_;clear hK K;try refine Wh0 ?_
   exact ⟨_,_,_,hB,(Yq1 @e0),(Yq1 @v0),Yq0,(Yq1 @e2),(Yq1 @b2),(Yq1 @e3),(Yq1 @b3),(Yq1 @e4),(Yq1 @b4),(Yq1 @hmd)⟩
 clear e0 v0 b1000 e2 b2 e3 b3 e4 b4 r1001 r1002 r1003 hmd e105 st
 rintro st ⟨Nn,pos,sF,hQ,e0,v0,b1000,e2,b2,e3,b3,e4,b4,hmd⟩
 rw [hQ] at hR
 subst hR
 (repeat refine LW_seq ?_)
 refine Yg1 (fa6 @e2 @b2 @e3 @b3 @e4 @b4) ?_
 refine LW_ret ?_;simp only [thenL,jumpsL,inBlockL,twoL,bodyS];refine ⟨[(1000,2000)],rfl,.inr ⟨_,_,_,rfl,rfl,(by first | exact rfl | assumption | (simp only [LZ,zo,zc,reduceCtorEq,reduceIte,zz1,zz2,zz3,zz4,zz5,zz6,zz7,zz8,zz9,zza,zzb,zzc,zzd,zze,zzf,e0,v0,b1000,e2,cL,recL,nodeL,attrsL,acesL,piecesL,rowL] <;> exact rfl)),(by first | exact rfl | assumption | (simp only [LZ,zo,zc,reduceCtorEq,reduceIte,zz1,zz2,zz3,zz4,zz5,zz6,zz7,zz8,zz9,zza,zzb,zzc,zzd,zze,zzf,e0,v0,b1000,e2,cL,recL,nodeL,attrsL,acesL,piecesL,rowL] <;> exact rfl))⟩,?_⟩;simp only [thenL,jumpsL,inBlockL,twoL,bodyQ,LV.lit.injEq,LV.tup.injEq,LV.agg.injEq,LV.sl.injEq,List.cons.injEq,Value.int.injEq,Value.bool.injEq,Value.string.injEq,ByteArray.mk.injEq,exists_eq_left',exists_eq_left,exists_eq_right,LZ,zo,zc,reduceCtorEq,reduceIte,zz1,zz2,zz3,zz4,zz5,zz6,zz7,zz8,zz9,zza,zzb,zzc,zzd,zze,zzf,e0,v0,b1000,e2,cL,recL,nodeL,attrsL,acesL,piecesL,rowL]
end Go.Proofs.YtnmjghcdccfphaaGreatDoor
end
