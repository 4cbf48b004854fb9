import Derived.Test.YteamlijbkldlhaaGreatDoorKTN
import Derived.Test.YteamlijbkldlhaaGreatDoorKTE
import Derived.Test.YteamlijbkldlhaaGreatDoorKTF
import Derived.Test.YteamlijbkldlhaaGreatDoorKR5
import Derived.Test.YteamlijbkldlhaaGreatDoorTFile
import Derived.Test.YteamlijbkldlhaaGreatDoorL26
set_option linter.unusedSimpArgs false
set_option linter.unusedVariables false
namespace Go.Proofs.YteamlijbkldlhaaGreatDoor
open Nat renaming reduceAdd → zz1,reduceMul → zz2,reduceSub → zz3,reduceLT → zz4,reduceLeDiff → zz5,reduceEqDiff → zz6,reduceBEq → zzf
open Int renaming reduceAdd → zz7,reduceSub → zz8,reduceMul → zz9,reduceLT → zza,reduceLE → zzb,reduceEq → zzc,reduceNeg → zzd,reduceToNat → zze
open Op renaming operands → zo
open Call renaming operands → zc
open Go.RowKit Go.Proofs AclSpec MetaSpec NodeSpec PathSpec TreeSpec

def uN (x : Int) : Nat := (IntKind.u64.wrap x).toNat
theorem uN_eq (x : Int) : IntKind.u64.wrap x = (uN x : Int) ∧ uN x < 18446744073709551616 := by
 have h : IntKind.u64.wrap x = x % 18446744073709551616 := by unfold IntKind.wrap;rfl
 unfold uN
 rw [h]
 omega
def uintL (n : Nat) : LV := .lit (.int .u64 (n : Int))
def dirL (p : List UInt8) : List LV := [strL p]
theorem dirL_len (p : List UInt8) : (dirL p).length = 1 := rfl
theorem drop_dir {l : List (List UInt8)} {i : Nat} {a : List UInt8} (h : l[i]? = some a) : (l.flatMap dirL).drop i = strL a :: (l.drop (i + 1)).flatMap dirL := by
 have := drop_flat dirL 1 dirL_len h
 rwa [Nat.mul_one] at this
theorem dirL_flen (l : List (List UInt8)) : (l.flatMap dirL).length = l.length := by rw [len_flat dirL 1 dirL_len l,Nat.mul_one]
theorem intE_flen (l : List Int) : (l.flatMap intE).length = l.length := by rw [len_flat intE 1 intE_len l,Nat.mul_one]
theorem udiv (a b : Nat) (x : Int) (h : x = b) : (a : Int).tdiv x = ((a / b : Nat) : Int) := by
 rw [h,Int.tdiv_eq_ediv_of_nonneg (by omega)];rfl
theorem umod (a b : Nat) (x : Int) (h : x = b) : (a : Int).tmod x = ((a % b : Nat) : Int) := by
 rw [h,Int.tmod_eq_emod_of_nonneg (by omega)];rfl
theorem wu {n : Nat} (h : n < 18446744073709551616) : IntKind.u64.wrap (n : Int) = n := by
 have h2 : IntKind.u64.wrap (n : Int) = (n : Int) % 18446744073709551616 := by unfold IntKind.wrap;rfl
 rw [h2];omega
structure Kept (s : MakeSt) (i : Nat) : Prop where
 inv : MakeInv s
 dirs : s.dirs ≠ []
 el : s.ents.length ≤ i + 1
 nl : s.nodes.length ≤ i + 1
 dl : s.dirs.length ≤ i + 1
 fl : s.files.length ≤ i
theorem kept_step {s : MakeSt} {i : Nat} (h : Kept s i) (u : Nat) : Kept (makeStep fileU s u) (i + 1) := by
 obtain ⟨h1,h2,h3⟩ := step_ok (f := fileU) (fun u p _ => fileU_ok u p) h.inv h.dirs u
 have hel := h.el
 have hnl := h.nl
 have hdl := h.dl
 have hfl := h.fl
 refine ⟨h1,h2,by omega,?_,?_,?_⟩ <;> (unfold makeStep;simp only;repeat' split) <;> (try simp only [List.length_append,List.length_singleton]) <;> omega
theorem Kept.mono {s : MakeSt} {i j : Nat} (h : Kept s i) (hij : i ≤ j) : Kept s j := ⟨h.inv,h.dirs,by have := h.el;omega,by have := h.nl;omega,by have := h.dl;omega,by have := h.fl;omega⟩
theorem seven_drop : ∀ k : Fin 7,List.drop k.1 [strL [97],strL [98],strL [99],strL [97,45],strL [97,98],strL [122],strL [113,46,114]] = strL (seven k.1) :: List.drop (k.1 + 1) [strL [97],strL [98],strL [99],strL [97,45],strL [97,98],strL [122],strL [113,46,114]]
 | 0 => rfl
 | 1 => rfl
 | 2 => rfl
 | 3 => rfl
 | 4 => rfl
 | 5 => rfl
 | 6 => rfl
theorem kept_start : Kept makeStart 0 := ⟨start_ok,by simp [makeStart],by simp [makeStart],by simp [makeStart],by simp [makeStart],by simp [makeStart]⟩
theorem le_bytesP : ∀ {l : List Piece} {p : Piece},p ∈ l → p.dat.length ≤ bytesP l
 | x :: r,p,h => by
  unfold bytesP
  rw [List.map_cons,List.sum_cons]
  rcases List.mem_cons.1 h with rfl | h
  ·omega
  ·have := le_bytesP h
   unfold bytesP at this;omega
theorem mayN_small {n : FNode} (h : mayN n = true) : small n ∧ n.target.length ≤ 200 := by
 unfold mayN at h
 simp only [Bool.and_eq_true] at h
 obtain ⟨⟨⟨⟨⟨⟨h1,h2⟩,h3⟩,h4⟩,h5⟩,h6⟩,h7⟩ := h
 have hm : n.mt.attrs.length ≤ 8 ∧ n.mt.acl.length ≤ 16 := by
  unfold mayM mayA at h3
  simp only [Bool.and_eq_true,decide_eq_true_eq] at h3
  exact ⟨h3.1.1.2,h3.2.1.1⟩
 by_cases hk : n.kind = 2
 ·rw [if_pos hk] at h7
  unfold mayFileN at h7
  simp only [Bool.and_eq_true,Bool.not_eq_true',decide_eq_true_eq,decide_eq_false_iff_not] at h7
  obtain ⟨⟨⟨⟨⟨a1,a2⟩,a3⟩,a4⟩,a5⟩,a6⟩ := h7
  have ht : n.target = [] := by
   rw [hk] at h5;simpa using h5
  refine ⟨⟨by omega,by omega,by omega,fun p hp => ?_⟩,by rw [ht];simp⟩
  have := le_bytesP hp
  unfold bytesN at a5;omega
 ·have hd : n.dat = [] := by
   simp [hk] at h4;exact h4.2
  refine ⟨⟨by omega,by omega,by rw [hd];simp,fun p hp => by rw [hd] at hp;cases hp⟩,?_⟩
  by_cases h3k : n.kind = 3
  ·rw [if_neg hk,if_pos h3k] at h7
   simp only [Bool.and_eq_true,decide_eq_true_eq] at h7
   exact h7.1.2
  ·have : n.target = [] := by simpa [h3k] using h5
   rw [this];simp
theorem may_len {p : List UInt8} (h : mayB p = true) : p.length ≤ 100 := by
 unfold mayB at h
 cases p with
 | nil => simp
 | cons a r => simp only [List.isEmpty_cons,Bool.false_or,Bool.and_eq_true,decide_eq_true_eq] at h;exact h.1
theorem joinB_len (a b : List UInt8) : (joinB a b).1.length ≤ 100 := by
 unfold joinB
 split
 ·simp
 simp only
 generalize (if a.isEmpty = true then b else a ++ 47 :: b) = w
 cases hm : mayB w
 ·simp
 ·simp only [Bool.not_true,Bool.false_eq_true,if_false];exact may_len hm
abbrev MkB (l : List Int) (s : MakeSt) (st : LSt) : Prop := st.env 0 = intsL l ∧ st.env 2 = .ptr 2 0 ∧ st.box 2 = some [.sl 0 [] .nil,.sl 0 [] .nil] ∧ st.env 3 = .ptr 3 0 ∧ st.box 3 = some [.sl s.ents.length (s.ents.flatMap tentL) (.row 15),.sl s.nodes.length (s.nodes.flatMap nodeL) (.row 18)] ∧ st.row 15 = some (115,s.ents.length) ∧ st.row 18 = some (28,s.nodes.length) ∧ st.env 4 = .sl s.dirs.length (s.dirs.flatMap dirL) (.row 20) ∧ st.row 20 = some (9,s.dirs.length) ∧ st.env 5 = .sl s.files.length (s.files.flatMap intE) (.row 1000) ∧ st.row 1000 = some (3,s.files.length) ∧ st.mode = fun d => d == 15 || d == 18 || d == 20
theorem nodeL_no {u : Nat} (h : ¬ u % 11 = 0) : nodeL (nodeOf 2 u) = [intL 2,intL ((u / 5 % 4096 : Nat) : Int),intL ((u % 3 : Nat) : Int),intL ((u % 4 : Nat) : Int),intL ((u % 1000000 : Nat) : Int),.sl 0 [] .no,.sl 0 [] .no,intL 0,.sl 0 [] .no,strL [],intL 0,intL 0] := by
 unfold nodeL nodeOf makeM
 simp only [if_neg h]
 rfl
theorem nodeL_yes {u : Nat} (h : u % 11 = 0) : nodeL (nodeOf 2 u) = [intL 2,intL ((u / 5 % 4096 : Nat) : Int),intL ((u % 3 : Nat) : Int),intL ((u % 4 : Nat) : Int),intL ((u % 1000000 : Nat) : Int),.sl 1 [strL userK,strL (118 :: decB (u % 100))] .no,.sl 2 [intL 1,intL 7,intL ((u % 8 : Nat) : Int),intL 3,intL 0,intL 7] .no,intL 0,.sl 0 [] .no,strL [],intL 0,intL 0] := by
 unfold nodeL nodeOf makeM
 simp only [if_pos h]
 rfl
theorem fileM0 (u : Nat) : FileM (makeM u) (nodeOf 2 u) := .of (isFile_of (makeM_may u) ⟨List.Pairwise.nil,fun p hp => by cases hp⟩ (by decide) (by decide) (by decide) (by decide) (fun p hp => by cases hp))
theorem NodeSpec.FileM.may {mt : FMeta} {n : FNode} (h : FileM mt n) : mayN n = true := by
 have := h.file
 unfold isFileN at this
 rw [Bool.and_eq_true] at this;exact this.2
abbrev MkC (l : List Int) (s : MakeSt) (i u k9 : Nat) (p : List UInt8) (st : LSt) : Prop := MkB l s st ∧ st.env 6 = intL i ∧ st.env 7 = uintL u ∧ st.env 8 = strL p ∧ st.env 12 = .ptr 12 0 ∧ st.box 12 = some (nodeL (nodeOf 2 u)) ∧ st.env 13 = uintL k9
abbrev MkN (n : FNode) (st : LSt) : Prop := st.env 12 = .ptr 12 0 ∧ st.box 12 = some (nodeL n)
set_option maxRecDepth 100000 in
set_option maxHeartbeats 8000000 in
theorem make_L (l : List Int) : LCalls Tryz.prog 28 [intsL l] (.agg (treeL (makeT fileU (l.map uN)))) := by
 refine LCalls.of (fun d => d == 15 || d == 18 || d == 20) Tryz.func28 rfl (by decide) Tryz.ntmps28 Tryz.results28 (by simp) ?_
 intro w0 S0 vs hgl hwf0 hsz hvs;clear hsz hvs hwf0 hgl
 generalize hR : makeT fileU (l.map uN) = R
 unfold makeT at hR
 refine Yg0 ?_
 refine LW_slim (fun st => st.env 0 = intsL l ∧ st.env 2 = .ptr 2 0 ∧ st.box 2 = some [.sl 0 [] .nil,.sl 0 [] .nil] ∧ st.env 3 = .ptr 3 0 ∧ st.box 3 = some [.bsl 15 1 115,.bsl 18 1 28] ∧ st.arr 15 = some (makeStart.ents.flatMap tentL) ∧ st.arr 18 = some (makeStart.nodes.flatMap nodeL) ∧ st.env 4 = .bsl 20 1 9 ∧ st.arr 20 = some (makeStart.dirs.flatMap dirL) ∧ st.env 5 = .sl 0 [] .nil ∧ st.env 6 = intL 0 ∧ st.mode = fun d => d == 15 || d == 18 || d == 20) ⟨(Yq1 @intsL.eq_1),Yq0,Yq0,Yq0,Yq0,Yq0,Yq0,Yq0,Yq0,Yq0,Yq0,Yq0⟩ ?_
 rintro st ⟨e0,e2,b2,e3,b3,a15,a18,e4,a20,e5,e6,hmd⟩
 refine LW_rowBox (bs := [.bsl 15 1 115,.bsl 18 1 28]) 3 0 15 (by decide) b3 rfl a15 (by kernel_rfl) (by rw [show sizeL Tryz.prog 115 = 2 by kernel_rfl];decide) ?_
 refine LW_rowBox (n := 1) (e := 28) (cs := makeStart.nodes.flatMap nodeL) (bs := [.sl 1 (makeStart.ents.flatMap tentL) (.row 15),.bsl 18 1 28]) 3 1 18 (by decide) (Yq1 @b3) rfl (Yq1 @a18) (by kernel_rfl) (by rw [show sizeL Tryz.prog 28 = 12 by kernel_rfl];decide) ?_
 refine LW_rowVar (n := 1) (e := 9) (cs := makeStart.dirs.flatMap dirL) 4 20 (Yq1 @e4) (Yq1 @a20) (by kernel_rfl) (by rw [show sizeL Tryz.prog 9 = 1 by kernel_rfl];decide) ?_
 refine LW_nil (k := 5) (q := 1000) (e := 3) (Yq1 @e5) ?_
 refine LW_slim (fun st => MkB l makeStart st ∧ st.env 6 = intL 0) ⟨⟨(Yq1 (fa3 @e0 @intsL.eq_1 @rowL.eq_1)),(Yq1 @e2),(Yq1 @b2),(Yq1 @e3),(Yq1 @b3),Yq0,Yq0,Yq0,Yq0,Yq0,Yq0,(Yq1 @hmd)⟩,(Yq1 @e6)⟩ ?_
 clear e0 e2 b2 e3 b3 a15 a18 e4 a20 e5 e6 hmd st
 rintro st ⟨⟨e0,e2,b2,e3,b3,r15,r18,e4,r20,e5,r1000,hmd⟩,e6⟩
 refine LW_joinB (fun st => ∃ s : MakeSt,s = ((l.map uN).take 25).foldl (makeStep fileU) makeStart ∧ Kept s 25 ∧ st.env 2 = .ptr 2 0 ∧ st.box 2 = some [.sl 0 [] .nil,.sl 0 [] .nil] ∧ st.env 3 = .ptr 3 0 ∧ st.box 3 = some [.sl s.ents.length (s.ents.flatMap tentL) (.row 15),.sl s.nodes.length (s.nodes.flatMap nodeL) (.row 18)] ∧ st.mode = fun d => d == 15 || d == 18 || d == 20) ?_ ?_
 ·refine LW_loop (fun n st => ∃ (i : Nat) (s : MakeSt),n + i = 26 ∧ i ≤ 25 ∧ i ≤ l.length ∧ s = ((l.map uN).take i).foldl (makeStep fileU) makeStart ∧ Kept s i ∧ MkB l s st ∧ st.env 6 = intL i) 26 ⟨0,makeStart,by omega,by omega,by omega,rfl,kept_start,⟨(Yq1 (fa3 @e0 @intsL.eq_1 @rowL.eq_1)),(Yq1 @e2),(Yq1 @b2),(Yq1 @e3),(Yq1 @b3),(Yq1 @r15),(Yq1 @r18),(Yq1 @e4),(Yq1 @r20),(Yq1 @e5),(Yq1 @r1000),(Yq1 @hmd)⟩,(Yq1 @e6)⟩ ?_
  clear e0 e2 b2 e3 b3 r15 r18 e4 r20 e5 r1000 hmd e6 st
  rintro n st ⟨i,s,hn,hi25,hil,hs,hk,⟨e0,e2,b2,e3,b3,r15,r18,e4,r20,e5,r1000,hmd⟩,e6⟩
  simp only [intsL,rowL] at e0
  by_cases hgo : i < l.length ∧ i < 25
  rotate_left
  ·have hall : ((l.map uN).take i) = ((l.map uN).take 25) := by
    by_cases h25 : i = 25
    ·rw [h25]
    ·rw [List.take_of_length_le (by simp;omega),List.take_of_length_le (by simp;omega)]
   by_cases hlt : i < l.length
   ·have hlt2 : ((i : Int) < l.length) = True := eq_true (by omega)
    have h25 : ¬ ((i : Int) < 25) := by omega
    refine Yg1 (fa5 @e0 @e6 @hlt @hlt2 @h25) ?_
    refine Yf0 ?_
    refine LW_exit ?_;simp only [thenL,jumpsL,inBlockL,twoL,reduceIte,Nat.reduceEqDiff]
    exact ⟨s,by rw [← hall];exact hs,hk.mono hi25,(Yq1 @e2),(Yq1 @b2),(Yq1 @e3),(Yq1 @b3),(Yq1 @hmd)⟩
   ·refine Yg1 (fa3 @e0 @e6 @hlt) ?_
    refine Yf0 ?_
    refine LW_exit ?_;simp only [thenL,jumpsL,inBlockL,twoL,reduceIte,Nat.reduceEqDiff]
    exact ⟨s,by rw [← hall];exact hs,hk.mono hi25,(Yq1 @e2),(Yq1 @b2),(Yq1 @e3),(Yq1 @b3),(Yq1 @hmd)⟩
  obtain ⟨hlt,h25⟩ := hgo
  have h25i : (i : Int) < 25 := by omega
  obtain ⟨x,hx⟩ := get_of_lt hlt
  have hd := drop_int hx
  obtain ⟨hu,hu64⟩ := uN_eq x
  have hw := w64s (n := i) (by omega)
  have hip : (0 : Int) ≤ (i : Int) := by omega
  have hnext : makeStep fileU s (uN x) = ((l.map uN).take (i + 1)).foldl (makeStep fileU) makeStart := by
   have : (l.map uN)[i]? = some (uN x) := by rw [List.getElem?_map,hx];rfl
   obtain ⟨hi,he⟩ := List.getElem?_eq_some_iff.1 this
   rw [List.take_succ_eq_append_getElem hi,List.foldl_append,he,← hs];rfl
  have hk' := kept_step hk (uN x)
  generalize uN x = u at *
  refine Yg1 (fa4 @e0 @e6 @hlt @h25i) ?_
  refine Yt0 ?_
  refine LW_skip ?_
  simp only [LSj,reduceIte,zze]
  refine LW_seq ?_
  refine LW_block ?_
  refine LW_joinB (fun st => MkB l (makeStep fileU s u) st ∧ st.env 6 = intL i) ?_ ?_
  rotate_left
  ·clear e0 e2 b2 e3 b3 r15 r18 e4 r20 e5 r1000 hmd e6 st
   rintro st ⟨⟨e0,e2,b2,e3,b3,r15,r18,e4,r20,e5,r1000,hmd⟩,e6⟩
   refine Yg1 (fa2 @e6 @hw) ?_
   exact ⟨n - 1,by omega,i + 1,_,by omega,by omega,by omega,hnext,hk',⟨(Yq1 (fa3 @e0 @intsL.eq_1 @rowL.eq_1)),(Yq1 @e2),(Yq1 @b2),(Yq1 @e3),(Yq1 @b3),(Yq1 @r15),(Yq1 @r18),(Yq1 @e4),(Yq1 @r20),(Yq1 @e5),(Yq1 @r1000),(Yq1 @hmd)⟩,Yq0⟩
  refine Yg1 (fa6 @e0 @e6 @hlt @hip @hd @hu) ?_
  refine LW_slim (fun st => MkB l s st ∧ st.env 6 = intL i ∧ st.env 7 = uintL u) ⟨⟨(Yq1 (fa3 @e0 @intsL.eq_1 @rowL.eq_1)),(Yq1 @e2),(Yq1 @b2),(Yq1 @e3),(Yq1 @b3),(Yq1 @r15),(Yq1 @r18),(Yq1 @e4),(Yq1 @r20),(Yq1 @e5),(Yq1 @r1000),(Yq1 @hmd)⟩,(Yq1 @e6),(Yq1 @uintL.eq_1)⟩ ?_
  clear e0 e2 b2 e3 b3 r15 r18 e4 r20 e5 r1000 hmd e6 st
  rintro st ⟨⟨e0,e2,b2,e3,b3,r15,r18,e4,r20,e5,r1000,hmd⟩,e6,e7⟩
  simp only [uintL] at e7
  have hdl := hk.dl
  have hd0 : 0 < s.dirs.length := List.length_pos_iff.2 hk.dirs
  have hdn : ¬ ((s.dirs.length : Int) = 0) := by omega
  have hum : u % s.dirs.length < s.dirs.length := Nat.mod_lt _ hd0
  obtain ⟨d,hdd⟩ := get_of_lt hum
  have hddr := drop_dir hdd
  have hdg : s.dirs[u % s.dirs.length]?.getD [] = d := by rw [hdd];rfl
  have f1 := wu (n := s.dirs.length) (by omega)
  have f2 := umod u s.dirs.length _ rfl
  have f3 := udiv u 7 7 rfl
  have f4 := wu (n := u / 7) (by omega)
  have f5 := umod (u / 7) 7 7 rfl
  have hk7 : u / 7 % 7 < 7 := Nat.mod_lt _ (by decide)
  have h7 := seven_drop ⟨u / 7 % 7,hk7⟩
  have hump : (0 : Int) ≤ ((u % s.dirs.length : Nat) : Int) := by omega
  have hk7p : (0 : Int) ≤ ((u / 7 % 7 : Nat) : Int) := by omega
  have hdlen : d.length ≤ 100 := by
   obtain ⟨e,he,hep,_⟩ := hk.inv.dirs d (List.mem_of_getElem? hdd)
   rw [← hep];exact may_len (hk.inv.may e he)
  have hslen : ∀ k : Fin 7,(seven k.1).length ≤ 3 := by decide
  have hslen : (seven (u / 7 % 7)).length ≤ 3 := hslen ⟨u / 7 % 7,hk7⟩
  simp only [strL] at h7
  have hk7i : ((u / 7 % 7 : Nat) : Int) < 7 := by omega
  have cj := (rjoin_L d (seven (u / 7 % 7)) (by omega) (by omega)).toO
  have hS : makeStep fileU s u = makeStep fileU s u := rfl
  conv at hS => rhs;unfold makeStep
  simp only [hdg] at hS
  have hjm := joinB_len d (seven (u / 7 % 7))
  generalize joinB d (seven (u / 7 % 7)) = j at *
  (repeat refine LW_seq ?_)
  refine LW_join (fun st => MkB l s st ∧ st.env 6 = intL i ∧ st.env 7 = uintL u ∧ st.env 8 = strL j.1 ∧ st.env 9 = intL j.2) ?_ ?_
  ·(repeat (first | refine LW_seq ?_ | (refine LW_skip ?_;simp only [LSj,reduceIte,zze]) | refine LW_block ?_));refine LW_mix2 [(51,⟨_,_,_,_,_,[],[],_,[],(cj).toS,rfl,rfl,rfl⟩)] [51] (fun d => d == 15 || d == 18 || d == 20) [(0,[20]),(1,[20]),(2,[20]),(3,[20]),(4,[20]),(5,[20]),(6,[20]),(7,[20]),(9,[20]),(10,[20]),(11,[20]),(8,[20]),(14,[20])] [0,1,2,3,4,5,6,7,9,10,11] [[8,12,13,14,15,16,17,18,19],[8,12,13,14,15,16,18,17,19],[8,12,13,14,15,17,16,18,19]] rfl (by kernel_rfl) (by kernel_rfl) (by kernel_rfl) (by first | exact rfl | exact hmd | simp only [LZ,zo,zc,reduceCtorEq,reduceIte,zz1,zz2,zz3,zz4,zz5,zz6,zz7,zz8,zz9,zza,zzb,zzc,zzd,zze,zzf,e4,e7,r20,hmd,hdn,hum,hddr,f1,f2,f3,f4,f5,hk7,hk7i,h7,hump,hk7p]) ?_;intro K hK;simp only [LZ,zo,zc,reduceCtorEq,reduceIte,zz1,zz2,zz3,zz4,zz5,zz6,zz7,zz8,zz9,zza,zzb,zzc,zzd,zze,zzf,e4,e7,r20,hmd,hdn,hum,hddr,f1,f2,f3,f4,f5,hk7,hk7i,h7,hump,hk7p]
   refine ⟨by first | rfl | kernel_rfl,?_⟩
   refine ⟨?_,?_,?_⟩ <;> (refine hK _ ?_;clear hK K;try refine Wh0 ?_) <;> exact ⟨⟨(Yq1 (fa3 @e0 @intsL.eq_1 @rowL.eq_1)),(Yq1 @e2),(Yq1 @b2),(Yq1 @e3),(Yq1 @b3),(Yq1 @r15),(Yq1 @r18),(Yq1 @e4),(Yq1 @r20),(Yq1 @e5),(Yq1 @r1000),(Yq1 @hmd)⟩,(Yq1 @e6),(Yq1 (fa2 @e7 @uintL.eq_1)),Yq0,Yq0⟩
  clear e0 e2 b2 e3 b3 r15 r18 e4 r20 e5 r1000 hmd e6 e7 st
  rintro st ⟨⟨e0,e2,b2,e3,b3,r15,r18,e4,r20,e5,r1000,hmd⟩,e6,e7,e8,e9⟩
  simp only [uintL] at e7
  clear hddr h7 cj f1 f2 f3 f4 f5 hdn hump hk7p hk7i hdd hum
  have hsm : SmallT ⟨s.ents,s.nodes⟩ := ⟨by have := hk.el;show s.ents.length ≤ _;omega,by have := hk.nl;show s.nodes.length ≤ _;omega,fun e he => by have := may_len (hk.inv.may e he);omega,fun n hn => by
   obtain ⟨a1,a2⟩ := mayN_small (hk.inv.nodes n hn)
   exact ⟨a1,by unfold maxLen;omega⟩⟩
  have cf := rfind_L ⟨s.ents,s.nodes⟩ hsm j.1
  simp only [treeL] at cf
  refine Yr1 (fa3 @e3 @b3 @e8) ?_;intro K hK
  refine Yc1 (cf) (fa3 @e3 @b3 @e8) ?_
  refine hK _ ?_;clear hK K;try refine Wh0 ?_
  refine LW_slim (fun st => MkB l s st ∧ st.env 6 = intL i ∧ st.env 7 = uintL u ∧ st.env 8 = strL j.1 ∧ st.env 9 = intL j.2 ∧ st.env 11 = boolL (findT s.ents j.1).2) ⟨⟨(Yq1 (fa3 @e0 @intsL.eq_1 @rowL.eq_1)),(Yq1 @e2),(Yq1 @b2),(Yq1 @e3),(Yq1 @b3),(Yq1 @r15),(Yq1 @r18),(Yq1 @e4),(Yq1 @r20),(Yq1 @e5),(Yq1 @r1000),(Yq1 @hmd)⟩,(Yq1 @e6),(Yq1 (fa2 @e7 @uintL.eq_1)),(Yq1 @e8),(Yq1 @e9),Yq0⟩ ?_
  clear e0 e2 b2 e3 b3 r15 r18 e4 r20 e5 r1000 hmd e6 e7 e8 e9 st
  rintro st ⟨⟨e0,e2,b2,e3,b3,r15,r18,e4,r20,e5,r1000,hmd⟩,e6,e7,e8,e9,e11⟩
  simp only [uintL] at e7
  cases hf : (findT s.ents j.1).2
  rotate_left
  ·rw [hf] at e11
   refine Yg1 @e11 ?_
   refine Yt0 ?_
   refine LW_exit ?_;simp only [thenL,jumpsL,inBlockL,twoL,reduceIte,Nat.reduceEqDiff]
   rw [hS,if_pos (.inl hf)]
   exact ⟨⟨(Yq1 (fa3 @e0 @intsL.eq_1 @rowL.eq_1)),(Yq1 @e2),(Yq1 @b2),(Yq1 @e3),(Yq1 @b3),(Yq1 @r15),(Yq1 @r18),(Yq1 @e4),(Yq1 @r20),(Yq1 @e5),(Yq1 @r1000),(Yq1 @hmd)⟩,(Yq1 @e6)⟩
  rw [hf] at e11
  by_cases hj2 : j.2 = 0
  rotate_left
  ·refine Yg1 (fa3 @e11 @e9 @hj2) ?_
   refine Yt0 ?_
   refine LW_exit ?_;simp only [thenL,jumpsL,inBlockL,twoL,reduceIte,Nat.reduceEqDiff]
   rw [hS,if_pos (.inr hj2)]
   exact ⟨⟨(Yq1 (fa3 @e0 @intsL.eq_1 @rowL.eq_1)),(Yq1 @e2),(Yq1 @b2),(Yq1 @e3),(Yq1 @b3),(Yq1 @r15),(Yq1 @r18),(Yq1 @e4),(Yq1 @r20),(Yq1 @e5),(Yq1 @r1000),(Yq1 @hmd)⟩,(Yq1 @e6)⟩
  rw [if_neg (fun c => c.elim (fun c => absurd (hf.symm.trans c) Bool.false_ne_true) (fun c => c hj2))] at hS
  rw [hj2] at e9
  refine Yg1 (fa2 @e11 @e9) ?_
  refine Yf0 ?_
  clear hf e11 e9 hj2
  have d5 := udiv u 5 5 rfl
  have w5 := wu (n := u / 5) (by omega)
  have m5 := umod (u / 5) 4096 4096 rfl
  have m3 := umod u 3 3 rfl
  have m4 := umod u 4 4 rfl
  have mM := umod u 1000000 1000000 rfl
  have i5 : IntKind.i64.wrap ((u / 5 % 4096 : Nat) : Int) = ((u / 5 % 4096 : Nat) : Int) := w64 (by omega)
  have i3 : IntKind.i64.wrap ((u % 3 : Nat) : Int) = ((u % 3 : Nat) : Int) := w64 (by omega)
  have i4 : IntKind.i64.wrap ((u % 4 : Nat) : Int) = ((u % 4 : Nat) : Int) := w64 (by omega)
  have iM : IntKind.i64.wrap ((u % 1000000 : Nat) : Int) = ((u % 1000000 : Nat) : Int) := w64 (by omega)
  refine Yg1 (fa11 @e7 @d5 @w5 @m5 @m3 @m4 @mM @i5 @i3 @i4 @iM) ?_
  refine LW_slim (fun st => MkB l s st ∧ st.env 6 = intL i ∧ st.env 7 = uintL u ∧ st.env 8 = strL j.1 ∧ st.env 12 = .ptr 12 0 ∧ st.box 12 = some [intL 2,intL ((u / 5 % 4096 : Nat) : Int),intL ((u % 3 : Nat) : Int),intL ((u % 4 : Nat) : Int),intL ((u % 1000000 : Nat) : Int),.sl 0 [] .nil,.sl 0 [] .nil,intL 0,.sl 0 [] .nil,strL [],intL 0,intL 0] ∧ st.env 82 = boolL (decide (((u : Int).tmod 11) = 0))) ⟨⟨(Yq1 (fa3 @e0 @intsL.eq_1 @rowL.eq_1)),(Yq1 @e2),(Yq1 @b2),(Yq1 @e3),(Yq1 @b3),(Yq1 @r15),(Yq1 @r18),(Yq1 @e4),(Yq1 @r20),(Yq1 @e5),(Yq1 @r1000),(Yq1 @hmd)⟩,(Yq1 @e6),(Yq1 (fa2 @e7 @uintL.eq_1)),(Yq1 @e8),Yq0,Yq0,(Yq1 @e7)⟩ ?_
  clear e0 e2 b2 e3 b3 r15 r18 e4 r20 e5 r1000 hmd e6 e7 e8 st d5 w5 m5 m3 m4 mM i5 i3 i4 iM
  rintro st ⟨⟨e0,e2,b2,e3,b3,r15,r18,e4,r20,e5,r1000,hmd⟩,e6,e7,e8,e12,b12,e82⟩
  refine LW_plainBox 12 b12 ?_
  refine LW_slim (fun st => MkB l s st ∧ st.env 6 = intL i ∧ st.env 7 = uintL u ∧ st.env 8 = strL j.1 ∧ st.env 12 = .ptr 12 0 ∧ st.box 12 = some [intL 2,intL ((u / 5 % 4096 : Nat) : Int),intL ((u % 3 : Nat) : Int),intL ((u % 4 : Nat) : Int),intL ((u % 1000000 : Nat) : Int),.sl 0 [] .no,.sl 0 [] .no,intL 0,.sl 0 [] .no,strL [],intL 0,intL 0] ∧ st.env 82 = boolL (decide (((u : Int).tmod 11) = 0))) ⟨⟨(Yq1 (fa3 @e0 @intsL.eq_1 @rowL.eq_1)),(Yq1 @e2),(Yq1 @b2),(Yq1 @e3),(Yq1 @b3),(Yq1 @r15),(Yq1 @r18),(Yq1 @e4),(Yq1 @r20),(Yq1 @e5),(Yq1 @r1000),(Yq1 @hmd)⟩,(Yq1 @e6),(Yq1 @e7),(Yq1 @e8),(Yq1 @e12),rfl,(Yq1 @e82)⟩ ?_
  clear e0 e2 b2 e3 b3 r15 r18 e4 r20 e5 r1000 hmd e6 e7 e8 e12 b12 e82 st
  rintro st ⟨⟨e0,e2,b2,e3,b3,r15,r18,e4,r20,e5,r1000,hmd⟩,e6,e7,e8,e12,b12,e82⟩
  simp only [uintL] at e7
  have m11 := umod u 11 11 rfl
  refine LW_join (fun st => MkB l s st ∧ st.env 6 = intL i ∧ st.env 7 = uintL u ∧ st.env 8 = strL j.1 ∧ st.env 12 = .ptr 12 0 ∧ st.box 12 = some (nodeL (nodeOf 2 u))) ?_ ?_
  ·by_cases h11 : u % 11 = 0
   rotate_left
   ·have h11i : ¬ (((u % 11 : Nat) : Int) = 0) := by omega
    refine Yf1 (fa3 @e82 @m11 @h11i) ?_
    exact ⟨⟨(Yq1 (fa3 @e0 @intsL.eq_1 @rowL.eq_1)),(Yq1 @e2),(Yq1 @b2),(Yq1 @e3),(Yq1 @b3),(Yq1 @r15),(Yq1 @r18),(Yq1 @e4),(Yq1 @r20),(Yq1 @e5),(Yq1 @r1000),(Yq1 @hmd)⟩,(Yq1 @e6),(Yq1 (fa2 @e7 @uintL.eq_1)),(Yq1 @e8),(Yq1 @e12),by rw [nodeL_no h11];exact (Yq1 @b12)⟩
   have h11i : (((u % 11 : Nat) : Int) = 0) = True := eq_true (by omega)
   refine Yt1 (fa3 @e82 @m11 @h11i) ?_
   have m100 := umod u 100 100 rfl
   have i100 : IntKind.i64.wrap ((u % 100 : Nat) : Int) = ((u % 100 : Nat) : Int) := w64 (by omega)
   have cd := decimal_L (u % 100) (by omega)
   have hdl := decB_len 1 (u % 100) (by omega)
   have hc1 : 1 + (decB (u % 100)).length ≤ 9223372036854775807 := by omega
   have hc2 : 0 + 1 + (decB (u % 100)).length ≤ 9223372036854775807 := by omega
   refine Yr1 (fa8 @e7 @m100 @i100 @e12 @b12 @hmd @hc1 @hc2) ?_;intro K hK
   refine Yc1 (cd) (fa8 @e7 @m100 @i100 @e12 @b12 @hmd @hc1 @hc2) ?_
   refine hK _ ?_;clear hK K;try refine Wh0 ?_
   have m8 := umod u 8 8 rfl
   have i8 : IntKind.i64.wrap ((u % 8 : Nat) : Int) = ((u % 8 : Nat) : Int) := w64 (by omega)
   refine Yg1 (fa6 @e7 @m8 @i8 @e12 @b12 @hmd) ?_
   exact ⟨⟨(Yq1 (fa3 @e0 @intsL.eq_1 @rowL.eq_1)),(Yq1 @e2),(Yq1 @b2),(Yq1 @e3),(Yq1 @b3),(Yq1 @r15),(Yq1 @r18),(Yq1 @e4),(Yq1 @r20),(Yq1 @e5),(Yq1 @r1000),(Yq1 @hmd)⟩,(Yq1 @e6),(Yq1 (fa2 @e7 @uintL.eq_1)),(Yq1 @e8),(Yq1 @e12),by rw [nodeL_yes h11];exact (Yq1 @b12)⟩
  clear e0 e2 b2 e3 b3 r15 r18 e4 r20 e5 r1000 hmd e6 e7 e8 e12 b12 e82 m11 st
  rintro st ⟨⟨e0,e2,b2,e3,b3,r15,r18,e4,r20,e5,r1000,hmd⟩,e6,e7,e8,e12,b12⟩
  simp only [uintL] at e7
  have d3 := udiv u 3 3 rfl
  have w3 := wu (n := u / 3) (by omega)
  have m9 := umod (u / 3) 9 9 rfl
  have hk9 : u / 3 % 9 < 9 := Nat.mod_lt _ (by decide)
  refine Yg1 (fa4 @e7 @d3 @w3 @m9) ?_
  refine LW_slim (fun st => MkC l s i u (u / 3 % 9) j.1 st ∧ st.env 153 = boolL (decide (((u / 3 % 9 : Nat) : Int) < 2))) ⟨⟨⟨(Yq1 (fa3 @e0 @intsL.eq_1 @rowL.eq_1)),(Yq1 @e2),(Yq1 @b2),(Yq1 @e3),(Yq1 @b3),(Yq1 @r15),(Yq1 @r18),(Yq1 @e4),(Yq1 @r20),(Yq1 @e5),(Yq1 @r1000),(Yq1 @hmd)⟩,(Yq1 @e6),(Yq1 (fa2 @e7 @uintL.eq_1)),(Yq1 @e8),(Yq1 @e12),(Yq1 @b12),(Yq1 (fa5 @e7 @d3 @w3 @m9 @uintL.eq_1))⟩,(Yq1 (fa5 @e7 @d3 @w3 @m9 @uintL.eq_1))⟩ ?_
  clear e0 e2 b2 e3 b3 r15 r18 e4 r20 e5 r1000 hmd e6 e7 e8 e12 b12 st d3 w3 m9
  rintro st ⟨⟨⟨e0,e2,b2,e3,b3,r15,r18,e4,r20,e5,r1000,hmd⟩,e6,e7,e8,e12,b12,e13⟩,e153⟩
  generalize hk0 : u / 3 % 9 = k9 at *
  simp only [uintL] at e7 e13
  simp only [nodeL,nodeOf,attrsL,acesL,piecesL,rowL] at b12
  refine LW_joinB (fun st => ∃ n ds fs,makeStep fileU s u = ⟨s.ents ++ [⟨j.1,s.nodes.length⟩],s.nodes ++ [n],ds,fs⟩ ∧ MkB l ⟨s.ents,s.nodes,ds,fs⟩ st ∧ st.env 6 = intL i ∧ st.env 8 = strL j.1 ∧ MkN n st) ?_ ?_
  ·by_cases c2 : k9 < 2
   ·have c2i : ((k9 : Int) < 2) = True := eq_true (by omega)
    rw [if_pos c2] at hS
    refine Yt1 (fa2 @e153 @c2i) ?_
    have hfd := dirL_flen s.dirs
    refine Yg1 (fa2 @e12 @b12) ?_
    refine Yr1 (fa5 @e4 @e8 @r20 @hmd @hfd) ?_;intro K hK
    refine ⟨by (repeat' apply And.intro) <;> first | omega | (unfold maxLen;omega) | (intro _;omega) | decide,?_⟩
    refine hK _ ?_;clear hK K;try refine Wh0 ?_
    exact ⟨_,_,_,hS,⟨(Yq1 (fa3 @e0 @intsL.eq_1 @rowL.eq_1)),(Yq1 @e2),(Yq1 @b2),(Yq1 @e3),(Yq1 @b3),(Yq1 @r15),(Yq1 @r18),by rw [List.length_append,List.length_singleton,List.flatMap_append];exact Yq0,by rw [List.length_append,List.length_singleton];exact Yq0,(Yq1 @e5),(Yq1 @r1000),(Yq1 @hmd)⟩,(Yq1 @e6),(Yq1 @e8),(Yq1 @e12),(Yq1 (fa6 @b12 @nodeL.eq_1 @nodeOf.eq_1 @attrsL.eq_1 @acesL.eq_1 @piecesL.eq_1))⟩
   rw [if_neg c2] at hS
   have c2i : ¬ ((k9 : Int) < 2) := by omega
   refine Yf1 (fa2 @e153 @c2i) ?_
   (repeat refine LW_seq ?_)
   refine LW_join (fun st => MkC l s i u k9 j.1 st ∧ st.env 161 = boolL (decide (k9 = 2 ∧ s.files ≠ []))) ?_ ?_
   ·by_cases k2 : k9 = 2
    ·have k2i : ((k9 : Int) = 2) = True := eq_true (by omega)
     by_cases hz : s.files = []
     ·have hz0 : ¬ ((0 : Int) < (s.files.length : Int)) := by rw [hz];simp
      refine Yg1 (fa4 @e13 @k2i @e5 @hz0) ?_
      exact ⟨⟨⟨(Yq1 (fa3 @e0 @intsL.eq_1 @rowL.eq_1)),(Yq1 @e2),(Yq1 @b2),(Yq1 @e3),(Yq1 @b3),(Yq1 @r15),(Yq1 @r18),(Yq1 @e4),(Yq1 @r20),(Yq1 @e5),(Yq1 @r1000),(Yq1 @hmd)⟩,(Yq1 @e6),(Yq1 (fa2 @e7 @uintL.eq_1)),(Yq1 @e8),(Yq1 @e12),(Yq1 (fa6 @b12 @nodeL.eq_1 @nodeOf.eq_1 @attrsL.eq_1 @acesL.eq_1 @piecesL.eq_1)),(Yq1 (fa2 @e13 @uintL.eq_1))⟩,by rw [decide_eq_false (fun c => c.2 hz)];exact Yq0⟩
     ·have hz0 : ((0 : Int) < (s.files.length : Int)) = True := eq_true (by have := List.length_pos_iff.2 hz;omega)
      refine Yg1 (fa4 @e13 @k2i @e5 @hz0) ?_
      exact ⟨⟨⟨(Yq1 (fa3 @e0 @intsL.eq_1 @rowL.eq_1)),(Yq1 @e2),(Yq1 @b2),(Yq1 @e3),(Yq1 @b3),(Yq1 @r15),(Yq1 @r18),(Yq1 @e4),(Yq1 @r20),(Yq1 @e5),(Yq1 @r1000),(Yq1 @hmd)⟩,(Yq1 @e6),(Yq1 (fa2 @e7 @uintL.eq_1)),(Yq1 @e8),(Yq1 @e12),(Yq1 (fa6 @b12 @nodeL.eq_1 @nodeOf.eq_1 @attrsL.eq_1 @acesL.eq_1 @piecesL.eq_1)),(Yq1 (fa2 @e13 @uintL.eq_1))⟩,by rw [decide_eq_true ⟨k2,hz⟩];exact Yq0⟩
    ·have k2i : ¬ ((k9 : Int) = 2) := by omega
     refine Yg1 (fa2 @e13 @k2i) ?_
     exact ⟨⟨⟨(Yq1 (fa3 @e0 @intsL.eq_1 @rowL.eq_1)),(Yq1 @e2),(Yq1 @b2),(Yq1 @e3),(Yq1 @b3),(Yq1 @r15),(Yq1 @r18),(Yq1 @e4),(Yq1 @r20),(Yq1 @e5),(Yq1 @r1000),(Yq1 @hmd)⟩,(Yq1 @e6),(Yq1 (fa2 @e7 @uintL.eq_1)),(Yq1 @e8),(Yq1 @e12),(Yq1 (fa6 @b12 @nodeL.eq_1 @nodeOf.eq_1 @attrsL.eq_1 @acesL.eq_1 @piecesL.eq_1)),(Yq1 (fa2 @e13 @uintL.eq_1))⟩,by rw [decide_eq_false (fun c => k2 c.1)];exact Yq0⟩
   clear e0 e2 b2 e3 b3 r15 r18 e4 r20 e5 r1000 hmd e6 e7 e8 e12 b12 e13 e153 st
   rintro st ⟨⟨⟨e0,e2,b2,e3,b3,r15,r18,e4,r20,e5,r1000,hmd⟩,e6,e7,e8,e12,b12,e13⟩,e161⟩
   simp only [uintL] at e7 e13
   simp only [nodeL,nodeOf,attrsL,acesL,piecesL,rowL] at b12
   by_cases c3 : k9 = 2 ∧ s.files ≠ []
   ·rw [if_pos c3] at hS
    rw [decide_eq_true c3] at e161
    have hf0 : 0 < s.files.length := List.length_pos_iff.2 c3.2
    have hfl := hk.fl
    have hum : u / 2 % s.files.length < s.files.length := Nat.mod_lt _ hf0
    obtain ⟨q,hq⟩ := get_of_lt hum
    have hqd := drop_int hq
    have hqg : s.files[u / 2 % s.files.length]?.getD 0 = q := by rw [hq];rfl
    rw [hqg] at hS
    have hfn : ¬ ((s.files.length : Int) = 0) := by omega
    have d2 := udiv u 2 2 rfl
    have w2 := wu (n := u / 2) (by omega)
    have wf := wu (n := s.files.length) (by omega)
    have mf := umod (u / 2) s.files.length _ rfl
    have hup : (0 : Int) ≤ ((u / 2 % s.files.length : Nat) : Int) := by omega
    have hfe := tentL_flen s.ents
    have hel := hk.el
    refine Yt1 @e161 ?_
    (repeat refine LW_seq ?_)
    refine LW_join (fun st => MkB l { s with ents := s.ents ++ [⟨j.1,q⟩] } st ∧ st.env 6 = intL i) ?_ ?_
    ·(repeat (first | refine LW_seq ?_ | (refine LW_skip ?_;simp only [LSj,reduceIte,zze]) | refine LW_block ?_));refine LW_mix2 [] [] (fun d => d == 15 || d == 18 || d == 20) [(0,[3,15,18]),(1,[3,15,18]),(2,[]),(3,[1000]),(4,[]),(5,[]),(6,[1000]),(7,[1000]),(8,[]),(9,[]),(10,[1000]),(11,[]),(12,[]),(13,[3,15,18,1000]),(14,[3,18,1000]),(15,[3,18,1000]),(16,[1000])] [0,1,2,3,4,5,6,7,8,9,10,11,12] [[13,14,15,16]] rfl (by kernel_rfl) (by kernel_rfl) (by kernel_rfl) (by first | exact rfl | exact hmd | simp only [LZ,zo,zc,reduceCtorEq,reduceIte,zz1,zz2,zz3,zz4,zz5,zz6,zz7,zz8,zz9,zza,zzb,zzc,zzd,zze,zzf,e3,b3,r15,e5,e7,e8,hmd,hum,hqd,hfn,d2,w2,wf,mf,hup,hfe]) ?_;intro K hK;simp only [LZ,zo,zc,reduceCtorEq,reduceIte,zz1,zz2,zz3,zz4,zz5,zz6,zz7,zz8,zz9,zza,zzb,zzc,zzd,zze,zzf,e3,b3,r15,e5,e7,e8,hmd,hum,hqd,hfn,d2,w2,wf,mf,hup,hfe]
     refine ⟨by (repeat' apply And.intro) <;> first | omega | (unfold maxLen;omega) | rfl | kernel_rfl,?_⟩
     refine ⟨by (repeat' apply And.intro) <;> first | omega | (unfold maxLen;omega) | (intro _;omega) | decide,?_⟩
     refine hK _ ?_;clear hK K;try refine Wh0 ?_
     exact ⟨⟨(Yq1 (fa3 @e0 @intsL.eq_1 @rowL.eq_1)),(Yq1 @e2),(Yq1 @b2),(Yq1 @e3),by rw [List.length_append,List.length_singleton,List.flatMap_append];exact (Yq1 @b3),by rw [List.length_append,List.length_singleton];exact Yq0,(Yq1 @r18),(Yq1 @e4),(Yq1 @r20),(Yq1 @e5),(Yq1 @r1000),(Yq1 @hmd)⟩,(Yq1 @e6)⟩
    clear e0 e2 b2 e3 b3 r15 r18 e4 r20 e5 r1000 hmd e6 e7 e8 e12 b12 e13 e161 st
    rintro st ⟨⟨e0,e2,b2,e3,b3,r15,r18,e4,r20,e5,r1000,hmd⟩,e6⟩
    refine LW_exit ?_;simp only [thenL,jumpsL,inBlockL,twoL,reduceIte,Nat.reduceEqDiff]
    rw [hS]
    exact ⟨⟨(Yq1 (fa3 @e0 @intsL.eq_1 @rowL.eq_1)),(Yq1 @e2),(Yq1 @b2),(Yq1 @e3),(Yq1 @b3),(Yq1 @r15),(Yq1 @r18),(Yq1 @e4),(Yq1 @r20),(Yq1 @e5),(Yq1 @r1000),(Yq1 @hmd)⟩,(Yq1 @e6)⟩
   rw [if_neg c3] at hS
   rw [decide_eq_false c3] at e161
   refine Yf1 @e161 ?_
   by_cases k3 : k9 = 3
   ·have k3i : ((k9 : Int) = 3) = True := eq_true (by omega)
    rw [if_pos k3] at hS
    have hc1 : 3 + j.1.length ≤ 9223372036854775807 := by omega
    have hc2 : 0 + 1 + 1 + 1 + j.1.length ≤ 9223372036854775807 := by omega
    refine Yg1 (fa2 @e13 @k3i) ?_
    refine Yt0 ?_
    refine Yg1 (fa6 @e8 @e12 @b12 @hmd @hc1 @hc2) ?_
    exact ⟨_,_,_,hS,⟨(Yq1 (fa3 @e0 @intsL.eq_1 @rowL.eq_1)),(Yq1 @e2),(Yq1 @b2),(Yq1 @e3),(Yq1 @b3),(Yq1 @r15),(Yq1 @r18),(Yq1 @e4),(Yq1 @r20),(Yq1 @e5),(Yq1 @r1000),(Yq1 @hmd)⟩,(Yq1 @e6),(Yq1 @e8),(Yq1 @e12),(Yq1 (fa6 @b12 @nodeL.eq_1 @nodeOf.eq_1 @attrsL.eq_1 @acesL.eq_1 @piecesL.eq_1))⟩
   rw [if_neg k3] at hS
   have k3i : ¬ ((k9 : Int) = 3) := by omega
   refine Yg1 (fa2 @e13 @k3i) ?_
   refine Yf0 ?_
   by_cases k4 : k9 = 4
   ·have k4i : ((k9 : Int) = 4) = True := eq_true (by omega)
    rw [if_pos k4] at hS
    have m300 := umod u 300 300 rfl
    have d2 := udiv u 2 2 rfl
    have w2 := wu (n := u / 2) (by omega)
    have n300 := umod (u / 2) 300 300 rfl
    have i1 : IntKind.i64.wrap ((u % 300 : Nat) : Int) = ((u % 300 : Nat) : Int) := w64 (by omega)
    have i2 : IntKind.i64.wrap ((u / 2 % 300 : Nat) : Int) = ((u / 2 % 300 : Nat) : Int) := w64 (by omega)
    refine Yg1 (fa2 @e13 @k4i) ?_
    refine Yt0 ?_
    refine Yg1 (fa10 @e7 @e12 @b12 @hmd @m300 @d2 @w2 @n300 @i1 @i2) ?_
    exact ⟨_,_,_,hS,⟨(Yq1 (fa3 @e0 @intsL.eq_1 @rowL.eq_1)),(Yq1 @e2),(Yq1 @b2),(Yq1 @e3),(Yq1 @b3),(Yq1 @r15),(Yq1 @r18),(Yq1 @e4),(Yq1 @r20),(Yq1 @e5),(Yq1 @r1000),(Yq1 @hmd)⟩,(Yq1 @e6),(Yq1 @e8),(Yq1 @e12),(Yq1 (fa6 @b12 @nodeL.eq_1 @nodeOf.eq_1 @attrsL.eq_1 @acesL.eq_1 @piecesL.eq_1))⟩
   rw [if_neg k4] at hS
   have k4i : ¬ ((k9 : Int) = 4) := by omega
   refine Yg1 (fa2 @e13 @k4i) ?_
   refine Yf0 ?_
   by_cases k5 : k9 = 5
   ·have k5i : ((k9 : Int) = 5) = True := eq_true (by omega)
    rw [if_pos k5] at hS
    refine Yg1 (fa2 @e13 @k5i) ?_
    refine Yt0 ?_
    refine Yg1 (fa3 @e12 @b12 @hmd) ?_
    exact ⟨_,_,_,hS,⟨(Yq1 (fa3 @e0 @intsL.eq_1 @rowL.eq_1)),(Yq1 @e2),(Yq1 @b2),(Yq1 @e3),(Yq1 @b3),(Yq1 @r15),(Yq1 @r18),(Yq1 @e4),(Yq1 @r20),(Yq1 @e5),(Yq1 @r1000),(Yq1 @hmd)⟩,(Yq1 @e6),(Yq1 @e8),(Yq1 @e12),(Yq1 (fa6 @b12 @nodeL.eq_1 @nodeOf.eq_1 @attrsL.eq_1 @acesL.eq_1 @piecesL.eq_1))⟩
   rw [if_neg k5] at hS
   have k5i : ¬ ((k9 : Int) = 5) := by omega
   refine Yg1 (fa2 @e13 @k5i) ?_
   refine Yf0 ?_
   have hm := makeM_may u
   have h0 := fileM0 u
   obtain ⟨s0,t0⟩ := mayN_small h0.may
   have hdl := decB_len 2 (u % 1000) (by omega)
   have htx : (textU u).length ≤ 50 := by unfold textU;simp only [List.length_append,List.length_cons,List.length_nil];omega
   have cd := decimal_L (u % 1000) (by omega)
   have cw := rwrite_L (nodeOf 2 u) s0 (by unfold maxLen;omega) ((u / 4 % 2 * 600 : Nat) : Int) (textU u) (by omega)
   have h1 := write_keep (a := ((u / 4 % 2 * 600 : Nat) : Int)) (s := textU u) hm h0
   have hF : ∃ n1,n1 = (writeN (nodeOf 2 u) ((u / 4 % 2 * 600 : Nat) : Int) (textU u)).1 := ⟨_,rfl⟩
   obtain ⟨n1,hn1⟩ := hF
   rw [← hn1] at cw h1
   have hF : fileU u j.1 = (if u % 5 = 0 then (cutN (if u % 2 = 0 then (writeN n1 ((u % 90 * 10 : Nat) : Int) j.1).1 else n1) ((if u % 2 = 0 then (writeN n1 ((u % 90 * 10 : Nat) : Int) j.1).1 else n1).size + ((u % 7 * 100 : Nat) : Int))).1 else (if u % 2 = 0 then (writeN n1 ((u % 90 * 10 : Nat) : Int) j.1).1 else n1)) := by rw [hn1];rfl
   rw [hF] at hS
   clear hF hn1
   simp only [nodeL,nodeOf,attrsL,acesL,piecesL,rowL,textU,List.cons_append,List.nil_append,List.flatMap_nil,List.length_nil] at cw
   have d4 := udiv u 4 4 rfl
   have w4 := wu (n := u / 4) (by omega)
   have m2 := umod (u / 4) 2 2 rfl
   have p6 : IntKind.u64.wrap (((u / 4 % 2 : Nat) : Int) * 600) = ((u / 4 % 2 * 600 : Nat) : Int) := by
    rw [show ((u / 4 % 2 : Nat) : Int) * 600 = ((u / 4 % 2 * 600 : Nat) : Int) by omega];exact wu (by omega)
   have i6 : IntKind.i64.wrap ((u / 4 % 2 * 600 : Nat) : Int) = ((u / 4 % 2 * 600 : Nat) : Int) := w64 (by omega)
   have mk := umod u 1000 1000 rfl
   have ik : IntKind.i64.wrap ((u % 1000 : Nat) : Int) = ((u % 1000 : Nat) : Int) := w64 (by omega)
   have hc1 : 5 + (decB (u % 1000)).length ≤ 9223372036854775807 := by omega
   have hc3 : (decB (u % 1000)).length + 5 ≤ 9223372036854775807 := by omega
   have hc2 : (decB (u % 1000)).length + 1 + 1 + 1 + 1 + 1 + 39 ≤ 9223372036854775807 := by omega
   (repeat (first | refine LW_seq ?_ | (refine LW_skip ?_;simp only [LSj,reduceIte,zze]) | refine LW_block ?_));refine LW_mix2 [] [] (fun d => d == 15 || d == 18 || d == 20) [(15,[]),(16,[])] [0,1,2,3,4,5,6,7,8,9,10,11,12,13,14,15] [[16]] rfl (by kernel_rfl) (by kernel_rfl) (by kernel_rfl) (by first | exact rfl | exact hmd | simp only [LZ,zo,zc,reduceCtorEq,reduceIte,zz1,zz2,zz3,zz4,zz5,zz6,zz7,zz8,zz9,zza,zzb,zzc,zzd,zze,zzf,e7,e12,b12,hmd,d4,w4,m2,p6,i6,mk,ik,hc1,hc2,hc3]) ?_;intro K hK;simp only [LZ,zo,zc,reduceCtorEq,reduceIte,zz1,zz2,zz3,zz4,zz5,zz6,zz7,zz8,zz9,zza,zzb,zzc,zzd,zze,zzf,e7,e12,b12,hmd,d4,w4,m2,p6,i6,mk,ik,hc1,hc2,hc3]
   refine Yx1 (cd) (fa14 @e7 @e12 @b12 @hmd @d4 @w4 @m2 @p6 @i6 @mk @ik @hc1 @hc2 @hc3) ?_
   refine Yx1 (cw) (fa14 @e7 @e12 @b12 @hmd @d4 @w4 @m2 @p6 @i6 @mk @ik @hc1 @hc2 @hc3) ?_
   refine hK _ ?_;clear hK K;try refine Wh0 ?_
   refine LW_slim (fun st => MkB l s st ∧ st.env 6 = intL i ∧ st.env 7 = uintL u ∧ st.env 8 = strL j.1 ∧ st.env 12 = .ptr 12 0 ∧ st.box 12 = some (nodeL n1)) ⟨⟨(Yq1 (fa3 @e0 @intsL.eq_1 @rowL.eq_1)),(Yq1 @e2),(Yq1 @b2),(Yq1 @e3),(Yq1 @b3),(Yq1 @r15),(Yq1 @r18),(Yq1 @e4),(Yq1 @r20),(Yq1 @e5),(Yq1 @r1000),(Yq1 @hmd)⟩,(Yq1 @e6),(Yq1 (fa2 @e7 @uintL.eq_1)),(Yq1 @e8),(Yq1 @e12),(Yq1 (fa5 @b12 @nodeL.eq_1 @attrsL.eq_1 @acesL.eq_1 @piecesL.eq_1))⟩ ?_
   clear e0 e2 b2 e3 b3 r15 r18 e4 r20 e5 r1000 hmd e6 e7 e8 e12 b12 e13 e161 st d4 w4 m2 p6 i6 mk ik cw cd
   rintro st ⟨⟨e0,e2,b2,e3,b3,r15,r18,e4,r20,e5,r1000,hmd⟩,e6,e7,e8,e12,b12⟩
   simp only [uintL] at e7
   have mm2 := umod u 2 2 rfl
   have hF : ∃ n2,n2 = (if u % 2 = 0 then (writeN n1 ((u % 90 * 10 : Nat) : Int) j.1).1 else n1) := ⟨_,rfl⟩
   obtain ⟨n2,hn2⟩ := hF
   rw [← hn2] at hS
   have h2 : FileM (makeM u) n2 := by
    rw [hn2];split
    ·exact write_keep hm h1
    ·exact h1
   refine Yg1 @e7 ?_
   refine LW_join (fun st => MkB l s st ∧ st.env 6 = intL i ∧ st.env 7 = uintL u ∧ st.env 8 = strL j.1 ∧ st.env 12 = .ptr 12 0 ∧ st.box 12 = some (nodeL n2)) ?_ ?_
   ·by_cases hu2 : u % 2 = 0
    rotate_left
    ·have hu2i : ¬ (((u % 2 : Nat) : Int) = 0) := by omega
     rw [if_neg hu2] at hn2
     rw [hn2]
     refine Yf1 (fa2 @mm2 @hu2i) ?_
     exact ⟨⟨(Yq1 (fa3 @e0 @intsL.eq_1 @rowL.eq_1)),(Yq1 @e2),(Yq1 @b2),(Yq1 @e3),(Yq1 @b3),(Yq1 @r15),(Yq1 @r18),(Yq1 @e4),(Yq1 @r20),(Yq1 @e5),(Yq1 @r1000),(Yq1 @hmd)⟩,(Yq1 @e6),(Yq1 (fa2 @e7 @uintL.eq_1)),(Yq1 @e8),(Yq1 @e12),(Yq1 @b12)⟩
    have hu2i : (((u % 2 : Nat) : Int) = 0) = True := eq_true (by omega)
    rw [if_pos hu2] at hn2
    obtain ⟨s1,t1⟩ := mayN_small h1.may
    have cw := rwrite_L n1 s1 (by unfold maxLen;omega) ((u % 90 * 10 : Nat) : Int) j.1 (by omega)
    rw [← hn2] at cw
    simp only [nodeL,attrsL,acesL,piecesL,rowL] at cw b12
    have m90 := umod u 90 90 rfl
    have i90 : IntKind.i64.wrap ((u % 90 : Nat) : Int) = ((u % 90 : Nat) : Int) := w64 (by omega)
    have p10 : IntKind.i64.wrap (((u % 90 : Nat) : Int) * 10) = ((u % 90 * 10 : Nat) : Int) := by
     rw [show ((u % 90 : Nat) : Int) * 10 = ((u % 90 * 10 : Nat) : Int) by omega];exact w64 (by omega)
    refine Yt1 (fa2 @mm2 @hu2i) ?_
    refine Yr1 (fa8 @e7 @e8 @e12 @b12 @hmd @m90 @i90 @p10) ?_;intro K hK
    refine Yc1 (cw) (fa8 @e7 @e8 @e12 @b12 @hmd @m90 @i90 @p10) ?_
    refine hK _ ?_;clear hK K;try refine Wh0 ?_
    exact ⟨⟨(Yq1 (fa3 @e0 @intsL.eq_1 @rowL.eq_1)),(Yq1 @e2),(Yq1 @b2),(Yq1 @e3),(Yq1 @b3),(Yq1 @r15),(Yq1 @r18),(Yq1 @e4),(Yq1 @r20),(Yq1 @e5),(Yq1 @r1000),(Yq1 @hmd)⟩,(Yq1 @e6),(Yq1 (fa2 @e7 @uintL.eq_1)),(Yq1 @e8),(Yq1 @e12),(Yq1 (fa5 @b12 @nodeL.eq_1 @attrsL.eq_1 @acesL.eq_1 @piecesL.eq_1))⟩
   clear e0 e2 b2 e3 b3 r15 r18 e4 r20 e5 r1000 hmd e6 e7 e8 e12 b12 st mm2 hn2 h1
   rintro st ⟨⟨e0,e2,b2,e3,b3,r15,r18,e4,r20,e5,r1000,hmd⟩,e6,e7,e8,e12,b12⟩
   simp only [uintL] at e7
   have mm5 := umod u 5 5 rfl
   have hF : ∃ n3,n3 = (if u % 5 = 0 then (cutN n2 (n2.size + ((u % 7 * 100 : Nat) : Int))).1 else n2) := ⟨_,rfl⟩
   obtain ⟨n3,hn3⟩ := hF
   rw [← hn3] at hS
   refine Yg1 @e7 ?_
   refine LW_join (fun st => MkB l s st ∧ st.env 6 = intL i ∧ st.env 7 = uintL u ∧ st.env 8 = strL j.1 ∧ st.env 12 = .ptr 12 0 ∧ st.box 12 = some (nodeL n3)) ?_ ?_
   ·by_cases hu2 : u % 5 = 0
    rotate_left
    ·have hu2i : ¬ (((u % 5 : Nat) : Int) = 0) := by omega
     rw [if_neg hu2] at hn3
     rw [hn3]
     refine Yf1 (fa2 @mm5 @hu2i) ?_
     exact ⟨⟨(Yq1 (fa3 @e0 @intsL.eq_1 @rowL.eq_1)),(Yq1 @e2),(Yq1 @b2),(Yq1 @e3),(Yq1 @b3),(Yq1 @r15),(Yq1 @r18),(Yq1 @e4),(Yq1 @r20),(Yq1 @e5),(Yq1 @r1000),(Yq1 @hmd)⟩,(Yq1 @e6),(Yq1 (fa2 @e7 @uintL.eq_1)),(Yq1 @e8),(Yq1 @e12),(Yq1 @b12)⟩
    have hu2i : (((u % 5 : Nat) : Int) = 0) = True := eq_true (by omega)
    rw [if_pos hu2] at hn3
    obtain ⟨s1,t1⟩ := mayN_small h2.may
    obtain ⟨_,z0,z1,_⟩ := isFile_ok h2.file
    have cw := rcut_L n2 s1 (by unfold maxLen;omega) (n2.size + ((u % 7 * 100 : Nat) : Int))
    rw [← hn3] at cw
    simp only [nodeL,attrsL,acesL,piecesL,rowL] at cw b12
    have m7 := umod u 7 7 rfl
    have i7 : IntKind.i64.wrap ((u % 7 : Nat) : Int) = ((u % 7 : Nat) : Int) := w64 (by omega)
    have p7 : IntKind.i64.wrap (((u % 7 : Nat) : Int) * 100) = ((u % 7 * 100 : Nat) : Int) := by
     rw [show ((u % 7 : Nat) : Int) * 100 = ((u % 7 * 100 : Nat) : Int) by omega];exact w64 (by omega)
    have q7 : IntKind.i64.wrap (n2.size + ((u % 7 * 100 : Nat) : Int)) = n2.size + ((u % 7 * 100 : Nat) : Int) := w64 (by omega)
    refine Yt1 (fa2 @mm5 @hu2i) ?_
    refine Yr1 (fa9 @e7 @e8 @e12 @b12 @hmd @m7 @i7 @p7 @q7) ?_;intro K hK
    refine Yc1 (cw) (fa9 @e7 @e8 @e12 @b12 @hmd @m7 @i7 @p7 @q7) ?_
    refine hK _ ?_;clear hK K;try refine Wh0 ?_
    exact ⟨⟨(Yq1 (fa3 @e0 @intsL.eq_1 @rowL.eq_1)),(Yq1 @e2),(Yq1 @b2),(Yq1 @e3),(Yq1 @b3),(Yq1 @r15),(Yq1 @r18),(Yq1 @e4),(Yq1 @r20),(Yq1 @e5),(Yq1 @r1000),(Yq1 @hmd)⟩,(Yq1 @e6),(Yq1 (fa2 @e7 @uintL.eq_1)),(Yq1 @e8),(Yq1 @e12),(Yq1 (fa5 @b12 @nodeL.eq_1 @attrsL.eq_1 @acesL.eq_1 @piecesL.eq_1))⟩
   clear e0 e2 b2 e3 b3 r15 r18 e4 r20 e5 r1000 hmd e6 e7 e8 e12 b12 st mm5 hn3 h2
   rintro st ⟨⟨e0,e2,b2,e3,b3,r15,r18,e4,r20,e5,r1000,hmd⟩,e6,e7,e8,e12,b12⟩
   simp only [nodeL,attrsL,acesL,piecesL,rowL] at b12
   have hfl := hk.fl
   have hff := intE_flen s.files
   refine Yr1 (fa6 @e3 @b3 @e5 @r1000 @hmd @hff) ?_;intro K hK
   refine ⟨by (repeat' apply And.intro) <;> first | omega | (unfold maxLen;omega) | (intro _;omega) | decide,?_⟩
   refine hK _ ?_;clear hK K;try refine Wh0 ?_
   exact ⟨_,_,_,hS,⟨(Yq1 (fa3 @e0 @intsL.eq_1 @rowL.eq_1)),(Yq1 @e2),(Yq1 @b2),(Yq1 @e3),(Yq1 @b3),(Yq1 @r15),(Yq1 @r18),(Yq1 @e4),(Yq1 @r20),by rw [List.length_append,List.length_singleton,List.flatMap_append];exact Yq0,by rw [List.length_append,List.length_singleton];exact Yq0,(Yq1 @hmd)⟩,(Yq1 @e6),(Yq1 @e8),(Yq1 @e12),(Yq1 (fa5 @b12 @nodeL.eq_1 @attrsL.eq_1 @acesL.eq_1 @piecesL.eq_1))⟩
  clear e0 e2 b2 e3 b3 r15 r18 e4 r20 e5 r1000 hmd e6 e7 e8 e12 b12 e13 e153 st
  rintro st ⟨n1,ds,fs,hS2,⟨e0,e2,b2,e3,b3,r15,r18,e4,r20,e5,r1000,hmd⟩,e6,e8,e12,b12⟩
  simp only [nodeL,attrsL,acesL,piecesL,rowL] at b12
  have hel := hk.el
  have hnl := hk.nl
  have hfe := tentL_flen s.ents
  have hfn := nodeL_flen s.nodes
  refine Yr1 (fa7 @e3 @b3 @e8 @r15 @r18 @hmd @hfe) ?_;intro K hK
  refine ⟨by (repeat' apply And.intro) <;> first | omega | (unfold maxLen;omega) | (intro _;omega) | decide,?_⟩
  refine hK _ ?_;clear hK K;try refine Wh0 ?_
  refine Yr1 (fa8 @e3 @b3 @e12 @b12 @r15 @r18 @hmd @hfn) ?_;intro K hK
  refine ⟨by (repeat' apply And.intro) <;> first | omega | (unfold maxLen;omega) | (intro _;omega) | decide,?_⟩
  refine hK _ ?_;clear hK K;try refine Wh0 ?_
  rw [hS2]
  exact ⟨⟨(Yq1 (fa3 @e0 @intsL.eq_1 @rowL.eq_1)),(Yq1 @e2),(Yq1 @b2),(Yq1 @e3),by rw [List.length_append,List.length_singleton,List.flatMap_append,List.length_append,List.length_singleton,List.flatMap_append];exact (Yq1 (fa5 @b3 @nodeL.eq_1 @attrsL.eq_1 @acesL.eq_1 @piecesL.eq_1)),by rw [List.length_append,List.length_singleton];exact Yq0,by rw [List.length_append,List.length_singleton];exact Yq0,(Yq1 @e4),(Yq1 @r20),(Yq1 @e5),(Yq1 @r1000),(Yq1 @hmd)⟩,(Yq1 @e6)⟩
 ·clear e0 e2 b2 e3 b3 r15 r18 e4 r20 e5 r1000 hmd e6 st
  rintro st ⟨s,hs,hk,e2,b2,e3,b3,hmd⟩
  have hsm : SmallT ⟨s.ents,s.nodes⟩ := ⟨by have := hk.el;show s.ents.length ≤ _;omega,by have := hk.nl;show s.nodes.length ≤ _;omega,fun e he => by have := may_len (hk.inv.may e he);omega,fun n hn => by
   obtain ⟨a1,a2⟩ := mayN_small (hk.inv.nodes n hn)
   exact ⟨a1,by unfold maxLen;omega⟩⟩
  have cn := rnormTree_L ⟨s.ents,s.nodes⟩ hsm
  rw [← hs] at hR
  generalize hT : normTree ⟨s.ents,s.nodes⟩ = T at *
  simp only [treeL] at cn
  refine Yr1 (fa3 @e3 @b3 @hmd) ?_;intro K hK
  refine Yc1 (cn) (fa3 @e3 @b3 @hmd) ?_
  refine hK _ ?_;clear hK K;try refine Wh0 ?_
  refine Yg1 (fa5 @e2 @b2 @e3 @b3 @hmd) ?_
  refine Ye1 (fa4 @e2 @b2 @e3 @b3) ?_;try (with_reducible exact trivial)
  rw [← hR];rfl
end Go.Proofs.YteamlijbkldlhaaGreatDoor
