import Derived.Test.YteamlijbkldlhaaGreatDoorKTA
import Derived.Test.YteamlijbkldlhaaGreatDoorTMeta
import Derived.Test.YteamlijbkldlhaaGreatDoorL25
import Derived.Test.YteamlijbkldlhaaGreatDoorKP9
import Derived.Test.YteamlijbkldlhaaGreatDoorPKeys
section
set_option linter.unusedSimpArgs false
set_option linter.unusedVariables false
namespace Go.Proofs.YteamlijbkldlhaaGreatDoor
open Go.RowKit Go.Proofs AclSpec MetaSpec NodeSpec PathSpec TreeSpec

theorem digit : ∀ k : Fin 10,List.drop k.1 (48 :: List.take k.1 ([49,50,51,52,53,54,55,56,57] : List UInt8)) = [48 + k.1.toUInt8] := by decide
set_option maxRecDepth 100000 in
theorem decimal_L (n : Nat) (hn : n ≤ 1000000) : LCalls Tryz.prog 29 [intL n] (strL (decB n)) := by
  refine LCalls.of (fun _ => false) Tryz.func29 rfl (by decide) Tryz.ntmps29 Tryz.results29 (by simp) ?_
  intro w0 S0 vs hgl hwf0 hsz hvs;clear hsz hvs hwf0 hgl
  generalize hR : decB n = R
  refine Yg0 ?_
  refine LW_joinB (fun st => ∃ (m : Nat) (s : List UInt8),m ≤ 9 ∧ s.length ≤ 1000000 ∧ st.env 0 = intL m ∧ st.env 3 = strL s ∧ decB m ++ s = R) ?_ ?_
  · refine LW_loop (fun k st => ∃ (m : Nat) (s : List UInt8),k = m ∧ m + s.length ≤ 1000000 ∧ st.env 0 = intL m ∧ st.env 3 = strL s ∧ decB m ++ s = R) n ⟨n,[],rfl,by simp;omega,Yq0,Yq0,by rw [List.append_nil];exact hR⟩ ?_
    rintro k st ⟨m,s,hk,hms,e0,e3,hr⟩
    by_cases hc : (9 : Int) < m
    · have hm : m % 10 < 10 := Nat.mod_lt _ (by decide)
      have t1 : (m : Int).tmod 10 = ((m % 10 : Nat) : Int) := by rw [Int.tmod_eq_emod_of_nonneg (by omega)];omega
      have t2 : (m : Int).tdiv 10 = ((m / 10 : Nat) : Int) := by rw [Int.tdiv_eq_ediv_of_nonneg (by omega)];omega
      have hw := w64s (n := m % 10) (by omega)
      have hq : IntKind.i64.wrap ((m / 10 : Nat) : Int) = ((m / 10 : Nat) : Int) := w64 (by omega)
      have hq2 : IntKind.i64.wrap ((m % 10 : Nat) : Int) = ((m % 10 : Nat) : Int) := w64 (by omega)
      refine Yg1 (fa2 @e0 @hc) ?_
      refine Yt0 ?_
      have hdg := digit ⟨m % 10,hm⟩
      have hin : (m % 10 ≤ m % 10 + 1 ∧ ((m % 10 + 1 : Nat) : Int) ≤ 10) = True := eq_true ⟨by omega,by omega⟩
      have hcat : 0 + 1 + s.length ≤ 9223372036854775807 := by omega
      have hcat2 : 1 + s.length ≤ 9223372036854775807 := by omega
      have hmd : ((m / 10 : Nat)) < m := by omega
      rw [decB,if_neg (by omega),List.append_assoc] at hr
      refine Yg1 (fa11 @e0 @e3 @t1 @t2 @hw @hq @hq2 @hdg @hin @hcat @hcat2) ?_
      exact ⟨m / 10,by omega,m / 10,[48 + (m % 10).toUInt8] ++ s,rfl,by simp;omega,(Yq1 (fa2 @t2 @hq)),Yq0,hr⟩
    · refine Yg1 (fa2 @e0 @hc) ?_
      refine Yf0 ?_
      refine LW_exit ?_;simp only [thenL,jumpsL,inBlockL,twoL,reduceIte,Nat.reduceEqDiff]
      exact ⟨m,s,by omega,by omega,(Yq1 @e0),(Yq1 @e3),hr⟩
  · rintro st ⟨m,s,hm,hs,e0,e3,hr⟩
    have hw := w64s (n := m) (by omega)
    have hdg := digit ⟨m,by omega⟩
    have hin : (m ≤ m + 1 ∧ ((m + 1 : Nat) : Int) ≤ 10) = True := eq_true ⟨by omega,by omega⟩
    have hcat : 0 + 1 + s.length ≤ 9223372036854775807 := by omega
    have hcat2 : 1 + s.length ≤ 9223372036854775807 := by omega
    rw [decB,if_pos hm] at hr
    refine Yg1 (fa7 @e0 @e3 @hw @hdg @hin @hcat @hcat2) ?_
    refine Ye0 ?_;try (with_reducible exact trivial)
    rw [← hr];rfl
end Go.Proofs.YteamlijbkldlhaaGreatDoor
end
section
set_option linter.unusedSimpArgs false
set_option linter.unusedVariables false
namespace Go.Proofs.YteamlijbkldlhaaGreatDoor
open Nat renaming reduceAdd → zz1,reduceMul → zz2,reduceSub → zz3,reduceLT → zz4,reduceLeDiff → zz5,reduceEqDiff → zz6,reduceBEq → zzf
open Int renaming reduceAdd → zz7,reduceSub → zz8,reduceMul → zz9,reduceLT → zza,reduceLE → zzb,reduceEq → zzc,reduceNeg → zzd,reduceToNat → zze
open Op renaming operands → zo
open Call renaming operands → zc
open Go.RowKit Go.Proofs AclSpec MetaSpec NodeSpec RecSpec PathSpec PageSpec TreeSpec

theorem strs_set (l : List (List UInt8)) (i : Nat) (s : List UInt8) (h : i < l.length) : (l.flatMap strE).take i ++ [strL s] ++ (l.flatMap strE).drop (i + 1) = (l.set i s).flatMap strE := by
  have e : ∀ m : List (List UInt8),m.flatMap strE = m.map strL := fun m => by
    induction m with
    | nil => rfl
    | cons a r ih => rw [List.flatMap_cons,ih];rfl
  rw [e,e,List.set_eq_take_append_cons_drop,if_pos h,List.map_append,List.map_cons,List.map_take,List.map_drop,List.append_assoc]
  rfl
def keysBox (k : Nat) (x : LV) : List LV := [boolL false,.sl 0 [] .nil,x,.sl (pagesK k).length ((pagesK k).flatMap intE) (.row 1000)]
set_option maxRecDepth 100000 in
set_option maxHeartbeats 8000000 in
theorem pageKeys_L (n at' : Int) (tu : Bool) : LCalls Tryz.prog 8 [intL n,intL at',boolL tu] (boolL true) := by
  have t0 := ptold_L
  simp only [boolL] at t0
  obtain ⟨k,hk⟩ : ∃ k,k = uI n % 7 := ⟨_,rfl⟩
  have hk7 : k < 7 := by rw [hk];exact Nat.mod_lt _ (by decide)
  have hu1 := wuI n
  have hmod := nmod (uI n) 7 (7 : Int) rfl
  rw [← hk] at hmod
  have h70 : ¬ ((7 : Int) = 0) := by decide
  have hwk : IntKind.i64.wrap (k : Int) = (k : Int) := w64 (by omega)
  refine LCalls.of (fun d => d == 30) Tryz.func8 rfl (by decide) Tryz.ntmps8 Tryz.results8 (by simp) ?_
  intro w0 S0 vs hgl hwf0 hsz hvs;clear hsz hvs hwf0 hgl
  refine Yg1 (fa4 @hu1 @hmod @h70 @hwk) ?_
  refine LW_nilBox (cs := [boolL false,.sl 0 [] .nil,.sl 0 [] .nil,.sl 0 [] .nil]) 8 3 1000 3 Yq0 rfl ?_
  refine LW_joinB (fun st => ∃ X : LV,((k = 0 ∧ X = .sl 0 [] .nil) ∨ (0 < k ∧ X = .bsl 30 k 9 ∧ st.arr 30 = some ((keysK k).flatMap strE))) ∧ st.env 1 = intL at' ∧ st.env 2 = boolL tu ∧ st.env 7 = intL k ∧ st.env 8 = .ptr 8 0 ∧ st.box 8 = some (keysBox k X) ∧ st.row 1000 = some (3,(pagesK k).length) ∧ st.mode = fun d => d == 30) ?_ ?_
  · refine LW_loop (fun m st => ∃ (i : Nat) (X : LV),m + i = k ∧ ((i = 0 ∧ X = .sl 0 [] .nil) ∨ (0 < i ∧ X = .bsl 30 i 9 ∧ st.arr 30 = some ((keysK i).flatMap strE))) ∧ st.env 1 = intL at' ∧ st.env 2 = boolL tu ∧ st.env 7 = intL k ∧ st.env 8 = .ptr 8 0 ∧ st.box 8 = some (keysBox i X) ∧ st.row 1000 = some (3,(pagesK i).length) ∧ st.env 9 = intL i ∧ st.mode = fun d => d == 30) k ⟨0,.sl 0 [] .nil,by omega,.inl ⟨rfl,rfl⟩,Yq0,Yq0,Yq0,Yq0,Yq0,Yq0,Yq0,Yq0⟩ ?_
    rintro m st ⟨i,X,hmi,hX,e1,e2,e7,e8,b8,r1000,e9,hmd⟩
    by_cases hlt : i < k
    rotate_left
    · have hlti : ¬ ((i : Int) < (k : Int)) := by omega
      have hik : i = k := by omega
      subst hik
      refine Yg1 (fa3 @e7 @e9 @hlti) ?_
      refine Yf0 ?_
      refine LW_exit ?_;simp only [thenL,jumpsL,inBlockL,twoL,reduceIte,Nat.reduceEqDiff]
      refine ⟨X,?_,(Yq1 @e1),(Yq1 @e2),(Yq1 @e7),(Yq1 @e8),(Yq1 @b8),(Yq1 @r1000),(Yq1 @hmd)⟩
      rcases hX with ⟨h1,h2⟩ | ⟨h1,h2,h3⟩
      · exact .inl ⟨h1,h2⟩
      · exact .inr ⟨h1,h2,(Yq1 @h3)⟩
    have hlti : ((i : Int) < (k : Int)) = True := eq_true (by omega)
    have cd := decimal_L i (by omega)
    have hdl : 1 + (decB i).length ≤ 9223372036854775807 := by have := decB_len 0 i (by omega);omega
    have hw := w64s (n := i) (by omega)
    have hw3 : IntKind.i64.wrap (3 * (i : Int)) = 3 * (i : Int) := w64 (by omega)
    have hpl := pagesK_len i
    have hpf : ((pagesK i).flatMap intE).length = (pagesK i).length := by rw [len_flat intE 1 intE_len _,Nat.mul_one]
    have hkl := keysK_len i
    have hkf := strE_flen (keysK i)
    simp only [keysBox] at b8
    refine Yg1 (fa3 @e7 @e9 @hlti) ?_
    refine Yt0 ?_
    (repeat (first | refine LW_seq ?_ | (refine LW_skip ?_;simp only [LSj,reduceIte,zze]) | refine LW_block ?_))
    refine LW_join (fun st => st.arr 30 = some ((keysK (i + 1)).flatMap strE) ∧ st.env 1 = intL at' ∧ st.env 2 = boolL tu ∧ st.env 7 = intL k ∧ st.env 8 = .ptr 8 0 ∧ st.box 8 = some [boolL false,.sl 0 [] .nil,.bsl 30 (i + 1) 9,.sl (pagesK i).length ((pagesK i).flatMap intE) (.row 1000)] ∧ st.row 1000 = some (3,(pagesK i).length) ∧ st.env 9 = intL i ∧ st.mode = fun d => d == 30) ?_ ?_
    · have hks : (keysK (i + 1)).flatMap strE = (keysK i).flatMap strE ++ [strL (107 :: decB i)] := by
        rw [keysK_succ,keyK_dec (by omega),List.flatMap_append];rfl
      rcases hX with ⟨rfl,rfl⟩ | ⟨h1,rfl,a30⟩
      · (repeat (first | refine LW_seq ?_ | (refine LW_skip ?_;simp only [LSj,reduceIte,zze]) | refine LW_block ?_));refine LW_mix2 [] [] (fun d => d == 30) [(0,[8,30,1000]),(1,[8,30,1000]),(5,[8,30,1000])] [0,1,2,3,4] [[5,6,7,8]] rfl (by kernel_rfl) (by kernel_rfl) (by kernel_rfl) (by first | exact rfl | exact hmd | simp only [LZ,zo,zc,reduceCtorEq,reduceIte,zz1,zz2,zz3,zz4,zz5,zz6,zz7,zz8,zz9,zza,zzb,zzc,zzd,zze,zzf,e1,e2,e7,e8,b8,r1000,e9,hmd]) ?_;intro K hK;simp only [LZ,zo,zc,reduceCtorEq,reduceIte,zz1,zz2,zz3,zz4,zz5,zz6,zz7,zz8,zz9,zza,zzb,zzc,zzd,zze,zzf,e1,e2,e7,e8,b8,r1000,e9,hmd]
        refine Yx1 (cd) (fa11 @e1 @e2 @e7 @e8 @b8 @r1000 @e9 @hmd @hdl @hkf @hkl) ?_
        refine ⟨by (repeat' apply And.intro) <;> first | omega | (unfold maxLen;omega) | (intro _;omega) | decide,?_⟩
        refine hK _ ?_;clear hK K;try refine Wh0 ?_
        exact ⟨by rw [hks];exact (by first | exact rfl | assumption | (simp only [LZ,zo,zc,reduceCtorEq,reduceIte,zz1,zz2,zz3,zz4,zz5,zz6,zz7,zz8,zz9,zza,zzb,zzc,zzd,zze,zzf,strL,show keysK 0 = [] from rfl,List.flatMap_nil,List.nil_append] <;> exact rfl)),(Yq1 @e1),(Yq1 @e2),(Yq1 @e7),(Yq1 @e8),Yq0,(Yq1 @r1000),(Yq1 @e9),(Yq1 @hmd)⟩
      · (repeat (first | refine LW_seq ?_ | (refine LW_skip ?_;simp only [LSj,reduceIte,zze]) | refine LW_block ?_));refine LW_mix2 [] [] (fun d => d == 30) [(0,[8,30,1000]),(1,[8,30,1000]),(5,[8,30,1000])] [0,1,2,3,4] [[5,6,7,8]] rfl (by kernel_rfl) (by kernel_rfl) (by kernel_rfl) (by first | exact rfl | exact hmd | simp only [LZ,zo,zc,reduceCtorEq,reduceIte,zz1,zz2,zz3,zz4,zz5,zz6,zz7,zz8,zz9,zza,zzb,zzc,zzd,zze,zzf,e1,e2,e7,e8,b8,a30,r1000,e9,hmd,hkf,hkl]) ?_;intro K hK;simp only [LZ,zo,zc,reduceCtorEq,reduceIte,zz1,zz2,zz3,zz4,zz5,zz6,zz7,zz8,zz9,zza,zzb,zzc,zzd,zze,zzf,e1,e2,e7,e8,b8,a30,r1000,e9,hmd,hkf,hkl]
        refine Yx1 (cd) (fa12 @e1 @e2 @e7 @e8 @b8 @a30 @r1000 @e9 @hmd @hdl @hkf @hkl) ?_
        refine ⟨by (repeat' apply And.intro) <;> first | omega | (unfold maxLen;omega) | (intro _;omega) | decide,?_⟩
        refine hK _ ?_;clear hK K;try refine Wh0 ?_
        exact ⟨by rw [hks];exact (Yq1 @strL.eq_1),(Yq1 @e1),(Yq1 @e2),(Yq1 @e7),(Yq1 @e8),Yq0,(Yq1 @r1000),(Yq1 @e9),(Yq1 @hmd)⟩
    clear hX e1 e2 e7 e8 b8 r1000 e9 hmd st
    rintro st ⟨a30,e1,e2,e7,e8,b8,r1000,e9,hmd⟩
    have hps : (pagesK (i + 1)).flatMap intE = (pagesK i).flatMap intE ++ [intL (3 * (i : Int))] := by
      rw [pagesK_succ,List.flatMap_append];rfl
    have hpl1 : (pagesK (i + 1)).length = (pagesK i).length + 1 := by rw [pagesK_succ,List.length_append];rfl
    refine Yr1 (fa7 @e8 @b8 @r1000 @e9 @hmd @hw3 @hpf) ?_;intro K hK
    refine ⟨by (repeat' apply And.intro) <;> first | omega | (unfold maxLen;omega) | (intro _;omega) | decide,?_⟩
    refine hK _ ?_;clear hK K;try refine Wh0 ?_
    refine Yg1 (fa2 @e9 @hw) ?_
    exact ⟨m - 1,by omega,i + 1,_,by omega,.inr ⟨by omega,rfl,(Yq1 @a30)⟩,(Yq1 @e1),(Yq1 @e2),(Yq1 @e7),(Yq1 @e8),by unfold keysBox;rw [hps,hpl1];exact Yq0,by rw [hpl1];exact Yq0,(Yq1 @hw),(Yq1 @hmd)⟩
  rintro st ⟨X,hX,e1,e2,e7,e8,b8,r1000,hmd⟩
  (repeat (first | refine LW_seq ?_ | (refine LW_skip ?_;simp only [LSj,reduceIte,zze]) | refine LW_block ?_))
  refine LW_join (fun st => (0 < k → st.arr 30 = some ((keysK k).flatMap strE)) ∧ st.env 1 = intL at' ∧ st.env 2 = boolL tu ∧ st.env 7 = intL k ∧ st.env 8 = .ptr 8 0 ∧ st.box 8 = some (keysBox k X) ∧ st.row 1000 = some (3,(pagesK k).length) ∧ st.env 10 = boolL (mayKs k false) ∧ st.mode = fun d => d == 30) ?_ ?_
  · have hz : 0 < k → st.arr 30 = some ((keysK k).flatMap strE) := fun h => by
      rcases hX with ⟨h1,_⟩ | ⟨_,_,h3⟩
      · omega
      · exact h3
    by_cases h1 : 1 ≤ k
    · have h1i : ((1 : Int) ≤ (k : Int)) = True := eq_true (by omega)
      by_cases h4 : k ≤ 4
      · have h4i : ((k : Int) ≤ 4) = True := eq_true (by omega)
        have hm : mayKs k false = true := by unfold mayKs;simp [h1,h4]
        refine Yg1 (fa3 @e7 @h1i @h4i) ?_
        exact ⟨fun h => (Yq1 (hz h)),(Yq1 @e1),(Yq1 @e2),(Yq1 @e7),(Yq1 @e8),(Yq1 @b8),(Yq1 @r1000),by rw [hm];exact Yq0,(Yq1 @hmd)⟩
      · have h4i : ¬ ((k : Int) ≤ 4) := by omega
        have hm : mayKs k false = false := by unfold mayKs;simp [h4]
        refine Yg1 (fa3 @e7 @h1i @h4i) ?_
        exact ⟨fun h => (Yq1 (hz h)),(Yq1 @e1),(Yq1 @e2),(Yq1 @e7),(Yq1 @e8),(Yq1 @b8),(Yq1 @r1000),by rw [hm];exact Yq0,(Yq1 @hmd)⟩
    · have h1i : ¬ ((1 : Int) ≤ (k : Int)) := by omega
      have hm : mayKs k false = false := by unfold mayKs;simp [h1]
      refine Yg1 (fa2 @e7 @h1i) ?_
      exact ⟨fun h => (Yq1 (hz h)),(Yq1 @e1),(Yq1 @e2),(Yq1 @e7),(Yq1 @e8),(Yq1 @b8),(Yq1 @r1000),by rw [hm];exact Yq0,(Yq1 @hmd)⟩
  clear e1 e2 e7 e8 b8 r1000 hmd
  have hX2 : (k = 0 ∧ X = .sl 0 [] .nil) ∨ (0 < k ∧ X = .bsl 30 k 9) := hX.imp id fun h => ⟨h.1,h.2.1⟩
  clear hX st
  rintro st ⟨a30,e1,e2,e7,e8,b8,r1000,e10,hmd⟩
  (repeat (first | refine LW_seq ?_ | (refine LW_skip ?_;simp only [LSj,reduceIte,zze]) | refine LW_block ?_))
  refine LW_joinC (fun st => ∃ (i : Nat) (sw : Bool),(sw = true → i + 1 < k) ∧ (0 < k → st.arr 30 = some ((finK k i sw).flatMap strE)) ∧ st.env 8 = .ptr 8 0 ∧ st.box 8 = some (keysBox k X) ∧ st.row 1000 = some (3,(pagesK k).length) ∧ st.env 10 = boolL (mayKs k sw) ∧ st.mode = fun d => d == 30) ?_ ?_
  · cases tu with
    | false =>
      refine Yg1 @e2 ?_
      refine Yf0 ?_
      exact ⟨0,false,(fun h => by cases h),fun h => (Yq1 (a30 h)),(Yq1 @e8),(Yq1 @b8),(Yq1 @r1000),(Yq1 @e10),(Yq1 @hmd)⟩
    | true =>
      by_cases h2 : 2 ≤ k
      rotate_left
      · have h2i : ¬ ((2 : Int) ≤ (k : Int)) := by omega
        refine Yg1 (fa3 @e2 @e7 @h2i) ?_
        refine Yf0 ?_
        exact ⟨0,false,(fun h => by cases h),fun h => (Yq1 (a30 h)),(Yq1 @e8),(Yq1 @b8),(Yq1 @r1000),(Yq1 @e10),(Yq1 @hmd)⟩
      have h2i : ((2 : Int) ≤ (k : Int)) = True := eq_true (by omega)
      obtain ⟨hk0,rfl⟩ : 0 < k ∧ X = .bsl 30 k 9 := by
        rcases hX2 with ⟨h,_⟩ | h
        · omega
        · exact h
      have a30' := a30 hk0
      obtain ⟨i,hi⟩ : ∃ i,i = uI at' % (k - 1) := ⟨_,rfl⟩
      have hik : i < k - 1 := by rw [hi];exact Nat.mod_lt _ (by omega)
      have hv1 := wuI at'
      have hv2 : IntKind.u64.wrap ((k : Int) - 1) = ((k - 1 : Nat) : Int) := by rw [show (k : Int) - 1 = ((k - 1 : Nat) : Int) by omega];exact wuN (by omega)
      have hv4 : IntKind.i64.wrap ((k : Int) - 1) = ((k - 1 : Nat) : Int) := w64p (by omega) (by omega)
      have hv5 : IntKind.u64.wrap ((k - 1 : Nat) : Int) = ((k - 1 : Nat) : Int) := wuN (by omega)
      have hmod2 := nmod (uI at') (k - 1) ((k - 1 : Nat) : Int) rfl
      rw [← hi] at hmod2
      have hk10 : ¬ (((k - 1 : Nat) : Int) = 0) := by omega
      have hwi : IntKind.i64.wrap (i : Int) = (i : Int) := w64 (by omega)
      have hw1 := w64s (n := i) (by omega)
      have hkl := keysK_len k
      obtain ⟨x,hx⟩ := get_of_lt (l := keysK k) (i := i) (by omega)
      obtain ⟨y,hy⟩ := get_of_lt (l := keysK k) (i := i + 1) (by omega)
      have hdx := drop_str hx
      have hdy := drop_str hy
      have hs1 := strs_set (keysK k) i y (by omega)
      have hs2 := strs_set ((keysK k).set i y) (i + 1) x (by rw [List.length_set];omega)
      have hf1 := strE_flen (keysK k)
      have hf2 := strE_flen ((keysK k).set i y)
      rw [List.length_set] at hf2
      rw [hkl] at hf1 hf2
      have hsw : swapK (keysK k) i = ((keysK k).set i y).set (i + 1) x := by
        unfold swapK
        rw [List.getD_eq_getElem?_getD,List.getD_eq_getElem?_getD,hx,hy];rfl
      have hi0 : (0 : Int) ≤ (i : Int) := by omega
      have hi1 : (0 : Int) ≤ ((i + 1 : Nat) : Int) := by omega
      have hil : ((i : Int) < (k : Int)) = True := eq_true (by omega)
      have hil1 : (((i + 1 : Nat) : Int) < (k : Int)) = True := eq_true (by omega)
      simp only [strL] at hs1 hs2 hdx hdy
      rw [hdy] at hs1
      simp only [keysBox] at b8
      have hmk : mayKs k true = false := by unfold mayKs;simp
      refine Yg1 (fa3 @e2 @e7 @h2i) ?_
      refine Yt0 ?_
      refine Yo1 (fa9 @e1 @e7 @hv1 @hv2 @hv4 @hv5 @hmod2 @hk10 @hwi) ?_
      refine LW_slim (fun st => st.env 11 = intL i ∧ st.env 8 = .ptr 8 0 ∧ st.box 8 = some (keysBox k (.bsl 30 k 9)) ∧ st.arr 30 = some ((keysK k).flatMap strE) ∧ st.row 1000 = some (3,(pagesK k).length) ∧ st.mode = fun d => d == 30) ⟨Yq0,(Yq1 @e8),(Yq1 (fa2 @b8 @keysBox.eq_1)),(Yq1 @a30'),(Yq1 @r1000),(Yq1 @hmd)⟩ ?_
      clear a30' a30 e1 e2 e7 e8 b8 r1000 e10 hmd st
      rintro st ⟨e11,e8,b8,a30,r1000,hmd⟩
      simp only [keysBox] at b8
      (repeat (first | refine LW_seq ?_ | (refine LW_skip ?_;simp only [LSj,reduceIte,zze]) | refine LW_block ?_))
      refine LW_join (fun st => st.env 8 = .ptr 8 0 ∧ st.box 8 = some (keysBox k (.bsl 30 k 9)) ∧ st.arr 30 = some ((finK k i true).flatMap strE) ∧ st.row 1000 = some (3,(pagesK k).length) ∧ st.mode = fun d => d == 30) ?_ ?_
      · (repeat (first | refine LW_seq ?_ | (refine LW_skip ?_;simp only [LSj,reduceIte,zze]) | refine LW_block ?_));refine LW_mix2 [] [] (fun d => d == 30) [(5,[]),(6,[]),(19,[])] [0,1,2,5,6,7,8,9,10,11,12,13,14,15,16,17,18] [[3,4,19,20,21],[3,19,4,20,21],[19,3,4,20,21]] rfl (by kernel_rfl) (by kernel_rfl) (by kernel_rfl) (by first | exact rfl | exact hmd | simp only [LZ,zo,zc,reduceCtorEq,reduceIte,zz1,zz2,zz3,zz4,zz5,zz6,zz7,zz8,zz9,zza,zzb,zzc,zzd,zze,zzf,e8,b8,e11,a30,hmd,hw1,hi0,hi1,hil,hil1,hdx,hdy,hs1,hs2,hf1,hf2]) ?_;intro K hK;simp only [LZ,zo,zc,reduceCtorEq,reduceIte,zz1,zz2,zz3,zz4,zz5,zz6,zz7,zz8,zz9,zza,zzb,zzc,zzd,zze,zzf,e8,b8,e11,a30,hmd,hw1,hi0,hi1,hil,hil1,hdx,hdy,hs1,hs2,hf1,hf2]
        have hfin : (finK k i true).flatMap strE = ((((keysK k).set i y).set (i + 1) x)).flatMap strE := by rw [← hsw];rfl
        (repeat' apply And.intro) <;> first | omega | ((refine hK _ ?_;clear hK K;try refine Wh0 ?_);exact ⟨(Yq1 @e8),(Yq1 (fa2 @b8 @keysBox.eq_1)),by rw [hfin];exact Yq0,(Yq1 @r1000),(Yq1 @hmd)⟩)
      clear e11 e8 b8 a30 r1000 hmd st
      rintro st ⟨e8,b8,a30,r1000,hmd⟩
      refine Yg0 ?_
      exact ⟨i,true,fun _ => by omega,fun _ => (Yq1 @a30),(Yq1 @e8),(Yq1 @b8),(Yq1 @r1000),by rw [hmk];exact Yq0,(Yq1 @hmd)⟩
  clear a30 e1 e2 e7 e8 b8 r1000 e10 hmd st
  rintro st ⟨i,sw,hsw,a30,e8,b8,r1000,e10,hmd⟩
  have hms := finK_may (i := i) (sw := sw) hk7 hsw
  have hfl := finK_len k i sw
  have hfk := finK_key hsw
  have hpl := pagesK_len k
  refine LW_two (fun st => st.env 8 = .ptr 8 0 ∧ st.box 8 = some (pgL ⟨false,[],finK k i sw,pagesK k⟩) ∧ st.env 10 = boolL (mayKs k sw) ∧ st.mode = fun d => d == 30) ?_ ?_
  · intro hJ
    rcases hX2 with ⟨rfl,rfl⟩ | ⟨hk0,rfl⟩
    · refine LW_plainBox (cs := keysBox 0 (.sl 0 [] .nil)) 8 (Yq1 @b8) ?_
      have hf0 : finK 0 i sw = [] := List.eq_nil_of_length_eq_zero hfl
      exact hJ _ ⟨(Yq1 @e8),by rw [hf0];exact (by first | exact rfl | assumption | (simp only [LZ,zo,zc,reduceCtorEq,reduceIte,zz1,zz2,zz3,zz4,zz5,zz6,zz7,zz8,zz9,zza,zzb,zzc,zzd,zze,zzf,keysBox,pgL,rowL,strsL,intsL,plain1,List.map_cons,List.map_nil,List.flatMap_nil,List.length_nil] <;> exact rfl)),(Yq1 @e10),(Yq1 @hmd)⟩
    · have a30' := a30 hk0
      have hsf : sizeL Tryz.prog 9 = 1 := by kernel_rfl
      have hlf := strE_flen (finK k i sw)
      rw [hfl] at hlf
      refine LW_pub [(30,(finK k i sw).flatMap strE)] ⟨(Yq1 @a30'),trivial⟩ ?_
      simp only [keysBox] at b8
      refine LW_plainBox (cs := [boolL false,.sl 0 [] .nil,.sl k ((finK k i sw).flatMap strE) .no,.sl (pagesK k).length ((pagesK k).flatMap intE) (.row 1000)]) 8 (Yq1 (fa3 @b8 @hsf @hlf)) ?_
      exact hJ _ ⟨(Yq1 (fa3 @e8 @hsf @hlf)),(by first | exact rfl | assumption | (simp only [LZ,zo,zc,reduceCtorEq,reduceIte,zz1,zz2,zz3,zz4,zz5,zz6,zz7,zz8,zz9,zza,zzb,zzc,zzd,zze,zzf,hfl,keysBox,pgL,rowL,strsL,intsL,plain1,List.map_cons,List.map_nil,List.flatMap_nil,List.length_nil] <;> exact rfl)),(Yq1 (fa3 @e10 @hsf @hlf)),(Yq1 @hmd)⟩
  clear a30 e8 b8 r1000 e10 hmd st
  rintro st ⟨e8,b8,e10,hmd⟩
  have hsm : SmallP ⟨false,[],finK k i sw,pagesK k⟩ := ⟨by simp,by simp only [hfl];omega,by simp only [hpl];omega,(fun r hr => by cases hr),fun x hx => by rw [hfk x hx];omega⟩
  have hsm2 : SmallP ⟨true,[],finK k i sw,pagesK k⟩ := ⟨by simp,by simp only [hfl];omega,by simp only [hpl];omega,(fun r hr => by cases hr),fun x hx => by rw [hfk x hx];omega⟩
  have c1 := pput_L ⟨false,[],finK k i sw,pagesK k⟩ hsm (fun r hr => by cases hr)
  have c2 := ppmay_L ⟨false,[],finK k i sw,pagesK k⟩ hsm
  have c3 := ppmay_L ⟨true,[],finK k i sw,pagesK k⟩ hsm2
  rw [leafK_may] at c3
  rw [hms] at c2
  unfold pputP at c1
  rw [hms] at c1
  simp only [pgL,rowL,strsL,intsL] at b8
  cases hb : mayKs k sw
  · rw [hb] at c1 c2 e10
    rw [if_neg (by decide)] at c1
    simp only [pgL,rowL,strsL,intsL,bytesL'] at c1 c2 c3
    refine Yr1 (fa2 @e8 @b8) ?_;intro K hK
    refine Yc1 (c1) (fa2 @e8 @b8) ?_
    refine hK _ ?_;clear hK K;try refine Wh0 ?_
    refine Yo1 (fa2 @e8 @b8) ?_
    refine Yo1 (fa2 @e8 @b8) ?_
    refine Yr1 (fa3 @e8 @b8 @e10) ?_;intro K hK
    refine Yc1 (t0) (fa3 @e8 @b8 @e10) ?_
    refine Yc1 (c2) (fa3 @e8 @b8 @e10) ?_
    refine Yc1 (c3) (fa3 @e8 @b8 @e10) ?_
    refine hK _ ?_;clear hK K;try refine Wh0 ?_
    refine Ye0 ?_;try (with_reducible exact trivial)
  · rw [hb] at c1 c2 e10
    rw [if_pos rfl] at c1
    have hpp := putPg_pos ⟨false,[],finK k i sw,pagesK k⟩
    generalize putPg ⟨false,[],finK k i sw,pagesK k⟩ = X at *
    have hxi : ((0 : Int) < (X.length : Int)) = True := eq_true (by omega)
    simp only [pgL,rowL,strsL,intsL,bytesL'] at c1 c2 c3
    refine Yr1 (fa2 @e8 @b8) ?_;intro K hK
    refine Yc1 (c1) (fa2 @e8 @b8) ?_
    refine hK _ ?_;clear hK K;try refine Wh0 ?_
    refine Yo1 (fa2 @e8 @b8) ?_
    refine Yo1 (fa2 @e8 @b8) ?_
    refine Yr1 (fa4 @e8 @b8 @e10 @hxi) ?_;intro K hK
    refine Yc1 (t0) (fa4 @e8 @b8 @e10 @hxi) ?_
    refine Yc1 (c2) (fa4 @e8 @b8 @e10 @hxi) ?_
    refine Yc1 (c3) (fa4 @e8 @b8 @e10 @hxi) ?_
    refine hK _ ?_;clear hK K;try refine Wh0 ?_
    refine Ye0 ?_;try (with_reducible exact trivial)
end Go.Proofs.YteamlijbkldlhaaGreatDoor
end
