import Derived.Test.YtpficpldemickaaKTQ
import Derived.Test.YtpficpldemickaaKIT
import Derived.Test.YtpficpldemickaaIPart
set_option linter.unusedSimpArgs false
set_option linter.unusedVariables false
namespace Go.Proofs.Ytpficpldemickaa
open Nat renaming reduceAdd → zz1,reduceMul → zz2,reduceSub → zz3,reduceLT → zz4,reduceLeDiff → zz5,reduceEqDiff → zz6,reduceBEq → zzf
open Int renaming reduceAdd → zz7,reduceSub → zz8,reduceMul → zz9,reduceLT → zza,reduceLE → zzb,reduceEq → zzc,reduceNeg → zzd,reduceToNat → zze
open Op renaming operands → zo
open Call renaming operands → zc
open Go.RowKit Go.Proofs AclSpec MetaSpec NodeSpec PathSpec TreeSpec

theorem intE_one (l : List Int) : (l.flatMap intE).all oneL = true := by
  rw [List.all_eq_true]
  intro x hx
  obtain ⟨m,_,hx⟩ := List.mem_flatMap.1 hx
  simp only [intE,List.mem_cons,List.not_mem_nil,or_false] at hx
  rcases hx with rfl;rfl
theorem intE_take (l : List Int) (k : Nat) : (l.flatMap intE).take k = (l.take k).flatMap intE := by
  have := take_flat' intE 1 intE_len l k
  rwa [Nat.mul_one] at this
theorem intE_strip (l : List Int) : (l.flatMap intE).map strip1 = l.flatMap intE := strip1_enc (fun x => rfl) l
set_option maxRecDepth 100000 in
set_option maxHeartbeats 8000000 in
theorem isoSame_L (l m : List Int) (cut : Int) (hlm : l.length + m.length ≤ 3000000) : LCalls Try.prog 4 [intsL l,intsL m,intL cut] (boolL true) := by
  have t0 := itold_L
  simp only [boolL] at t0
  have c1 := make_L l
  obtain ⟨hw1,_⟩ := uN_eq cut
  generalize uN cut = cu at *
  have hnn : ¬ ((l.length : Int) + 1 = 0) := by omega
  have f0 : IntKind.i64.wrap ((l.length : Int) + 1) = (l.length : Int) + 1 := w64 (by omega)
  have f1 : IntKind.u64.wrap ((l.length : Int) + 1) = (l.length : Int) + 1 := by
    have := wu (n := l.length + 1) (by omega)
    rwa [show ((l.length + 1 : Nat) : Int) = (l.length : Int) + 1 by omega] at this
  have f2 := umod cu (l.length + 1) ((l.length : Int) + 1) (by omega)
  have hk : cu % (l.length + 1) < l.length + 1 := Nat.mod_lt _ (by omega)
  have f3 : IntKind.i64.wrap ((cu % (l.length + 1) : Nat) : Int) = ((cu % (l.length + 1) : Nat) : Int) := w64 (by omega)
  generalize hk0 : cu % (l.length + 1) = k at *
  have c2 := make_L (l.take k ++ m)
  have ha := make_may (l.map uN)
  have hb := make_may ((l.take k ++ m).map uN)
  generalize makeT fileU (l.map uN) = a at *
  generalize makeT fileU ((l.take k ++ m).map uN) = b at *
  have hsa := (mayT_small ha).1
  have hsb := (mayT_small hb).1
  have cA := alike_L a b hsa hsb
  have s1 := isame_L a b hsa hsb
  have s2 := isame_L b a hsb hsa
  have s3 := isame_L a a hsa hsa
  have p1 := ipaths_L a b hsa hsb
  have p2 := ipaths_L b a hsb hsa
  have w1 := iwithin_L a b hsa hsb
  have w2 := iwithin_L b a hsb hsa
  have hw := within_paths ha hb
  rw [same_eq ha hb] at s1
  rw [same_eq hb ha,show decide (b = a) = decide (a = b) from decide_eq_decide.2 eq_comm] at s2
  rw [same_self ha] at s3
  rw [pathsA_symm b a] at p2
  generalize decide (a = b) = sm at *
  have hlk : (l.take k).length = k := by rw [List.length_take];omega
  have hif := intE_flen l
  have hmf := intE_flen m
  have hkf : ((l.take k).flatMap intE).length = k := by rw [intE_flen,hlk]
  have h1 := intE_take l k
  have h2 := intE_strip (l.take k)
  have h3 := intE_strip m
  have h4 := intE_one (l.take k)
  have h5 := intE_one m
  simp only [intsL,rowL,List.length_append,hlk,List.flatMap_append,treeL] at c1 c2 cA s1 s2 s3 p1 p2 w1 w2
  have o2 := c2.toO
  have hkp : (0 : Int) ≤ (k : Int) := by omega
  have hkl : (k : Int) ≤ (l.length : Int) := by omega
  have hkl2 : k ≤ l.length := by omega
  refine LCalls.of (fun d => d == 21) Try.func4 rfl (by decide) Try.ntmps4 Try.results4 (by simp) ?_
  intro w0 S0 vs hgl hwf0 hsz hvs;clear hsz hvs hwf0 hgl
  refine Yg1 (fa7 @intsL.eq_1 @hnn @hw1 @f0 @f1 @f2 @f3) ?_
  refine LW_slim (fun st => st.env 0 = intsL l ∧ st.env 1 = intsL m ∧ st.env 7 = intL k ∧ st.mode = fun d => d == 21) ⟨(Yq1 @intsL.eq_1),(Yq1 @intsL.eq_1),(Yq1 (fa5 @hw1 @f0 @f1 @f2 @f3)),rfl⟩ ?_
  rintro st ⟨e0,e1,e7,hmd⟩
  simp only [intsL,rowL] at e0 e1
  (repeat refine LW_seq ?_)
  refine LW_join (fun st => st.env 8 = .ptr 8 0 ∧ st.box 8 = some (treeL a) ∧ st.env 9 = .ptr 9 0 ∧ st.box 9 = some (treeL b) ∧ st.mode = fun d => d == 21) ?_ ?_
  · (repeat (first | refine LW_seq ?_ | (refine LW_skip ?_;simp only [LSj,reduceIte,zze]) | refine LW_block ?_));refine LW_mix2 [(28,⟨_,_,_,_,_,[],[],o2,rfl,rfl⟩)] [28] (fun d => d == 21) [(0,[]),(1,[]),(3,[]),(4,[]),(5,[]),(7,[]),(2,[]),(6,[]),(8,[]),(9,[]),(10,[]),(11,[]),(12,[])] [0,1,3,4,5,7] [[2,6,8,9,10,11,12,13],[2,6,8,9,11,10,12,13],[2,6,8,10,9,11,12,13],[2,6,8,10,11,9,12,13],[2,6,8,11,9,10,12,13],[2,6,8,11,10,9,12,13],[2,6,10,8,9,11,12,13],[2,6,10,8,11,9,12,13],[2,6,10,11,8,9,12,13],[2,6,11,8,9,10,12,13],[2,6,11,8,10,9,12,13],[2,6,11,10,8,9,12,13],[2,10,6,8,9,11,12,13],[2,10,6,8,11,9,12,13],[2,10,6,11,8,9,12,13],[2,10,11,6,8,9,12,13],[2,11,6,8,9,10,12,13],[2,11,6,8,10,9,12,13],[2,11,6,10,8,9,12,13],[2,11,10,6,8,9,12,13],[10,2,6,8,9,11,12,13],[10,2,6,8,11,9,12,13],[10,2,6,11,8,9,12,13],[10,2,11,6,8,9,12,13],[10,11,2,6,8,9,12,13],[11,2,6,8,9,10,12,13],[11,2,6,8,10,9,12,13],[11,2,6,10,8,9,12,13],[11,2,10,6,8,9,12,13],[11,10,2,6,8,9,12,13]] rfl (by kernel_rfl) (by kernel_rfl) (by kernel_rfl) (by first | exact rfl | exact hmd | simp only [LZ,zo,zc,reduceCtorEq,reduceIte,zz1,zz2,zz3,zz4,zz5,zz6,zz7,zz8,zz9,zza,zzb,zzc,zzd,zze,zzf,e0,e1,e7,hmd,hkp,hkl,hkl2,hkf,hmf,hif,h1,h2,h3,h4,h5,Nat.sub_zero]) ?_;intro K hK;simp only [LZ,zo,zc,reduceCtorEq,reduceIte,zz1,zz2,zz3,zz4,zz5,zz6,zz7,zz8,zz9,zza,zzb,zzc,zzd,zze,zzf,e0,e1,e7,hmd,hkp,hkl,hkl2,hkf,hmf,hif,h1,h2,h3,h4,h5,Nat.sub_zero]
    refine Yx1 (c1) (fa16 @e0 @e1 @e7 @hmd @hkp @hkl @hkl2 @hkf @hmf @hif @h1 @h2 @h3 @h4 @h5 @Nat.sub_zero) ?_
    refine ⟨by first | rfl | kernel_rfl,?_⟩
    (repeat' apply And.intro) <;> first | omega | (unfold maxLen;omega) | exact rfl | ((refine hK _ ?_;clear hK K;try refine Wh0 ?_);exact ⟨Yq0,(Yq1 @treeL.eq_1),Yq0,(Yq1 @treeL.eq_1),(Yq1 @hmd)⟩)
  clear e0 e1 e7 hmd st
  rintro st ⟨e8,b8,e9,b9,hmd⟩
  simp only [treeL] at b8 b9
  refine Yr1 (fa5 @e8 @b8 @e9 @b9 @hmd) ?_;intro K hK
  refine Yc1 (cA) (fa5 @e8 @b8 @e9 @b9 @hmd) ?_
  refine hK _ ?_;clear hK K;try refine Wh0 ?_
  refine LW_slim (fun st => st.env 8 = .ptr 8 0 ∧ st.box 8 = some (treeL a) ∧ st.env 9 = .ptr 9 0 ∧ st.box 9 = some (treeL b) ∧ st.env 10 = boolL sm ∧ st.mode = fun d => d == 21) ⟨(Yq1 @e8),(Yq1 (fa2 @b8 @treeL.eq_1)),(Yq1 @e9),(Yq1 (fa2 @b9 @treeL.eq_1)),Yq0,(Yq1 @hmd)⟩ ?_
  clear e8 b8 e9 b9 hmd st
  rintro st ⟨e8,b8,e9,b9,e10,hmd⟩
  simp only [treeL] at b8 b9
  cases h6 : withinA a b
  · rw [h6] at hw w1
    have hpe : ¬ (pathsA a b = []) := by
      intro c
      rw [decide_eq_true c] at hw;simp at hw
    refine Yn1 (fa7 @e8 @b8 @e9 @b9 @e10 @hpe @hmd) ?_;intro K hK
    refine Yc1 (t0) (fa7 @e8 @b8 @e9 @b9 @e10 @hpe @hmd) ?_
    refine Yc1 (s1) (fa7 @e8 @b8 @e9 @b9 @e10 @hpe @hmd) ?_
    refine Yc1 (s2) (fa7 @e8 @b8 @e9 @b9 @e10 @hpe @hmd) ?_
    refine Yc1 (s3) (fa7 @e8 @b8 @e9 @b9 @e10 @hpe @hmd) ?_
    refine Yc1 (p1) (fa7 @e8 @b8 @e9 @b9 @e10 @hpe @hmd) ?_
    refine Yc1 (p2) (fa7 @e8 @b8 @e9 @b9 @e10 @hpe @hmd) ?_
    refine Yc1 (w1) (fa7 @e8 @b8 @e9 @b9 @e10 @hpe @hmd) ?_
    refine Yc1 (p1) (fa7 @e8 @b8 @e9 @b9 @e10 @hpe @hmd) ?_
    refine hK _ ?_;clear hK K;try refine Wh0 ?_
    refine Ye0 ?_;try (with_reducible exact trivial)
  · rw [h6] at hw w1
    cases h7 : withinA b a
    · rw [h7] at hw w2
      have hpe : ¬ (pathsA a b = []) := by
        intro c
        rw [decide_eq_true c] at hw;simp at hw
      refine Yn1 (fa7 @e8 @b8 @e9 @b9 @e10 @hpe @hmd) ?_;intro K hK
      refine Yc1 (t0) (fa7 @e8 @b8 @e9 @b9 @e10 @hpe @hmd) ?_
      refine Yc1 (s1) (fa7 @e8 @b8 @e9 @b9 @e10 @hpe @hmd) ?_
      refine Yc1 (s2) (fa7 @e8 @b8 @e9 @b9 @e10 @hpe @hmd) ?_
      refine Yc1 (s3) (fa7 @e8 @b8 @e9 @b9 @e10 @hpe @hmd) ?_
      refine Yc1 (p1) (fa7 @e8 @b8 @e9 @b9 @e10 @hpe @hmd) ?_
      refine Yc1 (p2) (fa7 @e8 @b8 @e9 @b9 @e10 @hpe @hmd) ?_
      refine Yc1 (w1) (fa7 @e8 @b8 @e9 @b9 @e10 @hpe @hmd) ?_
      refine Yc1 (w2) (fa7 @e8 @b8 @e9 @b9 @e10 @hpe @hmd) ?_
      refine Yc1 (p1) (fa7 @e8 @b8 @e9 @b9 @e10 @hpe @hmd) ?_
      refine hK _ ?_;clear hK K;try refine Wh0 ?_
      refine Ye0 ?_;try (with_reducible exact trivial)
    · rw [h7] at hw w2
      have hpe : (pathsA a b = []) = True := eq_true (by simpa using hw)
      refine Yn1 (fa7 @e8 @b8 @e9 @b9 @e10 @hpe @hmd) ?_;intro K hK
      refine Yc1 (t0) (fa7 @e8 @b8 @e9 @b9 @e10 @hpe @hmd) ?_
      refine Yc1 (s1) (fa7 @e8 @b8 @e9 @b9 @e10 @hpe @hmd) ?_
      refine Yc1 (s2) (fa7 @e8 @b8 @e9 @b9 @e10 @hpe @hmd) ?_
      refine Yc1 (s3) (fa7 @e8 @b8 @e9 @b9 @e10 @hpe @hmd) ?_
      refine Yc1 (p1) (fa7 @e8 @b8 @e9 @b9 @e10 @hpe @hmd) ?_
      refine Yc1 (p2) (fa7 @e8 @b8 @e9 @b9 @e10 @hpe @hmd) ?_
      refine Yc1 (w1) (fa7 @e8 @b8 @e9 @b9 @e10 @hpe @hmd) ?_
      refine Yc1 (w2) (fa7 @e8 @b8 @e9 @b9 @e10 @hpe @hmd) ?_
      refine Yc1 (p1) (fa7 @e8 @b8 @e9 @b9 @e10 @hpe @hmd) ?_
      refine hK _ ?_;clear hK K;try refine Wh0 ?_
      refine Ye0 ?_;try (with_reducible exact trivial)
end Go.Proofs.Ytpficpldemickaa
