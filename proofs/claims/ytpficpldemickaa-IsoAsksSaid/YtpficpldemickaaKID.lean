import Derived.Test.YtpficpldemickaaKIC
import Derived.Test.YtpficpldemickaaKTD
import Derived.Test.YtpficpldemickaaKR4
set_option linter.unusedSimpArgs false
set_option linter.unusedVariables false
namespace Go.Proofs.Ytpficpldemickaa
open Nat renaming reduceAdd → zz1,reduceMul → zz2,reduceSub → zz3,reduceLT → zz4,reduceLeDiff → zz5,reduceEqDiff → zz6,reduceBEq → zzf
open Int renaming reduceAdd → zz7,reduceSub → zz8,reduceMul → zz9,reduceLT → zza,reduceLE → zzb,reduceEq → zzc,reduceNeg → zzd,reduceToNat → zze
open Op renaming operands → zo
open Call renaming operands → zc
open Go.RowKit Go.Proofs AclSpec MetaSpec NodeSpec PathSpec TreeSpec

theorem lone_step {l b : List TEnt} {i : Nat} {e : TEnt} (h : l[i]? = some e) : TreeSpec.lone (l.drop i) b = if (findT b e.path).2 then TreeSpec.lone (l.drop (i + 1)) b else e.path := by
  obtain ⟨hi,rfl⟩ := List.getElem?_eq_some_iff.1 h
  rw [List.drop_eq_getElem_cons hi,TreeSpec.lone]
theorem lone_small {a b : FTree} (ha : SmallT a) : (TreeSpec.lone a.ents b.ents).length < 1000000 := by
  rcases lone_mem (b := b.ents) (l := a.ents) with h | ⟨e,he,h⟩
  · rw [h];exact (by decide : 0 < 1000000)
  · rw [h];exact ha.path e he

set_option maxRecDepth 100000 in
theorem rlone_L (a b : FTree) (ha : SmallT a) (hb : SmallT b) : LCalls Try.prog 32 [.agg (treeL a),.agg (treeL b)] (strL (TreeSpec.lone a.ents b.ents)) := by
  have hla := ha.ents
  refine LCalls.of (fun _ => false) Try.func32 rfl (by decide) Try.ntmps32 Try.results32 (by simp) ?_
  intro w0 S0 vs hgl hwf0 hsz hvs;clear hsz hvs hwf0 hgl
  generalize hR : TreeSpec.lone a.ents b.ents = R
  (repeat (first | refine LW_seq ?_ | ((first | (refine LW_region ?_;intro K hK;simp only [LZ,zo,zc,reduceCtorEq,reduceIte,zz1,zz2,zz3,zz4,zz5,zz6,zz7,zz8,zz9,zza,zzb,zzc,zzd,zze,zzf,treeL];refine hK _ ?_;clear hK K) | refine LW_label ?_ | refine LW_skip ?_);try simp only [LSj,reduceIte,zze]) | refine LW_block ?_))
  refine LW_joinB (fun st => [] = R) ?_ ?_
  · refine LW_loop (fun n st => ∃ i : Nat,n + i = a.ents.length ∧ st.env 2 = .ptr 2 0 ∧ st.box 2 = some (treeL a) ∧ st.env 3 = .ptr 3 0 ∧ st.box 3 = some (treeL b) ∧ st.env 5 = intL i ∧ TreeSpec.lone (a.ents.drop i) b.ents = R ∧ st.mode = fun _ => false) a.ents.length ⟨0,by omega,rfl,(by first | exact rfl | assumption | (simp only [LZ,zo,zc,reduceCtorEq,reduceIte,zz1,zz2,zz3,zz4,zz5,zz6,zz7,zz8,zz9,zza,zzb,zzc,zzd,zze,zzf,treeL] <;> exact rfl)),rfl,(by first | exact rfl | assumption | (simp only [LZ,zo,zc,reduceCtorEq,reduceIte,zz1,zz2,zz3,zz4,zz5,zz6,zz7,zz8,zz9,zza,zzb,zzc,zzd,zze,zzf,treeL] <;> exact rfl)),rfl,hR,rfl⟩ ?_
    rintro n st ⟨i,hn,e2,b2,e3,b3,e5,hr,hmd⟩
    simp only [treeL] at b2 b3
    by_cases hlt : i < a.ents.length
    rotate_left
    · rw [List.drop_of_length_le (by omega)] at hr
      (repeat (first | refine LW_seq ?_ | ((first | (refine LW_region ?_;intro K hK;simp only [LZ,zo,zc,reduceCtorEq,reduceIte,zz1,zz2,zz3,zz4,zz5,zz6,zz7,zz8,zz9,zza,zzb,zzc,zzd,zze,zzf,e2,b2,e5,hlt];refine hK _ ?_;clear hK K) | refine LW_label ?_ | refine LW_skip ?_);try simp only [LSj,reduceIte,zze]) | refine LW_block ?_))
      refine LW_if ?_;intro X Y hX hY;simp only [LZ,zo,zc,reduceCtorEq,reduceIte,zz1,zz2,zz3,zz4,zz5,zz6,zz7,zz8,zz9,zza,zzb,zzc,zzd,zze,zzf,hlt];refine hY ?_;clear hX hY X Y;(try simp only [LSj,reduceIte,zze]);(try (refine LW_skip ?_;simp only [LSj,reduceIte,zze]))
      refine LW_exit ?_;simp only [thenL,jumpsL,inBlockL,twoL,reduceIte,Nat.reduceEqDiff]
      exact hr
    obtain ⟨e,he⟩ := get_of_lt hlt
    have hd := drop_tent he
    have hw := w64s (n := i) (by omega)
    have hip : (0 : Int) ≤ (i : Int) := by omega
    have cf := rfind_L b hb e.path
    rw [lone_step he] at hr
    simp only [treeL] at cf
    generalize findT b.ents e.path = f at *
    (repeat (first | refine LW_seq ?_ | ((first | (refine LW_region ?_;intro K hK;simp only [LZ,zo,zc,reduceCtorEq,reduceIte,zz1,zz2,zz3,zz4,zz5,zz6,zz7,zz8,zz9,zza,zzb,zzc,zzd,zze,zzf,e2,b2,e5,hlt];refine hK _ ?_;clear hK K) | refine LW_label ?_ | refine LW_skip ?_);try simp only [LSj,reduceIte,zze]) | refine LW_block ?_))
    refine LW_if ?_;intro X Y hX hY;simp only [LZ,zo,zc,reduceCtorEq,reduceIte,zz1,zz2,zz3,zz4,zz5,zz6,zz7,zz8,zz9,zza,zzb,zzc,zzd,zze,zzf,hlt];refine hX ?_;clear hX hY X Y;try simp only [LSj,reduceIte,zze]
    (repeat (first | refine LW_seq ?_ | (refine LW_skip ?_;simp only [LSj,reduceIte,zze]) | refine LW_block ?_));refine LW_any (by kernel_rfl) (by kernel_rfl) (by kernel_rfl) (by first | exact rfl | (rw [hmd];exact rfl)) ?_;intro K hK;simp only [LZ,zo,zc,reduceCtorEq,reduceIte,zz1,zz2,zz3,zz4,zz5,zz6,zz7,zz8,zz9,zza,zzb,zzc,zzd,zze,zzf,e2,b2,e3,b3,e5,hlt,hip,hd,hmd]
    refine cop_intro ?ha (cf) ?_;(case ha => (simp only [LZ,zo,zc,reduceCtorEq,reduceIte,zz1,zz2,zz3,zz4,zz5,zz6,zz7,zz8,zz9,zza,zzb,zzc,zzd,zze,zzf,hmd]) <;> rfl);simp only [LZ,zo,zc,reduceCtorEq,reduceIte,zz1,zz2,zz3,zz4,zz5,zz6,zz7,zz8,zz9,zza,zzb,zzc,zzd,zze,zzf,hmd]
    refine hK _ ?_;clear hK K;try simp only [LSj,reduceIte,zze]
    cases hf : f.2
    · rw [hf] at hr
      (repeat (first | refine LW_seq ?_ | ((first | (refine LW_region ?_;intro K hK;simp only [LZ,zo,zc,reduceCtorEq,reduceIte,zz1,zz2,zz3,zz4,zz5,zz6,zz7,zz8,zz9,zza,zzb,zzc,zzd,zze,zzf,hf];refine hK _ ?_;clear hK K) | refine LW_label ?_ | refine LW_skip ?_);try simp only [LSj,reduceIte,zze]) | refine LW_block ?_))
      refine LW_if ?_;intro X Y hX hY;simp only [LZ,zo,zc,reduceCtorEq,reduceIte,zz1,zz2,zz3,zz4,zz5,zz6,zz7,zz8,zz9,zza,zzb,zzc,zzd,zze,zzf];refine hX ?_;clear hX hY X Y;try simp only [LSj,reduceIte,zze]
      (repeat (first | refine LW_seq ?_ | ((first | (refine LW_region ?_;intro K hK;simp only [LZ,zo,zc,reduceCtorEq,reduceIte,zz1,zz2,zz3,zz4,zz5,zz6,zz7,zz8,zz9,zza,zzb,zzc,zzd,zze,zzf,e2,b2,e5,hlt,hip,hd];refine hK _ ?_;clear hK K) | refine LW_label ?_ | refine LW_skip ?_);try simp only [LSj,reduceIte,zze]) | refine LW_block ?_))
      refine LW_ret ?_;simp only [thenL,jumpsL,inBlockL,twoL,bodyQ,LV.lit.injEq,LV.tup.injEq,LV.agg.injEq,LV.sl.injEq,List.cons.injEq,Value.int.injEq,Value.bool.injEq,Value.string.injEq,ByteArray.mk.injEq,exists_eq_left',exists_eq_left,exists_eq_right,LZ,zo,zc,reduceCtorEq,reduceIte,zz1,zz2,zz3,zz4,zz5,zz6,zz7,zz8,zz9,zza,zzb,zzc,zzd,zze,zzf]
      rw [← hr];rfl
    · rw [hf] at hr
      (repeat (first | refine LW_seq ?_ | ((first | (refine LW_region ?_;intro K hK;simp only [LZ,zo,zc,reduceCtorEq,reduceIte,zz1,zz2,zz3,zz4,zz5,zz6,zz7,zz8,zz9,zza,zzb,zzc,zzd,zze,zzf,hf];refine hK _ ?_;clear hK K) | refine LW_label ?_ | refine LW_skip ?_);try simp only [LSj,reduceIte,zze]) | refine LW_block ?_))
      refine LW_if ?_;intro X Y hX hY;simp only [LZ,zo,zc,reduceCtorEq,reduceIte,zz1,zz2,zz3,zz4,zz5,zz6,zz7,zz8,zz9,zza,zzb,zzc,zzd,zze,zzf];refine hY ?_;clear hX hY X Y;(try simp only [LSj,reduceIte,zze]);(try (refine LW_skip ?_;simp only [LSj,reduceIte,zze]))
      (repeat (first | refine LW_seq ?_ | ((first | (refine LW_region ?_;intro K hK;simp only [LZ,zo,zc,reduceCtorEq,reduceIte,zz1,zz2,zz3,zz4,zz5,zz6,zz7,zz8,zz9,zza,zzb,zzc,zzd,zze,zzf,e5,hw];refine hK _ ?_;clear hK K) | refine LW_label ?_ | refine LW_skip ?_);try simp only [LSj,reduceIte,zze]) | refine LW_block ?_))
      exact ⟨n - 1,by omega,i + 1,by omega,(by first | exact rfl | assumption | (simp only [LZ,zo,zc,reduceCtorEq,reduceIte,zz1,zz2,zz3,zz4,zz5,zz6,zz7,zz8,zz9,zza,zzb,zzc,zzd,zze,zzf,e2] <;> exact rfl)),(by first | exact rfl | assumption | (simp only [LZ,zo,zc,reduceCtorEq,reduceIte,zz1,zz2,zz3,zz4,zz5,zz6,zz7,zz8,zz9,zza,zzb,zzc,zzd,zze,zzf,b2,treeL] <;> exact rfl)),(by first | exact rfl | assumption | (simp only [LZ,zo,zc,reduceCtorEq,reduceIte,zz1,zz2,zz3,zz4,zz5,zz6,zz7,zz8,zz9,zza,zzb,zzc,zzd,zze,zzf,e3] <;> exact rfl)),(by first | exact rfl | assumption | (simp only [LZ,zo,zc,reduceCtorEq,reduceIte,zz1,zz2,zz3,zz4,zz5,zz6,zz7,zz8,zz9,zza,zzb,zzc,zzd,zze,zzf,b3,treeL] <;> exact rfl)),(by first | exact rfl | assumption | (simp only [LZ,zo,zc,reduceCtorEq,reduceIte,zz1,zz2,zz3,zz4,zz5,zz6,zz7,zz8,zz9,zza,zzb,zzc,zzd,zze,zzf] <;> exact rfl)),by rw [← hr];rfl,(by first | exact rfl | assumption | (simp only [LZ,zo,zc,reduceCtorEq,reduceIte,zz1,zz2,zz3,zz4,zz5,zz6,zz7,zz8,zz9,zza,zzb,zzc,zzd,zze,zzf,hmd] <;> exact rfl))⟩
  rintro st hr
  (repeat (first | refine LW_seq ?_ | ((first | (refine LW_region ?_;intro K hK;simp only [LZ,zo,zc,reduceCtorEq,reduceIte,zz1,zz2,zz3,zz4,zz5,zz6,zz7,zz8,zz9,zza,zzb,zzc,zzd,zze,zzf];refine hK _ ?_;clear hK K) | refine LW_label ?_ | refine LW_skip ?_);try simp only [LSj,reduceIte,zze]) | refine LW_block ?_))
  refine LW_ret ?_;simp only [thenL,jumpsL,inBlockL,twoL,bodyQ,LV.lit.injEq,LV.tup.injEq,LV.agg.injEq,LV.sl.injEq,List.cons.injEq,Value.int.injEq,Value.bool.injEq,Value.string.injEq,ByteArray.mk.injEq,exists_eq_left',exists_eq_left,exists_eq_right,LZ,zo,zc,reduceCtorEq,reduceIte,zz1,zz2,zz3,zz4,zz5,zz6,zz7,zz8,zz9,zza,zzb,zzc,zzd,zze,zzf]
  rw [← hr]

set_option maxRecDepth 100000 in
set_option maxHeartbeats 2000000 in
theorem rpaths_L (a b : FTree) (ha : SmallT a) (hb : SmallT b) : LCalls Try.prog 13 [.agg (treeL a),.agg (treeL b)] (strL (pathsB a b)) := by
  have c1 := rmayTree_L a ha
  have c2 := rmayTree_L b hb
  have cx := rlone_L a b ha hb
  have cy := rlone_L b a hb ha
  have lx := lone_small (b := b) ha
  have ly := lone_small (b := a) hb
  simp only [treeL,may_eq] at c1 c2 cx cy
  have hmd : (fun _ : Nat => false) = fun _ : Nat => false := rfl
  refine LCalls.of (fun _ => false) Try.func13 rfl (by decide) Try.ntmps13 Try.results13 (by simp) ?_
  intro w0 S0 vs hgl hwf0 hsz hvs;clear hsz hvs hwf0 hgl
  generalize hR : pathsB a b = R
  unfold pathsB at hR
  generalize TreeSpec.lone a.ents b.ents = x at *
  generalize TreeSpec.lone b.ents a.ents = y at *
  have cl := rpless_L x y lx ly
  (repeat (first | refine LW_seq ?_ | ((first | (refine LW_region ?_;intro K hK;simp only [LZ,zo,zc,reduceCtorEq,reduceIte,zz1,zz2,zz3,zz4,zz5,zz6,zz7,zz8,zz9,zza,zzb,zzc,zzd,zze,zzf,treeL];refine hK _ ?_;clear hK K) | refine LW_label ?_ | refine LW_skip ?_);try simp only [LSj,reduceIte,zze]) | refine LW_block ?_))
  cases h1 : mayT a
  · rw [h1] at c1 hR
    (repeat (first | refine LW_seq ?_ | (refine LW_skip ?_;simp only [LSj,reduceIte,zze]) | refine LW_block ?_));refine LW_region ?_;intro K hK;simp only [LZ,zo,zc,reduceCtorEq,reduceIte,zz1,zz2,zz3,zz4,zz5,zz6,zz7,zz8,zz9,zza,zzb,zzc,zzd,zze,zzf]
    refine cop_intro ?ha (c1) ?_;(case ha => (simp only [LZ,zo,zc,reduceCtorEq,reduceIte,zz1,zz2,zz3,zz4,zz5,zz6,zz7,zz8,zz9,zza,zzb,zzc,zzd,zze,zzf]) <;> rfl);simp only [LZ,zo,zc,reduceCtorEq,reduceIte,zz1,zz2,zz3,zz4,zz5,zz6,zz7,zz8,zz9,zza,zzb,zzc,zzd,zze,zzf]
    refine hK _ ?_;clear hK K;try simp only [LSj,reduceIte,zze]
    refine LW_if ?_;intro X Y hX hY;simp only [LZ,zo,zc,reduceCtorEq,reduceIte,zz1,zz2,zz3,zz4,zz5,zz6,zz7,zz8,zz9,zza,zzb,zzc,zzd,zze,zzf];refine hX ?_;clear hX hY X Y;try simp only [LSj,reduceIte,zze]
    (repeat (first | refine LW_seq ?_ | ((first | (refine LW_region ?_;intro K hK;simp only [LZ,zo,zc,reduceCtorEq,reduceIte,zz1,zz2,zz3,zz4,zz5,zz6,zz7,zz8,zz9,zza,zzb,zzc,zzd,zze,zzf];refine hK _ ?_;clear hK K) | refine LW_label ?_ | refine LW_skip ?_);try simp only [LSj,reduceIte,zze]) | refine LW_block ?_))
    refine LW_ret ?_;simp only [thenL,jumpsL,inBlockL,twoL,bodyQ,LV.lit.injEq,LV.tup.injEq,LV.agg.injEq,LV.sl.injEq,List.cons.injEq,Value.int.injEq,Value.bool.injEq,Value.string.injEq,ByteArray.mk.injEq,exists_eq_left',exists_eq_left,exists_eq_right,LZ,zo,zc,reduceCtorEq,reduceIte,zz1,zz2,zz3,zz4,zz5,zz6,zz7,zz8,zz9,zza,zzb,zzc,zzd,zze,zzf]
    rw [← hR];rfl
  rw [h1] at c1 hR
  cases h2 : mayT b
  · rw [h2] at c2 hR
    (repeat (first | refine LW_seq ?_ | (refine LW_skip ?_;simp only [LSj,reduceIte,zze]) | refine LW_block ?_));refine LW_region ?_;intro K hK;simp only [LZ,zo,zc,reduceCtorEq,reduceIte,zz1,zz2,zz3,zz4,zz5,zz6,zz7,zz8,zz9,zza,zzb,zzc,zzd,zze,zzf]
    refine cop_intro ?ha (c1) ?_;(case ha => (simp only [LZ,zo,zc,reduceCtorEq,reduceIte,zz1,zz2,zz3,zz4,zz5,zz6,zz7,zz8,zz9,zza,zzb,zzc,zzd,zze,zzf]) <;> rfl);simp only [LZ,zo,zc,reduceCtorEq,reduceIte,zz1,zz2,zz3,zz4,zz5,zz6,zz7,zz8,zz9,zza,zzb,zzc,zzd,zze,zzf]
    refine cop_intro ?ha (c2) ?_;(case ha => (simp only [LZ,zo,zc,reduceCtorEq,reduceIte,zz1,zz2,zz3,zz4,zz5,zz6,zz7,zz8,zz9,zza,zzb,zzc,zzd,zze,zzf]) <;> rfl);simp only [LZ,zo,zc,reduceCtorEq,reduceIte,zz1,zz2,zz3,zz4,zz5,zz6,zz7,zz8,zz9,zza,zzb,zzc,zzd,zze,zzf]
    refine hK _ ?_;clear hK K;try simp only [LSj,reduceIte,zze]
    refine LW_if ?_;intro X Y hX hY;simp only [LZ,zo,zc,reduceCtorEq,reduceIte,zz1,zz2,zz3,zz4,zz5,zz6,zz7,zz8,zz9,zza,zzb,zzc,zzd,zze,zzf];refine hX ?_;clear hX hY X Y;try simp only [LSj,reduceIte,zze]
    (repeat (first | refine LW_seq ?_ | ((first | (refine LW_region ?_;intro K hK;simp only [LZ,zo,zc,reduceCtorEq,reduceIte,zz1,zz2,zz3,zz4,zz5,zz6,zz7,zz8,zz9,zza,zzb,zzc,zzd,zze,zzf];refine hK _ ?_;clear hK K) | refine LW_label ?_ | refine LW_skip ?_);try simp only [LSj,reduceIte,zze]) | refine LW_block ?_))
    refine LW_ret ?_;simp only [thenL,jumpsL,inBlockL,twoL,bodyQ,LV.lit.injEq,LV.tup.injEq,LV.agg.injEq,LV.sl.injEq,List.cons.injEq,Value.int.injEq,Value.bool.injEq,Value.string.injEq,ByteArray.mk.injEq,exists_eq_left',exists_eq_left,exists_eq_right,LZ,zo,zc,reduceCtorEq,reduceIte,zz1,zz2,zz3,zz4,zz5,zz6,zz7,zz8,zz9,zza,zzb,zzc,zzd,zze,zzf]
    rw [← hR];rfl
  rw [h2] at c2 hR
  rw [Bool.true_and,if_pos rfl] at hR
  unfold mergeL at hR
  (repeat (first | refine LW_seq ?_ | (refine LW_skip ?_;simp only [LSj,reduceIte,zze]) | refine LW_block ?_));refine LW_region ?_;intro K hK;simp only [LZ,zo,zc,reduceCtorEq,reduceIte,zz1,zz2,zz3,zz4,zz5,zz6,zz7,zz8,zz9,zza,zzb,zzc,zzd,zze,zzf]
  refine cop_intro ?ha (c1) ?_;(case ha => (simp only [LZ,zo,zc,reduceCtorEq,reduceIte,zz1,zz2,zz3,zz4,zz5,zz6,zz7,zz8,zz9,zza,zzb,zzc,zzd,zze,zzf]) <;> rfl);simp only [LZ,zo,zc,reduceCtorEq,reduceIte,zz1,zz2,zz3,zz4,zz5,zz6,zz7,zz8,zz9,zza,zzb,zzc,zzd,zze,zzf]
  refine cop_intro ?ha (c2) ?_;(case ha => (simp only [LZ,zo,zc,reduceCtorEq,reduceIte,zz1,zz2,zz3,zz4,zz5,zz6,zz7,zz8,zz9,zza,zzb,zzc,zzd,zze,zzf]) <;> rfl);simp only [LZ,zo,zc,reduceCtorEq,reduceIte,zz1,zz2,zz3,zz4,zz5,zz6,zz7,zz8,zz9,zza,zzb,zzc,zzd,zze,zzf]
  refine hK _ ?_;clear hK K;try simp only [LSj,reduceIte,zze]
  refine LW_if ?_;intro X Y hX hY;simp only [LZ,zo,zc,reduceCtorEq,reduceIte,zz1,zz2,zz3,zz4,zz5,zz6,zz7,zz8,zz9,zza,zzb,zzc,zzd,zze,zzf];refine hY ?_;clear hX hY X Y;(try simp only [LSj,reduceIte,zze]);(try (refine LW_skip ?_;simp only [LSj,reduceIte,zze]))
  (repeat (first | refine LW_seq ?_ | (refine LW_skip ?_;simp only [LSj,reduceIte,zze]) | refine LW_block ?_));refine LW_any (by kernel_rfl) (by kernel_rfl) (by kernel_rfl) (by first | exact rfl | (rw [hmd];exact rfl)) ?_;intro K hK;simp only [LZ,zo,zc,reduceCtorEq,reduceIte,zz1,zz2,zz3,zz4,zz5,zz6,zz7,zz8,zz9,zza,zzb,zzc,zzd,zze,zzf]
  refine cop_intro ?ha (cx) ?_;(case ha => (simp only [LZ,zo,zc,reduceCtorEq,reduceIte,zz1,zz2,zz3,zz4,zz5,zz6,zz7,zz8,zz9,zza,zzb,zzc,zzd,zze,zzf]) <;> rfl);simp only [LZ,zo,zc,reduceCtorEq,reduceIte,zz1,zz2,zz3,zz4,zz5,zz6,zz7,zz8,zz9,zza,zzb,zzc,zzd,zze,zzf]
  refine cop_intro ?ha (cy) ?_;(case ha => (simp only [LZ,zo,zc,reduceCtorEq,reduceIte,zz1,zz2,zz3,zz4,zz5,zz6,zz7,zz8,zz9,zza,zzb,zzc,zzd,zze,zzf]) <;> rfl);simp only [LZ,zo,zc,reduceCtorEq,reduceIte,zz1,zz2,zz3,zz4,zz5,zz6,zz7,zz8,zz9,zza,zzb,zzc,zzd,zze,zzf]
  refine hK _ ?_;clear hK K;try simp only [LSj,reduceIte,zze]
  by_cases hx : x = []
  · rw [if_pos hx] at hR
    (repeat (first | refine LW_seq ?_ | ((first | (refine LW_region ?_;intro K hK;simp only [LZ,zo,zc,reduceCtorEq,reduceIte,zz1,zz2,zz3,zz4,zz5,zz6,zz7,zz8,zz9,zza,zzb,zzc,zzd,zze,zzf,hx];refine hK _ ?_;clear hK K) | refine LW_label ?_ | refine LW_skip ?_);try simp only [LSj,reduceIte,zze]) | refine LW_block ?_))
    refine LW_if ?_;intro X Y hX hY;simp only [LZ,zo,zc,reduceCtorEq,reduceIte,zz1,zz2,zz3,zz4,zz5,zz6,zz7,zz8,zz9,zza,zzb,zzc,zzd,zze,zzf];refine hX ?_;clear hX hY X Y;try simp only [LSj,reduceIte,zze]
    (repeat (first | refine LW_seq ?_ | ((first | (refine LW_region ?_;intro K hK;simp only [LZ,zo,zc,reduceCtorEq,reduceIte,zz1,zz2,zz3,zz4,zz5,zz6,zz7,zz8,zz9,zza,zzb,zzc,zzd,zze,zzf];refine hK _ ?_;clear hK K) | refine LW_label ?_ | refine LW_skip ?_);try simp only [LSj,reduceIte,zze]) | refine LW_block ?_))
    refine LW_ret ?_;simp only [thenL,jumpsL,inBlockL,twoL,bodyQ,LV.lit.injEq,LV.tup.injEq,LV.agg.injEq,LV.sl.injEq,List.cons.injEq,Value.int.injEq,Value.bool.injEq,Value.string.injEq,ByteArray.mk.injEq,exists_eq_left',exists_eq_left,exists_eq_right,LZ,zo,zc,reduceCtorEq,reduceIte,zz1,zz2,zz3,zz4,zz5,zz6,zz7,zz8,zz9,zza,zzb,zzc,zzd,zze,zzf]
    rw [← hR]
  rw [if_neg hx] at hR
  by_cases hy : y = []
  · rw [if_pos (.inl hy)] at hR
    (repeat (first | refine LW_seq ?_ | ((first | (refine LW_region ?_;intro K hK;simp only [LZ,zo,zc,reduceCtorEq,reduceIte,zz1,zz2,zz3,zz4,zz5,zz6,zz7,zz8,zz9,zza,zzb,zzc,zzd,zze,zzf,hx];refine hK _ ?_;clear hK K) | refine LW_label ?_ | refine LW_skip ?_);try simp only [LSj,reduceIte,zze]) | refine LW_block ?_))
    refine LW_if ?_;intro X Y hX hY;simp only [LZ,zo,zc,reduceCtorEq,reduceIte,zz1,zz2,zz3,zz4,zz5,zz6,zz7,zz8,zz9,zza,zzb,zzc,zzd,zze,zzf];refine hY ?_;clear hX hY X Y;(try simp only [LSj,reduceIte,zze]);(try (refine LW_skip ?_;simp only [LSj,reduceIte,zze]))
    (repeat (first | refine LW_seq ?_ | ((first | (refine LW_region ?_;intro K hK;simp only [LZ,zo,zc,reduceCtorEq,reduceIte,zz1,zz2,zz3,zz4,zz5,zz6,zz7,zz8,zz9,zza,zzb,zzc,zzd,zze,zzf,hy];refine hK _ ?_;clear hK K) | refine LW_label ?_ | refine LW_skip ?_);try simp only [LSj,reduceIte,zze]) | refine LW_block ?_))
    refine LW_if ?_;intro X Y hX hY;simp only [LZ,zo,zc,reduceCtorEq,reduceIte,zz1,zz2,zz3,zz4,zz5,zz6,zz7,zz8,zz9,zza,zzb,zzc,zzd,zze,zzf];refine hX ?_;clear hX hY X Y;try simp only [LSj,reduceIte,zze]
    (repeat (first | refine LW_seq ?_ | ((first | (refine LW_region ?_;intro K hK;simp only [LZ,zo,zc,reduceCtorEq,reduceIte,zz1,zz2,zz3,zz4,zz5,zz6,zz7,zz8,zz9,zza,zzb,zzc,zzd,zze,zzf];refine hK _ ?_;clear hK K) | refine LW_label ?_ | refine LW_skip ?_);try simp only [LSj,reduceIte,zze]) | refine LW_block ?_))
    refine LW_ret ?_;simp only [thenL,jumpsL,inBlockL,twoL,bodyQ,LV.lit.injEq,LV.tup.injEq,LV.agg.injEq,LV.sl.injEq,List.cons.injEq,Value.int.injEq,Value.bool.injEq,Value.string.injEq,ByteArray.mk.injEq,exists_eq_left',exists_eq_left,exists_eq_right,LZ,zo,zc,reduceCtorEq,reduceIte,zz1,zz2,zz3,zz4,zz5,zz6,zz7,zz8,zz9,zza,zzb,zzc,zzd,zze,zzf]
    rw [← hR]
  cases hc : lessB x y
  · rw [hc] at cl
    rw [if_neg (by rintro (h | h);exact hy h;rw [hc] at h;cases h)] at hR
    (repeat (first | refine LW_seq ?_ | ((first | (refine LW_region ?_;intro K hK;simp only [LZ,zo,zc,reduceCtorEq,reduceIte,zz1,zz2,zz3,zz4,zz5,zz6,zz7,zz8,zz9,zza,zzb,zzc,zzd,zze,zzf,hx];refine hK _ ?_;clear hK K) | refine LW_label ?_ | refine LW_skip ?_);try simp only [LSj,reduceIte,zze]) | refine LW_block ?_))
    refine LW_if ?_;intro X Y hX hY;simp only [LZ,zo,zc,reduceCtorEq,reduceIte,zz1,zz2,zz3,zz4,zz5,zz6,zz7,zz8,zz9,zza,zzb,zzc,zzd,zze,zzf];refine hY ?_;clear hX hY X Y;(try simp only [LSj,reduceIte,zze]);(try (refine LW_skip ?_;simp only [LSj,reduceIte,zze]))
    (repeat (first | refine LW_seq ?_ | (refine LW_skip ?_;simp only [LSj,reduceIte,zze]) | refine LW_block ?_));refine LW_region ?_;intro K hK;simp only [LZ,zo,zc,reduceCtorEq,reduceIte,zz1,zz2,zz3,zz4,zz5,zz6,zz7,zz8,zz9,zza,zzb,zzc,zzd,zze,zzf,hy]
    refine cop_intro ?ha (cl) ?_;(case ha => (simp only [LZ,zo,zc,reduceCtorEq,reduceIte,zz1,zz2,zz3,zz4,zz5,zz6,zz7,zz8,zz9,zza,zzb,zzc,zzd,zze,zzf]) <;> rfl);simp only [LZ,zo,zc,reduceCtorEq,reduceIte,zz1,zz2,zz3,zz4,zz5,zz6,zz7,zz8,zz9,zza,zzb,zzc,zzd,zze,zzf]
    refine hK _ ?_;clear hK K;try simp only [LSj,reduceIte,zze]
    refine LW_if ?_;intro X Y hX hY;simp only [LZ,zo,zc,reduceCtorEq,reduceIte,zz1,zz2,zz3,zz4,zz5,zz6,zz7,zz8,zz9,zza,zzb,zzc,zzd,zze,zzf];refine hY ?_;clear hX hY X Y;(try simp only [LSj,reduceIte,zze]);(try (refine LW_skip ?_;simp only [LSj,reduceIte,zze]))
    (repeat (first | refine LW_seq ?_ | ((first | (refine LW_region ?_;intro K hK;simp only [LZ,zo,zc,reduceCtorEq,reduceIte,zz1,zz2,zz3,zz4,zz5,zz6,zz7,zz8,zz9,zza,zzb,zzc,zzd,zze,zzf];refine hK _ ?_;clear hK K) | refine LW_label ?_ | refine LW_skip ?_);try simp only [LSj,reduceIte,zze]) | refine LW_block ?_))
    refine LW_ret ?_;simp only [thenL,jumpsL,inBlockL,twoL,bodyQ,LV.lit.injEq,LV.tup.injEq,LV.agg.injEq,LV.sl.injEq,List.cons.injEq,Value.int.injEq,Value.bool.injEq,Value.string.injEq,ByteArray.mk.injEq,exists_eq_left',exists_eq_left,exists_eq_right,LZ,zo,zc,reduceCtorEq,reduceIte,zz1,zz2,zz3,zz4,zz5,zz6,zz7,zz8,zz9,zza,zzb,zzc,zzd,zze,zzf]
    rw [← hR]
  · rw [hc] at cl
    rw [if_pos (.inr hc)] at hR
    (repeat (first | refine LW_seq ?_ | ((first | (refine LW_region ?_;intro K hK;simp only [LZ,zo,zc,reduceCtorEq,reduceIte,zz1,zz2,zz3,zz4,zz5,zz6,zz7,zz8,zz9,zza,zzb,zzc,zzd,zze,zzf,hx];refine hK _ ?_;clear hK K) | refine LW_label ?_ | refine LW_skip ?_);try simp only [LSj,reduceIte,zze]) | refine LW_block ?_))
    refine LW_if ?_;intro X Y hX hY;simp only [LZ,zo,zc,reduceCtorEq,reduceIte,zz1,zz2,zz3,zz4,zz5,zz6,zz7,zz8,zz9,zza,zzb,zzc,zzd,zze,zzf];refine hY ?_;clear hX hY X Y;(try simp only [LSj,reduceIte,zze]);(try (refine LW_skip ?_;simp only [LSj,reduceIte,zze]))
    (repeat (first | refine LW_seq ?_ | (refine LW_skip ?_;simp only [LSj,reduceIte,zze]) | refine LW_block ?_));refine LW_region ?_;intro K hK;simp only [LZ,zo,zc,reduceCtorEq,reduceIte,zz1,zz2,zz3,zz4,zz5,zz6,zz7,zz8,zz9,zza,zzb,zzc,zzd,zze,zzf,hy]
    refine cop_intro ?ha (cl) ?_;(case ha => (simp only [LZ,zo,zc,reduceCtorEq,reduceIte,zz1,zz2,zz3,zz4,zz5,zz6,zz7,zz8,zz9,zza,zzb,zzc,zzd,zze,zzf]) <;> rfl);simp only [LZ,zo,zc,reduceCtorEq,reduceIte,zz1,zz2,zz3,zz4,zz5,zz6,zz7,zz8,zz9,zza,zzb,zzc,zzd,zze,zzf]
    refine hK _ ?_;clear hK K;try simp only [LSj,reduceIte,zze]
    refine LW_if ?_;intro X Y hX hY;simp only [LZ,zo,zc,reduceCtorEq,reduceIte,zz1,zz2,zz3,zz4,zz5,zz6,zz7,zz8,zz9,zza,zzb,zzc,zzd,zze,zzf];refine hX ?_;clear hX hY X Y;try simp only [LSj,reduceIte,zze]
    (repeat (first | refine LW_seq ?_ | ((first | (refine LW_region ?_;intro K hK;simp only [LZ,zo,zc,reduceCtorEq,reduceIte,zz1,zz2,zz3,zz4,zz5,zz6,zz7,zz8,zz9,zza,zzb,zzc,zzd,zze,zzf];refine hK _ ?_;clear hK K) | refine LW_label ?_ | refine LW_skip ?_);try simp only [LSj,reduceIte,zze]) | refine LW_block ?_))
    refine LW_ret ?_;simp only [thenL,jumpsL,inBlockL,twoL,bodyQ,LV.lit.injEq,LV.tup.injEq,LV.agg.injEq,LV.sl.injEq,List.cons.injEq,Value.int.injEq,Value.bool.injEq,Value.string.injEq,ByteArray.mk.injEq,exists_eq_left',exists_eq_left,exists_eq_right,LZ,zo,zc,reduceCtorEq,reduceIte,zz1,zz2,zz3,zz4,zz5,zz6,zz7,zz8,zz9,zza,zzb,zzc,zzd,zze,zzf]
    rw [← hR]

theorem nodesE_step {na nb : List FNode} {b r : List TEnt} {i : Nat} {e : TEnt} (h : r[i]? = some e) : nodesE na nb b (r.drop i) = if (findT b e.path).2 then (if diffN (nodeG na e.node) (nodeG nb (findT b e.path).1) = [] then nodesE na nb b (r.drop (i + 1)) else (dotP e.path,diffN (nodeG na e.node) (nodeG nb (findT b e.path).1))) else nodesE na nb b (r.drop (i + 1)) := by
  obtain ⟨hi,rfl⟩ := List.getElem?_eq_some_iff.1 h
  rw [List.drop_eq_getElem_cons hi,nodesE]

set_option maxRecDepth 100000 in
set_option maxHeartbeats 2000000 in
theorem rnodes_L (a b : FTree) (ha : SmallT a) (hb : SmallT b) : LCalls Try.prog 11 [.agg (treeL a),.agg (treeL b)] (.tup [strL (nodesB a b).1,strL (nodesB a b).2]) := by
  have c1 := rmayTree_L a ha
  have c2 := rmayTree_L b hb
  have hla := ha.ents
  have hlna := ha.nodes
  have hlnb := hb.nodes
  simp only [treeL,may_eq] at c1 c2
  refine LCalls.of (fun _ => false) Try.func11 rfl (by decide) Try.ntmps11 Try.results11 (by simp) ?_
  intro w0 S0 vs hgl hwf0 hsz hvs;clear hsz hvs hwf0 hgl
  generalize hR : nodesB a b = R
  unfold nodesB at hR
  (repeat (first | refine LW_seq ?_ | ((first | (refine LW_region ?_;intro K hK;simp only [LZ,zo,zc,reduceCtorEq,reduceIte,zz1,zz2,zz3,zz4,zz5,zz6,zz7,zz8,zz9,zza,zzb,zzc,zzd,zze,zzf,treeL];refine hK _ ?_;clear hK K) | refine LW_label ?_ | refine LW_skip ?_);try simp only [LSj,reduceIte,zze]) | refine LW_block ?_))
  cases h1 : mayT a
  · rw [h1] at c1 hR
    (repeat (first | refine LW_seq ?_ | (refine LW_skip ?_;simp only [LSj,reduceIte,zze]) | refine LW_block ?_));refine LW_region ?_;intro K hK;simp only [LZ,zo,zc,reduceCtorEq,reduceIte,zz1,zz2,zz3,zz4,zz5,zz6,zz7,zz8,zz9,zza,zzb,zzc,zzd,zze,zzf]
    refine cop_intro ?ha (c1) ?_;(case ha => (simp only [LZ,zo,zc,reduceCtorEq,reduceIte,zz1,zz2,zz3,zz4,zz5,zz6,zz7,zz8,zz9,zza,zzb,zzc,zzd,zze,zzf]) <;> rfl);simp only [LZ,zo,zc,reduceCtorEq,reduceIte,zz1,zz2,zz3,zz4,zz5,zz6,zz7,zz8,zz9,zza,zzb,zzc,zzd,zze,zzf]
    refine hK _ ?_;clear hK K;try simp only [LSj,reduceIte,zze]
    refine LW_if ?_;intro X Y hX hY;simp only [LZ,zo,zc,reduceCtorEq,reduceIte,zz1,zz2,zz3,zz4,zz5,zz6,zz7,zz8,zz9,zza,zzb,zzc,zzd,zze,zzf];refine hX ?_;clear hX hY X Y;try simp only [LSj,reduceIte,zze]
    (repeat (first | refine LW_seq ?_ | ((first | (refine LW_region ?_;intro K hK;simp only [LZ,zo,zc,reduceCtorEq,reduceIte,zz1,zz2,zz3,zz4,zz5,zz6,zz7,zz8,zz9,zza,zzb,zzc,zzd,zze,zzf];refine hK _ ?_;clear hK K) | refine LW_label ?_ | refine LW_skip ?_);try simp only [LSj,reduceIte,zze]) | refine LW_block ?_))
    refine LW_ret ?_;simp only [thenL,jumpsL,inBlockL,twoL,bodyQ,LV.lit.injEq,LV.tup.injEq,LV.agg.injEq,LV.sl.injEq,List.cons.injEq,Value.int.injEq,Value.bool.injEq,Value.string.injEq,ByteArray.mk.injEq,exists_eq_left',exists_eq_left,exists_eq_right,LZ,zo,zc,reduceCtorEq,reduceIte,zz1,zz2,zz3,zz4,zz5,zz6,zz7,zz8,zz9,zza,zzb,zzc,zzd,zze,zzf]
    rw [← hR];exact ⟨rfl,rfl⟩
  rw [h1] at c1 hR
  cases h2 : mayT b
  · rw [h2] at c2 hR
    (repeat (first | refine LW_seq ?_ | (refine LW_skip ?_;simp only [LSj,reduceIte,zze]) | refine LW_block ?_));refine LW_region ?_;intro K hK;simp only [LZ,zo,zc,reduceCtorEq,reduceIte,zz1,zz2,zz3,zz4,zz5,zz6,zz7,zz8,zz9,zza,zzb,zzc,zzd,zze,zzf]
    refine cop_intro ?ha (c1) ?_;(case ha => (simp only [LZ,zo,zc,reduceCtorEq,reduceIte,zz1,zz2,zz3,zz4,zz5,zz6,zz7,zz8,zz9,zza,zzb,zzc,zzd,zze,zzf]) <;> rfl);simp only [LZ,zo,zc,reduceCtorEq,reduceIte,zz1,zz2,zz3,zz4,zz5,zz6,zz7,zz8,zz9,zza,zzb,zzc,zzd,zze,zzf]
    refine cop_intro ?ha (c2) ?_;(case ha => (simp only [LZ,zo,zc,reduceCtorEq,reduceIte,zz1,zz2,zz3,zz4,zz5,zz6,zz7,zz8,zz9,zza,zzb,zzc,zzd,zze,zzf]) <;> rfl);simp only [LZ,zo,zc,reduceCtorEq,reduceIte,zz1,zz2,zz3,zz4,zz5,zz6,zz7,zz8,zz9,zza,zzb,zzc,zzd,zze,zzf]
    refine hK _ ?_;clear hK K;try simp only [LSj,reduceIte,zze]
    refine LW_if ?_;intro X Y hX hY;simp only [LZ,zo,zc,reduceCtorEq,reduceIte,zz1,zz2,zz3,zz4,zz5,zz6,zz7,zz8,zz9,zza,zzb,zzc,zzd,zze,zzf];refine hX ?_;clear hX hY X Y;try simp only [LSj,reduceIte,zze]
    (repeat (first | refine LW_seq ?_ | ((first | (refine LW_region ?_;intro K hK;simp only [LZ,zo,zc,reduceCtorEq,reduceIte,zz1,zz2,zz3,zz4,zz5,zz6,zz7,zz8,zz9,zza,zzb,zzc,zzd,zze,zzf];refine hK _ ?_;clear hK K) | refine LW_label ?_ | refine LW_skip ?_);try simp only [LSj,reduceIte,zze]) | refine LW_block ?_))
    refine LW_ret ?_;simp only [thenL,jumpsL,inBlockL,twoL,bodyQ,LV.lit.injEq,LV.tup.injEq,LV.agg.injEq,LV.sl.injEq,List.cons.injEq,Value.int.injEq,Value.bool.injEq,Value.string.injEq,ByteArray.mk.injEq,exists_eq_left',exists_eq_left,exists_eq_right,LZ,zo,zc,reduceCtorEq,reduceIte,zz1,zz2,zz3,zz4,zz5,zz6,zz7,zz8,zz9,zza,zzb,zzc,zzd,zze,zzf]
    rw [← hR];exact ⟨rfl,rfl⟩
  rw [h2] at c2 hR
  rw [Bool.true_and,if_pos rfl] at hR
  have va := mayT_valid h1
  have vb := mayT_valid h2
  (repeat (first | refine LW_seq ?_ | (refine LW_skip ?_;simp only [LSj,reduceIte,zze]) | refine LW_block ?_));refine LW_region ?_;intro K hK;simp only [LZ,zo,zc,reduceCtorEq,reduceIte,zz1,zz2,zz3,zz4,zz5,zz6,zz7,zz8,zz9,zza,zzb,zzc,zzd,zze,zzf]
  refine cop_intro ?ha (c1) ?_;(case ha => (simp only [LZ,zo,zc,reduceCtorEq,reduceIte,zz1,zz2,zz3,zz4,zz5,zz6,zz7,zz8,zz9,zza,zzb,zzc,zzd,zze,zzf]) <;> rfl);simp only [LZ,zo,zc,reduceCtorEq,reduceIte,zz1,zz2,zz3,zz4,zz5,zz6,zz7,zz8,zz9,zza,zzb,zzc,zzd,zze,zzf]
  refine cop_intro ?ha (c2) ?_;(case ha => (simp only [LZ,zo,zc,reduceCtorEq,reduceIte,zz1,zz2,zz3,zz4,zz5,zz6,zz7,zz8,zz9,zza,zzb,zzc,zzd,zze,zzf]) <;> rfl);simp only [LZ,zo,zc,reduceCtorEq,reduceIte,zz1,zz2,zz3,zz4,zz5,zz6,zz7,zz8,zz9,zza,zzb,zzc,zzd,zze,zzf]
  refine hK _ ?_;clear hK K;try simp only [LSj,reduceIte,zze]
  refine LW_if ?_;intro X Y hX hY;simp only [LZ,zo,zc,reduceCtorEq,reduceIte,zz1,zz2,zz3,zz4,zz5,zz6,zz7,zz8,zz9,zza,zzb,zzc,zzd,zze,zzf];refine hY ?_;clear hX hY X Y;(try simp only [LSj,reduceIte,zze]);(try (refine LW_skip ?_;simp only [LSj,reduceIte,zze]))
  (repeat (first | refine LW_seq ?_ | ((first | (refine LW_region ?_;intro K hK;simp only [LZ,zo,zc,reduceCtorEq,reduceIte,zz1,zz2,zz3,zz4,zz5,zz6,zz7,zz8,zz9,zza,zzb,zzc,zzd,zze,zzf];refine hK _ ?_;clear hK K) | refine LW_label ?_ | refine LW_skip ?_);try simp only [LSj,reduceIte,zze]) | refine LW_block ?_))
  refine LW_joinB (fun st => ([],[]) = R) ?_ ?_
  · refine LW_loop (fun n st => ∃ i : Nat,n + i = a.ents.length ∧ st.env 2 = .ptr 2 0 ∧ st.box 2 = some (treeL a) ∧ st.env 3 = .ptr 3 0 ∧ st.box 3 = some (treeL b) ∧ st.env 6 = intL i ∧ nodesE a.nodes b.nodes b.ents (a.ents.drop i) = R ∧ st.mode = fun _ => false) a.ents.length ⟨0,by omega,rfl,(by first | exact rfl | assumption | (simp only [LZ,zo,zc,reduceCtorEq,reduceIte,zz1,zz2,zz3,zz4,zz5,zz6,zz7,zz8,zz9,zza,zzb,zzc,zzd,zze,zzf,treeL] <;> exact rfl)),rfl,(by first | exact rfl | assumption | (simp only [LZ,zo,zc,reduceCtorEq,reduceIte,zz1,zz2,zz3,zz4,zz5,zz6,zz7,zz8,zz9,zza,zzb,zzc,zzd,zze,zzf,treeL] <;> exact rfl)),rfl,hR,rfl⟩ ?_
    rintro n st ⟨i,hn,e2,b2,e3,b3,e6,hr,hmd⟩
    simp only [treeL] at b2 b3
    by_cases hlt : i < a.ents.length
    rotate_left
    · rw [List.drop_of_length_le (by omega)] at hr
      (repeat (first | refine LW_seq ?_ | ((first | (refine LW_region ?_;intro K hK;simp only [LZ,zo,zc,reduceCtorEq,reduceIte,zz1,zz2,zz3,zz4,zz5,zz6,zz7,zz8,zz9,zza,zzb,zzc,zzd,zze,zzf,e2,b2,e6,hlt];refine hK _ ?_;clear hK K) | refine LW_label ?_ | refine LW_skip ?_);try simp only [LSj,reduceIte,zze]) | refine LW_block ?_))
      refine LW_if ?_;intro X Y hX hY;simp only [LZ,zo,zc,reduceCtorEq,reduceIte,zz1,zz2,zz3,zz4,zz5,zz6,zz7,zz8,zz9,zza,zzb,zzc,zzd,zze,zzf,hlt];refine hY ?_;clear hX hY X Y;(try simp only [LSj,reduceIte,zze]);(try (refine LW_skip ?_;simp only [LSj,reduceIte,zze]))
      refine LW_exit ?_;simp only [thenL,jumpsL,inBlockL,twoL,reduceIte,Nat.reduceEqDiff]
      exact hr
    obtain ⟨e,he⟩ := get_of_lt hlt
    have hem := List.mem_of_getElem? he
    have hd := drop_tent he
    have hw := w64s (n := i) (by omega)
    have hip : (0 : Int) ≤ (i : Int) := by omega
    have cf := rfind_L b hb e.path
    rw [nodesE_step he] at hr
    simp only [treeL] at cf
    have hfm : (findT b.ents e.path).2 = true → ∃ y ∈ b.ents,y.node = (findT b.ents e.path).1 := fun h => by
      obtain ⟨y,hy,_,hh⟩ := findT_mem h
      exact ⟨y,hy,hh⟩
    generalize findT b.ents e.path = f at *
    (repeat (first | refine LW_seq ?_ | ((first | (refine LW_region ?_;intro K hK;simp only [LZ,zo,zc,reduceCtorEq,reduceIte,zz1,zz2,zz3,zz4,zz5,zz6,zz7,zz8,zz9,zza,zzb,zzc,zzd,zze,zzf,e2,b2,e6,hlt];refine hK _ ?_;clear hK K) | refine LW_label ?_ | refine LW_skip ?_);try simp only [LSj,reduceIte,zze]) | refine LW_block ?_))
    refine LW_if ?_;intro X Y hX hY;simp only [LZ,zo,zc,reduceCtorEq,reduceIte,zz1,zz2,zz3,zz4,zz5,zz6,zz7,zz8,zz9,zza,zzb,zzc,zzd,zze,zzf,hlt];refine hX ?_;clear hX hY X Y;try simp only [LSj,reduceIte,zze]
    (repeat (first | refine LW_seq ?_ | ((first | (refine LW_region ?_;intro K hK;simp only [LZ,zo,zc,reduceCtorEq,reduceIte,zz1,zz2,zz3,zz4,zz5,zz6,zz7,zz8,zz9,zza,zzb,zzc,zzd,zze,zzf,e2,b2,e6,hlt,hip,hd];refine hK _ ?_;clear hK K) | refine LW_label ?_ | refine LW_skip ?_);try simp only [LSj,reduceIte,zze]) | refine LW_block ?_))
    (repeat (first | refine LW_seq ?_ | (refine LW_skip ?_;simp only [LSj,reduceIte,zze]) | refine LW_block ?_));refine LW_region ?_;intro K hK;simp only [LZ,zo,zc,reduceCtorEq,reduceIte,zz1,zz2,zz3,zz4,zz5,zz6,zz7,zz8,zz9,zza,zzb,zzc,zzd,zze,zzf,e3,b3]
    refine cop_intro ?ha (cf) ?_;(case ha => (simp only [LZ,zo,zc,reduceCtorEq,reduceIte,zz1,zz2,zz3,zz4,zz5,zz6,zz7,zz8,zz9,zza,zzb,zzc,zzd,zze,zzf]) <;> rfl);simp only [LZ,zo,zc,reduceCtorEq,reduceIte,zz1,zz2,zz3,zz4,zz5,zz6,zz7,zz8,zz9,zza,zzb,zzc,zzd,zze,zzf]
    refine hK _ ?_;clear hK K;try simp only [LSj,reduceIte,zze]
    cases hf : f.2
    · rw [hf] at hr
      (repeat (first | refine LW_seq ?_ | ((first | (refine LW_region ?_;intro K hK;simp only [LZ,zo,zc,reduceCtorEq,reduceIte,zz1,zz2,zz3,zz4,zz5,zz6,zz7,zz8,zz9,zza,zzb,zzc,zzd,zze,zzf,hf];refine hK _ ?_;clear hK K) | refine LW_label ?_ | refine LW_skip ?_);try simp only [LSj,reduceIte,zze]) | refine LW_block ?_))
      refine LW_if ?_;intro X Y hX hY;simp only [LZ,zo,zc,reduceCtorEq,reduceIte,zz1,zz2,zz3,zz4,zz5,zz6,zz7,zz8,zz9,zza,zzb,zzc,zzd,zze,zzf];refine hX ?_;clear hX hY X Y;try simp only [LSj,reduceIte,zze]
      refine LW_exit ?_;simp only [thenL,jumpsL,inBlockL,twoL,reduceIte,Nat.reduceEqDiff]
      (repeat (first | refine LW_seq ?_ | ((first | (refine LW_region ?_;intro K hK;simp only [LZ,zo,zc,reduceCtorEq,reduceIte,zz1,zz2,zz3,zz4,zz5,zz6,zz7,zz8,zz9,zza,zzb,zzc,zzd,zze,zzf,e6,hw];refine hK _ ?_;clear hK K) | refine LW_label ?_ | refine LW_skip ?_);try simp only [LSj,reduceIte,zze]) | refine LW_block ?_))
      exact ⟨n - 1,by omega,i + 1,by omega,(by first | exact rfl | assumption | (simp only [LZ,zo,zc,reduceCtorEq,reduceIte,zz1,zz2,zz3,zz4,zz5,zz6,zz7,zz8,zz9,zza,zzb,zzc,zzd,zze,zzf,e2] <;> exact rfl)),(by first | exact rfl | assumption | (simp only [LZ,zo,zc,reduceCtorEq,reduceIte,zz1,zz2,zz3,zz4,zz5,zz6,zz7,zz8,zz9,zza,zzb,zzc,zzd,zze,zzf,b2,treeL] <;> exact rfl)),(by first | exact rfl | assumption | (simp only [LZ,zo,zc,reduceCtorEq,reduceIte,zz1,zz2,zz3,zz4,zz5,zz6,zz7,zz8,zz9,zza,zzb,zzc,zzd,zze,zzf,e3] <;> exact rfl)),(by first | exact rfl | assumption | (simp only [LZ,zo,zc,reduceCtorEq,reduceIte,zz1,zz2,zz3,zz4,zz5,zz6,zz7,zz8,zz9,zza,zzb,zzc,zzd,zze,zzf,b3,treeL] <;> exact rfl)),(by first | exact rfl | assumption | (simp only [LZ,zo,zc,reduceCtorEq,reduceIte,zz1,zz2,zz3,zz4,zz5,zz6,zz7,zz8,zz9,zza,zzb,zzc,zzd,zze,zzf] <;> exact rfl)),by rw [← hr];rfl,(by first | exact rfl | assumption | (simp only [LZ,zo,zc,reduceCtorEq,reduceIte,zz1,zz2,zz3,zz4,zz5,zz6,zz7,zz8,zz9,zza,zzb,zzc,zzd,zze,zzf,hmd] <;> exact rfl))⟩
    rw [hf,if_pos rfl] at hr
    obtain ⟨z,hz,hzn⟩ := hfm hf
    have r1 := va.range e hem
    have r2 := vb.range z hz
    rw [hzn] at r2
    obtain ⟨j,hj⟩ : ∃ j : Nat,e.node = j := ⟨e.node.toNat,by omega⟩
    obtain ⟨k,hk⟩ : ∃ k : Nat,f.1 = k := ⟨f.1.toNat,by omega⟩
    have hjl : j < a.nodes.length := by omega
    have hkl : k < b.nodes.length := by omega
    have hjp : (0 : Int) ≤ (j : Int) := by omega
    have hkp : (0 : Int) ≤ (k : Int) := by omega
    obtain ⟨x,hx⟩ := get_of_lt hjl
    obtain ⟨y,hy⟩ := get_of_lt hkl
    have hdx := drop_node hx
    have hdy := drop_node hy
    have cd := rdiffNode_L x y (small.len (ha.node x (List.mem_of_getElem? hx)).1) (small.len (hb.node y (List.mem_of_getElem? hy)).1)
    rw [hj,hk,nodeG_of hx,nodeG_of hy] at hr
    simp only [nodeL,attrsL,acesL,piecesL,rowL,List.cons_append,List.nil_append] at cd hdx hdy
    (repeat (first | refine LW_seq ?_ | ((first | (refine LW_region ?_;intro K hK;simp only [LZ,zo,zc,reduceCtorEq,reduceIte,zz1,zz2,zz3,zz4,zz5,zz6,zz7,zz8,zz9,zza,zzb,zzc,zzd,zze,zzf,hf];refine hK _ ?_;clear hK K) | refine LW_label ?_ | refine LW_skip ?_);try simp only [LSj,reduceIte,zze]) | refine LW_block ?_))
    refine LW_if ?_;intro X Y hX hY;simp only [LZ,zo,zc,reduceCtorEq,reduceIte,zz1,zz2,zz3,zz4,zz5,zz6,zz7,zz8,zz9,zza,zzb,zzc,zzd,zze,zzf];refine hY ?_;clear hX hY X Y;(try simp only [LSj,reduceIte,zze]);(try (refine LW_skip ?_;simp only [LSj,reduceIte,zze]))
    (repeat (first | refine LW_seq ?_ | (refine LW_skip ?_;simp only [LSj,reduceIte,zze]) | refine LW_block ?_));refine LW_any (by kernel_rfl) (by kernel_rfl) (by kernel_rfl) (by first | exact rfl | (rw [hmd];exact rfl)) ?_;intro K hK;simp only [LZ,zo,zc,reduceCtorEq,reduceIte,zz1,zz2,zz3,zz4,zz5,zz6,zz7,zz8,zz9,zza,zzb,zzc,zzd,zze,zzf,e2,b2,e3,b3,e6,hlt,hip,hd,hj,hk,hjl,hkl,hjp,hkp,hdx,hdy,hmd]
    refine cop_intro ?ha (cd) ?_;(case ha => (simp only [LZ,zo,zc,reduceCtorEq,reduceIte,zz1,zz2,zz3,zz4,zz5,zz6,zz7,zz8,zz9,zza,zzb,zzc,zzd,zze,zzf,hmd]) <;> rfl);simp only [LZ,zo,zc,reduceCtorEq,reduceIte,zz1,zz2,zz3,zz4,zz5,zz6,zz7,zz8,zz9,zza,zzb,zzc,zzd,zze,zzf,hmd]
    refine hK _ ?_;clear hK K;try simp only [LSj,reduceIte,zze]
    by_cases hdf : diffN x y = []
    · rw [if_pos hdf] at hr
      (repeat (first | refine LW_seq ?_ | ((first | (refine LW_region ?_;intro K hK;simp only [LZ,zo,zc,reduceCtorEq,reduceIte,zz1,zz2,zz3,zz4,zz5,zz6,zz7,zz8,zz9,zza,zzb,zzc,zzd,zze,zzf,hdf];refine hK _ ?_;clear hK K) | refine LW_label ?_ | refine LW_skip ?_);try simp only [LSj,reduceIte,zze]) | refine LW_block ?_))
      refine LW_if ?_;intro X Y hX hY;simp only [LZ,zo,zc,reduceCtorEq,reduceIte,zz1,zz2,zz3,zz4,zz5,zz6,zz7,zz8,zz9,zza,zzb,zzc,zzd,zze,zzf];refine hY ?_;clear hX hY X Y;(try simp only [LSj,reduceIte,zze]);(try (refine LW_skip ?_;simp only [LSj,reduceIte,zze]))
      (repeat (first | refine LW_seq ?_ | ((first | (refine LW_region ?_;intro K hK;simp only [LZ,zo,zc,reduceCtorEq,reduceIte,zz1,zz2,zz3,zz4,zz5,zz6,zz7,zz8,zz9,zza,zzb,zzc,zzd,zze,zzf,e6,hw];refine hK _ ?_;clear hK K) | refine LW_label ?_ | refine LW_skip ?_);try simp only [LSj,reduceIte,zze]) | refine LW_block ?_))
      exact ⟨n - 1,by omega,i + 1,by omega,(by first | exact rfl | assumption | (simp only [LZ,zo,zc,reduceCtorEq,reduceIte,zz1,zz2,zz3,zz4,zz5,zz6,zz7,zz8,zz9,zza,zzb,zzc,zzd,zze,zzf,e2] <;> exact rfl)),(by first | exact rfl | assumption | (simp only [LZ,zo,zc,reduceCtorEq,reduceIte,zz1,zz2,zz3,zz4,zz5,zz6,zz7,zz8,zz9,zza,zzb,zzc,zzd,zze,zzf,b2,treeL] <;> exact rfl)),(by first | exact rfl | assumption | (simp only [LZ,zo,zc,reduceCtorEq,reduceIte,zz1,zz2,zz3,zz4,zz5,zz6,zz7,zz8,zz9,zza,zzb,zzc,zzd,zze,zzf,e3] <;> exact rfl)),(by first | exact rfl | assumption | (simp only [LZ,zo,zc,reduceCtorEq,reduceIte,zz1,zz2,zz3,zz4,zz5,zz6,zz7,zz8,zz9,zza,zzb,zzc,zzd,zze,zzf,b3,treeL] <;> exact rfl)),(by first | exact rfl | assumption | (simp only [LZ,zo,zc,reduceCtorEq,reduceIte,zz1,zz2,zz3,zz4,zz5,zz6,zz7,zz8,zz9,zza,zzb,zzc,zzd,zze,zzf] <;> exact rfl)),hr,(by first | exact rfl | assumption | (simp only [LZ,zo,zc,reduceCtorEq,reduceIte,zz1,zz2,zz3,zz4,zz5,zz6,zz7,zz8,zz9,zza,zzb,zzc,zzd,zze,zzf,hmd] <;> exact rfl))⟩
    · rw [if_neg hdf] at hr
      unfold dotP at hr
      (repeat (first | refine LW_seq ?_ | ((first | (refine LW_region ?_;intro K hK;simp only [LZ,zo,zc,reduceCtorEq,reduceIte,zz1,zz2,zz3,zz4,zz5,zz6,zz7,zz8,zz9,zza,zzb,zzc,zzd,zze,zzf,hdf];refine hK _ ?_;clear hK K) | refine LW_label ?_ | refine LW_skip ?_);try simp only [LSj,reduceIte,zze]) | refine LW_block ?_))
      refine LW_if ?_;intro X Y hX hY;simp only [LZ,zo,zc,reduceCtorEq,reduceIte,zz1,zz2,zz3,zz4,zz5,zz6,zz7,zz8,zz9,zza,zzb,zzc,zzd,zze,zzf];refine hX ?_;clear hX hY X Y;try simp only [LSj,reduceIte,zze]
      by_cases hp : e.path = []
      · rw [if_pos hp] at hr
        (repeat (first | refine LW_seq ?_ | ((first | (refine LW_region ?_;intro K hK;simp only [LZ,zo,zc,reduceCtorEq,reduceIte,zz1,zz2,zz3,zz4,zz5,zz6,zz7,zz8,zz9,zza,zzb,zzc,zzd,zze,zzf,hp];refine hK _ ?_;clear hK K) | refine LW_label ?_ | refine LW_skip ?_);try simp only [LSj,reduceIte,zze]) | refine LW_block ?_))
        refine LW_if ?_;intro X Y hX hY;simp only [LZ,zo,zc,reduceCtorEq,reduceIte,zz1,zz2,zz3,zz4,zz5,zz6,zz7,zz8,zz9,zza,zzb,zzc,zzd,zze,zzf];refine hX ?_;clear hX hY X Y;try simp only [LSj,reduceIte,zze]
        (repeat (first | refine LW_seq ?_ | ((first | (refine LW_region ?_;intro K hK;simp only [LZ,zo,zc,reduceCtorEq,reduceIte,zz1,zz2,zz3,zz4,zz5,zz6,zz7,zz8,zz9,zza,zzb,zzc,zzd,zze,zzf];refine hK _ ?_;clear hK K) | refine LW_label ?_ | refine LW_skip ?_);try simp only [LSj,reduceIte,zze]) | refine LW_block ?_))
        refine LW_ret ?_;simp only [thenL,jumpsL,inBlockL,twoL,bodyQ,LV.lit.injEq,LV.tup.injEq,LV.agg.injEq,LV.sl.injEq,List.cons.injEq,Value.int.injEq,Value.bool.injEq,Value.string.injEq,ByteArray.mk.injEq,exists_eq_left',exists_eq_left,exists_eq_right,LZ,zo,zc,reduceCtorEq,reduceIte,zz1,zz2,zz3,zz4,zz5,zz6,zz7,zz8,zz9,zza,zzb,zzc,zzd,zze,zzf]
        rw [← hr];exact ⟨rfl,rfl⟩
      · rw [if_neg hp] at hr
        (repeat (first | refine LW_seq ?_ | ((first | (refine LW_region ?_;intro K hK;simp only [LZ,zo,zc,reduceCtorEq,reduceIte,zz1,zz2,zz3,zz4,zz5,zz6,zz7,zz8,zz9,zza,zzb,zzc,zzd,zze,zzf,hp];refine hK _ ?_;clear hK K) | refine LW_label ?_ | refine LW_skip ?_);try simp only [LSj,reduceIte,zze]) | refine LW_block ?_))
        refine LW_if ?_;intro X Y hX hY;simp only [LZ,zo,zc,reduceCtorEq,reduceIte,zz1,zz2,zz3,zz4,zz5,zz6,zz7,zz8,zz9,zza,zzb,zzc,zzd,zze,zzf];refine hY ?_;clear hX hY X Y;(try simp only [LSj,reduceIte,zze]);(try (refine LW_skip ?_;simp only [LSj,reduceIte,zze]))
        (repeat (first | refine LW_seq ?_ | ((first | (refine LW_region ?_;intro K hK;simp only [LZ,zo,zc,reduceCtorEq,reduceIte,zz1,zz2,zz3,zz4,zz5,zz6,zz7,zz8,zz9,zza,zzb,zzc,zzd,zze,zzf];refine hK _ ?_;clear hK K) | refine LW_label ?_ | refine LW_skip ?_);try simp only [LSj,reduceIte,zze]) | refine LW_block ?_))
        refine LW_ret ?_;simp only [thenL,jumpsL,inBlockL,twoL,bodyQ,LV.lit.injEq,LV.tup.injEq,LV.agg.injEq,LV.sl.injEq,List.cons.injEq,Value.int.injEq,Value.bool.injEq,Value.string.injEq,ByteArray.mk.injEq,exists_eq_left',exists_eq_left,exists_eq_right,LZ,zo,zc,reduceCtorEq,reduceIte,zz1,zz2,zz3,zz4,zz5,zz6,zz7,zz8,zz9,zza,zzb,zzc,zzd,zze,zzf]
        rw [← hr];exact ⟨rfl,rfl⟩
  rintro st hr
  (repeat (first | refine LW_seq ?_ | ((first | (refine LW_region ?_;intro K hK;simp only [LZ,zo,zc,reduceCtorEq,reduceIte,zz1,zz2,zz3,zz4,zz5,zz6,zz7,zz8,zz9,zza,zzb,zzc,zzd,zze,zzf];refine hK _ ?_;clear hK K) | refine LW_label ?_ | refine LW_skip ?_);try simp only [LSj,reduceIte,zze]) | refine LW_block ?_))
  refine LW_ret ?_;simp only [thenL,jumpsL,inBlockL,twoL,bodyQ,LV.lit.injEq,LV.tup.injEq,LV.agg.injEq,LV.sl.injEq,List.cons.injEq,Value.int.injEq,Value.bool.injEq,Value.string.injEq,ByteArray.mk.injEq,exists_eq_left',exists_eq_left,exists_eq_right,LZ,zo,zc,reduceCtorEq,reduceIte,zz1,zz2,zz3,zz4,zz5,zz6,zz7,zz8,zz9,zza,zzb,zzc,zzd,zze,zzf]
  rw [← hr];exact ⟨rfl,rfl⟩
end Go.Proofs.Ytpficpldemickaa
