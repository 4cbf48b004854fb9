import Derived.Test.YtpficpldemickaaISpec
import Derived.Test.YtpficpldemickaaKIC
import Derived.Test.YtpficpldemickaaKNF
section
set_option linter.unusedSimpArgs false
set_option linter.unusedVariables false
namespace Go.Proofs.Ytpficpldemickaa.TreeSpec
open AclSpec MetaSpec NodeSpec PathSpec
def xm : Meta := ⟨0,0,0,0,[],[]⟩
def xm1 : Meta := ⟨1,0,0,0,[],[]⟩
def xd : FNode := ⟨1,xm,0,[],[],0,0⟩
def xf : FNode := ⟨6,xm,0,[],[],0,0⟩
def xg : FNode := ⟨1,xm1,0,[],[],0,0⟩
def xA : FTree := ⟨[⟨[],0⟩,⟨[97],1⟩,⟨[98],1⟩],[xd,xf]⟩
def xB : FTree := ⟨[⟨[],0⟩,⟨[97],1⟩,⟨[98],2⟩],[xd,xf,xf]⟩
def xC : FTree := ⟨[⟨[],0⟩],[xg]⟩
def xE : FTree := ⟨[],[]⟩
theorem ex_n1 : nodesA xA xC = ([46],[109,111,100,101]) := by decide +kernel
theorem ex_n2 : nodesA xA xA = ([],[]) := by decide +kernel
theorem ex_s1 : sameA xA xA = true := by decide +kernel
theorem ex_s2 : sameA xA xB = false := by decide +kernel
theorem ex_l : linksA xA xB = [97] := by decide +kernel
theorem ex_p1 : pathsA xA xC = [97] := by decide +kernel
theorem ex_p2 : pathsA xA xB = [] := by decide +kernel
theorem ex_w1 : withinA xC xA = true := by decide +kernel
theorem ex_w2 : withinA xA xC = false := by decide +kernel
theorem ex_p3 : pathsA xE xA = [63] := by decide +kernel
theorem ex_s3 : sameA xE xE = false := by decide +kernel
end Go.Proofs.Ytpficpldemickaa.TreeSpec
end
section
set_option linter.unusedSimpArgs false
set_option linter.unusedVariables false
namespace Go.Proofs.Ytpficpldemickaa
open Nat renaming reduceAdd → zz1,reduceMul → zz2,reduceSub → zz3,reduceLT → zz4,reduceLeDiff → zz5,reduceEqDiff → zz6,reduceBEq → zzf
open Int renaming reduceAdd → zz7,reduceSub → zz8,reduceMul → zz9,reduceLT → zza,reduceLE → zzb,reduceEq → zzc,reduceNeg → zzd,reduceToNat → zze
open Op renaming operands → zo
open Call renaming operands → zc
open Go.RowKit Go.Proofs AclSpec MetaSpec NodeSpec PathSpec TreeSpec

theorem small_tree {t : FTree} (h1 : t.ents.length ≤ 10) (h2 : t.nodes.length ≤ 10) (h3 : t.ents.all (fun e => decide (e.path.length ≤ 10)) = true) (h4 : t.nodes.all (fun n => decide (n.mt.attrs.length ≤ 10) && decide (n.mt.acl.length ≤ 10) && decide (n.dat = []) && decide (n.target.length ≤ 10)) = true) : SmallT t := by
  refine ⟨by omega,by omega,fun e he => ?_,fun n hn => ?_⟩
  · have := of_decide_eq_true (List.all_eq_true.1 h3 e he);omega
  · have := List.all_eq_true.1 h4 n hn
    simp only [Bool.and_eq_true,decide_eq_true_eq] at this
    obtain ⟨⟨⟨a,b⟩,c⟩,d⟩ := this
    refine ⟨⟨by omega,by omega,by rw [c];decide,fun p hp => by rw [c] at hp;cases hp⟩,by unfold maxLen;omega⟩

set_option maxRecDepth 100000 in
set_option maxHeartbeats 8000000 in
theorem itold_L : LCalls Try.prog 9 [] (boolL true) := by
  have sA : SmallT xA := small_tree (by decide) (by decide) (by decide) (by decide)
  have sB : SmallT xB := small_tree (by decide) (by decide) (by decide) (by decide)
  have sC : SmallT xC := small_tree (by decide) (by decide) (by decide) (by decide)
  have sE : SmallT xE := small_tree (by decide) (by decide) (by decide) (by decide)
  have c1 := inodes_L xA xC sA sC
  rw [ex_n1] at c1
  have c2 := inodes_L xA xA sA sA
  rw [ex_n2] at c2
  have c3 := isame_L xA xA sA sA
  rw [ex_s1] at c3
  have c4 := isame_L xA xB sA sB
  rw [ex_s2] at c4
  have c5 := ilinks_L xA xB sA sB
  rw [ex_l] at c5
  have c6 := ipaths_L xA xC sA sC
  rw [ex_p1] at c6
  have c7 := ipaths_L xA xB sA sB
  rw [ex_p2] at c7
  have c8 := iwithin_L xC xA sC sA
  rw [ex_w1] at c8
  have c9 := iwithin_L xA xC sA sC
  rw [ex_w2] at c9
  have c10 := ipaths_L xE xA sE sA
  rw [ex_p3] at c10
  have c11 := isame_L xE xE sE sE
  rw [ex_s3] at c11
  simp only [xA,xB,xC,xE,xd,xf,xg,xm,xm1,treeL,tentL,nodeL,attrsL,acesL,piecesL,rowL,List.flatMap_cons,List.flatMap_nil,List.cons_append,List.nil_append,List.append_nil,List.length_cons,List.length_nil,Nat.reduceAdd] at c1 c2 c3 c4 c5 c6 c7 c8 c9 c10 c11
  refine LCalls.of (fun _ => false) Try.func9 rfl (by decide) Try.ntmps9 Try.results9 (by simp) ?_
  intro w0 S0 vs hgl hwf0 hsz hvs;clear hsz hvs hwf0 hgl
  (repeat (first | refine LW_seq ?_ | ((first | (refine LW_region ?_;intro K hK;simp only [LZ,zo,zc,reduceCtorEq,reduceIte,zz1,zz2,zz3,zz4,zz5,zz6,zz7,zz8,zz9,zza,zzb,zzc,zzd,zze,zzf];refine hK _ ?_;clear hK K) | refine LW_label ?_ | refine LW_skip ?_);try simp only [LSj,reduceIte,zze]) | refine LW_block ?_))
  (repeat (first | refine LW_seq ?_ | (refine LW_skip ?_;simp only [LSj,reduceIte,zze]) | refine LW_block ?_));refine LW_region ?_;intro K hK;simp only [LZ,zo,zc,reduceCtorEq,reduceIte,zz1,zz2,zz3,zz4,zz5,zz6,zz7,zz8,zz9,zza,zzb,zzc,zzd,zze,zzf]
  refine cop_intro ?ha (c1) ?_;(case ha => (simp only [LZ,zo,zc,reduceCtorEq,reduceIte,zz1,zz2,zz3,zz4,zz5,zz6,zz7,zz8,zz9,zza,zzb,zzc,zzd,zze,zzf]) <;> rfl);simp only [LZ,zo,zc,reduceCtorEq,reduceIte,zz1,zz2,zz3,zz4,zz5,zz6,zz7,zz8,zz9,zza,zzb,zzc,zzd,zze,zzf]
  refine hK _ ?_;clear hK K;try simp only [LSj,reduceIte,zze]
  (repeat (first | refine LW_seq ?_ | (refine LW_skip ?_;simp only [LSj,reduceIte,zze]) | refine LW_block ?_));refine LW_region ?_;intro K hK;simp only [LZ,zo,zc,reduceCtorEq,reduceIte,zz1,zz2,zz3,zz4,zz5,zz6,zz7,zz8,zz9,zza,zzb,zzc,zzd,zze,zzf]
  refine cop_intro ?ha (c2) ?_;(case ha => (simp only [LZ,zo,zc,reduceCtorEq,reduceIte,zz1,zz2,zz3,zz4,zz5,zz6,zz7,zz8,zz9,zza,zzb,zzc,zzd,zze,zzf]) <;> rfl);simp only [LZ,zo,zc,reduceCtorEq,reduceIte,zz1,zz2,zz3,zz4,zz5,zz6,zz7,zz8,zz9,zza,zzb,zzc,zzd,zze,zzf]
  refine hK _ ?_;clear hK K;try simp only [LSj,reduceIte,zze]
  (repeat refine LW_seq ?_)
  refine LW_regionA (l := ?l) ?hl ?_
  case hl => (first | simp only [Array.append_eq_append,List.append_toArray,List.append_eq,List.cons_append,List.nil_append] | skip);exact rfl
  (repeat (first | refine LW_seq ?_ | (refine LW_skip ?_;simp only [LSj,reduceIte,zze]) | refine LW_block ?_));refine LW_region ?_;intro K hK;simp only [LZ,zo,zc,reduceCtorEq,reduceIte,zz1,zz2,zz3,zz4,zz5,zz6,zz7,zz8,zz9,zza,zzb,zzc,zzd,zze,zzf]
  refine cop_intro ?ha (c3) ?_;(case ha => (simp only [LZ,zo,zc,reduceCtorEq,reduceIte,zz1,zz2,zz3,zz4,zz5,zz6,zz7,zz8,zz9,zza,zzb,zzc,zzd,zze,zzf]) <;> rfl);simp only [LZ,zo,zc,reduceCtorEq,reduceIte,zz1,zz2,zz3,zz4,zz5,zz6,zz7,zz8,zz9,zza,zzb,zzc,zzd,zze,zzf]
  refine cop_intro ?ha (c4) ?_;(case ha => (simp only [LZ,zo,zc,reduceCtorEq,reduceIte,zz1,zz2,zz3,zz4,zz5,zz6,zz7,zz8,zz9,zza,zzb,zzc,zzd,zze,zzf]) <;> rfl);simp only [LZ,zo,zc,reduceCtorEq,reduceIte,zz1,zz2,zz3,zz4,zz5,zz6,zz7,zz8,zz9,zza,zzb,zzc,zzd,zze,zzf]
  refine cop_intro ?ha (c5) ?_;(case ha => (simp only [LZ,zo,zc,reduceCtorEq,reduceIte,zz1,zz2,zz3,zz4,zz5,zz6,zz7,zz8,zz9,zza,zzb,zzc,zzd,zze,zzf]) <;> rfl);simp only [LZ,zo,zc,reduceCtorEq,reduceIte,zz1,zz2,zz3,zz4,zz5,zz6,zz7,zz8,zz9,zza,zzb,zzc,zzd,zze,zzf]
  refine cop_intro ?ha (c6) ?_;(case ha => (simp only [LZ,zo,zc,reduceCtorEq,reduceIte,zz1,zz2,zz3,zz4,zz5,zz6,zz7,zz8,zz9,zza,zzb,zzc,zzd,zze,zzf]) <;> rfl);simp only [LZ,zo,zc,reduceCtorEq,reduceIte,zz1,zz2,zz3,zz4,zz5,zz6,zz7,zz8,zz9,zza,zzb,zzc,zzd,zze,zzf]
  refine cop_intro ?ha (c7) ?_;(case ha => (simp only [LZ,zo,zc,reduceCtorEq,reduceIte,zz1,zz2,zz3,zz4,zz5,zz6,zz7,zz8,zz9,zza,zzb,zzc,zzd,zze,zzf]) <;> rfl);simp only [LZ,zo,zc,reduceCtorEq,reduceIte,zz1,zz2,zz3,zz4,zz5,zz6,zz7,zz8,zz9,zza,zzb,zzc,zzd,zze,zzf]
  refine cop_intro ?ha (c8) ?_;(case ha => (simp only [LZ,zo,zc,reduceCtorEq,reduceIte,zz1,zz2,zz3,zz4,zz5,zz6,zz7,zz8,zz9,zza,zzb,zzc,zzd,zze,zzf]) <;> rfl);simp only [LZ,zo,zc,reduceCtorEq,reduceIte,zz1,zz2,zz3,zz4,zz5,zz6,zz7,zz8,zz9,zza,zzb,zzc,zzd,zze,zzf]
  refine cop_intro ?ha (c9) ?_;(case ha => (simp only [LZ,zo,zc,reduceCtorEq,reduceIte,zz1,zz2,zz3,zz4,zz5,zz6,zz7,zz8,zz9,zza,zzb,zzc,zzd,zze,zzf]) <;> rfl);simp only [LZ,zo,zc,reduceCtorEq,reduceIte,zz1,zz2,zz3,zz4,zz5,zz6,zz7,zz8,zz9,zza,zzb,zzc,zzd,zze,zzf]
  refine cop_intro ?ha (c10) ?_;(case ha => (simp only [LZ,zo,zc,reduceCtorEq,reduceIte,zz1,zz2,zz3,zz4,zz5,zz6,zz7,zz8,zz9,zza,zzb,zzc,zzd,zze,zzf]) <;> rfl);simp only [LZ,zo,zc,reduceCtorEq,reduceIte,zz1,zz2,zz3,zz4,zz5,zz6,zz7,zz8,zz9,zza,zzb,zzc,zzd,zze,zzf]
  refine cop_intro ?ha (c11) ?_;(case ha => (simp only [LZ,zo,zc,reduceCtorEq,reduceIte,zz1,zz2,zz3,zz4,zz5,zz6,zz7,zz8,zz9,zza,zzb,zzc,zzd,zze,zzf]) <;> rfl);simp only [LZ,zo,zc,reduceCtorEq,reduceIte,zz1,zz2,zz3,zz4,zz5,zz6,zz7,zz8,zz9,zza,zzb,zzc,zzd,zze,zzf]
  refine hK _ ?_;clear hK K;try simp only [LSj,reduceIte,zze]
  refine LW_ret ?_;simp only [thenL,jumpsL,inBlockL,twoL,bodyQ,LV.lit.injEq,LV.tup.injEq,LV.agg.injEq,LV.sl.injEq,List.cons.injEq,Value.int.injEq,Value.bool.injEq,Value.string.injEq,ByteArray.mk.injEq,exists_eq_left',exists_eq_left,exists_eq_right,LZ,zo,zc,reduceCtorEq,reduceIte,zz1,zz2,zz3,zz4,zz5,zz6,zz7,zz8,zz9,zza,zzb,zzc,zzd,zze,zzf]

def fewT (t : FTree) : Bool := t.ents.all (fun e => decide (e.path.length ≤ 120)) && (t.nodes.all fewN && (decide (t.ents.length ≤ 30) && decide (t.nodes.length ≤ 30)))
theorem fewT_small {t : FTree} (h : fewT t = true) : SmallT t := by
  unfold fewT at h
  simp only [Bool.and_eq_true,decide_eq_true_eq,List.all_eq_true] at h
  obtain ⟨h1,h2,h3,h4⟩ := h
  refine ⟨by omega,by omega,fun e he => ?_,fun n hn => ?_⟩
  · have := h1 e he;omega
  · obtain ⟨a,_,_,b,_⟩ := fewN_small (h2 n hn)
    exact ⟨a,by unfold maxLen;omega⟩
def okLenT (t : FTree) : Prop := t.ents.length ≤ maxLen ∧ t.nodes.length ≤ maxLen ∧ ∀ n ∈ t.nodes,okLen n

set_option maxRecDepth 100000 in
set_option maxHeartbeats 4000000 in
theorem tfew_L (t : FTree) (ho : okLenT t) : LCalls Try.prog 8 [.agg (treeL t)] (boolL (fewT t)) := by
  obtain ⟨hle,hln,hok⟩ := ho
  unfold maxLen at hle hln
  refine LCalls.of (fun _ => false) Try.func8 rfl (by decide) Try.ntmps8 Try.results8 (by simp) ?_
  intro w0 S0 vs hgl hwf0 hsz hvs;clear hsz hvs hwf0 hgl
  generalize hR : fewT t = R
  unfold fewT at hR
  generalize hp : (fun a : TEnt => decide (a.path.length ≤ 120)) = p at hR
  (repeat (first | refine LW_seq ?_ | ((first | (refine LW_region ?_;intro K hK;simp only [LZ,zo,zc,reduceCtorEq,reduceIte,zz1,zz2,zz3,zz4,zz5,zz6,zz7,zz8,zz9,zza,zzb,zzc,zzd,zze,zzf,treeL];refine hK _ ?_;clear hK K) | refine LW_label ?_ | refine LW_skip ?_);try simp only [LSj,reduceIte,zze]) | refine LW_block ?_))
  refine LW_joinB (fun st => st.env 1 = .ptr 1 0 ∧ st.box 1 = some (treeL t) ∧ t.ents.all p = true) ?_ ?_
  · refine LW_loop (fun k st => ∃ i : Nat,k + i = t.ents.length ∧ st.env 1 = .ptr 1 0 ∧ st.box 1 = some (treeL t) ∧ st.env 3 = intL i ∧ (t.ents.take i).all p = true) t.ents.length ⟨0,by omega,rfl,(by first | exact rfl | assumption | (simp only [LZ,zo,zc,reduceCtorEq,reduceIte,zz1,zz2,zz3,zz4,zz5,zz6,zz7,zz8,zz9,zza,zzb,zzc,zzd,zze,zzf,treeL] <;> exact rfl)),rfl,rfl⟩ ?_
    rintro k st ⟨i,hn,e1,b1,e3,hall⟩
    simp only [treeL] at b1
    by_cases hlt : i < t.ents.length
    rotate_left
    · (repeat (first | refine LW_seq ?_ | ((first | (refine LW_region ?_;intro K hK;simp only [LZ,zo,zc,reduceCtorEq,reduceIte,zz1,zz2,zz3,zz4,zz5,zz6,zz7,zz8,zz9,zza,zzb,zzc,zzd,zze,zzf,e1,b1,e3,hlt];refine hK _ ?_;clear hK K) | refine LW_label ?_ | refine LW_skip ?_);try simp only [LSj,reduceIte,zze]) | refine LW_block ?_))
      refine LW_if ?_;intro X Y hX hY;simp only [LZ,zo,zc,reduceCtorEq,reduceIte,zz1,zz2,zz3,zz4,zz5,zz6,zz7,zz8,zz9,zza,zzb,zzc,zzd,zze,zzf,hlt];refine hY ?_;clear hX hY X Y;(try simp only [LSj,reduceIte,zze]);(try (refine LW_skip ?_;simp only [LSj,reduceIte,zze]))
      refine LW_exit ?_;simp only [thenL,jumpsL,inBlockL,twoL,reduceIte,Nat.reduceEqDiff]
      rw [List.take_of_length_le (by omega)] at hall
      exact ⟨(by first | exact rfl | assumption | (simp only [LZ,zo,zc,reduceCtorEq,reduceIte,zz1,zz2,zz3,zz4,zz5,zz6,zz7,zz8,zz9,zza,zzb,zzc,zzd,zze,zzf,e1] <;> exact rfl)),(by first | exact rfl | assumption | (simp only [LZ,zo,zc,reduceCtorEq,reduceIte,zz1,zz2,zz3,zz4,zz5,zz6,zz7,zz8,zz9,zza,zzb,zzc,zzd,zze,zzf,b1,treeL] <;> exact rfl)),hall⟩
    obtain ⟨a,ha⟩ := get_of_lt hlt
    have hd := drop_tent ha
    have hw := w64s (n := i) (by omega)
    have hip : (0 : Int) ≤ (i : Int) := by omega
    have hs := all_take_succ (p := p) ha
    (repeat (first | refine LW_seq ?_ | ((first | (refine LW_region ?_;intro K hK;simp only [LZ,zo,zc,reduceCtorEq,reduceIte,zz1,zz2,zz3,zz4,zz5,zz6,zz7,zz8,zz9,zza,zzb,zzc,zzd,zze,zzf,e1,b1,e3,hlt];refine hK _ ?_;clear hK K) | refine LW_label ?_ | refine LW_skip ?_);try simp only [LSj,reduceIte,zze]) | refine LW_block ?_))
    refine LW_if ?_;intro X Y hX hY;simp only [LZ,zo,zc,reduceCtorEq,reduceIte,zz1,zz2,zz3,zz4,zz5,zz6,zz7,zz8,zz9,zza,zzb,zzc,zzd,zze,zzf,hlt];refine hX ?_;clear hX hY X Y;try simp only [LSj,reduceIte,zze]
    by_cases g1 : (120 : Int) < a.path.length
    · (repeat (first | refine LW_seq ?_ | ((first | (refine LW_region ?_;intro K hK;simp only [LZ,zo,zc,reduceCtorEq,reduceIte,zz1,zz2,zz3,zz4,zz5,zz6,zz7,zz8,zz9,zza,zzb,zzc,zzd,zze,zzf,e1,b1,e3,hlt,hip,hd,g1];refine hK _ ?_;clear hK K) | refine LW_label ?_ | refine LW_skip ?_);try simp only [LSj,reduceIte,zze]) | refine LW_block ?_))
      refine LW_if ?_;intro X Y hX hY;simp only [LZ,zo,zc,reduceCtorEq,reduceIte,zz1,zz2,zz3,zz4,zz5,zz6,zz7,zz8,zz9,zza,zzb,zzc,zzd,zze,zzf,g1];refine hX ?_;clear hX hY X Y;try simp only [LSj,reduceIte,zze]
      (repeat (first | refine LW_seq ?_ | ((first | (refine LW_region ?_;intro K hK;simp only [LZ,zo,zc,reduceCtorEq,reduceIte,zz1,zz2,zz3,zz4,zz5,zz6,zz7,zz8,zz9,zza,zzb,zzc,zzd,zze,zzf];refine hK _ ?_;clear hK K) | refine LW_label ?_ | refine LW_skip ?_);try simp only [LSj,reduceIte,zze]) | refine LW_block ?_))
      refine LW_ret ?_;simp only [thenL,jumpsL,inBlockL,twoL,bodyQ,LV.lit.injEq,LV.tup.injEq,LV.agg.injEq,LV.sl.injEq,List.cons.injEq,Value.int.injEq,Value.bool.injEq,Value.string.injEq,ByteArray.mk.injEq,exists_eq_left',exists_eq_left,exists_eq_right,LZ,zo,zc,reduceCtorEq,reduceIte,zz1,zz2,zz3,zz4,zz5,zz6,zz7,zz8,zz9,zza,zzb,zzc,zzd,zze,zzf]
      have hpf : p a = false := by rw [← hp];simp only;rw [decide_eq_false (by omega)]
      rw [← hR,all_false_of ha hpf];rfl
    · (repeat (first | refine LW_seq ?_ | ((first | (refine LW_region ?_;intro K hK;simp only [LZ,zo,zc,reduceCtorEq,reduceIte,zz1,zz2,zz3,zz4,zz5,zz6,zz7,zz8,zz9,zza,zzb,zzc,zzd,zze,zzf,e1,b1,e3,hlt,hip,hd,g1];refine hK _ ?_;clear hK K) | refine LW_label ?_ | refine LW_skip ?_);try simp only [LSj,reduceIte,zze]) | refine LW_block ?_))
      refine LW_if ?_;intro X Y hX hY;simp only [LZ,zo,zc,reduceCtorEq,reduceIte,zz1,zz2,zz3,zz4,zz5,zz6,zz7,zz8,zz9,zza,zzb,zzc,zzd,zze,zzf,g1];refine hY ?_;clear hX hY X Y;(try simp only [LSj,reduceIte,zze]);(try (refine LW_skip ?_;simp only [LSj,reduceIte,zze]))
      (repeat (first | refine LW_seq ?_ | ((first | (refine LW_region ?_;intro K hK;simp only [LZ,zo,zc,reduceCtorEq,reduceIte,zz1,zz2,zz3,zz4,zz5,zz6,zz7,zz8,zz9,zza,zzb,zzc,zzd,zze,zzf,e3,hw];refine hK _ ?_;clear hK K) | refine LW_label ?_ | refine LW_skip ?_);try simp only [LSj,reduceIte,zze]) | refine LW_block ?_))
      have hpt : p a = true := by rw [← hp];simp only;rw [decide_eq_true (by omega)]
      exact ⟨k - 1,by omega,i + 1,by omega,(by first | exact rfl | assumption | (simp only [LZ,zo,zc,reduceCtorEq,reduceIte,zz1,zz2,zz3,zz4,zz5,zz6,zz7,zz8,zz9,zza,zzb,zzc,zzd,zze,zzf,e1] <;> exact rfl)),(by first | exact rfl | assumption | (simp only [LZ,zo,zc,reduceCtorEq,reduceIte,zz1,zz2,zz3,zz4,zz5,zz6,zz7,zz8,zz9,zza,zzb,zzc,zzd,zze,zzf,b1,treeL] <;> exact rfl)),(by first | exact rfl | assumption | (simp only [LZ,zo,zc,reduceCtorEq,reduceIte,zz1,zz2,zz3,zz4,zz5,zz6,zz7,zz8,zz9,zza,zzb,zzc,zzd,zze,zzf] <;> exact rfl)),by rw [hs,hall,hpt];rfl⟩
  rintro st ⟨e1,b1,hall⟩
  rw [hall,Bool.true_and] at hR
  (repeat (first | refine LW_seq ?_ | ((first | (refine LW_region ?_;intro K hK;simp only [LZ,zo,zc,reduceCtorEq,reduceIte,zz1,zz2,zz3,zz4,zz5,zz6,zz7,zz8,zz9,zza,zzb,zzc,zzd,zze,zzf,e1];refine hK _ ?_;clear hK K) | refine LW_label ?_ | refine LW_skip ?_);try simp only [LSj,reduceIte,zze]) | refine LW_block ?_))
  refine LW_joinB (fun st => st.env 1 = .ptr 1 0 ∧ st.box 1 = some (treeL t) ∧ t.nodes.all fewN = true) ?_ ?_
  · refine LW_loop (fun k st => ∃ i : Nat,k + i = t.nodes.length ∧ st.env 1 = .ptr 1 0 ∧ st.box 1 = some (treeL t) ∧ st.env 4 = intL i ∧ (t.nodes.take i).all fewN = true) t.nodes.length ⟨0,by omega,(by first | exact rfl | assumption | (simp only [LZ,zo,zc,reduceCtorEq,reduceIte,zz1,zz2,zz3,zz4,zz5,zz6,zz7,zz8,zz9,zza,zzb,zzc,zzd,zze,zzf,e1] <;> exact rfl)),(by first | exact rfl | assumption | (simp only [LZ,zo,zc,reduceCtorEq,reduceIte,zz1,zz2,zz3,zz4,zz5,zz6,zz7,zz8,zz9,zza,zzb,zzc,zzd,zze,zzf,b1] <;> exact rfl)),(by first | exact rfl | assumption | (simp only [LZ,zo,zc,reduceCtorEq,reduceIte,zz1,zz2,zz3,zz4,zz5,zz6,zz7,zz8,zz9,zza,zzb,zzc,zzd,zze,zzf] <;> exact rfl)),rfl⟩ ?_
    clear e1 b1 st
    rintro k st ⟨i,hn,e1,b1,e4,hall2⟩
    simp only [treeL] at b1
    by_cases hlt : i < t.nodes.length
    rotate_left
    · (repeat (first | refine LW_seq ?_ | ((first | (refine LW_region ?_;intro K hK;simp only [LZ,zo,zc,reduceCtorEq,reduceIte,zz1,zz2,zz3,zz4,zz5,zz6,zz7,zz8,zz9,zza,zzb,zzc,zzd,zze,zzf,e1,b1,e4,hlt];refine hK _ ?_;clear hK K) | refine LW_label ?_ | refine LW_skip ?_);try simp only [LSj,reduceIte,zze]) | refine LW_block ?_))
      refine LW_if ?_;intro X Y hX hY;simp only [LZ,zo,zc,reduceCtorEq,reduceIte,zz1,zz2,zz3,zz4,zz5,zz6,zz7,zz8,zz9,zza,zzb,zzc,zzd,zze,zzf,hlt];refine hY ?_;clear hX hY X Y;(try simp only [LSj,reduceIte,zze]);(try (refine LW_skip ?_;simp only [LSj,reduceIte,zze]))
      refine LW_exit ?_;simp only [thenL,jumpsL,inBlockL,twoL,reduceIte,Nat.reduceEqDiff]
      rw [List.take_of_length_le (by omega)] at hall2
      exact ⟨(by first | exact rfl | assumption | (simp only [LZ,zo,zc,reduceCtorEq,reduceIte,zz1,zz2,zz3,zz4,zz5,zz6,zz7,zz8,zz9,zza,zzb,zzc,zzd,zze,zzf,e1] <;> exact rfl)),(by first | exact rfl | assumption | (simp only [LZ,zo,zc,reduceCtorEq,reduceIte,zz1,zz2,zz3,zz4,zz5,zz6,zz7,zz8,zz9,zza,zzb,zzc,zzd,zze,zzf,b1,treeL] <;> exact rfl)),hall2⟩
    obtain ⟨a,ha⟩ := get_of_lt hlt
    have hd := drop_node ha
    have cf := nfew_L a (hok a (List.mem_of_getElem? ha))
    simp only [nodeL,attrsL,acesL,piecesL,rowL,List.cons_append,List.nil_append] at cf hd
    have hw := w64s (n := i) (by omega)
    have hip : (0 : Int) ≤ (i : Int) := by omega
    have hs := all_take_succ (p := fewN) ha
    (repeat (first | refine LW_seq ?_ | ((first | (refine LW_region ?_;intro K hK;simp only [LZ,zo,zc,reduceCtorEq,reduceIte,zz1,zz2,zz3,zz4,zz5,zz6,zz7,zz8,zz9,zza,zzb,zzc,zzd,zze,zzf,e1,b1,e4,hlt];refine hK _ ?_;clear hK K) | refine LW_label ?_ | refine LW_skip ?_);try simp only [LSj,reduceIte,zze]) | refine LW_block ?_))
    refine LW_if ?_;intro X Y hX hY;simp only [LZ,zo,zc,reduceCtorEq,reduceIte,zz1,zz2,zz3,zz4,zz5,zz6,zz7,zz8,zz9,zza,zzb,zzc,zzd,zze,zzf,hlt];refine hX ?_;clear hX hY X Y;try simp only [LSj,reduceIte,zze]
    cases g1 : fewN a
    · rw [g1] at cf
      (repeat (first | refine LW_seq ?_ | (refine LW_skip ?_;simp only [LSj,reduceIte,zze]) | refine LW_block ?_));refine LW_region ?_;intro K hK;simp only [LZ,zo,zc,reduceCtorEq,reduceIte,zz1,zz2,zz3,zz4,zz5,zz6,zz7,zz8,zz9,zza,zzb,zzc,zzd,zze,zzf,e1,b1,e4,hlt,hip,hd]
      refine cop_intro ?ha (cf) ?_;(case ha => (simp only [LZ,zo,zc,reduceCtorEq,reduceIte,zz1,zz2,zz3,zz4,zz5,zz6,zz7,zz8,zz9,zza,zzb,zzc,zzd,zze,zzf]) <;> rfl);simp only [LZ,zo,zc,reduceCtorEq,reduceIte,zz1,zz2,zz3,zz4,zz5,zz6,zz7,zz8,zz9,zza,zzb,zzc,zzd,zze,zzf]
      refine hK _ ?_;clear hK K;try simp only [LSj,reduceIte,zze]
      refine LW_if ?_;intro X Y hX hY;simp only [LZ,zo,zc,reduceCtorEq,reduceIte,zz1,zz2,zz3,zz4,zz5,zz6,zz7,zz8,zz9,zza,zzb,zzc,zzd,zze,zzf];refine hX ?_;clear hX hY X Y;try simp only [LSj,reduceIte,zze]
      (repeat (first | refine LW_seq ?_ | ((first | (refine LW_region ?_;intro K hK;simp only [LZ,zo,zc,reduceCtorEq,reduceIte,zz1,zz2,zz3,zz4,zz5,zz6,zz7,zz8,zz9,zza,zzb,zzc,zzd,zze,zzf];refine hK _ ?_;clear hK K) | refine LW_label ?_ | refine LW_skip ?_);try simp only [LSj,reduceIte,zze]) | refine LW_block ?_))
      refine LW_ret ?_;simp only [thenL,jumpsL,inBlockL,twoL,bodyQ,LV.lit.injEq,LV.tup.injEq,LV.agg.injEq,LV.sl.injEq,List.cons.injEq,Value.int.injEq,Value.bool.injEq,Value.string.injEq,ByteArray.mk.injEq,exists_eq_left',exists_eq_left,exists_eq_right,LZ,zo,zc,reduceCtorEq,reduceIte,zz1,zz2,zz3,zz4,zz5,zz6,zz7,zz8,zz9,zza,zzb,zzc,zzd,zze,zzf]
      rw [← hR,all_false_of ha g1];rfl
    · rw [g1] at cf
      (repeat (first | refine LW_seq ?_ | (refine LW_skip ?_;simp only [LSj,reduceIte,zze]) | refine LW_block ?_));refine LW_region ?_;intro K hK;simp only [LZ,zo,zc,reduceCtorEq,reduceIte,zz1,zz2,zz3,zz4,zz5,zz6,zz7,zz8,zz9,zza,zzb,zzc,zzd,zze,zzf,e1,b1,e4,hlt,hip,hd]
      refine cop_intro ?ha (cf) ?_;(case ha => (simp only [LZ,zo,zc,reduceCtorEq,reduceIte,zz1,zz2,zz3,zz4,zz5,zz6,zz7,zz8,zz9,zza,zzb,zzc,zzd,zze,zzf]) <;> rfl);simp only [LZ,zo,zc,reduceCtorEq,reduceIte,zz1,zz2,zz3,zz4,zz5,zz6,zz7,zz8,zz9,zza,zzb,zzc,zzd,zze,zzf]
      refine hK _ ?_;clear hK K;try simp only [LSj,reduceIte,zze]
      refine LW_if ?_;intro X Y hX hY;simp only [LZ,zo,zc,reduceCtorEq,reduceIte,zz1,zz2,zz3,zz4,zz5,zz6,zz7,zz8,zz9,zza,zzb,zzc,zzd,zze,zzf];refine hY ?_;clear hX hY X Y;(try simp only [LSj,reduceIte,zze]);(try (refine LW_skip ?_;simp only [LSj,reduceIte,zze]))
      (repeat (first | refine LW_seq ?_ | ((first | (refine LW_region ?_;intro K hK;simp only [LZ,zo,zc,reduceCtorEq,reduceIte,zz1,zz2,zz3,zz4,zz5,zz6,zz7,zz8,zz9,zza,zzb,zzc,zzd,zze,zzf,e4,hw];refine hK _ ?_;clear hK K) | refine LW_label ?_ | refine LW_skip ?_);try simp only [LSj,reduceIte,zze]) | refine LW_block ?_))
      exact ⟨k - 1,by omega,i + 1,by omega,(by first | exact rfl | assumption | (simp only [LZ,zo,zc,reduceCtorEq,reduceIte,zz1,zz2,zz3,zz4,zz5,zz6,zz7,zz8,zz9,zza,zzb,zzc,zzd,zze,zzf,e1] <;> exact rfl)),(by first | exact rfl | assumption | (simp only [LZ,zo,zc,reduceCtorEq,reduceIte,zz1,zz2,zz3,zz4,zz5,zz6,zz7,zz8,zz9,zza,zzb,zzc,zzd,zze,zzf,b1,treeL] <;> exact rfl)),(by first | exact rfl | assumption | (simp only [LZ,zo,zc,reduceCtorEq,reduceIte,zz1,zz2,zz3,zz4,zz5,zz6,zz7,zz8,zz9,zza,zzb,zzc,zzd,zze,zzf] <;> exact rfl)),by rw [hs,hall2,g1];rfl⟩
  clear e1 b1 st
  rintro st ⟨e1,b1,hall2⟩
  simp only [treeL] at b1
  rw [hall2,Bool.true_and] at hR
  by_cases g1 : (t.ents.length : Int) ≤ 30
  · rw [decide_eq_true (by omega),Bool.true_and] at hR
    by_cases g2 : (t.nodes.length : Int) ≤ 30
    · rw [decide_eq_true (by omega)] at hR
      (repeat (first | refine LW_seq ?_ | ((first | (refine LW_region ?_;intro K hK;simp only [LZ,zo,zc,reduceCtorEq,reduceIte,zz1,zz2,zz3,zz4,zz5,zz6,zz7,zz8,zz9,zza,zzb,zzc,zzd,zze,zzf,e1,b1,g1,g2];refine hK _ ?_;clear hK K) | refine LW_label ?_ | refine LW_skip ?_);try simp only [LSj,reduceIte,zze]) | refine LW_block ?_))
      refine LW_ret ?_;simp only [thenL,jumpsL,inBlockL,twoL,bodyQ,LV.lit.injEq,LV.tup.injEq,LV.agg.injEq,LV.sl.injEq,List.cons.injEq,Value.int.injEq,Value.bool.injEq,Value.string.injEq,ByteArray.mk.injEq,exists_eq_left',exists_eq_left,exists_eq_right,LZ,zo,zc,reduceCtorEq,reduceIte,zz1,zz2,zz3,zz4,zz5,zz6,zz7,zz8,zz9,zza,zzb,zzc,zzd,zze,zzf]
      exact hR
    · rw [decide_eq_false (by omega)] at hR
      (repeat (first | refine LW_seq ?_ | ((first | (refine LW_region ?_;intro K hK;simp only [LZ,zo,zc,reduceCtorEq,reduceIte,zz1,zz2,zz3,zz4,zz5,zz6,zz7,zz8,zz9,zza,zzb,zzc,zzd,zze,zzf,e1,b1,g1,g2];refine hK _ ?_;clear hK K) | refine LW_label ?_ | refine LW_skip ?_);try simp only [LSj,reduceIte,zze]) | refine LW_block ?_))
      refine LW_ret ?_;simp only [thenL,jumpsL,inBlockL,twoL,bodyQ,LV.lit.injEq,LV.tup.injEq,LV.agg.injEq,LV.sl.injEq,List.cons.injEq,Value.int.injEq,Value.bool.injEq,Value.string.injEq,ByteArray.mk.injEq,exists_eq_left',exists_eq_left,exists_eq_right,LZ,zo,zc,reduceCtorEq,reduceIte,zz1,zz2,zz3,zz4,zz5,zz6,zz7,zz8,zz9,zza,zzb,zzc,zzd,zze,zzf]
      exact hR
  · rw [decide_eq_false (p := t.ents.length ≤ 30) (by omega),Bool.false_and] at hR
    (repeat (first | refine LW_seq ?_ | ((first | (refine LW_region ?_;intro K hK;simp only [LZ,zo,zc,reduceCtorEq,reduceIte,zz1,zz2,zz3,zz4,zz5,zz6,zz7,zz8,zz9,zza,zzb,zzc,zzd,zze,zzf,e1,b1,g1];refine hK _ ?_;clear hK K) | refine LW_label ?_ | refine LW_skip ?_);try simp only [LSj,reduceIte,zze]) | refine LW_block ?_))
    refine LW_ret ?_;simp only [thenL,jumpsL,inBlockL,twoL,bodyQ,LV.lit.injEq,LV.tup.injEq,LV.agg.injEq,LV.sl.injEq,List.cons.injEq,Value.int.injEq,Value.bool.injEq,Value.string.injEq,ByteArray.mk.injEq,exists_eq_left',exists_eq_left,exists_eq_right,LZ,zo,zc,reduceCtorEq,reduceIte,zz1,zz2,zz3,zz4,zz5,zz6,zz7,zz8,zz9,zza,zzb,zzc,zzd,zze,zzf]
    exact hR
end Go.Proofs.Ytpficpldemickaa
end
