import Derived.Test.YtpficpldemickaaISpec
import Derived.Test.YtpficpldemickaaKIC
import Derived.Test.YtpficpldemickaaKNF
section
set_option linter.unusedSimpArgs false
set_option linter.unusedVariables false
namespace Go.Proofs.Ytpficpldemickaa.TreeSpec
open AclSpec MetaSpec NodeSpec PathSpec
def xm : Meta := ⟨0,0,0,0,[],[]⟩
def xm1 : Meta := ⟨1,0,0,0,[],[]⟩
def xd : FNode := ⟨1,xm,0,[],[],0,0⟩
def xf : FNode := ⟨6,xm,0,[],[],0,0⟩
def xg : FNode := ⟨1,xm1,0,[],[],0,0⟩
def xA : FTree := ⟨[⟨[],0⟩,⟨[97],1⟩,⟨[98],1⟩],[xd,xf]⟩
def xB : FTree := ⟨[⟨[],0⟩,⟨[97],1⟩,⟨[98],2⟩],[xd,xf,xf]⟩
def xC : FTree := ⟨[⟨[],0⟩],[xg]⟩
def xE : FTree := ⟨[],[]⟩
theorem ex_n1 : nodesA xA xC = ([46],[109,111,100,101]) := by decide +kernel
theorem ex_n2 : nodesA xA xA = ([],[]) := by decide +kernel
theorem ex_s1 : sameA xA xA = true := by decide +kernel
theorem ex_s2 : sameA xA xB = false := by decide +kernel
theorem ex_l : linksA xA xB = [97] := by decide +kernel
theorem ex_p1 : pathsA xA xC = [97] := by decide +kernel
theorem ex_p2 : pathsA xA xB = [] := by decide +kernel
theorem ex_w1 : withinA xC xA = true := by decide +kernel
theorem ex_w2 : withinA xA xC = false := by decide +kernel
theorem ex_p3 : pathsA xE xA = [63] := by decide +kernel
theorem ex_s3 : sameA xE xE = false := by decide +kernel
end Go.Proofs.Ytpficpldemickaa.TreeSpec
end
section
set_option linter.unusedSimpArgs false
set_option linter.unusedVariables false
namespace Go.Proofs.Ytpficpldemickaa.TreeSpec
open AclSpec MetaSpec NodeSpec PathSpec
def oneT (x y : List UInt8) (n : FNode) : FTree := ⟨[⟨[],0⟩,⟨x,1⟩,⟨y,1⟩],[xd,n]⟩
def twoT (x y : List UInt8) (n : FNode) : FTree := ⟨[⟨[],0⟩,⟨x,1⟩,⟨y,2⟩],[xd,n,n]⟩
structure Two (x y : List UInt8) : Prop where
  mx : mayB x = true
  my : mayB y = true
  x0 : lessB [] x = true
  xy : lessB x y = true
  px : parentB x = ([],true)
  py : parentB y = ([],true)
  nx : ¬ x = []
  ny : ¬ y = []
  ne : ¬ x = y
def nm (i : Nat) : List UInt8 := [97 + i.toUInt8]
theorem two_of : ∀ i j : Nat,i < j → j < 4 → Two (nm i) (nm j) := by
  intro i j h1 h2
  unfold nm
  have : (i = 0 ∧ j = 1) ∨ (i = 0 ∧ j = 2) ∨ (i = 0 ∧ j = 3) ∨ (i = 1 ∧ j = 2) ∨ (i = 1 ∧ j = 3) ∨ (i = 2 ∧ j = 3) := by omega
  rcases this with ⟨rfl,rfl⟩ | ⟨rfl,rfl⟩ | ⟨rfl,rfl⟩ | ⟨rfl,rfl⟩ | ⟨rfl,rfl⟩ | ⟨rfl,rfl⟩ <;> exact ⟨by decide +kernel,by decide +kernel,by decide +kernel,by decide +kernel,by decide +kernel,by decide +kernel,by decide,by decide,by decide⟩
section
variable {x y : List UInt8} {n : FNode}
theorem may_root : mayB [] = true := by decide +kernel
theorem may_xd : mayN xd = true := by decide +kernel
theorem one_may (h : Two x y) (hm : mayN n = true) (hk : n.kind = 2) : mayT (oneT x y n) = true := by
  have a1 : kindAt [xd,n] 1 = 2 := by simp [kindAt,hk]
  have a2 : kindAt [xd,n] 0 = 1 := rfl
  have a3 : mayAt [xd,n] 0 = true := may_xd
  have a4 : mayAt [xd,n] 1 = true := by simp [mayAt,hm]
  simp [mayT,oneT,ordG,entOk,nextU,headKind,upOk,findT,h.mx,h.my,h.x0,h.xy,h.px,h.py,may_root,a1,a2,a3,a4]
theorem two_may (h : Two x y) (hm : mayN n = true) (hk : n.kind = 2) : mayT (twoT x y n) = true := by
  have a1 : kindAt [xd,n,n] 1 = 2 := by simp [kindAt,hk]
  have a2 : kindAt [xd,n,n] 0 = 1 := rfl
  have a3 : mayAt [xd,n,n] 0 = true := may_xd
  have a4 : mayAt [xd,n,n] 1 = true := by simp [mayAt,hm]
  have a5 : mayAt [xd,n,n] 2 = true := by simp [mayAt,hm]
  simp [mayT,twoT,ordG,entOk,nextU,headKind,upOk,findT,h.mx,h.my,h.x0,h.xy,h.px,h.py,may_root,a1,a2,a3,a4,a5]
theorem diff_self (m : FNode) : diffN m m = [] := diffN_nil.2 rfl
theorem nodes_of {a b : List FNode} {l : List TPair} (h : ∀ p ∈ l,nodeG a p.a = nodeG b p.b) : nodesP a b l = ([],[]) := by
  induction l with
  | nil => rfl
  | cons p r ih => rw [nodesP,h p (by simp),diff_self,if_pos rfl];exact ih fun q hq => h q (by simp [hq])
theorem com11 (h : Two x y) : commonP (oneT x y n).ents (oneT x y n).ents = [⟨[],0,0⟩,⟨x,1,1⟩,⟨y,1,1⟩] := by
  have h1 := h.nx;have h2 := h.ny;have h3 := h.ne
  simp [commonP,pair1,findT,oneT,h1,h2,h3,Ne.symm h1,Ne.symm h2,Ne.symm h3]
theorem com12 (h : Two x y) : commonP (oneT x y n).ents (twoT x y n).ents = [⟨[],0,0⟩,⟨x,1,1⟩,⟨y,1,2⟩] := by
  have h1 := h.nx;have h2 := h.ny;have h3 := h.ne
  simp [commonP,pair1,findT,oneT,twoT,h1,h2,h3,Ne.symm h1,Ne.symm h2,Ne.symm h3]
theorem com21 (h : Two x y) : commonP (twoT x y n).ents (oneT x y n).ents = [⟨[],0,0⟩,⟨x,1,1⟩,⟨y,2,1⟩] := by
  have h1 := h.nx;have h2 := h.ny;have h3 := h.ne
  simp [commonP,pair1,findT,oneT,twoT,h1,h2,h3,Ne.symm h1,Ne.symm h2,Ne.symm h3]
theorem com22 (h : Two x y) : commonP (twoT x y n).ents (twoT x y n).ents = [⟨[],0,0⟩,⟨x,1,1⟩,⟨y,2,2⟩] := by
  have h1 := h.nx;have h2 := h.ny;have h3 := h.ne
  simp [commonP,pair1,findT,twoT,h1,h2,h3,Ne.symm h1,Ne.symm h2,Ne.symm h3]
variable (h : Two x y) (hm : mayN n = true) (hk : n.kind = 2)
include h hm hk
theorem p11 : pathsA (oneT x y n) (oneT x y n) = [] := by
  unfold pathsA;rw [one_may h hm hk];simp [oneT,pathsI]
theorem p22 : pathsA (twoT x y n) (twoT x y n) = [] := by
  unfold pathsA;rw [two_may h hm hk];simp [twoT,pathsI]
theorem p12 : pathsA (oneT x y n) (twoT x y n) = [] := by
  unfold pathsA;rw [one_may h hm hk,two_may h hm hk];simp [oneT,twoT,pathsI]
theorem l11 : linksA (oneT x y n) (oneT x y n) = [] := by
  unfold linksA;rw [one_may h hm hk,com11 h];simp [linksP,differ]
theorem l22 : linksA (twoT x y n) (twoT x y n) = [] := by
  unfold linksA;rw [two_may h hm hk,com22 h];simp [linksP,differ]
theorem l12 : linksA (oneT x y n) (twoT x y n) = x := by
  unfold linksA;rw [one_may h hm hk,two_may h hm hk,com12 h];simp [linksP,differ]
theorem l21 : linksA (twoT x y n) (oneT x y n) = x := by
  unfold linksA;rw [one_may h hm hk,two_may h hm hk,com21 h];simp [linksP,differ]
theorem n11 : nodesA (oneT x y n) (oneT x y n) = ([],[]) := by
  unfold nodesA;rw [one_may h hm hk,com11 h]
  exact nodes_of (by simp [oneT,nodeG])
theorem n22 : nodesA (twoT x y n) (twoT x y n) = ([],[]) := by
  unfold nodesA;rw [two_may h hm hk,com22 h]
  exact nodes_of (by simp [twoT,nodeG])
theorem n12 : nodesA (oneT x y n) (twoT x y n) = ([],[]) := by
  unfold nodesA;rw [one_may h hm hk,two_may h hm hk,com12 h]
  exact nodes_of (by simp [oneT,twoT,nodeG])
theorem s11 : sameA (oneT x y n) (oneT x y n) = true := by
  unfold sameA;rw [one_may h hm hk,p11 h hm hk,l11 h hm hk,n11 h hm hk];rfl
theorem s22 : sameA (twoT x y n) (twoT x y n) = true := by
  unfold sameA;rw [two_may h hm hk,p22 h hm hk,l22 h hm hk,n22 h hm hk];rfl
theorem s12 : sameA (oneT x y n) (twoT x y n) = false := by
  unfold sameA;rw [l12 h hm hk]
  simp [h.nx]
end
end Go.Proofs.Ytpficpldemickaa.TreeSpec
end
section
set_option linter.unusedSimpArgs false
set_option linter.unusedVariables false
namespace Go.Proofs.Ytpficpldemickaa
open Nat renaming reduceAdd → zz1,reduceMul → zz2,reduceSub → zz3,reduceLT → zz4,reduceLeDiff → zz5,reduceEqDiff → zz6,reduceBEq → zzf
open Int renaming reduceAdd → zz7,reduceSub → zz8,reduceMul → zz9,reduceLT → zza,reduceLE → zzb,reduceEq → zzc,reduceNeg → zzd,reduceToNat → zze
open Op renaming operands → zo
open Call renaming operands → zc
open Go.RowKit Go.Proofs AclSpec MetaSpec NodeSpec PathSpec TreeSpec

theorem small_tree {t : FTree} (h1 : t.ents.length ≤ 10) (h2 : t.nodes.length ≤ 10) (h3 : t.ents.all (fun e => decide (e.path.length ≤ 10)) = true) (h4 : t.nodes.all (fun n => decide (n.mt.attrs.length ≤ 10) && decide (n.mt.acl.length ≤ 10) && decide (n.dat = []) && decide (n.target.length ≤ 10)) = true) : SmallT t := by
  refine ⟨by omega,by omega,fun e he => ?_,fun n hn => ?_⟩
  · have := of_decide_eq_true (List.all_eq_true.1 h3 e he);omega
  · have := List.all_eq_true.1 h4 n hn
    simp only [Bool.and_eq_true,decide_eq_true_eq] at this
    obtain ⟨⟨⟨a,b⟩,c⟩,d⟩ := this
    refine ⟨⟨by omega,by omega,by rw [c];decide,fun p hp => by rw [c] at hp;cases hp⟩,by unfold maxLen;omega⟩

set_option maxRecDepth 100000 in
set_option maxHeartbeats 8000000 in
theorem itold_L : LCalls Try.prog 9 [] (boolL true) := by
  have sA : SmallT xA := small_tree (by decide) (by decide) (by decide) (by decide)
  have sB : SmallT xB := small_tree (by decide) (by decide) (by decide) (by decide)
  have sC : SmallT xC := small_tree (by decide) (by decide) (by decide) (by decide)
  have sE : SmallT xE := small_tree (by decide) (by decide) (by decide) (by decide)
  have c1 := inodes_L xA xC sA sC
  rw [ex_n1] at c1
  have c2 := inodes_L xA xA sA sA
  rw [ex_n2] at c2
  have c3 := isame_L xA xA sA sA
  rw [ex_s1] at c3
  have c4 := isame_L xA xB sA sB
  rw [ex_s2] at c4
  have c5 := ilinks_L xA xB sA sB
  rw [ex_l] at c5
  have c6 := ipaths_L xA xC sA sC
  rw [ex_p1] at c6
  have c7 := ipaths_L xA xB sA sB
  rw [ex_p2] at c7
  have c8 := iwithin_L xC xA sC sA
  rw [ex_w1] at c8
  have c9 := iwithin_L xA xC sA sC
  rw [ex_w2] at c9
  have c10 := ipaths_L xE xA sE sA
  rw [ex_p3] at c10
  have c11 := isame_L xE xE sE sE
  rw [ex_s3] at c11
  simp only [xA,xB,xC,xE,xd,xf,xg,xm,xm1,treeL,tentL,nodeL,attrsL,acesL,piecesL,rowL,List.flatMap_cons,List.flatMap_nil,List.cons_append,List.nil_append,List.append_nil,List.length_cons,List.length_nil,Nat.reduceAdd] at c1 c2 c3 c4 c5 c6 c7 c8 c9 c10 c11
  refine LCalls.of (fun _ => false) Try.func9 rfl (by decide) Try.ntmps9 Try.results9 (by simp) ?_
  intro w0 S0 vs hgl hwf0 hsz hvs;clear hsz hvs hwf0 hgl
  (repeat (first | refine LW_seq ?_ | ((first | (refine LW_region ?_;intro K hK;simp only [LZ,zo,zc,reduceCtorEq,reduceIte,zz1,zz2,zz3,zz4,zz5,zz6,zz7,zz8,zz9,zza,zzb,zzc,zzd,zze,zzf];refine hK _ ?_;clear hK K) | refine LW_label ?_ | refine LW_skip ?_);try simp only [LSj,reduceIte,zze]) | refine LW_block ?_))
  (repeat (first | refine LW_seq ?_ | (refine LW_skip ?_;simp only [LSj,reduceIte,zze]) | refine LW_block ?_));refine LW_region ?_;intro K hK;simp only [LZ,zo,zc,reduceCtorEq,reduceIte,zz1,zz2,zz3,zz4,zz5,zz6,zz7,zz8,zz9,zza,zzb,zzc,zzd,zze,zzf]
  refine cop_intro ?ha (c1) ?_;(case ha => (simp only [LZ,zo,zc,reduceCtorEq,reduceIte,zz1,zz2,zz3,zz4,zz5,zz6,zz7,zz8,zz9,zza,zzb,zzc,zzd,zze,zzf]) <;> rfl);simp only [LZ,zo,zc,reduceCtorEq,reduceIte,zz1,zz2,zz3,zz4,zz5,zz6,zz7,zz8,zz9,zza,zzb,zzc,zzd,zze,zzf]
  refine hK _ ?_;clear hK K;try simp only [LSj,reduceIte,zze]
  (repeat (first | refine LW_seq ?_ | (refine LW_skip ?_;simp only [LSj,reduceIte,zze]) | refine LW_block ?_));refine LW_region ?_;intro K hK;simp only [LZ,zo,zc,reduceCtorEq,reduceIte,zz1,zz2,zz3,zz4,zz5,zz6,zz7,zz8,zz9,zza,zzb,zzc,zzd,zze,zzf]
  refine cop_intro ?ha (c2) ?_;(case ha => (simp only [LZ,zo,zc,reduceCtorEq,reduceIte,zz1,zz2,zz3,zz4,zz5,zz6,zz7,zz8,zz9,zza,zzb,zzc,zzd,zze,zzf]) <;> rfl);simp only [LZ,zo,zc,reduceCtorEq,reduceIte,zz1,zz2,zz3,zz4,zz5,zz6,zz7,zz8,zz9,zza,zzb,zzc,zzd,zze,zzf]
  refine hK _ ?_;clear hK K;try simp only [LSj,reduceIte,zze]
  (repeat refine LW_seq ?_)
  refine LW_regionA (l := ?l) ?hl ?_
  case hl => (first | simp only [Array.append_eq_append,List.append_toArray,List.append_eq,List.cons_append,List.nil_append] | skip);exact rfl
  (repeat (first | refine LW_seq ?_ | (refine LW_skip ?_;simp only [LSj,reduceIte,zze]) | refine LW_block ?_));refine LW_region ?_;intro K hK;simp only [LZ,zo,zc,reduceCtorEq,reduceIte,zz1,zz2,zz3,zz4,zz5,zz6,zz7,zz8,zz9,zza,zzb,zzc,zzd,zze,zzf]
  refine cop_intro ?ha (c3) ?_;(case ha => (simp only [LZ,zo,zc,reduceCtorEq,reduceIte,zz1,zz2,zz3,zz4,zz5,zz6,zz7,zz8,zz9,zza,zzb,zzc,zzd,zze,zzf]) <;> rfl);simp only [LZ,zo,zc,reduceCtorEq,reduceIte,zz1,zz2,zz3,zz4,zz5,zz6,zz7,zz8,zz9,zza,zzb,zzc,zzd,zze,zzf]
  refine cop_intro ?ha (c4) ?_;(case ha => (simp only [LZ,zo,zc,reduceCtorEq,reduceIte,zz1,zz2,zz3,zz4,zz5,zz6,zz7,zz8,zz9,zza,zzb,zzc,zzd,zze,zzf]) <;> rfl);simp only [LZ,zo,zc,reduceCtorEq,reduceIte,zz1,zz2,zz3,zz4,zz5,zz6,zz7,zz8,zz9,zza,zzb,zzc,zzd,zze,zzf]
  refine cop_intro ?ha (c5) ?_;(case ha => (simp only [LZ,zo,zc,reduceCtorEq,reduceIte,zz1,zz2,zz3,zz4,zz5,zz6,zz7,zz8,zz9,zza,zzb,zzc,zzd,zze,zzf]) <;> rfl);simp only [LZ,zo,zc,reduceCtorEq,reduceIte,zz1,zz2,zz3,zz4,zz5,zz6,zz7,zz8,zz9,zza,zzb,zzc,zzd,zze,zzf]
  refine cop_intro ?ha (c6) ?_;(case ha => (simp only [LZ,zo,zc,reduceCtorEq,reduceIte,zz1,zz2,zz3,zz4,zz5,zz6,zz7,zz8,zz9,zza,zzb,zzc,zzd,zze,zzf]) <;> rfl);simp only [LZ,zo,zc,reduceCtorEq,reduceIte,zz1,zz2,zz3,zz4,zz5,zz6,zz7,zz8,zz9,zza,zzb,zzc,zzd,zze,zzf]
  refine cop_intro ?ha (c7) ?_;(case ha => (simp only [LZ,zo,zc,reduceCtorEq,reduceIte,zz1,zz2,zz3,zz4,zz5,zz6,zz7,zz8,zz9,zza,zzb,zzc,zzd,zze,zzf]) <;> rfl);simp only [LZ,zo,zc,reduceCtorEq,reduceIte,zz1,zz2,zz3,zz4,zz5,zz6,zz7,zz8,zz9,zza,zzb,zzc,zzd,zze,zzf]
  refine cop_intro ?ha (c8) ?_;(case ha => (simp only [LZ,zo,zc,reduceCtorEq,reduceIte,zz1,zz2,zz3,zz4,zz5,zz6,zz7,zz8,zz9,zza,zzb,zzc,zzd,zze,zzf]) <;> rfl);simp only [LZ,zo,zc,reduceCtorEq,reduceIte,zz1,zz2,zz3,zz4,zz5,zz6,zz7,zz8,zz9,zza,zzb,zzc,zzd,zze,zzf]
  refine cop_intro ?ha (c9) ?_;(case ha => (simp only [LZ,zo,zc,reduceCtorEq,reduceIte,zz1,zz2,zz3,zz4,zz5,zz6,zz7,zz8,zz9,zza,zzb,zzc,zzd,zze,zzf]) <;> rfl);simp only [LZ,zo,zc,reduceCtorEq,reduceIte,zz1,zz2,zz3,zz4,zz5,zz6,zz7,zz8,zz9,zza,zzb,zzc,zzd,zze,zzf]
  refine cop_intro ?ha (c10) ?_;(case ha => (simp only [LZ,zo,zc,reduceCtorEq,reduceIte,zz1,zz2,zz3,zz4,zz5,zz6,zz7,zz8,zz9,zza,zzb,zzc,zzd,zze,zzf]) <;> rfl);simp only [LZ,zo,zc,reduceCtorEq,reduceIte,zz1,zz2,zz3,zz4,zz5,zz6,zz7,zz8,zz9,zza,zzb,zzc,zzd,zze,zzf]
  refine cop_intro ?ha (c11) ?_;(case ha => (simp only [LZ,zo,zc,reduceCtorEq,reduceIte,zz1,zz2,zz3,zz4,zz5,zz6,zz7,zz8,zz9,zza,zzb,zzc,zzd,zze,zzf]) <;> rfl);simp only [LZ,zo,zc,reduceCtorEq,reduceIte,zz1,zz2,zz3,zz4,zz5,zz6,zz7,zz8,zz9,zza,zzb,zzc,zzd,zze,zzf]
  refine hK _ ?_;clear hK K;try simp only [LSj,reduceIte,zze]
  refine LW_ret ?_;simp only [thenL,jumpsL,inBlockL,twoL,bodyQ,LV.lit.injEq,LV.tup.injEq,LV.agg.injEq,LV.sl.injEq,List.cons.injEq,Value.int.injEq,Value.bool.injEq,Value.string.injEq,ByteArray.mk.injEq,exists_eq_left',exists_eq_left,exists_eq_right,LZ,zo,zc,reduceCtorEq,reduceIte,zz1,zz2,zz3,zz4,zz5,zz6,zz7,zz8,zz9,zza,zzb,zzc,zzd,zze,zzf]

end Go.Proofs.Ytpficpldemickaa
end
