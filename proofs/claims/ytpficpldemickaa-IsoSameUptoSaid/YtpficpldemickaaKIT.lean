import Derived.Test.YtpficpldemickaaKTC
import Derived.Test.YtpficpldemickaaKN8
import Derived.Test.YtpficpldemickaaISpec
import Derived.Test.YtpficpldemickaaKMB
section
set_option linter.unusedSimpArgs false
set_option linter.unusedVariables false
namespace Go.Proofs.Ytpficpldemickaa
open Go.RowKit Go.Proofs AclSpec MetaSpec NodeSpec PathSpec TreeSpec

set_option maxRecDepth 100000 in
theorem iboth_L (a b : FTree) (ha : SmallT a) (hb : SmallT b) : LCalls Try.prog 26 [.agg (treeL a),.agg (treeL b)] (boolL (mayT a && mayT b)) := by
  have c1 := tmay_L a ha
  have c2 := tmay_L b hb
  simp only [treeL] at c1 c2
  refine LCalls.of (fun _ => false) Try.func26 rfl (by decide) Try.ntmps26 Try.results26 (by simp) ?_
  intro w0 S0 vs hgl hwf0 hsz hvs;clear hsz hvs hwf0 hgl
  refine Yg1 @treeL.eq_1 ?_
  cases h1 : mayT a
  · rw [h1] at c1
    refine Yr0 ?_;intro K hK
    refine Yc0 (c1) ?_
    refine hK _ ?_;clear hK K;try refine Wh0 ?_
    refine Ye0 ?_;try (with_reducible exact trivial)
  rw [h1] at c1
  cases h2 : mayT b
  · rw [h2] at c2
    refine Yr0 ?_;intro K hK
    refine Yc0 (c1) ?_
    refine Yc0 (c2) ?_
    refine hK _ ?_;clear hK K;try refine Wh0 ?_
    refine Ye0 ?_;try (with_reducible exact trivial)
  · rw [h2] at c2
    refine Yr0 ?_;intro K hK
    refine Yc0 (c1) ?_
    refine Yc0 (c2) ?_
    refine hK _ ?_;clear hK K;try refine Wh0 ?_
    refine Ye0 ?_;try (with_reducible exact trivial)

theorem pathsI_eq {a b : List TEnt} {i : Nat} {x y : TEnt} (hx : a[i]? = some x) (hy : b[i]? = some y) : pathsI (a.drop i) (b.drop i) = if x.path = y.path then pathsI (a.drop (i + 1)) (b.drop (i + 1)) else if lessB x.path y.path then x.path else y.path := by
  obtain ⟨h1,rfl⟩ := List.getElem?_eq_some_iff.1 hx
  obtain ⟨h2,rfl⟩ := List.getElem?_eq_some_iff.1 hy
  rw [List.drop_eq_getElem_cons h1,List.drop_eq_getElem_cons h2,pathsI]
theorem pathsI_left {b : List TEnt} {i : Nat} {y : TEnt} (hy : b[i]? = some y) : pathsI [] (b.drop i) = y.path := by
  obtain ⟨h2,rfl⟩ := List.getElem?_eq_some_iff.1 hy
  rw [List.drop_eq_getElem_cons h2,pathsI]
theorem pathsI_right {a : List TEnt} {i : Nat} {x : TEnt} (hx : a[i]? = some x) : pathsI (a.drop i) [] = x.path := by
  obtain ⟨h2,rfl⟩ := List.getElem?_eq_some_iff.1 hx
  rw [List.drop_eq_getElem_cons h2,pathsI]

set_option maxRecDepth 100000 in
set_option maxHeartbeats 2000000 in
theorem ipaths_L (a b : FTree) (ha : SmallT a) (hb : SmallT b) : LCalls Try.prog 12 [.agg (treeL a),.agg (treeL b)] (strL (pathsA a b)) := by
  have c1 := iboth_L a b ha hb
  have hla := ha.ents
  have hlb := hb.ents
  simp only [treeL] at c1
  refine LCalls.of (fun _ => false) Try.func12 rfl (by decide) Try.ntmps12 Try.results12 (by simp) ?_
  intro w0 S0 vs hgl hwf0 hsz hvs;clear hsz hvs hwf0 hgl
  generalize hR : pathsA a b = R
  unfold pathsA at hR
  refine Yg1 @treeL.eq_1 ?_
  cases h1 : (mayT a && mayT b)
  · rw [h1] at c1 hR
    refine LW_scope_straight ?_
    refine Yr0 ?_;intro K hK
    refine Yc0 (c1) ?_
    refine hK _ ?_;clear hK K;try refine Wh0 ?_
    refine Yt0 ?_
    refine Yg0 ?_
    refine Ye0 ?_;try (with_reducible exact trivial)
    rw [← hR];rfl
  rw [h1] at c1 hR
  rw [if_pos rfl] at hR
  refine LW_lab1 (fun n st => ∃ i : Nat,n + i = a.ents.length ∧ i ≤ b.ents.length ∧ st.env 2 = .ptr 2 0 ∧ st.box 2 = some (treeL a) ∧ st.env 3 = .ptr 3 0 ∧ st.box 3 = some (treeL b) ∧ st.env 5 = intL i ∧ st.env 6 = intL i ∧ pathsI (a.ents.drop i) (b.ents.drop i) = R ∧ st.mode = fun _ => false) rfl ?_ ?_
  · intro hJ
    refine Yr0 ?_;intro K hK
    refine Yc0 (c1) ?_
    refine hK _ ?_;clear hK K;try refine Wh0 ?_
    refine Yf0 ?_
    refine Yl0 ?_
    exact hJ.out a.ents.length _ ⟨0,by omega,by omega,rfl,(Yq1 @treeL.eq_1),rfl,(Yq1 @treeL.eq_1),rfl,rfl,hR,rfl⟩
  · rintro n st ⟨i,hn,hib,e2,b2,e3,b3,e5,e6,hr,hmd⟩
    simp only [treeL] at b2 b3
    by_cases hia : i = a.ents.length
    · have hia2 : (i : Int) = a.ents.length := by omega
      rw [List.drop_of_length_le (l := a.ents) (by omega)] at hr
      by_cases hie : i = b.ents.length
      · have hie2 : (i : Int) = b.ents.length := by omega
        have hab : (a.ents.length : Int) = b.ents.length := by omega
        rw [List.drop_of_length_le (by omega)] at hr
        refine Yg1 (fa8 @e2 @b2 @e3 @b3 @e5 @e6 @hia2 @hab) ?_
        refine Yt0 ?_
        refine Yg0 ?_
        refine Ye0 ?_;try (with_reducible exact trivial)
        rw [← hr];rfl
      · have hie2 : ¬ (i : Int) = b.ents.length := by omega
        obtain ⟨y,hy⟩ := get_of_lt (l := b.ents) (i := i) (by omega)
        have hdy := drop_tent hy
        have hlt : i < b.ents.length := by omega
        have hip : (0 : Int) ≤ (i : Int) := by omega
        rw [pathsI_left hy] at hr
        have hab : ¬ (a.ents.length : Int) = b.ents.length := by omega
        refine Yg1 (fa8 @e2 @b2 @e3 @b3 @e5 @e6 @hia2 @hab) ?_
        refine Yf0 ?_
        refine Yg1 (fa4 @e2 @b2 @e5 @hia2) ?_
        refine Yt0 ?_
        refine Yg1 (fa7 @e3 @b3 @e5 @e6 @hdy @hlt @hip) ?_
        refine Ye0 ?_;try (with_reducible exact trivial)
        rw [← hr]
    · have hia2 : ¬ (i : Int) = a.ents.length := by omega
      obtain ⟨x,hx⟩ := get_of_lt (l := a.ents) (i := i) (by omega)
      have hdx := drop_tent hx
      have hlx : i < a.ents.length := by omega
      have hip : (0 : Int) ≤ (i : Int) := by omega
      by_cases hie : i = b.ents.length
      · have hie2 : (i : Int) = b.ents.length := by omega
        rw [List.drop_of_length_le (l := b.ents) (by omega),pathsI_right hx] at hr
        refine Yg1 (fa7 @e2 @b2 @e3 @b3 @e5 @e6 @hia2) ?_
        refine Yf0 ?_
        refine Yg1 (fa7 @e2 @b2 @e3 @b3 @e5 @e6 @hia2) ?_
        refine Yf0 ?_
        refine Yg1 (fa7 @e2 @b2 @e3 @b3 @e5 @e6 @hie2) ?_
        refine Yt0 ?_
        refine Yg1 (fa9 @e2 @b2 @e3 @b3 @e5 @e6 @hdx @hlx @hip) ?_
        refine Ye0 ?_;try (with_reducible exact trivial)
        rw [← hr]
      · have hie2 : ¬ (i : Int) = b.ents.length := by omega
        obtain ⟨y,hy⟩ := get_of_lt (l := b.ents) (i := i) (by omega)
        have hdy := drop_tent hy
        have hly : i < b.ents.length := by omega
        have hw := w64s (n := i) (by omega)
        rw [pathsI_eq hx hy] at hr
        have cl := pless_L x.path y.path (ha.path x (List.mem_of_getElem? hx)) (hb.path y (List.mem_of_getElem? hy))
        refine Yg1 (fa8 @e2 @b2 @e3 @b3 @e5 @e6 @hia2 @hie2) ?_
        refine Yf0 ?_
        refine Yg1 (fa8 @e2 @b2 @e3 @b3 @e5 @e6 @hia2 @hie2) ?_
        refine Yf0 ?_
        refine Yg1 (fa8 @e2 @b2 @e3 @b3 @e5 @e6 @hia2 @hie2) ?_
        refine Yf0 ?_
        refine Yn1 (fa12 @e2 @b2 @e3 @b3 @e5 @e6 @hdx @hdy @hlx @hly @hip @hmd) ?_;intro K hK
        refine hK _ ?_;clear hK K;try refine Wh0 ?_
        by_cases hp : x.path = y.path
        · rw [if_pos hp] at hr
          refine Yg1 @hp ?_
          refine Yt0 ?_
          refine Yg1 (fa3 @e5 @e6 @hw) ?_
          refine LW_goto ?_;simp only [thenL,jumpsL,inBlockL,twoL,true_and]
          exact ⟨n - 1,by omega,i + 1,by omega,by omega,(Yq1 @e2),(Yq1 (fa2 @b2 @treeL.eq_1)),(Yq1 @e3),(Yq1 (fa2 @b3 @treeL.eq_1)),Yq0,Yq0,hr,(Yq1 @hmd)⟩
        · rw [if_neg hp] at hr
          refine Yg1 @hp ?_
          refine Yf0 ?_
          cases hc : lessB x.path y.path
          · rw [hc] at cl hr
            refine Yr0 ?_;intro K hK
            refine Yc0 (cl) ?_
            refine hK _ ?_;clear hK K;try refine Wh0 ?_
            refine Yf0 ?_
            refine Yg0 ?_
            refine Ye0 ?_;try (with_reducible exact trivial)
            rw [← hr];rfl
          · rw [hc] at cl hr
            refine Yr0 ?_;intro K hK
            refine Yc0 (cl) ?_
            refine hK _ ?_;clear hK K;try refine Wh0 ?_
            refine Yt0 ?_
            refine Yg0 ?_
            refine Ye0 ?_;try (with_reducible exact trivial)
            rw [← hr];rfl
end Go.Proofs.Ytpficpldemickaa
end
section
set_option linter.unusedSimpArgs false
set_option linter.unusedVariables false
namespace Go.Proofs.Ytpficpldemickaa
open Nat renaming reduceAdd → zz1,reduceMul → zz2,reduceSub → zz3,reduceLT → zz4,reduceLeDiff → zz5,reduceEqDiff → zz6,reduceBEq → zzf
open Int renaming reduceAdd → zz7,reduceSub → zz8,reduceMul → zz9,reduceLT → zza,reduceLE → zzb,reduceEq → zzc,reduceNeg → zzd,reduceToNat → zze
open Op renaming operands → zo
open Call renaming operands → zc
open Go.RowKit Go.Proofs AclSpec MetaSpec NodeSpec PathSpec TreeSpec

def pairL (p : TPair) : List LV := [strL p.path,intL p.a,intL p.b]
theorem pairL_len (p : TPair) : (pairL p).length = 3 := rfl
theorem pairL_flen (l : List TPair) : (l.flatMap pairL).length = l.length * 3 := len_flat pairL 3 pairL_len l
theorem drop_pair {l : List TPair} {i : Nat} {p : TPair} (h : l[i]? = some p) : (l.flatMap pairL).drop (i * 3) = strL p.path :: intL p.a :: intL p.b :: (l.drop (i + 1)).flatMap pairL := drop_flat pairL 3 pairL_len h
theorem common_take {a b : List TEnt} {i : Nat} {e : TEnt} (h : a[i]? = some e) : commonP (a.take (i + 1)) b = commonP (a.take i) b ++ pair1 b e := by
  obtain ⟨hi,rfl⟩ := List.getElem?_eq_some_iff.1 h
  rw [List.take_succ_eq_append_getElem hi]
  unfold commonP
  rw [List.flatMap_append];simp

set_option maxRecDepth 100000 in
set_option maxHeartbeats 2000000 in
theorem icommon_L (a b : FTree) (ha : SmallT a) (hb : SmallT b) : LCalls Try.prog 27 [.agg (treeL a),.agg (treeL b)] (rowL pairL (commonP a.ents b.ents)) := by
  have hla := ha.ents
  refine LCalls.of (fun _ => false) Try.func27 rfl (by decide) Try.ntmps27 Try.results27 (by simp) ?_
  intro w0 S0 vs hgl hwf0 hsz hvs;clear hsz hvs hwf0 hgl
  refine Yg1 @treeL.eq_1 ?_
  refine LW_lab1 (fun n st => ∃ (i : Nat) (cs : List TPair),n + i = a.ents.length ∧ cs = commonP (a.ents.take i) b.ents ∧ st.env 2 = .ptr 2 0 ∧ st.box 2 = some (treeL a) ∧ st.env 3 = .ptr 3 0 ∧ st.box 3 = some (treeL b) ∧ st.env 5 = .sl cs.length (cs.flatMap pairL) (.row 1000) ∧ st.row 1000 = some (62,cs.length) ∧ st.env 6 = intL i ∧ st.mode = fun _ => false) rfl ?_ ?_
  · intro hJ
    (repeat refine LW_seq ?_)
    refine LW_join (fun st => st.env 2 = .ptr 2 0 ∧ st.box 2 = some (treeL a) ∧ st.env 3 = .ptr 3 0 ∧ st.box 3 = some (treeL b) ∧ st.env 5 = .sl 0 [] .nil ∧ st.mode = fun _ => false) ?_ ?_
    · refine Yg0 ?_
      exact ⟨Yq0,(Yq1 @treeL.eq_1),Yq0,(Yq1 @treeL.eq_1),Yq0,Yq0⟩
    rintro st ⟨e2,b2,e3,b3,e5,hmd⟩
    refine LW_nil (k := 5) (q := 1000) (e := 62) e5 ?_
    refine Yl0 ?_
    exact hJ.out a.ents.length _ ⟨0,[],by omega,rfl,(Yq1 @e2),(Yq1 (fa2 @b2 @treeL.eq_1)),(Yq1 @e3),(Yq1 (fa2 @b3 @treeL.eq_1)),Yq0,Yq0,Yq0,(Yq1 @hmd)⟩
  · rintro n st ⟨i,cs,hn,hcs,e2,b2,e3,b3,e5,r5,e6,hmd⟩
    simp only [treeL] at b2 b3
    by_cases hlt : i < a.ents.length
    rotate_left
    · rw [List.take_of_length_le (by omega)] at hcs
      refine Yg1 (fa4 @e2 @b2 @e6 @hlt) ?_
      refine Yf1 @hlt ?_
      refine LW_plain 5 e5 ?_
      refine Yg0 ?_
      refine Ye0 ?_;try (with_reducible exact trivial)
      rw [← hcs];exact ⟨rfl,rfl⟩
    obtain ⟨e,he⟩ := get_of_lt hlt
    have hd := drop_tent he
    have hw := w64s (n := i) (by omega)
    have cf := tfind_L b hb e.path
    have hnext := common_take (b := b.ents) he
    rw [← hcs] at hnext
    have hcl : cs.length ≤ 1000000 := by
      have := common_len b.ents (a.ents.take i)
      rw [← hcs,List.length_take] at this;omega
    have hfl := pairL_flen cs
    have hip : (0 : Int) ≤ (i : Int) := by omega
    simp only [treeL] at cf
    unfold pair1 at hnext
    generalize findT b.ents e.path = f at *
    refine Yg1 (fa4 @e2 @b2 @e6 @hlt) ?_
    refine Yt1 @hlt ?_
    refine LW_slim (fun st => st.env 2 = .ptr 2 0 ∧ st.box 2 = some (treeL a) ∧ st.env 3 = .ptr 3 0 ∧ st.box 3 = some (treeL b) ∧ st.env 5 = .sl cs.length (cs.flatMap pairL) (.row 1000) ∧ st.row 1000 = some (62,cs.length) ∧ st.env 6 = intL i ∧ st.mode = fun _ => false) ⟨(Yq1 @e2),(Yq1 (fa2 @b2 @treeL.eq_1)),(Yq1 @e3),(Yq1 (fa2 @b3 @treeL.eq_1)),(Yq1 @e5),(Yq1 @r5),(Yq1 @e6),(Yq1 @hmd)⟩ ?_
    clear e2 b2 e3 b3 e5 r5 e6 hmd st
    rintro st ⟨e2,b2,e3,b3,e5,r5,e6,hmd⟩
    simp only [treeL] at b2 b3
    refine Yg1 (fa6 @e2 @b2 @e6 @hlt @hd @hip) ?_
    refine Yr1 (fa2 @e3 @b3) ?_;intro K hK
    refine Yc0 (cf) ?_
    refine hK _ ?_;clear hK K;try refine Wh0 ?_
    cases hf : f.2
    · rw [hf] at hnext
      refine Yg1 @hf ?_
      refine Yf0 ?_
      refine Yg1 (fa2 @e6 @hw) ?_
      refine LW_goto ?_;simp only [thenL,jumpsL,inBlockL,twoL,true_and]
      exact ⟨n - 1,by omega,i + 1,cs,by omega,by rw [hnext];simp,(Yq1 @e2),(Yq1 (fa2 @b2 @treeL.eq_1)),(Yq1 @e3),(Yq1 (fa2 @b3 @treeL.eq_1)),(Yq1 @e5),(Yq1 @r5),Yq0,(Yq1 @hmd)⟩
    · rw [hf] at hnext
      refine Yg1 @hf ?_
      refine Yt0 ?_
      refine Yr1 (fa4 @e5 @r5 @hfl @hmd) ?_;intro K hK
      refine ⟨by (repeat' apply And.intro) <;> first | omega | (unfold maxLen;omega) | rfl,?_⟩
      refine hK _ ?_;clear hK K;try refine Wh0 ?_
      refine Yg1 (fa2 @e6 @hw) ?_
      refine LW_goto ?_;simp only [thenL,jumpsL,inBlockL,twoL,true_and]
      refine ⟨n - 1,by omega,i + 1,_,by omega,hnext.symm,(Yq1 @e2),(Yq1 (fa2 @b2 @treeL.eq_1)),(Yq1 @e3),(Yq1 (fa2 @b3 @treeL.eq_1)),?_,?_,Yq0,(Yq1 @hmd)⟩
      · simp only [LZ,zo,zc,reduceCtorEq,reduceIte,zz1,zz2,zz3,zz4,zz5,zz6,zz7,zz8,zz9,zza,zzb,zzc,zzd,zze,zzf,if_true,List.flatMap_append,List.flatMap_cons,List.flatMap_nil,pairL,List.append_nil,List.length_append,List.length_cons,List.length_nil]
      · simp only [LZ,zo,zc,reduceCtorEq,reduceIte,zz1,zz2,zz3,zz4,zz5,zz6,zz7,zz8,zz9,zza,zzb,zzc,zzd,zze,zzf,if_true,List.length_append,List.length_cons,List.length_nil]

def anyP (l : List TPair) (p : TPair) : Bool := l.any (TreeSpec.differ p)
theorem any_step {l : List TPair} {i : Nat} {q p : TPair} (h : l[i]? = some q) : anyP (l.drop i) p = (TreeSpec.differ p q || anyP (l.drop (i + 1)) p) := by
  obtain ⟨hi,rfl⟩ := List.getElem?_eq_some_iff.1 h
  unfold anyP
  rw [List.drop_eq_getElem_cons hi,List.any_cons]

set_option maxRecDepth 100000 in
theorem idiffer_L (l : List TPair) (hl : l.length ≤ 1000000) (p : TPair) : LCalls Try.prog 34 [rowL pairL l,.agg (pairL p)] (boolL (l.any (TreeSpec.differ p))) := by
  refine LCalls.of (fun _ => false) Try.func34 rfl (by decide) Try.ntmps34 Try.results34 (by simp) ?_
  intro w0 S0 vs hgl hwf0 hsz hvs;clear hsz hvs hwf0 hgl
  generalize hR : l.any (TreeSpec.differ p) = R
  refine Yg1 @pairL.eq_1 ?_
  refine LW_lab1 (fun n st => ∃ i : Nat,n + i = l.length ∧ st.env 0 = .sl l.length (l.flatMap pairL) .no ∧ st.env 3 = .ptr 3 0 ∧ st.box 3 = some (pairL p) ∧ st.env 5 = intL i ∧ anyP (l.drop i) p = R ∧ st.mode = fun _ => false) rfl ?_ ?_
  · intro hJ
    refine Yl0 ?_
    exact hJ.out l.length _ ⟨0,by omega,rfl,rfl,(Yq1 @pairL.eq_1),rfl,hR,rfl⟩
  · rintro n st ⟨i,hn,e0,e3,b3,e5,hr,hmd⟩
    simp only [pairL] at b3
    by_cases hie : i = l.length
    · have hie2 : (i : Int) = l.length := by omega
      rw [List.drop_of_length_le (by omega)] at hr
      refine Yg1 (fa3 @e0 @e5 @hie2) ?_
      refine Yt0 ?_
      refine Yg0 ?_
      refine Ye0 ?_;try (with_reducible exact trivial)
      rw [← hr];rfl
    have hie2 : ¬ (i : Int) = l.length := by omega
    obtain ⟨q,hq⟩ := get_of_lt (l := l) (i := i) (by omega)
    have hd := drop_pair hq
    have hlt : i < l.length := by omega
    have hw := w64s (n := i) (by omega)
    have hip : (0 : Int) ≤ (i : Int) := by omega
    rw [any_step hq] at hr
    refine Yg1 (fa3 @e0 @e5 @hie2) ?_
    refine Yf0 ?_
    cases hdf : TreeSpec.differ p q
    · rw [hdf] at hr
      unfold TreeSpec.differ at hdf
      refine Yn1 (fa8 @e0 @e3 @b3 @e5 @hlt @hip @hd @hmd) ?_;intro K hK
      refine hK _ ?_;clear hK K;try refine Wh0 ?_
      have hdf2 : (decide (q.a = p.a) == decide (q.b = p.b)) = true := by
        cases h1 : decide (q.a = p.a) <;> cases h2 : decide (q.b = p.b) <;> simp_all
      refine Yf1 @hdf2 ?_
      refine Yg1 (fa2 @e5 @hw) ?_
      refine LW_goto ?_;simp only [thenL,jumpsL,inBlockL,twoL,true_and]
      exact ⟨n - 1,by omega,i + 1,by omega,(Yq1 @e0),(Yq1 @e3),(Yq1 (fa2 @b3 @pairL.eq_1)),Yq0,by rw [← hr];rfl,(Yq1 @hmd)⟩
    · rw [hdf] at hr
      unfold TreeSpec.differ at hdf
      refine Yn1 (fa8 @e0 @e3 @b3 @e5 @hlt @hip @hd @hmd) ?_;intro K hK
      refine hK _ ?_;clear hK K;try refine Wh0 ?_
      have hdf2 : (decide (q.a = p.a) == decide (q.b = p.b)) = false := by
        cases h1 : decide (q.a = p.a) <;> cases h2 : decide (q.b = p.b) <;> simp_all
      refine Yt1 @hdf2 ?_
      refine Yg0 ?_
      refine Ye0 ?_;try (with_reducible exact trivial)
      rw [← hr];rfl

theorem linksP_step {l r : List TPair} {i : Nat} {q : TPair} (h : r[i]? = some q) : linksP l (r.drop i) = if l.any (TreeSpec.differ q) then q.path else linksP l (r.drop (i + 1)) := by
  obtain ⟨hi,rfl⟩ := List.getElem?_eq_some_iff.1 h
  rw [List.drop_eq_getElem_cons hi,linksP]

set_option maxRecDepth 100000 in
theorem ilinks_L (a b : FTree) (ha : SmallT a) (hb : SmallT b) : LCalls Try.prog 14 [.agg (treeL a),.agg (treeL b)] (strL (linksA a b)) := by
  have c1 := iboth_L a b ha hb
  have c2 := icommon_L a b ha hb
  have hla := ha.ents
  have hcl := common_len b.ents a.ents
  simp only [treeL,rowL] at c1 c2
  refine LCalls.of (fun _ => false) Try.func14 rfl (by decide) Try.ntmps14 Try.results14 (by simp) ?_
  intro w0 S0 vs hgl hwf0 hsz hvs;clear hsz hvs hwf0 hgl
  generalize hR : linksA a b = R
  unfold linksA at hR
  generalize commonP a.ents b.ents = l at *
  have hll : l.length ≤ 1000000 := by omega
  refine Yg1 @treeL.eq_1 ?_
  cases h1 : (mayT a && mayT b)
  · rw [h1] at c1 hR
    refine LW_scope_straight ?_
    refine Yr0 ?_;intro K hK
    refine Yc0 (c1) ?_
    refine hK _ ?_;clear hK K;try refine Wh0 ?_
    refine Yt0 ?_
    refine Yg0 ?_
    refine Ye0 ?_;try (with_reducible exact trivial)
    rw [← hR];rfl
  rw [h1] at c1 hR
  rw [if_pos rfl] at hR
  refine LW_lab1 (fun n st => ∃ i : Nat,n + i = l.length ∧ st.env 5 = .sl l.length (l.flatMap pairL) .no ∧ st.env 6 = intL i ∧ linksP l (l.drop i) = R ∧ st.mode = fun _ => false) rfl ?_ ?_
  · intro hJ
    refine Yr0 ?_;intro K hK
    refine Yc0 (c1) ?_
    refine hK _ ?_;clear hK K;try refine Wh0 ?_
    refine Yf0 ?_
    refine Yr0 ?_;intro K hK
    refine Yc0 (c2) ?_
    refine hK _ ?_;clear hK K;try refine Wh0 ?_
    refine Yl0 ?_
    exact hJ.out l.length _ ⟨0,by omega,rfl,rfl,hR,rfl⟩
  · rintro n st ⟨i,hn,e5,e6,hr,hmd⟩
    by_cases hie : i = l.length
    · have hie2 : (i : Int) = l.length := by omega
      rw [List.drop_of_length_le (by omega)] at hr
      refine Yg1 (fa3 @e5 @e6 @hie2) ?_
      refine Yt0 ?_
      refine Yg0 ?_
      refine Ye0 ?_;try (with_reducible exact trivial)
      rw [← hr];rfl
    have hie2 : ¬ (i : Int) = l.length := by omega
    obtain ⟨q,hq⟩ := get_of_lt (l := l) (i := i) (by omega)
    have hd := drop_pair hq
    have hlt : i < l.length := by omega
    have hw := w64s (n := i) (by omega)
    have hip : (0 : Int) ≤ (i : Int) := by omega
    have cd := idiffer_L l hll q
    simp only [rowL,pairL] at cd
    rw [linksP_step hq] at hr
    refine Yg1 (fa3 @e5 @e6 @hie2) ?_
    refine Yf0 ?_
    cases hdf : l.any (TreeSpec.differ q)
    · rw [hdf] at hr cd
      refine Yr1 (fa5 @e5 @e6 @hlt @hip @hd) ?_;intro K hK
      refine Yc0 (cd) ?_
      refine hK _ ?_;clear hK K;try refine Wh0 ?_
      refine Yf0 ?_
      refine Yg1 (fa2 @e6 @hw) ?_
      refine LW_goto ?_;simp only [thenL,jumpsL,inBlockL,twoL,true_and]
      exact ⟨n - 1,by omega,i + 1,by omega,(Yq1 @e5),Yq0,by rw [← hr];rfl,(Yq1 @hmd)⟩
    · rw [hdf] at hr cd
      refine Yr1 (fa5 @e5 @e6 @hlt @hip @hd) ?_;intro K hK
      refine Yc0 (cd) ?_
      refine hK _ ?_;clear hK K;try refine Wh0 ?_
      refine Yt0 ?_
      refine Yg1 (fa5 @e5 @e6 @hlt @hip @hd) ?_
      refine Ye0 ?_;try (with_reducible exact trivial)
      rw [← hr];rfl
end Go.Proofs.Ytpficpldemickaa
end
section
set_option linter.unusedSimpArgs false
set_option linter.unusedVariables false
namespace Go.Proofs.Ytpficpldemickaa
open Go.RowKit Go.Proofs AclSpec MetaSpec NodeSpec PathSpec TreeSpec

theorem nodeG_of {ns : List FNode} {i : Nat} {n : FNode} (h : ns[i]? = some n) : nodeG ns i = n := by unfold nodeG;rw [Int.toNat_natCast,h];rfl
theorem nodesP_step {na nb : List FNode} {r : List TPair} {i : Nat} {q : TPair} (h : r[i]? = some q) : nodesP na nb (r.drop i) = if diffN (nodeG na q.a) (nodeG nb q.b) = [] then nodesP na nb (r.drop (i + 1)) else (dotP q.path,diffN (nodeG na q.a) (nodeG nb q.b)) := by
  obtain ⟨hi,rfl⟩ := List.getElem?_eq_some_iff.1 h
  rw [List.drop_eq_getElem_cons hi,nodesP]
theorem common_range {a b : FTree} (ha : Valid a) (hb : Valid b) : ∀ p ∈ commonP a.ents b.ents,(0 ≤ p.a ∧ p.a < a.nodes.length) ∧ 0 ≤ p.b ∧ p.b < b.nodes.length := by
  intro p hp
  unfold commonP at hp
  obtain ⟨e,he,hp⟩ := List.mem_flatMap.1 hp
  unfold pair1 at hp
  split at hp
  · rename_i hf
    rw [List.mem_singleton] at hp
    subst hp
    obtain ⟨y,hy,_,hyn⟩ := findT_mem hf
    have := hb.range y hy
    rw [hyn] at this
    exact ⟨ha.range e he,this⟩
  · cases hp

set_option maxRecDepth 100000 in
set_option maxHeartbeats 2000000 in
theorem inodes_L (a b : FTree) (ha : SmallT a) (hb : SmallT b) : LCalls Try.prog 10 [.agg (treeL a),.agg (treeL b)] (.tup [strL (nodesA a b).1,strL (nodesA a b).2]) := by
  have c1 := iboth_L a b ha hb
  have c2 := icommon_L a b ha hb
  have hla := ha.ents
  have hlna := ha.nodes
  have hlnb := hb.nodes
  have hcl := common_len b.ents a.ents
  simp only [treeL,rowL] at c1 c2
  refine LCalls.of (fun _ => false) Try.func10 rfl (by decide) Try.ntmps10 Try.results10 (by simp) ?_
  intro w0 S0 vs hgl hwf0 hsz hvs;clear hsz hvs hwf0 hgl
  generalize hR : nodesA a b = R
  unfold nodesA at hR
  refine Yg1 @treeL.eq_1 ?_
  cases h1 : (mayT a && mayT b)
  · rw [h1] at c1 hR
    refine LW_scope_straight ?_
    refine Yr0 ?_;intro K hK
    refine Yc0 (c1) ?_
    refine hK _ ?_;clear hK K;try refine Wh0 ?_
    refine Yt0 ?_
    refine Yg0 ?_
    refine Ye0 ?_;try (with_reducible exact trivial)
    rw [← hR];exact ⟨rfl,rfl⟩
  rw [h1] at c1 hR
  rw [if_pos rfl] at hR
  rw [Bool.and_eq_true] at h1
  have hrg := common_range (mayT_valid h1.1) (mayT_valid h1.2)
  generalize commonP a.ents b.ents = l at *
  have hll : l.length ≤ 1000000 := by omega
  refine LW_lab1 (fun n st => ∃ i : Nat,n + i = l.length ∧ st.env 2 = .ptr 2 0 ∧ st.box 2 = some (treeL a) ∧ st.env 3 = .ptr 3 0 ∧ st.box 3 = some (treeL b) ∧ st.env 6 = .sl l.length (l.flatMap pairL) .no ∧ st.env 7 = intL i ∧ nodesP a.nodes b.nodes (l.drop i) = R ∧ st.mode = fun _ => false) rfl ?_ ?_
  · intro hJ
    refine Yr0 ?_;intro K hK
    refine Yc0 (c1) ?_
    refine hK _ ?_;clear hK K;try refine Wh0 ?_
    refine Yf0 ?_
    refine Yr0 ?_;intro K hK
    refine Yc0 (c2) ?_
    refine hK _ ?_;clear hK K;try refine Wh0 ?_
    refine Yl0 ?_
    exact hJ.out l.length _ ⟨0,by omega,rfl,(Yq1 @treeL.eq_1),rfl,(Yq1 @treeL.eq_1),rfl,rfl,hR,rfl⟩
  · rintro n st ⟨i,hn,e2,b2,e3,b3,e6,e7,hr,hmd⟩
    simp only [treeL] at b2 b3
    by_cases hie : i = l.length
    · have hie2 : (i : Int) = l.length := by omega
      rw [List.drop_of_length_le (by omega)] at hr
      refine Yg1 (fa3 @e6 @e7 @hie2) ?_
      refine Yt0 ?_
      refine Yg0 ?_
      refine Ye0 ?_;try (with_reducible exact trivial)
      rw [← hr];exact ⟨rfl,rfl⟩
    have hie2 : ¬ (i : Int) = l.length := by omega
    obtain ⟨q,hq⟩ := get_of_lt (l := l) (i := i) (by omega)
    have hd := drop_pair hq
    have hlt : i < l.length := by omega
    have hw := w64s (n := i) (by omega)
    have hip : (0 : Int) ≤ (i : Int) := by omega
    have hqr := hrg q (List.mem_of_getElem? hq)
    obtain ⟨j,hj⟩ : ∃ j : Nat,q.a = j := ⟨q.a.toNat,by omega⟩
    obtain ⟨k,hk⟩ : ∃ k : Nat,q.b = k := ⟨q.b.toNat,by omega⟩
    have hjl : j < a.nodes.length := by omega
    have hkl : k < b.nodes.length := by omega
    have hjp : (0 : Int) ≤ (j : Int) := by omega
    have hkp : (0 : Int) ≤ (k : Int) := by omega
    obtain ⟨x,hx⟩ := get_of_lt hjl
    obtain ⟨y,hy⟩ := get_of_lt hkl
    have hdx := drop_node hx
    have hdy := drop_node hy
    have cd := ndiff_L x y (small.len (ha.node x (List.mem_of_getElem? hx)).1) (small.len (hb.node y (List.mem_of_getElem? hy)).1)
    rw [nodesP_step hq,hj,hk,nodeG_of hx,nodeG_of hy] at hr
    simp only [nodeL,attrsL,acesL,piecesL,rowL,List.cons_append,List.nil_append] at cd hdx hdy
    refine Yg1 (fa3 @e6 @e7 @hie2) ?_
    refine Yf0 ?_
    refine Yn1 (fa18 @e2 @b2 @e3 @b3 @e6 @e7 @hlt @hip @hd @hj @hk @hjl @hkl @hjp @hkp @hdx @hdy @hmd) ?_;intro K hK
    refine Yc1 (cd) @hmd ?_
    refine hK _ ?_;clear hK K;try refine Wh0 ?_
    by_cases hdf : diffN x y = []
    · rw [if_pos hdf] at hr
      refine Yg1 @hdf ?_
      refine Yt0 ?_
      refine Yg1 (fa2 @e7 @hw) ?_
      refine LW_goto ?_;simp only [thenL,jumpsL,inBlockL,twoL,true_and]
      exact ⟨n - 1,by omega,i + 1,by omega,(Yq1 @e2),(Yq1 (fa2 @b2 @treeL.eq_1)),(Yq1 @e3),(Yq1 (fa2 @b3 @treeL.eq_1)),(Yq1 @e6),Yq0,hr,(Yq1 @hmd)⟩
    · rw [if_neg hdf] at hr
      unfold dotP at hr
      refine Yg1 @hdf ?_
      refine Yf0 ?_
      by_cases hp : q.path = []
      · rw [if_pos hp] at hr
        refine Yg1 (fa6 @e6 @e7 @hlt @hip @hd @hp) ?_
        refine Yt0 ?_
        refine Yg0 ?_
        refine Ye0 ?_;try (with_reducible exact trivial)
        rw [← hr];exact ⟨rfl,rfl⟩
      · rw [if_neg hp] at hr
        refine Yg1 (fa6 @e6 @e7 @hlt @hip @hd @hp) ?_
        refine Yf0 ?_
        refine Yg1 (fa5 @e6 @e7 @hlt @hip @hd) ?_
        refine Ye0 ?_;try (with_reducible exact trivial)
        rw [← hr];exact ⟨rfl,rfl⟩

set_option maxRecDepth 100000 in
theorem isame_L (a b : FTree) (ha : SmallT a) (hb : SmallT b) : LCalls Try.prog 16 [.agg (treeL a),.agg (treeL b)] (boolL (sameA a b)) := by
  have c1 := iboth_L a b ha hb
  have c2 := ipaths_L a b ha hb
  have c3 := ilinks_L a b ha hb
  have c4 := inodes_L a b ha hb
  simp only [treeL] at c1 c2 c3 c4
  refine LCalls.of (fun _ => false) Try.func16 rfl (by decide) Try.ntmps16 Try.results16 (by simp) ?_
  intro w0 S0 vs hgl hwf0 hsz hvs;clear hsz hvs hwf0 hgl
  generalize hR : sameA a b = R
  unfold sameA at hR
  generalize pathsA a b = p at *
  generalize linksA a b = l at *
  generalize nodesA a b = d at *
  refine Yg1 @treeL.eq_1 ?_
  cases h1 : (mayT a && mayT b)
  · rw [h1] at c1 hR
    refine Yr0 ?_;intro K hK
    refine Yc0 (c1) ?_
    refine hK _ ?_;clear hK K;try refine Wh0 ?_
    refine Yt0 ?_
    refine Yg0 ?_
    refine Ye0 ?_;try (with_reducible exact trivial)
    rw [← hR];rfl
  rw [h1] at c1 hR
  by_cases h2 : p = []
  rotate_left
  · rw [decide_eq_false h2] at hR
    refine Yr0 ?_;intro K hK
    refine Yc0 (c1) ?_
    refine Yc1 (c2) @h2 ?_
    refine hK _ ?_;clear hK K;try refine Wh0 ?_
    refine Yt0 ?_
    refine Yg0 ?_
    refine Ye0 ?_;try (with_reducible exact trivial)
    rw [← hR];rfl
  rw [h2] at c2
  rw [decide_eq_true h2] at hR
  by_cases h3 : l = []
  rotate_left
  · rw [decide_eq_false h3] at hR
    refine Yr0 ?_;intro K hK
    refine Yc0 (c1) ?_
    refine Yc0 (c2) ?_
    refine Yc1 (c3) @h3 ?_
    refine hK _ ?_;clear hK K;try refine Wh0 ?_
    refine Yt0 ?_
    refine Yg0 ?_
    refine Ye0 ?_;try (with_reducible exact trivial)
    rw [← hR];rfl
  rw [h3] at c3
  rw [decide_eq_true h3] at hR
  refine Yr0 ?_;intro K hK
  refine Yc0 (c1) ?_
  refine Yc0 (c2) ?_
  refine Yc0 (c3) ?_
  refine hK _ ?_;clear hK K;try refine Wh0 ?_
  refine Yf0 ?_
  refine Yr0 ?_;intro K hK
  refine Yc0 (c4) ?_
  refine hK _ ?_;clear hK K;try refine Wh0 ?_
  by_cases h4 : d.1 = []
  · refine Yg1 @h4 ?_
    refine Ye0 ?_;try (with_reducible exact trivial)
    rw [← hR,decide_eq_true h4];rfl
  · refine Yg1 @h4 ?_
    refine Ye0 ?_;try (with_reducible exact trivial)
    rw [← hR,decide_eq_false h4];rfl

set_option maxRecDepth 100000 in
theorem iwithin_L (a b : FTree) (ha : SmallT a) (hb : SmallT b) : LCalls Try.prog 18 [.agg (treeL a),.agg (treeL b)] (boolL (withinA a b)) := by
  have c1 := iboth_L a b ha hb
  have c2 := icommon_L a b ha hb
  simp only [treeL,rowL] at c1 c2
  refine LCalls.of (fun _ => false) Try.func18 rfl (by decide) Try.ntmps18 Try.results18 (by simp) ?_
  intro w0 S0 vs hgl hwf0 hsz hvs;clear hsz hvs hwf0 hgl
  generalize hR : withinA a b = R
  unfold withinA at hR
  have hmd : (fun _ : Nat => false) = fun _ : Nat => false := rfl
  refine Yg1 @treeL.eq_1 ?_
  cases h1 : (mayT a && mayT b)
  · rw [h1] at c1 hR
    refine Yn0 ?_;intro K hK
    refine Yc0 (c1) ?_
    refine hK _ ?_;clear hK K;try refine Wh0 ?_
    refine Ye0 ?_;try (with_reducible exact trivial)
    rw [← hR];rfl
  rw [h1] at c1 hR
  by_cases h2 : (commonP a.ents b.ents).length = a.ents.length
  · have h3 : ((commonP a.ents b.ents).length : Int) = a.ents.length := by omega
    refine Yn0 ?_;intro K hK
    refine Yc0 (c1) ?_
    refine Yc1 (c2) @h3 ?_
    refine hK _ ?_;clear hK K;try refine Wh0 ?_
    refine Ye0 ?_;try (with_reducible exact trivial)
    rw [← hR,decide_eq_true h2];rfl
  · have h3 : ¬ ((commonP a.ents b.ents).length : Int) = a.ents.length := by omega
    refine Yn0 ?_;intro K hK
    refine Yc0 (c1) ?_
    refine Yc1 (c2) @h3 ?_
    refine hK _ ?_;clear hK K;try refine Wh0 ?_
    refine Ye0 ?_;try (with_reducible exact trivial)
    rw [← hR,decide_eq_false h2];rfl
end Go.Proofs.Ytpficpldemickaa
end
section
set_option linter.unusedSimpArgs false
set_option linter.unusedVariables false
namespace Go.Proofs.Ytpficpldemickaa.TreeSpec
open AclSpec MetaSpec NodeSpec PathSpec
def xm : Meta := ⟨0,0,0,0,[],[]⟩
def xm1 : Meta := ⟨1,0,0,0,[],[]⟩
def xd : FNode := ⟨1,xm,0,[],[],0,0⟩
def xf : FNode := ⟨6,xm,0,[],[],0,0⟩
def xg : FNode := ⟨1,xm1,0,[],[],0,0⟩
def xA : FTree := ⟨[⟨[],0⟩,⟨[97],1⟩,⟨[98],1⟩],[xd,xf]⟩
def xB : FTree := ⟨[⟨[],0⟩,⟨[97],1⟩,⟨[98],2⟩],[xd,xf,xf]⟩
def xC : FTree := ⟨[⟨[],0⟩],[xg]⟩
def xE : FTree := ⟨[],[]⟩
theorem ex_n1 : nodesA xA xC = ([46],[109,111,100,101]) := by decide +kernel
theorem ex_n2 : nodesA xA xA = ([],[]) := by decide +kernel
theorem ex_s1 : sameA xA xA = true := by decide +kernel
theorem ex_s2 : sameA xA xB = false := by decide +kernel
theorem ex_l : linksA xA xB = [97] := by decide +kernel
theorem ex_p1 : pathsA xA xC = [97] := by decide +kernel
theorem ex_p2 : pathsA xA xB = [] := by decide +kernel
theorem ex_w1 : withinA xC xA = true := by decide +kernel
theorem ex_w2 : withinA xA xC = false := by decide +kernel
theorem ex_p3 : pathsA xE xA = [63] := by decide +kernel
theorem ex_s3 : sameA xE xE = false := by decide +kernel
end Go.Proofs.Ytpficpldemickaa.TreeSpec
end
section
set_option linter.unusedSimpArgs false
set_option linter.unusedVariables false
namespace Go.Proofs.Ytpficpldemickaa
open Go.RowKit Go.Proofs AclSpec MetaSpec NodeSpec GSort Flo Ext

end Go.Proofs.Ytpficpldemickaa
end
section
set_option linter.unusedSimpArgs false
set_option linter.unusedVariables false
namespace Go.Proofs.Ytpficpldemickaa
open Go.RowKit Go.Proofs AclSpec MetaSpec NodeSpec PathSpec TreeSpec

theorem small_tree {t : FTree} (h1 : t.ents.length ≤ 10) (h2 : t.nodes.length ≤ 10) (h3 : t.ents.all (fun e => decide (e.path.length ≤ 10)) = true) (h4 : t.nodes.all (fun n => decide (n.mt.attrs.length ≤ 10) && decide (n.mt.acl.length ≤ 10) && decide (n.dat = []) && decide (n.target.length ≤ 10)) = true) : SmallT t := by
  refine ⟨by omega,by omega,fun e he => ?_,fun n hn => ?_⟩
  · have := of_decide_eq_true (List.all_eq_true.1 h3 e he);omega
  · have := List.all_eq_true.1 h4 n hn
    simp only [Bool.and_eq_true,decide_eq_true_eq] at this
    obtain ⟨⟨⟨a,b⟩,c⟩,d⟩ := this
    refine ⟨⟨by omega,by omega,by rw [c];decide,fun p hp => by rw [c] at hp;cases hp⟩,by unfold maxLen;omega⟩

set_option maxRecDepth 100000 in
set_option maxHeartbeats 8000000 in
theorem itold_L : LCalls Try.prog 9 [] (boolL true) := by
  have sA : SmallT xA := small_tree (by decide) (by decide) (by decide) (by decide)
  have sB : SmallT xB := small_tree (by decide) (by decide) (by decide) (by decide)
  have sC : SmallT xC := small_tree (by decide) (by decide) (by decide) (by decide)
  have sE : SmallT xE := small_tree (by decide) (by decide) (by decide) (by decide)
  have c1 := inodes_L xA xC sA sC
  rw [ex_n1] at c1
  have c2 := inodes_L xA xA sA sA
  rw [ex_n2] at c2
  have c3 := isame_L xA xA sA sA
  rw [ex_s1] at c3
  have c4 := isame_L xA xB sA sB
  rw [ex_s2] at c4
  have c5 := ilinks_L xA xB sA sB
  rw [ex_l] at c5
  have c6 := ipaths_L xA xC sA sC
  rw [ex_p1] at c6
  have c7 := ipaths_L xA xB sA sB
  rw [ex_p2] at c7
  have c8 := iwithin_L xC xA sC sA
  rw [ex_w1] at c8
  have c9 := iwithin_L xA xC sA sC
  rw [ex_w2] at c9
  have c10 := ipaths_L xE xA sE sA
  rw [ex_p3] at c10
  have c11 := isame_L xE xE sE sE
  rw [ex_s3] at c11
  simp only [xA,xB,xC,xE,xd,xf,xg,xm,xm1,treeL,tentL,nodeL,attrsL,acesL,piecesL,rowL,List.flatMap_cons,List.flatMap_nil,List.cons_append,List.nil_append,List.append_nil,List.length_cons,List.length_nil,Nat.reduceAdd] at c1 c2 c3 c4 c5 c6 c7 c8 c9 c10 c11
  refine LCalls.of (fun _ => false) Try.func9 rfl (by decide) Try.ntmps9 Try.results9 (by simp) ?_
  intro w0 S0 vs hgl hwf0 hsz hvs;clear hsz hvs hwf0 hgl
  refine Yg0 ?_
  refine Yr0 ?_;intro K hK
  refine Yc0 (c1) ?_
  refine hK _ ?_;clear hK K;try refine Wh0 ?_
  refine Yr0 ?_;intro K hK
  refine Yc0 (c2) ?_
  refine hK _ ?_;clear hK K;try refine Wh0 ?_
  (repeat refine LW_seq ?_)
  refine LW_regionA (l := ?l) ?hl ?_
  case hl => (first | simp only [Array.append_eq_append,List.append_toArray,List.append_eq,List.cons_append,List.nil_append] | skip);exact rfl
  refine Yr0 ?_;intro K hK
  refine Yc0 (c3) ?_
  refine Yc0 (c4) ?_
  refine Yc0 (c5) ?_
  refine Yc0 (c6) ?_
  refine Yc0 (c7) ?_
  refine Yc0 (c8) ?_
  refine Yc0 (c9) ?_
  refine Yc0 (c10) ?_
  refine Yc0 (c11) ?_
  refine hK _ ?_;clear hK K;try refine Wh0 ?_
  refine Ye0 ?_;try (with_reducible exact trivial)

end Go.Proofs.Ytpficpldemickaa
end
