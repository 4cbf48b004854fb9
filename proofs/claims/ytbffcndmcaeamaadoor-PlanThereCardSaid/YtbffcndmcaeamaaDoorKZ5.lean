import Derived.Test.YtbffcndmcaeamaaDoorKZ3
section
set_option linter.unusedSimpArgs false
set_option linter.unusedVariables false
namespace Go.Proofs.YtbffcndmcaeamaaDoor
open Nat renaming reduceAdd → zz1,reduceMul → zz2,reduceSub → zz3,reduceLT → zz4,reduceLeDiff → zz5,reduceEqDiff → zz6,reduceBEq → zzf
open Int renaming reduceAdd → zz7,reduceSub → zz8,reduceMul → zz9,reduceLT → zza,reduceLE → zzb,reduceEq → zzc,reduceNeg → zzd,reduceToNat → zze
open Op renaming operands → zo
open Call renaming operands → zc
open Go.RowKit Go.Proofs AclSpec MetaSpec NodeSpec PathSpec TreeSpec PlanSpec

theorem upTo_len {α : Type} {f : Nat → List α} {c : Nat} (h : ∀ i,(f i).length ≤ c) : ∀ n : Nat,(upTo f n).length ≤ c * n
  | 0 => by simp [upTo]
  | n + 1 => by rw [upTo,List.length_append,Nat.mul_succ];have := upTo_len h n;have := h n;omega
theorem othS_len (t : FTree) (i : Nat) : (othS t i).length ≤ 5 := by
  unfold othS
  split
  · simp
  · split
    · simp [last5]
    · simp
theorem dirS_len (t : FTree) (d : Int) (i : Nat) : (dirS t d i).length ≤ 5 := by
  unfold dirS
  split
  · simp
  · split
    · simp [last5]
    · simp
theorem othS_at {t : FTree} {i : Nat} {e : TEnt} (he : t.ents[i]? = some e) : othS t i = if (nodeG t.nodes e.node).kind ≠ 1 ∧ firstI t.ents e.node = i then last5 e.path else [] := by
  unfold othS;rw [he]
theorem dirS_at {t : FTree} {d : Int} {i : Nat} {e : TEnt} (he : t.ents[i]? = some e) : dirS t d i = if (nodeG t.nodes e.node).kind = 1 ∧ depthB e.path = d then last5 e.path else [] := by
  unfold dirS;rw [he]
set_option maxRecDepth 100000 in
set_option maxHeartbeats 8000000 in
theorem pothers_O (t : FTree) (h : SmallT t) (hm : mayT t = true) (l : List PStep) (hl : l.length ≤ 500000) :
    OCalls Tryd.prog 23 [.sl l.length (l.flatMap stepL) (.row 1000),.agg (treeL t),firstsL t] ⟨[(1000,(33,l.length))],[],[]⟩ (.sl (l ++ upTo (othS t) t.ents.length).length ((l ++ upTo (othS t) t.ents.length).flatMap stepL) (.row 2000)) ⟨[(2000,(33,(l ++ upTo (othS t) t.ents.length).length))],[],[]⟩ := by
  have hll := h.ents
  have hln := h.nodes
  have h100 : t.ents.length ≤ 100 := by
    have := hm
    unfold mayT at this
    simp only [Bool.and_eq_true,decide_eq_true_eq] at this
    exact this.1.1.1.2
  refine OCalls.of (fun _ => false) Tryd.func23 rfl (by decide) Tryd.ntmps23 Tryd.results23 (by simp) ?_
  intro w0 S0 vs
  generalize hR : l ++ upTo (othS t) t.ents.length = R
  refine Yg0 ?_
  refine LW_lab1 (fun n st => ∃ (i : Nat) (q : List PStep),n + i = t.ents.length ∧ q = l ++ upTo (othS t) i ∧ st.env 0 = .sl q.length (q.flatMap stepL) (.row 1000) ∧ st.row 1000 = some (33,q.length) ∧ st.env 2 = firstsL t ∧ st.env 4 = .ptr 4 0 ∧ st.box 4 = some (treeL t) ∧ st.env 7 = intL i ∧ st.mode = fun _ => false) rfl ?_ ?_
  · intro hJ
    refine Yl0 ?_
    exact hJ.out t.ents.length _ ⟨0,l,by omega,by simp [upTo],Yq0,Yq0,(Yq1 @firstsL.eq_1),Yq0,(Yq1 @treeL.eq_1),Yq0,Yq0⟩
  · rintro n st ⟨i,q,hn,hq,e0,r1000,e2,e4,b4,e7,hmd⟩
    simp only [firstsL] at e2
    simp only [treeL] at b4
    by_cases hlt : i < t.ents.length
    rotate_left
    · have hi : i = t.ents.length := by omega
      have hqR : q = R := by rw [hq,← hR,hi]
      refine Yg1 (fa4 @e4 @b4 @e7 @hlt) ?_
      refine Yf1 @hlt ?_
      refine Yg1 @e0 ?_
      subst hqR
      refine LW_ret ?_;simp only [thenL,jumpsL,inBlockL,twoL,bodyO];refine ⟨[(1000,2000)],rfl,?_⟩;simp only [thenL,jumpsL,inBlockL,twoL,bodyQ,LV.lit.injEq,LV.tup.injEq,LV.agg.injEq,LV.sl.injEq,List.cons.injEq,Value.int.injEq,Value.bool.injEq,Value.string.injEq,ByteArray.mk.injEq,exists_eq_left',exists_eq_left,exists_eq_right,LZ,zo,zc,reduceCtorEq,reduceIte,zz1,zz2,zz3,zz4,zz5,zz6,zz7,zz8,zz9,zza,zzb,zzc,zzd,zze,zzf,e0,r1000]
    obtain ⟨e,he⟩ := get_of_lt hlt
    obtain ⟨k,hk,hkn,hF⟩ := firstsT_get hm he
    have hFl := firstsF_len t.nodes.length t.ents 0
    have hu : (usesL (firstsT t)).length = t.nodes.length := by rw [uses_len];exact hFl
    have hip : (0 : Int) ≤ (i : Int) := by omega
    have hk0 : (0 : Int) ≤ (k : Int) := by omega
    obtain ⟨nd,hnd⟩ := get_of_lt hkn
    have hG : nodeG t.nodes e.node = nd := by unfold nodeG;rw [hk,Int.toNat_natCast,hnd];rfl
    have hd := drop_tent he
    have hdn := drop_node hnd
    have hdf := drop_uses hF
    simp only [nodeL,attrsL,acesL,piecesL,rowL,List.cons_append,List.nil_append] at hdn
    rw [hk] at hd
    have hw := w64s (n := i) (by omega)
    have ho := othS_at he
    rw [hG] at ho
    have hql : q.length ≤ 500000 + 5 * i := by
      rw [hq,List.length_append]
      have := upTo_len (othS_len t) i
      omega
    have hfl := stepL_flen q
    have hq1 : q ++ othS t i = l ++ upTo (othS t) (i + 1) := by rw [hq,upTo,List.append_assoc]
    have cl := plast_O q e.path (by omega)
    have hst := stepL_strip q
    rw [ho] at hq1
    generalize firstI t.ents e.node = f at *
    refine Yg1 (fa4 @e4 @b4 @e7 @hlt) ?_
    refine Yt1 @hlt ?_
    by_cases k1 : nd.kind = 1
    · rw [if_neg (fun hx => hx.1 k1),List.append_nil] at hq1
      refine Yg1 (fa13 @e2 @e4 @b4 @e7 @hlt @hip @hd @hk0 @hkn @hdn @hdf @hu @k1) ?_
      refine Yf0 ?_
      refine Yg1 (fa2 @e7 @hw) ?_
      refine LW_goto ?_;simp only [thenL,jumpsL,inBlockL,twoL,true_and]
      exact ⟨n - 1,by omega,i + 1,q,by omega,hq1,(Yq1 @e0),(Yq1 @r1000),(Yq1 (fa2 @e2 @firstsL.eq_1)),(Yq1 @e4),(Yq1 (fa2 @b4 @treeL.eq_1)),(Yq1 @hw),(Yq1 @hmd)⟩
    by_cases hf : f = i
    rotate_left
    · have hf2 : ¬ (f : Int) = (i : Int) := by omega
      rw [if_neg (fun hx => hf hx.2),List.append_nil] at hq1
      refine Yg1 (fa15 @e2 @e4 @b4 @e7 @hlt @hip @hd @hk0 @hkn @hdn @hdf @hu @k1 @hf @hf2) ?_
      refine Yf0 ?_
      refine Yg1 (fa2 @e7 @hw) ?_
      refine LW_goto ?_;simp only [thenL,jumpsL,inBlockL,twoL,true_and]
      exact ⟨n - 1,by omega,i + 1,q,by omega,hq1,(Yq1 @e0),(Yq1 @r1000),(Yq1 (fa2 @e2 @firstsL.eq_1)),(Yq1 @e4),(Yq1 (fa2 @b4 @treeL.eq_1)),(Yq1 @hw),(Yq1 @hmd)⟩
    rw [if_pos ⟨k1,hf⟩] at hq1
    refine Yg1 (fa14 @e2 @e4 @b4 @e7 @hlt @hip @hd @hk0 @hkn @hdn @hdf @hu @k1 @hf) ?_
    refine Yt0 ?_
    (repeat (first | refine LW_seq ?_ | (refine LW_skip ?_;simp only [LSj,reduceIte,zze]) | refine LW_block ?_));refine LW_regionO [(39,⟨_,_,_,_,_,[(1000,1000)],[(2000,1000)],_,[],(cl).toS,rfl,rfl,rfl⟩)] ?_;intro K hK;simp only [LZ,zo,zc,reduceCtorEq,reduceIte,zz1,zz2,zz3,zz4,zz5,zz6,zz7,zz8,zz9,zza,zzb,zzc,zzd,zze,zzf,e0,r1000,hmd,hfl,hst]
    refine hK _ ?_;clear hK K;try refine Wh0 ?_
    refine Yg1 (fa2 @e7 @hw) ?_
    refine LW_goto ?_;simp only [thenL,jumpsL,inBlockL,twoL,true_and]
    exact ⟨n - 1,by omega,i + 1,q ++ last5 e.path,by omega,hq1,Yq0,Yq0,(Yq1 (fa2 @e2 @firstsL.eq_1)),(Yq1 @e4),(Yq1 (fa2 @b4 @treeL.eq_1)),(Yq1 @hw),(Yq1 @hmd)⟩
set_option maxRecDepth 100000 in
set_option maxHeartbeats 8000000 in
theorem pdirs_O (t : FTree) (h : SmallT t) (hm : mayT t = true) (l : List PStep) (hl : l.length ≤ 500000) :
    OCalls Tryd.prog 24 [.sl l.length (l.flatMap stepL) (.row 1000),.agg (treeL t)] ⟨[(1000,(33,l.length))],[],[]⟩ (.sl (l ++ upTo (levS t) 9).length ((l ++ upTo (levS t) 9).flatMap stepL) (.row 2000)) ⟨[(2000,(33,(l ++ upTo (levS t) 9).length))],[],[]⟩ := by
  have hll := h.ents
  have hln := h.nodes
  have h100 : t.ents.length ≤ 100 := by
    have := hm
    unfold mayT at this
    simp only [Bool.and_eq_true,decide_eq_true_eq] at this
    exact this.1.1.1.2
  have hrange := (mayT_valid hm).range
  refine OCalls.of (fun _ => false) Tryd.func24 rfl (by decide) Tryd.ntmps24 Tryd.results24 (by simp) ?_
  intro w0 S0 vs
  generalize hR : l ++ upTo (levS t) 9 = R
  refine Yg0 ?_
  refine LW_lab2
    (fun n st => ∃ (k : Nat) (q : List PStep),n = (9 - k) * 102 ∧ k < 9 ∧ q = l ++ upTo (levS t) k ∧ st.env 0 = .sl q.length (q.flatMap stepL) (.row 1000) ∧ st.row 1000 = some (33,q.length) ∧ st.env 3 = .ptr 3 0 ∧ st.box 3 = some (treeL t) ∧ st.env 5 = intL (8 - k : Nat) ∧ st.mode = fun _ => false)
    (fun n st => ∃ (k i : Nat) (q : List PStep),n + i = (8 - k) * 102 + 101 ∧ k < 9 ∧ i ≤ t.ents.length ∧ q = l ++ upTo (levS t) k ++ upTo (dirS t (8 - (k : Int))) i ∧ st.env 0 = .sl q.length (q.flatMap stepL) (.row 1000) ∧ st.row 1000 = some (33,q.length) ∧ st.env 3 = .ptr 3 0 ∧ st.box 3 = some (treeL t) ∧ st.env 5 = intL (8 - k : Nat) ∧ st.env 6 = intL i ∧ st.mode = fun _ => false) rfl rfl ?_ ?_ ?_
  · intro hJ0 hJ1
    refine Yl0 ?_
    exact hJ0.out (9 * 102) _ ⟨0,l,by omega,by omega,by simp [upTo],Yq0,Yq0,Yq0,(Yq1 @treeL.eq_1),Yq0,Yq0⟩
  · rintro n st ⟨k,q,hn,hk9,hq,e0,r1000,e3,b3,e5,hmd⟩ hJ1
    refine Yl0 ?_
    exact hJ1.out ((8 - k) * 102 + 101) _ (by omega) ⟨k,0,q,by omega,hk9,by omega,by rw [hq];simp [upTo],(Yq1 @e0),(Yq1 @r1000),(Yq1 @e3),(Yq1 @b3),(Yq1 @e5),Yq0,(Yq1 @hmd)⟩
  · rintro n st ⟨k,i,q,hn,hk9,hi,hq,e0,r1000,e3,b3,e5,e6,hmd⟩ hJ0
    simp only [treeL] at b3
    by_cases hlt : i < t.ents.length
    rotate_left
    · have hil : i = t.ents.length := by omega
      have hq2 : q = l ++ upTo (levS t) (k + 1) := by rw [hq,hil,upTo,List.append_assoc];rfl
      refine Yg1 (fa4 @e3 @b3 @e6 @hlt) ?_
      refine Yf1 @hlt ?_
      by_cases hk8 : k < 8
      · have h0 : ((0 : Int) < ((8 - k : Nat) : Int)) = True := eq_true (by omega)
        have hw : IntKind.i64.wrap (((8 - k : Nat) : Int) - 1) = ((8 - (k + 1) : Nat) : Int) := by rw [show ((8 - k : Nat) : Int) - 1 = ((8 - (k + 1) : Nat) : Int) by omega];exact w64 (by omega)
        refine Yg1 (fa2 @e5 @h0) ?_
        refine Yt0 ?_
        refine Yg1 (fa2 @e5 @hw) ?_
        refine LW_goto ?_;simp only [thenL,jumpsL,inBlockL,twoL,true_and]
        exact ⟨(8 - k) * 102,by omega,k + 1,q,by omega,by omega,hq2,(Yq1 @e0),(Yq1 @r1000),(Yq1 @e3),(Yq1 (fa2 @b3 @treeL.eq_1)),(Yq1 @hw),(Yq1 @hmd)⟩
      · have hk : k = 8 := by omega
        subst hk
        have h0 : ¬ ((0 : Int) < ((8 - 8 : Nat) : Int)) := by omega
        have hqR : q = R := by rw [hq2,← hR]
        refine Yg1 (fa2 @e5 @h0) ?_
        refine Yf0 ?_
        refine Yg1 @e0 ?_
        subst hqR
        refine LW_ret ?_;simp only [thenL,jumpsL,inBlockL,twoL,bodyO];refine ⟨[(1000,2000)],rfl,?_⟩;simp only [thenL,jumpsL,inBlockL,twoL,bodyQ,LV.lit.injEq,LV.tup.injEq,LV.agg.injEq,LV.sl.injEq,List.cons.injEq,Value.int.injEq,Value.bool.injEq,Value.string.injEq,ByteArray.mk.injEq,exists_eq_left',exists_eq_left,exists_eq_right,LZ,zo,zc,reduceCtorEq,reduceIte,zz1,zz2,zz3,zz4,zz5,zz6,zz7,zz8,zz9,zza,zzb,zzc,zzd,zze,zzf,e0,r1000]
    obtain ⟨e,he⟩ := get_of_lt hlt
    have hr := hrange e (List.mem_of_getElem? he)
    obtain ⟨c,hc⟩ : ∃ c : Nat,e.node = (c : Int) := ⟨e.node.toNat,by omega⟩
    have hcn : c < t.nodes.length := by omega
    have hip : (0 : Int) ≤ (i : Int) := by omega
    have hc0 : (0 : Int) ≤ (c : Int) := by omega
    obtain ⟨nd,hnd⟩ := get_of_lt hcn
    have hG : nodeG t.nodes e.node = nd := by unfold nodeG;rw [hc,Int.toNat_natCast,hnd];rfl
    have hd := drop_tent he
    have hdn := drop_node hnd
    simp only [nodeL,attrsL,acesL,piecesL,rowL,List.cons_append,List.nil_append] at hdn
    rw [hc] at hd
    have hw := w64s (n := i) (by omega)
    have ho := dirS_at (d := 8 - (k : Int)) he
    rw [hG] at ho
    have hql : q.length ≤ 500000 + 5 * 100 * 9 + 5 * i := by
      rw [hq,List.length_append,List.length_append]
      have h1 := upTo_len (dirS_len t (8 - (k : Int))) i
      have h2 := upTo_len (f := levS t) (c := 5 * 100) (fun j => by have := upTo_len (dirS_len t (8 - (j : Int))) t.ents.length;unfold levS;omega) k
      have : 5 * 100 * k ≤ 5 * 100 * 9 := Nat.mul_le_mul_left _ (by omega)
      omega
    have hfl := stepL_flen q
    have hq1 : q ++ dirS t (8 - (k : Int)) i = l ++ upTo (levS t) k ++ upTo (dirS t (8 - (k : Int))) (i + 1) := by rw [hq,upTo,List.append_assoc]
    have cl := plast_O q e.path (by omega)
    have cd := pdepth_L e.path (h.path e (List.mem_of_getElem? he))
    have hst := stepL_strip q
    rw [ho] at hq1
    have h8 : ((8 - k : Nat) : Int) = 8 - (k : Int) := by omega
    rw [h8] at e5
    generalize depthB e.path = dp at *
    refine Yg1 (fa4 @e3 @b3 @e6 @hlt) ?_
    refine Yt1 @hlt ?_
    by_cases k1 : nd.kind = 1
    rotate_left
    · rw [if_neg (fun hx => k1 hx.1),List.append_nil] at hq1
      refine Yg1 (fa10 @e3 @b3 @e6 @hlt @hip @hd @hc0 @hcn @hdn @k1) ?_
      refine Yf0 ?_
      refine Yg1 (fa2 @e6 @hw) ?_
      refine LW_goto ?_;simp only [thenL,jumpsL,inBlockL,twoL,true_and]
      exact ⟨n - 1,by omega,k,i + 1,q,by omega,hk9,by omega,hq1,(Yq1 @e0),(Yq1 @r1000),(Yq1 @e3),(Yq1 (fa2 @b3 @treeL.eq_1)),by rw [h8];exact (Yq1 @e5),(Yq1 @hw),(Yq1 @hmd)⟩
    refine Yo1 (fa6 @e3 @b3 @e6 @hlt @hip @hd) ?_
    by_cases hdp : dp = 8 - (k : Int)
    rotate_left
    · rw [if_neg (fun hx => hdp hx.2),List.append_nil] at hq1
      refine Yr1 (fa12 @e3 @b3 @e5 @e6 @hlt @hip @hd @hc0 @hcn @hdn @k1 @hdp) ?_;intro K hK
      refine Yc1 (cd) (fa12 @e3 @b3 @e5 @e6 @hlt @hip @hd @hc0 @hcn @hdn @k1 @hdp) ?_
      refine hK _ ?_;clear hK K;try refine Wh0 ?_
      refine Yf0 ?_
      refine Yg1 (fa2 @e6 @hw) ?_
      refine LW_goto ?_;simp only [thenL,jumpsL,inBlockL,twoL,true_and]
      exact ⟨n - 1,by omega,k,i + 1,q,by omega,hk9,by omega,hq1,(Yq1 @e0),(Yq1 @r1000),(Yq1 @e3),(Yq1 (fa2 @b3 @treeL.eq_1)),by rw [h8];exact (Yq1 @e5),(Yq1 @hw),(Yq1 @hmd)⟩
    rw [if_pos ⟨k1,hdp⟩] at hq1
    refine Yr1 (fa12 @e3 @b3 @e5 @e6 @hlt @hip @hd @hc0 @hcn @hdn @k1 @hdp) ?_;intro K hK
    refine Yc1 (cd) (fa12 @e3 @b3 @e5 @e6 @hlt @hip @hd @hc0 @hcn @hdn @k1 @hdp) ?_
    refine hK _ ?_;clear hK K;try refine Wh0 ?_
    refine Yt0 ?_
    (repeat (first | refine LW_seq ?_ | (refine LW_skip ?_;simp only [LSj,reduceIte,zze]) | refine LW_block ?_));refine LW_regionO [(36,⟨_,_,_,_,_,[(1000,1000)],[(2000,1000)],_,[],(cl).toS,rfl,rfl,rfl⟩)] ?_;intro K hK;simp only [LZ,zo,zc,reduceCtorEq,reduceIte,zz1,zz2,zz3,zz4,zz5,zz6,zz7,zz8,zz9,zza,zzb,zzc,zzd,zze,zzf,e0,r1000,hmd,hfl,hst]
    refine hK _ ?_;clear hK K;try refine Wh0 ?_
    refine Yg1 (fa2 @e6 @hw) ?_
    refine LW_goto ?_;simp only [thenL,jumpsL,inBlockL,twoL,true_and]
    exact ⟨n - 1,by omega,k,i + 1,q ++ last5 e.path,by omega,hk9,by omega,hq1,Yq0,Yq0,(Yq1 @e3),(Yq1 (fa2 @b3 @treeL.eq_1)),by rw [h8];exact (Yq1 @e5),(Yq1 @hw),(Yq1 @hmd)⟩
end Go.Proofs.YtbffcndmcaeamaaDoor
end
section
set_option linter.unusedSimpArgs false
set_option linter.unusedVariables false
namespace Go.Proofs.YtbffcndmcaeamaaDoor
open Nat renaming reduceAdd → zz1,reduceMul → zz2,reduceSub → zz3,reduceLT → zz4,reduceLeDiff → zz5,reduceEqDiff → zz6,reduceBEq → zzf
open Int renaming reduceAdd → zz7,reduceSub → zz8,reduceMul → zz9,reduceLT → zza,reduceLE → zzb,reduceEq → zzc,reduceNeg → zzd,reduceToNat → zze
open Op renaming operands → zo
open Call renaming operands → zc
open Go.RowKit Go.Proofs AclSpec MetaSpec NodeSpec PathSpec TreeSpec PlanSpec

theorem mapG_mapS (kvs : List (List UInt8 × Int)) (k p : List UInt8) (x : Int) : mapG (mapS kvs k x) p = if p = k then x else mapG kvs p := by
  induction kvs with
  | nil =>
    unfold mapS mapG
    rw [List.lookup_cons]
    by_cases h : p = k
    · simp [h]
    · have : (p == k) = false := by simpa using h
      rw [this,if_neg h]
  | cons q r ih =>
    unfold mapG at ih ⊢
    rw [mapS]
    by_cases hq : k = q.1
    · rw [if_pos hq,List.lookup_cons]
      rw [show (q :: r) = (q.1,q.2) :: r from rfl,List.lookup_cons]
      by_cases h : p = k
      · subst h
        simp
      · have h1 : (p == k) = false := by simpa using h
        have h2 : (p == q.1) = false := by rw [← hq];exact h1
        rw [h1,h2,if_neg h]
    · rw [if_neg hq,show (q :: mapS r k x) = (q.1,q.2) :: mapS r k x from rfl,show (q :: r) = (q.1,q.2) :: r from rfl,List.lookup_cons,List.lookup_cons]
      by_cases h : p = q.1
      · have h1 : (p == q.1) = true := by simpa using h
        have h2 : ¬ p = k := fun e => hq (e.symm.trans h)
        rw [h1,if_neg h2]
      · have h1 : (p == q.1) = false := by simpa using h
        rw [h1];exact ih
theorem exP_snoc (t : FTree) {there : List (List UInt8)} {i : Nat} {q : List UInt8} (h : there[i]? = some q) (p : List UInt8) : exP t (there.take (i + 1)) p = (exP t (there.take i) p || (decide (q = p) && isDirT t q)) := by
  obtain ⟨hi,rfl⟩ := List.getElem?_eq_some_iff.1 h
  unfold exP
  rw [List.take_succ_eq_append_getElem hi,List.any_append]
  simp
def MapEx (t : FTree) (there : List (List UInt8)) (kvs : List (List UInt8 × Int)) : Prop := ∀ p,mapG kvs p = 0 ↔ exP t there p = false
theorem MapEx.keep {t : FTree} {there : List (List UInt8)} {i : Nat} {q : List UInt8} {kvs : List (List UInt8 × Int)} (h : MapEx t (there.take i) kvs) (hq : there[i]? = some q) (hd : isDirT t q = false) : MapEx t (there.take (i + 1)) kvs := fun p => by
  rw [exP_snoc t hq,hd,Bool.and_false,Bool.or_false];exact h p
theorem MapEx.add {t : FTree} {there : List (List UInt8)} {i : Nat} {q : List UInt8} {kvs : List (List UInt8 × Int)} (h : MapEx t (there.take i) kvs) (hq : there[i]? = some q) (hd : isDirT t q = true) : MapEx t (there.take (i + 1)) (mapS kvs q 1) := fun p => by
  rw [exP_snoc t hq,hd,Bool.and_true,mapG_mapS]
  by_cases hp : p = q
  · rw [if_pos hp,hp];simp
  · have : decide (q = p) = false := by simpa using fun e => hp e.symm
    rw [if_neg hp,this,Bool.or_false];exact h p
theorem entS_len (t : FTree) (h : SmallT t) (hm : mayT t = true) (there : List (List UInt8)) (i : Nat) : (entS t there i).length ≤ 20 := by
  unfold entS
  split
  · simp
  rename_i e he
  split
  · simp
  split
  · simp
  unfold made1
  split
  · simp
  split
  · simp
  unfold fileS
  rw [List.length_cons]
  have hr := (mayT_valid hm).range e (List.mem_of_getElem? he)
  have hmn := (mayT_num hm).may _ (nodeG_mem hr.1 hr.2)
  generalize nodeG t.nodes e.node = nd at *
  split
  · rename_i k2
    have hf : isFileN nd = true := by unfold isFileN;simp [k2,hmn]
    have := (isFile_ok hf).2.2.2.1
    rw [List.length_append]
    have h2 : (writesP e.path nd.dat.length).length = nd.dat.length := by unfold writesP;simp
    split <;> simp <;> omega
  · simp
theorem entS_at {t : FTree} {there : List (List UInt8)} {i : Nat} {e : TEnt} (he : t.ents[i]? = some e) (h0 : i ≠ 0) : entS t there i = if exP t there e.path = true then [] else made1 t i e := by
  unfold entS;rw [he];simp only;rw [if_neg h0]
theorem entS_zero (t : FTree) (there : List (List UInt8)) : upTo (entS t there) 1 = [] := by
  rw [upTo,upTo,List.nil_append]
  unfold entS
  split
  · rfl
  · rw [if_pos rfl]
def stepsL (l : List PStep) : LV := rowL stepL l
set_option maxRecDepth 100000 in
set_option maxHeartbeats 8000000 in
theorem pall_L (t : FTree) (h : SmallT t) (there : List (List UInt8)) (hth : there.length ≤ 1000000) : LCalls Tryd.prog 7 [.agg (treeL t),strsL there] (.tup [stepsL (planP t there).1,intL (planP t there).2]) := by
  have hll := h.ents
  have hln := h.nodes
  have cm := tmay_L t h
  simp only [treeL] at cm
  refine LCalls.of (fun _ => false) Tryd.func7 rfl (by decide) Tryd.ntmps7 Tryd.results7 (by simp) ?_
  intro w0 S0 vs hgl hwf0 hsz hvs;clear hsz hvs hwf0 hgl
  generalize hR : planP t there = R
  unfold planP at hR
  refine Yg1 @treeL.eq_1 ?_
  refine LW_lab2
    (fun n st => ∃ (i : Nat) (kvs : List (List UInt8 × Int)),mayT t = true ∧ n + i = there.length + 1000 ∧ i ≤ there.length ∧ MapEx t (there.take i) kvs ∧ st.env 1 = strsL there ∧ st.env 2 = .ptr 2 0 ∧ st.box 2 = some (treeL t) ∧ st.env 6 = .mp 15 kvs ∧ st.env 7 = intL i ∧ st.mode = fun _ => false)
    (fun n st => ∃ (i : Nat) (q : List PStep) (kvs : List (List UInt8 × Int)),mayT t = true ∧ n + i = t.ents.length ∧ i ≤ t.ents.length ∧ i ≠ 0 ∧ q = upTo (entS t there) i ∧ MapEx t there kvs ∧ st.env 2 = .ptr 2 0 ∧ st.box 2 = some (treeL t) ∧ st.env 6 = .mp 15 kvs ∧ st.env 7 = intL i ∧ st.env 10 = .sl q.length (q.flatMap stepL) (.row 1000) ∧ st.row 1000 = some (33,q.length) ∧ st.env 11 = firstsL t ∧ st.mode = fun _ => false) rfl rfl ?_ ?_ ?_
  · intro hJ0 hJ1
    by_cases hm : mayT t = true
    rotate_left
    · have hm : mayT t = false := by simpa using hm
      rw [hm] at cm hR
      rw [if_neg (by decide)] at hR
      subst hR
      refine Yr0 ?_;intro K hK
      refine Yc0 (cm) ?_
      refine hK _ ?_;clear hK K;try refine Wh0 ?_
      refine Yt0 ?_
      refine Yg0 ?_
      refine Ye1 (fa2 @stepsL.eq_1 @rowL.eq_1) ?_;try (with_reducible exact trivial)
      (repeat' apply And.intro) <;> rfl
    rw [hm] at cm
    refine Yr0 ?_;intro K hK
    refine Yc0 (cm) ?_
    refine hK _ ?_;clear hK K;try refine Wh0 ?_
    refine Yf0 ?_
    refine Yl0 ?_
    exact hJ0.out (there.length + 1000) _ ⟨0,[],hm,by omega,by omega,fun p => by simp [mapG,exP],(Yq1 (fa2 @strsL.eq_1 @rowL.eq_1)),Yq0,(Yq1 @treeL.eq_1),Yq0,Yq0,Yq0⟩
  · rintro n st ⟨i,kvs,hm,hn,hi,hkv,e1,e2,b2,e6,e7,hmd⟩ hJ1
    have h100 : t.ents.length ≤ 100 := by
      have := hm
      unfold mayT at this
      simp only [Bool.and_eq_true,decide_eq_true_eq] at this
      exact this.1.1.1.2
    have hpos := (mayT_pos hm).2
    simp only [strsL,rowL] at e1
    simp only [treeL] at b2
    by_cases hlt : i < there.length
    rotate_left
    · have hil : i = there.length := by omega
      rw [hil,List.take_length] at hkv
      have cf := pfirsts_L t h hm
      simp only [treeL] at cf
      refine Yg1 (fa3 @e1 @e7 @hlt) ?_
      refine Yf1 @hlt ?_
      refine Yo0 ?_
      refine LW_nil (k := 10) (q := 1000) (e := 33) Yq0 ?_
      refine Yr1 (fa2 @e2 @b2) ?_;intro K hK
      refine Yc1 (cf) (fa2 @e2 @b2) ?_
      refine hK _ ?_;clear hK K;try refine Wh0 ?_
      refine Yl0 ?_
      exact hJ1.out (t.ents.length - 1) _ (by omega) ⟨1,[],kvs,hm,by omega,by omega,by omega,(entS_zero t there).symm,hkv,(Yq1 @e2),(Yq1 (fa2 @b2 @treeL.eq_1)),(Yq1 @e6),Yq0,Yq0,Yq0,(Yq1 @firstsL.eq_1),(Yq1 @hmd)⟩
    obtain ⟨p,hp⟩ := get_of_lt hlt
    have hd := drop_str hp
    have hip : (0 : Int) ≤ (i : Int) := by omega
    have hw := w64s (n := i) (by omega)
    have cf := tfind_L t h p
    simp only [treeL] at cf
    have hmem : (findT t.ents p).2 = true → ∃ k : Nat,(findT t.ents p).1 = (k : Int) ∧ k < t.nodes.length := fun hf => by
      obtain ⟨e,he,_,hn⟩ := findT_mem hf
      have := (mayT_valid hm).range e he
      exact ⟨e.node.toNat,by omega,by omega⟩
    have hdir : isDirT t p = ((findT t.ents p).2 && decide ((nodeG t.nodes (findT t.ents p).1).kind = 1)) := rfl
    generalize findT t.ents p = f at *
    obtain ⟨fn,fo⟩ := f
    simp only at cf hmem hdir
    refine Yg1 (fa3 @e1 @e7 @hlt) ?_
    refine Yt1 @hlt ?_
    refine Yn1 (fa8 @e1 @e2 @b2 @e7 @hmd @hlt @hip @hd) ?_;intro K hK
    refine Yc1 (cf) (fa8 @e1 @e2 @b2 @e7 @hmd @hlt @hip @hd) ?_
    refine hK _ ?_;clear hK K;try refine Wh0 ?_
    cases fo
    · refine Yg1 (fa2 @e2 @b2) ?_
      refine Yf0 ?_
      refine Yg1 (fa2 @e7 @hw) ?_
      refine LW_goto ?_;simp only [thenL,jumpsL,inBlockL,twoL,true_and]
      exact ⟨n - 1,by omega,i + 1,kvs,hm,by omega,by omega,hkv.keep hp (by rw [hdir];rfl),(Yq1 (fa3 @e1 @strsL.eq_1 @rowL.eq_1)),(Yq1 @e2),(Yq1 (fa2 @b2 @treeL.eq_1)),(Yq1 @e6),(Yq1 @hw),(Yq1 @hmd)⟩
    obtain ⟨k,hk,hkn⟩ := hmem rfl
    obtain ⟨nd,hnd⟩ := get_of_lt hkn
    have hG : nodeG t.nodes fn = nd := by unfold nodeG;rw [hk,Int.toNat_natCast,hnd];rfl
    have hdn := drop_node hnd
    simp only [nodeL,attrsL,acesL,piecesL,rowL,List.cons_append,List.nil_append] at hdn
    have hk0 : (0 : Int) ≤ (k : Int) := by omega
    rw [hG] at hdir
    by_cases k1 : nd.kind = 1
    · refine Yg1 (fa7 @e2 @b2 @hk @hk0 @hkn @hdn @k1) ?_
      refine Yt0 ?_
      refine Yg1 (fa6 @e1 @e6 @e7 @hlt @hip @hd) ?_
      refine LW_goto ?_;simp only [thenL,jumpsL,inBlockL,twoL,true_and]
      exact ⟨n - 1,by omega,i + 1,mapS kvs p 1,hm,by omega,by omega,hkv.add hp (by rw [hdir,decide_eq_true k1];rfl),(Yq1 (fa3 @e1 @strsL.eq_1 @rowL.eq_1)),(Yq1 @e2),(Yq1 (fa2 @b2 @treeL.eq_1)),(Yq1 @e6),(Yq1 (fa2 @e7 @hw)),(Yq1 @hmd)⟩
    · refine Yg1 (fa7 @e2 @b2 @hk @hk0 @hkn @hdn @k1) ?_
      refine Yf0 ?_
      refine Yg1 (fa2 @e7 @hw) ?_
      refine LW_goto ?_;simp only [thenL,jumpsL,inBlockL,twoL,true_and]
      exact ⟨n - 1,by omega,i + 1,kvs,hm,by omega,by omega,hkv.keep hp (by rw [hdir,decide_eq_false k1];rfl),(Yq1 (fa3 @e1 @strsL.eq_1 @rowL.eq_1)),(Yq1 @e2),(Yq1 (fa2 @b2 @treeL.eq_1)),(Yq1 @e6),(Yq1 @hw),(Yq1 @hmd)⟩
  · rintro n st ⟨i,q,kvs,hm,hn,hi,h0,hq,hkv,e2,b2,e6,e7,e10,r1000,e11,hmd⟩ hJ0
    have h100 : t.ents.length ≤ 100 := by
      have := hm
      unfold mayT at this
      simp only [Bool.and_eq_true,decide_eq_true_eq] at this
      exact this.1.1.1.2
    simp only [treeL] at b2
    simp only [firstsL] at e11
    have hql : q.length ≤ 20 * 100 := by
      rw [hq]
      have h1 := upTo_len (entS_len t h hm there) i
      have : 20 * i ≤ 20 * 100 := Nat.mul_le_mul_left _ (by omega)
      omega
    by_cases hlt : i < t.ents.length
    rotate_left
    · have hil : i = t.ents.length := by omega
      have co := pothers_O t h hm q (by omega)
      have hol := upTo_len (othS_len t) t.ents.length
      have cd := pdirs_O t h hm (q ++ upTo (othS t) t.ents.length) (by rw [List.length_append];omega)
      rw [hm,if_pos rfl] at hR
      unfold planS at hR
      rw [← hil] at hR
      rw [← hil] at co cd
      rw [← hq] at hR
      subst hR
      simp only [treeL,firstsL] at co cd
      have f1 := stepL_flen q
      have f2 := stepL_strip q
      have f3 := stepL_flen (q ++ upTo (othS t) i)
      have f4 := stepL_strip (q ++ upTo (othS t) i)
      generalize q ++ upTo (othS t) i = q2 at *
      refine Yg1 (fa4 @e2 @b2 @e7 @hlt) ?_
      refine Yf1 @hlt ?_
      (repeat (first | refine LW_seq ?_ | (refine LW_skip ?_;simp only [LSj,reduceIte,zze]) | refine LW_block ?_));refine LW_regionO [(72,⟨_,_,_,_,_,[(1000,1000)],[(2000,1000)],_,[],(co).toS,rfl,rfl,rfl⟩)] ?_;intro K hK;simp only [LZ,zo,zc,reduceCtorEq,reduceIte,zz1,zz2,zz3,zz4,zz5,zz6,zz7,zz8,zz9,zza,zzb,zzc,zzd,zze,zzf,e2,b2,e10,r1000,e11,hmd,f1,f2]
      refine hK _ ?_;clear hK K;try refine Wh0 ?_
      (repeat (first | refine LW_seq ?_ | (refine LW_skip ?_;simp only [LSj,reduceIte,zze]) | refine LW_block ?_));refine LW_regionO [(75,⟨_,_,_,_,_,[(1000,1000)],[(2000,1000)],_,[],(cd).toS,rfl,rfl,rfl⟩)] ?_;intro K hK;simp only [LZ,zo,zc,reduceCtorEq,reduceIte,zz1,zz2,zz3,zz4,zz5,zz6,zz7,zz8,zz9,zza,zzb,zzc,zzd,zze,zzf,e2,b2,hmd,f3,f4]
      refine hK _ ?_;clear hK K;try refine Wh0 ?_
      refine Ye1 (fa2 @stepsL.eq_1 @rowL.eq_1) ?_;try (with_reducible exact trivial)
    obtain ⟨e,he⟩ := get_of_lt hlt
    have hd := drop_tent he
    have hip : (0 : Int) ≤ (i : Int) := by omega
    have hw := w64s (n := i) (by omega)
    have hen := entS_at (there := there) he h0
    have hkp := hkv e.path
    have f1 := stepL_flen q
    have f2 := stepL_strip q
    have hq1 : q ++ entS t there i = upTo (entS t there) (i + 1) := by rw [hq,upTo]
    refine Yg1 (fa4 @e2 @b2 @e7 @hlt) ?_
    refine Yt1 @hlt ?_
    by_cases hx : exP t there e.path = true
    · have hg : ¬ mapG kvs e.path = 0 := fun hh => by rw [hkp.1 hh] at hx;cases hx
      rw [hen,if_pos hx,List.append_nil] at hq1
      refine Yg1 (fa8 @e2 @b2 @e6 @e7 @hlt @hip @hd @hg) ?_
      refine Yf0 ?_
      refine Yg1 (fa2 @e7 @hw) ?_
      refine LW_goto ?_;simp only [thenL,jumpsL,inBlockL,twoL,true_and]
      exact ⟨n - 1,by omega,i + 1,q,kvs,hm,by omega,by omega,by omega,hq1,hkv,(Yq1 @e2),(Yq1 (fa2 @b2 @treeL.eq_1)),(Yq1 @e6),(Yq1 @hw),(Yq1 @e10),(Yq1 @r1000),(Yq1 (fa2 @e11 @firstsL.eq_1)),(Yq1 @hmd)⟩
    · have hg : mapG kvs e.path = 0 := hkp.2 (by simpa using hx)
      rw [hen,if_neg hx] at hq1
      have cmd := pmade_O t h hm q (by omega) he
      simp only [treeL,firstsL] at cmd
      refine Yg1 (fa8 @e2 @b2 @e6 @e7 @hlt @hip @hd @hg) ?_
      refine Yt0 ?_
      (repeat (first | refine LW_seq ?_ | (refine LW_skip ?_;simp only [LSj,reduceIte,zze]) | refine LW_block ?_));refine LW_regionO [(66,⟨_,_,_,_,_,[(1000,1000)],[(2000,1000)],_,[],(cmd).toS,rfl,rfl,rfl⟩)] ?_;intro K hK;simp only [LZ,zo,zc,reduceCtorEq,reduceIte,zz1,zz2,zz3,zz4,zz5,zz6,zz7,zz8,zz9,zza,zzb,zzc,zzd,zze,zzf,e2,b2,e7,e10,r1000,e11,hmd,f1,f2]
      refine hK _ ?_;clear hK K;try refine Wh0 ?_
      refine Yg1 (fa2 @e7 @hw) ?_
      refine LW_goto ?_;simp only [thenL,jumpsL,inBlockL,twoL,true_and]
      exact ⟨n - 1,by omega,i + 1,q ++ made1 t i e,kvs,hm,by omega,by omega,by omega,hq1,hkv,(Yq1 @e2),(Yq1 (fa2 @b2 @treeL.eq_1)),(Yq1 @e6),(Yq1 @hw),Yq0,Yq0,(Yq1 (fa2 @e11 @firstsL.eq_1)),(Yq1 @hmd)⟩
set_option maxRecDepth 100000 in
theorem pcalls_L (t : FTree) (l : List PStep) : LCalls Tryd.prog 11 [.agg (treeL t),stepsL l] (intL l.length) := by
  refine LCalls.of (fun _ => false) Tryd.func11 rfl (by decide) Tryd.ntmps11 Tryd.results11 (by simp) ?_
  intro w0 S0 vs hgl hwf0 hsz hvs;clear hsz hvs hwf0 hgl
  refine Yg1 (fa3 @treeL.eq_1 @stepsL.eq_1 @rowL.eq_1) ?_
  refine Ye0 ?_;try (with_reducible exact trivial)
end Go.Proofs.YtbffcndmcaeamaaDoor
end
