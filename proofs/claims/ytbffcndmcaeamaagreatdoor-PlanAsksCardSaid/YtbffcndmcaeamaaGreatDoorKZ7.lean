import Derived.Test.YtbffcndmcaeamaaGreatDoorKZ5
import Derived.Test.YtbffcndmcaeamaaGreatDoorL26
section
set_option linter.unusedSimpArgs false
set_option linter.unusedVariables false
namespace Go.Proofs.YtbffcndmcaeamaaGreatDoor
open Go.RowKit Go.Proofs AclSpec MetaSpec NodeSpec PathSpec TreeSpec PlanSpec

set_option maxRecDepth 100000 in
theorem rin_L (l : List (List UInt8)) (s : List UInt8) (hl : l.length ≤ 1000000) : LCalls Tryz.prog 21 [strsL l,strL s] (boolL (decide (s ∈ l))) := by
  refine LCalls.of (fun _ => false) Tryz.func21 rfl (by decide) Tryz.ntmps21 Tryz.results21 (by simp) ?_
  intro w0 S0 vs hgl hwf0 hsz hvs;clear hsz hvs hwf0 hgl
  generalize hR : decide (s ∈ l) = R
  refine Yg1 (fa2 @strsL.eq_1 @rowL.eq_1) ?_
  refine LW_joinB (fun st => s ∉ l) ?_ ?_
  · refine LW_loop (fun n st => ∃ i : Nat,n + i = l.length ∧ st.env 0 = strsL l ∧ st.env 1 = strL s ∧ st.env 5 = intL i ∧ s ∉ l.take i) l.length ⟨0,by omega,(Yq1 (fa2 @strsL.eq_1 @rowL.eq_1)),Yq0,Yq0,by simp⟩ ?_
    rintro n st ⟨i,hn,e0,e1,e5,hni⟩
    simp only [strsL,rowL] at e0
    by_cases hlt : i < l.length
    rotate_left
    · refine Yg1 (fa3 @e0 @e5 @hlt) ?_
      refine Yf1 @hlt ?_
      refine LW_exit ?_;simp only [thenL,jumpsL,inBlockL,twoL,reduceIte,Nat.reduceEqDiff]
      rw [List.take_of_length_le (by omega)] at hni
      exact hni
    obtain ⟨p,hp⟩ := get_of_lt hlt
    have hd := drop_str hp
    have hip : (0 : Int) ≤ (i : Int) := by omega
    have hw := w64s (n := i) (by omega)
    refine Yg1 (fa3 @e0 @e5 @hlt) ?_
    refine Yt1 @hlt ?_
    by_cases hps : p = s
    · refine Yg1 (fa7 @e0 @e1 @e5 @hlt @hip @hd @hps) ?_
      refine Yt0 ?_
      refine Yg0 ?_
      refine Ye0 ?_;try (with_reducible exact trivial)
      rw [← hR,← hps];exact (decide_eq_true (List.mem_of_getElem? hp)).symm
    · refine Yg1 (fa7 @e0 @e1 @e5 @hlt @hip @hd @hps) ?_
      refine Yf0 ?_
      refine Yg1 (fa2 @e5 @hw) ?_
      refine ⟨n - 1,by omega,i + 1,by omega,(Yq1 (fa3 @e0 @strsL.eq_1 @rowL.eq_1)),(Yq1 @e1),Yq0,?_⟩
      obtain ⟨hi,rfl⟩ := List.getElem?_eq_some_iff.1 hp
      rw [List.take_succ_eq_append_getElem hi]
      simp only [List.mem_append,List.mem_singleton,not_or]
      exact ⟨hni,fun e => hps e.symm⟩
  · intro st hn
    refine Yg0 ?_
    refine Ye0 ?_;try (with_reducible exact trivial)
    rw [← hR];exact (decide_eq_false hn).symm
theorem leadP_drop {l : List TEnt} {i : Nat} {e : TEnt} (h : l[i]? = some e) (k : Int) : leadP (l.drop i) k = if e.node = k then e.path else leadP (l.drop (i + 1)) k := by
  obtain ⟨hi,rfl⟩ := List.getElem?_eq_some_iff.1 h
  rw [List.drop_eq_getElem_cons hi,leadP]
set_option maxRecDepth 100000 in
theorem rlead_L (t : FTree) (h : SmallT t) (k : Int) : LCalls Tryz.prog 19 [.agg (treeL t),intL k] (strL (leadP t.ents k)) := by
  have hll := h.ents
  refine LCalls.of (fun _ => false) Tryz.func19 rfl (by decide) Tryz.ntmps19 Tryz.results19 (by simp) ?_
  intro w0 S0 vs hgl hwf0 hsz hvs;clear hsz hvs hwf0 hgl
  generalize hR : leadP t.ents k = R
  refine Yg1 @treeL.eq_1 ?_
  refine LW_joinB (fun st => [] = R) ?_ ?_
  · refine LW_loop (fun n st => ∃ i : Nat,n + i = t.ents.length ∧ st.env 1 = intL k ∧ st.env 2 = .ptr 2 0 ∧ st.box 2 = some (treeL t) ∧ st.env 5 = intL i ∧ leadP (t.ents.drop i) k = R) t.ents.length ⟨0,by omega,Yq0,Yq0,(Yq1 @treeL.eq_1),Yq0,hR⟩ ?_
    rintro n st ⟨i,hn,e1,e2,b2,e5,hr⟩
    simp only [treeL] at b2
    by_cases hlt : i < t.ents.length
    rotate_left
    · rw [List.drop_of_length_le (by omega),leadP] at hr
      refine Yg1 (fa4 @e2 @b2 @e5 @hlt) ?_
      refine Yf1 @hlt ?_
      refine LW_exit ?_;simp only [thenL,jumpsL,inBlockL,twoL,reduceIte,Nat.reduceEqDiff]
      exact hr
    obtain ⟨e,he⟩ := get_of_lt hlt
    have hd := drop_tent he
    have hip : (0 : Int) ≤ (i : Int) := by omega
    have hw := w64s (n := i) (by omega)
    rw [leadP_drop he] at hr
    refine Yg1 (fa4 @e2 @b2 @e5 @hlt) ?_
    refine Yt1 @hlt ?_
    by_cases hk : e.node = k
    · rw [if_pos hk] at hr
      refine Yg1 (fa8 @e1 @e2 @b2 @e5 @hlt @hip @hd @hk) ?_
      refine Yt0 ?_
      refine Yg1 (fa6 @e2 @b2 @e5 @hlt @hip @hd) ?_
      refine Ye0 ?_;try (with_reducible exact trivial)
      rw [hr]
    · rw [if_neg hk] at hr
      refine Yg1 (fa8 @e1 @e2 @b2 @e5 @hlt @hip @hd @hk) ?_
      refine Yf0 ?_
      refine Yg1 (fa2 @e5 @hw) ?_
      exact ⟨n - 1,by omega,i + 1,by omega,(Yq1 @e1),(Yq1 @e2),(Yq1 (fa2 @b2 @treeL.eq_1)),Yq0,hr⟩
  · intro st hn
    refine Yg0 ?_
    refine Ye0 ?_;try (with_reducible exact trivial)
    rw [← hn]
set_option maxRecDepth 100000 in
theorem rfive_L (p : List UInt8) : LCalls Tryz.prog 22 [strL p] (stepsL (last5 p)) := by
  refine LCalls.of (fun _ => false) Tryz.func22 rfl (by decide) Tryz.ntmps22 Tryz.results22 (by simp) ?_
  intro w0 S0 vs hgl hwf0 hsz hvs;clear hsz hvs hwf0 hgl
  refine Yg0 ?_
  refine Ye1 (fa2 @stepsL.eq_1 @rowL.eq_1) ?_;try (with_reducible exact trivial)
  (repeat' apply And.intro) <;> rfl
end Go.Proofs.YtbffcndmcaeamaaGreatDoor
end
section
set_option linter.unusedSimpArgs false
set_option linter.unusedVariables false
namespace Go.Proofs.YtbffcndmcaeamaaGreatDoor
open Nat renaming reduceAdd → zz1,reduceMul → zz2,reduceSub → zz3,reduceLT → zz4,reduceLeDiff → zz5,reduceEqDiff → zz6,reduceBEq → zzf
open Int renaming reduceAdd → zz7,reduceSub → zz8,reduceMul → zz9,reduceLT → zza,reduceLE → zzb,reduceEq → zzc,reduceNeg → zzd,reduceToNat → zze
open Op renaming operands → zo
open Call renaming operands → zc
open Go.RowKit Go.Proofs AclSpec MetaSpec NodeSpec PathSpec TreeSpec PlanSpec

theorem entR_at {t : FTree} {there : List (List UInt8)} {i : Nat} {e : TEnt} (he : t.ents[i]? = some e) : entR t there i = if (nodeG t.nodes e.node).kind = 1 then (if e.path ≠ [] ∧ e.path ∉ there then [⟨1,e.path,[],0⟩] else [])
    else if leadP t.ents e.node ≠ e.path then [⟨5,e.path,leadP t.ents e.node,0⟩] else fileS e.path (nodeG t.nodes e.node) := by
  unfold entR;rw [he]
theorem lateR_at {t : FTree} {i : Nat} {e : TEnt} (he : t.ents[i]? = some e) : lateR t i = if (nodeG t.nodes e.node).kind = 1 then [] else if leadP t.ents e.node ≠ e.path then [] else last5 e.path := by
  unfold lateR;rw [he]
theorem last5_len (p : List UInt8) : (last5 p).length = 5 := rfl
abbrev PlB (t : FTree) (there : List (List UInt8)) (q la : List PStep) (i : Nat) (d : Int) (st : LSt) : Prop := st.env 1 = strsL there ∧ st.env 2 = .ptr 2 0 ∧ st.box 2 = some (treeL t) ∧ st.env 6 = .sl q.length (q.flatMap stepL) (.row 1000) ∧ st.row 1000 = some (47,q.length) ∧ st.env 7 = .sl la.length (la.flatMap stepL) (.row 1001) ∧ st.row 1001 = some (47,la.length) ∧ st.env 8 = intL d ∧ st.env 9 = intL i ∧ st.mode = fun _ => false
set_option maxRecDepth 100000 in
set_option maxHeartbeats 16000000 in
theorem rplan_L (t : FTree) (h : SmallT t) (there : List (List UInt8)) (hth : there.length ≤ 1000000) : LCalls Tryz.prog 7 [.agg (treeL t),strsL there] (.tup [stepsL (planR t there).1,intL (planR t there).2]) := by
  have hll := h.ents
  have hln := h.nodes
  have cm := rmayTree_L t h
  rw [may_eq] at cm
  simp only [treeL] at cm
  refine LCalls.of (fun _ => false) Tryz.func7 rfl (by decide) Tryz.ntmps7 Tryz.results7 (by simp) ?_
  intro w0 S0 vs hgl hwf0 hsz hvs;clear hsz hvs hwf0 hgl
  generalize hR : planR t there = R
  unfold planR at hR
  refine Yg1 @treeL.eq_1 ?_
  by_cases hm : mayT t = true
  rotate_left
  · have hm : mayT t = false := by simpa using hm
    rw [hm] at cm hR
    rw [if_neg (by decide)] at hR
    subst hR
    refine Yr0 ?_;intro K hK
    refine Yc0 (cm) ?_
    refine hK _ ?_;clear hK K;try refine Wh0 ?_
    refine Yt0 ?_
    refine Yg0 ?_
    refine Ye1 (fa2 @stepsL.eq_1 @rowL.eq_1) ?_;try (with_reducible exact trivial)
    (repeat' apply And.intro) <;> rfl
  rw [hm] at cm
  rw [if_pos hm] at hR
  have h100 : t.ents.length ≤ 100 := by
    have := hm
    unfold mayT at this
    simp only [Bool.and_eq_true,decide_eq_true_eq] at this
    exact this.1.1.1.2
  have hrange := (mayT_valid hm).range
  refine Yr0 ?_;intro K hK
  refine Yc0 (cm) ?_
  refine hK _ ?_;clear hK K;try refine Wh0 ?_
  refine Yf0 ?_
  refine Yo0 ?_
  refine LW_nil (k := 6) (q := 1000) (e := 47) Yq0 ?_
  refine LW_nil (k := 7) (q := 1001) (e := 47) Yq0 ?_
  refine Yg0 ?_
  refine LW_joinB (fun st => ∃ q la,q = upTo (entR t there) t.ents.length ∧ la = upTo (lateR t) t.ents.length ∧ q.length ≤ 2100 ∧ la.length ≤ 500 ∧ PlB t there q la t.ents.length (deepR t t.ents.length) st) ?_ ?_
  · refine LW_loop (fun n st => ∃ (i : Nat) (q la : List PStep),n + i = t.ents.length ∧ q = upTo (entR t there) i ∧ la = upTo (lateR t) i ∧ q.length ≤ 20 * i ∧ la.length ≤ 5 * i ∧ PlB t there q la i (deepR t i) st) t.ents.length ⟨0,[],[],by omega,rfl,rfl,by simp,by simp,(Yq1 (fa2 @strsL.eq_1 @rowL.eq_1)),Yq0,(Yq1 @treeL.eq_1),Yq0,Yq0,Yq0,Yq0,Yq0,Yq0,Yq0⟩ ?_
    rintro n st ⟨i,q,la,hn,hq,hla,hql,hlal,e1,e2,b2,e6,r1000,e7,r1001,e8,e9,hmd⟩
    simp only [treeL] at b2
    simp only [strsL,rowL] at e1
    by_cases hlt : i < t.ents.length
    rotate_left
    · have hil : i = t.ents.length := by omega
      refine Yg1 (fa4 @e2 @b2 @e9 @hlt) ?_
      refine Yf1 @hlt ?_
      refine LW_exit ?_;simp only [thenL,jumpsL,inBlockL,twoL,reduceIte,Nat.reduceEqDiff]
      rw [hil] at hq hla e8 e9
      exact ⟨q,la,hq,hla,by omega,by omega,(Yq1 (fa3 @e1 @strsL.eq_1 @rowL.eq_1)),(Yq1 @e2),(Yq1 (fa2 @b2 @treeL.eq_1)),(Yq1 @e6),(Yq1 @r1000),(Yq1 @e7),(Yq1 @r1001),(Yq1 @e8),(Yq1 @e9),(Yq1 @hmd)⟩
    obtain ⟨e,he⟩ := get_of_lt hlt
    have hem := List.mem_of_getElem? he
    have hr := hrange e hem
    obtain ⟨c,hc⟩ : ∃ c : Nat,e.node = (c : Int) := ⟨e.node.toNat,by omega⟩
    have hcn : c < t.nodes.length := by omega
    have hip : (0 : Int) ≤ (i : Int) := by omega
    have hc0 : (0 : Int) ≤ (c : Int) := by omega
    obtain ⟨nd,hnd⟩ := get_of_lt hcn
    have hG : nodeG t.nodes e.node = nd := by unfold nodeG;rw [hc,Int.toNat_natCast,hnd];rfl
    have hsn := (h.node nd (List.mem_of_getElem? hnd)).1
    have hmn : mayN nd = true := (mayT_num hm).may nd (List.mem_of_getElem? hnd)
    have hd := drop_tent he
    have hdn := drop_node hnd
    simp only [nodeL,attrsL,acesL,piecesL,rowL,List.cons_append,List.nil_append] at hdn
    rw [hc] at hd
    have hw := w64s (n := i) (by omega)
    have cl := rlead_L t h (c : Int)
    simp only [treeL] at cl
    have cd := rdepth_L e.path (h.path e hem)
    have ci := rin_L there e.path hth
    have c5 := rfive_L e.path
    simp only [strsL,rowL] at ci
    simp only [stepsL,rowL,last5_len] at c5
    have hen := entR_at (there := there) he
    have hlate := lateR_at he
    rw [hG,hc] at hen hlate
    have hdeep := deepR_succ he
    have hq1 : upTo (entR t there) (i + 1) = q ++ entR t there i := by rw [hq,upTo]
    have hla1 : upTo (lateR t) (i + 1) = la ++ lateR t i := by rw [hla,upTo]
    rw [hen] at hq1
    rw [hlate] at hla1
    clear hen hlate
    generalize leadP t.ents (c : Int) = ld at *
    generalize deepR t i = dp at *
    generalize hdq : depthB e.path = de at *
    have hf1 := stepL_flen q
    have hf2 := stepL_flen la
    have hf3 : ((last5 e.path).flatMap stepL).length = 20 := by rw [stepL_flen];rfl
    have hst := stepL_strip (last5 e.path)
    have hone := stepL_one (last5 e.path)
    refine Yg1 (fa4 @e2 @b2 @e9 @hlt) ?_
    refine Yt1 @hlt ?_
    refine LW_skip ?_
    simp only [LSj,reduceIte,zze]
    (repeat refine LW_seq ?_)
    refine LW_block ?_
    refine LW_joinB (fun st => ∃ q la,q = upTo (entR t there) (i + 1) ∧ la = upTo (lateR t) (i + 1) ∧ q.length ≤ 20 * (i + 1) ∧ la.length ≤ 5 * (i + 1) ∧ PlB t there q la i (if dp < de then de else dp) st) ?_ ?_
    rotate_left
    · clear e1 e2 b2 e6 r1000 e7 r1001 e8 e9 hmd st
      rintro st ⟨q,la,hq,hla,hql,hlal,e1,e2,b2,e6,r1000,e7,r1001,e8,e9,hmd⟩
      refine Yg1 (fa2 @e9 @hw) ?_
      exact ⟨n - 1,by omega,i + 1,q,la,by omega,hq,hla,hql,hlal,(Yq1 @e1),(Yq1 @e2),(Yq1 @b2),(Yq1 @e6),(Yq1 @r1000),(Yq1 @e7),(Yq1 @r1001),by rw [hdeep];exact (Yq1 @e8),Yq0,(Yq1 @hmd)⟩
    refine Yo1 (fa6 @e2 @b2 @e9 @hlt @hip @hd) ?_
    (repeat (first | refine LW_seq ?_ | (refine LW_skip ?_;simp only [LSj,reduceIte,zze]) | refine LW_block ?_));refine LW_mix2 [] [] (fun _ => false) [(0,[2]),(1,[2]),(2,[2]),(3,[2]),(4,[2]),(5,[2]),(6,[2]),(7,[2]),(8,[2]),(9,[2]),(10,[2]),(11,[2])] [0,1,2,3,4,5,6,7,8,9] [[10,11]] rfl (by kernel_rfl) (by kernel_rfl) (by kernel_rfl) (by first | exact rfl | exact hmd | simp only [LZ,zo,zc,reduceCtorEq,reduceIte,zz1,zz2,zz3,zz4,zz5,zz6,zz7,zz8,zz9,zza,zzb,zzc,zzd,zze,zzf,e2,b2,e9,hmd,hlt,hip,hd,hc0,hcn,hdn]) ?_;intro K hK;simp only [LZ,zo,zc,reduceCtorEq,reduceIte,zz1,zz2,zz3,zz4,zz5,zz6,zz7,zz8,zz9,zza,zzb,zzc,zzd,zze,zzf,e2,b2,e9,hmd,hlt,hip,hd,hc0,hcn,hdn]
    refine hK _ ?_;clear hK K;try refine Wh0 ?_
    refine LW_slim (fun st => PlB t there q la i dp st ∧ st.env 10 = strL e.path ∧ st.env 11 = .ptr 11 0 ∧ st.box 11 = some (nodeL nd)) ⟨⟨(Yq1 (fa3 @e1 @strsL.eq_1 @rowL.eq_1)),(Yq1 @e2),(Yq1 (fa2 @b2 @treeL.eq_1)),(Yq1 @e6),(Yq1 @r1000),(Yq1 @e7),(Yq1 @r1001),(Yq1 @e8),(Yq1 @e9),(Yq1 @hmd)⟩,Yq0,Yq0,(Yq1 (fa5 @nodeL.eq_1 @attrsL.eq_1 @acesL.eq_1 @piecesL.eq_1 @rowL.eq_1))⟩ ?_
    clear e1 e2 b2 e6 r1000 e7 r1001 e8 e9 hmd st
    rintro st ⟨⟨e1,e2,b2,e6,r1000,e7,r1001,e8,e9,hmd⟩,e10,e11,b11⟩
    simp only [treeL] at b2
    simp only [strsL,rowL] at e1
    simp only [nodeL,attrsL,acesL,piecesL,rowL] at b11
    refine Yn1 (fa7 @e2 @b2 @e9 @hmd @hlt @hip @hd) ?_;intro K hK
    refine Yc1 (cl) (fa7 @e2 @b2 @e9 @hmd @hlt @hip @hd) ?_
    refine hK _ ?_;clear hK K;try refine Wh0 ?_
    refine Yr1 (fa2 @e8 @e10) ?_;intro K hK
    refine Yc1 (cd) (fa2 @e8 @e10) ?_
    refine hK _ ?_;clear hK K;try refine Wh0 ?_
    generalize hdm : (if dp < de then de else dp) = dm
    refine LW_slim (fun st => PlB t there q la i dm st ∧ st.env 10 = strL e.path ∧ st.env 11 = .ptr 11 0 ∧ st.box 11 = some (nodeL nd) ∧ st.env 12 = strL ld) ⟨⟨(Yq1 (fa3 @e1 @strsL.eq_1 @rowL.eq_1)),(Yq1 @e2),(Yq1 (fa2 @b2 @treeL.eq_1)),(Yq1 @e6),(Yq1 @r1000),(Yq1 @e7),(Yq1 @r1001),(Yq1 @hdm),(Yq1 @e9),(Yq1 @hmd)⟩,(Yq1 @e10),(Yq1 @e11),(Yq1 (fa6 @b11 @nodeL.eq_1 @attrsL.eq_1 @acesL.eq_1 @piecesL.eq_1 @rowL.eq_1)),Yq0⟩ ?_
    clear e1 e2 b2 e6 r1000 e7 r1001 e8 e9 hmd e10 e11 b11 st
    rintro st ⟨⟨e1,e2,b2,e6,r1000,e7,r1001,e8,e9,hmd⟩,e10,e11,b11,e12⟩
    simp only [treeL] at b2
    simp only [strsL,rowL] at e1
    simp only [nodeL,attrsL,acesL,piecesL,rowL] at b11
    by_cases k1 : nd.kind = 1
    · rw [if_pos k1] at hq1 hla1
      rw [List.append_nil] at hla1
      refine Yg1 (fa3 @e11 @b11 @k1) ?_
      refine Yt0 ?_
      by_cases hp : e.path = []
      · rw [if_neg (fun hx => hx.1 hp),List.append_nil] at hq1
        have hp2 : (e.path.toArray : Array UInt8) = #[] := by rw [hp]
        refine Yg1 (fa3 @e1 @e10 @hp) ?_
        refine Yf0 ?_
        refine Yg0 ?_
        refine LW_exit ?_;simp only [thenL,jumpsL,inBlockL,twoL,reduceIte,Nat.reduceEqDiff]
        exact ⟨q,la,hq1.symm,hla1.symm,by omega,by omega,(Yq1 (fa3 @e1 @strsL.eq_1 @rowL.eq_1)),(Yq1 @e2),(Yq1 (fa2 @b2 @treeL.eq_1)),(Yq1 @e6),(Yq1 @r1000),(Yq1 @e7),(Yq1 @r1001),(Yq1 @e8),(Yq1 @e9),(Yq1 @hmd)⟩
      refine Yr1 (fa3 @e1 @e10 @hp) ?_;intro K hK
      refine Yc1 (ci) (fa3 @e1 @e10 @hp) ?_
      refine hK _ ?_;clear hK K;try refine Wh0 ?_
      by_cases hin : e.path ∈ there
      · rw [if_neg (fun hx => hx.2 hin),List.append_nil] at hq1
        refine Yf1 @hin ?_
        refine Yg0 ?_
        refine LW_exit ?_;simp only [thenL,jumpsL,inBlockL,twoL,reduceIte,Nat.reduceEqDiff]
        exact ⟨q,la,hq1.symm,hla1.symm,by omega,by omega,(Yq1 (fa3 @e1 @strsL.eq_1 @rowL.eq_1)),(Yq1 @e2),(Yq1 (fa2 @b2 @treeL.eq_1)),(Yq1 @e6),(Yq1 @r1000),(Yq1 @e7),(Yq1 @r1001),(Yq1 @e8),(Yq1 @e9),(Yq1 @hmd)⟩
      rw [if_pos ⟨hp,hin⟩] at hq1
      obtain ⟨s1,s2⟩ := step_snoc q ⟨1,e.path,[],0⟩
      simp only [stepL] at s1
      refine Yt1 @hin ?_
      refine Yr1 (fa5 @e6 @r1000 @e10 @hmd @hf1) ?_;intro K hK
      refine ⟨by (repeat' apply And.intro) <;> first | omega | (unfold maxLen;omega) | (intro _;omega) | decide,?_⟩
      refine hK _ ?_;clear hK K;try refine Wh0 ?_
      refine Yg0 ?_
      refine LW_exit ?_;simp only [thenL,jumpsL,inBlockL,twoL,reduceIte,Nat.reduceEqDiff]
      exact ⟨q ++ [⟨1,e.path,[],0⟩],la,hq1.symm,hla1.symm,by rw [s2];omega,by omega,(Yq1 (fa3 @e1 @strsL.eq_1 @rowL.eq_1)),(Yq1 @e2),(Yq1 (fa2 @b2 @treeL.eq_1)),by rw [s1,s2];exact Yq0,by rw [s2];exact Yq0,(Yq1 @e7),(Yq1 @r1001),(Yq1 @e8),(Yq1 @e9),(Yq1 @hmd)⟩
    rw [if_neg k1] at hq1 hla1
    refine Yg1 (fa3 @e11 @b11 @k1) ?_
    refine Yf0 ?_
    by_cases hl : ld = e.path
    rotate_left
    · rw [if_pos hl] at hq1 hla1
      rw [List.append_nil] at hla1
      obtain ⟨s1,s2⟩ := step_snoc q ⟨5,e.path,ld,0⟩
      simp only [stepL] at s1
      refine Yg1 (fa3 @e10 @e12 @hl) ?_
      refine Yt0 ?_
      refine Yr1 (fa6 @e6 @r1000 @e10 @e12 @hmd @hf1) ?_;intro K hK
      refine ⟨by (repeat' apply And.intro) <;> first | omega | (unfold maxLen;omega) | (intro _;omega) | decide,?_⟩
      refine hK _ ?_;clear hK K;try refine Wh0 ?_
      refine Yg0 ?_
      refine LW_exit ?_;simp only [thenL,jumpsL,inBlockL,twoL,reduceIte,Nat.reduceEqDiff]
      exact ⟨q ++ [⟨5,e.path,ld,0⟩],la,hq1.symm,hla1.symm,by rw [s2];omega,by omega,(Yq1 (fa3 @e1 @strsL.eq_1 @rowL.eq_1)),(Yq1 @e2),(Yq1 (fa2 @b2 @treeL.eq_1)),by rw [s1,s2];exact Yq0,by rw [s2];exact Yq0,(Yq1 @e7),(Yq1 @r1001),(Yq1 @e8),(Yq1 @e9),(Yq1 @hmd)⟩
    rw [if_neg (fun hx => hx hl)] at hq1 hla1
    unfold fileS at hq1
    obtain ⟨s1,s2⟩ := step_snoc q ⟨2,e.path,[],0⟩
    simp only [stepL] at s1
    have l1 : (la ++ last5 e.path).flatMap stepL = la.flatMap stepL ++ (last5 e.path).flatMap stepL := List.flatMap_append
    have l2 : (la ++ last5 e.path).length = la.length + 5 := by rw [List.length_append,last5_len]
    refine Yg1 (fa3 @e10 @e12 @hl) ?_
    refine Yf0 ?_
    refine Yg0 ?_
    refine Yr1 (fa5 @e6 @r1000 @e10 @hmd @hf1) ?_;intro K hK
    refine ⟨by (repeat' apply And.intro) <;> first | omega | (unfold maxLen;omega) | (intro _;omega) | decide,?_⟩
    refine hK _ ?_;clear hK K;try refine Wh0 ?_
    refine Yr1 (fa5 @e7 @r1001 @e10 @hmd @hf2) ?_;intro K hK
    refine Yc1 (c5) (fa8 @e7 @r1001 @e10 @hmd @hf2 @hf3 @hst @hone) ?_
    refine ⟨by (repeat' apply And.intro) <;> first | omega | (unfold maxLen;omega) | (intro _;omega) | decide,?_⟩
    refine hK _ ?_;clear hK K;try refine Wh0 ?_
    refine LW_slim (fun st => PlB t there (q ++ [⟨2,e.path,[],0⟩]) (la ++ last5 e.path) i dm st ∧ st.env 10 = strL e.path ∧ st.env 11 = .ptr 11 0 ∧ st.box 11 = some (nodeL nd)) ⟨⟨(Yq1 (fa3 @e1 @strsL.eq_1 @rowL.eq_1)),(Yq1 @e2),(Yq1 (fa2 @b2 @treeL.eq_1)),by rw [s1,s2];exact Yq0,by rw [s2];exact Yq0,by rw [l1,l2];exact Yq0,by rw [l2];exact Yq0,(Yq1 @e8),(Yq1 @e9),(Yq1 @hmd)⟩,(Yq1 @e10),(Yq1 @e11),(Yq1 (fa6 @b11 @nodeL.eq_1 @attrsL.eq_1 @acesL.eq_1 @piecesL.eq_1 @rowL.eq_1))⟩ ?_
    clear e1 e2 b2 e6 r1000 e7 r1001 e8 e9 hmd e10 e11 b11 e12 st
    rintro st ⟨⟨e1,e2,b2,e6,r1000,e7,r1001,e8,e9,hmd⟩,e10,e11,b11⟩
    simp only [nodeL,attrsL,acesL,piecesL,rowL] at b11
    by_cases k2 : nd.kind = 2
    rotate_left
    · rw [if_neg k2] at hq1
      refine Yg1 (fa3 @e11 @b11 @k2) ?_
      refine Yt0 ?_
      refine Yg0 ?_
      refine LW_exit ?_;simp only [thenL,jumpsL,inBlockL,twoL,reduceIte,Nat.reduceEqDiff]
      exact ⟨_,_,hq1.symm,hla1.symm,by rw [s2];omega,by rw [l2];omega,(Yq1 @e1),(Yq1 @e2),(Yq1 @b2),(Yq1 @e6),(Yq1 @r1000),(Yq1 @e7),(Yq1 @r1001),(Yq1 @e8),(Yq1 @e9),(Yq1 @hmd)⟩
    rw [if_pos k2] at hq1
    have hd16 : nd.dat.length ≤ 16 := by
      have hf : isFileN nd = true := by unfold isFileN;simp [k2,hmn]
      exact (isFile_ok hf).2.2.2.1
    refine Yg1 (fa3 @e11 @b11 @k2) ?_
    refine Yf0 ?_
    refine Yg0 ?_
    refine LW_joinB (fun st => ∃ q',q' = (q ++ [⟨2,e.path,[],0⟩]) ++ writesP e.path nd.dat.length ∧ PlB t there q' (la ++ last5 e.path) i dm st ∧ st.env 10 = strL e.path ∧ st.env 11 = .ptr 11 0 ∧ st.box 11 = some (nodeL nd) ∧ st.env 13 = .lit (.int .i64 (endP nd.dat))) ?_ ?_
    · refine LW_loop (fun n st => ∃ (j : Nat) (q' : List PStep),n + j = nd.dat.length ∧ q' = (q ++ [⟨2,e.path,[],0⟩]) ++ writesP e.path j ∧ PlB t there q' (la ++ last5 e.path) i dm st ∧ st.env 10 = strL e.path ∧ st.env 11 = .ptr 11 0 ∧ st.box 11 = some (nodeL nd) ∧ st.env 13 = .lit (.int .i64 (endP (nd.dat.take j))) ∧ st.env 14 = intL j) nd.dat.length ⟨0,q ++ [⟨2,e.path,[],0⟩],by omega,by simp [writesP],⟨(Yq1 @e1),(Yq1 @e2),(Yq1 @b2),(Yq1 @e6),(Yq1 @r1000),(Yq1 @e7),(Yq1 @r1001),(Yq1 @e8),(Yq1 @e9),(Yq1 @hmd)⟩,(Yq1 @e10),(Yq1 @e11),(Yq1 (fa6 @b11 @nodeL.eq_1 @attrsL.eq_1 @acesL.eq_1 @piecesL.eq_1 @rowL.eq_1)),Yq0,Yq0⟩ ?_
      clear e1 e2 b2 e6 r1000 e7 r1001 e8 e9 hmd e10 e11 b11 st
      rintro m st ⟨j,q',hm',hq',⟨e1,e2,b2,e6,r1000,e7,r1001,e8,e9,hmd⟩,e10,e11,b11,e13,e14⟩
      simp only [nodeL,attrsL,acesL,piecesL,rowL] at b11
      have hfq := stepL_flen q'
      have hql' : q'.length = q.length + 1 + j := by rw [hq'];simp [writesP];omega
      by_cases hjt : j < nd.dat.length
      rotate_left
      · have hjl : j = nd.dat.length := by omega
        rw [hjl,List.take_length] at e13
        rw [hjl] at hq'
        refine Yg1 (fa4 @e11 @b11 @e14 @hjt) ?_
        refine Yf1 @hjt ?_
        refine LW_exit ?_;simp only [thenL,jumpsL,inBlockL,twoL,reduceIte,Nat.reduceEqDiff]
        exact ⟨q',hq',⟨(Yq1 @e1),(Yq1 @e2),(Yq1 @b2),(Yq1 @e6),(Yq1 @r1000),(Yq1 @e7),(Yq1 @r1001),(Yq1 @e8),(Yq1 @e9),(Yq1 @hmd)⟩,(Yq1 @e10),(Yq1 @e11),(Yq1 (fa6 @b11 @nodeL.eq_1 @attrsL.eq_1 @acesL.eq_1 @piecesL.eq_1 @rowL.eq_1)),(Yq1 @e13)⟩
      obtain ⟨p,hp⟩ := get_of_lt hjt
      have hdp := drop_piece hp
      have hj0 : (0 : Int) ≤ (j : Int) := by omega
      have hwj := w64s (n := j) (by omega)
      obtain ⟨hpe1,hpe2⟩ := piece_end hmn k2 hsn (List.mem_of_getElem? hp)
      have hend := endP_take hp
      have hdp1 : (nd.dat.flatMap pieceL).drop (j * 2 + 1) = strL p.dat :: (nd.dat.drop (j + 1)).flatMap pieceL := by
        have hd := congrArg (List.drop 1) hdp
        rw [List.drop_drop] at hd
        exact hd
      obtain ⟨t1,t2⟩ := step_snoc q' ⟨3,e.path,[],(j : Int)⟩
      simp only [stepL] at t1
      have hq2 : q' ++ [⟨3,e.path,[],(j : Int)⟩] = (q ++ [⟨2,e.path,[],0⟩]) ++ writesP e.path (j + 1) := by rw [writesP_succ,hq'];simp only [List.append_assoc]
      refine Yg1 (fa4 @e11 @b11 @e14 @hjt) ?_
      refine Yt1 @hjt ?_
      refine Yo0 ?_
      refine Yr1 (fa6 @e6 @r1000 @e10 @e14 @hmd @hfq) ?_;intro K hK
      refine ⟨by (repeat' apply And.intro) <;> first | omega | (unfold maxLen;omega) | (intro _;omega) | decide,?_⟩
      refine hK _ ?_;clear hK K;try refine Wh0 ?_
      refine Yn1 (fa9 @e11 @b11 @e14 @hmd @hjt @hj0 @hdp @hdp1 @hpe1) ?_;intro K hK
      refine hK _ ?_;clear hK K;try refine Wh0 ?_
      refine Yg1 (fa2 @e14 @hwj) ?_
      exact ⟨m - 1,by omega,j + 1,_,by omega,hq2,⟨(Yq1 @e1),(Yq1 @e2),(Yq1 @b2),by rw [t1,t2];exact Yq0,by rw [t2];exact Yq0,(Yq1 @e7),(Yq1 @r1001),(Yq1 @e8),(Yq1 @e9),(Yq1 @hmd)⟩,(Yq1 @e10),(Yq1 @e11),(Yq1 (fa6 @b11 @nodeL.eq_1 @attrsL.eq_1 @acesL.eq_1 @piecesL.eq_1 @rowL.eq_1)),by rw [hend];exact Yq0,Yq0⟩
    clear e1 e2 b2 e6 r1000 e7 r1001 e8 e9 hmd e10 e11 b11 st
    rintro st ⟨q',hq',⟨e1,e2,b2,e6,r1000,e7,r1001,e8,e9,hmd⟩,e10,e11,b11,e13⟩
    simp only [nodeL,attrsL,acesL,piecesL,rowL] at b11
    have hfq := stepL_flen q'
    have hql' : q'.length = q.length + 1 + nd.dat.length := by rw [hq'];simp [writesP];omega
    by_cases hsz : nd.size = endP nd.dat
    · rw [if_pos hsz,List.append_nil] at hq1
      have hqR : q' = upTo (entR t there) (i + 1) := by rw [hq',hq1];(try simp only [List.append_assoc,List.cons_append,List.nil_append])
      refine Yg1 (fa4 @e11 @b11 @e13 @hsz) ?_
      refine Yf0 ?_
      refine Yg0 ?_
      exact ⟨q',_,hqR,hla1.symm,by omega,by rw [l2];omega,(Yq1 @e1),(Yq1 @e2),(Yq1 @b2),(Yq1 @e6),(Yq1 @r1000),(Yq1 @e7),(Yq1 @r1001),(Yq1 @e8),(Yq1 @e9),(Yq1 @hmd)⟩
    · rw [if_neg hsz] at hq1
      obtain ⟨t1,t2⟩ := step_snoc q' ⟨4,e.path,[],0⟩
      simp only [stepL] at t1
      have hqR : q' ++ [⟨4,e.path,[],0⟩] = upTo (entR t there) (i + 1) := by rw [hq',hq1];(try simp only [List.append_assoc,List.cons_append,List.nil_append])
      refine Yg1 (fa4 @e11 @b11 @e13 @hsz) ?_
      refine Yt0 ?_
      refine Yr1 (fa5 @e6 @r1000 @e10 @hmd @hfq) ?_;intro K hK
      refine ⟨by (repeat' apply And.intro) <;> first | omega | (unfold maxLen;omega) | (intro _;omega) | decide,?_⟩
      refine hK _ ?_;clear hK K;try refine Wh0 ?_
      refine Yg0 ?_
      exact ⟨q' ++ [⟨4,e.path,[],0⟩],_,hqR,hla1.symm,by rw [t2];omega,by rw [l2];omega,(Yq1 @e1),(Yq1 @e2),(Yq1 @b2),by rw [t1,t2];exact Yq0,by rw [t2];exact Yq0,(Yq1 @e7),(Yq1 @r1001),(Yq1 @e8),(Yq1 @e9),(Yq1 @hmd)⟩
  rintro st ⟨q,la,hq,hla,hql,hlal,e1,e2,b2,e6,r1000,e7,r1001,e8,e9,hmd⟩
  rw [← hq,← hla] at hR
  obtain ⟨g1,g2⟩ := fold_ge t.ents 0
  have gl := fold_le 8 t.ents 0 (by omega) fun e _ => depth_le
  have hD : deepR t t.ents.length = t.ents.foldl (fun d e => if d < depthB e.path then depthB e.path else d) 0 := by unfold deepR;rw [List.take_length]
  rw [← hD] at g1 gl
  clear g2 hD
  generalize deepR t t.ents.length = D at *
  obtain ⟨d,rfl⟩ : ∃ d : Nat,D = (d : Int) := ⟨D.toNat,by omega⟩
  rw [Int.toNat_natCast] at hR
  have hla2 := stepL_flen la
  have hlas := stepL_strip la
  have hlao := stepL_one la
  have hqf := stepL_flen q
  have hap : (q ++ la).flatMap stepL = q.flatMap stepL ++ la.flatMap stepL := List.flatMap_append
  refine Yr1 (fa9 @e6 @r1000 @e7 @r1001 @hmd @hla2 @hlas @hlao @hqf) ?_;intro K hK
  refine ⟨by (repeat' apply And.intro) <;> first | omega | (unfold maxLen;omega) | (intro _;omega) | decide,?_⟩
  refine hK _ ?_;clear hK K;try refine Wh0 ?_
  refine Yg1 @e8 ?_
  have hrs : q.flatMap stepL ++ la.flatMap stepL = (q ++ la).flatMap stepL ∧ q.length + la.length = (q ++ la).length := ⟨hap.symm,by simp⟩
  obtain ⟨hr1,hr2⟩ := hrs
  have hq0l : (q ++ la).length ≤ 2600 := by rw [List.length_append];omega
  refine LW_slim (fun st => st.env 2 = .ptr 2 0 ∧ st.box 2 = some (treeL t) ∧ st.env 6 = .sl (q ++ la).length ((q ++ la).flatMap stepL) (.row 1000) ∧ st.row 1000 = some (47,(q ++ la).length) ∧ st.env 15 = intL d ∧ st.mode = fun _ => false) ⟨(Yq1 @e2),(Yq1 @b2),by rw [← hr1,← hr2];exact Yq0,by rw [← hr2];exact Yq0,Yq0,(Yq1 @hmd)⟩ ?_
  clear e1 e2 b2 e6 r1000 e7 r1001 e8 e9 hmd hr1 hr2 hap hla2 hlas hlao hqf st
  rintro st ⟨e2,b2,e6,r1000,e15,hmd⟩
  generalize q ++ la = q0 at *
  refine LW_joinB (fun st => ∃ q2,q2 = q0 ++ upTo (levR t d) (d + 1) ∧ st.env 6 = .sl q2.length (q2.flatMap stepL) (.row 1000)) ?_ ?_
  rotate_left
  · rintro st ⟨q2,hq2,e6⟩
    rw [← hq2] at hR
    subst hR
    refine Yg1 @e6 ?_
    refine Ye1 (fa2 @stepsL.eq_1 @rowL.eq_1) ?_;try (with_reducible exact trivial)
  refine LW_loop (fun n st => ∃ (k : Nat) (q2 : List PStep),n + k = d + 1 ∧ q2 = q0 ++ upTo (levR t d) k ∧ q2.length ≤ 2600 + 500 * k ∧ st.env 2 = .ptr 2 0 ∧ st.box 2 = some (treeL t) ∧ st.env 6 = .sl q2.length (q2.flatMap stepL) (.row 1000) ∧ st.row 1000 = some (47,q2.length) ∧ st.env 15 = intL ((d : Int) - k) ∧ st.mode = fun _ => false) (d + 1) ⟨0,q0,by omega,by simp [upTo],by omega,(Yq1 @e2),(Yq1 @b2),(Yq1 @e6),(Yq1 @r1000),by rw [show ((d : Int) - ((0 : Nat) : Int)) = d by omega];exact (Yq1 @e15),(Yq1 @hmd)⟩ ?_
  clear e2 b2 e6 r1000 e15 hmd st
  rintro n st ⟨k,q2,hn,hq2,hq2l,e2,b2,e6,r1000,e15,hmd⟩
  by_cases hkd : k ≤ d
  rotate_left
  · have hk : k = d + 1 := by omega
    have hlt0 : ¬ ((0 : Int) ≤ (d : Int) - (k : Int)) := by omega
    rw [hk] at hq2
    refine Yg1 (fa2 @e15 @hlt0) ?_
    refine Yf0 ?_
    refine LW_exit ?_;simp only [thenL,jumpsL,inBlockL,twoL,reduceIte,Nat.reduceEqDiff]
    exact ⟨q2,hq2,(Yq1 @e6)⟩
  have hlt0 : ((0 : Int) ≤ (d : Int) - (k : Int)) = True := eq_true (by omega)
  have hwk : IntKind.i64.wrap ((d : Int) - (k : Int) - 1) = (d : Int) - ((k + 1 : Nat) : Int) := by rw [show (d : Int) - (k : Int) - 1 = (d : Int) - ((k + 1 : Nat) : Int) by omega];exact w64 (by omega)
  have hlev : upTo (levR t d) (k + 1) = upTo (levR t d) k ++ upTo (dirS t ((d : Int) - k)) t.ents.length := by rw [upTo];rfl
  refine Yg1 (fa2 @e15 @hlt0) ?_
  refine Yt0 ?_
  refine LW_skip ?_
  simp only [LSj,reduceIte,zze]
  (repeat refine LW_seq ?_)
  refine LW_block ?_
  refine LW_joinB (fun st => ∃ q3,q3 = q2 ++ upTo (dirS t ((d : Int) - k)) t.ents.length ∧ q3.length ≤ 2600 + 500 * (k + 1) ∧ st.env 2 = .ptr 2 0 ∧ st.box 2 = some (treeL t) ∧ st.env 6 = .sl q3.length (q3.flatMap stepL) (.row 1000) ∧ st.row 1000 = some (47,q3.length) ∧ st.env 15 = intL ((d : Int) - k) ∧ st.mode = fun _ => false) ?_ ?_
  rotate_left
  · clear e2 b2 e6 r1000 e15 hmd st
    rintro st ⟨q3,hq3,hq3l,e2,b2,e6,r1000,e15,hmd⟩
    refine Yg1 (fa2 @e15 @hwk) ?_
    exact ⟨n - 1,by omega,k + 1,q3,by omega,by rw [hlev,hq3,hq2,List.append_assoc],hq3l,(Yq1 @e2),(Yq1 @b2),(Yq1 @e6),(Yq1 @r1000),(Yq1 @hwk),(Yq1 @hmd)⟩
  generalize hdk : (d : Int) - (k : Int) = dk at *
  refine Yg0 ?_
  refine LW_loop (fun n st => ∃ (i : Nat) (q3 : List PStep),n + i = t.ents.length ∧ q3 = q2 ++ upTo (dirS t dk) i ∧ q3.length ≤ 2600 + 500 * k + 5 * i ∧ st.env 2 = .ptr 2 0 ∧ st.box 2 = some (treeL t) ∧ st.env 6 = .sl q3.length (q3.flatMap stepL) (.row 1000) ∧ st.row 1000 = some (47,q3.length) ∧ st.env 15 = intL dk ∧ st.env 16 = intL i ∧ st.mode = fun _ => false) t.ents.length ⟨0,q2,by omega,by simp [upTo],by omega,(Yq1 @e2),(Yq1 @b2),(Yq1 @e6),(Yq1 @r1000),(Yq1 @e15),Yq0,(Yq1 @hmd)⟩ ?_
  clear e2 b2 e6 r1000 e15 hmd st
  rintro m st ⟨i,q3,hm3,hq3,hq3l,e2,b2,e6,r1000,e15,e16,hmd⟩
  simp only [treeL] at b2
  by_cases hlt : i < t.ents.length
  rotate_left
  · have hil : i = t.ents.length := by omega
    rw [hil] at hq3
    refine Yg1 (fa4 @e2 @b2 @e16 @hlt) ?_
    refine Yf1 @hlt ?_
    refine LW_exit ?_;simp only [thenL,jumpsL,inBlockL,twoL,reduceIte,Nat.reduceEqDiff]
    exact ⟨q3,hq3,by omega,(Yq1 @e2),(Yq1 (fa2 @b2 @treeL.eq_1)),(Yq1 @e6),(Yq1 @r1000),(Yq1 @e15),(Yq1 @hmd)⟩
  obtain ⟨e,he⟩ := get_of_lt hlt
  have hem := List.mem_of_getElem? he
  have hr := hrange e hem
  obtain ⟨c,hc⟩ : ∃ c : Nat,e.node = (c : Int) := ⟨e.node.toNat,by omega⟩
  have hcn : c < t.nodes.length := by omega
  have hip : (0 : Int) ≤ (i : Int) := by omega
  have hc0 : (0 : Int) ≤ (c : Int) := by omega
  obtain ⟨nd,hnd⟩ := get_of_lt hcn
  have hG : nodeG t.nodes e.node = nd := by unfold nodeG;rw [hc,Int.toNat_natCast,hnd];rfl
  have hd := drop_tent he
  have hdn := drop_node hnd
  simp only [nodeL,attrsL,acesL,piecesL,rowL,List.cons_append,List.nil_append] at hdn
  rw [hc] at hd
  have hw := w64s (n := i) (by omega)
  have cd := rdepth_L e.path (h.path e hem)
  have c5 := rfive_L e.path
  simp only [stepsL,rowL,last5_len] at c5
  have ho := dirS_at (d := dk) he
  rw [hG] at ho
  have hq1 : q2 ++ upTo (dirS t dk) (i + 1) = q3 ++ dirS t dk i := by rw [hq3,upTo,List.append_assoc]
  rw [ho] at hq1
  generalize depthB e.path = dp at *
  have hf1 := stepL_flen q3
  have hf3 : ((last5 e.path).flatMap stepL).length = 20 := by rw [stepL_flen];rfl
  have hst := stepL_strip (last5 e.path)
  have hone := stepL_one (last5 e.path)
  have l1 : (q3 ++ last5 e.path).flatMap stepL = q3.flatMap stepL ++ (last5 e.path).flatMap stepL := List.flatMap_append
  have l2 : (q3 ++ last5 e.path).length = q3.length + 5 := by rw [List.length_append,last5_len]
  refine Yg1 (fa4 @e2 @b2 @e16 @hlt) ?_
  refine Yt1 @hlt ?_
  refine Yg1 (fa6 @e2 @b2 @e16 @hlt @hip @hd) ?_
  by_cases k1 : nd.kind = 1
  rotate_left
  · rw [if_neg (fun hx => k1 hx.1),List.append_nil] at hq1
    refine Yn1 (fa12 @e2 @b2 @e15 @e16 @hmd @hlt @hip @hd @hc0 @hcn @hdn @k1) ?_;intro K hK
    refine hK _ ?_;clear hK K;try refine Wh0 ?_
    refine Yf0 ?_
    refine Yg1 (fa2 @e16 @hw) ?_
    exact ⟨m - 1,by omega,i + 1,q3,by omega,hq1.symm,by omega,(Yq1 @e2),(Yq1 (fa2 @b2 @treeL.eq_1)),(Yq1 @e6),(Yq1 @r1000),(Yq1 @e15),Yq0,(Yq1 @hmd)⟩
  by_cases hdp : dp = dk
  rotate_left
  · rw [if_neg (fun hx => hdp hx.2),List.append_nil] at hq1
    refine Yn1 (fa13 @e2 @b2 @e15 @e16 @hmd @hlt @hip @hd @hc0 @hcn @hdn @k1 @hdp) ?_;intro K hK
    refine Yc1 (cd) (fa13 @e2 @b2 @e15 @e16 @hmd @hlt @hip @hd @hc0 @hcn @hdn @k1 @hdp) ?_
    refine hK _ ?_;clear hK K;try refine Wh0 ?_
    refine Yf0 ?_
    refine Yg1 (fa2 @e16 @hw) ?_
    exact ⟨m - 1,by omega,i + 1,q3,by omega,hq1.symm,by omega,(Yq1 @e2),(Yq1 (fa2 @b2 @treeL.eq_1)),(Yq1 @e6),(Yq1 @r1000),(Yq1 @e15),Yq0,(Yq1 @hmd)⟩
  rw [if_pos ⟨k1,hdp⟩] at hq1
  refine Yn1 (fa13 @e2 @b2 @e15 @e16 @hmd @hlt @hip @hd @hc0 @hcn @hdn @k1 @hdp) ?_;intro K hK
  refine Yc1 (cd) (fa13 @e2 @b2 @e15 @e16 @hmd @hlt @hip @hd @hc0 @hcn @hdn @k1 @hdp) ?_
  refine hK _ ?_;clear hK K;try refine Wh0 ?_
  refine Yt0 ?_
  refine Yr1 (fa4 @e6 @r1000 @hmd @hf1) ?_;intro K hK
  refine Yc1 (c5) (fa7 @e6 @r1000 @hmd @hf1 @hf3 @hst @hone) ?_
  refine ⟨by (repeat' apply And.intro) <;> first | omega | (unfold maxLen;omega) | (intro _;omega) | decide,?_⟩
  refine hK _ ?_;clear hK K;try refine Wh0 ?_
  refine Yg1 (fa2 @e16 @hw) ?_
  exact ⟨m - 1,by omega,i + 1,q3 ++ last5 e.path,by omega,hq1.symm,by rw [l2];omega,(Yq1 @e2),(Yq1 (fa2 @b2 @treeL.eq_1)),by rw [l1,l2];exact Yq0,by rw [l2];exact Yq0,(Yq1 @e15),Yq0,(Yq1 @hmd)⟩
end Go.Proofs.YtbffcndmcaeamaaGreatDoor
end
