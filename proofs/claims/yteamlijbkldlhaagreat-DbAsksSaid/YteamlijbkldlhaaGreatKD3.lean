import Derived.Test.YteamlijbkldlhaaGreatDTab
import Derived.Test.YteamlijbkldlhaaGreatKP5
import Derived.Test.YteamlijbkldlhaaGreatKUA
import Derived.Test.YteamlijbkldlhaaGreatL27
import Derived.Test.YteamlijbkldlhaaGreatL25
section
set_option linter.unusedSimpArgs false
set_option linter.unusedVariables false
namespace Go.Proofs.YteamlijbkldlhaaGreat
open Go.RowKit Go.Proofs AclSpec MetaSpec NodeSpec RecSpec PathSpec PageSpec DbSpec

set_option maxRecDepth 100000 in
theorem dclone_L (r : Rec) (h : small r.node) : LCalls Tryz.prog 74 [.agg (recL r)] (.agg (recL r)) := by
  have c1 := cloneAttr_L r.node.mt.attrs h.1
  have c2 := cloneAce_L r.node.mt.acl h.2.1
  have c3 := clonePiece_L r.node.dat h.2.2.1
  simp only [attrsL,acesL,piecesL,rowL] at c1 c2 c3
  refine LCalls.of (fun _ => false) Tryz.func74 rfl (by decide) Tryz.ntmps74 Tryz.results74 (by simp) ?_
  intro w0 S0 vs hgl hwf0 hsz hvs;clear hsz hvs hwf0 hgl
  refine Yg1 (fa5 @recL.eq_1 @nodeL.eq_1 @piecesL.eq_1 @attrsL.eq_1 @acesL.eq_1) ?_
  refine Yr0 ?_;intro K hK
  refine Yc0 (c1) ?_
  refine hK _ ?_;clear hK K;try refine Wh0 ?_
  refine Yr0 ?_;intro K hK
  refine Yc0 (c2) ?_
  refine hK _ ?_;clear hK K;try refine Wh0 ?_
  refine Yr0 ?_;intro K hK
  refine Yc0 (c3) ?_
  refine hK _ ?_;clear hK K;try refine Wh0 ?_
  refine Yg0 ?_
  refine Ye1 (fa6 @recL.eq_1 @nodeL.eq_1 @piecesL.eq_1 @attrsL.eq_1 @acesL.eq_1 @rowL.eq_1) ?_;try (with_reducible exact trivial)
theorem recs_snoc {l : List Rec} {i : Nat} {r : Rec} (h : l[i]? = some r) : (l.take (i + 1)).flatMap recL = (l.take i).flatMap recL ++ recL r ∧ (l.take (i + 1)).length = (l.take i).length + 1 := by
  obtain ⟨hi,rfl⟩ := List.getElem?_eq_some_iff.1 h
  rw [List.take_succ_eq_append_getElem hi,List.flatMap_append,List.length_append]
  exact ⟨by simp,rfl⟩
set_option maxRecDepth 100000 in
set_option maxHeartbeats 4000000 in
theorem dcopies_L (l : List Rec) (hl : l.length ≤ 1000000) (hs : ∀ r ∈ l,small r.node) : LCalls Tryz.prog 64 [rowL recL l] (rowL recL l) := by
  refine LCalls.of (fun _ => false) Tryz.func64 rfl (by decide) Tryz.ntmps64 Tryz.results64 (by simp) ?_
  intro w0 S0 vs hgl hwf0 hsz hvs;clear hsz hvs hwf0 hgl
  refine Yg1 @rowL.eq_1 ?_
  refine LW_lab1 (fun n st => ∃ i : Nat,n + i = l.length ∧ st.env 0 = rowL recL l ∧ st.env 3 = .sl (l.take i).length ((l.take i).flatMap recL) (.row 1000) ∧ st.row 1000 = some (48,(l.take i).length) ∧ st.env 4 = intL i ∧ st.mode = fun _ => false) rfl ?_ ?_
  · intro hJ
    refine Yo0 ?_
    refine LW_nil (k := 3) (q := 1000) (e := 48) Yq0 ?_
    refine Yl0 ?_
    exact hJ.out l.length _ ⟨0,by omega,(Yq1 @rowL.eq_1),Yq0,Yq0,Yq0,Yq0⟩
  · rintro n st ⟨i,hn,e0,e3,r1000,e4,hmd⟩
    simp only [rowL] at e0
    by_cases hlt : i < l.length
    rotate_left
    · rw [List.take_of_length_le (by omega)] at e3
      refine Yg1 (fa3 @e0 @e4 @hlt) ?_
      refine Yf1 @hlt ?_
      refine LW_plain 3 (n := l.length) (cs := l.flatMap recL) (t := .row 1000) (Yq1 @e3) ?_
      refine Yg0 ?_
      refine Ye1 @rowL.eq_1 ?_;try (with_reducible exact trivial)
    obtain ⟨r,hr⟩ := get_of_lt hlt
    have hd := drop_rec hr
    have hw := w64s (n := i) (by omega)
    have hip : (0 : Int) ≤ (i : Int) := by omega
    have cc := dclone_L r (hs r (List.mem_of_getElem? hr))
    obtain ⟨hsn,hln⟩ := recs_snoc hr
    have hfl := recL_flen (l.take i)
    have hle : (l.take i).length = i := by rw [List.length_take];omega
    simp only [recL,nodeL,attrsL,acesL,piecesL,rowL,List.cons_append,List.nil_append] at cc hd hsn
    refine Yg1 (fa3 @e0 @e4 @hlt) ?_
    refine Yt1 @hlt ?_
    refine Yr1 (fa9 @e0 @e3 @r1000 @e4 @hmd @hip @hlt @hd @hfl) ?_;intro K hK
    refine Yc1 (cc) (fa9 @e0 @e3 @r1000 @e4 @hmd @hip @hlt @hd @hfl) ?_
    refine ⟨by (repeat' apply And.intro) <;> first | omega | (unfold maxLen;omega) | (intro _;omega) | decide,?_⟩
    refine hK _ ?_;clear hK K;try refine Wh0 ?_
    refine Yg1 (fa2 @e4 @hw) ?_
    refine LW_goto ?_;simp only [thenL,jumpsL,inBlockL,twoL,true_and]
    exact ⟨n - 1,by omega,i + 1,by omega,(Yq1 (fa2 @e0 @rowL.eq_1)),by rw [hln,hsn];exact Yq0,by rw [hln];exact Yq0,(Yq1 @hw),(Yq1 @hmd)⟩
end Go.Proofs.YteamlijbkldlhaaGreat
end
section
set_option linter.unusedSimpArgs false
set_option linter.unusedVariables false
namespace Go.Proofs.YteamlijbkldlhaaGreat
open Nat renaming reduceAdd → zz1,reduceMul → zz2,reduceSub → zz3,reduceLT → zz4,reduceLeDiff → zz5,reduceEqDiff → zz6,reduceBEq → zzf
open Int renaming reduceAdd → zz7,reduceSub → zz8,reduceMul → zz9,reduceLT → zza,reduceLE → zzb,reduceEq → zzc,reduceNeg → zzd,reduceToNat → zze
open Op renaming operands → zo
open Call renaming operands → zc
open Go.RowKit Go.Proofs AclSpec MetaSpec NodeSpec RecSpec PathSpec PageSpec DbSpec

theorem pgL_len (p : Pg) : (pgL p).length = 4 := rfl
theorem drop_pg {l : List Pg} {i : Nat} {p : Pg} (h : l[i]? = some p) : (l.flatMap pgL).drop (i * 4) = pgL p ++ (l.drop (i + 1)).flatMap pgL := drop_flat pgL 4 pgL_len h
theorem pgL_flen (l : List Pg) : (l.flatMap pgL).length = l.length * 4 := len_flat pgL 4 pgL_len l
theorem pgL_strip (l : List Pg) : (l.flatMap pgL).map strip1 = l.flatMap pgL := strip1_enc (fun _ => rfl) l
theorem recs_cut (l : List Rec) (a b : Nat) : ((l.flatMap recL).take (b * 15)).drop (a * 15) = ((l.take b).drop a).flatMap recL := by
  rw [take_flat' recL 15 recL_len,drop_flat' recL 15 recL_len]
theorem pg_snoc (ps : List Pg) (p : Pg) : (ps ++ [p]).flatMap pgL = ps.flatMap pgL ++ pgL p ∧ (ps ++ [p]).length = ps.length + 1 := by
  rw [List.flatMap_append,List.length_append]
  exact ⟨by simp,rfl⟩
set_option maxRecDepth 100000 in
set_option maxHeartbeats 4000000 in
theorem dleaves_O (l : List Rec) (hl : l.length ≤ 100000) (hs : ∀ r ∈ l,small r.node) : OCalls Tryz.prog 38 [rowL recL l] ⟨[],[],[]⟩ (.sl (leavesP l).length ((leavesP l).flatMap pgL) (.row 2000)) ⟨[(2000,(36,(leavesP l).length))],[],[]⟩ := by
  refine OCalls.of (fun _ => false) Tryz.func38 rfl (by decide) Tryz.ntmps38 Tryz.results38 (by simp) ?_
  intro w0 S0 vs
  refine Yg1 @rowL.eq_1 ?_
  refine LW_lab1 (fun n st => ∃ j : Nat,n + j = (l.length + 3) / 4 ∧ st.env 0 = rowL recL l ∧ st.env 3 = .sl ((List.range j).map (leafP l)).length (((List.range j).map (leafP l)).flatMap pgL) (.row 1000) ∧ st.row 1000 = some (36,((List.range j).map (leafP l)).length) ∧ st.env 4 = intL (min (4 * j) l.length : Nat) ∧ st.mode = fun _ => false) rfl ?_ ?_
  · intro hJ
    refine Yo0 ?_
    refine LW_nil (k := 3) (q := 1000) (e := 36) Yq0 ?_
    have h0 : min (4 * 0) l.length = 0 := by omega
    refine Yl0 ?_
    exact hJ.out ((l.length + 3) / 4) _ ⟨0,by omega,(Yq1 @rowL.eq_1),Yq0,Yq0,by rw [h0];exact Yq0,Yq0⟩
  · rintro n st ⟨j,hn,e0,e3,r1000,e4,hmd⟩
    simp only [rowL] at e0
    by_cases hlt : 4 * j < l.length
    rotate_left
    · have hj : j = (l.length + 3) / 4 := by omega
      have h0 : min (4 * j) l.length = l.length := by omega
      rw [h0] at e4
      have hlf : (List.range j).map (leafP l) = leavesP l := by unfold leavesP;rw [hj]
      rw [hlf] at e3 r1000
      have hll : ¬ ((l.length : Int) < (l.length : Int)) := by omega
      refine Yg1 (fa3 @e0 @e4 @hll) ?_
      refine Yf0 ?_
      refine Yg1 @e3 ?_
      refine LW_ret ?_;simp only [thenL,jumpsL,inBlockL,twoL,bodyO];refine ⟨[(1000,2000)],rfl,?_⟩;simp only [thenL,jumpsL,inBlockL,twoL,bodyQ,LV.lit.injEq,LV.tup.injEq,LV.agg.injEq,LV.sl.injEq,List.cons.injEq,Value.int.injEq,Value.bool.injEq,Value.string.injEq,ByteArray.mk.injEq,exists_eq_left',exists_eq_left,exists_eq_right,LZ,zo,zc,reduceCtorEq,reduceIte,zz1,zz2,zz3,zz4,zz5,zz6,zz7,zz8,zz9,zza,zzb,zzc,zzd,zze,zzf,e3,r1000]
    have h0 : min (4 * j) l.length = 4 * j := by omega
    rw [h0] at e4
    obtain ⟨en,hen⟩ : ∃ en,en = min (4 * (j + 1)) l.length := ⟨_,rfl⟩
    have hmin : (if l.length < 4 * j + 4 then (l.length : Int) else ((4 * j + 4 : Nat) : Int)) = (en : Int) := by split <;> omega
    have hw4 : IntKind.i64.wrap (((4 * j : Nat) : Int) + 4) = ((4 * j + 4 : Nat) : Int) := by rw [show ((4 * j : Nat) : Int) + 4 = ((4 * j + 4 : Nat) : Int) by omega];exact w64 (by omega)
    have hlti : (((4 * j : Nat) : Int) < (l.length : Int)) = True := eq_true (by omega)
    have hb1 : (0 : Int) ≤ ((4 * j : Nat) : Int) := by omega
    have hb2 : ((4 * j : Nat) : Int) ≤ (en : Int) := by omega
    have hb3 : (en : Int) ≤ (l.length : Int) := by omega
    have hcut := recs_cut l (4 * j) en
    have hpart : (l.take en).drop (4 * j) = (l.drop (4 * j)).take 4 := by
      rw [List.drop_take]
      by_cases h4 : 4 * j + 4 ≤ l.length
      · rw [show en - 4 * j = 4 by omega]
      · rw [List.take_of_length_le (by rw [List.length_drop];omega),List.take_of_length_le (by rw [List.length_drop];omega)]
    rw [hpart] at hcut
    have hplen : ((l.drop (4 * j)).take 4).length = en - 4 * j := by rw [List.length_take,List.length_drop];omega
    have hnext : (List.range (j + 1)).map (leafP l) = (List.range j).map (leafP l) ++ [leafP l j] := by rw [List.range_succ,List.map_append];rfl
    obtain ⟨hs1,hs2⟩ := pg_snoc ((List.range j).map (leafP l)) (leafP l j)
    rw [← hnext] at hs1 hs2
    have hpl : ((List.range j).map (leafP l)).length = j := by simp
    have hfl := pgL_flen ((List.range j).map (leafP l))
    obtain ⟨pj1,hpj1⟩ : ∃ q,q = (List.range (j + 1)).map (leafP l) := ⟨_,rfl⟩
    rw [← hpj1] at hnext hs1 hs2
    generalize (List.range j).map (leafP l) = pj at *
    have cc := dcopies_L ((l.drop (4 * j)).take 4) (by omega) (fun r hr => hs r (List.mem_of_mem_drop (List.mem_of_mem_take hr)))
    simp only [leafP] at hs1
    generalize (l.drop (4 * j)).take 4 = ch at *
    simp only [pgL,rowL,strsL,intsL,List.flatMap_nil,List.length_nil,hplen] at cc hs1
    generalize h4j : 4 * j = a at *
    refine Yg1 (fa3 @e0 @e4 @hlti) ?_
    refine Yt0 ?_
    refine Yg1 (fa4 @e0 @e4 @hw4 @hmin) ?_
    refine Yr1 (fa10 @e0 @e3 @r1000 @e4 @hmd @hb1 @hb2 @hb3 @hcut @hfl) ?_;intro K hK
    refine Yc1 (cc) (fa10 @e0 @e3 @r1000 @e4 @hmd @hb1 @hb2 @hb3 @hcut @hfl) ?_
    refine ⟨by (repeat' apply And.intro) <;> first | omega | (unfold maxLen;omega) | (intro _;omega) | decide,?_⟩
    refine hK _ ?_;clear hK K;try refine Wh0 ?_
    refine Yg0 ?_
    refine LW_goto ?_;simp only [thenL,jumpsL,inBlockL,twoL,true_and]
    exact ⟨n - 1,by omega,j + 1,by omega,(Yq1 (fa2 @e0 @rowL.eq_1)),by rw [← hpj1,hs2,hs1];exact Yq0,by rw [← hpj1,hs2];exact Yq0,by rw [← hen];exact Yq0,(Yq1 @hmd)⟩
end Go.Proofs.YteamlijbkldlhaaGreat
end
section
set_option linter.unusedSimpArgs false
set_option linter.unusedVariables false
namespace Go.Proofs.YteamlijbkldlhaaGreat
open Nat renaming reduceAdd → zz1,reduceMul → zz2,reduceSub → zz3,reduceLT → zz4,reduceLeDiff → zz5,reduceEqDiff → zz6,reduceBEq → zzf
open Int renaming reduceAdd → zz7,reduceSub → zz8,reduceMul → zz9,reduceLT → zza,reduceLE → zzb,reduceEq → zzc,reduceNeg → zzd,reduceToNat → zze
open Op renaming operands → zo
open Call renaming operands → zc
open Go.RowKit Go.Proofs AclSpec MetaSpec NodeSpec RecSpec PathSpec PageSpec DbSpec

theorem firstPg_len (p : Pg) (h : SmallP p) : (firstPg p).length < 1000000 := by
  unfold firstPg
  split
  · split
    · cases hr : p.recs.head? with
      | none => simp
      | some r => exact (h.one r (List.mem_of_mem_head? hr)).1
    · cases hk : p.keys.head? with
      | none => simp
      | some k => exact h.key k (List.mem_of_mem_head? hk)
  · simp
theorem innerP_small (p : List Pg) (hs : ∀ x ∈ p,SmallP x) (a k : Nat) (hk : k ≤ 1000) : SmallP (innerP p a k) := by
  have hz : SmallP zeroPg := ⟨by decide,by decide,by decide,(fun r hr => by cases hr),(fun k hk => by cases hk)⟩
  refine ⟨by simp [innerP],by simp [innerP];omega,by simp [innerP];omega,(fun r hr => by cases hr),fun x hx => ?_⟩
  obtain ⟨i,_,rfl⟩ := List.mem_map.1 hx
  refine firstPg_len _ ?_
  rw [List.getD_eq_getElem?_getD]
  cases hi : p[i]? with
  | none => exact hz
  | some y => exact hs y (List.mem_of_getElem? hi)
theorem innerP_app (p q : List Pg) (a k : Nat) (h : a + k ≤ p.length) : innerP (p ++ q) a k = innerP p a k := by
  unfold innerP
  congr 1
  apply List.map_congr_left
  intro i hi
  rw [List.mem_range'] at hi
  obtain ⟨j,hj,rfl⟩ := hi
  rw [List.getD_eq_getElem?_getD,List.getD_eq_getElem?_getD,List.getElem?_append_left (by omega)]
theorem innerP_succ (p : List Pg) (a k : Nat) : innerP p a (k + 1) = ⟨false,[],(innerP p a k).keys ++ [firstPg (p.getD (a + k) zeroPg)],(innerP p a k).pages ++ [((a + k : Nat) : Int)]⟩ := by
  unfold innerP
  rw [List.range'_concat,List.map_append,List.map_append]
  simp
set_option maxRecDepth 100000 in
set_option maxHeartbeats 4000000 in
theorem dinner_L (p : List Pg) (hp : p.length ≤ 100000) (hs : ∀ x ∈ p,SmallP x) (a k : Nat) (hk : a + k ≤ p.length) : LCalls Tryz.prog 65 [rowL pgL p,intL a,intL (a + k : Nat)] (.agg (pgL (innerP p a k))) := by
  refine LCalls.of (fun _ => false) Tryz.func65 rfl (by decide) Tryz.ntmps65 Tryz.results65 (by simp) ?_
  intro w0 S0 vs hgl hwf0 hsz hvs;clear hsz hvs hwf0 hgl
  refine Yg1 @rowL.eq_1 ?_
  refine LW_lab1 (fun m st => ∃ i : Nat,m + i = k ∧ st.env 0 = rowL pgL p ∧ st.env 1 = intL (a + i : Nat) ∧ st.env 2 = intL (a + k : Nat) ∧ st.env 6 = .ptr 6 0 ∧ st.box 6 = some [boolL false,.sl 0 [] .nil,.sl 0 [] .nil,.sl 0 [] .nil] ∧ st.env 7 = .ptr 7 0 ∧ st.box 7 = some [boolL false,.sl 0 [] .nil,.sl (innerP p a i).keys.length ((innerP p a i).keys.flatMap strE) (.row 1000),.sl (innerP p a i).pages.length ((innerP p a i).pages.flatMap intE) (.row 1001)] ∧ st.row 1000 = some (9,(innerP p a i).keys.length) ∧ st.row 1001 = some (3,(innerP p a i).pages.length) ∧ st.mode = fun _ => false) rfl ?_ ?_
  · intro hJ
    refine Yo0 ?_
    refine LW_nilBox (cs := [boolL false,.sl 0 [] .nil,.sl 0 [] .nil,.sl 0 [] .nil]) 7 2 1000 9 Yq0 rfl ?_
    refine LW_nilBox (cs := [boolL false,.sl 0 [] .nil,.sl 0 [] (.row 1000),.sl 0 [] .nil]) 7 3 1001 3 Yq0 rfl ?_
    refine Yl0 ?_
    exact hJ.out k _ ⟨0,by omega,(Yq1 @rowL.eq_1),Yq0,Yq0,Yq0,Yq0,Yq0,Yq0,Yq0,Yq0,Yq0⟩
  · rintro m st ⟨i,hm,e0,e1,e2,e6,b6,e7,b7,r1000,r1001,hmd⟩
    simp only [rowL] at e0
    by_cases hlt : i < k
    rotate_left
    · have hik : i = k := by omega
      subst hik
      have hll : ¬ (((a + i : Nat) : Int) < ((a + i : Nat) : Int)) := by omega
      refine Yg1 (fa3 @e1 @e2 @hll) ?_
      refine Yf0 ?_
      refine Yg1 (fa4 @e6 @b6 @e7 @b7) ?_
      refine Ye1 (fa5 @e6 @pgL.eq_1 @rowL.eq_1 @strsL.eq_1 @intsL.eq_1) ?_;try (with_reducible exact trivial)
      (repeat' apply And.intro) <;> rfl
    have hlti : (((a + i : Nat) : Int) < ((a + k : Nat) : Int)) = True := eq_true (by omega)
    have hlp : a + i < p.length := by omega
    obtain ⟨x,hx⟩ := get_of_lt hlp
    have hxd : p.getD (a + i) zeroPg = x := by rw [List.getD_eq_getElem?_getD,hx];rfl
    have hd := drop_pg hx
    have hip : (0 : Int) ≤ ((a + i : Nat) : Int) := by omega
    have hw := w64s (n := a + i) (by omega)
    have cf := pfirst_L x (hs x (List.mem_of_getElem? hx))
    have hsu := innerP_succ p a i
    rw [hxd] at hsu
    have hkl : (innerP p a i).keys.length = i := by simp [innerP]
    have hnl : (innerP p a i).pages.length = i := by simp [innerP]
    have hkf := strE_flen (innerP p a i).keys
    have hnf : ((innerP p a i).pages.flatMap intE).length = (innerP p a i).pages.length := by rw [len_flat intE 1 intE_len _,Nat.mul_one]
    have hk1 : ((innerP p a i).keys ++ [firstPg x]).flatMap strE = (innerP p a i).keys.flatMap strE ++ [strL (firstPg x)] := by rw [List.flatMap_append];rfl
    have hn1 : ((innerP p a i).pages ++ [((a + i : Nat) : Int)]).flatMap intE = (innerP p a i).pages.flatMap intE ++ [intL (a + i : Nat)] := by rw [List.flatMap_append];rfl
    have hk2 : ((innerP p a i).keys ++ [firstPg x]).length = (innerP p a i).keys.length + 1 := by simp
    have hn2 : ((innerP p a i).pages ++ [((a + i : Nat) : Int)]).length = (innerP p a i).pages.length + 1 := by simp
    have hassoc : a + (i + 1) = a + i + 1 := rfl
    generalize (innerP p a i).keys = ks at *
    generalize (innerP p a i).pages = ns at *
    simp only [pgL,rowL,strsL,intsL,List.cons_append,List.nil_append] at cf hd
    generalize firstPg x = fx at *
    refine Yg1 (fa3 @e1 @e2 @hlti) ?_
    refine Yt0 ?_
    (repeat (first | refine LW_seq ?_ | (refine LW_skip ?_;simp only [LSj,reduceIte,zze]) | refine LW_block ?_));refine LW_mix2 [] [] (fun _ => false) [(0,[7,1000,1001]),(1,[7,1000,1001]),(7,[7,1000,1001])] [0,1,2,3,4,5,6] [[7,8,9,10]] rfl (by kernel_rfl) (by kernel_rfl) (by kernel_rfl) (by first | exact rfl | exact hmd | simp only [LZ,zo,zc,reduceCtorEq,reduceIte,zz1,zz2,zz3,zz4,zz5,zz6,zz7,zz8,zz9,zza,zzb,zzc,zzd,zze,zzf,e0,e1,e7,b7,r1000,r1001,hmd,hip,hlp,hd,hkf,hnf]) ?_;intro K hK;simp only [LZ,zo,zc,reduceCtorEq,reduceIte,zz1,zz2,zz3,zz4,zz5,zz6,zz7,zz8,zz9,zza,zzb,zzc,zzd,zze,zzf,e0,e1,e7,b7,r1000,r1001,hmd,hip,hlp,hd,hkf,hnf]
    refine Yx1 (cf) (fa12 @e0 @e1 @e7 @b7 @r1000 @r1001 @hmd @hip @hlp @hd @hkf @hnf) ?_
    refine ⟨by (repeat' apply And.intro) <;> first | omega | (unfold maxLen;omega) | (intro _;omega) | decide,?_⟩
    refine hK _ ?_;clear hK K;try refine Wh0 ?_
    refine Yr1 (fa6 @e1 @e7 @r1001 @hmd @hkf @hnf) ?_;intro K hK
    refine ⟨by (repeat' apply And.intro) <;> first | omega | (unfold maxLen;omega) | (intro _;omega) | decide,?_⟩
    refine hK _ ?_;clear hK K;try refine Wh0 ?_
    refine Yg1 (fa2 @e1 @hw) ?_
    refine LW_goto ?_;simp only [thenL,jumpsL,inBlockL,twoL,true_and]
    refine ⟨m - 1,by omega,i + 1,by omega,(Yq1 (fa2 @e0 @rowL.eq_1)),(Yq1 @hw),(Yq1 @e2),(Yq1 @e6),(Yq1 @b6),(Yq1 @e7),?_,?_,?_,(Yq1 @hmd)⟩
    · rw [hsu,hk1,hn1,hk2,hn2];exact Yq0
    · rw [hsu,hk2];exact Yq0
    · rw [hsu,hn2];exact Yq0
set_option maxRecDepth 100000 in
set_option maxHeartbeats 4000000 in
theorem dover_O (p : List Pg) (hp : p.length ≤ 1000) (hs : ∀ x ∈ p,SmallP x) (a b : Nat) (hab : a ≤ b) (hb : b ≤ p.length) :
    OCalls Tryz.prog 39 [.sl p.length (p.flatMap pgL) (.row 1000),intL a,intL b] ⟨[(1000,(36,p.length))],[],[]⟩ (.sl (p ++ levelP p a b).length ((p ++ levelP p a b).flatMap pgL) (.row 2000)) ⟨[(2000,(36,(p ++ levelP p a b).length))],[],[]⟩ := by
  refine OCalls.of (fun _ => false) Tryz.func39 rfl (by decide) Tryz.ntmps39 Tryz.results39 (by simp) ?_
  intro w0 S0 vs
  refine Yg0 ?_
  refine LW_lab1 (fun n st => ∃ (j : Nat) (q : List Pg),n + j = (b - a + 3) / 4 ∧ q = p ++ (List.range j).map (fun j => innerP p (a + 4 * j) (min 4 (b - (a + 4 * j)))) ∧ st.env 0 = .sl q.length (q.flatMap pgL) (.row 1000) ∧ st.row 1000 = some (36,q.length) ∧ st.env 2 = intL b ∧ st.env 7 = intL (min (a + 4 * j) b : Nat) ∧ st.mode = fun _ => false) rfl ?_ ?_
  · intro hJ
    have h0 : min (a + 4 * 0) b = a := by omega
    refine Yl0 ?_
    exact hJ.out ((b - a + 3) / 4) _ ⟨0,p,by omega,by simp,Yq0,Yq0,Yq0,by rw [h0];exact Yq0,Yq0⟩
  · rintro n st ⟨j,q,hn,hq,e0,r1000,e2,e7,hmd⟩
    by_cases hlt : a + 4 * j < b
    rotate_left
    · have hj : j = (b - a + 3) / 4 := by omega
      have h0 : min (a + 4 * j) b = b := by omega
      rw [h0] at e7
      have hql : q = p ++ levelP p a b := by rw [hq,hj];rfl
      rw [← hql]
      have hll : ¬ ((b : Int) < (b : Int)) := by omega
      refine Yg1 (fa3 @e2 @e7 @hll) ?_
      refine Yf0 ?_
      refine Yg1 @e0 ?_
      refine LW_ret ?_;simp only [thenL,jumpsL,inBlockL,twoL,bodyO];refine ⟨[(1000,2000)],rfl,?_⟩;simp only [thenL,jumpsL,inBlockL,twoL,bodyQ,LV.lit.injEq,LV.tup.injEq,LV.agg.injEq,LV.sl.injEq,List.cons.injEq,Value.int.injEq,Value.bool.injEq,Value.string.injEq,ByteArray.mk.injEq,exists_eq_left',exists_eq_left,exists_eq_right,LZ,zo,zc,reduceCtorEq,reduceIte,zz1,zz2,zz3,zz4,zz5,zz6,zz7,zz8,zz9,zza,zzb,zzc,zzd,zze,zzf,e0,r1000]
    have h0 : min (a + 4 * j) b = a + 4 * j := by omega
    rw [h0] at e7
    obtain ⟨k,hk⟩ : ∃ k,k = min 4 (b - (a + 4 * j)) := ⟨_,rfl⟩
    have hmin : (if b < a + 4 * j + 4 then (b : Int) else ((a + 4 * j + 4 : Nat) : Int)) = ((a + 4 * j + k : Nat) : Int) := by split <;> omega
    have hw4 : IntKind.i64.wrap (((a + 4 * j : Nat) : Int) + 4) = ((a + 4 * j + 4 : Nat) : Int) := by rw [show ((a + 4 * j : Nat) : Int) + 4 = ((a + 4 * j + 4 : Nat) : Int) by omega];exact w64 (by omega)
    have hlti : (((a + 4 * j : Nat) : Int) < (b : Int)) = True := eq_true (by omega)
    have hqs : ∀ x ∈ q,SmallP x := by
      intro x hx
      rw [hq] at hx
      rcases List.mem_append.1 hx with hx | hx
      · exact hs x hx
      · obtain ⟨i,_,rfl⟩ := List.mem_map.1 hx
        exact innerP_small p hs _ _ (by omega)
    have hqlen : q.length = p.length + j := by rw [hq];simp
    have ci := dinner_L q (by omega) hqs (a + 4 * j) k (by omega)
    have hin : innerP q (a + 4 * j) k = innerP p (a + 4 * j) k := by rw [hq];exact innerP_app _ _ _ _ (by omega)
    rw [hin] at ci
    obtain ⟨hs1,hs2⟩ := pg_snoc q (innerP p (a + 4 * j) k)
    have hnext : q ++ [innerP p (a + 4 * j) k] = p ++ (List.range (j + 1)).map (fun j => innerP p (a + 4 * j) (min 4 (b - (a + 4 * j)))) := by
      rw [List.range_succ,List.map_append,← List.append_assoc,← hq,hk];rfl
    have hend : min (a + 4 * (j + 1)) b = a + 4 * j + k := by omega
    have hfl := pgL_flen q
    generalize innerP p (a + 4 * j) k = w at *
    simp only [pgL,rowL,strsL,intsL] at ci hs1
    generalize h4j : a + 4 * j = aj at *
    refine Yg1 (fa3 @e2 @e7 @hlti) ?_
    refine Yt0 ?_
    refine Yg1 (fa4 @e2 @e7 @hw4 @hmin) ?_
    refine Yr1 (fa5 @e0 @r1000 @e7 @hmd @hfl) ?_;intro K hK
    refine Yc1 (ci) (fa5 @e0 @r1000 @e7 @hmd @hfl) ?_
    refine ⟨by (repeat' apply And.intro) <;> first | omega | (unfold maxLen;omega) | (intro _;omega) | decide,?_⟩
    refine hK _ ?_;clear hK K;try refine Wh0 ?_
    refine Yg0 ?_
    refine LW_goto ?_;simp only [thenL,jumpsL,inBlockL,twoL,true_and]
    exact ⟨n - 1,by omega,j + 1,q ++ [w],by omega,by rw [hnext],by rw [hs2,hs1];exact Yq0,by rw [hs2];exact Yq0,(Yq1 @e2),by rw [hend];exact Yq0,(Yq1 @hmd)⟩
end Go.Proofs.YteamlijbkldlhaaGreat
end
