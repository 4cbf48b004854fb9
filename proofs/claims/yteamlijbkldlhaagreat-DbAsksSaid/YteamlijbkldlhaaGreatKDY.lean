import Derived.Test.YteamlijbkldlhaaGreatKD5
import Derived.Test.YteamlijbkldlhaaGreatKPD
import Derived.Test.YteamlijbkldlhaaGreatL29
section
set_option linter.unusedSimpArgs false
set_option linter.unusedVariables false
namespace Go.Proofs.YteamlijbkldlhaaGreat
open Go.RowKit Go.Proofs AclSpec MetaSpec NodeSpec RecSpec PathSpec PageSpec DbSpec

def boxP (ps : List Pg) (x : List LV) (m : Nat) : List LV := ps.flatMap pgL ++ (x ++ List.replicate m .any)
section
variable (ps : List Pg) (x : List LV) (m : Nat)
theorem boxP_len : (boxP ps x m).length = ps.length * 4 + (x.length + m) := by
  unfold boxP;rw [List.length_append,pgL_flen,List.length_append,List.length_replicate]
theorem boxP_drop (j : Nat) (h : j ≤ x.length) : (boxP ps x m).drop (ps.length * 4 + j) = x.drop j ++ List.replicate m .any := by
  unfold boxP
  rw [List.drop_append,List.drop_of_length_le (by rw [pgL_flen];omega),List.nil_append,pgL_flen,Nat.add_sub_cancel_left,List.drop_append_of_le_length h]
theorem boxP_take (j : Nat) (h : j ≤ x.length) : (boxP ps x m).take (ps.length * 4 + j) = ps.flatMap pgL ++ x.take j := by
  unfold boxP
  rw [List.take_append,List.take_of_length_le (by rw [pgL_flen];omega),pgL_flen,Nat.add_sub_cancel_left,List.take_append_of_le_length h]
theorem boxP_forget (d : Nat) : (boxP ps x m).map (forget1 d) = boxP ps (x.map (forget1 d)) m := by
  unfold boxP
  rw [List.map_append,List.map_append,List.map_replicate]
  congr 1
  rw [List.map_flatMap]
  congr 1
theorem boxP_get (j : Nat) (h : j < x.length) : (boxP ps x m)[ps.length * 4 + j]? = x[j]? := by
  unfold boxP
  rw [List.getElem?_append_right (by rw [pgL_flen];omega),pgL_flen,Nat.add_sub_cancel_left,List.getElem?_append_left h]
theorem boxP_set (j : Nat) (v : LV) (h : j < x.length) : (boxP ps x m).set (ps.length * 4 + j) v = boxP ps (x.set j v) m := by
  unfold boxP
  rw [List.set_append_right _ _ (by rw [pgL_flen];omega),pgL_flen,Nat.add_sub_cancel_left,List.set_append_left _ _ h]
theorem boxP_put (j : Nat) (v : LV) (h : j < x.length) : (boxP ps x m).take (ps.length * 4 + j) ++ [v] ++ (boxP ps x m).drop (ps.length * 4 + j + 1) = boxP ps (x.set j v) m := by
  rw [boxP_take ps x m j (by omega),Nat.add_assoc,boxP_drop ps x m (j + 1) (by omega)]
  unfold boxP
  rw [List.set_eq_take_append_cons_drop,if_pos h]
  simp only [List.append_assoc,List.cons_append,List.nil_append]
theorem boxP_read {i : Nat} {y : Pg} (h : ps[i]? = some y) : (boxP ps x m).drop (i * 4) = pgL y ++ ((ps.drop (i + 1)).flatMap pgL ++ (x ++ List.replicate m .any)) := by
  have hi := (List.getElem?_eq_some_iff.1 h).1
  unfold boxP
  rw [List.drop_append_of_le_length (by rw [pgL_flen];omega),drop_pg h,List.append_assoc]
theorem boxP_close {y : Pg} (h4 : x.length = 4) (h : x.map strip1 = pgL y) : ((boxP ps x m).take ((ps.length + 1) * 4)).map strip1 = (ps ++ [y]).flatMap pgL := by
  rw [Nat.add_mul,Nat.one_mul,boxP_take ps x m 4 (by omega),List.map_append,pgL_strip,List.take_of_length_le (by omega),h,List.flatMap_append]
  simp
theorem pgL_okB : (ps.flatMap pgL).all okB = true := by
  rw [List.all_flatMap,List.all_eq_true];intro x _;rfl
end
def nilC : LV := .lit (.slice none 0 0)
theorem nil4 {P : Program} {w : World} {g : Gh} {b : LV} {v : Value} (h : Rep P w g (.agg [b,.sl 0 [] .nil,.sl 0 [] .nil,.sl 0 [] .nil]) v) : Rep P w g (.agg [b,nilC,nilC,nilC]) v := by
  obtain ⟨vs,rfl,hl,hr⟩ := h.inv_agg
  refine .agg _ _ _ hl fun i c u hc hu => ?_
  have key : ∀ i : Nat,([b,.sl 0 [] .nil,.sl 0 [] .nil,.sl 0 [] .nil] : List LV)[i]? = some (LV.sl 0 [] .nil) → vs[i]? = some u → Rep P w g nilC u := fun i h1 h2 => by
    obtain ⟨rfl,_⟩ := (hr i _ u h1 h2).inv_nil
    exact .lit _ _
  match i,hc with
  | 0,hc => exact hr 0 c u hc hu
  | 1,hc => cases hc;exact key 1 rfl hu
  | 2,hc => cases hc;exact key 2 rfl hu
  | 3,hc => cases hc;exact key 3 rfl hu
theorem LW_nilC {P : Program} {N : Nat} {w0 : World} {S0 : Ent} {Q : Exit → LSt → Prop} {st : LSt} {c : Code} (d : Nat) (ps : List Pg) (b : LV) (m : Nat) (hb : st.box d = some (boxP ps [b,nilC,nilC,nilC] m))
    (h : LW P N w0 S0 c Q (st.setBox d (boxP ps [b,.sl 0 [] .nil,.sl 0 [] .nil,.sl 0 [] .nil] m))) : LW P N w0 S0 c Q st := by
  refine LW_weakBox d _ hb (by rw [boxP_len,boxP_len];rfl) (fun i x y hx hy w g v hr => ?_) h
  unfold boxP at hx hy
  by_cases hi : i < (ps.flatMap pgL).length
  · rw [List.getElem?_append_left hi] at hx hy
    rw [hx] at hy;cases hy;exact hr
  · rw [List.getElem?_append_right (by omega)] at hx hy
    generalize i - (ps.flatMap pgL).length = j at hx hy
    have nn : Rep P w g nilC v → Rep P w g (.sl 0 [] .nil) v := fun hv => by
      have := hv.inv_lit;subst this;exact .nil _
    match j,hx,hy with
    | 0,hx,hy => cases hx;cases hy;exact hr
    | 1,hx,hy => cases hx;cases hy;exact nn hr
    | 2,hx,hy => cases hx;cases hy;exact nn hr
    | 3,hx,hy => cases hx;cases hy;exact nn hr
    | j + 4,hx,hy =>
      have hx : (List.replicate m LV.any)[j]? = some x := hx
      have hy : (List.replicate m LV.any)[j]? = some y := hy
      rw [hx] at hy;cases hy;exact hr
theorem leafs_end {l : List Rec} {j n : Nat} (hl : l.length = 4 * j + n) (h1 : 1 ≤ n) (h4 : n ≤ 4) : (List.range j).map (leafP l) ++ [⟨true,(l.drop (4 * j)).take n,[],[]⟩] = leavesP l := by
  unfold leavesP
  rw [show (l.length + 3) / 4 = j + 1 by omega,List.range_succ,List.map_append,List.map_singleton]
  congr 2
  unfold leafP
  congr 1
  rw [List.take_of_length_le (by rw [List.length_drop];omega),List.take_of_length_le (by rw [List.length_drop];omega)]
theorem leafs_full (l : List Rec) (j : Nat) : (List.range j).map (leafP l) ++ [⟨true,(l.drop (4 * j)).take 4,[],[]⟩] = (List.range (j + 1)).map (leafP l) := by
  rw [List.range_succ,List.map_append,List.map_singleton];rfl
theorem take_next {α : Type} {l : List α} {a n : Nat} {x : α} (h : l[a + n]? = some x) : (l.drop a).take (n + 1) = (l.drop a).take n ++ [x] := by
  have hx : (l.drop a)[n]? = some x := by rw [List.getElem?_drop];exact h
  obtain ⟨hn,rfl⟩ := List.getElem?_eq_some_iff.1 hx
  rw [List.take_succ_eq_append_getElem hn]
def fullL (p : List Pg) (a j : Nat) : List Pg := (List.range j).map fun q => innerP p (a + 4 * q) 4
theorem fullL_len (p : List Pg) (a j : Nat) : (fullL p a j).length = j := by unfold fullL;simp
theorem full_next (p : List Pg) (a j : Nat) : fullL p a j ++ [innerP p (a + 4 * j) 4] = fullL p a (j + 1) := by
  unfold fullL;rw [List.range_succ,List.map_append,List.map_singleton]
theorem full_end {p : List Pg} {a b j n : Nat} (hb : b = a + 4 * j + n) (h1 : 1 ≤ n) (h4 : n ≤ 4) : fullL p a j ++ [innerP p (a + 4 * j) n] = levelP p a b := by
  unfold levelP
  rw [show (b - a + 3) / 4 = j + 1 by omega,List.range_succ,List.map_append,List.map_singleton,show min 4 (b - (a + 4 * j)) = n by omega]
  congr 1
  unfold fullL
  apply List.map_congr_left
  intro q hq
  rw [List.mem_range] at hq
  rw [show min 4 (b - (a + 4 * q)) = 4 by omega]
end Go.Proofs.YteamlijbkldlhaaGreat
end
section
set_option linter.unusedSimpArgs false
set_option linter.unusedVariables false
namespace Go.Proofs.YteamlijbkldlhaaGreat
open Nat renaming reduceAdd → zz1,reduceMul → zz2,reduceSub → zz3,reduceLT → zz4,reduceLeDiff → zz5,reduceEqDiff → zz6,reduceBEq → zzf
open Int renaming reduceAdd → zz7,reduceSub → zz8,reduceMul → zz9,reduceLT → zza,reduceLE → zzb,reduceEq → zzc,reduceNeg → zzd,reduceToNat → zze
open Op renaming operands → zo
open Call renaming operands → zc
open Go.RowKit Go.Proofs AclSpec MetaSpec NodeSpec RecSpec PathSpec PageSpec DbSpec

set_option maxRecDepth 100000 in
set_option maxHeartbeats 32000000 in
theorem qbuild_L (l : List Rec) (h : SmallR l) (ht : ∀ r ∈ l,r.node.target.length ≤ maxLen) : LCalls Tryz.prog 14 [rowL recL l] (.tup [rowL pgL (buildA l).1,intL (buildA l).2]) := by
  have hl := h.len
  refine LCalls.of (fun d => d == 56) Tryz.func14 rfl (by decide) Tryz.ntmps14 Tryz.results14 (by simp) ?_
  intro w0 S0 vs hgl hwf0 hsz hvs;clear hsz hvs hwf0 hgl
  generalize hR : buildA l = R
  unfold buildA at hR
  generalize hM : mayRecs l = M at hR
  unfold mayRecs at hM
  refine Yg1 @rowL.eq_1 ?_
  by_cases h1 : l.length < 1
  · have h1i : ((l.length : Int) < 1) = True := eq_true (by omega)
    have : M = false := by rw [← hM];simp [h1]
    subst this
    have hR : (([],1) : List Pg × Int) = R := hR
    subst hR
    refine Yg1 @h1i ?_
    refine Yt0 ?_
    refine Yg0 ?_
    refine Ye1 @rowL.eq_1 ?_;try (with_reducible exact trivial)
    (repeat' apply And.intro) <;> rfl
  have h1i : ¬ ((l.length : Int) < 1) := by omega
  by_cases h2 : 100 < l.length
  · have h2i : (100 < (l.length : Int)) = True := eq_true (by omega)
    have : M = false := by rw [← hM];simp [h2]
    subst this
    have hR : (([],1) : List Pg × Int) = R := hR
    subst hR
    refine Yg1 (fa2 @h1i @h2i) ?_
    refine Yt0 ?_
    refine Yg0 ?_
    refine Ye1 @rowL.eq_1 ?_;try (with_reducible exact trivial)
    (repeat' apply And.intro) <;> rfl
  have h2i : ¬ (100 < (l.length : Int)) := by omega
  rw [decide_eq_false h1,decide_eq_false h2] at hM
  simp only [Bool.not_false,Bool.true_and] at hM
  refine Yg1 (fa2 @h1i @h2i) ?_
  refine Yf0 ?_
  (repeat refine LW_seq ?_)
  refine Yo0 ?_
  refine LW_nilB (k := 4) (q := 56) (e := 38) Yq0 ?_
  (repeat refine LW_seq ?_)
  refine Yo0 ?_
  (repeat refine LW_seq ?_)
  refine LW_block ?_
  refine LW_joinB (fun st => M = true ∧ st.env 4 = .bsl 56 (leavesP l).length 38 ∧ (∃ j n m,l.length = 4 * j + n ∧ 1 ≤ n ∧ n ≤ 4 ∧ st.box 56 = some (boxP ((List.range j).map (leafP l)) [boolL true,.sl n (((l.drop (4 * j)).take n).flatMap recL) (.row 1001),.sl 0 [] .nil,.sl 0 [] .nil] m)) ∧ st.mode = fun d => d == 56) ?_ ?_
  · refine LW_loop (fun N st => ∃ (i : Nat) (o : Option (List UInt8)),N + i = l.length ∧ ((i = 0 ∧ o = none) ∨ (0 < i ∧ ∃ r,l[i - 1]? = some r ∧ o = some r.path)) ∧ risesR o (l.drop i) = M ∧ st.env 0 = rowL recL l ∧ st.env 5 = intL i ∧ ((i = 0 ∧ st.env 4 = .bsl 56 0 38 ∧ st.arr 56 = some []) ∨ (∃ j n m,i = 4 * j + n ∧ 1 ≤ n ∧ n ≤ 4 ∧ st.env 4 = .bsl 56 (j + 1) 38 ∧ st.box 56 = some (boxP ((List.range j).map (leafP l)) [boolL true,.sl n (((l.drop (4 * j)).take n).flatMap recL) (.row 1001),.sl 0 [] .nil,.sl 0 [] .nil] m) ∧ st.row 1001 = some (48,n) ∧ st.arr 56 = none)) ∧ st.mode = fun d => d == 56) l.length ⟨0,none,by omega,.inl ⟨rfl,rfl⟩,hM,(Yq1 @rowL.eq_1),Yq0,.inl ⟨rfl,Yq0,Yq0⟩,Yq0⟩ ?_
    rintro N st ⟨i,o,hn,ho,hr,e0,e5,hform,hmd⟩
    simp only [rowL] at e0
    by_cases hlt : i < l.length
    rotate_left
    · have hll : ¬ ((i : Int) < (l.length : Int)) := by omega
      have hil : i = l.length := by omega
      rw [List.drop_of_length_le (by omega),risesR.eq_def] at hr
      rcases hform with ⟨h0,_⟩ | ⟨j,n,m,hi,hn1,hn4,e4,b56,r1001,a56⟩
      · omega
      have hll2 := leavesP_len l
      rw [show j + 1 = (leavesP l).length by omega] at e4
      refine Yg1 (fa3 @e0 @e5 @hll) ?_
      refine Yf0 ?_
      refine LW_exit ?_;simp only [thenL,jumpsL,inBlockL,twoL,reduceIte,Nat.reduceEqDiff]
      exact ⟨hr.symm,(Yq1 @e4),⟨j,n,m,by omega,hn1,hn4,(Yq1 @b56)⟩,(Yq1 @hmd)⟩
    have hlti : ((i : Int) < (l.length : Int)) = True := eq_true (by omega)
    obtain ⟨r,hre⟩ := get_of_lt hlt
    have hd := drop_rec hre
    have hw := w64s (n := i) (by omega)
    have hip : (0 : Int) ≤ (i : Int) := by omega
    obtain ⟨hpl,hsm⟩ := h.one r (List.mem_of_getElem? hre)
    have cm := qmayrec_L r hpl hsm (ht r (List.mem_of_getElem? hre))
    rw [risesR_cons hre] at hr
    simp only [recL,nodeL,attrsL,acesL,piecesL,rowL,List.cons_append,List.nil_append] at cm hd
    refine Yg1 (fa3 @e0 @e5 @hlti) ?_
    refine Yt0 ?_
    refine LW_skip ?_
    simp only [LSj,reduceIte,zze]
    refine LW_seq ?_
    refine LW_block ?_
    (repeat refine LW_seq ?_)
    refine LW_join (fun st => ∃ b,((b = true ∧ M = false) ∨ (b = false ∧ risesR (some r.path) (l.drop (i + 1)) = M)) ∧ st.env 0 = rowL recL l ∧ st.env 5 = intL i ∧ ((i = 0 ∧ st.env 4 = .bsl 56 0 38 ∧ st.arr 56 = some []) ∨ (∃ j n m,i = 4 * j + n ∧ 1 ≤ n ∧ n ≤ 4 ∧ st.env 4 = .bsl 56 (j + 1) 38 ∧ st.box 56 = some (boxP ((List.range j).map (leafP l)) [boolL true,.sl n (((l.drop (4 * j)).take n).flatMap recL) (.row 1001),.sl 0 [] .nil,.sl 0 [] .nil] m) ∧ st.row 1001 = some (48,n) ∧ st.arr 56 = none)) ∧ st.env 49 = boolL b ∧ st.mode = fun d => d == 56) ?_ ?_
    · cases hm : mayRec r
      · rw [hm] at cm hr
        refine Yn1 (fa6 @e0 @e5 @hip @hlt @hd @hmd) ?_;intro K hK
        refine Yc1 (cm) (fa5 @e0 @e5 @hip @hlt @hd) ?_
        refine hK _ ?_;clear hK K;try refine Wh0 ?_
        exact ⟨true,.inl ⟨rfl,hr.symm⟩,(Yq1 (fa2 @e0 @rowL.eq_1)),(Yq1 @e5),by rcases hform with ⟨f0,f1,f2⟩ | ⟨j,n,m,f0,f1,f2,f3,f4,f5,f6⟩;exact .inl ⟨f0,(Yq1 @f1),(Yq1 @f2)⟩;exact .inr ⟨j,n,m,f0,f1,f2,(Yq1 @f3),(Yq1 @f4),(Yq1 @f5),(Yq1 @f6)⟩,Yq0,(Yq1 @hmd)⟩
      rw [hm] at cm hr
      rcases ho with ⟨h0,rfl⟩ | ⟨hi0,q,hq,rfl⟩
      · have hip2 : ¬ ((0 : Int) < (i : Int)) := by omega
        simp only [Bool.true_and] at hr
        refine Yn1 (fa7 @e0 @e5 @hip @hip2 @hlt @hd @hmd) ?_;intro K hK
        refine Yc1 (cm) (fa6 @e0 @e5 @hip @hip2 @hlt @hd) ?_
        refine hK _ ?_;clear hK K;try refine Wh0 ?_
        exact ⟨false,.inr ⟨rfl,hr⟩,(Yq1 (fa2 @e0 @rowL.eq_1)),(Yq1 @e5),by rcases hform with ⟨f0,f1,f2⟩ | ⟨j,n,m,f0,f1,f2,f3,f4,f5,f6⟩;exact .inl ⟨f0,(Yq1 @f1),(Yq1 @f2)⟩;exact .inr ⟨j,n,m,f0,f1,f2,(Yq1 @f3),(Yq1 @f4),(Yq1 @f5),(Yq1 @f6)⟩,Yq0,(Yq1 @hmd)⟩
      · have hdq := drop_rec hq
        obtain ⟨hql,_⟩ := h.one q (List.mem_of_getElem? hq)
        have cl := rpless_L q.path r.path hql hpl
        have hip2 : ((0 : Int) < (i : Int)) = True := eq_true (by omega)
        have hj : IntKind.i64.wrap ((i : Int) - 1) = ((i - 1 : Nat) : Int) := w64p (by omega) (by omega)
        have hj0 : (0 : Int) ≤ ((i - 1 : Nat) : Int) := by omega
        have hjl : i - 1 < l.length := by omega
        simp only [recL,nodeL,attrsL,acesL,piecesL,rowL,List.cons_append,List.nil_append] at hdq
        simp only [Bool.true_and] at hr
        cases hle : lessB q.path r.path
        · rw [hle] at cl hr
          refine Yn1 (fa11 @e0 @e5 @hip @hip2 @hlt @hd @hdq @hj @hj0 @hjl @hmd) ?_;intro K hK
          refine Yc1 (cm) (fa10 @e0 @e5 @hip @hip2 @hlt @hd @hdq @hj @hj0 @hjl) ?_
          refine Yc1 (cl) (fa10 @e0 @e5 @hip @hip2 @hlt @hd @hdq @hj @hj0 @hjl) ?_
          refine hK _ ?_;clear hK K;try refine Wh0 ?_
          exact ⟨true,.inl ⟨rfl,hr.symm⟩,(Yq1 (fa2 @e0 @rowL.eq_1)),(Yq1 @e5),by rcases hform with ⟨f0,f1,f2⟩ | ⟨j,n,m,f0,f1,f2,f3,f4,f5,f6⟩;exact .inl ⟨f0,(Yq1 @f1),(Yq1 @f2)⟩;exact .inr ⟨j,n,m,f0,f1,f2,(Yq1 @f3),(Yq1 @f4),(Yq1 @f5),(Yq1 @f6)⟩,Yq0,(Yq1 @hmd)⟩
        · rw [hle] at cl hr
          refine Yn1 (fa11 @e0 @e5 @hip @hip2 @hlt @hd @hdq @hj @hj0 @hjl @hmd) ?_;intro K hK
          refine Yc1 (cm) (fa10 @e0 @e5 @hip @hip2 @hlt @hd @hdq @hj @hj0 @hjl) ?_
          refine Yc1 (cl) (fa10 @e0 @e5 @hip @hip2 @hlt @hd @hdq @hj @hj0 @hjl) ?_
          refine hK _ ?_;clear hK K;try refine Wh0 ?_
          exact ⟨false,.inr ⟨rfl,hr⟩,(Yq1 (fa2 @e0 @rowL.eq_1)),(Yq1 @e5),by rcases hform with ⟨f0,f1,f2⟩ | ⟨j,n,m,f0,f1,f2,f3,f4,f5,f6⟩;exact .inl ⟨f0,(Yq1 @f1),(Yq1 @f2)⟩;exact .inr ⟨j,n,m,f0,f1,f2,(Yq1 @f3),(Yq1 @f4),(Yq1 @f5),(Yq1 @f6)⟩,Yq0,(Yq1 @hmd)⟩
    clear e0 e5 hform hmd hr ho st
    rintro st ⟨b,hb,e0,e5,hform,e49,hmd⟩
    rcases hb with ⟨rfl,hMf⟩ | ⟨rfl,hr⟩
    · rw [hMf,if_neg (by simp)] at hR
      subst hR
      refine Yt1 @e49 ?_
      refine Yg0 ?_
      refine Ye1 @rowL.eq_1 ?_;try (with_reducible exact trivial)
      (repeat' apply And.intro) <;> rfl
    simp only [rowL] at e0
    have hrem : (i : Int).tmod 4 = ((i % 4 : Nat) : Int) := nmod i 4 4 rfl
    refine Yf1 @e49 ?_
    (repeat refine LW_seq ?_)
    refine Yo1 (fa2 @e5 @hrem) ?_
    (repeat refine LW_seq ?_)
    refine LW_join (fun st => st.env 0 = rowL recL l ∧ st.env 5 = intL i ∧ ((∃ j n m,i = 4 * j + n ∧ 1 ≤ n ∧ n ≤ 3 ∧ st.env 4 = .bsl 56 (j + 1) 38 ∧ st.box 56 = some (boxP ((List.range j).map (leafP l)) [boolL true,.sl n (((l.drop (4 * j)).take n).flatMap recL) (.row 1001),.sl 0 [] .nil,.sl 0 [] .nil] m) ∧ st.row 1001 = some (48,n) ∧ st.arr 56 = none) ∨ (∃ j,i = 4 * j ∧ st.env 4 = .bsl 56 (j + 1) 38 ∧ st.arr 56 = some (((List.range j).map (leafP l)).flatMap pgL ++ [boolL true,nilC,nilC,nilC]))) ∧ st.mode = fun d => d == 56) ?_ ?_
    · by_cases hz : i % 4 = 0
      rotate_left
      · have hzi : ¬ (((i % 4 : Nat) : Int) = 0) := by omega
        refine Yf1 @hzi ?_
        refine Yg0 ?_
        rcases hform with ⟨f0,_⟩ | ⟨j,n,m,f0,f1,f2,f3,f4,f5,f6⟩
        · omega
        exact ⟨(Yq1 (fa2 @e0 @rowL.eq_1)),(Yq1 @e5),.inl ⟨j,n,m,f0,f1,by omega,(Yq1 @f3),(Yq1 @f4),(Yq1 @f5),(Yq1 @f6)⟩,(Yq1 @hmd)⟩
      have hzi : (((i % 4 : Nat) : Int) = 0) = True := eq_true (by omega)
      refine Yt1 @hzi ?_
      refine LW_two (fun st => ∃ j,i = 4 * j ∧ st.env 0 = rowL recL l ∧ st.env 5 = intL i ∧ st.env 4 = .bsl 56 j 38 ∧ st.arr 56 = some (((List.range j).map (leafP l)).flatMap pgL) ∧ st.mode = fun d => d == 56) (fun hgo => ?_) ?_
      · rcases hform with ⟨f0,f1,f2⟩ | ⟨j,n,m,f0,f1,f2,f3,f4,f5,f6⟩
        · exact hgo _ ⟨0,by omega,(Yq1 (fa2 @e0 @rowL.eq_1)),(Yq1 @e5),(Yq1 @f1),(Yq1 @f2),(Yq1 @hmd)⟩
        · have hn4 : n = 4 := by omega
          subst hn4
          have hps : ((List.range j).map (leafP l)).length = j := by simp
          refine LW_boxArr 56 ((((List.range j).map (leafP l)).length + 1) * 4) (cs := boxP ((List.range j).map (leafP l)) [boolL true,.sl 4 (((l.drop (4 * j)).take 4).flatMap recL) (.row 1001),.sl 0 [] .nil,.sl 0 [] .nil] m) (Yq1 @f4) ?_
          have hcl := boxP_close ((List.range j).map (leafP l)) [boolL true,.sl 4 (((l.drop (4 * j)).take 4).flatMap recL) (.row 1001),.sl 0 [] .nil,.sl 0 [] .nil] m (y := ⟨true,(l.drop (4 * j)).take 4,[],[]⟩) rfl (by
            have : ((l.drop (4 * j)).take 4).length = 4 := by rw [List.length_take,List.length_drop];omega
            simp only [pgL,rowL,strsL,intsL,this];rfl)
          rw [leafs_full] at hcl
          refine hgo _ ⟨j + 1,by omega,(Yq1 (fa2 @e0 @rowL.eq_1)),(Yq1 @e5),(Yq1 @f3),?_,(Yq1 @hmd)⟩
          simp only [LSt.asArr,upd_eq,hcl]
      clear e0 e5 hform hmd e49 st
      rintro st ⟨j,hj,e0,e5,e4,a56,hmd⟩
      simp only [rowL] at e0
      have hps : (((List.range j).map (leafP l)).flatMap pgL).length = j * 4 := by rw [pgL_flen];simp
      refine LW_seg ?_
      refine seg_ops 2 ?_
      intro K hK
      simp only [LZ,zo,zc,reduceCtorEq,reduceIte,zz1,zz2,zz3,zz4,zz5,zz6,zz7,zz8,zz9,zza,zzb,zzc,zzd,zze,zzf,e4,hmd]
      refine hK _ ?_
      clear hK K
      simp only [List.drop_succ_cons,List.drop_zero]
      refine seg_weak 54 (x := .agg [boolL true,nilC,nilC,nilC]) (fun w g v hv => nil4 (by simpa only [LZ,zo,zc,reduceCtorEq,reduceIte,zz1,zz2,zz3,zz4,zz5,zz6,zz7,zz8,zz9,zza,zzb,zzc,zzd,zze,zzf] using hv)) ?_
      refine seg_ops 3 ?_
      intro K hK
      simp only [LZ,zo,zc,reduceCtorEq,reduceIte,zz1,zz2,zz3,zz4,zz5,zz6,zz7,zz8,zz9,zza,zzb,zzc,zzd,zze,zzf,nilC,e4,a56,hmd,hps]
      refine ⟨by (repeat' apply And.intro) <;> first | omega | rfl | decide | (unfold maxLen;omega),?_⟩
      refine hK _ ?_
      clear hK K
      refine seg_nil ?_
      exact ⟨(Yq1 (fa2 @e0 @rowL.eq_1)),(Yq1 @e5),.inr ⟨j,hj,Yq0,Yq0⟩,(Yq1 @hmd)⟩
    clear e0 e5 hform hmd e49 st
    rintro st ⟨e0,e5,hform,hmd⟩
    refine LW_two (fun st => st.env 0 = rowL recL l ∧ st.env 5 = intL i ∧ (∃ j n m,i = 4 * j + n ∧ 0 ≤ n ∧ n ≤ 3 ∧ st.env 4 = .bsl 56 (j + 1) 38 ∧ st.box 56 = some (boxP ((List.range j).map (leafP l)) [boolL true,.sl n (((l.drop (4 * j)).take n).flatMap recL) (.row 1001),.sl 0 [] .nil,.sl 0 [] .nil] m) ∧ st.row 1001 = some (48,n) ∧ st.arr 56 = none) ∧ st.mode = fun d => d == 56) (fun hgo => ?_) ?_
    · rcases hform with ⟨j,n,m,f0,f1,f2,f3,f4,f5,f6⟩ | ⟨j,f0,f3,f4⟩
      · exact hgo _ ⟨e0,e5,⟨j,n,m,f0,by omega,f2,f3,f4,f5,f6⟩,hmd⟩
      have hps : ((List.range j).map (leafP l)).length = j := by simp
      refine LW_arrBox 56 f4 (by simp) (by rw [List.all_append,pgL_okB];rfl) fun m => ?_
      refine LW_slim (fun st => st.env 0 = rowL recL l ∧ st.env 5 = intL i ∧ st.env 4 = .bsl 56 (j + 1) 38 ∧ st.box 56 = some (boxP ((List.range j).map (leafP l)) [boolL true,nilC,nilC,nilC] m) ∧ st.arr 56 = none ∧ st.mode = fun d => d == 56) ⟨e0,e5,f3,by simp only [LSt.asBox,upd_eq,boxP,List.append_assoc],by simp only [LSt.asBox,upd_eq],hmd⟩ ?_
      clear e0 e5 hmd f3 f4
      rintro st ⟨e0,e5,e4,b56,a56,hmd⟩
      refine LW_nilC 56 _ _ m b56 ?_
      refine LW_nilBox (cs := boxP ((List.range j).map (leafP l)) [boolL true,.sl 0 [] .nil,.sl 0 [] .nil,.sl 0 [] .nil] m) 56 (((List.range j).map (leafP l)).length * 4 + 1) 1001 48 (by
        simp only [LZ,zo,zc,reduceCtorEq,reduceIte,zz1,zz2,zz3,zz4,zz5,zz6,zz7,zz8,zz9,zza,zzb,zzc,zzd,zze,zzf]
        rw [boxP_forget];rfl) (by rw [boxP_get _ _ _ _ (by simp)];rfl) ?_
      refine hgo _ ⟨(Yq1 (fa2 @e0 @rowL.eq_1)),(Yq1 @e5),⟨j,0,m,by omega,by omega,by omega,(Yq1 @e4),?_,Yq0,(Yq1 @a56)⟩,(Yq1 @hmd)⟩
      simp only [LSt.setBox,upd_eq]
      rw [boxP_set _ _ _ _ _ (by simp)]
      rfl
    clear e0 e5 hform hmd st
    rintro st ⟨e0,e5,⟨j,n,m,hi,hn0,hn3,e4,b56,r1001,a56⟩,hmd⟩
    simp only [rowL] at e0
    have hps : ((List.range j).map (leafP l)).length = j := by simp
    have htn : (l.drop (4 * j)).take (n + 1) = (l.drop (4 * j)).take n ++ [r] := take_next (by rw [← hi];exact hre)
    have hnl : ((l.drop (4 * j)).take n).length = n := by rw [List.length_take,List.length_drop];omega
    have hnf := recL_flen ((l.drop (4 * j)).take n)
    rw [hnl] at hnf
    generalize hrs : (l.drop (4 * j)).take n = rs at *
    generalize hpsd : (List.range j).map (leafP l) = ps at *
    have hsn : (rs ++ [r]).flatMap recL = rs.flatMap recL ++ recL r := by rw [List.flatMap_append];simp
    simp only [recL,nodeL,attrsL,acesL,piecesL,rowL,List.cons_append,List.nil_append] at hsn
    have hlen : (boxP ps [boolL true,.sl n (rs.flatMap recL) .no,.sl 0 [] .nil,.sl 0 [] .nil] m).length = j * 4 + (4 + m) := by rw [boxP_len,hps];rfl
    have hdr := boxP_drop ps [boolL true,.sl n (rs.flatMap recL) (.row 1001),.sl 0 [] .nil,.sl 0 [] .nil] m 1 (by simp)
    have hfg := boxP_forget ps [boolL true,.sl n (rs.flatMap recL) (.row 1001),.sl 0 [] .nil,.sl 0 [] .nil] m 1001
    have hpu := boxP_put ps [boolL true,.sl n (rs.flatMap recL) .no,.sl 0 [] .nil,.sl 0 [] .nil] m 1 (.sl (n + 1) ((rs ++ [r]).flatMap recL) (.row 1001)) (by simp)
    rw [hps] at hdr hpu
    simp only [List.drop_succ_cons,List.drop_zero,List.cons_append,List.nil_append] at hdr
    replace hfg : (boxP ps [boolL true,.sl n (rs.flatMap recL) (.row 1001),.sl 0 [] .nil,.sl 0 [] .nil] m).map (forget1 1001) = boxP ps [boolL true,.sl n (rs.flatMap recL) .no,.sl 0 [] .nil,.sl 0 [] .nil] m := hfg
    replace hpu : _ = boxP ps [boolL true,.sl (n + 1) ((rs ++ [r]).flatMap recL) (.row 1001),.sl 0 [] .nil,.sl 0 [] .nil] m := hpu
    generalize hC2 : boxP ps [boolL true,.sl (n + 1) ((rs ++ [r]).flatMap recL) (.row 1001),.sl 0 [] .nil,.sl 0 [] .nil] m = C2 at *
    generalize boxP ps [boolL true,.sl n (rs.flatMap recL) .no,.sl 0 [] .nil,.sl 0 [] .nil] m = C1 at *
    generalize boxP ps [boolL true,.sl n (rs.flatMap recL) (.row 1001),.sl 0 [] .nil,.sl 0 [] .nil] m = C0 at *
    rw [hsn] at hpu
    have hkw : IntKind.i64.wrap (((j + 1 : Nat) : Int) - 1) = (j : Int) := w64p (n := j + 1) (by omega) (by omega)
    have hj0 : (0 : Int) ≤ (j : Int) := by omega
    have hjj : (j < j + 1) = True := eq_true (by omega)
    have hle : j * 4 + 1 + 1 ≤ j * 4 + (4 + m) := by omega
    (repeat refine LW_seq ?_)
    refine Yo1 (fa2 @e4 @hkw) ?_
    refine LW_slim (fun st => st.env 0 = rowL recL l ∧ st.env 5 = intL i ∧ st.env 4 = .bsl 56 (j + 1) 38 ∧ st.env 6 = intL j ∧ st.box 56 = some C0 ∧ st.arr 56 = none ∧ st.row 1001 = some (48,n) ∧ st.mode = fun d => d == 56) ⟨(Yq1 (fa2 @e0 @rowL.eq_1)),(Yq1 @e5),(Yq1 @e4),Yq0,(Yq1 @b56),(Yq1 @a56),(Yq1 @r1001),(Yq1 @hmd)⟩ ?_
    clear e0 e5 e4 b56 a56 r1001 hmd st
    rintro st ⟨e0,e5,e4,e6,b56,a56,r1001,hmd⟩
    simp only [rowL] at e0
    (repeat refine LW_seq ?_)
    (repeat (first | refine LW_seq ?_ | (refine LW_skip ?_;simp only [LSj,reduceIte,zze]) | refine LW_block ?_));refine LW_mix2 [] [] (fun d => d == 56) [(0,[56]),(1,[]),(12,[56])] [0,1,2,3,4,5,6,7,8,9,10,11] [[12,13,14,15]] rfl (by kernel_rfl) (by kernel_rfl) (by kernel_rfl) (by first | exact rfl | exact hmd | simp only [LZ,zo,zc,reduceCtorEq,reduceIte,zz1,zz2,zz3,zz4,zz5,zz6,zz7,zz8,zz9,zza,zzb,zzc,zzd,zze,zzf,e0,e4,e5,e6,b56,a56,r1001,hmd,hip,hlt,hd,hj0,hjj,hdr,hfg,hnf,hlen,hle]) ?_;intro K hK;simp only [LZ,zo,zc,reduceCtorEq,reduceIte,zz1,zz2,zz3,zz4,zz5,zz6,zz7,zz8,zz9,zza,zzb,zzc,zzd,zze,zzf,e0,e4,e5,e6,b56,a56,r1001,hmd,hip,hlt,hd,hj0,hjj,hdr,hfg,hnf,hlen,hle]
    (repeat' apply And.intro) <;> first | omega | (unfold maxLen;omega) | rfl | skip
    refine hK _ ?_
    clear hK K
    refine LW_slim (fun st => st.env 0 = rowL recL l ∧ st.env 5 = intL i ∧ st.env 4 = .bsl 56 (j + 1) 38 ∧ st.box 56 = some C2 ∧ st.arr 56 = none ∧ st.row 1001 = some (48,n + 1) ∧ st.mode = fun d => d == 56) ⟨(Yq1 (fa2 @e0 @rowL.eq_1)),(Yq1 @e5),(Yq1 @e4),by rw [← hpu];exact (Yq1 @hfg),(Yq1 @a56),Yq0,(Yq1 @hmd)⟩ ?_
    clear e0 e5 e4 e6 b56 a56 r1001 hmd st
    rintro st ⟨e0,e5,e4,b56,a56,r1001,hmd⟩
    refine Yg1 (fa2 @e5 @hw) ?_
    exact ⟨N - 1,by omega,i + 1,some r.path,by omega,.inr ⟨by omega,r,by rw [Nat.add_sub_cancel];exact hre,rfl⟩,hr,(Yq1 (fa2 @e0 @rowL.eq_1)),(Yq1 @hw),.inr ⟨j,n + 1,m,by omega,by omega,by omega,(Yq1 @e4),by rw [hpsd,htn,hC2];exact (Yq1 @b56),(Yq1 @r1001),(Yq1 @a56)⟩,(Yq1 @hmd)⟩
  rintro st ⟨hM1,e4,⟨j,n,m,hln,hn1,hn4,b56⟩,hmd⟩
  subst hM1
  rw [if_pos rfl] at hR
  subst hR
  obtain ⟨hR1,hR2⟩ : 1 ≤ l.length ∧ l.length ≤ 100 := by omega
  refine LW_boxArr 56 ((((List.range j).map (leafP l)).length + 1) * 4) b56 ?_
  have hcl := boxP_close ((List.range j).map (leafP l)) [boolL true,.sl n (((l.drop (4 * j)).take n).flatMap recL) (.row 1001),.sl 0 [] .nil,.sl 0 [] .nil] m (y := ⟨true,(l.drop (4 * j)).take n,[],[]⟩) rfl (by
    have : ((l.drop (4 * j)).take n).length = n := by rw [List.length_take,List.length_drop];omega
    simp only [pgL,rowL,strsL,intsL,this];rfl)
  rw [leafs_end hln hn1 hn4] at hcl
  rw [hcl]
  refine LW_slim (fun st => st.env 4 = .bsl 56 (leavesP l).length 38 ∧ st.arr 56 = some ((leavesP l).flatMap pgL) ∧ st.mode = fun d => d == 56) ⟨(Yq1 @e4),by simp only [LSt.asArr,upd_eq],(Yq1 @hmd)⟩ ?_
  clear e4 b56 hmd hcl st
  rintro st ⟨e4,a56,hmd⟩
  (repeat refine LW_seq ?_)
  refine Yo0 ?_
  (repeat refine LW_seq ?_)
  refine LW_block ?_
  have hll := leavesP_len l
  refine LW_joinB (fun st => st.env 4 = .bsl 56 (buildP l).length 38 ∧ st.arr 56 = some ((buildP l).flatMap pgL) ∧ st.mode = fun d => d == 56) ?_ ?_
  · refine LW_loop (fun f st => ∃ (p : List Pg) (a : Nat),levelsP f p a = buildP l ∧ a ≤ p.length ∧ p.length - a ≤ 4 ^ f ∧ p.length + 2 * (p.length - a) ≤ 200 ∧ (∀ x ∈ p,SmallP x ∧ ∀ r ∈ x.recs,r.node.target.length ≤ maxLen) ∧ st.env 4 = .bsl 56 p.length 38 ∧ st.arr 56 = some (p.flatMap pgL) ∧ st.env 7 = intL a ∧ st.mode = fun d => d == 56) 4 ⟨leavesP l,0,rfl,by omega,by rw [hll];have : 4 ^ 4 = 256 := rfl;omega,by rw [hll];omega,fun x hx => ⟨leavesP_small h x hx,fun r hr => by
      obtain ⟨j,_,rfl⟩ := List.mem_map.1 hx
      exact ht r (List.mem_of_mem_drop (List.mem_of_mem_take hr))⟩,(Yq1 @e4),(Yq1 @a56),Yq0,(Yq1 @hmd)⟩ ?_
    clear e4 a56 hmd hln hn1 hn4 j n m st
    rintro f st ⟨p,a,hb,ha,hn,hpl,hs,e4,a56,e7,hmd⟩
    have hw := w64 (x := (p.length : Int) - (a : Int)) (by omega)
    have hsub : (p.length : Int) - (a : Int) = ((p.length - a : Nat) : Int) := by omega
    rw [hsub] at hw
    by_cases h1 : 1 < p.length - a
    rotate_left
    · have h1i : ¬ ((1 : Int) < ((p.length - a : Nat) : Int)) := by omega
      have hbp : p = buildP l := by
        rw [← hb]
        cases f with
        | zero => rfl
        | succ f => rw [levelsP,if_neg h1]
      refine Yg1 (fa5 @e4 @e7 @hsub @hw @h1i) ?_
      refine Yf0 ?_
      refine LW_exit ?_;simp only [thenL,jumpsL,inBlockL,twoL,reduceIte,Nat.reduceEqDiff]
      rw [← hbp]
      exact ⟨(Yq1 @e4),(Yq1 @a56),(Yq1 @hmd)⟩
    have h1t : ((1 : Int) < ((p.length - a : Nat) : Int)) = True := eq_true (by omega)
    obtain ⟨f,rfl⟩ : ∃ g,f = g + 1 := by
      cases f with
      | zero => rw [Nat.pow_zero] at hn;omega
      | succ f => exact ⟨f,rfl⟩
    rw [levelsP,if_pos h1] at hb
    rw [pow4] at hn
    refine Yg1 (fa5 @e4 @e7 @hsub @hw @h1t) ?_
    refine Yt0 ?_
    refine LW_skip ?_
    simp only [LSj,reduceIte,zze]
    refine LW_block ?_
    (repeat refine LW_seq ?_)
    refine Yo1 @e4 ?_
    (repeat refine LW_seq ?_)
    refine Yo1 @e7 ?_
    (repeat refine LW_seq ?_)
    refine LW_block ?_
    refine LW_joinB (fun st => st.env 8 = intL p.length ∧ (∃ j n m,p.length = a + 4 * j + n ∧ 1 ≤ n ∧ n ≤ 4 ∧ st.env 4 = .bsl 56 (p.length + j + 1) 38 ∧ st.box 56 = some (boxP (p ++ fullL p a j) [boolL false,.sl 0 [] .nil,.sl n ((innerP p (a + 4 * j) n).keys.flatMap strE) (.row 1001),.sl n ((innerP p (a + 4 * j) n).pages.flatMap intE) (.row 1002)] m)) ∧ st.mode = fun d => d == 56) ?_ ?_
    · refine LW_loop (fun N st => ∃ i : Nat,N + i = p.length ∧ a ≤ i ∧ ((i = a ∧ st.env 4 = .bsl 56 p.length 38 ∧ st.arr 56 = some (p.flatMap pgL)) ∨ (∃ j n m,i = a + 4 * j + n ∧ 1 ≤ n ∧ n ≤ 4 ∧ st.env 4 = .bsl 56 (p.length + j + 1) 38 ∧ st.box 56 = some (boxP (p ++ fullL p a j) [boolL false,.sl 0 [] .nil,.sl n ((innerP p (a + 4 * j) n).keys.flatMap strE) (.row 1001),.sl n ((innerP p (a + 4 * j) n).pages.flatMap intE) (.row 1002)] m) ∧ st.row 1001 = some (9,n) ∧ st.row 1002 = some (3,n) ∧ st.arr 56 = none)) ∧ st.env 7 = intL a ∧ st.env 8 = intL p.length ∧ st.env 9 = intL i ∧ st.mode = fun d => d == 56) (p.length - a) ⟨a,by omega,Nat.le_refl _,.inl ⟨rfl,(Yq1 @e4),(Yq1 @a56)⟩,(Yq1 @e7),Yq0,Yq0,(Yq1 @hmd)⟩ ?_
      clear e4 a56 e7 hmd st
      rintro N st ⟨i,hN,hai,hform,e7,e8,e9,hmd⟩
      by_cases hlt : i < p.length
      rotate_left
      · have hll : ¬ ((i : Int) < (p.length : Int)) := by omega
        rcases hform with ⟨h0,_⟩ | ⟨j,n,m,hi,hn1,hn4,e4,b56,r1001,r1002,a56⟩
        · omega
        refine Yg1 (fa3 @e8 @e9 @hll) ?_
        refine Yf0 ?_
        refine LW_exit ?_;simp only [thenL,jumpsL,inBlockL,twoL,reduceIte,Nat.reduceEqDiff]
        exact ⟨(Yq1 @e8),⟨j,n,m,by omega,hn1,hn4,(Yq1 @e4),(Yq1 @b56)⟩,(Yq1 @hmd)⟩
      have hlti : ((i : Int) < (p.length : Int)) = True := eq_true (by omega)
      obtain ⟨y,hy⟩ := get_of_lt hlt
      obtain ⟨hsy,hty⟩ := hs y (List.mem_of_getElem? hy)
      have hwi := w64s (n := i) (by omega)
      have hip : (0 : Int) ≤ (i : Int) := by omega
      have cf := qfirst_L y hsy hty
      have hsi := w64 (x := (i : Int) - (a : Int)) (by omega)
      have hsi2 : (i : Int) - (a : Int) = ((i - a : Nat) : Int) := by omega
      rw [hsi2] at hsi
      have hrem : ((i - a : Nat) : Int).tmod 4 = (((i - a) % 4 : Nat) : Int) := nmod (i - a) 4 4 rfl
      refine Yg1 (fa3 @e8 @e9 @hlti) ?_
      refine Yt0 ?_
      refine LW_skip ?_
      simp only [LSj,reduceIte,zze]
      refine LW_seq ?_
      refine LW_block ?_
      (repeat refine LW_seq ?_)
      refine Yo1 (fa5 @e7 @e9 @hsi2 @hsi @hrem) ?_
      (repeat refine LW_seq ?_)
      refine LW_join (fun st => st.env 7 = intL a ∧ st.env 8 = intL p.length ∧ st.env 9 = intL i ∧ ((∃ j n m,i = a + 4 * j + n ∧ 1 ≤ n ∧ n ≤ 3 ∧ st.env 4 = .bsl 56 (p.length + j + 1) 38 ∧ st.box 56 = some (boxP (p ++ fullL p a j) [boolL false,.sl 0 [] .nil,.sl n ((innerP p (a + 4 * j) n).keys.flatMap strE) (.row 1001),.sl n ((innerP p (a + 4 * j) n).pages.flatMap intE) (.row 1002)] m) ∧ st.row 1001 = some (9,n) ∧ st.row 1002 = some (3,n) ∧ st.arr 56 = none) ∨ (∃ j,i = a + 4 * j ∧ st.env 4 = .bsl 56 (p.length + j + 1) 38 ∧ st.arr 56 = some ((p ++ fullL p a j).flatMap pgL ++ [boolL false,nilC,nilC,nilC]))) ∧ st.mode = fun d => d == 56) ?_ ?_
      · by_cases hz : (i - a) % 4 = 0
        rotate_left
        · have hzi : ¬ ((((i - a) % 4 : Nat) : Int) = 0) := by omega
          refine Yf1 @hzi ?_
          refine Yg0 ?_
          rcases hform with ⟨f0,_⟩ | ⟨j,n,m,f0,f1,f2,f3,f4,f5,f6,f7⟩
          · exact absurd (by omega) hz
          exact ⟨(Yq1 @e7),(Yq1 @e8),(Yq1 @e9),.inl ⟨j,n,m,f0,f1,by omega,(Yq1 @f3),(Yq1 @f4),(Yq1 @f5),(Yq1 @f6),(Yq1 @f7)⟩,(Yq1 @hmd)⟩
        have hzi : ((((i - a) % 4 : Nat) : Int) = 0) = True := eq_true (by omega)
        refine Yt1 @hzi ?_
        refine LW_two (fun st => ∃ j,i = a + 4 * j ∧ st.env 7 = intL a ∧ st.env 8 = intL p.length ∧ st.env 9 = intL i ∧ st.env 4 = .bsl 56 (p.length + j) 38 ∧ st.arr 56 = some ((p ++ fullL p a j).flatMap pgL) ∧ st.mode = fun d => d == 56) (fun hgo => ?_) ?_
        · rcases hform with ⟨f0,f1,f2⟩ | ⟨j,n,m,f0,f1,f2,f3,f4,f5,f6,f7⟩
          · have h0 : p ++ fullL p a 0 = p := by unfold fullL;simp
            exact hgo _ ⟨0,by omega,(Yq1 @e7),(Yq1 @e8),(Yq1 @e9),(Yq1 @f1),by rw [h0];exact (Yq1 @f2),(Yq1 @hmd)⟩
          · have hn4 : n = 4 := by omega
            subst hn4
            have hps : (p ++ fullL p a j).length = p.length + j := by rw [List.length_append,fullL_len]
            have hcl := boxP_close (p ++ fullL p a j) [boolL false,.sl 0 [] .nil,.sl 4 ((innerP p (a + 4 * j) 4).keys.flatMap strE) (.row 1001),.sl 4 ((innerP p (a + 4 * j) 4).pages.flatMap intE) (.row 1002)] m (y := innerP p (a + 4 * j) 4) rfl (by
              simp only [pgL,rowL,strsL,intsL,innerP,List.length_map,List.length_range'];rfl)
            rw [List.append_assoc,full_next] at hcl
            refine LW_boxArr 56 (((p ++ fullL p a j).length + 1) * 4) (cs := boxP (p ++ fullL p a j) [boolL false,.sl 0 [] .nil,.sl 4 ((innerP p (a + 4 * j) 4).keys.flatMap strE) (.row 1001),.sl 4 ((innerP p (a + 4 * j) 4).pages.flatMap intE) (.row 1002)] m) (Yq1 @f4) ?_
            refine hgo _ ⟨j + 1,by omega,(Yq1 @e7),(Yq1 @e8),(Yq1 @e9),(Yq1 @f3),?_,(Yq1 @hmd)⟩
            simp only [LSt.asArr,upd_eq,hcl]
        clear e7 e8 e9 hform hmd st
        rintro st ⟨j,hj,e7,e8,e9,e4,a56,hmd⟩
        have hps : ((p ++ fullL p a j).flatMap pgL).length = (p.length + j) * 4 := by rw [pgL_flen,List.length_append,fullL_len]
        refine LW_seg ?_
        refine seg_ops 2 ?_
        intro K hK
        simp only [LZ,zo,zc,reduceCtorEq,reduceIte,zz1,zz2,zz3,zz4,zz5,zz6,zz7,zz8,zz9,zza,zzb,zzc,zzd,zze,zzf,e4,hmd]
        refine hK _ ?_
        clear hK K
        simp only [List.drop_succ_cons,List.drop_zero]
        refine seg_weak 94 (x := .agg [boolL false,nilC,nilC,nilC]) (fun w g v hv => nil4 (by simpa only [LZ,zo,zc,reduceCtorEq,reduceIte,zz1,zz2,zz3,zz4,zz5,zz6,zz7,zz8,zz9,zza,zzb,zzc,zzd,zze,zzf] using hv)) ?_
        refine seg_ops 3 ?_
        intro K hK
        simp only [LZ,zo,zc,reduceCtorEq,reduceIte,zz1,zz2,zz3,zz4,zz5,zz6,zz7,zz8,zz9,zza,zzb,zzc,zzd,zze,zzf,nilC,e4,a56,hmd,hps]
        refine ⟨by (repeat' apply And.intro) <;> first | omega | rfl | decide | (unfold maxLen;omega),?_⟩
        refine hK _ ?_
        clear hK K
        refine seg_nil ?_
        exact ⟨(Yq1 @e7),(Yq1 @e8),(Yq1 @e9),.inr ⟨j,hj,Yq0,Yq0⟩,(Yq1 @hmd)⟩
      clear e7 e8 e9 hform hmd st
      rintro st ⟨e7,e8,e9,hform,hmd⟩
      refine LW_two (fun st => st.env 7 = intL a ∧ st.env 8 = intL p.length ∧ st.env 9 = intL i ∧ (∃ j n m,i = a + 4 * j + n ∧ 0 ≤ n ∧ n ≤ 3 ∧ st.env 4 = .bsl 56 (p.length + j + 1) 38 ∧ st.box 56 = some (boxP (p ++ fullL p a j) [boolL false,.sl 0 [] .nil,.sl n ((innerP p (a + 4 * j) n).keys.flatMap strE) (.row 1001),.sl n ((innerP p (a + 4 * j) n).pages.flatMap intE) (.row 1002)] m) ∧ st.row 1001 = some (9,n) ∧ st.row 1002 = some (3,n) ∧ st.arr 56 = none) ∧ st.mode = fun d => d == 56) (fun hgo => ?_) ?_
      · rcases hform with ⟨j,n,m,f0,f1,f2,f3,f4,f5,f6,f7⟩ | ⟨j,f0,f3,f4⟩
        · exact hgo _ ⟨e7,e8,e9,⟨j,n,m,f0,by omega,f2,f3,f4,f5,f6,f7⟩,hmd⟩
        have hps : (p ++ fullL p a j).length = p.length + j := by rw [List.length_append,fullL_len]
        refine LW_arrBox 56 f4 (by simp) (by rw [List.all_append,pgL_okB];rfl) fun m => ?_
        refine LW_slim (fun st => st.env 7 = intL a ∧ st.env 8 = intL p.length ∧ st.env 9 = intL i ∧ st.env 4 = .bsl 56 (p.length + j + 1) 38 ∧ st.box 56 = some (boxP (p ++ fullL p a j) [boolL false,nilC,nilC,nilC] m) ∧ st.arr 56 = none ∧ st.mode = fun d => d == 56) ⟨e7,e8,e9,f3,by simp only [LSt.asBox,upd_eq,boxP,List.append_assoc],by simp only [LSt.asBox,upd_eq],hmd⟩ ?_
        clear e7 e8 e9 hmd f3 f4
        rintro st ⟨e7,e8,e9,e4,b56,a56,hmd⟩
        refine LW_nilC 56 _ _ m b56 ?_
        refine LW_nilBox (cs := boxP (p ++ fullL p a j) [boolL false,.sl 0 [] .nil,.sl 0 [] .nil,.sl 0 [] .nil] m) 56 ((p ++ fullL p a j).length * 4 + 2) 1001 9 (by
        simp only [LZ,zo,zc,reduceCtorEq,reduceIte,zz1,zz2,zz3,zz4,zz5,zz6,zz7,zz8,zz9,zza,zzb,zzc,zzd,zze,zzf]
        rw [boxP_forget];rfl) (by rw [boxP_get _ _ _ _ (by simp)];rfl) ?_
        rw [boxP_set _ _ _ _ _ (by simp)]
        refine LW_nilBox (cs := boxP (p ++ fullL p a j) [boolL false,.sl 0 [] .nil,.sl 0 [] (.row 1001),.sl 0 [] .nil] m) 56 ((p ++ fullL p a j).length * 4 + 3) 1002 3 (by
          simp only [LZ,zo,zc,reduceCtorEq,reduceIte,zz1,zz2,zz3,zz4,zz5,zz6,zz7,zz8,zz9,zza,zzb,zzc,zzd,zze,zzf]
          rw [boxP_forget];rfl) (by rw [boxP_get _ _ _ _ (by simp)];rfl) ?_
        rw [boxP_set _ _ _ _ _ (by simp)]
        exact hgo _ ⟨(Yq1 @e7),(Yq1 @e8),(Yq1 @e9),⟨j,0,m,by omega,by omega,by omega,(Yq1 @e4),by simp only [LSt.setBox,upd_eq];rfl,Yq0,Yq0,(Yq1 @a56)⟩,(Yq1 @hmd)⟩
      clear e7 e8 e9 hform hmd st
      rintro st ⟨e7,e8,e9,⟨j,n,m,hi,hn0,hn3,e4,b56,r1001,r1002,a56⟩,hmd⟩
      have hps : (p ++ fullL p a j).length = p.length + j := by rw [List.length_append,fullL_len]
      have hrd := boxP_read (p ++ fullL p a j) [boolL false,.sl 0 [] .nil,.sl n ((innerP p (a + 4 * j) n).keys.flatMap strE) (.row 1001),.sl n ((innerP p (a + 4 * j) n).pages.flatMap intE) (.row 1002)] m (i := i) (y := y) (by rw [List.getElem?_append_left hlt];exact hy)
      have hsu := innerP_succ p (a + 4 * j) n
      have hyd : p.getD (a + 4 * j + n) zeroPg = y := by rw [List.getD_eq_getElem?_getD,← hi,hy];rfl
      rw [hyd,← hi] at hsu
      have hkl : (innerP p (a + 4 * j) n).keys.length = n := by simp [innerP]
      have hnl : (innerP p (a + 4 * j) n).pages.length = n := by simp [innerP]
      have hkf := strE_flen (innerP p (a + 4 * j) n).keys
      have hnf : ((innerP p (a + 4 * j) n).pages.flatMap intE).length = (innerP p (a + 4 * j) n).pages.length := by rw [len_flat intE 1 intE_len _,Nat.mul_one]
      have hk1 : (innerP p (a + 4 * j) (n + 1)).keys.flatMap strE = (innerP p (a + 4 * j) n).keys.flatMap strE ++ [strL (firstPg y)] := by rw [hsu,List.flatMap_append];rfl
      have hn1 : (innerP p (a + 4 * j) (n + 1)).pages.flatMap intE = (innerP p (a + 4 * j) n).pages.flatMap intE ++ [intL (i : Nat)] := by rw [hsu,List.flatMap_append];rfl
      rw [hkl] at hkf
      rw [hnl] at hnf
      clear hsu hkl hnl
      generalize hq1 : (innerP p (a + 4 * j) (n + 1)).keys.flatMap strE = KS1 at *
      generalize hq2 : (innerP p (a + 4 * j) (n + 1)).pages.flatMap intE = NS1 at *
      generalize (innerP p (a + 4 * j) n).keys.flatMap strE = KS at *
      generalize (innerP p (a + 4 * j) n).pages.flatMap intE = NS at *
      have hlps : (p ++ fullL p a j).length = (p ++ fullL p a j).length := rfl
      generalize hqq : p ++ fullL p a j = ps at *
      obtain ⟨q,hq⟩ : ∃ q,q = p.length + j := ⟨_,rfl⟩
      rw [← hq] at e4 hps
      have hqi : i < q := by omega
      have hqb : q ≤ 1000 := by omega
      have hdr := boxP_drop ps [boolL false,.sl 0 [] .nil,.sl n KS (.row 1001),.sl n NS (.row 1002)] m 2 (by simp)
      have hfg := boxP_forget ps [boolL false,.sl 0 [] .nil,.sl n KS (.row 1001),.sl n NS (.row 1002)] m 1001
      have hpu := boxP_put ps [boolL false,.sl 0 [] .nil,.sl n KS .no,.sl n NS (.row 1002)] m 2 (.sl (n + 1) KS1 (.row 1001)) (by simp)
      have hdr2 := boxP_drop ps [boolL false,.sl 0 [] .nil,.sl (n + 1) KS1 (.row 1001),.sl n NS (.row 1002)] m 3 (by simp)
      have hfg2 := boxP_forget ps [boolL false,.sl 0 [] .nil,.sl (n + 1) KS1 (.row 1001),.sl n NS (.row 1002)] m 1002
      have hpu2 := boxP_put ps [boolL false,.sl 0 [] .nil,.sl (n + 1) KS1 (.row 1001),.sl n NS .no] m 3 (.sl (n + 1) NS1 (.row 1002)) (by simp)
      have hlen := boxP_len ps [boolL false,.sl 0 [] .nil,.sl n KS .no,.sl n NS (.row 1002)] m
      have hlen2 := boxP_len ps [boolL false,.sl 0 [] .nil,.sl (n + 1) KS1 (.row 1001),.sl n NS .no] m
      rw [hps] at hdr hpu hdr2 hpu2 hlen hlen2
      simp only [List.drop_succ_cons,List.drop_zero,List.cons_append,List.nil_append] at hdr hdr2
      simp only [List.length_cons,List.length_nil,Nat.zero_add,Nat.reduceAdd] at hlen hlen2
      replace hfg : (boxP ps [boolL false,.sl 0 [] .nil,.sl n KS (.row 1001),.sl n NS (.row 1002)] m).map (forget1 1001) = boxP ps [boolL false,.sl 0 [] .nil,.sl n KS .no,.sl n NS (.row 1002)] m := hfg
      replace hfg2 : (boxP ps [boolL false,.sl 0 [] .nil,.sl (n + 1) KS1 (.row 1001),.sl n NS (.row 1002)] m).map (forget1 1002) = boxP ps [boolL false,.sl 0 [] .nil,.sl (n + 1) KS1 (.row 1001),.sl n NS .no] m := hfg2
      replace hpu : _ = boxP ps [boolL false,.sl 0 [] .nil,.sl (n + 1) KS1 (.row 1001),.sl n NS (.row 1002)] m := hpu
      replace hpu2 : _ = boxP ps [boolL false,.sl 0 [] .nil,.sl (n + 1) KS1 (.row 1001),.sl (n + 1) NS1 (.row 1002)] m := hpu2
      generalize hC4 : boxP ps [boolL false,.sl 0 [] .nil,.sl (n + 1) KS1 (.row 1001),.sl (n + 1) NS1 (.row 1002)] m = C4 at *
      generalize boxP ps [boolL false,.sl 0 [] .nil,.sl (n + 1) KS1 (.row 1001),.sl n NS .no] m = C3 at *
      generalize boxP ps [boolL false,.sl 0 [] .nil,.sl (n + 1) KS1 (.row 1001),.sl n NS (.row 1002)] m = C2 at *
      generalize boxP ps [boolL false,.sl 0 [] .nil,.sl n KS .no,.sl n NS (.row 1002)] m = C1 at *
      generalize boxP ps [boolL false,.sl 0 [] .nil,.sl n KS (.row 1001),.sl n NS (.row 1002)] m = C0 at *
      rw [hk1] at hpu
      rw [hn1] at hpu2
      have hkw : IntKind.i64.wrap (((q + 1 : Nat) : Int) - 1) = (q : Int) := w64p (n := q + 1) (by omega) (by omega)
      have hq0 : (0 : Int) ≤ (q : Int) := by omega
      have hqq1 : (q < q + 1) = True := eq_true (by omega)
      have hiq : (i < q + 1) = True := eq_true (by omega)
      have hle : q * 4 + 2 + 1 ≤ q * 4 + (4 + m) := by omega
      have hle2 : q * 4 + 3 + 1 ≤ q * 4 + (4 + m) := by omega
      simp only [pgL,rowL,strsL,intsL,List.cons_append,List.nil_append] at cf hrd
      generalize firstPg y = fx at *
      (repeat refine LW_seq ?_)
      refine Yo1 (fa2 @e4 @hkw) ?_
      refine LW_slim (fun st => st.env 7 = intL a ∧ st.env 8 = intL p.length ∧ st.env 9 = intL i ∧ st.env 4 = .bsl 56 (q + 1) 38 ∧ st.env 10 = intL q ∧ st.box 56 = some C0 ∧ st.arr 56 = none ∧ st.row 1001 = some (9,n) ∧ st.row 1002 = some (3,n) ∧ st.mode = fun d => d == 56) ⟨(Yq1 @e7),(Yq1 @e8),(Yq1 @e9),(Yq1 @e4),Yq0,(Yq1 @b56),(Yq1 @a56),(Yq1 @r1001),(Yq1 @r1002),(Yq1 @hmd)⟩ ?_
      clear e7 e8 e9 e4 b56 a56 r1001 r1002 hmd st
      rintro st ⟨e7,e8,e9,e4,e10,b56,a56,r1001,r1002,hmd⟩
      (repeat refine LW_seq ?_)
      (repeat (first | refine LW_seq ?_ | (refine LW_skip ?_;simp only [LSj,reduceIte,zze]) | refine LW_block ?_));refine LW_mix2 [] [] (fun d => d == 56) [(0,[56]),(1,[]),(13,[56])] [0,1,2,3,4,5,6,7,8,9,10,11,12] [[13,14,15,16]] rfl (by kernel_rfl) (by kernel_rfl) (by kernel_rfl) (by first | exact rfl | exact hmd | simp only [LZ,zo,zc,reduceCtorEq,reduceIte,zz1,zz2,zz3,zz4,zz5,zz6,zz7,zz8,zz9,zza,zzb,zzc,zzd,zze,zzf,e4,e9,e10,b56,a56,r1001,r1002,hmd,hip,hlt,hiq,hrd,hq0,hqq1,hdr,hfg,hkf,hlen,hle]) ?_;intro K hK;simp only [LZ,zo,zc,reduceCtorEq,reduceIte,zz1,zz2,zz3,zz4,zz5,zz6,zz7,zz8,zz9,zza,zzb,zzc,zzd,zze,zzf,e4,e9,e10,b56,a56,r1001,r1002,hmd,hip,hlt,hiq,hrd,hq0,hqq1,hdr,hfg,hkf,hlen,hle]
      refine Yx1 (cf) (fa19 @e4 @e9 @e10 @b56 @a56 @r1001 @r1002 @hmd @hip @hlt @hiq @hrd @hq0 @hqq1 @hdr @hfg @hkf @hlen @hle) ?_
      (repeat' apply And.intro) <;> first | omega | (unfold maxLen;omega) | rfl | skip
      refine hK _ ?_
      clear hK K
      refine LW_slim (fun st => st.env 7 = intL a ∧ st.env 8 = intL p.length ∧ st.env 9 = intL i ∧ st.env 4 = .bsl 56 (q + 1) 38 ∧ st.env 10 = intL q ∧ st.box 56 = some C2 ∧ st.arr 56 = none ∧ st.row 1001 = some (9,n + 1) ∧ st.row 1002 = some (3,n) ∧ st.mode = fun d => d == 56) ⟨(Yq1 @e7),(Yq1 @e8),(Yq1 @e9),(Yq1 @e4),(Yq1 @e10),by rw [← hpu];exact (Yq1 @hfg),(Yq1 @a56),Yq0,(Yq1 @r1002),(Yq1 @hmd)⟩ ?_
      clear e7 e8 e9 e4 e10 b56 a56 r1001 r1002 hmd st
      rintro st ⟨e7,e8,e9,e4,e10,b56,a56,r1001,r1002,hmd⟩
      (repeat refine LW_seq ?_)
      refine Yr1 (fa14 @e4 @e9 @e10 @b56 @a56 @r1002 @hmd @hq0 @hqq1 @hdr2 @hfg2 @hnf @hlen2 @hle2) ?_;intro K hK
      (repeat' apply And.intro) <;> first | omega | (unfold maxLen;omega) | rfl | skip
      refine hK _ ?_
      clear hK K
      refine LW_slim (fun st => st.env 7 = intL a ∧ st.env 8 = intL p.length ∧ st.env 9 = intL i ∧ st.env 4 = .bsl 56 (q + 1) 38 ∧ st.box 56 = some C4 ∧ st.arr 56 = none ∧ st.row 1001 = some (9,n + 1) ∧ st.row 1002 = some (3,n + 1) ∧ st.mode = fun d => d == 56) ⟨(Yq1 @e7),(Yq1 @e8),(Yq1 @e9),(Yq1 @e4),by rw [← hpu2];exact (Yq1 @hfg2),(Yq1 @a56),(Yq1 @r1001),Yq0,(Yq1 @hmd)⟩ ?_
      clear e7 e8 e9 e4 e10 b56 a56 r1001 r1002 hmd st
      rintro st ⟨e7,e8,e9,e4,b56,a56,r1001,r1002,hmd⟩
      refine Yg1 (fa2 @e9 @hwi) ?_
      exact ⟨N - 1,by omega,i + 1,by omega,by omega,.inr ⟨j,n + 1,m,by omega,by omega,by omega,by rw [← hq];exact (Yq1 @e4),by rw [hqq,hq1,hq2,hC4];exact (Yq1 @b56),(Yq1 @r1001),(Yq1 @r1002),(Yq1 @a56)⟩,(Yq1 @e7),(Yq1 @e8),(Yq1 @hwi),(Yq1 @hmd)⟩
    clear e4 a56 e7 hmd st
    rintro st ⟨e8,⟨j,n,m,hpl2,hn1,hn4,e4,b56⟩,hmd⟩
    have hlv := levelP_len p a p.length
    have hjl : p.length + j + 1 = (p ++ levelP p a p.length).length := by rw [List.length_append,hlv];omega
    rw [hjl] at e4
    have hcl := boxP_close (p ++ fullL p a j) [boolL false,.sl 0 [] .nil,.sl n ((innerP p (a + 4 * j) n).keys.flatMap strE) (.row 1001),.sl n ((innerP p (a + 4 * j) n).pages.flatMap intE) (.row 1002)] m (y := innerP p (a + 4 * j) n) rfl (by
      simp only [pgL,rowL,strsL,intsL,innerP,List.length_map,List.length_range'];rfl)
    rw [List.append_assoc,full_end hpl2 hn1 hn4] at hcl
    refine LW_boxArr 56 (((p ++ fullL p a j).length + 1) * 4) b56 ?_
    rw [hcl]
    have hs2 := levelP_small (fun x hx => (hs x hx).1) a p.length
    refine Yg1 @e8 ?_
    exact ⟨f,by omega,p ++ levelP p a p.length,p.length,hb,by omega,by rw [← hjl];omega,by rw [← hjl];omega,fun x hx => ⟨hs2 x hx,by
      rcases List.mem_append.1 hx with hx | hx
      · exact (hs x hx).2
      · obtain ⟨q,_,rfl⟩ := List.mem_map.1 hx
        intro r hr;cases hr⟩,(Yq1 @e4),by simp only [LSt.asArr,upd_eq],Yq0,(Yq1 @hmd)⟩
  clear e4 a56 hmd st
  rintro st ⟨e4,a56,hmd⟩
  refine LW_publish 4 e4 a56 (by rw [pgL_flen];exact Yq0) ?_
  refine Yg0 ?_
  refine Ye1 @rowL.eq_1 ?_;try (with_reducible exact trivial)
end Go.Proofs.YteamlijbkldlhaaGreat
end
