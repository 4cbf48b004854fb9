import Derived.Test.YteamlijbkldlhaaGreatKD9
import Derived.Test.YteamlijbkldlhaaGreatKDQ
import Derived.Test.YteamlijbkldlhaaGreatKDM
import Derived.Test.YteamlijbkldlhaaGreatDFind
set_option linter.unusedSimpArgs false
set_option linter.unusedVariables false
namespace Go.Proofs.YteamlijbkldlhaaGreat
open Nat renaming reduceAdd → zz1,reduceMul → zz2,reduceSub → zz3,reduceLT → zz4,reduceLeDiff → zz5,reduceEqDiff → zz6,reduceBEq → zzf
open Int renaming reduceAdd → zz7,reduceSub → zz8,reduceMul → zz9,reduceLT → zza,reduceLE → zzb,reduceEq → zzc,reduceNeg → zzd,reduceToNat → zze
open Op renaming operands → zo
open Call renaming operands → zc
open Go.RowKit Go.Proofs AclSpec MetaSpec NodeSpec RecSpec PathSpec PageSpec TreeSpec DbSpec

def inP (R : List Rec) (x y : List UInt8) : List Rec := R.filter fun r => mayB x && (!lessB r.path x && lessB r.path y)
theorem inP_eq {R : List Rec} {x y : List UInt8} (hy : mayB y = true) : inP R x y = rangeP R x y := by
  unfold inP rangeP
  cases hx : mayB x
  · rw [if_neg (by simp)]
    exact List.filter_eq_nil_iff.2 fun r _ => by simp
  · rw [if_pos ⟨rfl,hy⟩]
    rfl
theorem filter_take {α : Type} {R : List α} {i : Nat} {r : α} (h : R[i]? = some r) (f : α → Bool) : (R.take (i + 1)).filter f = if f r = true then (R.take i).filter f ++ [r] else (R.take i).filter f := by
  obtain ⟨hi,rfl⟩ := List.getElem?_eq_some_iff.1 h
  rw [List.take_succ_eq_append_getElem hi,List.filter_append]
  cases hc : f R[i] <;> simp [hc]
theorem filter_take_len {α : Type} (R : List α) (i : Nat) (f : α → Bool) : ((R.take i).filter f).length ≤ R.length := by
  have := List.length_filter_le f (R.take i)
  rw [List.length_take] at this
  omega
theorem small_zero : small zeroN := ⟨by decide,by decide,by decide,(fun p hp => by cases hp)⟩
set_option maxRecDepth 100000 in
set_option maxHeartbeats 32000000 in
theorem dbFinds_L (l : List Int) (a b : Int) (o : List UInt8) : LCalls Tryz.prog 5 [intsL l,intL a,intL b,strL o] (boolL true) := by
  have t0 := dtold_L
  refine LCalls.of (fun _ => false) Tryz.func5 rfl (by decide) Tryz.ntmps5 Tryz.results5 (by simp) ?_
  intro w0 S0 vs hgl hwf0 hsz hvs;clear hsz hvs hwf0 hgl
  refine Yg0 ?_
  by_cases hol : 120 < o.length
  · have hi : ((120 : Int) < (o.length : Int)) = True := eq_true (by omega)
    refine Yt1 @hi ?_
    refine Yr0 ?_;intro K hK
    refine Yc0 (t0) ?_
    refine hK _ ?_;clear hK K;try refine Wh0 ?_
    refine Ye0 ?_;try (with_reducible exact trivial)
  have hi : ¬ ((120 : Int) < (o.length : Int)) := by omega
  refine Yf1 @hi ?_
  have hmk : LCalls Tryz.prog 9 [intsL l] (.agg (treeL (madeT l))) := make_L l
  have hrc := madeRecs_L l
  have hmay := made_recs l
  have hsm := made_small l
  have c1 := dbuild_L (madeR l) hsm
  rw [made_build] at c1
  have hsp := buildP_small hsm
  have hgb := gather_build (madeR l)
  have hob := open_build hmay
  have hpl := buildP_len200 hmay
  have htb := build_table hmay
  have hhb := build_high hmay
  have hfd := fun q => build_found hmay q
  obtain ⟨hR1,hR2,hR3,hR4⟩ := mayRecs_ok hmay
  have hne : buildP (madeR l) ≠ [] := by
    intro c
    rw [c] at hgb
    have := congrArg List.length hgb
    simp only [gatherP,List.length_nil] at this
    omega
  generalize buildP (madeR l) = ps at *
  generalize madeR l = R at *
  generalize bytsT (madeT l) = B at *
  generalize madeT l = t at *
  have c2 := dopen_O ps (by omega) hsp _ _ (.inl ⟨hob,rfl,rfl⟩)
  simp only [treeL,rowL] at hmk hrc c1
  simp only [dbL,rowL] at c2
  obtain ⟨hxa,_⟩ := uN_eq a
  obtain ⟨hxb,_⟩ := uN_eq b
  generalize uN a = au at *
  generalize uN b = bu at *
  have hwu := wu (n := R.length) (by omega)
  have hwz : ¬ ((R.length : Int) = 0) := by omega
  have hma := umod au R.length _ rfl
  have hmb := umod bu R.length _ rfl
  have hil : au % R.length < R.length := Nat.mod_lt _ (by omega)
  have hjl : bu % R.length < R.length := Nat.mod_lt _ (by omega)
  generalize au % R.length = i at *
  generalize bu % R.length = j at *
  obtain ⟨ri,hri⟩ := get_of_lt hil
  obtain ⟨rj,hrj⟩ := get_of_lt hjl
  have hdi := drop_rec hri
  have hdj := drop_rec hrj
  have hip : (0 : Int) ≤ (i : Int) := by omega
  have hjp : (0 : Int) ≤ (j : Int) := by omega
  simp only [recL,nodeL,attrsL,acesL,piecesL,rowL,List.cons_append,List.nil_append] at hdi hdj
  refine Yr1 @intsL.eq_1 ?_;intro K hK
  refine Yc1 (hmk) @intsL.eq_1 ?_
  refine Yc1 (hrc) @intsL.eq_1 ?_
  refine hK _ ?_;clear hK K;try refine Wh0 ?_
  refine Yr0 ?_;intro K hK
  refine Yc0 (c1) ?_
  refine hK _ ?_;clear hK K;try refine Wh0 ?_
  (repeat (first | refine LW_seq ?_ | (refine LW_skip ?_;simp only [LSj,reduceIte,zze]) | refine LW_block ?_));refine LW_regionO [(46,⟨_,_,_,_,_,[],[(2000,1000)],_,[],(c2).toS,rfl,rfl,rfl⟩)] ?_;intro K hK;simp only [LZ,zo,zc,reduceCtorEq,reduceIte,zz1,zz2,zz3,zz4,zz5,zz6,zz7,zz8,zz9,zza,zzb,zzc,zzd,zze,zzf]
  refine hK _ ?_;clear hK K;try refine Wh0 ?_
  refine LW_slim (fun st => st.env 1 = intL a ∧ st.env 2 = intL b ∧ st.env 3 = strL o ∧ st.env 9 = .sl R.length (R.flatMap recL) .no ∧ st.env 11 = intL 0 ∧ st.env 13 = intL 0 ∧ st.env 14 = .ptr 1000 0 ∧ st.box 1000 = some [.sl ps.length (ps.flatMap pgL) .no,intL 0] ∧ st.env 15 = intL 0 ∧ st.mode = fun _ => false) ⟨Yq0,Yq0,Yq0,Yq0,Yq0,Yq0,Yq0,Yq0,Yq0,Yq0⟩ ?_
  rintro st ⟨e1,e2,e3,e9,e11,e13,e14,b1000,e15,hmd⟩
  refine Yg1 (fa6 @e11 @e13 @e14 @e15 @nilDb @undDb) ?_
  refine Yf0 ?_
  (repeat refine LW_seq ?_)
  refine Yn1 (fa16 @e1 @e2 @e9 @hxa @hxb @hwu @hwz @hma @hmb @hil @hjl @hip @hjp @hdi @hdj @hmd) ?_;intro K hK
  refine hK _ ?_;clear hK K;try refine Wh0 ?_
  refine LW_slim (fun st => st.env 3 = strL o ∧ st.env 9 = .sl R.length (R.flatMap recL) .no ∧ st.env 14 = .ptr 1000 0 ∧ st.box 1000 = some [.sl ps.length (ps.flatMap pgL) .no,intL 0] ∧ st.env 16 = strL ri.path ∧ st.env 17 = strL rj.path ∧ st.mode = fun _ => false) ⟨(Yq1 @e3),(Yq1 @e9),(Yq1 @e14),(Yq1 @b1000),Yq0,Yq0,(Yq1 @hmd)⟩ ?_
  clear e1 e2 e3 e9 e11 e13 e14 b1000 e15 hmd st
  rintro st ⟨e3,e9,e14,b1000,e16,e17,hmd⟩
  have hmi := mayRec_path (hR3 ri (List.mem_of_getElem? hri))
  have hmy := mayRec_path (hR3 rj (List.mem_of_getElem? hrj))
  have hli := may_len hmi
  have hly := may_len hmy
  generalize rj.path = y at *
  generalize ri.path = x0 at *
  clear hri hrj hdi hdj hil hjl hip hjp hma hmb hxa hxb hwu hwz c1 c2 hmk hrc
  have cmy := rpmay_L y (by omega)
  rw [hmy] at cmy
  have hsR : ∀ r ∈ R,small r.node := fun r hr => (hsm.one r hr).2
  have hsL : ∀ q,small (lastP R q).1.node := fun q => by
    rw [last_among hmay]
    rcases among_mem R q with h | h
    · rw [h];exact small_zero
    · exact hsR _ h
  have rH := refHeight_L R.length hR2
  (repeat refine LW_seq ?_)
  refine Yo0 ?_
  (repeat refine LW_seq ?_)
  refine LW_block ?_
  refine LW_joinB (fun st => ∃ k : Int,st.env 9 = .sl R.length (R.flatMap recL) .no ∧ st.env 14 = .ptr 1000 0 ∧ st.box 1000 = some [.sl ps.length (ps.flatMap pgL) .no,intL k] ∧ st.mode = fun _ => false) ?_ ?_
  · refine LW_loop (fun n st => ∃ (t : Nat) (x : List UInt8) (k : Int),n + t = 2 ∧ x.length ≤ 120 ∧ st.env 3 = strL o ∧ st.env 9 = .sl R.length (R.flatMap recL) .no ∧ st.env 14 = .ptr 1000 0 ∧ st.box 1000 = some [.sl ps.length (ps.flatMap pgL) .no,intL k] ∧ st.env 16 = strL x ∧ st.env 17 = strL y ∧ st.env 18 = intL t ∧ st.mode = fun _ => false) 2 ⟨0,x0,0,by omega,by omega,(Yq1 @e3),(Yq1 @e9),(Yq1 @e14),(Yq1 @b1000),(Yq1 @e16),(Yq1 @e17),Yq0,(Yq1 @hmd)⟩ ?_
    clear e3 e9 e14 b1000 e16 e17 hmd st
    rintro n st ⟨t,x,k,hn,hxl,e3,e9,e14,b1000,e16,e17,e18,hmd⟩
    by_cases hlt : t < 2
    rotate_left
    · have hll : ¬ ((t : Int) < 2) := by omega
      refine Yg1 (fa2 @e18 @hll) ?_
      refine Yf0 ?_
      refine LW_exit ?_;simp only [thenL,jumpsL,inBlockL,twoL,reduceIte,Nat.reduceEqDiff]
      exact ⟨k,(Yq1 @e9),(Yq1 @e14),(Yq1 @b1000),(Yq1 @hmd)⟩
    have hlti : ((t : Int) < 2) = True := eq_true (by omega)
    have hwt := w64s (n := t) (by omega)
    have cmx := rpmay_L x (by omega)
    refine Yg1 (fa2 @e18 @hlti) ?_
    refine Yt0 ?_
    refine LW_skip ?_
    simp only [LSj,reduceIte,zze]
    refine LW_seq ?_
    refine LW_block ?_
    (repeat refine LW_seq ?_)
    refine Yo0 ?_
    refine LW_nil (k := 19) (q := 1001) (e := 48) Yq0 ?_
    refine LW_nil (k := 20) (q := 1002) (e := 48) Yq0 ?_
    (repeat refine LW_seq ?_)
    refine Yo0 ?_
    refine LW_slim (fun st => st.env 3 = strL o ∧ st.env 9 = .sl R.length (R.flatMap recL) .no ∧ st.env 14 = .ptr 1000 0 ∧ st.box 1000 = some [.sl ps.length (ps.flatMap pgL) .no,intL k] ∧ st.env 16 = strL x ∧ st.env 17 = strL y ∧ st.env 18 = intL t ∧ st.env 19 = .sl 0 [] (.row 1001) ∧ st.row 1001 = some (48,0) ∧ st.env 20 = .sl 0 [] (.row 1002) ∧ st.row 1002 = some (48,0) ∧ st.env 21 = .ptr 21 0 ∧ st.box 21 = some zRecL ∧ st.mode = fun _ => false) ⟨(Yq1 @e3),(Yq1 @e9),(Yq1 @e14),(Yq1 @b1000),(Yq1 @e16),(Yq1 @e17),(Yq1 @e18),Yq0,Yq0,Yq0,Yq0,Yq0,(Yq1 @zRecL.eq_1),(Yq1 @hmd)⟩ ?_
    clear e3 e9 e14 b1000 e16 e17 e18 hmd st
    rintro st ⟨e3,e9,e14,b1000,e16,e17,e18,e19,r1001,e20,r1002,e21,b21,hmd⟩
    refine LW_plainBox (cs := zRecL) 21 b21 ?_
    (repeat refine LW_seq ?_)
    refine LW_join (fun st => st.env 3 = strL o ∧ st.env 9 = .sl R.length (R.flatMap recL) .no ∧ st.env 14 = .ptr 1000 0 ∧ st.box 1000 = some [.sl ps.length (ps.flatMap pgL) .no,intL k] ∧ st.env 16 = strL x ∧ st.env 17 = strL y ∧ st.env 18 = intL t ∧ st.env 19 = .sl 0 [] (.row 1001) ∧ st.row 1001 = some (48,0) ∧ st.env 20 = .sl 0 [] (.row 1002) ∧ st.row 1002 = some (48,0) ∧ st.env 21 = .ptr 21 0 ∧ st.box 21 = some (recL zeroRec) ∧ st.env 22 = boolL (mayB x) ∧ st.mode = fun _ => false) ?_ ?_
    · cases hmx : mayB x
      · rw [hmx] at cmx
        refine Yr1 (fa2 @e16 @e17) ?_;intro K hK
        refine Yc1 (cmx) (fa2 @e16 @e17) ?_
        refine hK _ ?_;clear hK K;try refine Wh0 ?_
        exact ⟨(Yq1 @e3),(Yq1 @e9),(Yq1 @e14),(Yq1 @b1000),(Yq1 @e16),(Yq1 @e17),(Yq1 @e18),(Yq1 @e19),(Yq1 @r1001),(Yq1 @e20),(Yq1 @r1002),(Yq1 @e21),(Yq1 (fa11 @zRecL.eq_1 @zeroRec.eq_1 @zeroN.eq_1 @recL.eq_1 @nodeL.eq_1 @attrsL.eq_1 @acesL.eq_1 @piecesL.eq_1 @rowL.eq_1 @plain1.eq_1 @plain1.eq_2)),Yq0,(Yq1 @hmd)⟩
      · rw [hmx] at cmx
        refine Yr1 (fa2 @e16 @e17) ?_;intro K hK
        refine Yc1 (cmx) (fa2 @e16 @e17) ?_
        refine Yc1 (cmy) (fa2 @e16 @e17) ?_
        refine hK _ ?_;clear hK K;try refine Wh0 ?_
        exact ⟨(Yq1 @e3),(Yq1 @e9),(Yq1 @e14),(Yq1 @b1000),(Yq1 @e16),(Yq1 @e17),(Yq1 @e18),(Yq1 @e19),(Yq1 @r1001),(Yq1 @e20),(Yq1 @r1002),(Yq1 @e21),(Yq1 (fa11 @zRecL.eq_1 @zeroRec.eq_1 @zeroN.eq_1 @recL.eq_1 @nodeL.eq_1 @attrsL.eq_1 @acesL.eq_1 @piecesL.eq_1 @rowL.eq_1 @plain1.eq_1 @plain1.eq_2)),Yq0,(Yq1 @hmd)⟩
    clear e3 e9 e14 b1000 e16 e17 e18 e19 r1001 e20 r1002 e21 b21 hmd st
    rintro st ⟨e3,e9,e14,b1000,e16,e17,e18,e19,r1001,e20,r1002,e21,b21,e22,hmd⟩
    (repeat refine LW_seq ?_)
    refine Yo0 ?_
    (repeat refine LW_seq ?_)
    refine Yo0 ?_
    (repeat refine LW_seq ?_)
    refine LW_block ?_
    refine LW_joinB (fun st => st.env 3 = strL o ∧ st.env 9 = .sl R.length (R.flatMap recL) .no ∧ st.env 14 = .ptr 1000 0 ∧ st.box 1000 = some [.sl ps.length (ps.flatMap pgL) .no,intL k] ∧ st.env 16 = strL x ∧ st.env 17 = strL y ∧ st.env 18 = intL t ∧ st.env 19 = .sl (inP R x y).length ((inP R x y).flatMap recL) (.row 1001) ∧ st.env 20 = .sl (R.filter fun r => underB r.path x).length ((R.filter fun r => underB r.path x).flatMap recL) (.row 1002) ∧ st.env 21 = .ptr 21 0 ∧ st.box 21 = some (recL (lastP R x).1) ∧ st.env 23 = boolL (lastP R x).2 ∧ st.mode = fun _ => false) ?_ ?_
    · refine LW_loop (fun n st => ∃ i : Nat,n + i = R.length ∧ st.env 3 = strL o ∧ st.env 9 = .sl R.length (R.flatMap recL) .no ∧ st.env 14 = .ptr 1000 0 ∧ st.box 1000 = some [.sl ps.length (ps.flatMap pgL) .no,intL k] ∧ st.env 16 = strL x ∧ st.env 17 = strL y ∧ st.env 18 = intL t ∧ st.env 19 = .sl (inP (R.take i) x y).length ((inP (R.take i) x y).flatMap recL) (.row 1001) ∧ st.row 1001 = some (48,(inP (R.take i) x y).length) ∧ st.env 20 = .sl ((R.take i).filter fun r => underB r.path x).length (((R.take i).filter fun r => underB r.path x).flatMap recL) (.row 1002) ∧ st.row 1002 = some (48,((R.take i).filter fun r => underB r.path x).length) ∧ st.env 21 = .ptr 21 0 ∧ st.box 21 = some (recL (lastP (R.take i) x).1) ∧ st.env 22 = boolL (mayB x) ∧ st.env 23 = boolL (lastP (R.take i) x).2 ∧ st.env 24 = intL i ∧ st.mode = fun _ => false) R.length ⟨0,by omega,(Yq1 @e3),(Yq1 @e9),(Yq1 @e14),(Yq1 @b1000),(Yq1 @e16),(Yq1 @e17),(Yq1 @e18),(Yq1 @e19),(Yq1 @r1001),(Yq1 @e20),(Yq1 @r1002),(Yq1 @e21),(Yq1 @b21),(Yq1 @e22),Yq0,Yq0,(Yq1 @hmd)⟩ ?_
      clear e3 e9 e14 b1000 e16 e17 e18 e19 r1001 e20 r1002 e21 b21 e22 hmd st
      rintro n st ⟨i,hn,e3,e9,e14,b1000,e16,e17,e18,e19,r1001,e20,r1002,e21,b21,e22,e23,e24,hmd⟩
      by_cases hlt : i < R.length
      rotate_left
      · have hll : ¬ ((i : Int) < (R.length : Int)) := by omega
        rw [List.take_of_length_le (by omega)] at e19 e20 b21 e23
        refine Yg1 (fa3 @e9 @e24 @hll) ?_
        refine Yf0 ?_
        refine LW_exit ?_;simp only [thenL,jumpsL,inBlockL,twoL,reduceIte,Nat.reduceEqDiff]
        exact ⟨(Yq1 @e3),(Yq1 @e9),(Yq1 @e14),(Yq1 @b1000),(Yq1 @e16),(Yq1 @e17),(Yq1 @e18),(Yq1 @e19),(Yq1 @e20),(Yq1 @e21),(Yq1 @b21),(Yq1 @e23),(Yq1 @hmd)⟩
      obtain ⟨r,hr⟩ := get_of_lt hlt
      have hd := drop_rec hr
      have hlti : ((i : Int) < (R.length : Int)) = True := eq_true (by omega)
      have hip : (0 : Int) ≤ (i : Int) := by omega
      have hwi := w64s (n := i) (by omega)
      have hmr := may_len (mayRec_path (hR3 r (List.mem_of_getElem? hr)))
      have clx := rpless_L r.path x (by omega) (by omega)
      have cly := rpless_L r.path y (by omega) (by omega)
      have cux := runder_L' r.path x (by omega) (by omega)
      have hnL := lastP_take hr x
      have hnI : inP (R.take (i + 1)) x y = if (mayB x && (!lessB r.path x && lessB r.path y)) = true then inP (R.take i) x y ++ [r] else inP (R.take i) x y := filter_take hr _
      have hnU := filter_take hr (fun r => underB r.path x)
      have hlI : (inP (R.take i) x y).length ≤ R.length := filter_take_len R i _
      have hlU := filter_take_len R i (fun r => underB r.path x)
      generalize hg1 : inP (R.take (i + 1)) x y = I2 at *
      generalize hg2 : ((R.take (i + 1)).filter fun r => underB r.path x) = U2 at *
      generalize inP (R.take i) x y = I1 at *
      generalize ((R.take i).filter fun r => underB r.path x) = U1 at *
      generalize hg3 : lastP (R.take (i + 1)) x = L2 at *
      generalize lastP (R.take i) x = L1 at *
      have hfI := recL_flen I1
      have hfU := recL_flen U1
      have hI1 : (I1 ++ [r]).flatMap recL = I1.flatMap recL ++ recL r := by rw [List.flatMap_append];simp
      have hI2 : (I1 ++ [r]).length = I1.length + 1 := by simp
      have hU1 : (U1 ++ [r]).flatMap recL = U1.flatMap recL ++ recL r := by rw [List.flatMap_append];simp
      have hU2 : (U1 ++ [r]).length = U1.length + 1 := by simp
      simp only [recL,nodeL,attrsL,acesL,piecesL,rowL,List.cons_append,List.nil_append] at hd hI1 hU1
      refine Yg1 (fa3 @e9 @e24 @hlti) ?_
      refine Yt0 ?_
      refine LW_skip ?_
      simp only [LSj,reduceIte,zze]
      refine LW_seq ?_
      refine LW_block ?_
      (repeat refine LW_seq ?_)
      refine Yo1 (fa6 @e9 @e16 @e24 @hlt @hip @hd) ?_
      (repeat refine LW_seq ?_)
      refine LW_join (fun st => st.env 3 = strL o ∧ st.env 9 = .sl R.length (R.flatMap recL) .no ∧ st.env 14 = .ptr 1000 0 ∧ st.box 1000 = some [.sl ps.length (ps.flatMap pgL) .no,intL k] ∧ st.env 16 = strL x ∧ st.env 17 = strL y ∧ st.env 18 = intL t ∧ st.env 19 = .sl I1.length (I1.flatMap recL) (.row 1001) ∧ st.row 1001 = some (48,I1.length) ∧ st.env 20 = .sl U1.length (U1.flatMap recL) (.row 1002) ∧ st.row 1002 = some (48,U1.length) ∧ st.env 21 = .ptr 21 0 ∧ st.box 21 = some (recL L2.1) ∧ st.env 22 = boolL (mayB x) ∧ st.env 23 = boolL L2.2 ∧ st.env 24 = intL i ∧ st.mode = fun _ => false) ?_ ?_
      · by_cases hc : r.path = x
        · rw [if_pos hc] at hnL
          subst hnL
          have hct : (r.path = x) = True := eq_true hc
          refine Yt1 @hct ?_
          simp only [recL,nodeL,attrsL,acesL,piecesL,rowL,List.cons_append,List.nil_append] at b21
          refine Yg1 (fa7 @e9 @e21 @b21 @e24 @hlt @hip @hd) ?_
          exact ⟨(Yq1 @e3),(Yq1 @e9),(Yq1 @e14),(Yq1 @b1000),(Yq1 @e16),(Yq1 @e17),(Yq1 @e18),(Yq1 @e19),(Yq1 @r1001),(Yq1 @e20),(Yq1 @r1002),(Yq1 @e21),(Yq1 (fa6 @recL.eq_1 @nodeL.eq_1 @attrsL.eq_1 @acesL.eq_1 @piecesL.eq_1 @rowL.eq_1)),(Yq1 @e22),Yq0,(Yq1 @e24),(Yq1 @hmd)⟩
        · rw [if_neg hc] at hnL
          subst hnL
          have hct : (r.path = x) = False := eq_false hc
          refine Yf1 @hct ?_
          refine Yg0 ?_
          exact ⟨(Yq1 @e3),(Yq1 @e9),(Yq1 @e14),(Yq1 @b1000),(Yq1 @e16),(Yq1 @e17),(Yq1 @e18),(Yq1 @e19),(Yq1 @r1001),(Yq1 @e20),(Yq1 @r1002),(Yq1 @e21),(Yq1 @b21),(Yq1 @e22),(Yq1 @e23),(Yq1 @e24),(Yq1 @hmd)⟩
      clear e3 e9 e14 b1000 e16 e17 e18 e19 r1001 e20 r1002 e21 b21 e22 e23 e24 hmd st
      rintro st ⟨e3,e9,e14,b1000,e16,e17,e18,e19,r1001,e20,r1002,e21,b21,e22,e23,e24,hmd⟩
      (repeat refine LW_seq ?_)
      refine LW_join (fun st => st.env 3 = strL o ∧ st.env 9 = .sl R.length (R.flatMap recL) .no ∧ st.env 14 = .ptr 1000 0 ∧ st.box 1000 = some [.sl ps.length (ps.flatMap pgL) .no,intL k] ∧ st.env 16 = strL x ∧ st.env 17 = strL y ∧ st.env 18 = intL t ∧ st.env 19 = .sl I1.length (I1.flatMap recL) (.row 1001) ∧ st.row 1001 = some (48,I1.length) ∧ st.env 20 = .sl U1.length (U1.flatMap recL) (.row 1002) ∧ st.row 1002 = some (48,U1.length) ∧ st.env 21 = .ptr 21 0 ∧ st.box 21 = some (recL L2.1) ∧ st.env 22 = boolL (mayB x) ∧ st.env 23 = boolL L2.2 ∧ st.env 24 = intL i ∧ st.env 129 = boolL (mayB x && (!lessB r.path x && lessB r.path y)) ∧ st.mode = fun _ => false) ?_ ?_
      · cases hmx : mayB x
        · rw [hmx] at e22
          refine Yr1 (fa8 @e9 @e16 @e17 @e22 @e24 @hlt @hip @hd) ?_;intro K hK
          refine hK _ ?_;clear hK K;try refine Wh0 ?_
          exact ⟨(Yq1 @e3),(Yq1 @e9),(Yq1 @e14),(Yq1 @b1000),(Yq1 @e16),(Yq1 @e17),(Yq1 @e18),(Yq1 @e19),(Yq1 @r1001),(Yq1 @e20),(Yq1 @r1002),(Yq1 @e21),(Yq1 @b21),(Yq1 @e22),(Yq1 @e23),(Yq1 @e24),Yq0,(Yq1 @hmd)⟩
        rw [hmx] at e22
        cases h1 : lessB r.path x
        rotate_left
        · rw [h1] at clx
          refine Yr1 (fa8 @e9 @e16 @e17 @e22 @e24 @hlt @hip @hd) ?_;intro K hK
          refine Yc1 (clx) (fa8 @e9 @e16 @e17 @e22 @e24 @hlt @hip @hd) ?_
          refine hK _ ?_;clear hK K;try refine Wh0 ?_
          exact ⟨(Yq1 @e3),(Yq1 @e9),(Yq1 @e14),(Yq1 @b1000),(Yq1 @e16),(Yq1 @e17),(Yq1 @e18),(Yq1 @e19),(Yq1 @r1001),(Yq1 @e20),(Yq1 @r1002),(Yq1 @e21),(Yq1 @b21),(Yq1 @e22),(Yq1 @e23),(Yq1 @e24),Yq0,(Yq1 @hmd)⟩
        rw [h1] at clx
        refine Yr1 (fa8 @e9 @e16 @e17 @e22 @e24 @hlt @hip @hd) ?_;intro K hK
        refine Yc1 (clx) (fa8 @e9 @e16 @e17 @e22 @e24 @hlt @hip @hd) ?_
        refine Yc1 (cly) (fa8 @e9 @e16 @e17 @e22 @e24 @hlt @hip @hd) ?_
        refine hK _ ?_;clear hK K;try refine Wh0 ?_
        exact ⟨(Yq1 @e3),(Yq1 @e9),(Yq1 @e14),(Yq1 @b1000),(Yq1 @e16),(Yq1 @e17),(Yq1 @e18),(Yq1 @e19),(Yq1 @r1001),(Yq1 @e20),(Yq1 @r1002),(Yq1 @e21),(Yq1 @b21),(Yq1 @e22),(Yq1 @e23),(Yq1 @e24),Yq0,(Yq1 @hmd)⟩
      clear e3 e9 e14 b1000 e16 e17 e18 e19 r1001 e20 r1002 e21 b21 e22 e23 e24 hmd st
      rintro st ⟨e3,e9,e14,b1000,e16,e17,e18,e19,r1001,e20,r1002,e21,b21,e22,e23,e24,e129,hmd⟩
      (repeat refine LW_seq ?_)
      refine LW_join (fun st => st.env 3 = strL o ∧ st.env 9 = .sl R.length (R.flatMap recL) .no ∧ st.env 14 = .ptr 1000 0 ∧ st.box 1000 = some [.sl ps.length (ps.flatMap pgL) .no,intL k] ∧ st.env 16 = strL x ∧ st.env 17 = strL y ∧ st.env 18 = intL t ∧ st.env 19 = .sl I2.length (I2.flatMap recL) (.row 1001) ∧ st.row 1001 = some (48,I2.length) ∧ st.env 20 = .sl U1.length (U1.flatMap recL) (.row 1002) ∧ st.row 1002 = some (48,U1.length) ∧ st.env 21 = .ptr 21 0 ∧ st.box 21 = some (recL L2.1) ∧ st.env 22 = boolL (mayB x) ∧ st.env 23 = boolL L2.2 ∧ st.env 24 = intL i ∧ st.mode = fun _ => false) ?_ ?_
      · cases hc : (mayB x && (!lessB r.path x && lessB r.path y))
        · rw [hc] at e129 hnI
          rw [if_neg (by decide)] at hnI
          subst hnI
          refine Yf1 @e129 ?_
          refine Yg0 ?_
          exact ⟨(Yq1 @e3),(Yq1 @e9),(Yq1 @e14),(Yq1 @b1000),(Yq1 @e16),(Yq1 @e17),(Yq1 @e18),(Yq1 @e19),(Yq1 @r1001),(Yq1 @e20),(Yq1 @r1002),(Yq1 @e21),(Yq1 @b21),(Yq1 @e22),(Yq1 @e23),(Yq1 @e24),(Yq1 @hmd)⟩
        · rw [hc] at e129 hnI
          rw [if_pos rfl] at hnI
          subst hnI
          refine Yt1 @e129 ?_
          refine Yr1 (fa9 @e9 @e19 @r1001 @e24 @hmd @hlt @hip @hd @hfI) ?_;intro K hK
          refine ⟨by (repeat' apply And.intro) <;> first | omega | (unfold maxLen;omega) | (intro _;omega) | decide,?_⟩
          refine hK _ ?_;clear hK K;try refine Wh0 ?_
          exact ⟨(Yq1 @e3),(Yq1 @e9),(Yq1 @e14),(Yq1 @b1000),(Yq1 @e16),(Yq1 @e17),(Yq1 @e18),by rw [hI2,hI1];exact Yq0,by rw [hI2];exact Yq0,(Yq1 @e20),(Yq1 @r1002),(Yq1 @e21),(Yq1 @b21),(Yq1 @e22),(Yq1 @e23),(Yq1 @e24),(Yq1 @hmd)⟩
      clear e3 e9 e14 b1000 e16 e17 e18 e19 r1001 e20 r1002 e21 b21 e22 e23 e24 e129 hmd st
      rintro st ⟨e3,e9,e14,b1000,e16,e17,e18,e19,r1001,e20,r1002,e21,b21,e22,e23,e24,hmd⟩
      (repeat refine LW_seq ?_)
      refine Yr1 (fa6 @e9 @e16 @e24 @hlt @hip @hd) ?_;intro K hK
      refine Yc1 (cux) (fa6 @e9 @e16 @e24 @hlt @hip @hd) ?_
      refine hK _ ?_;clear hK K;try refine Wh0 ?_
      refine LW_joinB (fun st => st.env 3 = strL o ∧ st.env 9 = .sl R.length (R.flatMap recL) .no ∧ st.env 14 = .ptr 1000 0 ∧ st.box 1000 = some [.sl ps.length (ps.flatMap pgL) .no,intL k] ∧ st.env 16 = strL x ∧ st.env 17 = strL y ∧ st.env 18 = intL t ∧ st.env 19 = .sl I2.length (I2.flatMap recL) (.row 1001) ∧ st.row 1001 = some (48,I2.length) ∧ st.env 20 = .sl U2.length (U2.flatMap recL) (.row 1002) ∧ st.row 1002 = some (48,U2.length) ∧ st.env 21 = .ptr 21 0 ∧ st.box 21 = some (recL L2.1) ∧ st.env 22 = boolL (mayB x) ∧ st.env 23 = boolL L2.2 ∧ st.env 24 = intL i ∧ st.mode = fun _ => false) ?_ ?_
      · cases hc : underB r.path x
        · rw [hc,if_neg (by decide)] at hnU
          subst hnU
          refine Yf1 @hc ?_
          refine Yg0 ?_
          exact ⟨(Yq1 @e3),(Yq1 @e9),(Yq1 @e14),(Yq1 @b1000),(Yq1 @e16),(Yq1 @e17),(Yq1 @e18),(Yq1 @e19),(Yq1 @r1001),(Yq1 @e20),(Yq1 @r1002),(Yq1 @e21),(Yq1 @b21),(Yq1 @e22),(Yq1 @e23),(Yq1 @e24),(Yq1 @hmd)⟩
        · rw [hc,if_pos rfl] at hnU
          subst hnU
          refine Yt1 @hc ?_
          refine Yr1 (fa9 @e9 @e20 @r1002 @e24 @hmd @hlt @hip @hd @hfU) ?_;intro K hK
          refine ⟨by (repeat' apply And.intro) <;> first | omega | (unfold maxLen;omega) | (intro _;omega) | decide,?_⟩
          refine hK _ ?_;clear hK K;try refine Wh0 ?_
          exact ⟨(Yq1 @e3),(Yq1 @e9),(Yq1 @e14),(Yq1 @b1000),(Yq1 @e16),(Yq1 @e17),(Yq1 @e18),(Yq1 @e19),(Yq1 @r1001),by rw [hU2,hU1];exact Yq0,by rw [hU2];exact Yq0,(Yq1 @e21),(Yq1 @b21),(Yq1 @e22),(Yq1 @e23),(Yq1 @e24),(Yq1 @hmd)⟩
      clear e3 e9 e14 b1000 e16 e17 e18 e19 r1001 e20 r1002 e21 b21 e22 e23 e24 hmd st
      rintro st ⟨e3,e9,e14,b1000,e16,e17,e18,e19,r1001,e20,r1002,e21,b21,e22,e23,e24,hmd⟩
      refine Yg1 (fa2 @e24 @hwi) ?_
      exact ⟨n - 1,by omega,i + 1,by omega,(Yq1 @e3),(Yq1 @e9),(Yq1 @e14),(Yq1 @b1000),(Yq1 @e16),(Yq1 @e17),(Yq1 @e18),by rw [hg1];exact (Yq1 @e19),by rw [hg1];exact (Yq1 @r1001),by rw [hg2];exact (Yq1 @e20),by rw [hg2];exact (Yq1 @r1002),(Yq1 @e21),by rw [hg3];exact (Yq1 @b21),(Yq1 @e22),by rw [hg3];exact (Yq1 @e23),(Yq1 @hwi),(Yq1 @hmd)⟩
    clear e3 e9 e14 b1000 e16 e17 e18 e19 r1001 e20 r1002 e21 b21 e22 hmd st
    rintro st ⟨e3,e9,e14,b1000,e16,e17,e18,e19,e20,e21,b21,e23,hmd⟩
    obtain ⟨hf2,hf1⟩ := hfd x
    have cf := dfind_S ps (by omega) hsp htb x (by omega) k
    rw [hf2] at cf
    have cE := dlooked_S ps (findP ps x).1
    have cR := drange_S ps (by omega) hsp (by rw [hgb];omega) (findP ps x).1 x y (by omega) (by omega)
    have cU := dunder_S ps (by omega) hsp (by rw [hgb];omega) (findP ps x).1 x (by omega)
    rw [hgb,← inP_eq hmy] at cR
    rw [hgb] at cU
    have cs := sameRec_L (lastP R x).1 (hsL x)
    have hlI : (inP R x y).length ≤ R.length := List.length_filter_le _ _
    have hlU : (R.filter fun r => underB r.path x).length ≤ R.length := List.length_filter_le _ _
    have sI := sameRecs_L (inP R x y) (by omega) (fun r hr => hsR r (List.mem_filter.1 hr).1)
    have sU := sameRecs_L (R.filter fun r => underB r.path x) (by omega) (fun r hr => hsR r (List.mem_filter.1 hr).1)
    generalize inP R x y = I at *
    generalize (R.filter fun r => underB r.path x) = U at *
    generalize lastP R x = L at *
    generalize (findP ps x).1 = h at *
    obtain ⟨L1,L2⟩ := L
    simp only [dbL,rowL] at cf cE cR cU
    simp only [rowL] at sI sU
    simp only [recL,nodeL,attrsL,acesL,piecesL,rowL,List.cons_append,List.nil_append] at b21 cf cs
    simp only [] at e23
    refine LW_plain 19 e19 ?_
    refine LW_plain 20 (n := U.length) (cs := U.flatMap recL) (t := .row 1002) (Yq1 @e20) ?_
    (repeat refine LW_seq ?_)
    (repeat (first | refine LW_seq ?_ | (refine LW_skip ?_;simp only [LSj,reduceIte,zze]) | refine LW_block ?_));refine LW_regionO [(154,⟨_,_,_,_,_,[(1000,1000)],[(2000,1000)],_,[1001000],(cf).toS,rfl,rfl,rfl⟩)] ?_;intro K hK;simp only [LZ,zo,zc,reduceCtorEq,reduceIte,zz1,zz2,zz3,zz4,zz5,zz6,zz7,zz8,zz9,zza,zzb,zzc,zzd,zze,zzf,e14,b1000,e16]
    refine hK _ ?_;clear hK K;try refine Wh0 ?_
    refine LW_slim (fun st => st.env 3 = strL o ∧ st.env 9 = .sl R.length (R.flatMap recL) .no ∧ st.env 14 = .ptr 1000 0 ∧ st.box 1000 = some [.sl ps.length (ps.flatMap pgL) .no,intL h] ∧ st.env 16 = strL x ∧ st.env 17 = strL y ∧ st.env 18 = intL t ∧ st.env 19 = .sl I.length (I.flatMap recL) .no ∧ st.env 20 = .sl U.length (U.flatMap recL) .no ∧ st.env 21 = .ptr 21 0 ∧ st.box 21 = some (recL L1) ∧ st.env 23 = boolL L2 ∧ st.env 25 = .ptr 25 0 ∧ st.box 25 = some (recL L1) ∧ st.env 26 = boolL L2 ∧ st.mode = fun _ => false) ⟨(Yq1 @e3),(Yq1 @e9),(Yq1 @e14),Yq0,(Yq1 @e16),(Yq1 @e17),(Yq1 @e18),Yq0,Yq0,(Yq1 @e21),(Yq1 (fa7 @b21 @recL.eq_1 @nodeL.eq_1 @attrsL.eq_1 @acesL.eq_1 @piecesL.eq_1 @rowL.eq_1)),(Yq1 @e23),Yq0,(Yq1 (fa6 @recL.eq_1 @nodeL.eq_1 @attrsL.eq_1 @acesL.eq_1 @piecesL.eq_1 @rowL.eq_1)),Yq0,(Yq1 @hmd)⟩ ?_
    clear e3 e9 e14 b1000 e16 e17 e18 e19 e20 e21 b21 e23 hmd st
    rintro st ⟨e3,e9,e14,b1000,e16,e17,e18,e19,e20,e21,b21,e23,e25,b25,e26,hmd⟩
    (repeat refine LW_seq ?_)
    refine Yo0 ?_
    (repeat refine LW_seq ?_)
    refine Yr1 @e16 ?_;intro K hK
    refine Yc1 (cmx) @e16 ?_
    refine hK _ ?_;clear hK K;try refine Wh0 ?_
    (repeat refine LW_seq ?_)
    refine LW_join (fun st => st.env 3 = strL o ∧ st.env 9 = .sl R.length (R.flatMap recL) .no ∧ st.env 14 = .ptr 1000 0 ∧ st.box 1000 = some [.sl ps.length (ps.flatMap pgL) .no,intL h] ∧ st.env 16 = strL x ∧ st.env 17 = strL y ∧ st.env 18 = intL t ∧ st.env 19 = .sl I.length (I.flatMap recL) .no ∧ st.env 20 = .sl U.length (U.flatMap recL) .no ∧ st.env 21 = .ptr 21 0 ∧ st.box 21 = some (recL L1) ∧ st.env 23 = boolL L2 ∧ st.env 25 = .ptr 25 0 ∧ st.box 25 = some (recL L1) ∧ st.env 26 = boolL L2 ∧ st.env 27 = intL h ∧ st.mode = fun _ => false) ?_ ?_
    · cases hmx : mayB x
      · rw [hmx,if_neg (by decide)] at hf1
        subst hf1
        refine Yf1 @hmx ?_
        refine Yg0 ?_
        exact ⟨(Yq1 @e3),(Yq1 @e9),(Yq1 @e14),(Yq1 @b1000),(Yq1 @e16),(Yq1 @e17),(Yq1 @e18),(Yq1 @e19),(Yq1 @e20),(Yq1 @e21),(Yq1 @b21),(Yq1 @e23),(Yq1 @e25),(Yq1 @b25),(Yq1 @e26),Yq0,(Yq1 @hmd)⟩
      · rw [hmx,if_pos rfl] at hf1
        subst hf1
        refine Yt1 @hmx ?_
        refine Yr1 @e9 ?_;intro K hK
        refine Yc1 (rH) @e9 ?_
        refine hK _ ?_;clear hK K;try refine Wh0 ?_
        exact ⟨(Yq1 @e3),(Yq1 @e9),(Yq1 @e14),(Yq1 @b1000),(Yq1 @e16),(Yq1 @e17),(Yq1 @e18),(Yq1 @e19),(Yq1 @e20),(Yq1 @e21),(Yq1 @b21),(Yq1 @e23),(Yq1 @e25),(Yq1 @b25),(Yq1 @e26),Yq0,(Yq1 @hmd)⟩
    clear e3 e9 e14 b1000 e16 e17 e18 e19 e20 e21 b21 e23 e25 b25 e26 hmd st
    rintro st ⟨e3,e9,e14,b1000,e16,e17,e18,e19,e20,e21,b21,e23,e25,b25,e26,e27,hmd⟩
    simp only [recL,nodeL,attrsL,acesL,piecesL,rowL,List.cons_append,List.nil_append] at b21 b25
    (repeat refine LW_seq ?_)
    (repeat (first | refine LW_seq ?_ | (refine LW_skip ?_;simp only [LSj,reduceIte,zze]) | refine LW_block ?_));refine LW_regionO [(173,⟨_,_,_,_,_,[(1000,1000)],[(2000,1000)],_,[1001000],(cE).toS,rfl,rfl,rfl⟩),(181,⟨_,_,_,_,_,[(1000,1000)],[(2000,1000)],_,[1001000],(cR).toS,rfl,rfl,rfl⟩),(189,⟨_,_,_,_,_,[(1000,1000)],[(2000,1000)],_,[1001000],(cU).toS,rfl,rfl,rfl⟩)] ?_;intro K hK;simp only [LZ,zo,zc,reduceCtorEq,reduceIte,zz1,zz2,zz3,zz4,zz5,zz6,zz7,zz8,zz9,zza,zzb,zzc,zzd,zze,zzf,e14,b1000,e16,e17,e19,e20,e21,b21,e23,e25,b25,e26,e27]
    refine Yx1 (cs) (fa13 @e14 @b1000 @e16 @e17 @e19 @e20 @e21 @b21 @e23 @e25 @b25 @e26 @e27) ?_
    refine Yx1 (sI) (fa13 @e14 @b1000 @e16 @e17 @e19 @e20 @e21 @b21 @e23 @e25 @b25 @e26 @e27) ?_
    refine Yx1 (sU) (fa13 @e14 @b1000 @e16 @e17 @e19 @e20 @e21 @b21 @e23 @e25 @b25 @e26 @e27) ?_
    refine hK _ ?_;clear hK K;try refine Wh0 ?_
    refine LW_slim (fun st => st.env 3 = strL o ∧ st.env 9 = .sl R.length (R.flatMap recL) .no ∧ st.env 14 = .ptr 1000 0 ∧ st.box 1000 = some [.sl ps.length (ps.flatMap pgL) .no,intL h] ∧ st.env 17 = strL y ∧ st.env 18 = intL t ∧ st.env 193 = boolL false ∧ st.mode = fun _ => false) ⟨(Yq1 @e3),(Yq1 @e9),(Yq1 @e14),Yq0,(Yq1 @e17),(Yq1 @e18),Yq0,(Yq1 @hmd)⟩ ?_
    clear e3 e9 e14 b1000 e16 e17 e18 e19 e20 e21 b21 e23 e25 b25 e26 e27 hmd st
    rintro st ⟨e3,e9,e14,b1000,e17,e18,e193,hmd⟩
    refine Yf1 @e193 ?_
    refine Yg1 (fa3 @e3 @e18 @hwt) ?_
    exact ⟨n - 1,by omega,t + 1,o,h,by omega,by omega,(Yq1 @e3),(Yq1 @e9),(Yq1 @e14),(Yq1 @b1000),Yq0,(Yq1 @e17),(Yq1 @hwt),(Yq1 @hmd)⟩
  clear e3 e9 e14 b1000 e16 e17 hmd st
  rintro st ⟨k,e9,e14,b1000,hmd⟩
  have cA := dall_L ps (by omega) hsp (by rw [hgb];omega) k
  rw [hgb] at cA
  have cH := dheight_L ps (by omega) htb hne k
  rw [hhb] at cH
  have sR := sameRecs_L R (by omega) hsR
  simp only [dbL,rowL] at cA cH sR
  refine LW_pubBox (cs := [.sl ps.length (ps.flatMap pgL) .no,intL k]) 14 e14 b1000 ?_
  (repeat refine LW_seq ?_)
  refine Yr1 @e9 ?_;intro K hK
  refine Yc1 (t0) @e9 ?_
  refine Yc1 (cA) @e9 ?_
  refine Yc1 (sR) @e9 ?_
  refine Yc1 (cH) @e9 ?_
  refine Yc1 (rH) @e9 ?_
  refine hK _ ?_;clear hK K;try refine Wh0 ?_
  refine Ye0 ?_;try (with_reducible exact trivial)
end Go.Proofs.YteamlijbkldlhaaGreat
