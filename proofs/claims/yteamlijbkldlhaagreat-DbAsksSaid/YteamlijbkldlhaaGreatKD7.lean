import Derived.Test.YteamlijbkldlhaaGreatKD5
section
set_option linter.unusedSimpArgs false
set_option linter.unusedVariables false
namespace Go.Proofs.YteamlijbkldlhaaGreat
open Go.RowKit Go.Proofs AclSpec MetaSpec NodeSpec RecSpec PathSpec PageSpec DbSpec

theorem nilDb (b : Bool) : nilV Tryz.prog .eql 54 b = some (.bool b) := by
  unfold nilV
  rw [Tryz.underlying54]
theorem undDb : Tryz.prog.underlying 54 = some (.pointer 98) := Tryz.underlying54
theorem childP_drop {ks : List (List UInt8)} {i : Nat} {k : List UInt8} (h : ks[i + 1]? = some k) (p : List UInt8) : childP (ks.drop i) p = if lessB p k = true then 0 else childP (ks.drop (i + 1)) p + 1 := by
  obtain ⟨hi,rfl⟩ := List.getElem?_eq_some_iff.1 h
  rw [List.drop_eq_getElem_cons (show i < ks.length by omega),List.drop_eq_getElem_cons hi,childP]
theorem childP_end {ks : List (List UInt8)} {i : Nat} (h : ks.length ≤ i + 1) (p : List UInt8) : childP (ks.drop i) p = 0 := by
  have hl : (ks.drop i).length ≤ 1 := by rw [List.length_drop];omega
  cases hd : ks.drop i with
  | nil => rfl
  | cons a r =>
    rw [hd] at hl
    cases r with
    | nil => rfl
    | cons b r => simp at hl
set_option maxRecDepth 100000 in
set_option maxHeartbeats 4000000 in
theorem dchild_L (ks : List (List UInt8)) (p : List UInt8) (hk : ks.length ≤ 1000000) (hks : ∀ k ∈ ks,k.length < 1000000) (hp : p.length < 1000000) : LCalls Tryz.prog 49 [strsL ks,strL p] (intL (childP ks p)) := by
  refine LCalls.of (fun _ => false) Tryz.func49 rfl (by decide) Tryz.ntmps49 Tryz.results49 (by simp) ?_
  intro w0 S0 vs hgl hwf0 hsz hvs;clear hsz hvs hwf0 hgl
  generalize hR : childP ks p = R
  refine Yg1 (fa2 @strsL.eq_1 @rowL.eq_1) ?_
  refine LW_lab1 (fun n st => ∃ i : Nat,n + i = ks.length ∧ i + childP (ks.drop i) p = R ∧ st.env 0 = strsL ks ∧ st.env 1 = strL p ∧ st.env 5 = intL i ∧ st.mode = fun _ => false) rfl ?_ ?_
  · intro hJ
    refine Yl0 ?_
    exact hJ.out ks.length _ ⟨0,by omega,by rw [List.drop_zero,hR];omega,(Yq1 (fa2 @strsL.eq_1 @rowL.eq_1)),Yq0,Yq0,Yq0⟩
  · rintro n st ⟨i,hn,hr,e0,e1,e5,hmd⟩
    simp only [strsL,rowL] at e0
    have hw := w64s (n := i) (by omega)
    by_cases hlt : i + 1 < ks.length
    rotate_left
    · have hlti : ¬ (((i + 1 : Nat) : Int) < (ks.length : Int)) := by omega
      rw [childP_end (by omega)] at hr
      have hr : i = R := hr
      subst hr
      refine Yg1 (fa5 @e0 @e1 @e5 @hw @hlti) ?_
      refine Yf0 ?_
      refine Yg1 @e5 ?_
      refine Ye0 ?_;try (with_reducible exact trivial)
    have hlti : (((i + 1 : Nat) : Int) < (ks.length : Int)) = True := eq_true (by omega)
    obtain ⟨k,hk1⟩ := get_of_lt hlt
    have hd := drop_str hk1
    have hip : (0 : Int) ≤ ((i + 1 : Nat) : Int) := by omega
    have cl := pless_L p k hp (hks k (List.mem_of_getElem? hk1))
    rw [childP_drop hk1] at hr
    cases hle : lessB p k
    · rw [hle] at cl
      rw [hle,if_neg (by decide)] at hr
      refine Yr1 (fa8 @e0 @e1 @e5 @hw @hlti @hlt @hd @hip) ?_;intro K hK
      refine Yc1 (cl) (fa8 @e0 @e1 @e5 @hw @hlti @hlt @hd @hip) ?_
      refine hK _ ?_;clear hK K;try refine Wh0 ?_
      refine Yt0 ?_
      refine Yg1 (fa2 @e5 @hw) ?_
      refine LW_goto ?_;simp only [thenL,jumpsL,inBlockL,twoL,true_and]
      exact ⟨n - 1,by omega,i + 1,by omega,by omega,(Yq1 (fa3 @e0 @strsL.eq_1 @rowL.eq_1)),(Yq1 @e1),(Yq1 @hw),(Yq1 @hmd)⟩
    · rw [hle] at cl
      rw [hle,if_pos rfl] at hr
      have hr : i = R := hr
      subst hr
      refine Yr1 (fa8 @e0 @e1 @e5 @hw @hlti @hlt @hd @hip) ?_;intro K hK
      refine Yc1 (cl) (fa8 @e0 @e1 @e5 @hw @hlti @hlt @hd @hip) ?_
      refine hK _ ?_;clear hK K;try refine Wh0 ?_
      refine Yf0 ?_
      refine Yg1 @e5 ?_
      refine Ye0 ?_;try (with_reducible exact trivial)
theorem find_drop {l : List Rec} {i : Nat} {r : Rec} (h : l[i]? = some r) (f : Rec → Bool) : (l.drop i).find? f = if f r = true then some r else (l.drop (i + 1)).find? f := by
  obtain ⟨hi,rfl⟩ := List.getElem?_eq_some_iff.1 h
  rw [List.drop_eq_getElem_cons hi,List.find?_cons]
  cases f l[i] <;> rfl
def zRecL : List LV := [strL [],intL 0,intL 0,intL 0,intL 0,intL 0,intL 0,.sl 0 [] .nil,.sl 0 [] .nil,intL 0,.sl 0 [] .nil,strL [],intL 0,intL 0,intL 0]
set_option maxRecDepth 100000 in
set_option maxHeartbeats 4000000 in
theorem damong_L (l : List Rec) (p : List UInt8) (hl : l.length ≤ 1000000) (hs : ∀ r ∈ l,small r.node) : LCalls Tryz.prog 50 [rowL recL l,strL p] (.tup [.agg (recL (amongP l p).1),boolL (amongP l p).2]) := by
  refine LCalls.of (fun _ => false) Tryz.func50 rfl (by decide) Tryz.ntmps50 Tryz.results50 (by simp) ?_
  intro w0 S0 vs hgl hwf0 hsz hvs;clear hsz hvs hwf0 hgl
  generalize hR : amongP l p = R
  unfold amongP at hR
  generalize hf : (fun r : Rec => decide (r.path = p)) = f at hR
  refine Yg1 @rowL.eq_1 ?_
  refine LW_lab1 (fun n st => ∃ i : Nat,n + i = l.length ∧ (l.drop i).find? f = l.find? f ∧ st.env 0 = rowL recL l ∧ st.env 1 = strL p ∧ st.env 4 = .ptr 4 0 ∧ st.box 4 = some zRecL ∧ st.env 6 = intL i ∧ st.mode = fun _ => false) rfl ?_ ?_
  · intro hJ
    refine Yl0 ?_
    exact hJ.out l.length _ ⟨0,by omega,rfl,(Yq1 @rowL.eq_1),Yq0,Yq0,(Yq1 @zRecL.eq_1),Yq0,Yq0⟩
  · rintro n st ⟨i,hn,hr,e0,e1,e4,b4,e6,hmd⟩
    simp only [rowL] at e0
    simp only [zRecL] at b4
    by_cases hlt : i < l.length
    rotate_left
    · have hin : ((i : Int) = (l.length : Int)) = True := eq_true (by omega)
      rw [List.drop_of_length_le (by omega)] at hr
      rw [← hr] at hR
      have hR : (zeroRec,false) = R := hR
      subst hR
      refine Yg1 (fa3 @e0 @e6 @hin) ?_
      refine Yt0 ?_
      refine Yg1 (fa2 @e4 @b4) ?_
      refine Ye1 (fa9 @e4 @zeroRec.eq_1 @zeroN.eq_1 @recL.eq_1 @nodeL.eq_1 @attrsL.eq_1 @acesL.eq_1 @piecesL.eq_1 @rowL.eq_1) ?_;try (with_reducible exact trivial)
      (repeat' apply And.intro) <;> rfl
    have hin : ¬ ((i : Int) = (l.length : Int)) := by omega
    obtain ⟨r,hri⟩ := get_of_lt hlt
    have hd := drop_rec hri
    have hip : (0 : Int) ≤ (i : Int) := by omega
    have hw := w64s (n := i) (by omega)
    have cc := dclone_L r (hs r (List.mem_of_getElem? hri))
    rw [find_drop hri] at hr
    simp only [recL,nodeL,attrsL,acesL,piecesL,rowL,List.cons_append,List.nil_append] at cc hd
    by_cases he : r.path = p
    · have hei : (r.path = p) = True := eq_true he
      rw [if_pos (by rw [← hf];simp [he])] at hr
      rw [← hr] at hR
      have hR : (r,true) = R := hR
      subst hR
      refine Yg1 (fa3 @e0 @e6 @hin) ?_
      refine Yf0 ?_
      refine Yg1 (fa7 @e0 @e1 @e6 @hip @hlt @hd @hei) ?_
      refine Yt0 ?_
      refine Yr1 (fa7 @e0 @e4 @b4 @e6 @hip @hlt @hd) ?_;intro K hK
      refine Yc1 (cc) (fa7 @e0 @e4 @b4 @e6 @hip @hlt @hd) ?_
      refine hK _ ?_;clear hK K;try refine Wh0 ?_
      refine Ye1 (fa7 @e4 @recL.eq_1 @nodeL.eq_1 @attrsL.eq_1 @acesL.eq_1 @piecesL.eq_1 @rowL.eq_1) ?_;try (with_reducible exact trivial)
    · rw [if_neg (by rw [← hf];simp [he])] at hr
      refine Yg1 (fa3 @e0 @e6 @hin) ?_
      refine Yf0 ?_
      refine Yg1 (fa7 @e0 @e1 @e6 @hip @hlt @hd @he) ?_
      refine Yf0 ?_
      refine Yg1 (fa2 @e6 @hw) ?_
      refine LW_goto ?_;simp only [thenL,jumpsL,inBlockL,twoL,true_and]
      exact ⟨n - 1,by omega,i + 1,by omega,hr,(Yq1 (fa2 @e0 @rowL.eq_1)),(Yq1 @e1),(Yq1 @e4),(Yq1 (fa2 @b4 @zRecL.eq_1)),(Yq1 @hw),(Yq1 @hmd)⟩
def dbL (ps : List Pg) (k : Int) : List LV := [rowL pgL ps,intL k]
set_option maxRecDepth 100000 in
theorem dheight0_L : LCalls Tryz.prog 28 [.lit (.pointer none)] (intL 0) := by
  refine LCalls.of (fun _ => false) Tryz.func28 rfl (by decide) Tryz.ntmps28 Tryz.results28 (by simp) ?_
  intro w0 S0 vs hgl hwf0 hsz hvs;clear hsz hvs hwf0 hgl
  refine Yg0 ?_
  refine LW_scope_straight ?_
  refine Yg1 (fa2 @nilDb @undDb) ?_
  refine Yt0 ?_
  refine Yg0 ?_
  refine Ye0 ?_;try (with_reducible exact trivial)
set_option maxRecDepth 100000 in
set_option maxHeartbeats 4000000 in
theorem dheight_L (ps : List Pg) (hl : ps.length ≤ 100000) (ht : TableP ps) (hne : ps ≠ []) (k : Int) : LCalls Tryz.prog 28 [.ref (dbL ps k)] (intL (highP ps)) := by
  have hpos : 0 < ps.length := List.length_pos_iff.2 hne
  refine LCalls.of (fun _ => false) Tryz.func28 rfl (by decide) Tryz.ntmps28 Tryz.results28 (by simp) ?_
  intro w0 S0 vs hgl hwf0 hsz hvs;clear hsz hvs hwf0 hgl
  generalize hR : highP ps = R
  unfold highP at hR
  refine Yg1 (fa2 @dbL.eq_1 @rowL.eq_1) ?_
  refine LW_lab1 (fun n st => ∃ (i c : Nat),i < n ∧ i < ps.length ∧ c + highF ps n i = R + 1 ∧ c ≤ 1000000 - n ∧ n ≤ 100000 ∧ st.env 0 = .ref (dbL ps k) ∧ st.env 3 = intL i ∧ st.env 4 = intL c ∧ st.mode = fun _ => false) rfl ?_ ?_
  · intro hJ
    have h0 : ¬ ((ps.length : Int) = 0) := by omega
    have hw : IntKind.i64.wrap ((ps.length : Int) - 1) = ((ps.length - 1 : Nat) : Int) := w64p (by omega) (by omega)
    refine Yg1 (fa3 @h0 @nilDb @undDb) ?_
    refine Yf0 ?_
    refine Yl1 @hw ?_
    exact hJ.out ps.length _ ⟨ps.length - 1,1,by omega,by omega,by rw [hR];omega,by omega,hl,(Yq1 (fa2 @dbL.eq_1 @rowL.eq_1)),(Yq1 @hw),Yq0,Yq0⟩
  · rintro n st ⟨i,c,hin,hil,hc,hcn,hn9,e0,e3,e4,hmd⟩
    simp only [dbL,rowL] at e0
    obtain ⟨f,rfl⟩ : ∃ f,n = f + 1 := ⟨n - 1,by omega⟩
    obtain ⟨x,hx⟩ := get_of_lt hil
    have hxd : ps.getD i zeroPg = x := by rw [List.getD_eq_getElem?_getD,hx];rfl
    have hxm := List.mem_of_getElem? hx
    have hd := drop_pg hx
    have hip : (0 : Int) ≤ (i : Int) := by omega
    have hw := w64s (n := c) (by omega)
    rw [highF,hxd] at hc
    simp only [pgL,rowL,strsL,intsL,List.cons_append,List.nil_append] at hd
    cases hlf : x.leaf
    rotate_left
    · rw [hlf,if_pos rfl] at hc
      have hc : c = R := by omega
      subst hc
      rw [hlf] at hd
      refine Yg1 (fa5 @e0 @e3 @hip @hil @hd) ?_
      refine Yf0 ?_
      refine Yg1 @e4 ?_
      refine Ye0 ?_;try (with_reducible exact trivial)
    rw [hlf,if_neg (by decide)] at hc
    rw [hlf] at hd
    obtain ⟨hk1,hk2⟩ := ht.keys x hxm hlf
    obtain ⟨m,hm⟩ := get_of_lt (l := x.pages) (i := 0) (by omega)
    have hmd0 : x.pages.getD 0 0 = m := by rw [List.getD_eq_getElem?_getD,hm];rfl
    have hdn := ht.down i hil (by have := (List.getElem?_eq_some_iff.1 hx).2;rw [this];exact hlf) m (by have := (List.getElem?_eq_some_iff.1 hx).2;rw [this];exact List.mem_of_getElem? hm)
    rw [hmd0] at hc
    obtain ⟨m',rfl⟩ : ∃ m' : Nat,m = m' := ⟨m.toNat,by omega⟩
    rw [Int.toNat_natCast] at hc
    have hdm := drop_int hm
    rw [List.drop_zero] at hdm
    have hlt0 : ((0 : Int) < (x.pages.length : Int)) = True := eq_true (by omega)
    refine Yg1 (fa5 @e0 @e3 @hip @hil @hd) ?_
    refine Yt0 ?_
    refine Yg1 (fa11 @e0 @e3 @e4 @hip @hil @hd @hlt0 @i00 @i0n @hdm @hw) ?_
    refine LW_goto ?_;simp only [thenL,jumpsL,inBlockL,twoL,true_and]
    exact ⟨f,by omega,m',c + 1,by omega,by omega,by omega,by omega,by omega,(Yq1 (fa3 @e0 @dbL.eq_1 @rowL.eq_1)),Yq0,(Yq1 @hw),(Yq1 @hmd)⟩
end Go.Proofs.YteamlijbkldlhaaGreat
end
section
set_option linter.unusedSimpArgs false
set_option linter.unusedVariables false
namespace Go.Proofs.YteamlijbkldlhaaGreat
open Nat renaming reduceAdd → zz1,reduceMul → zz2,reduceSub → zz3,reduceLT → zz4,reduceLeDiff → zz5,reduceEqDiff → zz6,reduceBEq → zzf
open Int renaming reduceAdd → zz7,reduceSub → zz8,reduceMul → zz9,reduceLT → zza,reduceLE → zzb,reduceEq → zzc,reduceNeg → zzd,reduceToNat → zze
open Op renaming operands → zo
open Call renaming operands → zc
open Go.RowKit Go.Proofs AclSpec MetaSpec NodeSpec RecSpec PathSpec PageSpec DbSpec

set_option maxRecDepth 100000 in
theorem dfind0_L (p : List UInt8) : LCalls Tryz.prog 20 [.lit (.pointer none),strL p] (.tup [.agg (recL zeroRec),boolL false]) := by
  refine LCalls.of (fun _ => false) Tryz.func20 rfl (by decide) Tryz.ntmps20 Tryz.results20 (by simp) ?_
  intro w0 S0 vs hgl hwf0 hsz hvs;clear hsz hvs hwf0 hgl
  refine Yg0 ?_
  refine LW_scope_straight ?_
  refine Yg1 (fa2 @nilDb @undDb) ?_
  refine Yt0 ?_
  refine Yg0 ?_
  refine Ye1 (fa8 @zeroRec.eq_1 @zeroN.eq_1 @recL.eq_1 @nodeL.eq_1 @attrsL.eq_1 @acesL.eq_1 @piecesL.eq_1 @rowL.eq_1) ?_;try (with_reducible exact trivial)
  (repeat' apply And.intro) <;> rfl
set_option maxRecDepth 100000 in
set_option maxHeartbeats 8000000 in
theorem dfind_S (ps : List Pg) (hl : ps.length ≤ 100000) (hs : ∀ x ∈ ps,SmallP x) (ht : TableP ps) (p : List UInt8) (hp : p.length < 1000000) (k : Int) :
    SCalls Tryz.prog 20 [.ptr 1000 0,strL p] ⟨[],[],[(1000,dbL ps k)]⟩ (.tup [.agg (recL (findP ps p).2.1),boolL (findP ps p).2.2]) ⟨[],[],[(2000,dbL ps (findP ps p).1)]⟩ [(1000,2000)] := by
  have cm := pmay_L p hp
  refine SCalls.of (fun _ => false) [(1000,2000)] 0 Tryz.func20 rfl (by decide) Tryz.ntmps20 Tryz.results20 (by simp) (.inr ⟨_,_,rfl,by decide,rfl⟩) ?_
  intro w0 S0 vs
  generalize hR : findP ps p = R
  unfold findP at hR
  refine Yg0 ?_
  refine LW_lab1 (fun n st => ∃ (i c : Nat),i < n ∧ i < ps.length ∧ c + (descP ps p n i).1 = R.1 ∧ (descP ps p n i).2 = R.2 ∧ c ≤ 1000000 - n ∧ n ≤ 100000 ∧ st.env 0 = .ptr 1000 0 ∧ st.val 0 = vs[0]? ∧ st.box 1000 = some (dbL ps c) ∧ st.env 1 = strL p ∧ st.env 4 = .ptr 4 0 ∧ st.box 4 = some zRecL ∧ st.env 6 = intL i ∧ st.mode = fun _ => false) rfl ?_ ?_
  · intro hJ
    refine Yg1 (fa4 @dbL.eq_1 @rowL.eq_1 @nilDb @undDb) ?_
    refine Yf0 ?_
    refine Yg1 (fa2 @dbL.eq_1 @rowL.eq_1) ?_
    cases hm : mayB p
    · rw [hm] at cm
      rw [hm,if_neg (by simp)] at hR
      subst hR
      refine Yr1 (fa2 @dbL.eq_1 @rowL.eq_1) ?_;intro K hK
      refine Yc1 (cm) (fa2 @dbL.eq_1 @rowL.eq_1) ?_
      refine hK _ ?_;clear hK K;try refine Wh0 ?_
      refine Yt0 ?_
      refine Yg0 ?_
      refine LW_ret ?_;simp only [thenL,jumpsL,inBlockL,twoL,bodyS];refine ⟨[(1000,2000)],rfl,.inr ⟨_,_,_,rfl,rfl,(by first | exact rfl | assumption | (simp only [LZ,zo,zc,reduceCtorEq,reduceIte,zz1,zz2,zz3,zz4,zz5,zz6,zz7,zz8,zz9,zza,zzb,zzc,zzd,zze,zzf,dbL,rowL,zeroRec,zeroN,recL,nodeL,attrsL,acesL,piecesL] <;> exact rfl)),(by first | exact rfl | assumption | (simp only [LZ,zo,zc,reduceCtorEq,reduceIte,zz1,zz2,zz3,zz4,zz5,zz6,zz7,zz8,zz9,zza,zzb,zzc,zzd,zze,zzf,dbL,rowL,zeroRec,zeroN,recL,nodeL,attrsL,acesL,piecesL] <;> exact rfl))⟩,?_⟩;simp only [thenL,jumpsL,inBlockL,twoL,bodyQ,LV.lit.injEq,LV.tup.injEq,LV.agg.injEq,LV.sl.injEq,List.cons.injEq,Value.int.injEq,Value.bool.injEq,Value.string.injEq,ByteArray.mk.injEq,exists_eq_left',exists_eq_left,exists_eq_right,LZ,zo,zc,reduceCtorEq,reduceIte,zz1,zz2,zz3,zz4,zz5,zz6,zz7,zz8,zz9,zza,zzb,zzc,zzd,zze,zzf,dbL,rowL,zeroRec,zeroN,recL,nodeL,attrsL,acesL,piecesL]
      (repeat' apply And.intro) <;> rfl
    rw [hm] at cm
    by_cases h0 : ps = []
    · rw [hm,if_neg (by rintro ⟨_,c⟩;exact c h0)] at hR
      subst hR h0
      refine Yr1 (fa2 @dbL.eq_1 @rowL.eq_1) ?_;intro K hK
      refine Yc1 (cm) (fa2 @dbL.eq_1 @rowL.eq_1) ?_
      refine hK _ ?_;clear hK K;try refine Wh0 ?_
      refine Yt0 ?_
      refine Yg0 ?_
      refine LW_ret ?_;simp only [thenL,jumpsL,inBlockL,twoL,bodyS];refine ⟨[(1000,2000)],rfl,.inr ⟨_,_,_,rfl,rfl,(by first | exact rfl | assumption | (simp only [LZ,zo,zc,reduceCtorEq,reduceIte,zz1,zz2,zz3,zz4,zz5,zz6,zz7,zz8,zz9,zza,zzb,zzc,zzd,zze,zzf,dbL,rowL,zeroRec,zeroN,recL,nodeL,attrsL,acesL,piecesL] <;> exact rfl)),(by first | exact rfl | assumption | (simp only [LZ,zo,zc,reduceCtorEq,reduceIte,zz1,zz2,zz3,zz4,zz5,zz6,zz7,zz8,zz9,zza,zzb,zzc,zzd,zze,zzf,dbL,rowL,zeroRec,zeroN,recL,nodeL,attrsL,acesL,piecesL] <;> exact rfl))⟩,?_⟩;simp only [thenL,jumpsL,inBlockL,twoL,bodyQ,LV.lit.injEq,LV.tup.injEq,LV.agg.injEq,LV.sl.injEq,List.cons.injEq,Value.int.injEq,Value.bool.injEq,Value.string.injEq,ByteArray.mk.injEq,exists_eq_left',exists_eq_left,exists_eq_right,LZ,zo,zc,reduceCtorEq,reduceIte,zz1,zz2,zz3,zz4,zz5,zz6,zz7,zz8,zz9,zza,zzb,zzc,zzd,zze,zzf,dbL,rowL,zeroRec,zeroN,recL,nodeL,attrsL,acesL,piecesL]
      (repeat' apply And.intro) <;> rfl
    rw [hm,if_pos ⟨rfl,h0⟩] at hR
    have hpos : 0 < ps.length := List.length_pos_iff.2 h0
    have h0i : ¬ ((ps.length : Int) = 0) := by omega
    have hw : IntKind.i64.wrap ((ps.length : Int) - 1) = ((ps.length - 1 : Nat) : Int) := w64p (by omega) (by omega)
    refine Yr1 (fa3 @dbL.eq_1 @rowL.eq_1 @h0i) ?_;intro K hK
    refine Yc1 (cm) (fa3 @dbL.eq_1 @rowL.eq_1 @h0i) ?_
    refine hK _ ?_;clear hK K;try refine Wh0 ?_
    refine Yf0 ?_
    refine Yl1 (fa3 @dbL.eq_1 @rowL.eq_1 @hw) ?_
    exact hJ.out ps.length _ ⟨ps.length - 1,0,by omega,by omega,by rw [hR];omega,by rw [hR],by omega,hl,Yq0,Yq0,(Yq1 (fa2 @dbL.eq_1 @rowL.eq_1)),Yq0,Yq0,(Yq1 @zRecL.eq_1),(Yq1 @hw),Yq0⟩
  · rintro n st ⟨i,c,hin,hil,hc,hc2,hcn,hn9,e0,v0,b1000,e1,e4,b4,e6,hmd⟩
    simp only [dbL,rowL] at b1000
    simp only [zRecL] at b4
    obtain ⟨f,rfl⟩ : ∃ f,n = f + 1 := ⟨n - 1,by omega⟩
    obtain ⟨x,hx⟩ := get_of_lt hil
    have hxd : ps.getD i zeroPg = x := by rw [List.getD_eq_getElem?_getD,hx];rfl
    have hxm := List.mem_of_getElem? hx
    have hsx := hs x hxm
    have hd := drop_pg hx
    have hip : (0 : Int) ≤ (i : Int) := by omega
    have hw := w64s (n := c) (by omega)
    rw [descP,hxd] at hc hc2
    simp only [pgL,rowL,strsL,intsL,List.cons_append,List.nil_append] at hd
    refine Yg1 (fa7 @e0 @b1000 @e6 @hip @hil @hd @hw) ?_
    refine LW_slim (fun st => st.env 0 = .ptr 1000 0 ∧ st.val 0 = vs[0]? ∧ st.box 1000 = some (dbL ps (c + 1 : Nat)) ∧ st.env 1 = strL p ∧ st.env 4 = .ptr 4 0 ∧ st.box 4 = some zRecL ∧ st.env 7 = .ptr 7 0 ∧ st.box 7 = some (pgL x) ∧ st.env 48 = boolL (!x.leaf) ∧ st.mode = fun _ => false) ⟨(Yq1 @e0),(Yq1 @v0),(Yq1 (fa4 @b1000 @dbL.eq_1 @rowL.eq_1 @hw)),(Yq1 @e1),(Yq1 @e4),(Yq1 (fa2 @b4 @zRecL.eq_1)),Yq0,(Yq1 (fa4 @pgL.eq_1 @rowL.eq_1 @strsL.eq_1 @intsL.eq_1)),Yq0,(Yq1 @hmd)⟩ ?_
    clear e0 v0 b1000 e1 e4 b4 e6 hmd st
    rintro st ⟨e0,v0,b1000,e1,e4,b4,e7,b7,e48,hmd⟩
    simp only [dbL,rowL] at b1000
    simp only [zRecL] at b4
    simp only [pgL,rowL,strsL,intsL] at b7
    cases hlf : x.leaf
    rotate_left
    · rw [hlf,if_pos rfl] at hc hc2
      have hc : c + 1 = R.1 := hc
      have hc2 : amongP x.recs p = R.2 := hc2
      have ca := damong_L x.recs p hsx.recs (fun r hr => (hsx.one r hr).2)
      rw [hc2] at ca
      rw [hc] at b1000
      simp only [recL,nodeL,attrsL,acesL,piecesL,rowL,List.cons_append,List.nil_append] at ca
      rw [hlf] at e48
      refine Yf1 @e48 ?_
      refine Yr1 (fa5 @e1 @e4 @b4 @e7 @b7) ?_;intro K hK
      refine Yc1 (ca) (fa5 @e1 @e4 @b4 @e7 @b7) ?_
      refine hK _ ?_;clear hK K;try refine Wh0 ?_
      refine LW_ret ?_;simp only [thenL,jumpsL,inBlockL,twoL,bodyS];refine ⟨[(1000,2000)],rfl,.inr ⟨_,_,_,rfl,rfl,(by first | exact rfl | assumption | (simp only [LZ,zo,zc,reduceCtorEq,reduceIte,zz1,zz2,zz3,zz4,zz5,zz6,zz7,zz8,zz9,zza,zzb,zzc,zzd,zze,zzf,e0,v0,e4,b1000,dbL,rowL,recL,nodeL,attrsL,acesL,piecesL] <;> exact rfl)),(by first | exact rfl | assumption | (simp only [LZ,zo,zc,reduceCtorEq,reduceIte,zz1,zz2,zz3,zz4,zz5,zz6,zz7,zz8,zz9,zza,zzb,zzc,zzd,zze,zzf,e0,v0,e4,b1000,dbL,rowL,recL,nodeL,attrsL,acesL,piecesL] <;> exact rfl))⟩,?_⟩;simp only [thenL,jumpsL,inBlockL,twoL,bodyQ,LV.lit.injEq,LV.tup.injEq,LV.agg.injEq,LV.sl.injEq,List.cons.injEq,Value.int.injEq,Value.bool.injEq,Value.string.injEq,ByteArray.mk.injEq,exists_eq_left',exists_eq_left,exists_eq_right,LZ,zo,zc,reduceCtorEq,reduceIte,zz1,zz2,zz3,zz4,zz5,zz6,zz7,zz8,zz9,zza,zzb,zzc,zzd,zze,zzf,e0,v0,e4,b1000,dbL,rowL,recL,nodeL,attrsL,acesL,piecesL]
    rw [hlf,if_neg (by decide)] at hc hc2
    obtain ⟨hk1,hk2⟩ := ht.keys x hxm hlf
    have hch := childP_lt x.keys p (by omega)
    rw [hk1] at hch
    obtain ⟨m,hm⟩ := get_of_lt hch
    have hmd0 : x.pages.getD (childP x.keys p) 0 = m := by rw [List.getD_eq_getElem?_getD,hm];rfl
    have hdn := ht.down i hil (by have := (List.getElem?_eq_some_iff.1 hx).2;rw [this];exact hlf) m (by have := (List.getElem?_eq_some_iff.1 hx).2;rw [this];exact List.mem_of_getElem? hm)
    rw [hmd0] at hc hc2
    obtain ⟨m',rfl⟩ : ∃ m' : Nat,m = m' := ⟨m.toNat,by omega⟩
    rw [Int.toNat_natCast] at hc hc2
    have hdm := drop_int hm
    have cc := dchild_L x.keys p hsx.keys hsx.key hp
    generalize childP x.keys p = ch at *
    have hcp : (0 : Int) ≤ (ch : Int) := by omega
    simp only [strsL,rowL] at cc
    rw [hlf] at e48
    refine Yt1 @e48 ?_
    refine Yn1 (fa7 @e1 @e7 @b7 @hcp @hch @hdm @hmd) ?_;intro K hK
    refine Yc1 (cc) (fa6 @e1 @e7 @b7 @hcp @hch @hdm) ?_
    refine hK _ ?_;clear hK K;try refine Wh0 ?_
    refine LW_goto ?_;simp only [thenL,jumpsL,inBlockL,twoL,true_and]
    exact ⟨f,by omega,m',c + 1,by omega,by omega,by rw [← hc];simp only [];omega,hc2,by omega,by omega,(Yq1 @e0),(Yq1 @v0),(Yq1 (fa3 @b1000 @dbL.eq_1 @rowL.eq_1)),(Yq1 @e1),(Yq1 @e4),(Yq1 (fa2 @b4 @zRecL.eq_1)),Yq0,(Yq1 @hmd)⟩
end Go.Proofs.YteamlijbkldlhaaGreat
end
