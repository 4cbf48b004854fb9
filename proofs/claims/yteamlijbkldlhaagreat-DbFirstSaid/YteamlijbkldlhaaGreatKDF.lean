import Derived.Test.YteamlijbkldlhaaGreatKD9
import Derived.Test.YteamlijbkldlhaaGreatKDM
import Derived.Test.YteamlijbkldlhaaGreatKPD
import Derived.Test.YteamlijbkldlhaaGreatDFirst
set_option linter.unusedSimpArgs false
set_option linter.unusedVariables false
namespace Go.Proofs.YteamlijbkldlhaaGreat
open Nat renaming reduceAdd → zz1,reduceMul → zz2,reduceSub → zz3,reduceLT → zz4,reduceLeDiff → zz5,reduceEqDiff → zz6,reduceBEq → zzf
open Int renaming reduceAdd → zz7,reduceSub → zz8,reduceMul → zz9,reduceLT → zza,reduceLE → zzb,reduceEq → zzc,reduceNeg → zzd,reduceToNat → zze
open Go.RowKit Go.Proofs AclSpec MetaSpec NodeSpec RecSpec PathSpec PageSpec TreeSpec DbSpec

theorem LW_joinB2 {P : Program} {N : Nat} {w0 : World} {S0 : Ent} {id id2 : Nat} {c : Code} {Q : Exit → LSt → Prop} {K : LSt → Prop} {st : LSt} (M : LSt → Prop) (h1 : LW P N w0 S0 c (inBlockL id (inBlockL id2 (thenL M Q))) st) (h2 : ∀ st',M st' → K st') : LW P N w0 S0 c (inBlockL id (inBlockL id2 (thenL K Q))) st :=
  h1.mono fun e st' h => by
    cases e with
    | exit i =>
      simp only [inBlockL] at h ⊢
      split
      · rename_i hi;rw [if_pos hi] at h;exact h2 _ h
      · rename_i hi
        rw [if_neg hi] at h
        split
        · rename_i hi2;rw [if_pos hi2] at h;exact h2 _ h
        · rename_i hi2;rw [if_neg hi2] at h;exact h
    | normal => exact h2 _ h
    | _ => exact h
def seenI (c N : Nat) : List Int := List.replicate c 1 ++ List.replicate (N - c) 0
theorem seenI_len {c N : Nat} (h : c ≤ N) : (seenI c N).length = N := by unfold seenI;simp;omega
theorem seenI_zero (N : Nat) : seenI 0 N = List.replicate N 0 := by unfold seenI;simp
theorem seenI_at {c N : Nat} (h : c < N) : (seenI c N)[c]? = some 0 := by
  unfold seenI
  rw [List.getElem?_append_right (by simp),List.length_replicate,Nat.sub_self,List.getElem?_replicate,if_pos (by omega)]
theorem seenI_low {c N i : Nat} (h : i < c) : (seenI c N)[i]? = some 1 := by
  unfold seenI
  rw [List.getElem?_append_left (by simpa using h),List.getElem?_replicate,if_pos h]
theorem seenI_bump {c N : Nat} (h : c < N) : bump (seenI c N) (c : Int) = seenI (c + 1) N := by
  unfold bump
  rw [Int.toNat_natCast,seenI_at h]
  unfold seenI
  rw [List.set_append_right _ _ (by simp),List.length_replicate,Nat.sub_self,show N - c = N - (c + 1) + 1 by omega,List.replicate_succ,List.set_cons_zero,List.replicate_succ' (n := c),List.append_assoc]
  rfl
set_option maxRecDepth 100000 in
set_option maxHeartbeats 16000000 in
theorem dbFirst_L (l : List Int) : LCalls Tryz.prog 3 [intsL l] (boolL true) := by
  have hmk : LCalls Tryz.prog 9 [intsL l] (.agg (treeL (madeT l))) := make_L l
  have hrc := madeRecs_L l
  have hmay := made_recs l
  have hsm := made_small l
  have c1 := dbuild_L (madeR l) hsm
  rw [made_build] at c1
  have hlist := build_listed hmay
  obtain ⟨r0,hr0,hf0⟩ := build_first hmay
  have hsp := buildP_small hsm
  have htg := page_target hmay
  have hpl := buildP_len200 hmay
  obtain ⟨hR1,hR2,_⟩ := mayRecs_ok hmay
  have hps : 1 ≤ (buildP (madeR l)).length := by
    obtain ⟨b,_,hb⟩ := build_inv hmay
    omega
  generalize buildP (madeR l) = ps at *
  generalize madeR l = R at *
  generalize bytsT (madeT l) = B at *
  generalize madeT l = t at *
  have hN0 : ¬ ((ps.length : Int) = 0) := by omega
  have hR0 : ¬ ((R.length : Int) = 0) := by omega
  have hz : ¬ ps.length = 0 := by omega
  have hmx : ps.length ≤ maxLen := by unfold maxLen;omega
  simp only [treeL,rowL] at hmk hrc c1
  refine LCalls.of (fun _ => false) Tryz.func3 rfl (by decide) Tryz.ntmps3 Tryz.results3 (by simp) ?_
  intro w0 S0 vs hgl hwf0 hsz hvs;clear hsz hvs hwf0 hgl
  refine Yg0 ?_
  refine Yr1 @intsL.eq_1 ?_;intro K hK
  refine Yc1 (hmk) @intsL.eq_1 ?_
  refine Yc1 (hrc) @intsL.eq_1 ?_
  refine hK _ ?_;clear hK K;try refine Wh0 ?_
  refine Yr0 ?_;intro K hK
  refine Yc0 (c1) ?_
  refine hK _ ?_;clear hK K;try refine Wh0 ?_
  refine Yg1 (fa2 @hN0 @hR0) ?_
  refine Yf0 ?_
  refine LW_slim (fun st => st.env 3 = .sl R.length (R.flatMap recL) .no ∧ st.env 6 = .sl ps.length (ps.flatMap pgL) .no ∧ st.mode = fun _ => false) ⟨Yq0,Yq0,Yq0⟩ ?_
  rintro st ⟨e3,e6,hmd⟩
  (repeat refine LW_seq ?_)
  refine LW_join (fun st => st.env 3 = .sl R.length (R.flatMap recL) .no ∧ st.env 6 = .sl ps.length (ps.flatMap pgL) .no ∧ st.env 8 = .bsl 43 ps.length 3 ∧ st.arr 43 = some (usesL (seenI 0 ps.length)) ∧ st.mode = fun _ => false) ?_ ?_
  · rw [seenI_zero]
    refine Yr1 (fa4 @e3 @e6 @hz @rep_uses) ?_;intro K hK
    refine ⟨by (repeat' apply And.intro) <;> first | omega | exact hmx | rfl,?_⟩
    refine hK _ ?_;clear hK K;try refine Wh0 ?_
    exact ⟨(Yq1 @e3),(Yq1 @e6),Yq0,Yq0,(Yq1 @hmd)⟩
  clear e3 e6 hmd st
  rintro st ⟨e3,e6,e8,a43,hmd⟩
  refine Yg0 ?_
  refine LW_joinB (fun st => st.env 3 = .sl R.length (R.flatMap recL) .no ∧ st.env 6 = .sl ps.length (ps.flatMap pgL) .no ∧ st.env 8 = .bsl 43 ps.length 3 ∧ st.arr 43 = some (usesL (seenI (ps.length - 1) ps.length)) ∧ st.mode = fun _ => false) ?_ ?_
  · refine LW_loop (fun n st => ∃ i : Nat,n + i = ps.length ∧ offP ps i ≤ i ∧ st.env 3 = .sl R.length (R.flatMap recL) .no ∧ st.env 6 = .sl ps.length (ps.flatMap pgL) .no ∧ st.env 8 = .bsl 43 ps.length 3 ∧ st.arr 43 = some (usesL (seenI (offP ps i) ps.length)) ∧ st.env 9 = intL i ∧ st.mode = fun _ => false) ps.length ⟨0,by omega,Nat.le_refl _,(Yq1 @e3),(Yq1 @e6),(Yq1 @e8),(Yq1 @a43),Yq0,(Yq1 @hmd)⟩ ?_
    clear e3 e6 e8 a43 hmd st
    rintro n st ⟨i,hn,hoi,e3,e6,e8,a43,e9,hmd⟩
    by_cases hlt : i < ps.length
    rotate_left
    · have hi : i = ps.length := by omega
      have hll : ¬ ((i : Int) < (ps.length : Int)) := by omega
      rw [hi,hlist.all] at a43
      refine Yg1 (fa3 @e6 @e9 @hll) ?_
      refine Yf0 ?_
      refine LW_exit ?_;simp only [thenL,jumpsL,inBlockL,twoL,reduceIte,Nat.reduceEqDiff]
      exact ⟨(Yq1 @e3),(Yq1 @e6),(Yq1 @e8),(Yq1 @a43),(Yq1 @hmd)⟩
    obtain ⟨x,hx⟩ := get_of_lt hlt
    obtain ⟨hkl,hone⟩ := hlist.one i x hx
    have hos := offP_succ hx
    have hsx := hsp x (List.mem_of_getElem? hx)
    have hd := drop_pg hx
    have hlti : ((i : Int) < (ps.length : Int)) = True := eq_true (by omega)
    have hip : (0 : Int) ≤ (i : Int) := by omega
    have hwi := w64s (n := i) (by omega)
    have hoi1 : offP ps (i + 1) ≤ i + 1 := by
      by_cases h0 : x.pages.length = 0
      · omega
      · have := (hone (x.pages.length - 1) (by omega)).2.2
        omega
    have hpn : x.pages.length ≤ 200 := by
      by_cases h0 : x.pages.length = 0
      · omega
      · have := (hone (x.pages.length - 1) (by omega)).2.2
        omega
    simp only [pgL,rowL,strsL,intsL,List.cons_append,List.nil_append,hkl] at hd
    refine Yg1 (fa3 @e6 @e9 @hlti) ?_
    refine Yt0 ?_
    refine LW_skip ?_
    simp only [LSj,reduceIte,zze]
    refine LW_seq ?_
    refine LW_block ?_
    (repeat refine LW_seq ?_)
    refine Yn1 (fa6 @e6 @e9 @hlt @hip @hd @hmd) ?_;intro K hK
    refine hK _ ?_;clear hK K;try refine Wh0 ?_
    (repeat refine LW_seq ?_)
    refine Yf0 ?_
    refine Yo0 ?_
    refine LW_block ?_
    refine LW_joinB2 (fun st => st.env 3 = .sl R.length (R.flatMap recL) .no ∧ st.env 6 = .sl ps.length (ps.flatMap pgL) .no ∧ st.env 8 = .bsl 43 ps.length 3 ∧ st.arr 43 = some (usesL (seenI (offP ps (i + 1)) ps.length)) ∧ st.env 9 = intL i ∧ st.mode = fun _ => false) ?_ ?_
    · refine LW_loop (fun q st => ∃ k : Nat,q + k = x.pages.length ∧ st.env 3 = .sl R.length (R.flatMap recL) .no ∧ st.env 6 = .sl ps.length (ps.flatMap pgL) .no ∧ st.env 8 = .bsl 43 ps.length 3 ∧ st.arr 43 = some (usesL (seenI (offP ps i + k) ps.length)) ∧ st.env 9 = intL i ∧ st.env 10 = intL k ∧ st.mode = fun _ => false) x.pages.length ⟨0,by omega,(Yq1 @e3),(Yq1 @e6),(Yq1 @e8),(Yq1 @a43),(Yq1 @e9),Yq0,(Yq1 @hmd)⟩ ?_
      clear e3 e6 e8 a43 e9 hmd st
      rintro q st ⟨k,hq,e3,e6,e8,a43,e9,e10,hmd⟩
      by_cases hlk : k < x.pages.length
      rotate_left
      · have hll : ¬ ((k : Int) < (x.pages.length : Int)) := by omega
        have hkk : offP ps (i + 1) = offP ps i + k := by omega
        rw [hkk]
        refine Yg1 (fa7 @e6 @e9 @e10 @hlt @hip @hd @hll) ?_
        refine Yf0 ?_
        refine LW_exit ?_;simp only [thenL,jumpsL,inBlockL,twoL,reduceIte,Nat.reduceEqDiff]
        exact ⟨(Yq1 @e3),(Yq1 @e6),(Yq1 @e8),(Yq1 @a43),(Yq1 @e9),(Yq1 @hmd)⟩
      obtain ⟨o1,o2,o3⟩ := hone k hlk
      obtain ⟨v,hv⟩ : ∃ v,v = offP ps i + k := ⟨_,rfl⟩
      rw [← hv] at a43 o1 o2 o3
      have hvl : v < ps.length := by omega
      obtain ⟨y,hy⟩ := get_of_lt hvl
      have hyf : firstAt ps v = firstPg y := by unfold firstAt;rw [List.getD_eq_getElem?_getD,hy];rfl
      rw [hyf] at o2
      have hym := List.mem_of_getElem? hy
      have cf := qfirst_L y (hsp y hym) (htg y hym)
      have hdy := drop_pg hy
      have hdk := drop_str o2
      have hdm := drop_int o1
      have hklt : ((k : Int) < (x.pages.length : Int)) = True := eq_true (by omega)
      have hkp : (0 : Int) ≤ (k : Int) := by omega
      have hvp : (0 : Int) ≤ (v : Int) := by omega
      have hv0 : ((v : Int) < 0) = False := eq_false (by omega)
      have hvi : ((i : Int) ≤ (v : Int)) = False := eq_false (by omega)
      have hwk := w64s (n := k) (by omega)
      have hu := seenI_at hvl
      have hdu := drop_uses hu
      have hsu := set_uses hu
      rw [seenI_bump hvl] at hsu
      have hul := seenI_len (c := v) (N := ps.length) (by omega)
      have hku : v + 1 ≤ (seenI v ps.length).length := by omega
      simp only [pgL,rowL,strsL,intsL,List.cons_append,List.nil_append] at hdy cf
      simp only [intL,Int.zero_add] at hsu
      rw [← List.singleton_append,← List.append_assoc] at hsu
      have hw0 : IntKind.i64.wrap 1 = 1 := by decide
      refine Yg1 (fa7 @e6 @e9 @e10 @hlt @hip @hd @hklt) ?_
      refine Yt0 ?_
      refine LW_skip ?_
      simp only [LSj,reduceIte,zze]
      refine LW_seq ?_
      refine LW_block ?_
      (repeat refine LW_seq ?_)
      refine Yo1 (fa9 @e6 @e9 @e10 @hlt @hip @hd @hlk @hkp @hdm) ?_
      (repeat refine LW_seq ?_)
      refine Yn1 (fa15 @e6 @e9 @e10 @hlt @hip @hd @hlk @hkp @hdk @hvp @hvl @hdy @hv0 @hvi @hmd) ?_;intro K hK
      refine Yc1 (cf) (fa15 @e6 @e9 @e10 @hlt @hip @hd @hlk @hkp @hdk @hvp @hvl @hdy @hv0 @hvi @hmd) ?_
      refine hK _ ?_;clear hK K;try refine Wh0 ?_
      (repeat refine LW_seq ?_)
      refine Yf0 ?_
      refine Yr1 (fa9 @e8 @a43 @hvp @hvl @hdu @hw0 @hku @uses_len @hul) ?_;intro K hK
      refine ⟨by omega,?_⟩
      refine hK _ ?_;clear hK K;try refine Wh0 ?_
      refine Yg1 (fa2 @e10 @hwk) ?_
      exact ⟨q - 1,by omega,k + 1,by omega,(Yq1 @e3),(Yq1 @e6),(Yq1 @e8),by rw [show offP ps i + (k + 1) = v + 1 by omega];exact (Yq1 (fa2 @hw0 @hsu)),(Yq1 @e9),(Yq1 @hwk),(Yq1 @hmd)⟩
    clear e3 e6 e8 a43 e9 hmd st
    rintro st ⟨e3,e6,e8,a43,e9,hmd⟩
    refine Yg1 (fa2 @e9 @hwi) ?_
    exact ⟨n - 1,by omega,i + 1,by omega,hoi1,(Yq1 @e3),(Yq1 @e6),(Yq1 @e8),(Yq1 @a43),(Yq1 @hwi),(Yq1 @hmd)⟩
  clear e3 e6 e8 a43 hmd st
  rintro st ⟨e3,e6,e8,a43,hmd⟩
  have hul := seenI_len (c := ps.length - 1) (N := ps.length) (by omega)
  have hwN : IntKind.i64.wrap ((ps.length : Int) - 1) = ((ps.length - 1 : Nat) : Int) := w64p (by omega) (by omega)
  refine Yg0 ?_
  refine LW_joinB (fun st => st.env 3 = .sl R.length (R.flatMap recL) .no ∧ st.env 6 = .sl ps.length (ps.flatMap pgL) .no ∧ st.env 8 = .bsl 43 ps.length 3 ∧ st.arr 43 = some (usesL (seenI (ps.length - 1) ps.length)) ∧ st.mode = fun _ => false) ?_ ?_
  · refine LW_loop (fun n st => ∃ i : Nat,n + i = ps.length - 1 ∧ st.env 3 = .sl R.length (R.flatMap recL) .no ∧ st.env 6 = .sl ps.length (ps.flatMap pgL) .no ∧ st.env 8 = .bsl 43 ps.length 3 ∧ st.arr 43 = some (usesL (seenI (ps.length - 1) ps.length)) ∧ st.env 12 = intL i ∧ st.mode = fun _ => false) (ps.length - 1) ⟨0,by omega,(Yq1 @e3),(Yq1 @e6),(Yq1 @e8),(Yq1 @a43),Yq0,(Yq1 @hmd)⟩ ?_
    clear e3 e6 e8 a43 hmd st
    rintro n st ⟨i,hn,e3,e6,e8,a43,e12,hmd⟩
    by_cases hlt : i < ps.length - 1
    rotate_left
    · have hll : ¬ ((i : Int) < ((ps.length - 1 : Nat) : Int)) := by omega
      refine Yg1 (fa4 @e6 @e12 @hwN @hll) ?_
      refine Yf0 ?_
      refine LW_exit ?_;simp only [thenL,jumpsL,inBlockL,twoL,reduceIte,Nat.reduceEqDiff]
      exact ⟨(Yq1 @e3),(Yq1 @e6),(Yq1 @e8),(Yq1 @a43),(Yq1 @hmd)⟩
    have hlti : ((i : Int) < ((ps.length - 1 : Nat) : Int)) = True := eq_true (by omega)
    have hip : (0 : Int) ≤ (i : Int) := by omega
    have hil : i < ps.length := by omega
    have hwi := w64s (n := i) (by omega)
    have hdu := drop_uses (seenI_low (N := ps.length) hlt)
    refine Yg1 (fa4 @e6 @e12 @hwN @hlti) ?_
    refine Yt0 ?_
    refine LW_skip ?_
    simp only [LSj,reduceIte,zze]
    refine LW_seq ?_
    refine LW_block ?_
    (repeat refine LW_seq ?_)
    refine Yo1 (fa8 @e8 @a43 @e12 @hip @hil @hdu @uses_len @hul) ?_
    refine Yf0 ?_
    refine Yg1 (fa2 @e12 @hwi) ?_
    exact ⟨n - 1,by omega,i + 1,by omega,(Yq1 @e3),(Yq1 @e6),(Yq1 @e8),(Yq1 @a43),(Yq1 @hwi),(Yq1 @hmd)⟩
  clear e3 e6 e8 a43 hmd st
  rintro st ⟨e3,e6,e8,a43,hmd⟩
  obtain ⟨v,hv⟩ : ∃ v,v = ps.length - 1 := ⟨_,rfl⟩
  rw [← hv] at hwN a43 hf0 hul
  have hvl : v < ps.length := by omega
  obtain ⟨y,hy⟩ := get_of_lt hvl
  have hyf : firstAt ps v = firstPg y := by unfold firstAt;rw [List.getD_eq_getElem?_getD,hy];rfl
  rw [hyf] at hf0
  have hym := List.mem_of_getElem? hy
  have cf := qfirst_L y (hsp y hym) (htg y hym)
  rw [hf0] at cf
  have hdy := drop_pg hy
  have hdu := drop_uses (seenI_at hvl)
  have hdr := drop_rec hr0
  rw [Nat.zero_mul,List.drop_zero] at hdr
  have hvp : (0 : Int) ≤ (v : Int) := by omega
  have hRp : 0 < R.length := by omega
  have hRp2 : (0 : Int) < (R.length : Int) := by omega
  simp only [pgL,rowL,strsL,intsL,List.cons_append,List.nil_append] at hdy cf
  simp only [recL,nodeL,attrsL,acesL,piecesL,rowL,List.cons_append,List.nil_append] at hdr
  have t0 := dtold_L
  refine Yn1 (fa15 @e3 @e6 @e8 @a43 @hwN @hvp @hvl @hdy @hdu @hdr @hRp @hRp2 @uses_len @hul @hmd) ?_;intro K hK
  refine Yc1 (t0) (fa15 @e3 @e6 @e8 @a43 @hwN @hvp @hvl @hdy @hdu @hdr @hRp @hRp2 @uses_len @hul @hmd) ?_
  refine Yc1 (cf) (fa15 @e3 @e6 @e8 @a43 @hwN @hvp @hvl @hdy @hdu @hdr @hRp @hRp2 @uses_len @hul @hmd) ?_
  refine hK _ ?_;clear hK K;try refine Wh0 ?_
  refine Ye0 ?_;try (with_reducible exact trivial)
end Go.Proofs.YteamlijbkldlhaaGreat
