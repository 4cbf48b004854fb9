import Derived.Test.YteamlijbkldlhaaGreatDTab
import Derived.Test.YteamlijbkldlhaaGreatIPart
import Derived.Test.YteamlijbkldlhaaGreatKR4
import Derived.Test.YteamlijbkldlhaaGreatKPC
section
set_option linter.unusedSimpArgs false
set_option linter.unusedVariables false
namespace Go.Proofs.YteamlijbkldlhaaGreat.DbSpec
open AclSpec MetaSpec NodeSpec RecSpec PathSpec PageSpec TreeSpec

theorem under_iff {q t : List UInt8} (hq : mayB q = true) (ht : mayB t = true) : underB q t = true ↔ partsB t <+: partsB q := by
  obtain ⟨o1,j1⟩ := okN_of hq
  obtain ⟨o2,j2⟩ := okN_of ht
  have := o1.under o2
  rw [j1,j2] at this
  rw [this,List.isPrefixOf_iff_prefix]
theorem under_self {t : List UInt8} (ht : mayB t = true) : underB t t = true := (under_iff ht ht).2 (List.prefix_refl _)
theorem parts_inj {p q : List UInt8} (hp : mayB p = true) (hq : mayB q = true) (h : partsB p = partsB q) : p = q := by
  obtain ⟨_,j1⟩ := okN_of hp
  obtain ⟨_,j2⟩ := okN_of hq
  rw [← j1,← j2,h]
theorem under_not {q t : List UInt8} (hq : mayB q = true) (ht : mayB t = true) (h : lessB q t = true) : underB q t = false := by
  cases hc : underB q t
  · rfl
  · obtain ⟨m,hm⟩ := (under_iff hq ht).1 hc
    have h2 : lessL (partsB q) (partsB t) = true := h
    have : ∀ (x m : List (List UInt8)),lessL (x ++ m) x = false := by
      intro x
      induction x with
      | nil => intro m;exact lessL_nil _
      | cons a x ih => intro m;rw [List.cons_append,lessL];simp [ih m]
    rw [← hm,this] at h2
    cases h2
theorem under_between {t p q : List UInt8} (ht : mayB t = true) (hp : mayB p = true) (hq : mayB q = true) (h : underB q t = true) (h1 : lessB p t = false) (h2 : lessB p q = true) : underB p t = true := by
  rcases less_tri ht hp with c | c | c
  · exact (under_iff hp ht).2 (ll_between ((under_iff hq ht).1 h) c h2)
  · rw [c];exact under_self hp
  · rw [c] at h1;cases h1
theorem filter_start {α : Type} {p : α → Bool} : ∀ {l : List α},l.Pairwise (fun a b => p b = true → p a = true) → l.filter p = l.take (l.filter p).length
  | [],_ => rfl
  | a :: r,h => by
    rw [List.pairwise_cons] at h
    cases ha : p a
    · have : r.filter p = [] := List.filter_eq_nil_iff.2 fun b hb c => by
        have := h.1 b hb c
        rw [ha] at this;cases this
      rw [List.filter_cons_of_neg (by rw [ha];decide),this];rfl
    · rw [List.filter_cons_of_pos ha,List.length_cons,List.take_succ_cons,← filter_start h.2]
theorem under_part {R : List Rec} (h : mayRecs R = true) {i : Nat} {r : Rec} (hr : R[i]? = some r) :
    ∃ m,1 ≤ m ∧ i + m ≤ R.length ∧ (R.filter fun x => underB x.path r.path) = (R.drop i).take m ∧ ∀ k x,k < i → R[k]? = some x → x.path ≠ r.path := by
  obtain ⟨h1,h2,h3,h4⟩ := mayRecs_ok h
  obtain ⟨hi,rfl⟩ := List.getElem?_eq_some_iff.1 hr
  have hp : ∀ x ∈ R,mayB x.path = true := fun x hx => mayRec_path (h3 x hx)
  have hri := hp _ (List.getElem_mem hi)
  have hbefore : ∀ k,(hk : k < i) → lessB (R[k]'(by omega)).path R[i].path = true := fun k hk => List.pairwise_iff_getElem.1 h4 _ _ _ hi hk
  have h0 : (R.take i).filter (fun x => underB x.path R[i].path) = [] := List.filter_eq_nil_iff.2 fun x hx c => by
    obtain ⟨k,hk,rfl⟩ := List.mem_iff_getElem.1 hx
    rw [List.length_take] at hk
    have hki : k < i := by omega
    rw [List.getElem_take] at c
    rw [under_not (hp _ (List.getElem_mem _)) hri (hbefore k hki)] at c
    cases c
  have hsplit : (R.filter fun x => underB x.path R[i].path) = (R.drop i).filter fun x => underB x.path R[i].path := by
    have e : ∀ p : Rec → Bool,R.filter p = (R.take i).filter p ++ (R.drop i).filter p := fun p => by rw [← List.filter_append,List.take_append_drop]
    rw [e,h0,List.nil_append]
  have hge : ∀ x ∈ R.drop i,lessB x.path R[i].path = false := fun x hx => by
    obtain ⟨k,hk,rfl⟩ := List.mem_iff_getElem.1 hx
    rw [List.length_drop] at hk
    rw [List.getElem_drop]
    rcases Nat.eq_zero_or_pos k with h0 | h0
    · subst h0;exact less_irr _
    · exact ll_asym (List.pairwise_iff_getElem.1 h4 i (i + k) hi (by omega) (by omega))
  have hpw : (R.drop i).Pairwise fun a b => underB b.path R[i].path = true → underB a.path R[i].path = true := by
    refine (h4.sublist (List.drop_sublist _ _)).imp_of_mem fun {a b} ha hb hab hu => ?_
    exact under_between hri (hp a (List.mem_of_mem_drop ha)) (hp b (List.mem_of_mem_drop hb)) hu (hge a ha) hab
  have hst := filter_start hpw
  refine ⟨((R.drop i).filter fun x => underB x.path R[i].path).length,?_,?_,by rw [hsplit];exact hst,fun k x hk hx => ?_⟩
  · refine List.length_pos_iff.2 fun c => ?_
    have : R[i] ∈ (R.drop i).filter fun x => underB x.path R[i].path := List.mem_filter.2 ⟨List.mem_iff_getElem?.2 ⟨0,by rw [List.getElem?_drop];exact hr⟩,under_self hri⟩
    rw [c] at this;cases this
  · have := List.length_filter_le (fun x : Rec => underB x.path R[i].path) (R.drop i)
    rw [List.length_drop] at this;omega
  · obtain ⟨hk2,rfl⟩ := List.getElem?_eq_some_iff.1 hx
    intro c
    have := hbefore k hk
    rw [c,less_irr] at this;cases this
theorem below_part {R : List Rec} (h : mayRecs R = true) (y : List UInt8) : (R.filter fun r => lessB r.path y) = R.take (R.filter fun r => lessB r.path y).length := by
  obtain ⟨_,_,_,h4⟩ := mayRecs_ok h
  exact filter_start (h4.imp fun hab hb => less_trans hab hb)
theorem below_join {x y : List UInt8} (hxy : ∀ p,lessB p x = true → lessB p y = true) : ∀ {R : List Rec},R.Pairwise (fun a b => lessB a.path b.path = true) →
    (R.filter fun r => lessB r.path x) ++ (R.filter fun r => !lessB r.path x && lessB r.path y) = R.filter fun r => lessB r.path y
  | [],_ => rfl
  | a :: r,h => by
    rw [List.pairwise_cons] at h
    cases ha : lessB a.path x
    · have hn : ∀ b ∈ a :: r,lessB b.path x = false := fun b hb => by
        rcases List.mem_cons.1 hb with rfl | hb
        · exact ha
        · cases hc : lessB b.path x
          · rfl
          · have := less_trans (h.1 b hb) hc
            rw [ha] at this;cases this
      have h0 : ((a :: r).filter fun r => lessB r.path x) = [] := List.filter_eq_nil_iff.2 fun b hb c => by rw [hn b hb] at c;cases c
      rw [h0,List.nil_append]
      refine List.filter_congr fun b hb => ?_
      rw [hn b hb];rfl
    · rw [List.filter_cons_of_pos (by exact ha),List.filter_cons_of_neg (by simp [ha]),List.filter_cons_of_pos (by exact hxy _ ha),List.cons_append,below_join hxy h.2]
end Go.Proofs.YteamlijbkldlhaaGreat.DbSpec
end
section
set_option linter.unusedSimpArgs false
set_option linter.unusedVariables false
namespace Go.Proofs.YteamlijbkldlhaaGreat
open Nat renaming reduceAdd → zz1,reduceMul → zz2,reduceSub → zz3,reduceLT → zz4,reduceLeDiff → zz5,reduceEqDiff → zz6,reduceBEq → zzf
open Int renaming reduceAdd → zz7,reduceSub → zz8,reduceMul → zz9,reduceLT → zza,reduceLE → zzb,reduceEq → zzc,reduceNeg → zzd,reduceToNat → zze
open Go.RowKit Go.Proofs AclSpec MetaSpec NodeSpec RecSpec PathSpec PageSpec DbSpec

set_option maxRecDepth 100000 in
set_option maxHeartbeats 4000000 in
theorem sameRec_L (a : Rec) (ha : small a.node) : LCalls Tryz.prog 22 [.agg (recL a),.agg (recL a)] (boolL true) := by
  have cs := rsameNode_L a.node a.node (okLen_of_small ha) (okLen_of_small ha)
  rw [decide_eq_true rfl] at cs
  simp only [nodeL,attrsL,acesL,piecesL,rowL] at cs
  refine LCalls.of (fun _ => false) Tryz.func22 rfl (by decide) Tryz.ntmps22 Tryz.results22 (by simp) ?_
  intro w0 S0 vs hgl hwf0 hsz hvs;clear hsz hvs hwf0 hgl
  refine Yo1 (fa6 @recL.eq_1 @nodeL.eq_1 @attrsL.eq_1 @acesL.eq_1 @piecesL.eq_1 @rowL.eq_1) ?_
  refine Yr0 ?_;intro K hK
  refine Yc0 (cs) ?_
  refine hK _ ?_;clear hK K;try refine Wh0 ?_
  refine Ye0 ?_;try (with_reducible exact trivial)
theorem drop_recS {l : List Rec} {i : Nat} {a : Rec} (h : l[i]? = some a) : (l.flatMap recL).drop (i * 15) = recL a ++ (l.drop (i + 1)).flatMap recL := drop_flat recL 15 (fun _ => rfl) h
set_option maxRecDepth 100000 in
set_option maxHeartbeats 4000000 in
theorem sameRecs_L (l : List Rec) (hl : l.length ≤ 1000000) (hs : ∀ r ∈ l,small r.node) : LCalls Tryz.prog 24 [rowL recL l,rowL recL l] (boolL true) := by
  refine LCalls.of (fun _ => false) Tryz.func24 rfl (by decide) Tryz.ntmps24 Tryz.results24 (by simp) ?_
  intro w0 S0 vs hgl hwf0 hsz hvs;clear hsz hvs hwf0 hgl
  refine Yg1 @rowL.eq_1 ?_
  refine Yf0 ?_
  refine Yg0 ?_
  refine LW_joinB (fun st => True) ?_ ?_
  · refine LW_loop (fun n st => ∃ i : Nat,n + i = l.length ∧ st.env 0 = rowL recL l ∧ st.env 1 = rowL recL l ∧ st.env 5 = intL i ∧ st.mode = fun _ => false) l.length ⟨0,by omega,(Yq1 @rowL.eq_1),(Yq1 @rowL.eq_1),Yq0,Yq0⟩ ?_
    rintro n st ⟨i,hn,e0,e1,e5,hmd⟩
    simp only [rowL] at e0 e1
    by_cases hlt : i < l.length
    rotate_left
    · have hll : ¬ ((i : Int) < (l.length : Int)) := by omega
      refine Yg1 (fa3 @e0 @e5 @hll) ?_
      refine Yf0 ?_
      refine LW_exit ?_;simp only [thenL,jumpsL,inBlockL,twoL,reduceIte,Nat.reduceEqDiff]
    obtain ⟨r,hr⟩ := get_of_lt hlt
    have hd := drop_recS hr
    have cs := sameRec_L r (hs r (List.mem_of_getElem? hr))
    have hlti : ((i : Int) < (l.length : Int)) = True := eq_true (by omega)
    have hip : (0 : Int) ≤ (i : Int) := by omega
    have hw := w64s (n := i) (by omega)
    simp only [recL,nodeL,attrsL,acesL,piecesL,rowL,List.cons_append,List.nil_append] at hd cs
    refine Yg1 (fa3 @e0 @e5 @hlti) ?_
    refine Yt0 ?_
    refine LW_skip ?_
    simp only [LSj,reduceIte,zze]
    refine LW_seq ?_
    refine LW_block ?_
    (repeat refine LW_seq ?_)
    refine Yn1 (fa7 @e0 @e1 @e5 @hlt @hip @hd @hmd) ?_;intro K hK
    refine Yc1 (cs) (fa7 @e0 @e1 @e5 @hlt @hip @hd @hmd) ?_
    refine hK _ ?_;clear hK K;try refine Wh0 ?_
    refine Yf0 ?_
    refine Yg1 (fa2 @e5 @hw) ?_
    exact ⟨n - 1,by omega,i + 1,by omega,(Yq1 (fa2 @e0 @rowL.eq_1)),(Yq1 (fa2 @e1 @rowL.eq_1)),(Yq1 @hw),(Yq1 @hmd)⟩
  rintro st -
  refine Yg0 ?_
  refine Ye0 ?_;try (with_reducible exact trivial)
end Go.Proofs.YteamlijbkldlhaaGreat
end
