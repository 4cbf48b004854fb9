import Derived.Test.YteamlijbkldlhaaGreatKDY
import Derived.Test.YteamlijbkldlhaaGreatKDW
import Derived.Test.YteamlijbkldlhaaGreatKD9
set_option linter.unusedSimpArgs false
set_option linter.unusedVariables false
namespace Go.Proofs.YteamlijbkldlhaaGreat
open Nat renaming reduceAdd → zz1,reduceMul → zz2,reduceSub → zz3,reduceLT → zz4,reduceLeDiff → zz5,reduceEqDiff → zz6,reduceBEq → zzf
open Int renaming reduceAdd → zz7,reduceSub → zz8,reduceMul → zz9,reduceLT → zza,reduceLE → zzb,reduceEq → zzc,reduceNeg → zzd,reduceToNat → zze
open Op renaming operands → zo
open Call renaming operands → zc
open Go.RowKit Go.Proofs AclSpec MetaSpec NodeSpec RecSpec PathSpec PageSpec DbSpec

def fewRB (r : Rec) : Bool := decide (r.path.length ≤ 120) && fewN r.node
set_option maxRecDepth 100000 in
set_option maxHeartbeats 8000000 in
theorem dfew_L (l : List Rec) (hl : l.length ≤ maxLen) (ho : ∀ r ∈ l,okLen r.node) : LCalls Tryz.prog 13 [rowL recL l] (boolL (l.all fewRB && decide (l.length ≤ 40))) := by
  have hml : l.length ≤ 9223372036854775807 := Nat.le_trans hl (by decide)
  refine LCalls.of (fun _ => false) Tryz.func13 rfl (by decide) Tryz.ntmps13 Tryz.results13 (by simp) ?_
  intro w0 S0 vs hgl hwf0 hsz hvs;clear hsz hvs hwf0 hgl
  generalize hR : (l.all fewRB && decide (l.length ≤ 40)) = R
  refine Yg1 @rowL.eq_1 ?_
  refine LW_joinB (fun st => st.env 0 = rowL recL l ∧ l.all fewRB = true) ?_ ?_
  · refine LW_loop (fun n st => ∃ i : Nat,n + i = l.length ∧ l.all fewRB = (l.drop i).all fewRB ∧ st.env 0 = rowL recL l ∧ st.env 3 = intL i ∧ st.mode = fun _ => false) l.length ⟨0,by omega,by rw [List.drop_zero],(Yq1 @rowL.eq_1),Yq0,Yq0⟩ ?_
    rintro n st ⟨i,hn,ha,e0,e3,hmd⟩
    simp only [rowL] at e0
    by_cases hlt : i < l.length
    rotate_left
    · have hll : ¬ ((i : Int) < (l.length : Int)) := by omega
      rw [List.drop_of_length_le (by omega)] at ha
      refine Yg1 (fa3 @e0 @e3 @hll) ?_
      refine Yf0 ?_
      refine LW_exit ?_;simp only [thenL,jumpsL,inBlockL,twoL,reduceIte,Nat.reduceEqDiff]
      exact ⟨(Yq1 (fa2 @e0 @rowL.eq_1)),ha⟩
    obtain ⟨r,hr⟩ := get_of_lt hlt
    have hd := drop_rec hr
    have cf := rfew_L r (ho r (List.mem_of_getElem? hr))
    have hlti : ((i : Int) < (l.length : Int)) = True := eq_true (by omega)
    have hip : (0 : Int) ≤ (i : Int) := by omega
    have hw := w64s (n := i) (by omega)
    have hdr : (l.drop i).all fewRB = (fewRB r && (l.drop (i + 1)).all fewRB) := by
      obtain ⟨hi,rfl⟩ := List.getElem?_eq_some_iff.1 hr
      rw [List.drop_eq_getElem_cons hi,List.all_cons]
    rw [hdr] at ha
    rw [show (decide (r.path.length ≤ 120) && fewN r.node) = fewRB r from rfl] at cf
    simp only [recL,nodeL,attrsL,acesL,piecesL,rowL,List.cons_append,List.nil_append] at hd cf
    refine Yg1 (fa3 @e0 @e3 @hlti) ?_
    refine Yt0 ?_
    refine LW_skip ?_
    simp only [LSj,reduceIte,zze]
    refine LW_seq ?_
    refine LW_block ?_
    (repeat refine LW_seq ?_)
    refine Yr1 (fa5 @e0 @e3 @hlt @hip @hd) ?_;intro K hK
    refine Yc1 (cf) (fa5 @e0 @e3 @hlt @hip @hd) ?_
    refine hK _ ?_;clear hK K;try refine Wh0 ?_
    cases hfr : fewRB r
    · rw [hfr] at ha
      refine Yt1 @hfr ?_
      refine Yg0 ?_
      refine Ye0 ?_;try (with_reducible exact trivial)
      rw [← hR,ha];rfl
    rw [hfr] at ha
    refine Yf1 @hfr ?_
    refine Yg1 (fa2 @e3 @hw) ?_
    exact ⟨n - 1,by omega,i + 1,by omega,by rw [ha];rfl,(Yq1 (fa2 @e0 @rowL.eq_1)),(Yq1 @hw),(Yq1 @hmd)⟩
  rintro st ⟨e0,ha⟩
  simp only [rowL] at e0
  rw [ha] at hR
  by_cases h4 : l.length ≤ 40
  · have h4i : ((l.length : Int) ≤ 40) = True := eq_true (by omega)
    refine Yg1 (fa2 @e0 @h4i) ?_
    refine Ye0 ?_;try (with_reducible exact trivial)
    rw [← hR];simp [h4]
  · have h4i : ¬ ((l.length : Int) ≤ 40) := by omega
    refine Yg1 (fa2 @e0 @h4i) ?_
    refine Ye0 ?_;try (with_reducible exact trivial)
    rw [← hR];simp [h4]
theorem nilDbN (b : Bool) : nilV Tryz.prog .neq 54 b = some (.bool (!b)) := by
  unfold nilV
  rw [Tryz.underlying54]
set_option maxRecDepth 100000 in
set_option maxHeartbeats 8000000 in
theorem dbAsks_L (l : List Rec) (hl : l.length ≤ maxLen) (ho : ∀ r ∈ l,okLen r.node) : LCalls Tryz.prog 4 [rowL recL l] (boolL true) := by
  have t0 := dtold_L
  have cf := dfew_L l hl ho
  simp only [rowL] at cf
  refine LCalls.of (fun _ => false) Tryz.func4 rfl (by decide) Tryz.ntmps4 Tryz.results4 (by simp) ?_
  intro w0 S0 vs hgl hwf0 hsz hvs;clear hsz hvs hwf0 hgl
  refine Yg1 @rowL.eq_1 ?_
  cases hf : (l.all fewRB && decide (l.length ≤ 40))
  · rw [hf] at cf
    refine Yr0 ?_;intro K hK
    refine Yc0 (cf) ?_
    refine hK _ ?_;clear hK K;try refine Wh0 ?_
    refine Yt0 ?_
    refine Yr0 ?_;intro K hK
    refine Yc0 (t0) ?_
    refine hK _ ?_;clear hK K;try refine Wh0 ?_
    refine Ye0 ?_;try (with_reducible exact trivial)
  rw [hf] at cf
  simp only [Bool.and_eq_true,decide_eq_true_eq,List.all_eq_true] at hf
  have hone : ∀ r ∈ l,r.path.length ≤ 120 ∧ fewN r.node = true := fun r hr => by
    have := hf.1 r hr
    unfold fewRB at this
    simpa using this
  have hsm : SmallR l := ⟨by omega,fun r hr => ⟨by have := (hone r hr).1;omega,(fewN_small (hone r hr).2).1⟩⟩
  have htg : ∀ r ∈ l,r.node.target.length ≤ maxLen := fun r hr => by
    have := (fewN_small (hone r hr).2).2.2.2.1
    unfold maxLen;omega
  have c1 := dbuild_L l hsm
  have cq := qbuild_L l hsm htg
  have hA : buildA l = if mayRecs l = true then (buildP l,0) else ([],1) := rfl
  cases hm : mayRecs l
  · rw [hm,if_neg (by decide)] at hA
    rw [hA] at c1 cq
    have c4 := (dopen_O [] (by decide) (fun x hx => by cases hx) _ _ (.inr ⟨nil_open,rfl,rfl⟩)).toL
    have sp := samePages_L [] (by decide) (fun x hx => by cases hx)
    simp only [rowL,List.length_nil,List.flatMap_nil] at c1 cq c4 sp
    refine Yr0 ?_;intro K hK
    refine Yc0 (cf) ?_
    refine hK _ ?_;clear hK K;try refine Wh0 ?_
    refine Yf0 ?_
    refine Yr0 ?_;intro K hK
    refine Yc0 (c1) ?_
    refine hK _ ?_;clear hK K;try refine Wh0 ?_
    refine Yr0 ?_;intro K hK
    refine Yc0 (cq) ?_
    refine hK _ ?_;clear hK K;try refine Wh0 ?_
    refine Yr0 ?_;intro K hK
    refine Yc0 (c4) ?_
    refine hK _ ?_;clear hK K;try refine Wh0 ?_
    refine LW_slim (fun st => st.env 3 = .sl 0 [] .no ∧ st.env 4 = intL 1 ∧ st.env 5 = .sl 0 [] .no ∧ st.env 6 = intL 1 ∧ st.env 7 = .lit (.pointer none) ∧ st.env 8 = intL 3) ⟨Yq0,Yq0,Yq0,Yq0,Yq0,Yq0⟩ ?_
    rintro st ⟨e3,e4,e5,e6,e7,e8⟩
    (repeat refine LW_seq ?_)
    refine Yr1 (fa8 @e3 @e4 @e5 @e6 @e7 @e8 @nilDbN @undDb) ?_;intro K hK
    refine Yc1 (t0) (fa8 @e3 @e4 @e5 @e6 @e7 @e8 @nilDbN @undDb) ?_
    refine Yc1 (sp) (fa8 @e3 @e4 @e5 @e6 @e7 @e8 @nilDbN @undDb) ?_
    refine hK _ ?_;clear hK K;try refine Wh0 ?_
    refine Ye0 ?_;try (with_reducible exact trivial)
  · rw [hm,if_pos rfl] at hA
    rw [hA] at c1 cq
    have hsp := buildP_small hsm
    have hpl := buildP_len200 hm
    have c4 := dopen_O (buildP l) (by omega) hsp _ _ (.inl ⟨open_build hm,rfl,rfl⟩)
    have sp := samePages_L (buildP l) (by omega) hsp
    simp only [rowL] at c1 cq c4 sp
    refine Yr0 ?_;intro K hK
    refine Yc0 (cf) ?_
    refine hK _ ?_;clear hK K;try refine Wh0 ?_
    refine Yf0 ?_
    refine Yr0 ?_;intro K hK
    refine Yc0 (c1) ?_
    refine hK _ ?_;clear hK K;try refine Wh0 ?_
    refine Yr0 ?_;intro K hK
    refine Yc0 (cq) ?_
    refine hK _ ?_;clear hK K;try refine Wh0 ?_
    (repeat (first | refine LW_seq ?_ | (refine LW_skip ?_;simp only [LSj,reduceIte,zze]) | refine LW_block ?_));refine LW_regionO [(25,⟨_,_,_,_,_,[],[(2000,1000)],_,[],(c4).toS,rfl,rfl,rfl⟩)] ?_;intro K hK;simp only [LZ,zo,zc,reduceCtorEq,reduceIte,zz1,zz2,zz3,zz4,zz5,zz6,zz7,zz8,zz9,zza,zzb,zzc,zzd,zze,zzf]
    refine hK _ ?_;clear hK K;try refine Wh0 ?_
    refine LW_slim (fun st => st.env 3 = .sl (buildP l).length ((buildP l).flatMap pgL) .no ∧ st.env 4 = intL 0 ∧ st.env 5 = .sl (buildP l).length ((buildP l).flatMap pgL) .no ∧ st.env 6 = intL 0 ∧ st.env 7 = .ptr 1000 0 ∧ st.env 8 = intL 0) ⟨Yq0,Yq0,Yq0,Yq0,Yq0,Yq0⟩ ?_
    rintro st ⟨e3,e4,e5,e6,e7,e8⟩
    (repeat refine LW_seq ?_)
    refine Yr1 (fa8 @e3 @e4 @e5 @e6 @e7 @e8 @nilDbN @undDb) ?_;intro K hK
    refine Yc1 (t0) (fa8 @e3 @e4 @e5 @e6 @e7 @e8 @nilDbN @undDb) ?_
    refine Yc1 (sp) (fa8 @e3 @e4 @e5 @e6 @e7 @e8 @nilDbN @undDb) ?_
    refine hK _ ?_;clear hK K;try refine Wh0 ?_
    refine Ye0 ?_;try (with_reducible exact trivial)
end Go.Proofs.YteamlijbkldlhaaGreat
