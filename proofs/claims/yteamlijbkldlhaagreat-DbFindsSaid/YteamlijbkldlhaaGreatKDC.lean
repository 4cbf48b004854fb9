import Derived.Test.YteamlijbkldlhaaGreatDTab
import Derived.Test.YteamlijbkldlhaaGreatIPart
import Derived.Test.YteamlijbkldlhaaGreatRBare
import Derived.Test.YteamlijbkldlhaaGreatKTF
import Derived.Test.YteamlijbkldlhaaGreatKR4
import Derived.Test.YteamlijbkldlhaaGreatKUJ
import Derived.Test.YteamlijbkldlhaaGreatL27
import Derived.Test.YteamlijbkldlhaaGreatKTE
import Derived.Test.YteamlijbkldlhaaGreatTEq
section
set_option linter.unusedSimpArgs false
set_option linter.unusedVariables false
namespace Go.Proofs.YteamlijbkldlhaaGreat.DbSpec
open AclSpec MetaSpec NodeSpec RecSpec PathSpec PageSpec TreeSpec

def leadT (l : List TEnt) (v : Int) : Nat := l.findIdx fun e => decide (e.node = v)
def catP (l : List Piece) : List UInt8 := l.flatMap (·.dat)
def recT (t : FTree) (i : Nat) (e : TEnt) (b : List UInt8) : Rec :=
  if leadT t.ents e.node = i then ⟨e.path,(i : Nat),bareN (nodeG t.nodes e.node),if (nodeG t.nodes e.node).dat = [] then 0 else (b.length : Nat)⟩
  else ⟨e.path,(leadT t.ents e.node : Nat),zeroN,0⟩
def bytT (t : FTree) (i : Nat) (e : TEnt) (b : List UInt8) : List UInt8 := if leadT t.ents e.node = i then b ++ catP (nodeG t.nodes e.node).dat else b
def recsG (t : FTree) : Nat → List TEnt → List UInt8 → List Rec
  | _,[],_ => []
  | i,e :: r,b => recT t i e b :: recsG t (i + 1) r (bytT t i e b)
def bytG (t : FTree) : Nat → List TEnt → List UInt8 → List UInt8
  | _,[],b => b
  | i,e :: r,b => bytG t (i + 1) r (bytT t i e b)
def recsT (t : FTree) : List Rec := recsG t 0 t.ents []
def bytsT (t : FTree) : List UInt8 := bytG t 0 t.ents []
theorem recsG_drop {t : FTree} {i : Nat} {e : TEnt} (h : t.ents[i]? = some e) (b : List UInt8) : recsG t i (t.ents.drop i) b = recT t i e b :: recsG t (i + 1) (t.ents.drop (i + 1)) (bytT t i e b) := by
  obtain ⟨hi,rfl⟩ := List.getElem?_eq_some_iff.1 h
  rw [List.drop_eq_getElem_cons hi,recsG]
theorem bytG_drop {t : FTree} {i : Nat} {e : TEnt} (h : t.ents[i]? = some e) (b : List UInt8) : bytG t i (t.ents.drop i) b = bytG t (i + 1) (t.ents.drop (i + 1)) (bytT t i e b) := by
  obtain ⟨hi,rfl⟩ := List.getElem?_eq_some_iff.1 h
  rw [List.drop_eq_getElem_cons hi,bytG]
theorem recsG_len (t : FTree) : ∀ (i : Nat) (l : List TEnt) (b : List UInt8),(recsG t i l b).length = l.length
  | _,[],_ => rfl
  | i,e :: r,b => by rw [recsG,List.length_cons,List.length_cons,recsG_len t (i + 1) r]
theorem cat_len (l : List Piece) : (catP l).length = bytesP l := by
  unfold catP bytesP
  rw [List.length_flatMap]
theorem lead_le {l : List TEnt} {i : Nat} {e : TEnt} (h : l[i]? = some e) : leadT l e.node ≤ i := by
  obtain ⟨hi,rfl⟩ := List.getElem?_eq_some_iff.1 h
  unfold leadT
  exact Nat.not_lt.1 fun c => by
    have := List.not_of_lt_findIdx c
    simp at this
theorem may_bytes {n : FNode} (h : mayN n = true) : bytesP n.dat ≤ 4000 := by
  by_cases hk : n.kind = 2
  · have hf : isFileN n = true := by unfold isFileN;rw [decide_eq_true hk,h];rfl
    obtain ⟨_,_,_,_,_,h5,_⟩ := isFile_ok hf
    exact h5
  · have h' := h
    unfold mayN at h'
    simp only [Bool.and_eq_true,Bool.or_eq_true,decide_eq_true_eq] at h'
    rcases h'.1.1.1.2 with d | d
    · exact absurd d hk
    · rw [d.2];exact Nat.zero_le _
theorem byt_len {t : FTree} {i : Nat} {e : TEnt} {b : List UInt8} (hm : mayN (nodeG t.nodes e.node) = true) : (bytT t i e b).length ≤ b.length + 4000 := by
  unfold bytT
  split
  · rw [List.length_append,cat_len]
    have := may_bytes hm
    omega
  · omega
theorem bare_kind {n : FNode} (h : mayN n = true) : bareN n ≠ zeroN := by
  intro c
  have e : bareN n = { n with dat := n.dat.map fun p => ⟨p.pos,itoB p.dat.length⟩ } := by unfold bareN;rw [if_pos h]
  rw [e] at c
  have h1 : n.kind = 0 := congrArg FNode.kind c
  unfold mayN at h
  simp only [Bool.and_eq_true,Bool.not_eq_true',decide_eq_false_iff_not] at h
  have := h.1.1.1.1.1.1
  omega
theorem bare_rec {n : FNode} (h : mayN n = true) {p : List UInt8} (hp : mayB p = true) {i x : Nat} (hi : i < 100) (hx : x ≤ 400000) : mayRec ⟨p,(i : Nat),bareN n,if n.dat = [] then 0 else (x : Nat)⟩ = true := by
  obtain ⟨h1,h2,_⟩ := bare_may h
  have hz := bare_kind h
  unfold mayRec at h1 ⊢
  simp only [if_neg hz] at h1 ⊢
  have a1 : ¬ ((i : Int) < 0) := by omega
  have a2 : ¬ ((100 : Int) ≤ (i : Int)) := by omega
  rw [hp]
  by_cases hd : n.dat = []
  · simp only [if_pos hd,decide_eq_false a1,decide_eq_false a2]
    have hb : mayB [113] = true := by decide
    simp only [hb,Bool.true_and,show decide ((0 : Int) < 0) = false from rfl,show decide ((100 : Int) ≤ 0) = false from rfl,show decide ((400000 : Int) < 0) = false from rfl,Bool.not_false] at h1 ⊢
    exact h1
  · have a3 : ¬ ((x : Int) < 0) := by omega
    have a4 : ¬ ((400000 : Int) < (x : Int)) := by omega
    simp only [if_neg hd,decide_eq_false a1,decide_eq_false a2,decide_eq_false a3,decide_eq_false a4]
    have hb : mayB [113] = true := by decide
    simp only [hb,Bool.true_and,show decide ((0 : Int) < 0) = false from rfl,show decide ((100 : Int) ≤ 0) = false from rfl,show decide ((400000 : Int) < 0) = false from rfl,Bool.not_false] at h1 ⊢
    have hk : n.kind = 2 := by
      by_cases hk : n.kind = 2
      · exact hk
      · have h' := h
        unfold mayN at h'
        simp only [Bool.and_eq_true,Bool.or_eq_true,decide_eq_true_eq] at h'
        rcases h'.1.1.1.2 with d | d
        · exact d
        · exact absurd d.2 hd
    have hbk : (bareN n).kind = 2 := by unfold bareN;rw [if_pos h];exact hk
    unfold fullN at h1 ⊢
    rw [if_pos hbk] at h1 ⊢
    by_cases hl : 16 < (bareN n).dat.length
    · rw [if_pos hl] at h1
      simp at h1
    · rw [if_neg hl] at h1 ⊢
      cases hf : fullP (bareN n).dat with
      | none => rw [hf] at h1;simp at h1
      | some m =>
        rw [hf] at h1
        simp only [Option.map_some] at h1 ⊢
        unfold mayNR at h1 ⊢
        simp only [Bool.and_eq_true] at h1 ⊢
        refine ⟨h1.1,?_⟩
        have hml : m.length = (bareN n).dat.length := (fullP_some hf).1
        have : m ≠ [] := by
          rintro rfl
          rw [h2] at hml
          exact hd (List.eq_nil_of_length_eq_zero hml.symm)
        rw [decide_eq_true hbk]
        cases m with
        | nil => exact absurd rfl this
        | cons _ _ => simp
theorem recT_may {t : FTree} (ht : mayT t = true) {i : Nat} {e : TEnt} (he : t.ents[i]? = some e) (hi : i < 100) {b : List UInt8} (hb : b.length ≤ 400000) : mayRec (recT t i e b) = true := by
  have hv := mayT_valid ht
  have hm := List.mem_of_getElem? he
  have hp : mayB e.path = true := by
    obtain ⟨x,r,h1,_,h3,_⟩ := hv.head
    rw [h1] at hm
    exact h3.2 e hm
  obtain ⟨r0,r1⟩ := hv.range e hm
  have hn := get_may ht r0 r1
  have hle := lead_le he
  unfold recT
  split
  · exact bare_rec hn hp hi hb
  · unfold mayRec
    rw [hp]
    simp only [if_true]
    rw [decide_eq_false (by omega),decide_eq_false (by omega)]
    rfl
theorem recT_path (t : FTree) (i : Nat) (e : TEnt) (b : List UInt8) : (recT t i e b).path = e.path := by unfold recT;split <;> rfl
theorem recs_rise {t : FTree} (ht : mayT t = true) (hl : t.ents.length ≤ 100) : ∀ (n i : Nat) (b : List UInt8) (o : Option (List UInt8)),n + i = t.ents.length → b.length ≤ 4000 * i →
    (∀ p,o = some p → ∀ e ∈ t.ents.drop i,lessB p e.path = true) → risesR o (recsG t i (t.ents.drop i) b) = true
  | 0,i,b,o,hn,_,_ => by
    rw [List.drop_of_length_le (by omega)];cases o <;> rfl
  | n + 1,i,b,o,hn,hb,ho => by
    have hlt : i < t.ents.length := by omega
    have he : t.ents[i]? = some t.ents[i] := List.getElem?_eq_getElem hlt
    generalize t.ents[i] = e at he
    have hv := mayT_valid ht
    have hm := List.mem_of_getElem? he
    obtain ⟨r0,r1⟩ := hv.range e hm
    have hmn := get_may ht r0 r1
    have hd : t.ents.drop i = e :: t.ents.drop (i + 1) := by
      obtain ⟨hi,rfl⟩ := List.getElem?_eq_some_iff.1 he
      rw [List.drop_eq_getElem_cons hi]
    have hpw : (t.ents.drop i).Pairwise fun x y => lessB x.path y.path = true := by
      obtain ⟨x,r,h1,_,h3,_⟩ := hv.head
      rw [h1]
      exact h3.1.drop
    rw [hd] at hpw
    have hpw := (List.pairwise_cons.1 hpw).1
    rw [recsG_drop he,risesR.eq_def]
    simp only
    simp only [Bool.and_eq_true]
    have hbl := byt_len (t := t) (i := i) (e := e) (b := b) hmn
    refine ⟨⟨recT_may ht he (by omega) (by omega),?_⟩,recs_rise ht hl n (i + 1) _ _ (by omega) (by omega) fun p hp x hx => ?_⟩
    · cases o with
      | none => rfl
      | some p =>
        simp only
        rw [recT_path]
        exact ho p rfl e (by rw [hd];simp)
    · cases hp
      rw [recT_path]
      exact hpw x hx
theorem recs_may {t : FTree} (ht : mayT t = true) : mayRecs (recsT t) = true := by
  have hl : 1 ≤ t.ents.length ∧ t.ents.length ≤ 100 := by
    have h := ht
    unfold mayT at h
    simp only [Bool.and_eq_true,decide_eq_true_eq] at h
    exact ⟨h.1.1.1.1,h.1.1.1.2⟩
  unfold mayRecs recsT
  rw [recsG_len,decide_eq_false (by omega),decide_eq_false (by omega)]
  have := recs_rise ht hl.2 t.ents.length 0 [] none (by omega) (Nat.zero_le _) (fun p hp => by cases hp)
  rw [List.drop_zero] at this
  rw [this];rfl
end Go.Proofs.YteamlijbkldlhaaGreat.DbSpec
end
section
set_option linter.unusedSimpArgs false
set_option linter.unusedVariables false
namespace Go.Proofs.YteamlijbkldlhaaGreat
open Nat renaming reduceAdd → zz1,reduceMul → zz2,reduceSub → zz3,reduceLT → zz4,reduceLeDiff → zz5,reduceEqDiff → zz6,reduceBEq → zzf
open Int renaming reduceAdd → zz7,reduceSub → zz8,reduceMul → zz9,reduceLT → zza,reduceLE → zzb,reduceEq → zzc,reduceNeg → zzd,reduceToNat → zze
open Op renaming operands → zo
open Call renaming operands → zc
open Go.RowKit Go.Proofs AclSpec MetaSpec NodeSpec RecSpec PathSpec PageSpec TreeSpec DbSpec

theorem dec_ito (n : Nat) : decB n = itoB n := by
  induction n using Nat.strongRecOn with
  | _ n ih =>
    rw [decB,itoB]
    split
    · rfl
    · rw [ih (n / 10) (by omega)]
def bareP (p : Piece) : Piece := ⟨p.pos,itoB p.dat.length⟩
theorem bare_take {l : List Piece} {i : Nat} {p : Piece} (h : l[i]? = some p) : ((l.take (i + 1)).map bareP).flatMap pieceL = ((l.take i).map bareP).flatMap pieceL ++ [intL p.pos,strL (itoB p.dat.length)] := by
  obtain ⟨hi,rfl⟩ := List.getElem?_eq_some_iff.1 h
  rw [List.take_succ_eq_append_getElem hi,List.map_append,List.flatMap_append]
  rfl
set_option maxRecDepth 100000 in
set_option maxHeartbeats 4000000 in
theorem refBare_L (n : FNode) (h : small n) (ht : n.target.length ≤ maxLen) : LCalls Tryz.prog 30 [.agg (nodeL n)] (.agg (nodeL (bareN n))) := by
  have hl := h.2.2.1
  have cm := rmayNode_L n h ht
  simp only [nodeL,piecesL,attrsL,acesL,rowL] at cm
  refine LCalls.of (fun _ => false) Tryz.func30 rfl (by decide) Tryz.ntmps30 Tryz.results30 (by simp) ?_
  intro w0 S0 vs hgl hwf0 hsz hvs;clear hsz hvs hwf0 hgl
  generalize hR : bareN n = R
  unfold bareN at hR
  refine Yg1 (fa5 @nodeL.eq_1 @piecesL.eq_1 @attrsL.eq_1 @acesL.eq_1 @rowL.eq_1) ?_
  cases hm : mayN n
  · rw [hm,if_neg (by decide)] at hR
    rw [hm] at cm
    subst hR
    refine Yr0 ?_;intro K hK
    refine Yc0 (cm) ?_
    refine hK _ ?_;clear hK K;try refine Wh0 ?_
    refine Yt0 ?_
    refine Yg0 ?_
    refine Ye1 (fa6 @nodeL.eq_1 @piecesL.eq_1 @attrsL.eq_1 @acesL.eq_1 @rowL.eq_1 @zeroN.eq_1) ?_;try (with_reducible exact trivial)
    exact ⟨rfl,rfl,rfl⟩
  rw [hm,if_pos rfl] at hR
  rw [hm] at cm
  refine Yr0 ?_;intro K hK
  refine Yc0 (cm) ?_
  refine hK _ ?_;clear hK K;try refine Wh0 ?_
  refine Yf0 ?_
  refine Yg0 ?_
  refine LW_joinB (fun st => st.env 1 = .ptr 1 0 ∧ st.box 1 = some (nodeL n) ∧ st.env 2 = .ptr 2 0 ∧ st.box 2 = some zNode ∧ st.env 3 = .sl n.dat.length ((n.dat.map bareP).flatMap pieceL) (.row 1000) ∧ st.mode = fun _ => false) ?_ ?_
  · refine LW_nil (k := 3) (q := 1000) (e := 77) Yq0 ?_
    refine LW_loop (fun k st => ∃ i : Nat,k + i = n.dat.length ∧ st.env 1 = .ptr 1 0 ∧ st.box 1 = some (nodeL n) ∧ st.env 2 = .ptr 2 0 ∧ st.box 2 = some zNode ∧ st.env 3 = .sl i (((n.dat.take i).map bareP).flatMap pieceL) (.row 1000) ∧ st.row 1000 = some (77,i) ∧ st.env 4 = intL i ∧ st.mode = fun _ => false) n.dat.length ⟨0,by omega,Yq0,(Yq1 (fa5 @nodeL.eq_1 @piecesL.eq_1 @attrsL.eq_1 @acesL.eq_1 @rowL.eq_1)),Yq0,(Yq1 @zNode.eq_1),Yq0,Yq0,Yq0,Yq0⟩ ?_
    rintro k st ⟨i,hk,e1,b1,e2,b2,e3,r1000,e4,hmd⟩
    simp only [nodeL,attrsL,acesL,piecesL,rowL] at b1
    simp only [zNode] at b2
    by_cases hlt : i < n.dat.length
    rotate_left
    · have hi : i = n.dat.length := by omega
      subst hi
      rw [List.take_length] at e3
      have hll : ¬ ((n.dat.length : Int) < (n.dat.length : Int)) := by omega
      refine Yg1 (fa4 @e1 @b1 @e4 @hll) ?_
      refine Yf0 ?_
      refine LW_exit ?_;simp only [thenL,jumpsL,inBlockL,twoL,reduceIte,Nat.reduceEqDiff]
      exact ⟨(Yq1 @e1),(Yq1 (fa6 @b1 @nodeL.eq_1 @attrsL.eq_1 @acesL.eq_1 @piecesL.eq_1 @rowL.eq_1)),(Yq1 @e2),(Yq1 (fa2 @b2 @zNode.eq_1)),(Yq1 @e3),(Yq1 @hmd)⟩
    obtain ⟨p,hp⟩ := get_of_lt hlt
    have hd := drop_piece hp
    have hw := w64s (n := i) (by omega)
    have hlti : ((i : Int) < (n.dat.length : Int)) = True := eq_true (by omega)
    have hip : (0 : Int) ≤ (i : Int) := by omega
    have hpl := h.2.2.2 p (List.mem_of_getElem? hp)
    have co := decimal_L p.dat.length (by omega)
    rw [dec_ito] at co
    have hsn := bare_take hp
    have hfl : (((n.dat.take i).map bareP).flatMap pieceL).length = i * 2 := by
      rw [pieceL_flen,List.length_map,List.length_take,Nat.min_eq_left (by omega)]
    refine Yg1 (fa4 @e1 @b1 @e4 @hlti) ?_
    refine Yt0 ?_
    (repeat (first | refine LW_seq ?_ | (refine LW_skip ?_;simp only [LSj,reduceIte,zze]) | refine LW_block ?_));refine LW_tail 17 (by kernel_rfl) (by kernel_rfl) (by kernel_rfl) (by first | exact rfl | (rw [hmd];exact rfl)) ?_;intro K hK;simp only [LZ,zo,zc,reduceCtorEq,reduceIte,zz1,zz2,zz3,zz4,zz5,zz6,zz7,zz8,zz9,zza,zzb,zzc,zzd,zze,zzf,e1,b1,e3,e4,r1000,hlt,hip,hd,hfl,hmd]
    refine Yc1 (co) (fa10 @e1 @b1 @e3 @e4 @r1000 @hlt @hip @hd @hfl @hmd) ?_
    refine ⟨by (repeat' apply And.intro) <;> first | omega | (unfold maxLen;omega) | rfl,?_⟩
    refine hK _ ?_;clear hK K;try refine Wh0 ?_
    refine Yg1 (fa2 @e4 @hw) ?_
    exact ⟨k - 1,by omega,i + 1,by omega,(Yq1 @e1),(Yq1 (fa6 @b1 @nodeL.eq_1 @attrsL.eq_1 @acesL.eq_1 @piecesL.eq_1 @rowL.eq_1)),(Yq1 @e2),(Yq1 (fa2 @b2 @zNode.eq_1)),by rw [hsn];exact Yq0,Yq0,(Yq1 @hw),(Yq1 @hmd)⟩
  rintro st ⟨e1,b1,e2,b2,e3,hmd⟩
  simp only [nodeL,attrsL,acesL,piecesL,rowL] at b1
  simp only [zNode] at b2
  refine LW_plain 3 e3 ?_
  subst hR
  have hfe : (n.dat.map fun p => (⟨p.pos,itoB p.dat.length⟩ : Piece)) = n.dat.map bareP := rfl
  have hle : (n.dat.map bareP).length = n.dat.length := List.length_map _
  refine Yg1 (fa4 @e1 @b1 @e2 @b2) ?_
  refine Ye1 (fa11 @e1 @b1 @e2 @b2 @hfe @hle @nodeL.eq_1 @piecesL.eq_1 @attrsL.eq_1 @acesL.eq_1 @rowL.eq_1) ?_;try (with_reducible exact trivial)
end Go.Proofs.YteamlijbkldlhaaGreat
end
section
set_option linter.unusedSimpArgs false
set_option linter.unusedVariables false
namespace Go.Proofs.YteamlijbkldlhaaGreat
open Nat renaming reduceAdd → zz1,reduceMul → zz2,reduceSub → zz3,reduceLT → zz4,reduceLeDiff → zz5,reduceEqDiff → zz6,reduceBEq → zzf
open Int renaming reduceAdd → zz7,reduceSub → zz8,reduceMul → zz9,reduceLT → zza,reduceLE → zzb,reduceEq → zzc,reduceNeg → zzd,reduceToNat → zze
open Op renaming operands → zo
open Call renaming operands → zc
open Go.RowKit Go.Proofs AclSpec MetaSpec NodeSpec RecSpec PathSpec PageSpec TreeSpec DbSpec

theorem cat_drop {l : List Piece} {j : Nat} {p : Piece} (h : l[j]? = some p) : catP (l.drop j) = p.dat ++ catP (l.drop (j + 1)) := by
  obtain ⟨hi,rfl⟩ := List.getElem?_eq_some_iff.1 h
  rw [List.drop_eq_getElem_cons hi];rfl
theorem lead_ne {l : List TEnt} {v : Int} {k : Nat} {x : TEnt} (hk : k < leadT l v) (h : l[k]? = some x) : ¬ x.node = v := by
  obtain ⟨hi,rfl⟩ := List.getElem?_eq_some_iff.1 h
  have := List.not_of_lt_findIdx hk
  simpa using this
theorem lead_eq {l : List TEnt} {v : Int} {x : TEnt} (h : l[leadT l v]? = some x) : x.node = v := by
  obtain ⟨hi,rfl⟩ := List.getElem?_eq_some_iff.1 h
  have := List.findIdx_getElem (p := fun e : TEnt => decide (e.node = v)) (w := hi)
  exact of_decide_eq_true this
def recZ (p : List UInt8) (k : Nat) : List LV := [strL p,intL k,intL 0,intL 0,intL 0,intL 0,intL 0,.sl 0 [] .nil,.sl 0 [] .nil,intL 0,.sl 0 [] .nil,strL [],intL 0,intL 0,intL 0]
theorem recZ_plain (p : List UInt8) (k : Nat) : (recZ p k).map plain1 = recL ⟨p,(k : Nat),zeroN,0⟩ := rfl
theorem recL_fl (l : List Rec) : (l.flatMap recL).length = l.length * 15 := len_flat recL 15 (fun _ => rfl) l
set_option maxRecDepth 100000 in
set_option maxHeartbeats 16000000 in
theorem recs_L (t : FTree) (hv : mayT t = true) (hs : SmallT t) (hel : t.ents.length ≤ 100) : LCalls Tryz.prog 8 [.agg (treeL t)] (.tup [rowL recL (recsT t),strL (bytsT t),intL 0]) := by
  have cm := rmayTree_L t hs
  rw [may_eq,hv] at cm
  have hrg := (mayT_valid hv).range
  simp only [treeL] at cm
  refine LCalls.of (fun _ => false) Tryz.func8 rfl (by decide) Tryz.ntmps8 Tryz.results8 (by simp) ?_
  intro w0 S0 vs hgl hwf0 hsz hvs;clear hsz hvs hwf0 hgl
  generalize hR : recsT t = R
  generalize hB : bytsT t = B
  unfold recsT at hR
  unfold bytsT at hB
  refine Yg1 @treeL.eq_1 ?_
  refine Yr0 ?_;intro K hK
  refine Yc0 (cm) ?_
  refine hK _ ?_;clear hK K;try refine Wh0 ?_
  refine Yf0 ?_
  refine Yg0 ?_
  refine LW_joinB (fun st => st.env 5 = .sl R.length (R.flatMap recL) (.row 1000) ∧ st.env 6 = strL B ∧ st.mode = fun _ => false) ?_ ?_
  · refine LW_nil (k := 5) (q := 1000) (e := 48) Yq0 ?_
    refine LW_loop (fun m st => ∃ (i : Nat) (out : List Rec) (b : List UInt8),m + i = t.ents.length ∧ out.length = i ∧ out ++ recsG t i (t.ents.drop i) b = R ∧ bytG t i (t.ents.drop i) b = B ∧ b.length ≤ 4000 * i ∧ st.env 1 = .ptr 1 0 ∧ st.box 1 = some (treeL t) ∧ st.env 5 = .sl out.length (out.flatMap recL) (.row 1000) ∧ st.row 1000 = some (48,out.length) ∧ st.env 6 = strL b ∧ st.env 7 = intL i ∧ st.mode = fun _ => false) t.ents.length ⟨0,[],[],by omega,rfl,hR,hB,Nat.le_refl _,Yq0,(Yq1 @treeL.eq_1),Yq0,Yq0,Yq0,Yq0,Yq0⟩ ?_
    rintro m st ⟨i,out,b,hm,hol,hr,hbt,hbl,e1,b1,e5,r1000,e6,e7,hmd⟩
    simp only [treeL] at b1
    by_cases hlt : i < t.ents.length
    rotate_left
    · have hi : i = t.ents.length := by omega
      rw [List.drop_of_length_le (by omega)] at hr hbt
      have hr : out ++ [] = R := hr
      have hbt : b = B := hbt
      rw [List.append_nil] at hr
      subst hr hbt
      have hll : ¬ ((i : Int) < (t.ents.length : Int)) := by omega
      refine Yg1 (fa4 @e1 @b1 @e7 @hll) ?_
      refine Yf0 ?_
      refine LW_exit ?_;simp only [thenL,jumpsL,inBlockL,twoL,reduceIte,Nat.reduceEqDiff]
      exact ⟨(Yq1 @e5),(Yq1 @e6),(Yq1 @hmd)⟩
    obtain ⟨e,he⟩ := get_of_lt hlt
    have hd := drop_tent he
    have hlti : ((i : Int) < (t.ents.length : Int)) = True := eq_true (by omega)
    have hip : (0 : Int) ≤ (i : Int) := by omega
    have hw := w64s (n := i) (by omega)
    have hem := List.mem_of_getElem? he
    obtain ⟨hr0,hr1⟩ := hrg e hem
    have hleadl := lead_le he
    rw [recsG_drop he] at hr
    rw [bytG_drop he] at hbt
    have hnm := get_may hv hr0 hr1
    have hbyl := byt_len (t := t) (i := i) (e := e) (b := b) hnm
    obtain ⟨w,hwn⟩ : ∃ w : Nat,e.node = (w : Int) := ⟨e.node.toNat,by omega⟩
    have hwl : w < t.nodes.length := by omega
    obtain ⟨n,hn⟩ := get_of_lt hwl
    have hng : nodeG t.nodes e.node = n := by unfold nodeG;rw [hwn,Int.toNat_natCast,hn];rfl
    have hnm2 : n ∈ t.nodes := List.mem_of_getElem? hn
    have hns := hs.node n hnm2
    have hdn := drop_node hn
    have hlead : ∃ k,k = leadT t.ents e.node := ⟨_,rfl⟩
    obtain ⟨k,hk⟩ := hlead
    rw [hng] at hnm
    refine Yg1 (fa4 @e1 @b1 @e7 @hlti) ?_
    refine Yt0 ?_
    refine LW_skip ?_
    simp only [LSj,reduceIte,zze]
    refine LW_seq ?_
    refine LW_block ?_
    refine Yo1 (fa6 @e1 @b1 @e7 @hlti @hip @hd) ?_
    refine Yo0 ?_
    (repeat refine LW_seq ?_)
    refine LW_block ?_
    refine LW_joinB (fun st => st.env 1 = .ptr 1 0 ∧ st.box 1 = some (treeL t) ∧ st.env 5 = .sl out.length (out.flatMap recL) (.row 1000) ∧ st.row 1000 = some (48,out.length) ∧ st.env 6 = strL b ∧ st.env 7 = intL i ∧ st.env 8 = .ptr 8 0 ∧ st.box 8 = some (tentL e) ∧ st.env 9 = intL k ∧ st.mode = fun _ => false) ?_ ?_
    · refine LW_loop (fun q st => ∃ j : Nat,q + j = k ∧ st.env 1 = .ptr 1 0 ∧ st.box 1 = some (treeL t) ∧ st.env 5 = .sl out.length (out.flatMap recL) (.row 1000) ∧ st.row 1000 = some (48,out.length) ∧ st.env 6 = strL b ∧ st.env 7 = intL i ∧ st.env 8 = .ptr 8 0 ∧ st.box 8 = some (tentL e) ∧ st.env 9 = intL j ∧ st.mode = fun _ => false) k ⟨0,by omega,(Yq1 @e1),(Yq1 (fa2 @b1 @treeL.eq_1)),(Yq1 @e5),(Yq1 @r1000),(Yq1 @e6),(Yq1 @e7),Yq0,(Yq1 @tentL.eq_1),Yq0,(Yq1 @hmd)⟩ ?_
      clear e1 b1 e5 r1000 e6 e7 hmd st
      rintro q st ⟨j,hq,e1,b1,e5,r1000,e6,e7,e8,b8,e9,hmd⟩
      simp only [treeL] at b1
      simp only [tentL] at b8
      have hjl : j < t.ents.length := by omega
      obtain ⟨x,hx⟩ := get_of_lt hjl
      have hdx := drop_tent hx
      have hjp : (0 : Int) ≤ (j : Int) := by omega
      have hwj := w64s (n := j) (by omega)
      by_cases hjk : j < k
      rotate_left
      · have hj : j = k := by omega
        have hxe : (x.node = e.node) = True := eq_true (lead_eq (l := t.ents) (by rw [← hk,← hj];exact hx))
        refine Yn1 (fa10 @e1 @b1 @e8 @b8 @e9 @hjl @hjp @hdx @hxe @hmd) ?_;intro K hK
        refine hK _ ?_;clear hK K;try refine Wh0 ?_
        refine Yf0 ?_
        refine LW_exit ?_;simp only [thenL,jumpsL,inBlockL,twoL,reduceIte,Nat.reduceEqDiff]
        exact ⟨(Yq1 @e1),(Yq1 (fa2 @b1 @treeL.eq_1)),(Yq1 @e5),(Yq1 @r1000),(Yq1 @e6),(Yq1 @e7),(Yq1 @e8),(Yq1 (fa2 @b8 @tentL.eq_1)),by rw [← hj];exact (Yq1 @e9),(Yq1 @hmd)⟩
      have hxe : (x.node = e.node) = False := eq_false (lead_ne (by omega) hx)
      refine Yn1 (fa10 @e1 @b1 @e8 @b8 @e9 @hjl @hjp @hdx @hxe @hmd) ?_;intro K hK
      refine hK _ ?_;clear hK K;try refine Wh0 ?_
      refine Yt0 ?_
      refine Yg1 (fa2 @e9 @hwj) ?_
      exact ⟨q - 1,by omega,j + 1,by omega,(Yq1 @e1),(Yq1 (fa2 @b1 @treeL.eq_1)),(Yq1 @e5),(Yq1 @r1000),(Yq1 @e6),(Yq1 @e7),(Yq1 @e8),(Yq1 (fa2 @b8 @tentL.eq_1)),(Yq1 @hwj),(Yq1 @hmd)⟩
    clear e1 b1 e5 r1000 e6 e7 hmd st
    rintro st ⟨e1,b1,e5,r1000,e6,e7,e8,b8,e9,hmd⟩
    simp only [treeL] at b1
    simp only [tentL] at b8
    rw [hwn] at b8
    have hwp : (0 : Int) ≤ (w : Int) := by omega
    simp only [nodeL,attrsL,acesL,piecesL,rowL,List.cons_append,List.nil_append] at hdn
    (repeat refine LW_seq ?_)
    refine Yo1 (fa3 @e8 @b8 @e9) ?_
    refine LW_plainBox 10 (cs := recZ e.path k) (Yq1 (fa2 @e9 @recZ.eq_1)) ?_
    rw [recZ_plain]
    refine LW_slim (fun st => st.env 1 = .ptr 1 0 ∧ st.box 1 = some (treeL t) ∧ st.env 5 = .sl out.length (out.flatMap recL) (.row 1000) ∧ st.row 1000 = some (48,out.length) ∧ st.env 6 = strL b ∧ st.env 7 = intL i ∧ st.env 8 = .ptr 8 0 ∧ st.box 8 = some [strL e.path,intL (w : Int)] ∧ st.env 9 = intL k ∧ st.env 10 = .ptr 10 0 ∧ st.box 10 = some (recL ⟨e.path,(k : Nat),zeroN,0⟩) ∧ st.mode = fun _ => false) ⟨(Yq1 @e1),(Yq1 (fa2 @b1 @treeL.eq_1)),(Yq1 @e5),(Yq1 @r1000),(Yq1 @e6),(Yq1 @e7),(Yq1 @e8),(Yq1 @b8),(Yq1 @e9),Yq0,Yq0,(Yq1 @hmd)⟩ ?_
    clear e1 b1 e5 r1000 e6 e7 e8 b8 e9 hmd st
    rintro st ⟨e1,b1,e5,r1000,e6,e7,e8,b8,e9,e10,b10,hmd⟩
    simp only [treeL] at b1
    simp only [recL,nodeL,attrsL,acesL,piecesL,rowL,List.cons_append,List.nil_append,zeroN,List.flatMap_nil,List.length_nil] at b10
    (repeat refine LW_seq ?_)
    refine Yo1 (fa2 @e9 @e7) ?_
    (repeat refine LW_seq ?_)
    refine LW_join (fun st => st.env 1 = .ptr 1 0 ∧ st.box 1 = some (treeL t) ∧ st.env 5 = .sl out.length (out.flatMap recL) (.row 1000) ∧ st.row 1000 = some (48,out.length) ∧ st.env 6 = strL (bytT t i e b) ∧ st.env 7 = intL i ∧ st.env 10 = .ptr 10 0 ∧ st.box 10 = some (recL (recT t i e b)) ∧ st.mode = fun _ => false) ?_ ?_
    · by_cases hki : k = i
      rotate_left
      · have hkf : ((k : Int) = (i : Int)) = False := eq_false (by omega)
        have hrT : recT t i e b = ⟨e.path,(k : Nat),zeroN,0⟩ := by unfold recT;rw [if_neg (by omega),hk]
        have hbT : bytT t i e b = b := by unfold bytT;rw [if_neg (by omega)]
        rw [hrT,hbT]
        refine Yf1 @hkf ?_
        refine Yg0 ?_
        exact ⟨(Yq1 @e1),(Yq1 (fa2 @b1 @treeL.eq_1)),(Yq1 @e5),(Yq1 @r1000),(Yq1 @e6),(Yq1 @e7),(Yq1 @e10),(by first | exact rfl | assumption | (simp only [LZ,zo,zc,reduceCtorEq,reduceIte,zz1,zz2,zz3,zz4,zz5,zz6,zz7,zz8,zz9,zza,zzb,zzc,zzd,zze,zzf,b10,recL,nodeL,attrsL,acesL,piecesL,rowL,List.cons_append,List.nil_append,zeroN,List.flatMap_nil,List.length_nil] <;> exact rfl)),(Yq1 @hmd)⟩
      have hkt : ((k : Int) = (i : Int)) = True := eq_true (by omega)
      have hrT : recT t i e b = ⟨e.path,(k : Nat),bareN n,if n.dat = [] then 0 else (b.length : Nat)⟩ := by unfold recT;rw [if_pos (by omega),hng,hki]
      have hbT : bytT t i e b = b ++ catP n.dat := by unfold bytT;rw [if_pos (by omega),hng]
      rw [hbT] at hbyl
      rw [hrT,hbT]
      have cb := refBare_L n hns.1 hns.2
      simp only [nodeL,attrsL,acesL,piecesL,rowL] at cb
      refine Yt1 @hkt ?_
      (repeat refine LW_seq ?_)
      refine Yo1 (fa7 @e1 @b1 @e8 @b8 @hwp @hwl @hdn) ?_
      refine Yr1 (fa2 @e10 @b10) ?_;intro K hK
      refine Yc1 (cb) (fa2 @e10 @b10) ?_
      refine hK _ ?_;clear hK K;try refine Wh0 ?_
      refine LW_slim (fun st => st.env 1 = .ptr 1 0 ∧ st.box 1 = some (treeL t) ∧ st.env 5 = .sl out.length (out.flatMap recL) (.row 1000) ∧ st.row 1000 = some (48,out.length) ∧ st.env 6 = strL b ∧ st.env 7 = intL i ∧ st.env 10 = .ptr 10 0 ∧ st.box 10 = some (recL ⟨e.path,(k : Nat),bareN n,0⟩) ∧ st.env 11 = .ptr 11 0 ∧ st.box 11 = some (nodeL n) ∧ st.mode = fun _ => false) ⟨(Yq1 @e1),(Yq1 (fa2 @b1 @treeL.eq_1)),(Yq1 @e5),(Yq1 @r1000),(Yq1 @e6),(Yq1 @e7),(Yq1 @e10),(by first | exact rfl | assumption | (simp only [LZ,zo,zc,reduceCtorEq,reduceIte,zz1,zz2,zz3,zz4,zz5,zz6,zz7,zz8,zz9,zza,zzb,zzc,zzd,zze,zzf,b10,recL,nodeL,attrsL,acesL,piecesL,rowL,List.cons_append,List.nil_append] <;> exact rfl)),Yq0,(by first | exact rfl | assumption | (simp only [LZ,zo,zc,reduceCtorEq,reduceIte,zz1,zz2,zz3,zz4,zz5,zz6,zz7,zz8,zz9,zza,zzb,zzc,zzd,zze,zzf,recL,nodeL,attrsL,acesL,piecesL,rowL,List.cons_append,List.nil_append] <;> exact rfl)),(Yq1 @hmd)⟩ ?_
      clear e1 b1 e5 r1000 e6 e7 e8 b8 e9 e10 b10 hmd st
      rintro st ⟨e1,b1,e5,r1000,e6,e7,e10,b10,e11,b11,hmd⟩
      simp only [treeL] at b1
      simp only [recL,nodeL,attrsL,acesL,piecesL,rowL,List.cons_append,List.nil_append] at b10 b11
      (repeat refine LW_seq ?_)
      refine Yo1 (fa2 @e11 @b11) ?_
      (repeat refine LW_seq ?_)
      refine LW_join (fun st => st.env 1 = .ptr 1 0 ∧ st.box 1 = some (treeL t) ∧ st.env 5 = .sl out.length (out.flatMap recL) (.row 1000) ∧ st.row 1000 = some (48,out.length) ∧ st.env 6 = strL b ∧ st.env 7 = intL i ∧ st.env 10 = .ptr 10 0 ∧ st.box 10 = some (recL ⟨e.path,(k : Nat),bareN n,if n.dat = [] then 0 else (b.length : Nat)⟩) ∧ st.env 11 = .ptr 11 0 ∧ st.box 11 = some (nodeL n) ∧ st.mode = fun _ => false) ?_ ?_
      · by_cases hd0 : n.dat = []
        · have hl0 : ((0 : Int) < (n.dat.length : Int)) = False := by rw [hd0];decide
          rw [if_pos hd0]
          refine Yf1 @hl0 ?_
          refine Yg0 ?_
          exact ⟨(Yq1 @e1),(Yq1 (fa2 @b1 @treeL.eq_1)),(Yq1 @e5),(Yq1 @r1000),(Yq1 @e6),(Yq1 @e7),(Yq1 @e10),(by first | exact rfl | assumption | (simp only [LZ,zo,zc,reduceCtorEq,reduceIte,zz1,zz2,zz3,zz4,zz5,zz6,zz7,zz8,zz9,zza,zzb,zzc,zzd,zze,zzf,b10,recL,nodeL,attrsL,acesL,piecesL,rowL,List.cons_append,List.nil_append] <;> exact rfl)),(Yq1 @e11),(by first | exact rfl | assumption | (simp only [LZ,zo,zc,reduceCtorEq,reduceIte,zz1,zz2,zz3,zz4,zz5,zz6,zz7,zz8,zz9,zza,zzb,zzc,zzd,zze,zzf,b11,recL,nodeL,attrsL,acesL,piecesL,rowL,List.cons_append,List.nil_append] <;> exact rfl)),(Yq1 @hmd)⟩
        · have hl0 : ((0 : Int) < (n.dat.length : Int)) = True := eq_true (by have := List.length_pos_iff.2 hd0;omega)
          rw [if_neg hd0]
          refine Yt1 @hl0 ?_
          refine Yg1 (fa3 @e6 @e10 @b10) ?_
          exact ⟨(Yq1 @e1),(Yq1 (fa2 @b1 @treeL.eq_1)),(Yq1 @e5),(Yq1 @r1000),(Yq1 @e6),(Yq1 @e7),(Yq1 @e10),(by first | exact rfl | assumption | (simp only [LZ,zo,zc,reduceCtorEq,reduceIte,zz1,zz2,zz3,zz4,zz5,zz6,zz7,zz8,zz9,zza,zzb,zzc,zzd,zze,zzf,b10,recL,nodeL,attrsL,acesL,piecesL,rowL,List.cons_append,List.nil_append] <;> exact rfl)),(Yq1 @e11),(by first | exact rfl | assumption | (simp only [LZ,zo,zc,reduceCtorEq,reduceIte,zz1,zz2,zz3,zz4,zz5,zz6,zz7,zz8,zz9,zza,zzb,zzc,zzd,zze,zzf,b11,recL,nodeL,attrsL,acesL,piecesL,rowL,List.cons_append,List.nil_append] <;> exact rfl)),(Yq1 @hmd)⟩
      clear e1 b1 e5 r1000 e6 e7 e10 b10 e11 b11 hmd st
      rintro st ⟨e1,b1,e5,r1000,e6,e7,e10,b10,e11,b11,hmd⟩
      generalize hrr : (⟨e.path,(k : Nat),bareN n,if n.dat = [] then 0 else (b.length : Nat)⟩ : Rec) = rr at *
      (repeat refine LW_seq ?_)
      refine Yo0 ?_
      refine LW_block ?_
      refine LW_joinB (fun st => st.env 1 = .ptr 1 0 ∧ st.box 1 = some (treeL t) ∧ st.env 5 = .sl out.length (out.flatMap recL) (.row 1000) ∧ st.row 1000 = some (48,out.length) ∧ st.env 6 = strL (b ++ catP n.dat) ∧ st.env 7 = intL i ∧ st.env 10 = .ptr 10 0 ∧ st.box 10 = some (recL rr) ∧ st.mode = fun _ => false) ?_ ?_
      · refine LW_loop (fun q st => ∃ (j : Nat) (s : List UInt8),q + j = n.dat.length ∧ s ++ catP (n.dat.drop j) = b ++ catP n.dat ∧ st.env 1 = .ptr 1 0 ∧ st.box 1 = some (treeL t) ∧ st.env 5 = .sl out.length (out.flatMap recL) (.row 1000) ∧ st.row 1000 = some (48,out.length) ∧ st.env 6 = strL s ∧ st.env 7 = intL i ∧ st.env 10 = .ptr 10 0 ∧ st.box 10 = some (recL rr) ∧ st.env 11 = .ptr 11 0 ∧ st.box 11 = some (nodeL n) ∧ st.env 12 = intL j ∧ st.mode = fun _ => false) n.dat.length ⟨0,b,by omega,by rw [List.drop_zero],(Yq1 @e1),(Yq1 @b1),(Yq1 @e5),(Yq1 @r1000),(Yq1 @e6),(Yq1 @e7),(Yq1 @e10),(Yq1 @b10),(Yq1 @e11),(Yq1 @b11),Yq0,(Yq1 @hmd)⟩ ?_
        clear e1 b1 e5 r1000 e6 e7 e10 b10 e11 b11 hmd st
        rintro q st ⟨j,s,hq,hsj,e1,b1,e5,r1000,e6,e7,e10,b10,e11,b11,e12,hmd⟩
        simp only [nodeL,piecesL,rowL] at b11
        by_cases hjl : j < n.dat.length
        rotate_left
        · have hll : ¬ ((j : Int) < (n.dat.length : Int)) := by omega
          rw [List.drop_of_length_le (by omega)] at hsj
          have hsj : s ++ [] = b ++ catP n.dat := hsj
          rw [List.append_nil] at hsj
          refine Yg1 (fa4 @e11 @b11 @e12 @hll) ?_
          refine Yf0 ?_
          refine LW_exit ?_;simp only [thenL,jumpsL,inBlockL,twoL,reduceIte,Nat.reduceEqDiff]
          exact ⟨(Yq1 @e1),(Yq1 @b1),(Yq1 @e5),(Yq1 @r1000),by rw [← hsj];exact (Yq1 @e6),(Yq1 @e7),(Yq1 @e10),(Yq1 @b10),(Yq1 @hmd)⟩
        obtain ⟨p,hp⟩ := get_of_lt hjl
        have hdp := drop_piece hp
        have hjt : ((j : Int) < (n.dat.length : Int)) = True := eq_true (by omega)
        have hjp : (0 : Int) ≤ (j : Int) := by omega
        have hwj := w64s (n := j) (by have := hns.1.2.2.1;omega)
        rw [cat_drop hp,← List.append_assoc] at hsj
        have hcat : s.length + p.dat.length ≤ 9223372036854775807 := by
          have := congrArg List.length hsj
          rw [List.length_append,List.length_append] at this
          omega
        refine Yg1 (fa4 @e11 @b11 @e12 @hjt) ?_
        refine Yt0 ?_
        refine Yg1 (fa8 @e6 @e11 @b11 @e12 @hjl @hjp @hdp @hcat) ?_
        refine Yg1 (fa2 @e12 @hwj) ?_
        exact ⟨q - 1,by omega,j + 1,s ++ p.dat,by omega,hsj,(Yq1 @e1),(Yq1 @b1),(Yq1 @e5),(Yq1 @r1000),(Yq1 @e6),(Yq1 @e7),(Yq1 @e10),(Yq1 @b10),(Yq1 @e11),(Yq1 (fa4 @b11 @nodeL.eq_1 @piecesL.eq_1 @rowL.eq_1)),(Yq1 @hwj),(Yq1 @hmd)⟩
      clear e1 b1 e5 r1000 e6 e7 e10 b10 e11 b11 hmd st
      rintro st ⟨e1,b1,e5,r1000,e6,e7,e10,b10,hmd⟩
      refine Yg0 ?_
      exact ⟨(Yq1 @e1),(Yq1 @b1),(Yq1 @e5),(Yq1 @r1000),(Yq1 @e6),(Yq1 @e7),(Yq1 @e10),(Yq1 @b10),(Yq1 @hmd)⟩
    clear e1 b1 e5 r1000 e6 e7 e8 b8 e9 e10 b10 hmd st
    rintro st ⟨e1,b1,e5,r1000,e6,e7,e10,b10,hmd⟩
    generalize recT t i e b = rr at *
    have hsn : (out ++ [rr]).flatMap recL = out.flatMap recL ++ recL rr := by rw [List.flatMap_append];simp
    have hfl := recL_fl out
    have hob : out.length ≤ 100 := by omega
    simp only [recL,nodeL,attrsL,acesL,piecesL,rowL,List.cons_append,List.nil_append] at b10 hsn
    refine Yr1 (fa6 @e5 @r1000 @e10 @b10 @hfl @hmd) ?_;intro K hK
    refine ⟨by (repeat' apply And.intro) <;> first | omega | (unfold maxLen;omega) | (intro _;omega) | decide,?_⟩
    refine hK _ ?_;clear hK K;try refine Wh0 ?_
    refine Yg1 (fa2 @e7 @hw) ?_
    exact ⟨m - 1,by omega,i + 1,out ++ [rr],bytT t i e b,by omega,by rw [List.length_append,hol];rfl,by rw [List.append_assoc];exact hr,hbt,by omega,(Yq1 @e1),(Yq1 @b1),by rw [hsn,List.length_append];exact Yq0,by rw [List.length_append];exact Yq0,(Yq1 @e6),(Yq1 @hw),(Yq1 @hmd)⟩
  rintro st ⟨e5,e6,hmd⟩
  refine LW_plain 5 e5 ?_
  refine Yg1 @e6 ?_
  refine Ye1 @rowL.eq_1 ?_;try (with_reducible exact trivial)
end Go.Proofs.YteamlijbkldlhaaGreat
end
