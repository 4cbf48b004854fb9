/-
  PRIVATE ARRAYS THAT ARE WRITTEN NO MORE, wherever they are known; plain contracts as ones that give back, and the other way round.
-/
import Derived.Test.YtmchdjpgceiloaaL21
set_option linter.unusedSimpArgs false
set_option linter.unusedVariables false
namespace Go.Proofs.Ytmchdjpgceiloaa
open Go.RowKit

/-- Private slices over these arrays, as plain slices. -/
def pub1 (P : Program) (al : List (Nat × List LV)) : LV → LV
  | .lit v => .lit v
  | .sl n cs t => .sl n cs t
  | .ref cs => .ref cs
  | .ptr d o => .ptr d o
  | .bsl q n e => match alook al q with | some cs => if cs.length = n * sizeL P e then .sl n cs .no else .any | none => .bsl q n e
  | .aptr q o => match alook al q with | some cs => .any | none => .aptr q o
  | _ => .any
def pub2 (P : Program) (al : List (Nat × List LV)) : LV → LV
  | .agg cs => .agg (cs.map (pub1 P al))
  | x => pub1 P al x
def pub (P : Program) (al : List (Nat × List LV)) : LV → LV
  | .tup cs => .tup (cs.map (pub2 P al))
  | x => pub2 P al x
def LSt.pub (P : Program) (st : LSt) (al : List (Nat × List LV)) : LSt :=
  ⟨fun k => Go.Proofs.Ytmchdjpgceiloaa.pub P al (st.env k), fun k => (st.box k).map fun l => l.map (pub1 P al), st.row, fun k => match alook al k with | some _ => none | none => st.arr k, st.mode, st.val⟩
section
variable {P : Program} {N : Nat} {w0 : World} {S0 : Ent} {Q : Exit → LSt → Prop} {st : LSt}
/-- What is known more: the cells of these arrays stay. -/
structure PubM (P : Program) (al : List (Nat × List LV)) (w : World) (g g' : Gh) : Prop where
  own : g'.own = g.own
  cell : ∀ b i v, g.S b i → w.cell? ⟨b, i, none⟩ = some v → g'.S b i ∧ w.cell? ⟨b, i, none⟩ = some v
  row : ∀ q e n v, g'.row q = some (e, n) → (∀ e', g.row q = some (e', n) → OwnAt P w g q e' n v) → OwnAt P w g' q e n v
  arr : ∀ d cs, alook al d = some cs → ArrAt P w g d cs
  S : ∀ d cs b, alook al d = some cs → g.own d = some b → ∀ i, g'.S b i
theorem PubM.mono {al : List (Nat × List LV)} {w : World} {g g' : Gh} (m : PubM P al w g g') : Mono P w g w g' :=
  ⟨m.cell, fun d b h => by rw [m.own]; exact h, m.row, fun _ _ cur _ _ hc => ⟨cur, hc, rfl⟩⟩
theorem Rep.pub1 {al : List (Nat × List LV)} {w : World} {g g' : Gh} {x : LV} {v : Value} (h : Rep P w g x v) (m : PubM P al w g g') : Rep P w g' (Go.Proofs.Ytmchdjpgceiloaa.pub1 P al x) v := by
  cases x with
  | lit u => rw [h.inv_lit]; exact .lit _ _
  | sl n cs t => exact h.mono m.mono
  | ref cs => exact h.mono m.mono
  | ptr d o => exact h.mono m.mono
  | bsl q n e =>
    simp only [Go.Proofs.Ytmchdjpgceiloaa.pub1]
    cases hq : alook al q with
    | none => exact h.mono m.mono
    | some cs =>
      simp only
      split
      · rename_i hl
        rcases h.inv_bsl with ⟨rfl, rfl⟩ | ⟨b, cap, cur, h1, rfl, h3, h4, h5, h6, h7⟩
        · have : cs = [] := List.eq_nil_of_length_eq_zero (by rw [hl]; simp)
          subst this
          exact .empty _ _ _
        · have hv := (arr_vals (m.arr q cs hq) h1 h3 hl h4 h6).mono (g' := g') (fun b i v hs hc => m.cell b i v hs hc)
          have hc := hv.cells (b := b) (off := 0) fun i u hu => ⟨m.S q cs b hq h1 _, by
            rw [Nat.zero_add, cell_of_heap h3]
            rw [List.getElem?_take] at hu
            split at hu
            · simpa using hu
            · cases hu⟩
          obtain ⟨val, hc1, hc2⟩ := hc
          exact .sl _ _ _ _ _ _ (by omega) val hc1 hc2
      · exact .any _ _
  | aptr q o =>
    simp only [Go.Proofs.Ytmchdjpgceiloaa.pub1]
    cases hq : alook al q with
    | none => exact h.mono m.mono
    | some cs => exact .any _ _
  | _ => exact .any _ _
theorem Rep.pub2 {al : List (Nat × List LV)} {w : World} {g g' : Gh} {x : LV} {v : Value} (h : Rep P w g x v) (m : PubM P al w g g') : Rep P w g' (Go.Proofs.Ytmchdjpgceiloaa.pub2 P al x) v := by
  cases x with
  | agg cs =>
    obtain ⟨vs, rfl, hl, h⟩ := h.inv_agg
    refine .agg _ _ _ (by simpa using hl) fun i c u hc hu => ?_
    obtain ⟨c', hc', rfl⟩ := map_get hc
    exact (h i c' u hc' hu).pub1 m
  | lit u => exact h.pub1 m
  | sl n cs t => exact h.pub1 m
  | ref cs => exact h.pub1 m
  | ptr d' off => exact h.pub1 m
  | aptr d' off => exact h.pub1 m
  | bsl d' n e => exact h.pub1 m
  | _ => exact .any _ _
theorem Rep.pub {al : List (Nat × List LV)} {w : World} {g g' : Gh} {x : LV} {v : Value} (h : Rep P w g x v) (m : PubM P al w g g') : Rep P w g' (Go.Proofs.Ytmchdjpgceiloaa.pub P al x) v := by
  cases x with
  | tup cs =>
    obtain ⟨vs, rfl, hl, h⟩ := h.inv_tup
    refine .tup _ _ _ (by simpa using hl) fun i c u hc hu => ?_
    obtain ⟨c', hc', rfl⟩ := map_get hc
    exact (h i c' u hc' hu).pub2 m
  | agg cs => exact h.pub2 m
  | lit u => exact h.pub1 m
  | sl n cs t => exact h.pub1 m
  | ref cs => exact h.pub1 m
  | ptr d' off => exact h.pub1 m
  | aptr d' off => exact h.pub1 m
  | bsl d' n e => exact h.pub1 m
  | _ => exact .any _ _
/-- Private arrays that are written no more. -/
theorem LW_pub {c : Code} (al : List (Nat × List LV)) (ha : allO (fun d cs => st.arr d = some cs) al) (h : LW P N w0 S0 c Q (st.pub P al)) : LW P N w0 S0 c Q st := by
  intro a w hr
  refine h a w ?_
  obtain ⟨g, hg⟩ := hr
  have harr : ∀ d cs, alook al d = some cs → st.arr d = some cs := fun d cs hd => allO_get ha hd
  let S' : Nat → Nat → Prop := fun b i => g.S b i ∨ ∃ d cs, alook al d = some cs ∧ g.own d = some b
  let g' : Gh := ⟨S', g.own, g.row⟩
  have other : ∀ k b, alook al k = none → g.own k = some b → ∀ i, S' b i → g.S b i := by
    rintro k b hk ho i (hs | ⟨d, cs, hd, hdo⟩)
    · exact hs
    · have := hg.inj k d b ho hdo
      subst this
      rw [hd] at hk; cases hk
  have m : PubM P al w g g' := by
    refine ⟨rfl, fun b i v hs hc => ⟨.inl hs, hc⟩, fun q e n v he ho => ?_, fun d cs hd => hg.arr d cs (harr d cs hd), fun d cs b hd hb i => .inr ⟨d, cs, hd, hb⟩⟩
    rcases ho e he with h0 | ⟨b, cap, cur, k1, k2, k3, k4, k5, k6, k7⟩
    · exact .inl h0
    · have hq : alook al q = none := by
        cases hq : alook al q with
        | none => rfl
        | some cs =>
          have h1 := (hg.dia q cs (harr q cs hq)).1
          have h2 : st.row q = some (e, n) := by rw [← hg.row]; exact he
          rw [h1] at h2; cases h2
      exact .inr ⟨b, cap, cur, k1, k2, k3, k4, k5, k6, fun i hi hs => k7 i hi (other q b hq k1 i hs)⟩
  refine ⟨g', hg.defers, hg.size, fun k => (hg.env k).pub m, hg.below, fun b i hb hH => ⟨fun hs => hs.elim (hg.s0 b i hb hH).1 fun ⟨d, cs, hd, ho⟩ => ?_, fun hs => .inl ((hg.s0 b i hb hH).2 hs)⟩, fun b i hs => hs.elim (hg.wf b i) fun ⟨d, cs, hd, ho⟩ => (hg.own d b ho).2, hg.own, hg.inj, fun k cs hk => ?_, hg.row, fun k cs hk => ?_, fun k cs hk => ?_, fun k cs hk => ?_, hg.ex, fun b i v hs hc => m.cell b i v (hg.keep b i v hs hc).1 (hg.keep b i v hs hc).2⟩
  · exact absurd ((hg.own d b ho).1.elim (fun h => by omega) hH) id
  · have hk2 : (st.box k).map (fun l => l.map (Go.Proofs.Ytmchdjpgceiloaa.pub1 P al)) = some cs := hk
    obtain ⟨cs0, e1, rfl⟩ := Option.map_eq_some_iff.1 hk2
    obtain ⟨b, vals, T, k1, k2, k3, k4, k5⟩ := hg.box k cs0 e1
    have hk : alook al k = none := by
      cases hq : alook al k with
      | none => rfl
      | some cs =>
        have h1 := (hg.dia k cs (harr k cs hq)).2
        rw [e1] at h1; cases h1
    refine ⟨b, vals, T, k1, k2, by simpa using k3, fun i c u hc hu => ?_, fun i hs => k5 i (other k b hk k1 i hs)⟩
    obtain ⟨c', hc', rfl⟩ := map_get hc
    exact (k4 i c' u hc' hu).pub1 m
  · have hk2 : (st.box k).map (fun l => l.map (Go.Proofs.Ytmchdjpgceiloaa.pub1 P al)) = some cs := hk
    obtain ⟨cs0, e1, _⟩ := Option.map_eq_some_iff.1 hk2
    exact hg.dis k cs0 e1
  · have hk2 : (match alook al k with | some _ => none | none => st.arr k) = some cs := hk
    cases hq : alook al k with
    | some c => rw [hq] at hk2; cases hk2
    | none =>
      rw [hq] at hk2
      rcases hg.arr k cs hk2 with h0 | ⟨b, vals, T, k1, k2, k3, k4, k5⟩
      · exact .inl h0
      · exact .inr ⟨b, vals, T, k1, k2, k3, fun i c u hc hu => (k4 i c u hc hu).mono (.bare m.cell), fun i hs => k5 i (other k b hq k1 i hs)⟩
  · have hk2 : (match alook al k with | some _ => none | none => st.arr k) = some cs := hk
    show st.row k = none ∧ (st.box k).map (fun l => l.map (Go.Proofs.Ytmchdjpgceiloaa.pub1 P al)) = none
    cases hq : alook al k with
    | some c => rw [hq] at hk2; cases hk2
    | none =>
      rw [hq] at hk2
      have := hg.dia k cs hk2
      exact ⟨this.1, by rw [this.2]; rfl⟩
theorem alook_nil {α : Type} : (alook ([] : List (Nat × α))) = fun _ => none := rfl
/-- A plain contract, as one that takes nothing over. -/
theorem LCalls.toO {f : FuncId} {args : List LV} {r : LV} (h : LCalls P f args r) (ha : args.map strip = args := by rfl) : OCalls P f args ⟨[], [], []⟩ (strip r) ⟨[], [], []⟩ := by
  refine ⟨h.enters, fun w S own vs hgl hwf hown hinj hI hl hr => ?_⟩
  refine Calls.mono (h.calls w S vs (hgl w (.refl _ _ _)) hwf hl fun i c u hc hu => ?_) ?_
  · rw [← ha, List.getElem?_map, Option.map_eq_some_iff] at hc
    obtain ⟨c', hc', rfl⟩ := hc
    exact (hr i c' u hc' hu).strip rfl
  · rintro e w' ⟨v, S', rfl, hrep, hg, hS, hwf'⟩
    have hsz : w.heap.size ≤ w'.heap.size := hg.lt
    refine ⟨v, S', fun _ => none, rfl, hrep.strip rfl, ⟨rfl, (fun d cs hd => by cases hd), (fun d cs hd => by cases hd), (fun d cs hd => by cases hd), (fun d cs hd => by cases hd)⟩, .of hg, fun b i hb _ => hS b i hb, hwf', (fun d b hd => by cases hd), (fun d d' b hd => by cases hd), fun b i u hs hc => ⟨(hS b i (hwf b i hs)).2 hs, by rw [hg.cellAt (hwf b i hs)]; exact hc⟩⟩
/-- What takes nothing over, as a plain contract: private arrays that come back are plain from there on. -/
theorem OCalls.toL {f : FuncId} {args : List LV} {r : LV} {R : Own} (h : OCalls P f args ⟨[], [], []⟩ r R) : LCalls P f args (strip (Go.Proofs.Ytmchdjpgceiloaa.pub P R.ar r)) := by
  refine ⟨h.enters, fun w S vs hgl hwf hl hr => ?_⟩
  have hno : ∀ b, ¬ HOf (fun _ => none) b := fun b ⟨d, hd⟩ => by cases hd
  refine Calls.mono (h.calls w S (fun _ => none) vs (fun w' hb => hgl.on (hb.below hno)) hwf (fun d b hd => by cases hd) (fun d d' b hd => by cases hd) ⟨rfl, (fun d cs hd => by cases hd), (fun d cs hd => by cases hd), (fun d cs hd => by cases hd), (fun d cs hd => by cases hd)⟩ hl hr) ?_
  rintro e w' ⟨v, S', own', rfl, hb⟩
  let g : Gh := ⟨S', own', alook R.ro⟩
  let S2 : Nat → Nat → Prop := fun b i => S' b i ∨ ∃ d cs, alook R.ar d = some cs ∧ own' d = some b
  let g' : Gh := ⟨S2, own', fun _ => none⟩
  have m : PubM P R.ar w' g g' := ⟨rfl, fun b i v hs hc => ⟨.inl hs, hc⟩, (fun q e n v he => by cases he), hb.holds.arr, fun d cs b hd hb i => .inr ⟨d, cs, hd, hb⟩⟩
  refine ⟨v, S2, rfl, (hb.rep.pub m).strip rfl, hb.below.below hno, fun b i hlt => ⟨fun hs => hs.elim (hb.s b i hlt (hno b)).1 fun ⟨d, cs, hd, ho⟩ => ?_, fun hs => .inl ((hb.s b i hlt (hno b)).2 hs)⟩, fun b i hs => hs.elim (hb.wf b i) fun ⟨d, cs, hd, ho⟩ => (hb.own d b ho).2⟩
  rcases (hb.own d b ho).1 with h | h
  · omega
  · exact absurd h (hno b)
end
section
variable {α : Type} {enc : α → List LV} {k : Nat}
/-- One cell of an element written anew. -/
theorem flat_set (hk : ∀ x, (enc x).length = k) {y : LV} {o : Nat} {a a' : α} (ho : o < k) (ha : enc a' = (enc a).take o ++ y :: (enc a).drop (o + 1)) : ∀ {l : List α} {i : Nat}, l[i]? = some a → (l.flatMap enc).take (i * k + o) ++ y :: (l.flatMap enc).drop (i * k + o + 1) = (l.set i a').flatMap enc
  | x :: r, 0, h => by
    simp only [List.getElem?_cons_zero, Option.some.injEq] at h
    subst h
    rw [Nat.zero_mul, Nat.zero_add, List.set_cons_zero, List.flatMap_cons, List.flatMap_cons, ha, List.take_append_of_le_length (by rw [hk]; omega), List.drop_append_of_le_length (by rw [hk]; omega)]
    simp
  | x :: r, i + 1, h => by
    simp only [List.getElem?_cons_succ] at h
    have ih := flat_set hk ho ha h
    rw [List.set_cons_succ, List.flatMap_cons, List.flatMap_cons, ← ih]
    have e : (i + 1) * k + o = (enc x).length + (i * k + o) := by rw [hk, Nat.add_mul]; omega
    rw [e, List.take_length_add_append, Nat.add_assoc, List.drop_length_add_append]
    simp
theorem upd_step {f : α → α} {l : List α} {i : Nat} {a : α} (h : l[i]? = some a) : ((l.take i).map f ++ l.drop i).set i (f a) = (l.take (i + 1)).map f ++ l.drop (i + 1) := by
  obtain ⟨hi, rfl⟩ := List.getElem?_eq_some_iff.1 h
  rw [List.set_append_right _ _ (by simp; omega), List.drop_eq_getElem_cons hi, List.take_succ_eq_append_getElem hi]
  have : i - ((l.take i).map f).length = 0 := by simp; omega
  rw [this, List.set_cons_zero, List.map_append, List.append_assoc]
  rfl
theorem upd_get {f : α → α} {l : List α} {i : Nat} {a : α} (h : l[i]? = some a) : ((l.take i).map f ++ l.drop i)[i]? = some a := by
  obtain ⟨hi, rfl⟩ := List.getElem?_eq_some_iff.1 h
  rw [List.getElem?_append_right (by simp; omega), List.getElem?_drop]
  have : i - ((l.take i).map f).length = 0 := by simp; omega
  rw [this, Nat.add_zero, List.getElem?_eq_getElem hi]
theorem upd_len {f : α → α} {l : List α} {i : Nat} : ((l.take i).map f ++ l.drop i).length = l.length := by
  simp; omega
end
theorem LSx : type_of% (And.intro @lopsX_nil <| And.intro @lopsX_c <| And.intro @gopX_tt <| And.intro @gopX_ff <| And.intro @gopX_tf <| And.intro @gopX_ft <| And.intro @wopX_some <| And.intro @wopX_none <| And.intro @popX_some <| And.intro @popX_none <| And.intro @copX_none <| And.intro @eopX_some <| And.intro @mOk_none <| And.intro @mOk_some <| And.intro @Option.bind_none.{0,0} <| And.intro @Bool.or_true <| And.intro @Bool.true_or <| And.intro @Bool.and_false <| And.intro @Bool.false_and <| And.intro @Bool.false_or <| And.intro @Bool.or_false <| And.intro @ocOk.eq_1 <| And.intro @ocNext.eq_1 <| And.intro @ocAt.eq_1 <| And.intro @ocAt.eq_2 <| And.intro @alook.eq_1 <| And.intro @alook.eq_2 <| And.intro @bkL.eq_1 <| And.intro @bkL.eq_2 <| And.intro @allO.eq_1 <| And.intro @allO.eq_2 <| And.intro @memL.eq_1 <| And.intro @memL.eq_2 <| And.intro @firsts.eq_1 <| And.intro @firsts.eq_2 <| And.intro @seconds.eq_1 <| And.intro @seconds.eq_2 <| And.intro @ren1.eq_1 <| And.intro @ren1.eq_2 <| And.intro @ren1.eq_3 <| And.intro @ren1.eq_4 <| And.intro @ren1.eq_5 <| And.intro @ren1.eq_6 <| And.intro @ren1.eq_7 <| And.intro @ren1.eq_8 <| And.intro @ren2.eq_1 <| And.intro @ren2.eq_2 <| And.intro @ren.eq_1 <| And.intro @ren.eq_2 <| And.intro @fgF1.eq_1 <| And.intro @fgF1.eq_2 <| And.intro @fgF1.eq_3 <| And.intro @fgF1.eq_4 <| And.intro @fgF1.eq_5 <| And.intro @fgF1.eq_6 <| And.intro @fgF1.eq_7 <| And.intro @fgF1.eq_8 <| And.intro @fgF2.eq_1 <| And.intro @fgF2.eq_2 <| And.intro @fgF.eq_1 <| And.intro @fgF.eq_2 <| And.intro @LSt.ocall.eq_1 <| And.intro @disjL.eq_1 <| And.intro @disjL.eq_2 <| And.intro @stab1.eq_1 <| And.intro @stab1.eq_2 <| And.intro @stab1.eq_3 <| And.intro @stab1.eq_4 <| And.intro @stab1.eq_5 <| And.intro @stab1.eq_6 <| And.intro @stab1.eq_7 <| And.intro @stab1.eq_8 <| And.intro @stab1.eq_9 <| And.intro @stab2.eq_1 <| And.intro @stab2.eq_2 <| And.intro @stab.eq_1 <| And.intro @stab.eq_2 <| And.intro @bxStab.eq_1 <| And.intro @bxStab.eq_2 <| And.intro @opsStab.eq_1 <| And.intro @idsOf.eq_1 <| And.intro @idsOf.eq_2 <| And.intro @idsOf.eq_3 <| And.intro @idsOf.eq_4 <| And.intro @idsOf.eq_5 <| And.intro @touch.eq_1 <| And.intro @touch.eq_2 <| And.intro @touch.eq_3 <| And.intro @touch.eq_4 <| And.intro @effOk.eq_1 <| And.intro @effOk.eq_2 <| And.intro @stOk.eq_1 <| And.intro @noM.eq_1 <| And.intro @noM.eq_2 <| And.intro @getM.eq_1 <| And.intro @getM.eq_2 <| And.intro @entryO.eq_1 <| And.intro @subL.eq_1 <| And.intro @AllL.eq_1 <| And.intro @AllL.eq_2 <| And.intro @AllL.eq_3 <| And.intro @pub1.eq_1 <| And.intro @pub1.eq_2 <| And.intro @pub1.eq_3 <| And.intro @pub1.eq_4 <| And.intro @pub1.eq_5 <| And.intro @pub1.eq_6 <| And.intro @pub1.eq_7 <| And.intro @pub2.eq_1 <| And.intro @pub2.eq_2 <| And.intro @pub.eq_1 <| And.intro @pub.eq_2 <| @LSt.pub.eq_1) := And.intro @lopsX_nil <| And.intro @lopsX_c <| And.intro @gopX_tt <| And.intro @gopX_ff <| And.intro @gopX_tf <| And.intro @gopX_ft <| And.intro @wopX_some <| And.intro @wopX_none <| And.intro @popX_some <| And.intro @popX_none <| And.intro @copX_none <| And.intro @eopX_some <| And.intro @mOk_none <| And.intro @mOk_some <| And.intro @Option.bind_none.{0,0} <| And.intro @Bool.or_true <| And.intro @Bool.true_or <| And.intro @Bool.and_false <| And.intro @Bool.false_and <| And.intro @Bool.false_or <| And.intro @Bool.or_false <| And.intro @ocOk.eq_1 <| And.intro @ocNext.eq_1 <| And.intro @ocAt.eq_1 <| And.intro @ocAt.eq_2 <| And.intro @alook.eq_1 <| And.intro @alook.eq_2 <| And.intro @bkL.eq_1 <| And.intro @bkL.eq_2 <| And.intro @allO.eq_1 <| And.intro @allO.eq_2 <| And.intro @memL.eq_1 <| And.intro @memL.eq_2 <| And.intro @firsts.eq_1 <| And.intro @firsts.eq_2 <| And.intro @seconds.eq_1 <| And.intro @seconds.eq_2 <| And.intro @ren1.eq_1 <| And.intro @ren1.eq_2 <| And.intro @ren1.eq_3 <| And.intro @ren1.eq_4 <| And.intro @ren1.eq_5 <| And.intro @ren1.eq_6 <| And.intro @ren1.eq_7 <| And.intro @ren1.eq_8 <| And.intro @ren2.eq_1 <| And.intro @ren2.eq_2 <| And.intro @ren.eq_1 <| And.intro @ren.eq_2 <| And.intro @fgF1.eq_1 <| And.intro @fgF1.eq_2 <| And.intro @fgF1.eq_3 <| And.intro @fgF1.eq_4 <| And.intro @fgF1.eq_5 <| And.intro @fgF1.eq_6 <| And.intro @fgF1.eq_7 <| And.intro @fgF1.eq_8 <| And.intro @fgF2.eq_1 <| And.intro @fgF2.eq_2 <| And.intro @fgF.eq_1 <| And.intro @fgF.eq_2 <| And.intro @LSt.ocall.eq_1 <| And.intro @disjL.eq_1 <| And.intro @disjL.eq_2 <| And.intro @stab1.eq_1 <| And.intro @stab1.eq_2 <| And.intro @stab1.eq_3 <| And.intro @stab1.eq_4 <| And.intro @stab1.eq_5 <| And.intro @stab1.eq_6 <| And.intro @stab1.eq_7 <| And.intro @stab1.eq_8 <| And.intro @stab1.eq_9 <| And.intro @stab2.eq_1 <| And.intro @stab2.eq_2 <| And.intro @stab.eq_1 <| And.intro @stab.eq_2 <| And.intro @bxStab.eq_1 <| And.intro @bxStab.eq_2 <| And.intro @opsStab.eq_1 <| And.intro @idsOf.eq_1 <| And.intro @idsOf.eq_2 <| And.intro @idsOf.eq_3 <| And.intro @idsOf.eq_4 <| And.intro @idsOf.eq_5 <| And.intro @touch.eq_1 <| And.intro @touch.eq_2 <| And.intro @touch.eq_3 <| And.intro @touch.eq_4 <| And.intro @effOk.eq_1 <| And.intro @effOk.eq_2 <| And.intro @stOk.eq_1 <| And.intro @noM.eq_1 <| And.intro @noM.eq_2 <| And.intro @getM.eq_1 <| And.intro @getM.eq_2 <| And.intro @entryO.eq_1 <| And.intro @subL.eq_1 <| And.intro @AllL.eq_1 <| And.intro @AllL.eq_2 <| And.intro @AllL.eq_3 <| And.intro @pub1.eq_1 <| And.intro @pub1.eq_2 <| And.intro @pub1.eq_3 <| And.intro @pub1.eq_4 <| And.intro @pub1.eq_5 <| And.intro @pub1.eq_6 <| And.intro @pub1.eq_7 <| And.intro @pub2.eq_1 <| And.intro @pub2.eq_2 <| And.intro @pub.eq_1 <| And.intro @pub.eq_2 <| @LSt.pub.eq_1
end Go.Proofs.Ytmchdjpgceiloaa
