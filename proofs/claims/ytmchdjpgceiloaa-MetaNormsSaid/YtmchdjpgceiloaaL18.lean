/-
  CALLS THAT TAKE ROWS, ARRAYS AND VARIABLES OVER FROM THE CALLER, and give such back.
-/
import Derived.Test.YtmchdjpgceiloaaL15
set_option linter.unusedSimpArgs false
set_option linter.unusedVariables false
namespace Go.Proofs.Ytmchdjpgceiloaa
open Go.RowKit

/-- What belongs to a name. -/
def alook {α : Type} : List (Nat × α) → Nat → Option α
  | [], _ => none
  | (c, x) :: r, y => if y = c then some x else alook r y
def allO {α : Type} (p : Nat → α → Prop) : List (Nat × α) → Prop
  | [] => True
  | (c, x) :: r => p c x ∧ allO p r
theorem allO_get {α : Type} {p : Nat → α → Prop} : ∀ {l : List (Nat × α)} {c : Nat} {x : α}, allO p l → alook l c = some x → p c x
  | (c', x') :: r, c, x, h, hl => by
    unfold alook at hl
    split at hl
    · rename_i he; cases hl; subst he; exact h.1
    · exact allO_get h.2 hl
/-- The other name of a name. -/
def bkL : List (Nat × Nat) → Nat → Option Nat
  | [], _ => none
  | (c, k) :: r, y => if y = k then some c else bkL r y
def memL : List Nat → Nat → Bool
  | [], _ => false
  | a :: r, q => if q = a then true else memL r q
def nodupL : List Nat → Bool
  | [] => true
  | a :: r => !memL r a && nodupL r
def okAl (al : List (Nat × Nat)) : Bool := nodupL (al.map (·.1)) && nodupL (al.map (·.2))
theorem memL_iff : ∀ (l : List Nat) (q : Nat), memL l q = true ↔ q ∈ l
  | [], q => by simp [memL]
  | a :: r, q => by
    unfold memL
    split
    · rename_i h; simp [h]
    · rename_i h; rw [memL_iff r q]; simp [h]
theorem nodupL_iff : ∀ l : List Nat, nodupL l = true ↔ l.Nodup
  | [] => by simp [nodupL]
  | a :: r => by
    rw [nodupL, Bool.and_eq_true, nodupL_iff r, List.nodup_cons]
    have := memL_iff r a
    cases h : memL r a
    · rw [h] at this; simp at this; simp [this]
    · rw [h] at this; simp at this; simp [this]
theorem alook_mem {α : Type} : ∀ {l : List (Nat × α)} {c : Nat} {x : α}, alook l c = some x → (c, x) ∈ l
  | (c', x') :: r, c, x, h => by
    unfold alook at h
    split at h
    · rename_i he; cases h; subst he; simp
    · exact List.mem_cons_of_mem _ (alook_mem h)
theorem bkL_mem : ∀ {l : List (Nat × Nat)} {k c : Nat}, bkL l k = some c → (c, k) ∈ l
  | (c', k') :: r, k, c, h => by
    unfold bkL at h
    split at h
    · rename_i he; cases h; subst he; simp
    · exact List.mem_cons_of_mem _ (bkL_mem h)
theorem mem_bkL : ∀ {l : List (Nat × Nat)} {k c : Nat}, (l.map (·.2)).Nodup → (c, k) ∈ l → bkL l k = some c
  | (c', k') :: r, k, c, hn, h => by
    rw [List.map_cons, List.nodup_cons] at hn
    unfold bkL
    rcases List.mem_cons.1 h with h' | h'
    · cases h'; simp
    · have : k ≠ k' := by
        rintro rfl
        exact hn.1 (List.mem_map.2 ⟨(c, k), h', rfl⟩)
      rw [if_neg this]; exact mem_bkL hn.2 h'
theorem fst_inj : ∀ {l : List (Nat × Nat)} {k k' c : Nat}, (l.map (·.1)).Nodup → (c, k) ∈ l → (c, k') ∈ l → k = k'
  | (c', x) :: r, k, k', c, hn, h, h' => by
    rw [List.map_cons, List.nodup_cons] at hn
    rcases List.mem_cons.1 h with h | h <;> rcases List.mem_cons.1 h' with h' | h'
    · cases h; cases h'; rfl
    · cases h; exact absurd (List.mem_map.2 ⟨_, h', rfl⟩) hn.1
    · cases h'; exact absurd (List.mem_map.2 ⟨_, h, rfl⟩) hn.1
    · exact fst_inj hn.2 h h'
theorem okAl_bk {al : List (Nat × Nat)} (h : okAl al = true) {c k : Nat} (hc : alook al c = some k) : bkL al k = some c := by
  unfold okAl at h
  rw [Bool.and_eq_true, nodupL_iff, nodupL_iff] at h
  exact mem_bkL h.2 (alook_mem hc)
theorem okAl_inj {al : List (Nat × Nat)} (h : okAl al = true) {k k' c : Nat} (h1 : bkL al k = some c) (h2 : bkL al k' = some c) : k = k' := by
  unfold okAl at h
  rw [Bool.and_eq_true, nodupL_iff, nodupL_iff] at h
  exact fst_inj h.1 (bkL_mem h1) (bkL_mem h2)

/-- Other names for rows, arrays and variables; what has none is forgotten. -/
def ren1 (al : List (Nat × Nat)) : LV → LV
  | .lit v => .lit v
  | .sl n cs (.row q) => .sl n cs (match alook al q with | some k => .row k | none => .no)
  | .sl n cs _ => .sl n cs .no
  | .ref cs => .ref cs
  | .ptr d o => match alook al d with | some k => .ptr k o | none => .any
  | .bsl d n e => match alook al d with | some k => .bsl k n e | none => .any
  | .aptr d o => match alook al d with | some k => .aptr k o | none => .any
  | _ => .any
def ren2 (al : List (Nat × Nat)) : LV → LV
  | .agg cs => .agg (cs.map (ren1 al))
  | x => ren1 al x
def ren (al : List (Nat × Nat)) : LV → LV
  | .tup cs => .tup (cs.map (ren2 al))
  | x => ren2 al x
/-- What of a value stays known where these names are forgotten. -/
def fgF1 (F : List Nat) : LV → LV
  | .lit v => .lit v
  | .sl n cs (.row q) => .sl n cs (if memL F q = true then .no else .row q)
  | .sl n cs t => .sl n cs t
  | .ref cs => .ref cs
  | .ptr e off => if memL F e = true then .any else .ptr e off
  | .bsl q n e => if memL F q = true then .any else .bsl q n e
  | .aptr e off => if memL F e = true then .any else .aptr e off
  | _ => .any
def fgF2 (F : List Nat) : LV → LV
  | .agg cs => .agg (cs.map (fgF1 F))
  | x => fgF1 F x
def fgF (F : List Nat) : LV → LV
  | .tup cs => .tup (cs.map (fgF2 F))
  | x => fgF2 F x
section
variable {P : Program} {w : World} {g g' : Gh} {v : Value}
/-- The names of g under which g' knows the same. -/
structure Ren (al : List (Nat × Nat)) (g g' : Gh) : Prop where
  S : g'.S = g.S
  own : ∀ c k, alook al c = some k → g'.own k = g.own c
  row : ∀ c k e, alook al c = some k → g'.row k = some e → g.row c = some e
theorem OwnAt.of_own {q q' : Nat} {e : TypeId} {n : Nat} (h : OwnAt P w g q e n v) (ho : g'.own q' = g.own q) (hS : g'.S = g.S) : OwnAt P w g' q' e n v := by
  rcases h with h | ⟨b, cap, cur, h1, h2, h3, h4, h5, h6, h7⟩
  · exact .inl h
  · exact .inr ⟨b, cap, cur, by rw [ho]; exact h1, h2, h3, h4, h5, h6, by rw [hS]; exact h7⟩
theorem BslAt.of_own {q q' : Nat} {e : TypeId} {n : Nat} (h : BslAt P w g q n e v) (ho : g'.own q' = g.own q) : BslAt P w g' q' n e v := by
  rcases h with h | ⟨b, cap, cur, h1, h2⟩
  · exact .inl h
  · exact .inr ⟨b, cap, cur, by rw [ho]; exact h1, h2⟩
theorem Rep.ren1 {al : List (Nat × Nat)} {x : LV} (h : Rep P w g x v) (r : Ren al g g') : Rep P w g' (Go.Proofs.Ytmchdjpgceiloaa.ren1 al x) v := by
  cases x with
  | lit u => rw [h.inv_lit]; exact .lit _ _
  | sl n cs t =>
    cases t with
    | no => exact h.no_of r.S
    | nil => exact h.no_of r.S
    | row q =>
      simp only [Go.Proofs.Ytmchdjpgceiloaa.ren1]
      cases hq : alook al q with
      | none => exact h.no_of r.S
      | some k => exact .row _ _ _ _ _ (h.no_of r.S) fun e he => (h.inv_row.2 e (r.row q k _ hq he)).of_own (r.own q k hq) r.S
  | ref cs => exact h.ref_of r.S
  | ptr d o =>
    obtain ⟨b, rfl, hb⟩ := h.inv_ptr
    simp only [Go.Proofs.Ytmchdjpgceiloaa.ren1]
    cases hq : alook al d with
    | none => exact .any _ _
    | some k => exact .ptr _ _ _ _ (by rw [r.own d k hq]; exact hb)
  | aptr d o =>
    obtain ⟨b, rfl, hb⟩ := h.inv_aptr
    simp only [Go.Proofs.Ytmchdjpgceiloaa.ren1]
    cases hq : alook al d with
    | none => exact .any _ _
    | some k => exact .aptr _ _ _ _ (by rw [r.own d k hq]; exact hb)
  | bsl d n e =>
    simp only [Go.Proofs.Ytmchdjpgceiloaa.ren1]
    cases hq : alook al d with
    | none => exact .any _ _
    | some k => exact .bsl _ _ _ _ _ (h.inv_bsl.of_own (r.own d k hq))
  | _ => exact .any _ _
theorem Rep.ren2 {al : List (Nat × Nat)} {x : LV} (h : Rep P w g x v) (r : Ren al g g') : Rep P w g' (Go.Proofs.Ytmchdjpgceiloaa.ren2 al x) v := by
  cases x with
  | agg cs =>
    obtain ⟨vs, rfl, hl, h⟩ := h.inv_agg
    refine .agg _ _ _ (by simpa using hl) fun i c u hc hu => ?_
    obtain ⟨c', hc', rfl⟩ := map_get hc
    exact (h i c' u hc' hu).ren1 r
  | lit u => exact h.ren1 r
  | sl n cs t => exact h.ren1 r
  | ref cs => exact h.ren1 r
  | ptr d' off => exact h.ren1 r
  | aptr d' off => exact h.ren1 r
  | bsl d' n e => exact h.ren1 r
  | _ => exact .any _ _
theorem Rep.ren {al : List (Nat × Nat)} {x : LV} (h : Rep P w g x v) (r : Ren al g g') : Rep P w g' (Go.Proofs.Ytmchdjpgceiloaa.ren al x) v := by
  cases x with
  | tup cs =>
    obtain ⟨vs, rfl, hl, h⟩ := h.inv_tup
    refine .tup _ _ _ (by simpa using hl) fun i c u hc hu => ?_
    obtain ⟨c', hc', rfl⟩ := map_get hc
    exact (h i c' u hc' hu).ren2 r
  | agg cs => exact h.ren2 r
  | lit u => exact h.ren1 r
  | sl n cs t => exact h.ren1 r
  | ref cs => exact h.ren1 r
  | ptr d' off => exact h.ren1 r
  | aptr d' off => exact h.ren1 r
  | bsl d' n e => exact h.ren1 r
  | _ => exact .any _ _
theorem bare_eq (hS : g'.S = g.S) : g'.bare = g.bare := by unfold Gh.bare; rw [hS]
theorem ArrAt.of_own {c k : Nat} {cs : List LV} (h : ArrAt P w g c cs) (ho : g'.own k = g.own c) (hS : g'.S = g.S) : ArrAt P w g' k cs := by
  rcases h with h | ⟨b, vals, T, h1, h2, h3, h4, h5⟩
  · exact .inl h
  · exact .inr ⟨b, vals, T, by rw [ho]; exact h1, h2, h3, by rw [bare_eq hS]; exact h4, by rw [hS]; exact h5⟩
theorem BoxAt.ren {al : List (Nat × Nat)} {c k : Nat} {cs : List LV} (h : BoxAt P w g c cs) (ho : g'.own k = g.own c) (r : Ren al g g') : BoxAt P w g' k (cs.map (Go.Proofs.Ytmchdjpgceiloaa.ren1 al)) := by
  obtain ⟨b, vals, T, h1, h2, h3, h4, h5⟩ := h
  refine ⟨b, vals, T, by rw [ho]; exact h1, h2, by simpa using h3, fun i c' u hc hu => ?_, by rw [r.S]; exact h5⟩
  obtain ⟨c0, hc0, rfl⟩ := map_get hc
  exact (h4 i c0 u hc0 hu).ren1 r
/-- As Mono, but of the names in F nothing is asked. -/
structure MonoF (P : Program) (F : List Nat) (w : World) (g : Gh) (w' : World) (g' : Gh) : Prop where
  cell : ∀ b i v, g.S b i → w.cell? ⟨b, i, none⟩ = some v → g'.S b i ∧ w'.cell? ⟨b, i, none⟩ = some v
  ptr : ∀ k b, memL F k = false → g.own k = some b → g'.own k = some b
  own : ∀ q e n v, memL F q = false → g'.row q = some (e, n) → (∀ e', g.row q = some (e', n) → OwnAt P w g q e' n v) → OwnAt P w' g' q e n v
  shape : ∀ k b cur e, memL F k = false → g.own k = some b → w.heap[b]? = some (.cells cur e (0, 0)) → ∃ cur', w'.heap[b]? = some (.cells cur' e (0, 0)) ∧ cur'.size = cur.size
variable {w' : World}
theorem Rep.fgF1 {F : List Nat} {x : LV} (h : Rep P w g x v) (m : MonoF P F w g w' g') : Rep P w' g' (Go.Proofs.Ytmchdjpgceiloaa.fgF1 F x) v := by
  cases x with
  | lit u => rw [h.inv_lit]; exact .lit _ _
  | sl n cs t =>
    cases t with
    | no => exact rep_no h m.cell
    | nil => obtain ⟨rfl, rfl, rfl⟩ := h.inv_nil; exact .nil _
    | row q =>
      simp only [Go.Proofs.Ytmchdjpgceiloaa.fgF1]
      split
      · exact rep_no h m.cell
      · rename_i hq
        exact .row _ _ _ _ _ (rep_no h m.cell) fun e he => m.own q e n v (by simpa using hq) he h.inv_row.2
  | ref cs =>
    obtain ⟨b, off, rfl, hc⟩ := h.inv_ref
    exact (rep_cells hc m.cell).rep_ref
  | ptr d' off =>
    obtain ⟨b, rfl, hb⟩ := h.inv_ptr
    simp only [Go.Proofs.Ytmchdjpgceiloaa.fgF1]
    split
    · exact .any _ _
    · rename_i hq
      exact .ptr _ _ _ _ (m.ptr _ _ (by simpa using hq) hb)
  | aptr d' off =>
    obtain ⟨b, rfl, hb⟩ := h.inv_aptr
    simp only [Go.Proofs.Ytmchdjpgceiloaa.fgF1]
    split
    · exact .any _ _
    · rename_i hq
      exact .aptr _ _ _ _ (m.ptr _ _ (by simpa using hq) hb)
  | bsl d' n e =>
    simp only [Go.Proofs.Ytmchdjpgceiloaa.fgF1]
    split
    · exact .any _ _
    · rename_i hq
      exact .bsl _ _ _ _ _ (h.inv_bsl.mono (fun b hb => m.ptr _ _ (by simpa using hq) hb) (fun b cur e hb hc => m.shape _ _ _ _ (by simpa using hq) hb hc))
  | _ => exact .any _ _
theorem Rep.fgF2 {F : List Nat} {x : LV} (h : Rep P w g x v) (m : MonoF P F w g w' g') : Rep P w' g' (Go.Proofs.Ytmchdjpgceiloaa.fgF2 F x) v := by
  cases x with
  | agg cs =>
    obtain ⟨vs, rfl, hl, h⟩ := h.inv_agg
    refine .agg _ _ _ (by simpa using hl) fun i c u hc hu => ?_
    obtain ⟨c', hc', rfl⟩ := map_get hc
    exact (h i c' u hc' hu).fgF1 m
  | lit u => exact h.fgF1 m
  | sl n cs t => exact h.fgF1 m
  | ref cs => exact h.fgF1 m
  | ptr d' off => exact h.fgF1 m
  | aptr d' off => exact h.fgF1 m
  | bsl d' n e => exact h.fgF1 m
  | _ => exact .any _ _
theorem Rep.fgF {F : List Nat} {x : LV} (h : Rep P w g x v) (m : MonoF P F w g w' g') : Rep P w' g' (Go.Proofs.Ytmchdjpgceiloaa.fgF F x) v := by
  cases x with
  | tup cs =>
    obtain ⟨vs, rfl, hl, h⟩ := h.inv_tup
    refine .tup _ _ _ (by simpa using hl) fun i c u hc hu => ?_
    obtain ⟨c', hc', rfl⟩ := map_get hc
    exact (h i c' u hc' hu).fgF2 m
  | agg cs => exact h.fgF2 m
  | lit u => exact h.fgF1 m
  | sl n cs t => exact h.fgF1 m
  | ref cs => exact h.fgF1 m
  | ptr d' off => exact h.fgF1 m
  | aptr d' off => exact h.fgF1 m
  | bsl d' n e => exact h.fgF1 m
  | _ => exact .any _ _
end

/-- Rows, arrays and variables, by names. -/
structure Own where
  ro : List (Nat × (TypeId × Nat))
  ar : List (Nat × List LV)
  bx : List (Nat × List LV)
structure Holds (P : Program) (w : World) (g : Gh) (O : Own) : Prop where
  row : g.row = alook O.ro
  arr : ∀ d cs, alook O.ar d = some cs → ArrAt P w g d cs
  box : ∀ d cs, alook O.bx d = some cs → BoxAt P w g d cs
  dia : ∀ d cs, alook O.ar d = some cs → alook O.ro d = none ∧ alook O.bx d = none
  dis : ∀ d cs, alook O.bx d = some cs → alook O.ro d = none
def HOf (own : Nat → Option Nat) (b : Nat) : Prop := ∃ d, own d = some b
/-- What is so behind a call. -/
structure Back (P : Program) (w : World) (S : Nat → Nat → Prop) (own : Nat → Option Nat) (w' : World) (S' : Nat → Nat → Prop) (own' : Nat → Option Nat) (r : LV) (R : Own) (v : Value) : Prop where
  rep : Rep P w' ⟨S', own', alook R.ro⟩ r v
  holds : Holds P w' ⟨S', own', alook R.ro⟩ R
  below : BelowH w.heap.size (HOf own) w w'
  s : ∀ b i, b < w.heap.size → ¬ HOf own b → (S' b i ↔ S b i)
  wf : ∀ b i, S' b i → b < w'.heap.size
  own : ∀ d b, own' d = some b → (w.heap.size ≤ b ∨ HOf own b) ∧ b < w'.heap.size
  inj : ∀ d d' b, own' d = some b → own' d' = some b → d = d'
  keep : ∀ b i v, S b i → w.cell? ⟨b, i, none⟩ = some v → S' b i ∧ w'.cell? ⟨b, i, none⟩ = some v
/-- A call of f that takes I over and gives R back. -/
structure OCalls (P : Program) (f : FuncId) (args : List LV) (I : Own) (r : LV) (R : Own) : Prop where
  enters : ∀ (vs : Array Value) (w : World), (callFunc f vs).run P w = .ok (.enter f vs) w
  calls : ∀ (w : World) (S : Nat → Nat → Prop) (own : Nat → Option Nat) (vs : Array Value), (∀ w', BelowH w.heap.size (HOf own) w w' → Glob P w') → (∀ b i, S b i → b < w.heap.size) → (∀ d b, own d = some b → b < w.heap.size) → (∀ d d' b, own d = some b → own d' = some b → d = d') →
    Holds P w ⟨S, own, alook I.ro⟩ I → vs.size = args.length → (∀ (i : Nat) (c : LV) (u : Value), args[i]? = some c → vs[i]? = some u → Rep P w ⟨S, own, alook I.ro⟩ c u) →
    Calls P f vs w fun e w' => ∃ v S' own', e = .returned v ∧ Back P w S own w' S' own' r R v

/-! ### A function that gives back -/
section
variable {P : Program} {N : Nat} {w0 : World} {S0 : Ent} {Q : Exit → LSt → Prop} {st : LSt}
def bodyO (P : Program) (rs : List ResultVar) (r : LV) (R : Own) : Exit → LSt → Prop
  | .normal, st | .ret, st => ∃ al, okAl al = true ∧ (retL P rs st).map (ren al) = some r ∧ allO (fun k e => (bkL al k).bind st.row = some e) R.ro ∧ allO (fun k cs => (bkL al k).bind st.arr = some cs) R.ar ∧ allO (fun k cs => ((bkL al k).bind st.box).map (fun l => l.map (ren1 al)) = some cs) R.bx
  | _, _ => False
def entryO (md : Nat → Bool) (val : Nat → Option Value) (args : List LV) (I : Own) : LSt := ⟨fun k => (args[k]?).getD .any, alook I.bx, alook I.ro, alook I.ar, md, val⟩
theorem OCalls.of (md : Nat → Bool) {f : FuncId} {fn : Func} {c : Code} {args : List LV} {I : Own} {r : LV} {R : Own} {rs : List ResultVar} (hf : P.funcs[f]? = some fn) (hb : fn.body = some c) (hname : (fn.name == "runtime.NumGoroutine") = false) (hn : fn.ntmps = N) (hrs : fn.results = rs.toArray) (hle : args.length ≤ N)
    (h : ∀ w0 (S0 : Ent) (vs : Array Value), LW P N w0 S0 c (bodyO P rs r R) (entryO md (fun k => vs[k]?) args I)) : OCalls P f args I r R := by
  refine ⟨fun vs w => ?_, fun w S own vs hglob hwf hown hinj hI hl hr => ?_⟩
  · have h1 : fn.name ≠ "runtime.NumGoroutine" := by simpa using hname
    simp [callFunc, hf, h1, hb, mark]
  · refine calls_of_wp hf hb (wp_mono (h w ⟨S, HOf own⟩ vs _ w ?_) ?_)
    · refine ⟨⟨S, own, alook I.ro⟩, rfl, by simp [hn, hl]; omega, fun k => ?_, .refl _ _ _, fun _ _ _ _ => Iff.rfl, hwf, fun d b hd => ⟨.inr ⟨d, hd⟩, hown d b hd⟩, hinj, hI.box, rfl, hI.dis, hI.arr, hI.dia, ⟨hglob, hwf, fun k v hk => ?_⟩, fun _ _ _ hs hc => ⟨hs, hc⟩⟩
      rotate_left
      · have hk2 : vs[k]? = some v := hk
        have hk' := (Array.getElem?_eq_some_iff.1 hk2).1
        simp only [Array.getD_eq_getD_getElem?, Array.getElem?_append_left hk', hk2, Option.getD_some]
      by_cases hk : k < args.length
      · have hk' : k < vs.size := by omega
        have e1 : (vs ++ Array.replicate (fn.ntmps - vs.size) undef).getD k undef = vs[k] := by
          simp only [Array.getD_eq_getD_getElem?, Array.getElem?_append_left hk', Array.getElem?_eq_getElem hk', Option.getD_some]
        show Rep P w _ ((args[k]?).getD .any) _
        rw [e1, List.getElem?_eq_getElem hk]
        exact hr k args[k] vs[k] (List.getElem?_eq_getElem hk) (Array.getElem?_eq_getElem hk')
      · show Rep P w _ ((args[k]?).getD .any) _
        rw [List.getElem?_eq_none (by omega)]
        exact .any _ _
    · rintro e a' w' ⟨st', ⟨g, hg⟩, hq⟩
      have fin : (∃ al, okAl al = true ∧ (retL P rs st').map (ren al) = some r ∧ allO (fun k e => (bkL al k).bind st'.row = some e) R.ro ∧ allO (fun k cs => (bkL al k).bind st'.arr = some cs) R.ar ∧ allO (fun k cs => ((bkL al k).bind st'.box).map (fun l => l.map (ren1 al)) = some cs) R.bx) →
          a'.defers = [] ∧ ∃ v, (results fn a'.tmps).run P w' = .ok v w' ∧ ∃ v' S' own', Ending.returned v = .returned v' ∧ Back P w S own w' S' own' r R v' := by
        rintro ⟨al, hok, hx, h1, h2, h3⟩
        obtain ⟨x, hx1, rfl⟩ := Option.map_eq_some_iff.1 hx
        obtain ⟨v, hv, hrep⟩ := retL_run hg hrs hx1
        let own' : Nat → Option Nat := fun k => (bkL al k).bind g.own
        have hrow : ∀ k e, alook R.ro k = some e → (bkL al k).bind st'.row = some e := fun k e hk => allO_get h1 hk
        have harr : ∀ k cs, alook R.ar k = some cs → (bkL al k).bind st'.arr = some cs := fun k cs hk => allO_get h2 hk
        have hbox : ∀ k cs, alook R.bx k = some cs → ((bkL al k).bind st'.box).map (fun l => l.map (Go.Proofs.Ytmchdjpgceiloaa.ren1 al)) = some cs := fun k cs hk => allO_get h3 hk
        have hren : Ren al g ⟨g.S, own', alook R.ro⟩ := by
          refine ⟨rfl, fun c k hc => ?_, fun c k e hc he => ?_⟩
          · show (bkL al k).bind g.own = _
            rw [okAl_bk hok hc]; rfl
          · have := hrow k e he
            rw [okAl_bk hok hc] at this
            rw [hg.row]; exact this
        have ofb : ∀ k c, bkL al k = some c → (⟨g.S, own', alook R.ro⟩ : Gh).own k = g.own c := fun k c hk => by
          show (bkL al k).bind g.own = _
          rw [hk]; rfl
        refine ⟨hg.defers, v, hv, v, g.S, own', rfl, hrep.ren hren, ⟨rfl, fun k cs hk => ?_, fun k cs hk => ?_, fun k cs hk => ⟨?_, ?_⟩, fun k cs hk => ?_⟩, hg.below, fun b i hb hn => hg.s0 b i hb hn, hg.wf, fun k b hk => ?_, fun k k' b hk hk' => ?_, hg.keep⟩
        · have := harr k cs hk
          cases hc : bkL al k with
          | none => rw [hc] at this; cases this
          | some c => rw [hc] at this; exact (hg.arr c cs this).of_own (ofb k c hc) rfl
        · have := hbox k cs hk
          cases hc : bkL al k with
          | none => rw [hc] at this; cases this
          | some c =>
            rw [hc] at this
            obtain ⟨cs0, e1, rfl⟩ := Option.map_eq_some_iff.1 this
            exact (hg.box c cs0 e1).ren (ofb k c hc) hren
        · cases he : alook R.ro k with
          | none => rfl
          | some e =>
            have h4 := harr k cs hk
            have h5 := hrow k e he
            cases hc : bkL al k with
            | none => rw [hc] at h4; cases h4
            | some c =>
              rw [hc] at h4 h5
              have := (hg.dia c cs h4).1
              rw [show st'.row c = some e from h5] at this; cases this
        · cases he : alook R.bx k with
          | none => rfl
          | some cs1 =>
            have h4 := harr k cs hk
            have h5 := hbox k cs1 he
            cases hc : bkL al k with
            | none => rw [hc] at h4; cases h4
            | some c =>
              rw [hc] at h4 h5
              obtain ⟨cs0, e1, _⟩ := Option.map_eq_some_iff.1 h5
              have := (hg.dia c cs h4).2
              rw [show st'.box c = some cs0 from e1] at this; cases this
        · cases he : alook R.ro k with
          | none => rfl
          | some e =>
            have h4 := hbox k cs hk
            have h5 := hrow k e he
            cases hc : bkL al k with
            | none => rw [hc] at h4; cases h4
            | some c =>
              rw [hc] at h4 h5
              obtain ⟨cs0, e1, _⟩ := Option.map_eq_some_iff.1 h4
              have := hg.dis c cs0 e1
              rw [show st'.row c = some e from h5] at this; cases this
        · have hk2 : (bkL al k).bind g.own = some b := hk
          cases hc : bkL al k with
          | none => rw [hc] at hk2; cases hk2
          | some c => rw [hc] at hk2; exact hg.own c b hk2
        · have hk2 : (bkL al k).bind g.own = some b := hk
          have hk3 : (bkL al k').bind g.own = some b := hk'
          cases hc : bkL al k with
          | none => rw [hc] at hk2; cases hk2
          | some c =>
            cases hc' : bkL al k' with
            | none => rw [hc'] at hk3; cases hk3
            | some c' =>
              rw [hc] at hk2
              rw [hc'] at hk3
              have := hg.inj c c' b hk2 hk3
              subst this
              exact okAl_inj hok hc hc'
      cases e with
      | normal => exact fin hq
      | ret => exact fin hq
      | exit _ => exact hq.elim
      | goto _ => exact hq.elim
      | panic _ => exact hq.elim
      | outgrown => exact hq.elim

/-! ### The caller's side -/
/-- The state behind such a call: ha, what is taken over (the caller's name, the callee's); ba, what comes back (the callee's name, the caller's). -/
def LSt.ocall (st : LSt) (F : List Nat) (ba : List (Nat × Nat)) (R : Own) : LSt :=
  ⟨fun k => fgF F (st.env k),
   fun k => match bkL ba k with | some c => (alook R.bx c).map (fun l => l.map (ren1 ba)) | none => if memL F k = true then none else (st.box k).map fun l => l.map (fgF1 F),
   fun k => match bkL ba k with | some c => alook R.ro c | none => if memL F k = true then none else st.row k,
   fun k => match bkL ba k with | some c => alook R.ar c | none => if memL F k = true then none else st.arr k, st.mode, st.val⟩
theorem ocall_mid {Kont : LSt → Prop} {f : FuncId} {args : Array Operand} {args' : List LV} {I R : Own} {r : LV} {d : Tmp} {type : TypeId} {pos : String} {after : Array Edge} {guard : Option (Nat × Bool)} {ts : Array TypeId} (ha ba : List (Nat × Nat)) (F : List Nat) (hF : F = ha.map (·.1) ++ ba.map (·.2))
    (hc : OCalls P f args' I r R) (hargs : (args.toList.map (evL st.env)).map (ren ha) = args') (hoa : okAl ha = true) (hob : okAl ba = true) (hd : d < N)
    (h1 : allO (fun c e => (bkL ha c).bind st.row = some e) I.ro) (h2 : allO (fun c cs => (bkL ha c).bind st.arr = some cs) I.ar) (h3 : allO (fun c cs => ((bkL ha c).bind st.box).map (fun l => l.map (ren1 ha)) = some cs) I.bx)
    (hQ : Kont ((st.ocall F ba R).put (some d) (ren ba r))) : LastL P N w0 S0 ⟨some d, .call ⟨.value (.func f), args, ts⟩, type, pos, after, guard⟩ Kont st := by
  rintro a w K Q' ⟨g, hg⟩ hK
  subst hF
  have hrun : (execOp a.eval ⟨some d, .call ⟨.value (.func f), args, ts⟩, type, pos, after, guard⟩).run P w = .ok (.enter f (args.map a.eval)) w := by
    have := hc.enters (args.map a.eval) w
    simpa [execOp, resolve, Deferred.ofValue, Act.eval, invoke] using this
  unfold Oper.wp
  rw [hrun]
  let ownC : Nat → Option Nat := fun c => (bkL ha c).bind g.own
  have hH : ∀ b, HOf ownC b → ∃ q c, bkL ha c = some q ∧ g.own q = some b := by
    rintro b ⟨c, hb⟩
    have hb2 : (bkL ha c).bind g.own = some b := hb
    cases hq : bkL ha c with
    | none => rw [hq] at hb2; cases hb2
    | some q => rw [hq] at hb2; exact ⟨q, c, hq, hb2⟩
  have hHlo : ∀ b, HOf ownC b → w0.heap.size ≤ b ∨ S0.H b := fun b hb => by
    obtain ⟨q, c, _, ho⟩ := hH b hb
    exact (hg.own q b ho).1
  have hup : ∀ {w'}, BelowH w.heap.size (HOf ownC) w w' → BelowH w0.heap.size S0.H w w' := fun {w'} hb =>
    ⟨hb.os, hb.tape, hb.output, hb.size, fun k hk hn => hb.block k (by have := hg.below.size; omega) fun hx => (hHlo k hx).elim (fun h => by omega) hn⟩
  have inF : ∀ c q, bkL ha c = some q → memL (ha.map (·.1) ++ ba.map (·.2)) q = true := fun c q hq => by
    rw [memL_iff]; exact List.mem_append_left _ (List.mem_map.2 ⟨_, bkL_mem hq, rfl⟩)
  have inB : ∀ k c, bkL ba k = some c → memL (ha.map (·.1) ++ ba.map (·.2)) k = true := fun k c hq => by
    rw [memL_iff]; exact List.mem_append_right _ (List.mem_map.2 ⟨_, bkL_mem hq, rfl⟩)
  generalize hFe : ha.map (·.1) ++ ba.map (·.2) = F at inF inB hQ
  have hren : Ren ha g ⟨g.S, ownC, alook I.ro⟩ := by
    refine ⟨rfl, fun c k hc => ?_, fun c k e hc he => ?_⟩
    · show (bkL ha k).bind g.own = _
      rw [okAl_bk hoa hc]; rfl
    · have := allO_get h1 he
      rw [okAl_bk hoa hc] at this
      rw [hg.row]; exact this
  have ofb : ∀ k c, bkL ha k = some c → (⟨g.S, ownC, alook I.ro⟩ : Gh).own k = g.own c := fun k c hk => by
    show (bkL ha k).bind g.own = _
    rw [hk]; rfl
  have hI : Holds P w ⟨g.S, ownC, alook I.ro⟩ I := by
    refine ⟨rfl, fun k cs hk => ?_, fun k cs hk => ?_, fun k cs hk => ⟨?_, ?_⟩, fun k cs hk => ?_⟩
    · have := allO_get h2 hk
      cases hc : bkL ha k with
      | none => rw [hc] at this; cases this
      | some c => rw [hc] at this; exact (hg.arr c cs this).of_own (ofb k c hc) rfl
    · have := allO_get h3 hk
      cases hc : bkL ha k with
      | none => rw [hc] at this; cases this
      | some c =>
        rw [hc] at this
        obtain ⟨cs0, e1, rfl⟩ := Option.map_eq_some_iff.1 this
        exact (hg.box c cs0 e1).ren (ofb k c hc) hren
    · cases he : alook I.ro k with
      | none => rfl
      | some e =>
        have h4 := allO_get h2 hk
        have h5 := allO_get h1 he
        cases hc : bkL ha k with
        | none => rw [hc] at h4; cases h4
        | some c =>
          rw [hc] at h4 h5
          have := (hg.dia c cs h4).1
          rw [show st.row c = some e from h5] at this; cases this
    · cases he : alook I.bx k with
      | none => rfl
      | some cs1 =>
        have h4 := allO_get h2 hk
        have h5 := allO_get h3 he
        cases hc : bkL ha k with
        | none => rw [hc] at h4; cases h4
        | some c =>
          rw [hc] at h4 h5
          obtain ⟨cs0, e1, _⟩ := Option.map_eq_some_iff.1 h5
          have := (hg.dia c cs h4).2
          rw [show st.box c = some cs0 from e1] at this; cases this
    · cases he : alook I.ro k with
      | none => rfl
      | some e =>
        have h4 := allO_get h3 hk
        have h5 := allO_get h1 he
        cases hc : bkL ha k with
        | none => rw [hc] at h4; cases h4
        | some c =>
          rw [hc] at h4 h5
          obtain ⟨cs0, e1, _⟩ := Option.map_eq_some_iff.1 h4
          have := hg.dis c cs0 e1
          rw [show st.row c = some e from h5] at this; cases this
  have hcall := hc.calls w g.S ownC (args.map a.eval) (fun w' hb => hg.ex.glob _ (hg.below.trans (hup hb))) hg.wf (fun c b hb => by
    obtain ⟨q, c', _, ho⟩ := hH b ⟨c, hb⟩
    exact (hg.own q b ho).2) (fun c c' b hb hb' => by
    have k1 : (bkL ha c).bind g.own = some b := hb
    have k2 : (bkL ha c').bind g.own = some b := hb'
    cases hq : bkL ha c with
    | none => rw [hq] at k1; cases k1
    | some q =>
      cases hq' : bkL ha c' with
      | none => rw [hq'] at k2; cases k2
      | some q' =>
        rw [hq] at k1
        rw [hq'] at k2
        have := hg.inj q q' b k1 k2
        subst this
        exact okAl_inj hoa hq hq') hI (by rw [← hargs]; simp) (fun i c u hc hu => by
    rw [← hargs] at hc
    obtain ⟨c', hc', rfl⟩ := map_get hc
    rw [List.getElem?_map, Option.map_eq_some_iff] at hc'
    obtain ⟨y, hy, rfl⟩ := hc'
    have : u = a.eval y := by
      rw [Array.getElem?_map, Array.getElem?_toList] at *
      rw [hy] at hu
      exact (Option.some.inj hu).symm
    rw [this]
    exact (hg.ev y).ren hren)
  refine Calls.mono hcall ?_
  rintro e w' ⟨v, S', own', rfl, hb⟩
  have hnH : ∀ k b, memL F k = false → g.own k = some b → ¬ HOf ownC b := by
    intro k b hk ho hx
    obtain ⟨q, c, hq, hoq⟩ := hH b hx
    have := hg.inj k q b ho hoq
    subst this
    rw [inF c k hq] at hk; cases hk
  have hheap : ∀ k b, memL F k = false → g.own k = some b → w'.heap[b]? = w.heap[b]? := fun k b hk ho => hb.below.block b (hg.own k b ho).2 (hnH k b hk ho)
  have hS' : ∀ k b i, memL F k = false → g.own k = some b → (S' b i ↔ g.S b i) := fun k b i hk ho => hb.s b i (hg.own k b ho).2 (hnH k b hk ho)
  let g2 : Gh := ⟨S', fun k => match bkL ba k with | some c => own' c | none => if memL F k = true then none else g.own k, fun k => match bkL ba k with | some c => alook R.ro c | none => if memL F k = true then none else g.row k⟩
  have nb : ∀ k, memL F k = false → bkL ba k = none := fun k hk => by
    cases hc : bkL ba k with
    | none => rfl
    | some c => rw [inB k c hc] at hk; cases hk
  have o2 : ∀ k, memL F k = false → g2.own k = g.own k := fun k hk => by
    show (match bkL ba k with | some c => own' c | none => if memL F k = true then none else g.own k) = _
    rw [nb k hk, hk]; rfl
  have r2 : ∀ k, memL F k = false → g2.row k = g.row k := fun k hk => by
    show (match bkL ba k with | some c => alook R.ro c | none => if memL F k = true then none else g.row k) = _
    rw [nb k hk, hk]; rfl
  have ob : ∀ k c, bkL ba k = some c → g2.own k = own' c := fun k c hk => by
    show (match bkL ba k with | some c => own' c | none => if memL F k = true then none else g.own k) = _
    rw [hk]
  have rb : ∀ k c, bkL ba k = some c → g2.row k = alook R.ro c := fun k c hk => by
    show (match bkL ba k with | some c => alook R.ro c | none => if memL F k = true then none else g.row k) = _
    rw [hk]
  have on : ∀ k, bkL ba k = none → memL F k = true → g2.own k = none := fun k hk hm => by
    show (match bkL ba k with | some c => own' c | none => if memL F k = true then none else g.own k) = _
    rw [hk, hm]; rfl
  have m : MonoF P F w g w' g2 := by
    refine ⟨hb.keep, fun k b hk ho => by rw [o2 k hk]; exact ho, fun q e n u hq he ho => ?_, fun k b cur e hk ho hh => ⟨cur, by rw [hheap k b hk ho]; exact hh, rfl⟩⟩
    rw [r2 q hq] at he
    rcases ho e he with h0 | ⟨b, cap, cur, k1, k2, k3, k4, k5, k6, k7⟩
    · exact .inl h0
    · exact .inr ⟨b, cap, cur, by rw [o2 q hq]; exact k1, k2, by rw [hheap q b hq k1]; exact k3, k4, k5, k6, fun i hi hs => k7 i hi ((hS' q b i hq k1).1 hs)⟩
  have hren2 : Ren ba ⟨S', own', alook R.ro⟩ g2 := ⟨rfl, fun c k hc => ob k c (okAl_bk hob hc), fun c k e hc he => by rw [rb k c (okAl_bk hob hc)] at he; exact he⟩
  have hR : RelG P N w0 S0 g2 (st.ocall F ba R) a w' := by
    refine ⟨hg.defers, hg.size, fun k => (hg.env k).fgF m, hg.below.trans (hup hb.below), fun b i hlt hn => ?_, hb.wf, fun k b hk => ?_, fun k k' b hk hk' => ?_, fun k cs hk => ?_, ?_, fun k cs hk => ?_, fun k cs hk => ?_, fun k cs hk => ?_, hg.ex, fun b i u hs hc => ?_⟩
    · refine (hb.s b i (by have := hg.below.size; omega) fun hx => (hHlo b hx).elim (fun h => by omega) hn).trans (hg.s0 b i hlt hn)
    · cases hc : bkL ba k with
      | some c =>
        rw [ob k c hc] at hk
        have := hb.own c b hk
        refine ⟨?_, this.2⟩
        rcases this.1 with h | h
        · exact .inl (by have := hg.below.size; omega)
        · exact hHlo b h
      | none =>
        cases hm : memL F k with
        | true => rw [on k hc hm] at hk; cases hk
        | false =>
          rw [o2 k hm] at hk
          have := hg.own k b hk
          exact ⟨this.1, by have := hb.below.size; omega⟩
    · have cross : ∀ k k' c, bkL ba k = some c → g2.own k = some b → bkL ba k' = none → g2.own k' = some b → False := by
        intro k k' c hc hk hc' hk'
        cases hm : memL F k' with
        | true => rw [on k' hc' hm] at hk'; cases hk'
        | false =>
          rw [o2 k' hm] at hk'
          rw [ob k c hc] at hk
          rcases (hb.own c b hk).1 with h | h
          · have := (hg.own k' b hk').2; omega
          · exact hnH k' b hm hk' h
      cases hc : bkL ba k with
      | some c =>
        cases hc' : bkL ba k' with
        | some c' =>
          rw [ob k c hc] at hk
          rw [ob k' c' hc'] at hk'
          have := hb.inj c c' b hk hk'
          subst this
          exact okAl_inj hob hc hc'
        | none => exact (cross k k' c hc hk hc' hk').elim
      | none =>
        cases hc' : bkL ba k' with
        | some c' => exact (cross k' k c' hc' hk' hc hk).elim
        | none =>
          cases hm : memL F k with
          | true => rw [on k hc hm] at hk; cases hk
          | false =>
            cases hm' : memL F k' with
            | true => rw [on k' hc' hm'] at hk'; cases hk'
            | false =>
              rw [o2 k hm] at hk
              rw [o2 k' hm'] at hk'
              exact hg.inj k k' b hk hk'
    · have hk2 : (match bkL ba k with | some c => (alook R.bx c).map (fun l => l.map (Go.Proofs.Ytmchdjpgceiloaa.ren1 ba)) | none => if memL F k = true then none else (st.box k).map fun l => l.map (Go.Proofs.Ytmchdjpgceiloaa.fgF1 F)) = some cs := hk
      cases hc : bkL ba k with
      | some c =>
        rw [hc] at hk2
        obtain ⟨cs0, e1, rfl⟩ := Option.map_eq_some_iff.1 hk2
        exact (hb.holds.box c cs0 e1).ren (ob k c hc) hren2
      | none =>
        rw [hc] at hk2
        cases hm : memL F k with
        | true => rw [hm] at hk2; cases hk2
        | false =>
          rw [hm] at hk2
          obtain ⟨cs0, e1, rfl⟩ := Option.map_eq_some_iff.1 (show (st.box k).map (fun l => l.map (Go.Proofs.Ytmchdjpgceiloaa.fgF1 F)) = some cs from hk2)
          obtain ⟨b, vals, T, k1, k2, k3, k4, k5⟩ := hg.box k cs0 e1
          refine ⟨b, vals, T, by rw [o2 k hm]; exact k1, by rw [hheap k b hm k1]; exact k2, by simpa using k3, fun i c u hc hu => ?_, fun i hs => k5 i ((hS' k b i hm k1).1 hs)⟩
          obtain ⟨c', hc', rfl⟩ := map_get hc
          exact (k4 i c' u hc' hu).fgF1 m
    · funext k
      show g2.row k = (match bkL ba k with | some c => alook R.ro c | none => if memL F k = true then none else st.row k)
      rw [← hg.row]
    · have hk2 : (match bkL ba k with | some c => (alook R.bx c).map (fun l => l.map (Go.Proofs.Ytmchdjpgceiloaa.ren1 ba)) | none => if memL F k = true then none else (st.box k).map fun l => l.map (Go.Proofs.Ytmchdjpgceiloaa.fgF1 F)) = some cs := hk
      show (match bkL ba k with | some c => alook R.ro c | none => if memL F k = true then none else st.row k) = none
      cases hc : bkL ba k with
      | some c =>
        rw [hc] at hk2
        obtain ⟨cs0, e1, _⟩ := Option.map_eq_some_iff.1 hk2
        exact hb.holds.dis c cs0 e1
      | none =>
        rw [hc] at hk2
        cases hm : memL F k with
        | true => rfl
        | false =>
          rw [hm] at hk2
          obtain ⟨cs0, e1, _⟩ := Option.map_eq_some_iff.1 (show (st.box k).map (fun l => l.map (Go.Proofs.Ytmchdjpgceiloaa.fgF1 F)) = some cs from hk2)
          exact hg.dis k cs0 e1
    · have hk2 : (match bkL ba k with | some c => alook R.ar c | none => if memL F k = true then none else st.arr k) = some cs := hk
      cases hc : bkL ba k with
      | some c =>
        rw [hc] at hk2
        exact (hb.holds.arr c cs hk2).of_own (ob k c hc) rfl
      | none =>
        rw [hc] at hk2
        cases hm : memL F k with
        | true => rw [hm] at hk2; cases hk2
        | false =>
          rw [hm] at hk2
          rcases hg.arr k cs hk2 with h0 | ⟨b, vals, T, k1, k2, k3, k4, k5⟩
          · exact .inl h0
          · exact .inr ⟨b, vals, T, by rw [o2 k hm]; exact k1, by rw [hheap k b hm k1]; exact k2, k3, fun i c u hc hu => (k4 i c u hc hu).mono (.bare m.cell), fun i hs => k5 i ((hS' k b i hm k1).1 hs)⟩
    · have hk2 : (match bkL ba k with | some c => alook R.ar c | none => if memL F k = true then none else st.arr k) = some cs := hk
      show (match bkL ba k with | some c => alook R.ro c | none => if memL F k = true then none else st.row k) = none ∧ (match bkL ba k with | some c => (alook R.bx c).map (fun l => l.map (Go.Proofs.Ytmchdjpgceiloaa.ren1 ba)) | none => if memL F k = true then none else (st.box k).map fun l => l.map (Go.Proofs.Ytmchdjpgceiloaa.fgF1 F)) = none
      cases hc : bkL ba k with
      | some c =>
        rw [hc] at hk2
        have := hb.holds.dia c cs hk2
        exact ⟨this.1, by simp [this.2]⟩
      | none =>
        rw [hc] at hk2
        cases hm : memL F k with
        | true => exact ⟨rfl, rfl⟩
        | false =>
          rw [hm] at hk2
          have := hg.dia k cs hk2
          exact ⟨this.1, by simp [this.2]⟩
    · have := hg.keep b i u hs hc
      exact hb.keep b i u this.1 this.2
  exact hK _ _ _ ⟨g2, hR.put (fun d' hd' => by cases hd'; exact hd) (hb.rep.ren hren2)⟩ hQ
end
end Go.Proofs.Ytmchdjpgceiloaa
