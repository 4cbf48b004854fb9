/-
  A STATE OF THE WALK, by what its slots stand for; a callee by what it returns; regions that only read and call, in whatever order.
-/
import Derived.Test.YtmchdjpgceiloaaL4b
import Derived.Lib.AppendIntMem
set_option linter.unusedSimpArgs false
set_option linter.unusedVariables false
namespace Go.Proofs.Ytmchdjpgceiloaa
open Go.RowKit

def bareGh (S : Nat → Nat → Prop) : Gh := ⟨S, fun _ => none, fun _ => none⟩

/-- The tables of the library's that the program has are what they are laid as. -/
def Glob (P : Program) (w : World) : Prop := (P.globalNamed "internal/strconv.uint64pow10").isSome = true → Lib.TabIs P w "internal/strconv.uint64pow10" .u64 Lib.pow10Tab
theorem Glob.on {P : Program} {w w' : World} (h : Glob P w) (hb : Below w.heap.size w w') : Glob P w' := fun hs => Lib.tabBelow_of_tabIs (h hs) w' hb
/-- What stays at the entry; which blocks are handed over. -/
structure Ent where
  S : Nat → Nat → Prop
  H : Nat → Prop
/-- Blocks below B that are not handed over are unchanged. -/
structure BelowH (B : Nat) (H : Nat → Prop) (w w' : World) : Prop where
  os : w'.os = w.os
  tape : w'.tape = w.tape
  output : w'.output = w.output
  size : w.heap.size ≤ w'.heap.size
  block : ∀ k, k < B → ¬ H k → w'.heap[k]? = w.heap[k]?
theorem BelowH.refl (B : Nat) (H : Nat → Prop) (w : World) : BelowH B H w w := ⟨rfl, rfl, rfl, Nat.le_refl _, fun _ _ _ => rfl⟩
theorem BelowH.trans {B : Nat} {H : Nat → Prop} {w w' w'' : World} (h : BelowH B H w w') (k : BelowH B H w' w'') : BelowH B H w w'' :=
  ⟨k.os.trans h.os, k.tape.trans h.tape, k.output.trans h.output, Nat.le_trans h.size k.size, fun b hb hn => (k.block b hb hn).trans (h.block b hb hn)⟩
theorem BelowH.of {B : Nat} {H : Nat → Prop} {w w' : World} (h : Below B w w') : BelowH B H w w' := ⟨h.os, h.tape, h.output, h.size, fun b hb _ => h.block b hb⟩
theorem BelowH.below {B : Nat} {H : Nat → Prop} {w w' : World} (h : BelowH B H w w') (hH : ∀ b, ¬ H b) : Below B w w' := ⟨h.os, h.tape, h.output, h.size, fun b hb => h.block b hb (hH b)⟩
/-- What is known beside: the tables, the cells that stayed at the entry, the values that the slots hold. -/
structure Ext (P : Program) (w0 : World) (S0 : Ent) (val : Nat → Option Value) (a : Act) : Prop where
  glob : ∀ w, BelowH w0.heap.size S0.H w0 w → Glob P w
  wf0 : ∀ b i, S0.S b i → b < w0.heap.size
  vals : ∀ k v, val k = some v → a.tmps.getD k undef = v
/-- A call of f with arguments that stand for these returns what stands for r; nothing that was there has turned. -/
structure LCalls (P : Program) (f : FuncId) (args : List LV) (r : LV) : Prop where
  enters : ∀ (vs : Array Value) (w : World), (callFunc f vs).run P w = .ok (.enter f vs) w
  calls : ∀ (w : World) (S : Nat → Nat → Prop) (vs : Array Value), Glob P w → (∀ b i, S b i → b < w.heap.size) → vs.size = args.length → (∀ (i : Nat) (c : LV) (u : Value), args[i]? = some c → vs[i]? = some u → Rep P w (bareGh S) c u) →
    Calls P f vs w fun e w' => ∃ v S', e = .returned v ∧ Rep P w' (bareGh S') r v ∧ G w w' ∧ (∀ b i, b < w.heap.size → (S' b i ↔ S b i)) ∧ ∀ b i, S' b i → b < w'.heap.size

structure RelG (P : Program) (N : Nat) (w0 : World) (S0 : Ent) (g : Gh) (st : LSt) (a : Act) (w : World) : Prop where
  defers : a.defers = []
  size : a.tmps.size = N
  env : ∀ k, Rep P w g (st.env k) (a.tmps.getD k undef)
  below : BelowH w0.heap.size S0.H w0 w
  s0 : ∀ b i, b < w0.heap.size → ¬ S0.H b → (g.S b i ↔ S0.S b i)
  wf : ∀ b i, g.S b i → b < w.heap.size
  own : ∀ d b, g.own d = some b → (w0.heap.size ≤ b ∨ S0.H b) ∧ b < w.heap.size
  inj : ∀ d d' b, g.own d = some b → g.own d' = some b → d = d'
  box : ∀ d cs, st.box d = some cs → BoxAt P w g d cs
  row : g.row = st.row
  dis : ∀ d cs, st.box d = some cs → st.row d = none
  arr : ∀ d cs, st.arr d = some cs → ArrAt P w g d cs
  dia : ∀ d cs, st.arr d = some cs → st.row d = none ∧ st.box d = none
  ex : Ext P w0 S0 st.val a
  keep : ∀ b i v, S0.S b i → w0.cell? ⟨b, i, none⟩ = some v → g.S b i ∧ w.cell? ⟨b, i, none⟩ = some v
def Rel (P : Program) (N : Nat) (w0 : World) (S0 : Ent) (st : LSt) (a : Act) (w : World) : Prop := ∃ g, RelG P N w0 S0 g st a w

section
variable {P : Program} {N : Nat} {w0 : World} {S0 : Ent}
theorem G.heap {w w' : World} (h : G w w') {b : Nat} (hb : b < w.heap.size) : w'.heap[b]? = w.heap[b]? := Below.block h b hb
theorem G.cellAt {w w' : World} (h : G w w') {b i : Nat} (hb : b < w.heap.size) : w'.cell? ⟨b, i, none⟩ = w.cell? ⟨b, i, none⟩ := Below.cell (p := ⟨b, i, none⟩) h hb
theorem mono_grow {g : Gh} {w w' : World} {S' : Nat → Nat → Prop} (hwf : ∀ b i, g.S b i → b < w.heap.size) (hown : ∀ d b, g.own d = some b → b < w.heap.size) (hg : G w w') (hS : ∀ b i, b < w.heap.size → (S' b i ↔ g.S b i)) :
    Mono P w g w' ⟨S', g.own, g.row⟩ := by
  refine ⟨fun b i v hs hc => ⟨(hS b i (hwf b i hs)).2 hs, by rw [hg.cellAt (hwf b i hs)]; exact hc⟩, fun d b h => h, fun q e n v hq h => ?_, fun d b cur e hb hc => ⟨cur, by rw [hg.heap (hown d b hb)]; exact hc, rfl⟩⟩
  rcases h e hq with h | ⟨b, cap, cur, h1, h2, h3, h4, h5, h6, h7⟩
  · exact .inl h
  · have hb := hown q b h1
    exact .inr ⟨b, cap, cur, h1, h2, by rw [hg.heap hb]; exact h3, h4, h5, h6, fun i hi hs => h7 i hi ((hS b i hb).1 hs)⟩
theorem BoxAt.mono {g g' : Gh} {w w' : World} {d : Nat} {cs : List LV} (h : BoxAt P w g d cs) (m : Mono P w g w' g') (hh : ∀ b, g.own d = some b → w'.heap[b]? = w.heap[b]?) (hS : ∀ b i, g.own d = some b → ¬ g.S b i → ¬ g'.S b i) : BoxAt P w' g' d cs := by
  obtain ⟨b, vals, T, h1, h2, h3, h4, h5⟩ := h
  exact ⟨b, vals, T, m.ptr _ _ h1, by rw [hh b h1]; exact h2, h3, fun i c u hc hu => (h4 i c u hc hu).mono m, fun i => hS b i h1 (h5 i)⟩
theorem ArrAt.mono {g g' : Gh} {w w' : World} {d : Nat} {cs : List LV} (h : ArrAt P w g d cs) (m : Mono P w g w' g') (hh : ∀ b, g.own d = some b → w'.heap[b]? = w.heap[b]?) (hS : ∀ b i, g.own d = some b → ¬ g.S b i → ¬ g'.S b i) : ArrAt P w' g' d cs := by
  rcases h with h | ⟨b, vals, T, h1, h2, h3, h4, h5⟩
  · exact .inl h
  · exact .inr ⟨b, vals, T, m.ptr _ _ h1, by rw [hh b h1]; exact h2, h3, fun i c u hc hu => (h4 i c u hc hu).mono (.bare m.cell), fun i => hS b i h1 (h5 i)⟩
theorem RelG.grow {g : Gh} {st : LSt} {a : Act} {w w' : World} {S' : Nat → Nat → Prop} (h : RelG P N w0 S0 g st a w) (hg : G w w') (hS : ∀ b i, b < w.heap.size → (S' b i ↔ g.S b i)) (hwf : ∀ b i, S' b i → b < w'.heap.size) :
    RelG P N w0 S0 ⟨S', g.own, g.row⟩ st a w' := by
  have m := mono_grow (P := P) h.wf (fun d b hb => (h.own d b hb).2) hg hS
  have hsz : w.heap.size ≤ w'.heap.size := hg.lt
  refine ⟨h.defers, h.size, fun k => (h.env k).mono m, h.below.trans (.of (hg.mono h.below.size)), fun b i hb hH => ?_, hwf, fun d b hb => ⟨(h.own d b hb).1, by have := (h.own d b hb).2; omega⟩, h.inj, fun d cs hd => ?_, h.row, h.dis, fun d cs hd => ?_, h.dia, h.ex, fun b i v hs hc => m.cell b i v (h.keep b i v hs hc).1 (h.keep b i v hs hc).2⟩
  · show S' b i ↔ _
    rw [hS b i (by have := h.below.size; omega)]; exact h.s0 b i hb hH
  · exact (h.box d cs hd).mono m (fun b hb => hg.heap (h.own d b hb).2) (fun b i hb hn hs => hn ((hS b i (h.own d b hb).2).1 hs))
  · exact (h.arr d cs hd).mono m (fun b hb => hg.heap (h.own d b hb).2) (fun b i hb hn hs => hn ((hS b i (h.own d b hb).2).1 hs))
theorem getD_put {a : Act} {d k : Nat} {v : Value} (hd : d < a.tmps.size) : (a.put (some d) v).tmps.getD k undef = if k = d then v else a.tmps.getD k undef := by
  by_cases h : k = d
  · subst h; simp [Act.put, hd]
  · rw [if_neg h]; simp [Act.put, Array.getElem?_setIfInBounds_ne (Ne.symm h)]
theorem RelG.put {g : Gh} {st : LSt} {a : Act} {w : World} {dst : Option Tmp} {x : LV} {v : Value} (h : RelG P N w0 S0 g st a w) (hd : ∀ d, dst = some d → d < N) (hx : Rep P w g x v) : RelG P N w0 S0 g (st.put dst x) (a.put dst v) w := by
  cases dst with
  | none => exact h
  | some d =>
    have hd' : d < a.tmps.size := by rw [h.size]; exact hd d rfl
    refine ⟨h.defers, by simpa [Act.put] using h.size, fun k => ?_, h.below, h.s0, h.wf, h.own, h.inj, h.box, h.row, h.dis, h.arr, h.dia, ⟨h.ex.glob, h.ex.wf0, fun k v' hk => ?_⟩, h.keep⟩
    rotate_left
    · rw [getD_put hd']
      simp only [LSt.put, upd] at hk
      split at hk
      · cases hk
      · rename_i hne; rw [if_neg hne]; exact h.ex.vals k v' hk
    rw [getD_put hd']
    simp only [LSt.put, upd]
    split
    · exact hx
    · exact h.env k
theorem RelG.ev {g : Gh} {st : LSt} {a : Act} {w : World} (h : RelG P N w0 S0 g st a w) (x : Operand) : Rep P w g (evL st.env x) (a.eval x) := by
  cases x with
  | tmp t => exact h.env t
  | const v => exact rep_toLV v
  | global q => exact .lit _ _
  | func f => exact .lit _ _

/-! ### Guards -/
def wantB (b want : Bool) : Bool := if want then b else !b
theorem wantB_true (b : Bool) : wantB b true = b := rfl
theorem wantB_false (b : Bool) : wantB b false = !b := rfl
def wantL (ops : Array Oper) (o : Oper) (env : Nat → LV) : Option Bool :=
  match o.guard with
  | none => some true
  | some (j, want) =>
    match (ops[j]?).bind (·.dst) with
    | none => some false
    | some t => match env t with
      | .lit (.bool b) => some (wantB b want)
      | .lit (.tuple _) => some false
      | _ => none
/-- The guard's polarity and its value. -/
def guardL (ops : Array Oper) (o : Oper) (env : Nat → LV) : Option (Bool × Bool) :=
  match o.guard with
  | none => some (true, true)
  | some (j, want) =>
    match (ops[j]?).bind (·.dst) with
    | none => some (true, false)
    | some t => match env t with
      | .lit (.bool b) => some (want, b)
      | .lit (.tuple _) => some (true, false)
      | _ => none
theorem guardL_want {ops : Array Oper} {o : Oper} {env : Nat → LV} {want b : Bool} (h : guardL ops o env = some (want, b)) : wantL ops o env = some (wantB b want) := by
  unfold guardL at h
  unfold wantL
  cases hg : o.guard with
  | none => rw [hg] at h; cases h; rfl
  | some jw =>
    obtain ⟨j, w⟩ := jw
    rw [hg] at h
    simp only at h ⊢
    cases hj : (ops[j]?).bind (·.dst) with
    | none => rw [hj] at h; cases h; rfl
    | some t =>
      rw [hj] at h
      simp only at h ⊢
      split at h
      · cases h; rfl
      · cases h; rfl
      · cases h
/-- With the guard's value, one of two ways. -/
def wantK (want b : Bool) (A B : Prop) : Prop := (wantB b want = true → A) ∧ (wantB b want = false → B)
theorem wantK_tt (A B : Prop) : wantK true true A B = A := by simp [wantK, wantB]
theorem wantK_tf (A B : Prop) : wantK true false A B = B := by simp [wantK, wantB]
theorem wantK_ft (A B : Prop) : wantK false true A B = B := by simp [wantK, wantB]
theorem wantK_ff (A B : Prop) : wantK false false A B = A := by simp [wantK, wantB]
theorem wantK_t {b : Bool} {A B : Prop} (h1 : b = true → A) (h2 : b = false → B) : wantK true b A B := ⟨h1, h2⟩
theorem wantK_f {b : Bool} {A B : Prop} (h1 : b = false → A) (h2 : b = true → B) : wantK false b A B := by
  cases b
  · rw [wantK_ff]; exact h1 rfl
  · rw [wantK_ft]; exact h2 rfl
@[congr] theorem wantK_congr {want b b' : Bool} {A B : Prop} (h : b = b') : wantK want b A B = wantK want b' A B := by rw [h]
theorem wantL_run {ops : Array Oper} {o : Oper} {st : LSt} {a : Act} {b : Bool} {w : World} {g : Gh} (h : ∀ k, Rep P w g (st.env k) (a.tmps.getD k undef)) (hw : wantL ops o st.env = some b) : Region.wanted o (yielded ops a.tmps) = b := by
  unfold wantL at hw
  unfold Region.wanted
  split at hw
  · rename_i hg; cases hw; rw [hg]
  · rename_i j want hg
    rw [hg]
    simp only [yielded]
    split at hw
    · rename_i hj; cases hw; rw [hj]; rfl
    · rename_i t hj
      rw [hj]
      simp only [Option.bind_some]
      have ht := h t
      split at hw
      · rename_i c hc
        cases hw
        rw [hc] at ht
        have hv := ht.inv_lit
        have hlt : t < a.tmps.size := by
          rcases Nat.lt_or_ge t a.tmps.size with h | h
          · exact h
          · simp [Array.getD, Nat.not_lt.2 h, undef] at hv
        have : a.tmps[t]? = some (.bool c) := by simp [Array.getD, hlt] at hv; simp [hlt, hv]
        rw [this]
        simp only
        cases c <;> cases want <;> rfl
      · rename_i vs hc
        cases hw
        rw [hc] at ht
        have hv := ht.inv_lit
        rcases Nat.lt_or_ge t a.tmps.size with hlt | hge
        · have : a.tmps[t]? = some (.tuple vs) := by simp [Array.getD, hlt] at hv; simp [hlt, hv]
          rw [this]; rfl
        · rw [Array.getElem?_eq_none hge]; rfl
      · cases hw

/-! ### A callee -/
def callOf : Op → Option (FuncId × List Operand)
  | .call ⟨.value (.func f), args, _⟩ => some (f, args.toList)
  | _ => none
def LVal (P : Program) (ρ : Operand → LV) (B A : Nat → Option (List LV)) (op : Op) (x : LV) : Prop :=
  pv P ρ B A op = some x ∨ (∃ f args r, callOf op = some (f, args) ∧ LCalls P f ((args.map ρ).map strip) r ∧ x = strip r) ∨ ∃ c, buildV P ρ op = some (c, x) ∧ c
theorem callOf_ops {op : Op} {f : FuncId} {args : List Operand} (h : callOf op = some (f, args)) : ∃ ts, op = .call ⟨.value (.func f), args.toArray, ts⟩ := by
  unfold callOf at h
  split at h
  · cases h; exact ⟨_, rfl⟩
  · cases h
theorem LVal.congr {ρ ρ' : Operand → LV} {B A : Nat → Option (List LV)} {op : Op} {x : LV} (h : LVal P ρ B A op x) (hρ : ∀ y ∈ op.operands, ρ y = ρ' y) : LVal P ρ' B A op x := by
  rcases h with h | ⟨f, args, r, h1, h2, h3⟩ | ⟨c, h1, h2⟩
  rotate_left 2
  · exact .inr (.inr ⟨c, by rw [← buildV_congr hρ]; exact h1, h2⟩)
  · exact .inl (by rw [← pv_congr hρ]; exact h)
  · refine .inr (.inl ⟨f, args, r, h1, ?_, h3⟩)
    obtain ⟨ts, rfl⟩ := callOf_ops h1
    have : args.map ρ' = args.map ρ := List.map_congr_left fun y hy => (hρ y (by simp [Op.operands, Call.operands, hy])).symm
    rw [this]; exact h2
/-- An operation that reads or calls, in a state. -/
theorem LVal.wp {g : Gh} {st : LSt} {a : Act} {w : World} {o : Oper} {x : LV} {K : Act → World → Prop} {Q : Exit → Act → World → Prop} (h : RelG P N w0 S0 g st a w) (hv : LVal P (evL st.env) st.box st.arr o.op x) (hd : ∀ d, o.dst = some d → d < N)
    (hK : ∀ a' w', Rel P N w0 S0 (st.put o.dst x) a' w' → K a' w') : o.wp P a w K Q := by
  rcases hv with hv | ⟨f, args, r, h1, h2, rfl⟩ | ⟨c, hbv, hc⟩
  rotate_left 2
  · obtain ⟨n, cs, vs, e, _, rfl, hvals, hvl, hk, hbig, hrun⟩ := build_run (a := a) (fun y => h.ev y) hbv hc
    unfold Oper.wp
    rw [hrun]
    let S' : Nat → Nat → Prop := fun b i => g.S b i ∨ (b = w.heap.size ∧ i < vs.length)
    have hnew : (w.alloc (.cells vs.toArray e)).heap[w.heap.size]? = some (.cells vs.toArray e (0, 0)) := by
      show (w.heap.push _)[w.heap.size]? = _
      simp
    have hsz : (w.alloc (.cells vs.toArray e)).heap.size = w.heap.size + 1 := by
      show (w.heap.push _).size = _
      simp
    have hR := h.grow (S' := S') (G.alloc w (.cells vs.toArray e)) (fun b i hb => ⟨fun hs => hs.elim id fun ⟨e1, _⟩ => by omega, .inl⟩) (fun b i hs => by
      rcases hs with hs | ⟨rfl, _⟩
      · have := h.wf b i hs; omega
      · omega)
    have hcells : CellsAt P (w.alloc (.cells vs.toArray e)) ⟨S', g.own, g.row⟩ w.heap.size 0 cs := by
      refine (hvals.mono (g' := ⟨S', g.own, g.row⟩) (w' := w.alloc (.cells vs.toArray e)) fun b i v hs hcl => ⟨.inl hs, ?_⟩).cells fun i u hu => ?_
      · rw [World.cell?_of_block (w := w) (a := ⟨b, i, none⟩) (Below.heap_alloc w _ b (h.wf b i hs))]; exact hcl
      · have hi := (List.getElem?_eq_some_iff.1 hu).1
        refine ⟨.inr ⟨rfl, by omega⟩, ?_⟩
        rw [Nat.zero_add, cell_of_heap hnew, List.getElem?_toArray]; exact hu
    obtain ⟨val, hc1, hc2⟩ := hcells
    exact hK _ _ ⟨_, hR.put hd (.sl _ _ _ _ _ _ (Nat.le_refl _) val hc1 hc2)⟩
  · obtain ⟨v, hrun, hr⟩ := pv_sound (a := a) (fun y _ => h.ev y) h.box h.arr hv
    unfold Oper.wp
    rw [hrun]
    exact hK _ _ ⟨g, h.put hd hr⟩
  · obtain ⟨dst, op, type, pos, after, guard⟩ := o
    simp only at h1 hd hK
    obtain ⟨ts, rfl⟩ := callOf_ops h1
    have hrun : (execOp a.eval ⟨dst, .call ⟨.value (.func f), args.toArray, ts⟩, type, pos, after, guard⟩).run P w = .ok (.enter f (args.toArray.map a.eval)) w := by
      have := h2.enters (args.toArray.map a.eval) w
      simpa [execOp, resolve, Deferred.ofValue, Act.eval, invoke] using this
    unfold Oper.wp
    rw [hrun]
    have hc := h2.calls w g.S (args.toArray.map a.eval) (h.ex.glob _ h.below) h.wf (by simp) (fun i c u hc hu => by
      obtain ⟨c', hc', rfl⟩ := map_get hc
      rw [List.getElem?_map, Option.map_eq_some_iff] at hc'
      obtain ⟨y, hy, rfl⟩ := hc'
      have : u = a.eval y := by
        rw [List.map_toArray, List.getElem?_toArray, List.getElem?_map, hy] at hu; exact (Option.some.inj hu).symm
      rw [this]
      exact (h.ev y).strip rfl)
    refine Calls.mono hc fun e w' ⟨v, S', he, hr, hg, hS, hwf⟩ => ?_
    subst he
    exact hK _ _ ⟨_, (h.grow hg hS hwf).put hd (hr.strip rfl)⟩
end
end Go.Proofs.Ytmchdjpgceiloaa
