/-
  VALUES BY WHAT THEY STAND FOR: a slice as the list of its cells, a pointer as what lies behind it; which value of the machine stands for which, in a world; what of it stays when the world grows.
-/
import Derived.Test.YtmchdjpgceiloaaBase
import Derived.Laws.AppendOwn
import Derived.Laws.AppendOwnNone
import Derived.Laws.Rows
set_option linter.unusedSimpArgs false
set_option linter.unusedVariables false
namespace Go.Proofs.Ytmchdjpgceiloaa
open Go.RowKit

/-- What a slice may be used for: to be read alone; nil; the row q of the call's own. -/
inductive Tok where
  | no
  | nil
  | row (q : Nat)

/-- A value by what it stands for. -/
inductive LV where
  | any
  | lit (v : Value)
  | agg (cs : List LV)
  | tup (cs : List LV)
  | sl (n : Nat) (cs : List LV) (t : Tok)
  | ref (cs : List LV)
  | ptr (d off : Nat)
  | bsl (d n : Nat) (e : TypeId)
  | aptr (d off : Nat)

/-- What is known of memory beside the values: which cells stay; which blocks are the call's own variables and rows; how long each row is. -/
structure Gh where
  S : Nat → Nat → Prop
  own : Nat → Option Nat
  row : Nat → Option (TypeId × Nat)
def Gh.bare (g : Gh) : Gh := ⟨g.S, fun _ => none, fun _ => none⟩
def sizeL (P : Program) (e : TypeId) : Nat := ((P.info? e).map (·.size)).getD 0

/-- v is the row q of the call's own, with n elements. -/
def OwnAt (P : Program) (w : World) (g : Gh) (q : Nat) (e : TypeId) (n : Nat) (v : Value) : Prop :=
  (v = .slice none 0 0 ∧ n = 0) ∨ ∃ b cap cur, g.own q = some b ∧ v = .slice (some ⟨b, 0, none⟩) n cap ∧ w.heap[b]? = some (.cells cur e (0, 0)) ∧ n ≤ cap ∧ cap ≤ maxLen ∧ cur.size = cap * sizeL P e ∧ ∀ i, n * sizeL P e ≤ i → ¬ g.S b i

/-- v is a private slice of n elements: the cells of the array d of the call's own. -/
def BslAt (P : Program) (w : World) (g : Gh) (d n : Nat) (e : TypeId) (v : Value) : Prop :=
  (v = .slice none 0 0 ∧ n = 0) ∨ ∃ b cap cur, g.own d = some b ∧ v = .slice (some ⟨b, 0, none⟩) n cap ∧ w.heap[b]? = some (.cells cur e (0, 0)) ∧ n ≤ cap ∧ cap ≤ maxLen ∧ cur.size = cap * sizeL P e ∧ 0 < n

inductive Rep (P : Program) (w : World) : Gh → LV → Value → Prop
  | any (g : Gh) (v : Value) : Rep P w g .any v
  | lit (g : Gh) (v : Value) : Rep P w g (.lit v) v
  | agg (g : Gh) (cs : List LV) (vs : Array Value) (hl : vs.size = cs.length) (h : ∀ (i : Nat) (c : LV) (u : Value), cs[i]? = some c → vs[i]? = some u → Rep P w g c u) : Rep P w g (.agg cs) (.agg vs)
  | tup (g : Gh) (cs : List LV) (vs : Array Value) (hl : vs.size = cs.length) (h : ∀ (i : Nat) (c : LV) (u : Value), cs[i]? = some c → vs[i]? = some u → Rep P w g c u) : Rep P w g (.tup cs) (.tuple vs)
  | nil (g : Gh) : Rep P w g (.sl 0 [] .nil) (.slice none 0 0)
  | empty (g : Gh) (p : Option Addr) (cap : Nat) : Rep P w g (.sl 0 [] .no) (.slice p 0 cap)
  | sl (g : Gh) (n : Nat) (cs : List LV) (b off cap : Nat) (hcap : n ≤ cap) (val : Nat → Value) (hc : ∀ i, i < cs.length → g.S b (off + i) ∧ w.cell? ⟨b, off + i, none⟩ = some (val i))
      (h : ∀ (i : Nat) (c : LV), cs[i]? = some c → Rep P w g.bare c (val i)) : Rep P w g (.sl n cs .no) (.slice (some ⟨b, off, none⟩) n cap)
  | row (g : Gh) (n : Nat) (cs : List LV) (v : Value) (q : Nat) (h0 : Rep P w g (.sl n cs .no) v) (ho : ∀ e, g.row q = some (e, n) → OwnAt P w g q e n v) : Rep P w g (.sl n cs (.row q)) v
  | ref (g : Gh) (cs : List LV) (b off : Nat) (val : Nat → Value) (hc : ∀ i, i < cs.length → g.S b (off + i) ∧ w.cell? ⟨b, off + i, none⟩ = some (val i))
      (h : ∀ (i : Nat) (c : LV), cs[i]? = some c → Rep P w g.bare c (val i)) : Rep P w g (.ref cs) (.pointer (some ⟨b, off, none⟩))
  | ptr (g : Gh) (d off b : Nat) (h : g.own d = some b) : Rep P w g (.ptr d off) (.pointer (some ⟨b, off, none⟩))
  | bsl (g : Gh) (d n : Nat) (e : TypeId) (v : Value) (h : BslAt P w g d n e v) : Rep P w g (.bsl d n e) v
  | aptr (g : Gh) (d off b : Nat) (h : g.own d = some b) : Rep P w g (.aptr d off) (.pointer (some ⟨b, off, none⟩))

structure Mono (P : Program) (w : World) (g : Gh) (w' : World) (g' : Gh) : Prop where
  cell : ∀ b i v, g.S b i → w.cell? ⟨b, i, none⟩ = some v → g'.S b i ∧ w'.cell? ⟨b, i, none⟩ = some v
  ptr : ∀ d b, g.own d = some b → g'.own d = some b
  own : ∀ q e n v, g'.row q = some (e, n) → (∀ e', g.row q = some (e', n) → OwnAt P w g q e' n v) → OwnAt P w' g' q e n v
  shape : ∀ d b cur e, g.own d = some b → w.heap[b]? = some (.cells cur e (0, 0)) → ∃ cur', w'.heap[b]? = some (.cells cur' e (0, 0)) ∧ cur'.size = cur.size
theorem BslAt.mono {P : Program} {w w' : World} {g g' : Gh} {d n : Nat} {e : TypeId} {v : Value} (h : BslAt P w g d n e v) (hp : ∀ b, g.own d = some b → g'.own d = some b) (hs : ∀ b cur e, g.own d = some b → w.heap[b]? = some (.cells cur e (0, 0)) → ∃ cur', w'.heap[b]? = some (.cells cur' e (0, 0)) ∧ cur'.size = cur.size) : BslAt P w' g' d n e v := by
  rcases h with h | ⟨b, cap, cur, h1, h2, h3, h4, h5, h6⟩
  · exact .inl h
  · obtain ⟨cur', h7, h8⟩ := hs b cur e h1 h3
    exact .inr ⟨b, cap, cur', hp b h1, h2, h7, h4, h5, by rw [h8]; exact h6⟩
theorem Mono.bare {P : Program} {w w' : World} {g g' : Gh} (h : ∀ b i v, g.S b i → w.cell? ⟨b, i, none⟩ = some v → g'.S b i ∧ w'.cell? ⟨b, i, none⟩ = some v) : Mono P w g.bare w' g'.bare :=
  ⟨h, (fun _ _ h => by cases h), (fun _ _ _ _ h => by cases h), (fun _ _ _ _ h => by cases h)⟩
theorem Rep.mono {P : Program} {w w' : World} {g g' : Gh} {x : LV} {v : Value} (h : Rep P w g x v) (m : Mono P w g w' g') : Rep P w' g' x v := by
  induction h generalizing g' with
  | any => exact .any _ _
  | lit => exact .lit _ _
  | agg g cs vs hl h ih => exact .agg _ _ _ hl fun i c u hc hu => ih i c u hc hu m
  | tup g cs vs hl h ih => exact .tup _ _ _ hl fun i c u hc hu => ih i c u hc hu m
  | nil => exact .nil _
  | empty => exact .empty _ _ _
  | sl g n cs b off cap hcap val hc h ih => exact .sl _ _ _ _ _ _ hcap val (fun i hi => m.cell _ _ _ (hc i hi).1 (hc i hi).2) fun i c hc => ih i c hc (.bare m.cell)
  | row g n cs v q h0 ho ih => exact .row _ _ _ _ _ (ih m) fun e he => m.own q e n v he ho
  | ref g cs b off val hc h ih => exact .ref _ _ _ _ val (fun i hi => m.cell _ _ _ (hc i hi).1 (hc i hi).2) fun i c hc => ih i c hc (.bare m.cell)
  | ptr g d off b h => exact .ptr _ _ _ _ (m.ptr _ _ h)
  | bsl g d n e v h => exact .bsl _ _ _ _ _ (h.mono (fun b hb => m.ptr _ _ hb) (fun b cur e hb hc => m.shape _ _ _ _ hb hc))
  | aptr g d off b h => exact .aptr _ _ _ _ (m.ptr _ _ h)

/-! ### What stands for what, read back -/
section
variable {P : Program} {w : World} {g : Gh} {v : Value}
theorem Rep.inv_lit {u : Value} (h : Rep P w g (.lit u) v) : v = u := by cases h; rfl
theorem Rep.inv_agg {cs : List LV} (h : Rep P w g (.agg cs) v) : ∃ vs : Array Value, v = .agg vs ∧ vs.size = cs.length ∧ ∀ (i : Nat) (c : LV) (u : Value), cs[i]? = some c → vs[i]? = some u → Rep P w g c u := by
  cases h; exact ⟨_, rfl, by assumption, by assumption⟩
theorem Rep.inv_tup {cs : List LV} (h : Rep P w g (.tup cs) v) : ∃ vs : Array Value, v = .tuple vs ∧ vs.size = cs.length ∧ ∀ (i : Nat) (c : LV) (u : Value), cs[i]? = some c → vs[i]? = some u → Rep P w g c u := by
  cases h; exact ⟨_, rfl, by assumption, by assumption⟩
/-- Cells that stay hold what stands for these. -/
def CellsAt (P : Program) (w : World) (g : Gh) (b off : Nat) (cs : List LV) : Prop :=
  ∃ val : Nat → Value, (∀ i, i < cs.length → g.S b (off + i) ∧ w.cell? ⟨b, off + i, none⟩ = some (val i)) ∧ ∀ (i : Nat) (c : LV), cs[i]? = some c → Rep P w g.bare c (val i)
theorem Rep.inv_ref {cs : List LV} (h : Rep P w g (.ref cs) v) : ∃ b off, v = .pointer (some ⟨b, off, none⟩) ∧ CellsAt P w g b off cs := by
  cases h; exact ⟨_, _, rfl, _, by assumption, by assumption⟩
theorem Rep.inv_ptr {d off : Nat} (h : Rep P w g (.ptr d off) v) : ∃ b, v = .pointer (some ⟨b, off, none⟩) ∧ g.own d = some b := by
  cases h; exact ⟨_, rfl, by assumption⟩
theorem Rep.inv_aptr {d off : Nat} (h : Rep P w g (.aptr d off) v) : ∃ b, v = .pointer (some ⟨b, off, none⟩) ∧ g.own d = some b := by
  cases h; exact ⟨_, rfl, by assumption⟩
theorem Rep.inv_bsl {d n : Nat} {e : TypeId} (h : Rep P w g (.bsl d n e) v) : BslAt P w g d n e v := by
  cases h; assumption
theorem Rep.inv_nil {n : Nat} {cs : List LV} (h : Rep P w g (.sl n cs .nil) v) : v = .slice none 0 0 ∧ n = 0 ∧ cs = [] := by
  cases h; exact ⟨rfl, rfl, rfl⟩
theorem Rep.inv_no {n : Nat} {cs : List LV} (h : Rep P w g (.sl n cs .no) v) : (∃ p cap, v = .slice p 0 cap ∧ n = 0 ∧ cs = []) ∨ ∃ b off cap, v = .slice (some ⟨b, off, none⟩) n cap ∧ n ≤ cap ∧ CellsAt P w g b off cs := by
  cases h with
  | empty => exact .inl ⟨_, _, rfl, rfl, rfl⟩
  | sl => exact .inr ⟨_, _, _, rfl, by assumption, _, by assumption, by assumption⟩
theorem Rep.inv_row {n q : Nat} {cs : List LV} (h : Rep P w g (.sl n cs (.row q)) v) : Rep P w g (.sl n cs .no) v ∧ ∀ e, g.row q = some (e, n) → OwnAt P w g q e n v := by
  cases h; exact ⟨by assumption, by assumption⟩
theorem CellsAt.rep_sl {b off cap n : Nat} {cs : List LV} (h : CellsAt P w g b off cs) (hcap : n ≤ cap) : Rep P w g (.sl n cs .no) (.slice (some ⟨b, off, none⟩) n cap) :=
  let ⟨val, h1, h2⟩ := h
  .sl _ _ _ _ _ _ hcap val h1 h2
theorem CellsAt.rep_ref {b off : Nat} {cs : List LV} (h : CellsAt P w g b off cs) : Rep P w g (.ref cs) (.pointer (some ⟨b, off, none⟩)) :=
  let ⟨val, h1, h2⟩ := h
  .ref _ _ _ _ val h1 h2
theorem CellsAt.drop {b off : Nat} {cs : List LV} (k : Nat) (h : CellsAt P w g b off cs) : CellsAt P w g b (off + k) (cs.drop k) := by
  obtain ⟨val, h1, h2⟩ := h
  refine ⟨fun i => val (k + i), fun i hi => ?_, fun i c hc => h2 (k + i) c (by rw [List.getElem?_drop] at hc; exact hc)⟩
  have := h1 (k + i) (by rw [List.length_drop] at hi; omega)
  rwa [← Nat.add_assoc] at this
theorem CellsAt.take {b off : Nat} {cs : List LV} (k : Nat) (h : CellsAt P w g b off cs) : CellsAt P w g b off (cs.take k) := by
  obtain ⟨val, h1, h2⟩ := h
  refine ⟨val, fun i hi => h1 i (by rw [List.length_take] at hi; omega), fun i c hc => h2 i c ?_⟩
  rw [List.getElem?_take] at hc
  split at hc
  · exact hc
  · cases hc
theorem CellsAt.bare {b off : Nat} {cs : List LV} (h : CellsAt P w g b off cs) : CellsAt P w g.bare b off cs := h
/-- Any slice is a length and cells. -/
theorem Rep.inv_sl {n : Nat} {cs : List LV} {t : Tok} (h : Rep P w g (.sl n cs t) v) : (∃ p cap, v = .slice p 0 cap ∧ n = 0 ∧ cs = []) ∨ ∃ b off cap, v = .slice (some ⟨b, off, none⟩) n cap ∧ n ≤ cap ∧ CellsAt P w g b off cs := by
  cases t with
  | no => exact h.inv_no
  | nil => obtain ⟨rfl, rfl, rfl⟩ := h.inv_nil; exact .inl ⟨_, _, rfl, rfl, rfl⟩
  | row q => exact h.inv_row.1.inv_no
theorem Rep.no_of {g' : Gh} {n : Nat} {cs : List LV} {t : Tok} (h : Rep P w g (.sl n cs t) v) (hS : g'.S = g.S) : Rep P w g' (.sl n cs .no) v := by
  rcases h.inv_sl with ⟨p, cap, rfl, rfl, rfl⟩ | ⟨b, off, cap, rfl, hcap, val, h1, h2⟩
  · exact .empty _ _ _
  · refine .sl _ _ _ _ _ _ hcap val (by rw [hS]; exact h1) fun i c hc => ?_
    have : g'.bare = g.bare := by unfold Gh.bare; rw [hS]
    rw [this]; exact h2 i c hc
theorem Rep.ref_of {g' : Gh} {cs : List LV} (h : Rep P w g (.ref cs) v) (hS : g'.S = g.S) : Rep P w g' (.ref cs) v := by
  obtain ⟨b, off, rfl, val, h1, h2⟩ := h.inv_ref
  refine .ref _ _ _ _ val (by rw [hS]; exact h1) fun i c hc => ?_
  have : g'.bare = g.bare := by unfold Gh.bare; rw [hS]
  rw [this]; exact h2 i c hc
end

/-! ### What is handed to a callee, and what is forgotten -/
def strip1 : LV → LV
  | .lit v => .lit v
  | .sl n cs _ => .sl n cs .no
  | .ref cs => .ref cs
  | _ => .any
def strip2 : LV → LV
  | .agg cs => .agg (cs.map strip1)
  | x => strip1 x
def strip : LV → LV
  | .tup cs => .tup (cs.map strip2)
  | x => strip2 x
section
variable {P : Program} {w : World} {g g' : Gh} {v : Value}
theorem map_get {f : LV → LV} {cs : List LV} {i : Nat} {c : LV} (h : (cs.map f)[i]? = some c) : ∃ c', cs[i]? = some c' ∧ f c' = c := by
  rw [List.getElem?_map, Option.map_eq_some_iff] at h; exact h
theorem Rep.strip1 {x : LV} (h : Rep P w g x v) (hS : g'.S = g.S) : Rep P w g' (Go.Proofs.Ytmchdjpgceiloaa.strip1 x) v := by
  cases x with
  | lit u => rw [h.inv_lit]; exact .lit _ _
  | sl n cs t => exact h.no_of hS
  | ref cs => exact h.ref_of hS
  | _ => exact .any _ _
theorem Rep.strip2 {x : LV} (h : Rep P w g x v) (hS : g'.S = g.S) : Rep P w g' (Go.Proofs.Ytmchdjpgceiloaa.strip2 x) v := by
  cases x with
  | agg cs =>
    obtain ⟨vs, rfl, hl, h⟩ := h.inv_agg
    refine .agg _ _ _ (by simpa using hl) fun i c u hc hu => ?_
    obtain ⟨c', hc', rfl⟩ := map_get hc
    exact (h i c' u hc' hu).strip1 hS
  | lit u => exact h.strip1 hS
  | sl n cs t => exact h.strip1 hS
  | ref cs => exact h.strip1 hS
  | _ => exact .any _ _
theorem Rep.strip {x : LV} (h : Rep P w g x v) (hS : g'.S = g.S) : Rep P w g' (Go.Proofs.Ytmchdjpgceiloaa.strip x) v := by
  cases x with
  | tup cs =>
    obtain ⟨vs, rfl, hl, h⟩ := h.inv_tup
    refine .tup _ _ _ (by simpa using hl) fun i c u hc hu => ?_
    obtain ⟨c', hc', rfl⟩ := map_get hc
    exact (h i c' u hc' hu).strip2 hS
  | agg cs => exact h.strip2 hS
  | lit u => exact h.strip1 hS
  | sl n cs t => exact h.strip1 hS
  | ref cs => exact h.strip1 hS
  | _ => exact .any _ _
end

def forget1 (d : Nat) : LV → LV
  | .lit v => .lit v
  | .sl n cs (.row q) => if q = d then .sl n cs .no else .sl n cs (.row q)
  | .sl n cs t => .sl n cs t
  | .ref cs => .ref cs
  | .ptr e off => if e = d then .any else .ptr e off
  | .bsl q n e => if q = d then .any else .bsl q n e
  | .aptr e off => if e = d then .any else .aptr e off
  | _ => .any
def forget2 (d : Nat) : LV → LV
  | .agg cs => .agg (cs.map (forget1 d))
  | x => forget1 d x
def forget (d : Nat) : LV → LV
  | .tup cs => .tup (cs.map (forget2 d))
  | x => forget2 d x
def upd {α : Type} (f : Nat → α) (d : Nat) (x : α) : Nat → α := fun k => if k = d then x else f k
theorem upd_eq {α : Type} (f : Nat → α) (d : Nat) (x : α) : upd f d x d = x := if_pos rfl
theorem upd_ne {α : Type} (f : Nat → α) {d k : Nat} (x : α) (h : k ≠ d) : upd f d x k = f k := if_neg h
end Go.Proofs.Ytmchdjpgceiloaa
