/-
  OPERATIONS THAT LEAVE THE WORLD ALONE: what they yield, by what their operands stand for; that they do so.
-/
import Derived.Test.YtmchdjpgceiloaaL2
set_option linter.unusedSimpArgs false
set_option linter.unusedVariables false
namespace Go.Proofs.Ytmchdjpgceiloaa
open Go.RowKit

def unV (op : UnOp) : Value → Option Value
  | .bool b => match op with | .not => some (.bool (!b)) | _ => none
  | .int k n => match op with | .neg => some (.int k (k.wrap (0 - n))) | _ => none
  | _ => none
def convV (P : Program) (s d : TypeId) (v : Value) : Option Value :=
  match P.underlying s, P.underlying d, v with
  | some _, some (.int k), .int _ n => some (.int k (k.wrap n))
  | some _, some (.float k), .int _ n => some (.float k (floatOfInt k n))
  | some _, some (.int k), .float q b => (floatToIntVal q b k).map (Value.int k)
  | some .string, some .string, .string x => some (.string x)
  | _, _, _ => none
def idxV (P : Program) (t : TypeId) (x i : Value) : Option Value :=
  match P.underlying t, x, i with
  | some .string, .string s, .int _ z => if 0 ≤ z then (s.data.toList[z.toNat]?).map fun b => .int .u8 b.toNat else none
  | _, _, _ => none
def lowV : Option LV → Option Int
  | none => some 0
  | some (.lit (.int _ z)) => some z
  | some _ => none
def highV (n : Nat) : Option LV → Option Int
  | none => some n
  | some (.lit (.int _ z)) => some z
  | some _ => none
/-- s[lo:hi] of a text, or of a slice up to its length. -/
def sliceL (P : Program) (t : TypeId) (x : LV) (lo hi : Option LV) : Option LV :=
  match x with
  | .lit (.string s) =>
    match P.underlying t, lowV lo, highV s.data.toList.length hi with
    | some .string, some l, some h => if 0 ≤ l ∧ l ≤ h ∧ h ≤ s.data.toList.length then some (.lit (.string ⟨((s.data.toList.take h.toNat).drop l.toNat).toArray⟩)) else none
    | _, _, _ => none
  | .sl n cs _ =>
    match elemL P t, lowV lo, highV n hi with
    | some (_, k), some l, some h => if 0 ≤ l ∧ l ≤ h ∧ h ≤ n then some (.sl (h.toNat - l.toNat) ((cs.take (h.toNat * k)).drop (l.toNat * k)) .no) else none
    | _, _, _ => none
  | _ => none
def lenL (P : Program) (t : TypeId) : LV → Option LV
  | .sl n _ _ => match P.underlying t with | some (.slice _) => some (.lit (.int .i64 n)) | _ => none
  | .lit (.string s) => match P.underlying t with | some .string => some (.lit (.int .i64 s.data.toList.length)) | _ => none
  | .bsl _ n _ => match P.underlying t with | some (.slice _) => some (.lit (.int .i64 n)) | _ => none
  | _ => none
def minmaxV (big : Bool) : Value → Value → Option Value
  | .int k x, .int _ y => some (.int k (if big then (if y > x then y else x) else (if y < x then y else x)))
  | _, _ => none
def builtinL (P : Program) (b : Builtin) (ts : List TypeId) (xs : List LV) : Option LV :=
  match b, ts, xs with
  | .len, [t], [x] => lenL P t x
  | .min, _, [.lit x, .lit y] => (minmaxV false x y).map .lit
  | .max, _, [.lit x, .lit y] => (minmaxV true x y).map .lit
  | .real, _, [.lit (.complex k a _)] => some (.lit (.float k a))
  | .imag, _, [.lit (.complex k _ b)] => some (.lit (.float k b))
  | .complex, _, [.lit (.float k a), .lit (.float k' b)] => if k = k' then some (.lit (.complex k a b)) else none
  | _, _, _ => none
def fieldV (P : Program) (s : TypeId) (f : Nat) (x : LV) : Option LV :=
  match fieldL P s f, x with
  | some (o, t), .agg cs => loadL P t (cs.drop o)
  | _, _ => none

def lit1 (f : Value → Option Value) : LV → Option LV
  | .lit a => (f a).map .lit
  | _ => none
def lit2 (f : Value → Value → Option Value) : LV → LV → Option LV
  | .lit a, .lit b => (f a b).map .lit
  | _, _ => none
/-- How a field of one cell is compared: 0 a number, 1 a text, 2 a truth value. -/
def eqKind (P : Program) (f : Field) : Option (Nat × Nat) :=
  if f.name = "_" then none else
  match P.underlying f.type with
  | some (.int _) => some (f.offset, 0)
  | some .string => some (f.offset, 1)
  | some .bool => some (f.offset, 2)
  | _ => none
def eqKinds (P : Program) (t : TypeId) : Option (List (Nat × Nat)) :=
  match P.underlying t with
  | some (.struct fs) => if P.stoodInHeld t = false ∧ P.eqGuardType P.depth t = false then fs.toList.mapM (eqKind P) else none
  | _ => none
def eqOne (k : Nat) (x y : LV) : Option Bool :=
  match k, x, y with
  | 0, .lit (.int a p), .lit (.int b q) => if a = b then some (decide (p = q)) else none
  | 1, .lit (.string p), .lit (.string q) => some (decide (p.data.toList = q.data.toList))
  | 2, .lit (.bool p), .lit (.bool q) => some (p == q)
  | _, _, _ => none
def eqListL (cs ds : List LV) : List (Nat × Nat) → Option Bool
  | [] => some true
  | (o, k) :: r =>
    match cs[o]?, ds[o]? with
    | some x, some y => match eqOne k x y, eqListL cs ds r with
      | some b, some e => some (b && e)
      | _, _ => none
    | _, _ => none
def eqAggL (op : BinOp) : Option Bool → Option LV
  | some b => match op with
    | .eql => some (.lit (.bool b))
    | .neq => some (.lit (.bool (!b)))
    | _ => none
  | none => none
def binL (P : Program) (op : BinOp) (t : TypeId) (x y : LV) : Option LV :=
  match x, y with
  | .agg cs, .agg ds => match eqKinds P t with
    | some ks => eqAggL op (eqListL cs ds ks)
    | none => none
  | x, y => lit2 (binV P op t) x y
def pickL (x y : LV) : LV → Option LV
  | .lit (.bool t) => some (cond t x y)
  | _ => none
def extractL (i : Nat) : LV → Option LV
  | .tup cs => cs[i]?
  | _ => none
def moveL (o : Nat) : LV → Option LV
  | .ref cs => some (.ref (cs.drop o))
  | .ptr d k => some (.ptr d (k + o))
  | .aptr d k => some (.aptr d (k + o))
  | _ => none
def fieldAtL (P : Program) (s : TypeId) (f : Nat) (x : LV) : Option LV :=
  match fieldL P s f with
  | some (o, _) => moveL o x
  | none => none
def indexAtL (k : Nat) : LV → LV → Option LV
  | .sl n cs _, .lit (.int _ z) => if 0 ≤ z ∧ z < n then some (.ref (cs.drop (z.toNat * k))) else none
  | .bsl d n _, .lit (.int _ z) => if 0 ≤ z ∧ z < n then some (.aptr d (z.toNat * k)) else none
  | _, _ => none
def indexL (P : Program) (t : TypeId) (x i : LV) : Option LV :=
  match elemL P t with
  | some (_, k) => indexAtL k x i
  | none => none
def loadAtL (P : Program) (B A : Nat → Option (List LV)) (t : TypeId) : LV → Option LV
  | .ref cs => (loadL P t cs).map strip2
  | .ptr d o => match B d with | some cs => loadL P t (cs.drop o) | none => none
  | .aptr d o => match A d with | some cs => (loadL P t (cs.drop o)).map strip2 | none => none
  | _ => none
/-- The cells of a value. -/
def cellsL : LV → Option (List LV)
  | .agg cs => some cs
  | .lit (.agg _) => none
  | .lit (.tuple _) => none
  | .lit v => some [.lit v]
  | .sl n cs t => some [.sl n cs t]
  | .ref cs => some [.ref cs]
  | .ptr d o => some [.ptr d o]
  | .bsl d n e => some [.bsl d n e]
  | .aptr d o => some [.aptr d o]
  | _ => none
/-- Parts laid over cells. -/
def fillL (place : Nat → Option (Nat × Nat)) : List LV → List (Nat × LV) → Option (List LV)
  | cs, [] => some cs
  | cs, (i, x) :: r =>
    match place i, cellsL x with
    | some (off, size), some xs => if xs.length = size ∧ off + size ≤ cs.length then fillL place (cs.take off ++ xs ++ cs.drop (off + size)) r else none
    | _, _ => none
def placesL (P : Program) (t : TypeId) : Option (List (Nat × Nat)) :=
  match P.underlying t with
  | some (.struct fs) => fs.toList.mapM fun f => (P.info? f.type).map fun i => (f.offset, i.size)
  | _ => none
def buildL (P : Program) (t : TypeId) (parts : List (Nat × LV)) : Option LV :=
  match P.info? t, placesL P t with
  | some i, some ps => match i.zero with
    | some z => (fillL (fun j => ps[j]?) (z.cells.toList.map toLV) parts).map .agg
    | none => none
  | _, _ => none
/-- What an operation yields. -/
def pv (P : Program) (ρ : Operand → LV) (B A : Nat → Option (List LV)) : Op → Option LV
  | .move x => some (ρ x)
  | .assign x => some (ρ x)
  | .pick c x y => pickL (ρ x) (ρ y) (ρ c)
  | .extract x i => extractL i (ρ x)
  | .fieldAddr s x f => fieldAtL P s f (ρ x)
  | .indexAddr t x i => indexL P t (ρ x) (ρ i)
  | .load t p => loadAtL P B A t (ρ p)
  | .field s x f => fieldV P s f (ρ x)
  | .binOp op t x y _ => binL P op t (ρ x) (ρ y)
  | .unOp op _ x => lit1 (unV op) (ρ x)
  | .convert s d x => lit1 (convV P s d) (ρ x)
  | .index t x i => lit2 (idxV P t) (ρ x) (ρ i)
  | .slice t x lo hi none => sliceL P t (ρ x) (lo.map ρ) (hi.map ρ)
  | .build t parts => buildL P t (parts.toList.map fun q => (q.1, ρ q.2))
  | .call ⟨.builtin b, args, ts⟩ => builtinL P b ts.toList (args.toList.map ρ)
  | _ => none

/-- A variable of the call's own. -/
def BoxAt (P : Program) (w : World) (g : Gh) (d : Nat) (cs : List LV) : Prop :=
  ∃ (b : Nat) (vals : Array Value) (T : TypeId), g.own d = some b ∧ w.heap[b]? = some (.cells vals T (0, 0)) ∧ vals.size = cs.length ∧ (∀ (i : Nat) (c : LV) (u : Value), cs[i]? = some c → vals[i]? = some u → Rep P w g c u) ∧ ∀ i, ¬ g.S b i

/-- An array of the call's own: the cells of a private slice. -/
def ArrAt (P : Program) (w : World) (g : Gh) (d : Nat) (cs : List LV) : Prop :=
  cs = [] ∨ ∃ (b : Nat) (vals : Array Value) (T : TypeId), g.own d = some b ∧ w.heap[b]? = some (.cells vals T (0, 0)) ∧ cs.length ≤ vals.size ∧ (∀ (i : Nat) (c : LV) (u : Value), cs[i]? = some c → vals[i]? = some u → Rep P w g.bare c u) ∧ ∀ i, ¬ g.S b i

section
variable {P : Program} {w : World} {g : Gh}
theorem run_ok {α : Type} (a : α) : (pure a : Sem α).run P w = .ok a w := rfl

/-- Cells read one by one. -/
theorem run_loadCells {b off : Nat} (val : Nat → Value) : ∀ (n i : Nat) (acc : Array Value), (∀ j, j < n → w.cell? ⟨b, off + i + j, none⟩ = some (val (i + j))) →
    (loadCellsFrom ⟨b, off, none⟩ i n acc).run P w = .ok (acc ++ ((List.range n).map fun j => val (i + j)).toArray) w
  | 0, i, acc, _ => by simp [loadCellsFrom, run_ok]
  | n + 1, i, acc, h => by
    have h0 := h 0 (by omega)
    simp only [Nat.add_zero] at h0
    have ih := run_loadCells val n (i + 1) (acc.push (val i)) (fun j hj => by
      have := h (j + 1) (by omega)
      rw [show off + (i + 1) + j = off + i + (j + 1) by omega, show i + 1 + j = i + (j + 1) by omega]; exact this)
    have e : (load ((⟨b, off, none⟩ : Addr).add i)).run P w = .ok (val i) w := by
      rw [Addr.add_lit]; simp [load, Sem.run, h0]
    show ((load ((⟨b, off, none⟩ : Addr).add i)) >>= fun v => loadCellsFrom ⟨b, off, none⟩ (i + 1) n (acc.push v)).run P w = _
    rw [Sem.run_bind, e]
    show (loadCellsFrom ⟨b, off, none⟩ (i + 1) n (acc.push (val i))).run P w = _
    rw [ih]
    congr 1
    apply Array.ext'
    simp only [Array.toList_append, Array.toList_push, List.append_assoc, List.range_succ_eq_map, List.map_cons, List.map_map, Nat.add_zero, List.cons_append, List.nil_append]
    congr 2
    apply List.map_congr_left
    intro j _
    simp only [Function.comp]
    congr 1; omega
/-- A value read out of cells. -/
theorem run_load_cells {b off : Nat} {t : TypeId} {cs : List LV} {x : LV} {g' : Gh} {val : Nat → Value} (hc : ∀ i, i < cs.length → w.cell? ⟨b, off + i, none⟩ = some (val i))
    (h : ∀ (i : Nat) (c : LV), cs[i]? = some c → Rep P w g' c (val i)) (hx : loadL P t cs = some x) : ∃ v, (loadVar t ⟨b, off, none⟩).run P w = .ok v w ∧ Rep P w g' x v := by
  unfold loadL at hx
  split at hx
  · rename_i ha
    split at hx
    · rename_i i hi
      split at hx
      · rename_i hle
        cases hx
        refine ⟨.agg ((List.range i.size).map val).toArray, ?_, .agg _ _ _ (by simp; omega) fun j c u hc' hu => ?_⟩
        · have e1 : (isAgg t).run P w = .ok true w := by
            unfold aggL at ha
            split at ha <;> cases ha <;> rename_i hu <;> simp [isAgg, run_underlying hu]
          have e2 : (Go.sizeOf t).run P w = .ok i.size w := by simp [Go.sizeOf, typeInfo, hi]
          have e3 := run_loadCells (P := P) (w := w) (b := b) (off := off) val i.size 0 #[] (fun j hj => by simpa using hc j (by omega))
          simp only [loadVar, Sem.run_bind, e1, Result.andThen]
          simp only [if_true, Sem.run_bind, e2, Result.andThen, loadCells, e3]
          simp [run_ok]
        · rw [List.getElem?_take] at hc'
          split at hc'
          · rename_i hj
            have : u = val j := by simpa [hj] using hu.symm
            rw [this]; exact h j c hc'
          · cases hc'
      · cases hx
    · cases hx
  · rename_i ha
    cases cs with
    | nil => cases hx
    | cons c r =>
      cases hx
      refine ⟨val 0, ?_, h 0 _ rfl⟩
      have e1 : (isAgg t).run P w = .ok false w := by
        unfold aggL at ha
        split at ha <;> cases ha
        rename_i d hd1 hd2 hu
        simp only [isAgg, Sem.run_bind, run_underlying hu, Result.andThen]
        cases d <;> first | rfl | (exact absurd rfl (hd1 _)) | (exact absurd rfl (hd2 _ _))
      have h0 := hc 0 (by simp)
      simp only [Nat.add_zero] at h0
      simp only [loadVar, Sem.run_bind, e1, Result.andThen]
      simp [load, Sem.run, h0]
  · cases hx
end
end Go.Proofs.Ytmchdjpgceiloaa
