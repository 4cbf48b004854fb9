/-
  REGIONS BY WHAT THEIR SLOTS STAND FOR: those that only read and call, in whatever order; all others in the order of the text.
-/
import Derived.Test.YtmchdjpgceiloaaL5
set_option linter.unusedSimpArgs false
set_option linter.unusedVariables false
namespace Go.Proofs.Ytmchdjpgceiloaa
open Go.RowKit

/-- A callee's result, whatever it is, and what follows. -/
def lcall (P : Program) (f : FuncId) (args : List LV) (K : LV → Prop) : Prop := ∃ r, LCalls P f args r ∧ K r
theorem lcall_intro {P : Program} {f : FuncId} {args : List LV} {K : LV → Prop} {r : LV} (h : LCalls P f args r) (hK : K r) : lcall P f args K := ⟨r, h, hK⟩
@[congr] theorem lcall_congr {P : Program} {f : FuncId} {args args' : List LV} {K : LV → Prop} (h : args = args') : lcall P f args K = lcall P f args' K := by rw [h]

section
variable (d : Nat)
theorem fg_any : Go.Proofs.Ytmchdjpgceiloaa.forget d .any = .any := rfl
theorem fg_lit (v : Value) : Go.Proofs.Ytmchdjpgceiloaa.forget d (.lit v) = .lit v := rfl
theorem fg_no (n : Nat) (cs : List LV) : Go.Proofs.Ytmchdjpgceiloaa.forget d (.sl n cs .no) = .sl n cs .no := rfl
theorem fg_nil (n : Nat) (cs : List LV) : Go.Proofs.Ytmchdjpgceiloaa.forget d (.sl n cs .nil) = .sl n cs .nil := rfl
theorem fg_row (n q : Nat) (cs : List LV) : Go.Proofs.Ytmchdjpgceiloaa.forget d (.sl n cs (.row q)) = if q = d then .sl n cs .no else .sl n cs (.row q) := rfl
theorem fg_ref (cs : List LV) : Go.Proofs.Ytmchdjpgceiloaa.forget d (.ref cs) = .ref cs := rfl
theorem fg_ptr (e o : Nat) : Go.Proofs.Ytmchdjpgceiloaa.forget d (.ptr e o) = if e = d then .any else .ptr e o := rfl
theorem fg_bsl (q n : Nat) (e : TypeId) : Go.Proofs.Ytmchdjpgceiloaa.forget d (.bsl q n e) = if q = d then .any else .bsl q n e := rfl
theorem fg_aptr (e o : Nat) : Go.Proofs.Ytmchdjpgceiloaa.forget d (.aptr e o) = if e = d then .any else .aptr e o := rfl
theorem fg1_bsl (q n : Nat) (e : TypeId) : forget1 d (.bsl q n e) = if q = d then .any else .bsl q n e := rfl
theorem fg1_aptr (e o : Nat) : forget1 d (.aptr e o) = if e = d then .any else .aptr e o := rfl
theorem fg_agg (cs : List LV) : Go.Proofs.Ytmchdjpgceiloaa.forget d (.agg cs) = .agg (cs.map (forget1 d)) := rfl
theorem fg_tup (cs : List LV) : Go.Proofs.Ytmchdjpgceiloaa.forget d (.tup cs) = .tup (cs.map (forget2 d)) := rfl
theorem fg1_any : forget1 d .any = .any := rfl
theorem fg1_lit (v : Value) : forget1 d (.lit v) = .lit v := rfl
theorem fg1_no (n : Nat) (cs : List LV) : forget1 d (.sl n cs .no) = .sl n cs .no := rfl
theorem fg1_nil (n : Nat) (cs : List LV) : forget1 d (.sl n cs .nil) = .sl n cs .nil := rfl
theorem fg1_row (n q : Nat) (cs : List LV) : forget1 d (.sl n cs (.row q)) = if q = d then .sl n cs .no else .sl n cs (.row q) := rfl
theorem fg1_ref (cs : List LV) : forget1 d (.ref cs) = .ref cs := rfl
theorem fg1_ptr (e o : Nat) : forget1 d (.ptr e o) = if e = d then .any else .ptr e o := rfl
theorem fg2_lit (v : Value) : forget2 d (.lit v) = .lit v := rfl
theorem fg2_agg (cs : List LV) : forget2 d (.agg cs) = .agg (cs.map (forget1 d)) := rfl
theorem fg2_no (n : Nat) (cs : List LV) : forget2 d (.sl n cs .no) = .sl n cs .no := rfl
end
theorem st_any : strip .any = .any := rfl
theorem st_lit (v : Value) : strip (.lit v) = .lit v := rfl
theorem st_sl (n : Nat) (cs : List LV) (t : Tok) : strip (.sl n cs t) = .sl n cs .no := rfl
theorem st_ref (cs : List LV) : strip (.ref cs) = .ref cs := rfl
theorem st_ptr (d o : Nat) : strip (.ptr d o) = .any := rfl
theorem st_bsl (d n : Nat) (e : TypeId) : strip (.bsl d n e) = .any := rfl
theorem st_aptr (d o : Nat) : strip (.aptr d o) = .any := rfl
theorem st1_bsl (d n : Nat) (e : TypeId) : strip1 (.bsl d n e) = .any := rfl
theorem st1_aptr (d o : Nat) : strip1 (.aptr d o) = .any := rfl
theorem st_agg (cs : List LV) : strip (.agg cs) = .agg (cs.map strip1) := rfl
theorem st_tup (cs : List LV) : strip (.tup cs) = .tup (cs.map strip2) := rfl
theorem st1_any : strip1 .any = .any := rfl
theorem st1_lit (v : Value) : strip1 (.lit v) = .lit v := rfl
theorem st1_sl (n : Nat) (cs : List LV) (t : Tok) : strip1 (.sl n cs t) = .sl n cs .no := rfl
theorem st1_ref (cs : List LV) : strip1 (.ref cs) = .ref cs := rfl
theorem st1_ptr (d o : Nat) : strip1 (.ptr d o) = .any := rfl
theorem st2_any : strip2 .any = .any := rfl
theorem st2_lit (v : Value) : strip2 (.lit v) = .lit v := rfl
theorem st2_sl (n : Nat) (cs : List LV) (t : Tok) : strip2 (.sl n cs t) = .sl n cs .no := rfl
theorem st2_ref (cs : List LV) : strip2 (.ref cs) = .ref cs := rfl
theorem st2_ptr (d o : Nat) : strip2 (.ptr d o) = .any := rfl
theorem st2_agg (cs : List LV) : strip2 (.agg cs) = .agg (cs.map strip1) := rfl
def LSt.forget (st : LSt) (d : Nat) : LSt :=
  ⟨fun k => Go.Proofs.Ytmchdjpgceiloaa.forget d (st.env k), fun k => if k = d then none else (st.box k).map fun cs => cs.map (forget1 d), upd st.row d none, upd st.arr d none, st.mode, st.val⟩
def LSt.setBox (st : LSt) (d : Nat) (cs : List LV) : LSt := { st with box := upd st.box d (some cs) }
def LSt.setArr (st : LSt) (d : Nat) (cs : List LV) : LSt := { st with arr := upd st.arr d (some cs) }
def LSt.setRow (st : LSt) (d : Nat) (e : TypeId) (n : Nat) : LSt := { st with row := upd st.row d (some (e, n)) }
def oneL : LV → Bool
  | .lit (.agg _) => false
  | .lit (.tuple _) => false
  | .lit _ => true
  | .sl _ _ _ => true
  | .ref _ => true
  | .ptr _ _ => true
  | .bsl _ _ _ => true
  | .aptr _ _ => true
  | _ => false
def bytesL (P : Program) (e : TypeId) : Nat := ((P.info? e).map (·.bytes)).getD 0
def zeroL (P : Program) (e : TypeId) : Option (List LV) :=
  match P.info? e with
  | some i => i.zero.map fun z => z.cells.toList.map toLV
  | none => none
/-- What a slice or a text brings to an append. -/
def newL (A : Nat → Option (List LV)) : LV → Option (Nat × List LV)
  | .sl n cs _ => some (n, cs.map strip1)
  | .bsl d n _ => (A d).map fun cs => (n, cs.map strip1)
  | _ => none
/-- What is asked, and the state behind an operation that makes or writes memory of the call's own. -/
def boxE (st : LSt) (d : Nat) : Option (List LV) → Option (Prop × LSt)
  | some cs => some (True, ((st.forget d).setBox d (cs.map (forget1 d))).put (some d) (.ptr d 0))
  | none => none
def okT (P : Program) (t : TypeId) : Bool := (P.info? t).isSome
def storeTo (P : Program) (st : LSt) (t : TypeId) (d o : Nat) (xs : List LV) : Option (List LV) → Option (Prop × LSt)
  | some cs => some (okT P t = true ∧ sizeL P t = xs.length ∧ o + xs.length ≤ cs.length ∧ xs.all oneL = true, st.setBox d (cs.take o ++ xs ++ cs.drop (o + xs.length)))
  | none => none
def storeArr (P : Program) (st : LSt) (t : TypeId) (d o : Nat) (xs : List LV) : Option (List LV) → Option (Prop × LSt)
  | some cs => some (okT P t = true ∧ sizeL P t = xs.length ∧ o + xs.length ≤ cs.length ∧ xs.all oneL = true ∧ 0 < xs.length, st.setArr d (cs.take o ++ xs.map strip1 ++ cs.drop (o + xs.length)))
  | none => none
def storeE (P : Program) (st : LSt) (t : TypeId) : LV → Option (List LV) → Option (Prop × LSt)
  | .ptr d o, some xs => storeTo P st t d o xs (st.box d)
  | .aptr d o, some xs => storeArr P st t d o xs (st.arr d)
  | _, _ => none
def buildSliceE1 (P : Program) (st : LSt) (d : Nat) (n m : Nat) (e : TypeId) (k : Nat) : Option (List LV) → Option (Prop × LSt)
  | some cs => some (0 < k ∧ m = n ∧ n * k ≤ 16777216 ∧ zeroOk P e = true, (cond (st.mode d) (if n = 0 then (st.forget d).setRow d e n else (st.forget d).setArr d cs) st).put (some d) (cond (st.mode d) (if n = 0 then .sl n cs (.row d) else .bsl d n e) (.sl n cs .no)))
  | none => none
def buildSliceE (P : Program) (st : LSt) (d : Nat) (n : Nat) (parts : List (Nat × LV)) : Option (TypeId × Nat) → Option (Prop × LSt)
  | some (e, k) => buildSliceE1 P st d n parts.length e k (partsL k 0 parts)
  | none => none
/-- What is asked of a private slice that is appended. -/
def bslK (P : Program) (m l : Nat) : LV → Prop
  | .bsl _ _ e => okT P e = true ∧ l = m * sizeL P e ∧ 0 < sizeL P e
  | _ => True
def appendE1 (P : Program) (st : LSt) (d : Nat) (e : TypeId) (k n : Nat) (cs : List LV) (m : Nat) (ds : List LV) (y : LV) : Tok → Option (Prop × LSt)
  | .nil => some (n = 0 ∧ cs.length = n * k ∧ ds.length = m * k ∧ 0 < k ∧ ds.all oneL = true ∧ zeroOk P e = true ∧ (n + m) * bytesL P e ≤ 140737488355328 ∧ n + m ≤ maxLen ∧ bslK P m ds.length y, (cond (st.mode d) ((st.forget d).setArr d (cs ++ ds)) ((st.forget d).setRow d e (n + m))).put (some d) (cond (st.mode d) (.bsl d (n + m) e) (.sl (n + m) (cs ++ ds) (.row d))))
  | .row q => some (cs.length = n * k ∧ ds.length = m * k ∧ 0 < k ∧ ds.all oneL = true ∧ zeroOk P e = true ∧ (n + m) * bytesL P e ≤ 140737488355328 ∧ n + m ≤ maxLen ∧ st.row q = some (e, n) ∧ bslK P m ds.length y, ((st.forget q).setRow q e (n + m)).put (some d) (.sl (n + m) (cs ++ ds) (.row q)))
  | .no => none
def appendA (P : Program) (st : LSt) (d q n : Nat) (e e' : TypeId) (k m : Nat) (ds : List LV) (y : LV) : Option (List LV) → Option (Prop × LSt)
  | some cs => some (e = e' ∧ cs.length = n * k ∧ ds.length = m * k ∧ 0 < k ∧ ds.all oneL = true ∧ zeroOk P e = true ∧ (n + m) * bytesL P e ≤ 140737488355328 ∧ n + m ≤ maxLen ∧ bslK P m ds.length y, ((st.forget q).setArr q (cs ++ ds)).put (some d) (.bsl q (n + m) e))
  | none => none
def appendE (P : Program) (st : LSt) (d : Nat) (y : LV) : Option (TypeId × Nat) → LV → Option (Nat × List LV) → Option (Prop × LSt)
  | some (e, k), .sl n cs tk, some (m, ds) => appendE1 P st d e k n cs m ds y tk
  | some (e, k), .bsl q n e', some (m, ds) => appendA P st d q n e e' k m ds y (st.arr q)
  | _, _, _ => none
def appendE2 (P : Program) (st : LSt) (d : Nat) : List Operand → List TypeId → Option (Prop × LSt)
  | [x, y], [t, t'] => if t = t' then appendE P st d (evL st.env y) (elemL P t) (evL st.env x) (newL st.arr (evL st.env y)) else none
  | _, _ => none
/-- An operation that makes or writes memory of the call's own. -/
def effE (P : Program) (st : LSt) : Option Tmp → Op → Option (Prop × LSt)
  | some d, .box _ x => boxE st d (cellsL (evL st.env x))
  | some d, .alloc e => boxE st d (zeroL P e)
  | none, .store t p x => storeE P st t (evL st.env p) (cellsL (evL st.env x))
  | some d, .buildSlice t n parts => buildSliceE P st d n (parts.toList.map fun q => (q.1, evL st.env q.2)) (elemL P t)
  | some d, .call ⟨.builtin .append, args, ts⟩ => appendE2 P st d args.toList ts.toList
  | _, _ => none
/-- By cases of what is computed first. -/
def effK (r : Option (Prop × LSt)) (K : LSt → Prop) : Prop :=
  match r with
  | some (c, st) => c ∧ K st
  | none => False
theorem effK_some (c : Prop) (st : LSt) (K : LSt → Prop) : effK (some (c, st)) K = (c ∧ K st) := rfl
theorem effK_none (K : LSt → Prop) : effK none K = False := rfl
@[congr] theorem effK_congr {r r' : Option (Prop × LSt)} {K : LSt → Prop} (h : r = r') : effK r K = effK r' K := by rw [h]
def callK (P : Program) (c : Option (FuncId × List Operand)) (ρ : Operand → LV) (K : LV → Prop) (A : Prop) : Prop :=
  match c with
  | some (f, args) => lcall P f ((args.map ρ).map strip) K
  | none => A
theorem callK_some (P : Program) (f : FuncId) (args : List Operand) (ρ : Operand → LV) (K : LV → Prop) (A : Prop) : callK P (some (f, args)) ρ K A = lcall P f ((args.map ρ).map strip) K := rfl
theorem callK_none (P : Program) (ρ : Operand → LV) (K : LV → Prop) (A : Prop) : callK P none ρ K A = A := rfl
@[congr] theorem callK_congr {P : Program} {c c' : Option (FuncId × List Operand)} {ρ : Operand → LV} {K : LV → Prop} {A : Prop} (h : c = c') : callK P c ρ K A = callK P c' ρ K A := by rw [h]
def pvK (v : Option LV) (K : LV → Prop) (A : Prop) : Prop :=
  match v with
  | some x => K x
  | none => A
theorem pvK_some (x : LV) (K : LV → Prop) (A : Prop) : pvK (some x) K A = K x := rfl
theorem pvK_none (K : LV → Prop) (A : Prop) : pvK none K A = A := rfl
@[congr] theorem pvK_congr {v v' : Option LV} {K : LV → Prop} {A : Prop} (h : v = v') : pvK v K A = pvK v' K A := by rw [h]
def guardK (g : Option (Bool × Bool)) (A B : Prop) : Prop :=
  match g with
  | some (want, b) => wantK want b A B
  | none => False
theorem guardK_some (want b : Bool) (A B : Prop) : guardK (some (want, b)) A B = wantK want b A B := rfl
theorem guardK_none (A B : Prop) : guardK none A B = False := rfl
@[congr] theorem guardK_congr {g g' : Option (Bool × Bool)} {A B : Prop} (h : g = g') : guardK g A B = guardK g' A B := by rw [h]
def lop (P : Program) (o : Oper) (st : LSt) (K : LSt → Prop) : Prop :=
  pvK (pv P (evL st.env) st.box st.arr o.op) (fun x => K (st.put o.dst x)) (callK P (callOf o.op) (evL st.env) (fun r => K (st.put o.dst (strip r))) (effK (effE P st o.dst o.op) K))
def dstOk (N : Nat) : Option Tmp → Bool
  | none => true
  | some d => decide (d < N)
/-- The operations in the order of the text. -/
def lops (P : Program) (N : Nat) (ops : Array Oper) : List Oper → (LSt → Prop) → LSt → Prop
  | [], K, st => K st
  | o :: rest, K, st => dstOk N o.dst = true ∧
    guardK (guardL ops o st.env) (lop P o st (lops P N ops rest K)) (lops P N ops rest K (st.put o.dst (.lit undef)))
/-- An operation that reads or calls. -/
def pureB (o : Oper) : Bool :=
  match o.op with
  | .box _ _ => false
  | .alloc _ => false
  | .store _ _ _ => false
  | .select _ _ => false
  | .call ⟨.builtin .append, _, _⟩ => false
  | _ => true
/-- A slice that is made is no private one. -/
def bmode (md : Nat → Bool) (o : Oper) : Bool :=
  match o.op, o.dst with
  | .buildSlice _ _ _, some d => !md d
  | _, _ => true
section
variable {P : Program} {N : Nat} {w0 : World} {S0 : Ent} {ops : Array Oper} {md : Region.Mode}
theorem dstOk_spec {dst : Option Tmp} (h : dstOk N dst = true) : ∀ d, dst = some d → d < N := by
  rintro d rfl; simpa [dstOk] using h
theorem lop_pure {o : Oper} {st : LSt} {K : LSt → Prop} (hp : pureB o = true) (hmd : bmode st.mode o = true) (h : lop P o st K) : ∃ x, LVal P (evL st.env) st.box st.arr o.op x ∧ K (st.put o.dst x) := by
  unfold lop at h
  cases hx : pv P (evL st.env) st.box st.arr o.op with
  | some x => rw [hx] at h; exact ⟨x, .inl hx, h⟩
  | none =>
    rw [hx, pvK_none] at h
    cases hc : callOf o.op with
    | some fa =>
      obtain ⟨f, args⟩ := fa
      rw [hc] at h
      obtain ⟨r, hr, hK⟩ := h
      exact ⟨strip r, .inr (.inl ⟨f, args, r, hc, hr, rfl⟩), hK⟩
    | none =>
      rw [hc, callK_none] at h
      obtain ⟨dst, op, type, pos, after, guard⟩ := o
      simp only at h
      cases he : effE P st dst op with
      | none => rw [he] at h; exact h.elim
      | some cs =>
        rw [he] at h
        unfold effE at he
        split at he
        · cases hp
        · cases hp
        · cases hp
        · rename_i d t n parts
          have hm : st.mode d = false := by simpa [bmode] using hmd
          cases hek : elemL P t with
          | none => rw [hek] at he; cases he
          | some ek =>
            obtain ⟨e, k⟩ := ek
            rw [hek] at he
            simp only [buildSliceE] at he
            cases hcs : partsL k 0 (parts.toList.map fun q => (q.1, evL st.env q.2)) with
            | none => rw [hcs] at he; cases he
            | some xs =>
              rw [hcs] at he
              cases he
              obtain ⟨⟨h1, h2, h3, h4⟩, hK⟩ := h
              rw [hm, cond_false, cond_false] at hK
              rw [List.length_map] at h2
              have hbv : buildV P (evL st.env) (.buildSlice t n parts) = some ((0 < k ∧ parts.toList.length = n ∧ n * k ≤ 16777216 ∧ zeroOk P e = true), .sl n xs .no) := by simp only [buildV, hek, hcs, Option.map_some]
              exact ⟨.sl n xs .no, .inr (.inr ⟨_, hbv, h1, h2, h3, h4⟩), hK⟩
        · cases hp
        · cases he
theorem lop_mono {o : Oper} {st : LSt} {K K' : LSt → Prop} (hK : ∀ st, K st → K' st) (h : lop P o st K) : lop P o st K' := by
  unfold lop at h ⊢
  cases hx : pv P (evL st.env) st.box st.arr o.op with
  | some x => rw [hx] at h; exact hK _ h
  | none =>
    rw [hx, pvK_none] at h
    rw [pvK_none]
    cases hc : callOf o.op with
    | some fa =>
      obtain ⟨f, args⟩ := fa
      rw [hc] at h
      obtain ⟨r, hr, h2⟩ := h
      exact ⟨r, hr, hK _ h2⟩
    | none =>
      rw [hc, callK_none] at h
      rw [callK_none]
      cases he : effE P st o.dst o.op with
      | none => rw [he] at h; exact h
      | some cs => obtain ⟨c, st'⟩ := cs; rw [he] at h; exact ⟨h.1, hK _ h.2⟩
/-! ### In whatever order -/
def YieldsL (P : Program) (ops : Array Oper) (o : Oper) (x : LV) (st : LSt) : Prop :=
  (wantL ops o st.env = some true ∧ LVal P (evL st.env) st.box st.arr o.op x) ∨ (wantL ops o st.env = some false ∧ x = .lit undef)
def lqOp (P : Program) (ops : Array Oper) (i : Nat) (K : LSt → Prop) (st : LSt) : Prop :=
  match ops[i]? with
  | none => K st
  | some o => ∃ x, YieldsL P ops o x st ∧ K (st.put o.dst x)
theorem lqOp_mono {i : Nat} {st : LSt} {K K' : LSt → Prop} (h : ∀ st, K st → K' st) (hh : lqOp P ops i K st) : lqOp P ops i K' st := by
  unfold lqOp at *
  split
  · rename_i ho; simp only [ho] at hh; exact h _ hh
  · rename_i o ho; simp only [ho] at hh; obtain ⟨x, h1, h2⟩ := hh; exact ⟨x, h1, h _ h2⟩
theorem put_comm {st : LSt} {x y : Option Tmp} (v u : LV) (h : ∀ d, x = some d → y ≠ some d) : (st.put x v).put y u = (st.put y u).put x v := by
  cases x with
  | none => rfl
  | some d => cases y with
    | none => rfl
    | some e =>
      have hne : d ≠ e := fun he => h d rfl (he ▸ rfl)
      simp only [LSt.put]
      have key : ∀ {β : Type} (f : Nat → β) (p q : β), upd (upd f d p) e q = upd (upd f e q) d p := by
        intro β f p q
        funext k
        simp only [upd]
        by_cases h1 : k = e
        · have h3 : ¬ k = d := fun h => hne (h.symm.trans h1)
          rw [if_pos h1, if_neg h3, if_pos h1]
        · by_cases h2 : k = d
          · rw [if_neg h1, if_pos h2, if_pos h2]
          · rw [if_neg h1, if_neg h2, if_neg h2, if_neg h1]
      rw [key, key]
theorem put_box (st : LSt) (dst : Option Tmp) (v : LV) : (st.put dst v).box = st.box := by cases dst <;> rfl
theorem put_mode (st : LSt) (dst : Option Tmp) (v : LV) : (st.put dst v).mode = st.mode := by cases dst <;> rfl
theorem put_arr (st : LSt) (dst : Option Tmp) (v : LV) : (st.put dst v).arr = st.arr := by cases dst <;> rfl
theorem put_env_ne {st : LSt} {dst : Option Tmp} {v : LV} {t : Nat} (h : dst ≠ some t) : (st.put dst v).env t = st.env t := by
  cases dst with
  | none => rfl
  | some d => simp only [LSt.put]; exact upd_ne _ _ (fun e => h (by rw [e]))
theorem YieldsL.put {o : Oper} {x : LV} {st : LSt} {dst : Option Tmp} (v : LV) (h : ∀ d, dst = some d → d ∉ o.looksAt ops) : YieldsL P ops o x (st.put dst v) ↔ YieldsL P ops o x st := by
  have hw : wantL ops o (st.put dst v).env = wantL ops o st.env := by
    unfold wantL
    cases hg : o.guard with
    | none => rfl
    | some jw =>
      obtain ⟨j, want⟩ := jw
      simp only
      cases hj : (ops[j]?).bind (·.dst) with
      | none => rfl
      | some t =>
        simp only
        rw [put_env_ne (fun e => h t e (by simp [Oper.looksAt, hg, hj]))]
  have hρ : ∀ y ∈ o.op.operands, evL (st.put dst v).env y = evL st.env y := by
    intro y hy
    cases y with
    | tmp t => exact put_env_ne (fun e => h t e (List.mem_append_left _ (List.mem_filterMap.2 ⟨.tmp t, by simpa using hy, rfl⟩)))
    | _ => rfl
  unfold YieldsL
  rw [hw, put_box, put_arr]
  constructor
  · rintro (⟨h1, h2⟩ | h1)
    · exact .inl ⟨h1, h2.congr hρ⟩
    · exact .inr h1
  · rintro (⟨h1, h2⟩ | h1)
    · exact .inl ⟨h1, h2.congr fun y hy => (hρ y hy).symm⟩
    · exact .inr h1
theorem lqOp_put {j : Nat} {oi oj : Oper} {v : LV} (hj : ops[j]? = some oj) (hap : oi.apart ops oj = true) {K : LSt → Prop} {st : LSt}
    (hy : YieldsL P ops oi v st) (h : lqOp P ops j K (st.put oi.dst v)) : lqOp P ops j (fun st' => YieldsL P ops oi v st' ∧ K (st'.put oi.dst v)) st := by
  obtain ⟨h1, h2, h3⟩ := Oper.apart_spec hap
  unfold lqOp at *
  simp only [hj] at *
  obtain ⟨u, hu, hn⟩ := h
  exact ⟨u, (YieldsL.put v h1).1 hu, (YieldsL.put u h3).2 hy, by rw [← put_comm v u h2]; exact hn⟩
def anyL (P : Program) (md : Region.Mode) (ops : Array Oper) (Q : LSt → Prop) : Nat → Array Bool → LSt → Prop
  | 0, listed, st => Region.ready md ops listed = [] ∧ Q st
  | fuel + 1, listed, st => (Region.ready md ops listed = [] → Q st) ∧ ∀ i ∈ Region.ready md ops listed, lqOp P ops i (anyL P md ops Q fuel (listed.setIfInBounds i true)) st
theorem anyL_first {Q : LSt → Prop} {i : Nat} {oi : Oper} {v : LV} (hi : ops[i]? = some oi) :
    ∀ (fuel : Nat) (listed : Array Bool) (st : LSt),
      (∀ j oj, ops[j]? = some oj → j ≠ i → listed.getD j true = false → (∀ e ∈ oj.after, Region.binds md e = true → e.on ≠ i) → oi.apart ops oj = true) →
      i ∈ Region.ready md ops listed → YieldsL P ops oi v st →
      anyL P md ops Q fuel (listed.setIfInBounds i true) (st.put oi.dst v) → anyL P md ops Q (fuel + 1) listed st := by
  intro fuel
  have self : ∀ {st : LSt} {K : LSt → Prop}, YieldsL P ops oi v st → K (st.put oi.dst v) → lqOp P ops i K st := by
    intro st K hy hK
    unfold lqOp; simp only [hi]; exact ⟨v, hy, hK⟩
  induction fuel with
  | zero =>
    intro listed st _ hr hy H
    refine ⟨fun h => (by rw [h] at hr; cases hr), fun j hj => ?_⟩
    by_cases hji : j = i
    · subst hji; exact self hy H
    · have := ready_mono hj hji
      rw [H.1] at this
      cases this
  | succ fuel ih =>
    intro listed st hfree hr hy H
    refine ⟨fun h => (by rw [h] at hr; cases hr), fun j hj => ?_⟩
    by_cases hji : j = i
    · subst hji; exact self hy H
    · have h1 := H.2 j (ready_mono hj hji)
      obtain ⟨hjun, oj, hoj, hall⟩ := mem_ready.1 hj
      have hnot : ∀ e ∈ oj.after, Region.binds md e = true → e.on ≠ i := fun e he hb heq => by
        have h1 := hall e he hb
        have h0 := (mem_ready.1 hr).1
        rw [heq] at h1
        rcases Nat.lt_or_ge i listed.size with h' | h'
        · simp [h'] at h0 h1; rw [h0] at h1; cases h1
        · simp [Array.getElem?_eq_none h'] at h1
      have h2 := lqOp_put hoj (hfree j oj hoj hji hjun hnot) hy h1
      have hfree' : ∀ k ok, ops[k]? = some ok → k ≠ i → (listed.setIfInBounds j true).getD k true = false →
          (∀ e ∈ ok.after, Region.binds md e = true → e.on ≠ i) → oi.apart ops ok = true := fun k ok hk hki hun hno => by
        refine hfree k ok hk hki ?_ hno
        by_cases hjk : j = k
        · subst hjk; exact hjun
        · rw [getD_set_ne true hjk] at hun; exact hun
      refine lqOp_mono (fun st' h3 => ih (listed.setIfInBounds j true) st' hfree' (ready_mono hr (Ne.symm hji)) h3.1 ?_) h2
      rw [Array.setIfInBounds_comm _ _ hji]
      exact h3.2
theorem anyL_lex {Q : LSt → Prop} : ∀ (l : List Oper) (k : Nat) (listed : Array Bool) (st : LSt), (∀ j, l[j]? = ops[k + j]?) →
    Region.lexFrom md ops l.length k listed = true → l.all pureB = true → l.all (bmode st.mode) = true → lops P N ops l Q st → anyL P md ops Q l.length listed st
  | [], _, _, _, _, hB, _, _, h => ⟨by simpa [Region.lexFrom] using hB, h⟩
  | o :: l, k, listed, st, hl, hB, hp, hmd, h => by
    have h0 : ops[k]? = some o := by simpa using (hl 0).symm
    simp only [List.length_cons, Region.lexFrom, Bool.and_eq_true] at hB
    obtain ⟨⟨hr, hf⟩, hB'⟩ := hB
    rw [List.all_cons, Bool.and_eq_true] at hp hmd
    obtain ⟨hd, h⟩ := h
    have hst : ∃ v, YieldsL P ops o v st ∧ lops P N ops l Q (st.put o.dst v) := by
      cases hg : guardL ops o st.env with
      | some wb =>
        obtain ⟨want, b⟩ := wb
        rw [hg] at h
        have hw := guardL_want hg
        cases hc : wantB b want
        · rw [hc] at hw; exact ⟨_, .inr ⟨hw, rfl⟩, h.2 hc⟩
        · rw [hc] at hw
          obtain ⟨x, h1, h2⟩ := lop_pure hp.1 hmd.1 (h.1 hc)
          exact ⟨x, .inl ⟨hw, h1⟩, h2⟩
      | none => rw [hg] at h; exact h.elim
    obtain ⟨v, hy, hK⟩ := hst
    exact anyL_first h0 l.length listed st (Region.free_spec h0 hf) (by simpa using hr) hy
      (anyL_lex l (k + 1) _ _ (fun j => by have := hl (j + 1); simpa [Nat.add_assoc, Nat.add_comm 1 j] using this) hB' hp.2 (by rw [put_mode]; exact hmd.2) hK)
theorem wpAny_of_anyL {Q : LSt → Prop} {Q' : Exit → Act → World → Prop} (hd : ∀ (i : Nat) (o : Oper), ops[i]? = some o → dstOk N o.dst = true) (hQ : ∀ st a w, Rel P N w0 S0 st a w → Q st → Q' .normal a w) :
    ∀ (fuel : Nat) (listed : Array Bool) (st : LSt) (a : Act) (w : World), Rel P N w0 S0 st a w → anyL P md ops Q fuel listed st → wpAny P md ops Q' fuel listed a w
  | 0, _, _, _, _, hr, h => ⟨h.1, hQ _ _ _ hr h.2⟩
  | fuel + 1, _, st, a, w, hr, h => by
    refine ⟨fun h0 => hQ _ _ _ hr (h.1 h0), fun i hi => ?_⟩
    have h1 := h.2 i hi
    unfold lqOp at h1
    unfold wpOp
    split
    · rename_i ho; simp only [ho] at h1; exact wpAny_of_anyL hd hQ fuel _ st a w hr h1
    · rename_i o ho
      simp only [ho] at h1
      obtain ⟨x, hy, hK⟩ := h1
      obtain ⟨g, hg⟩ := hr
      rcases hy with ⟨hw, hv⟩ | ⟨hw, rfl⟩
      · rw [wantL_run hg.env hw, if_pos rfl]
        exact .inl (hv.wp hg (dstOk_spec (hd i o ho)) fun a' w' hr' => wpAny_of_anyL hd hQ fuel _ _ a' w' hr' hK)
      · rw [wantL_run hg.env hw, if_neg (by simp)]
        exact wpAny_of_anyL hd hQ fuel _ _ _ _ ⟨g, hg.put (dstOk_spec (hd i o ho)) (.lit _ _)⟩ hK
theorem Rel.drew {st : LSt} {a : Act} {w : World} (h : Rel P N w0 S0 st a w) : Rel P N w0 S0 st a { w with drawn := w.drawn + 1 } := by
  obtain ⟨g, hg⟩ := h
  exact ⟨_, hg.grow (G.drew w) (fun _ _ _ => Iff.rfl) hg.wf⟩
/-- A region that only reads and calls, in whatever order. -/
theorem region_any {id : Nat} {l : List Oper} {Q : LSt → Prop} {Q' : Exit → Act → World → Prop} {st : LSt} {a : Act} {w : World} (hm : P.follows .mixedOrders = true) (hB : Region.lexB .any l.toArray = true) (hp : l.all (fun o => pureB o && dstOk N o.dst) = true) (hmd : l.all (bmode st.mode) = true)
    (h : Rel P N w0 S0 st a w) (hl : lops P N l.toArray l Q st) (hQ : ∀ st a w, Rel P N w0 S0 st a w → Q st → Q' .normal a w) : (Code.region id l.toArray true).wp P Q' a w := by
  simp only [Region.lexB, Bool.and_eq_true] at hB
  have hp1 : l.all pureB = true := by
    rw [List.all_eq_true] at hp ⊢
    exact fun o ho => (Bool.and_eq_true _ _ ▸ hp o ho).1
  have hp2 : ∀ (i : Nat) (o : Oper), l.toArray[i]? = some o → dstOk N o.dst = true := fun i o ho => by
    rw [List.all_eq_true] at hp
    have : o ∈ l := by rw [List.getElem?_toArray] at ho; exact List.mem_of_getElem? ho
    exact (Bool.and_eq_true _ _ ▸ hp o this).2
  refine wp_region_any hm (wpAny_of_anyL hp2 hQ _ _ _ _ _ h.drew ?_)
  have := anyL_lex (P := P) (N := N) (md := .any) (ops := l.toArray) l 0 (Array.replicate l.toArray.size false) st (by simp) (by simpa using hB.2) hp1 hmd hl
  simpa using this
end
/-! ### The same step by step, nothing behind the step looked at -/
def gop (g : Option (Bool × Bool)) (P : Program) (N : Nat) (ops : Array Oper) (o : Oper) (rest : List Oper) (K : LSt → Prop) (st : LSt) : Prop :=
  guardK g (lop P o st (lops P N ops rest K)) (lops P N ops rest K (st.put o.dst (.lit undef)))
def pop (v : Option LV) (P : Program) (N : Nat) (ops : Array Oper) (o : Oper) (rest : List Oper) (K : LSt → Prop) (st : LSt) : Prop :=
  pvK v (fun x => lops P N ops rest K (st.put o.dst x)) (callK P (callOf o.op) (evL st.env) (fun r => lops P N ops rest K (st.put o.dst (strip r))) (effK (effE P st o.dst o.op) (lops P N ops rest K)))
def cop (c : Option (FuncId × List Operand)) (P : Program) (N : Nat) (ops : Array Oper) (o : Oper) (rest : List Oper) (K : LSt → Prop) (st : LSt) : Prop :=
  callK P c (evL st.env) (fun r => lops P N ops rest K (st.put o.dst (strip r))) (effK (effE P st o.dst o.op) (lops P N ops rest K))
def eop (r : Option (Prop × LSt)) (P : Program) (N : Nat) (ops : Array Oper) (rest : List Oper) (K : LSt → Prop) : Prop := effK r (lops P N ops rest K)
section
variable (P : Program) (N : Nat) (ops : Array Oper) (o : Oper) (rest : List Oper) (K : LSt → Prop) (st : LSt)
theorem lops_nil : lops P N ops [] K st = K st := rfl
theorem lops_c : lops P N ops (o :: rest) K st = (dstOk N o.dst = true ∧ gop (guardL ops o st.env) P N ops o rest K st) := rfl
theorem gop_tt : gop (some (true, true)) P N ops o rest K st = pop (pv P (evL st.env) st.box st.arr o.op) P N ops o rest K st := by unfold gop; rw [guardK_some, wantK_tt]; rfl
theorem gop_ff : gop (some (false, false)) P N ops o rest K st = pop (pv P (evL st.env) st.box st.arr o.op) P N ops o rest K st := by unfold gop; rw [guardK_some, wantK_ff]; rfl
theorem gop_tf : gop (some (true, false)) P N ops o rest K st = lops P N ops rest K (st.put o.dst (.lit undef)) := by unfold gop; rw [guardK_some, wantK_tf]
theorem gop_ft : gop (some (false, true)) P N ops o rest K st = lops P N ops rest K (st.put o.dst (.lit undef)) := by unfold gop; rw [guardK_some, wantK_ft]
theorem pop_some (x : LV) : pop (some x) P N ops o rest K st = lops P N ops rest K (st.put o.dst x) := rfl
theorem pop_none : pop none P N ops o rest K st = cop (callOf o.op) P N ops o rest K st := rfl
theorem cop_none : cop none P N ops o rest K st = eop (effE P st o.dst o.op) P N ops rest K := rfl
theorem eop_some (c : Prop) (st' : LSt) : eop (some (c, st')) P N ops rest K = (c ∧ lops P N ops rest K st') := rfl
variable {P N ops o rest K st}
theorem cop_intro {f : FuncId} {args : List Operand} {args' : List LV} {r : LV} (ha : (args.map (evL st.env)).map strip = args') (hc : LCalls P f args' r) (hk : lops P N ops rest K (st.put o.dst (strip r))) : cop (some (f, args)) P N ops o rest K st := by
  subst ha; exact ⟨r, hc, hk⟩
theorem gop_t {b : Bool} (h1 : b = true → gop (some (true, true)) P N ops o rest K st) (h2 : b = false → gop (some (true, false)) P N ops o rest K st) : gop (some (true, b)) P N ops o rest K st := by
  cases b
  · exact h2 rfl
  · exact h1 rfl
theorem gop_f {b : Bool} (h1 : b = true → gop (some (false, true)) P N ops o rest K st) (h2 : b = false → gop (some (false, false)) P N ops o rest K st) : gop (some (false, b)) P N ops o rest K st := by
  cases b
  · exact h2 rfl
  · exact h1 rfl
end
end Go.Proofs.Ytmchdjpgceiloaa
