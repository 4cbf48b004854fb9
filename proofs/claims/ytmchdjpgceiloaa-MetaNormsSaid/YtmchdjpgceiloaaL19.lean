/-
  REGIONS WITH CALLS THAT TAKE OVER AND GIVE BACK: in the order of the text.
-/
import Derived.Test.YtmchdjpgceiloaaL18
set_option linter.unusedSimpArgs false
set_option linter.unusedVariables false
namespace Go.Proofs.Ytmchdjpgceiloaa
open Go.RowKit

/-- Such a call, as it is used: its contract; what is taken over (the caller's name, the callee's); what comes back (the callee's name, the caller's). -/
structure OCD (P : Program) where
  f : FuncId
  args : List LV
  I : Own
  r : LV
  R : Own
  ha : List (Nat × Nat)
  ba : List (Nat × Nat)
  ok : OCalls P f args I r R
  hoa : okAl ha = true
  hob : okAl ba = true
def firsts : List (Nat × Nat) → List Nat
  | [] => []
  | (a, _) :: r => a :: firsts r
def seconds : List (Nat × Nat) → List Nat
  | [] => []
  | (_, b) :: r => b :: seconds r
theorem firsts_eq : ∀ l, firsts l = l.map (·.1)
  | [] => rfl
  | (a, b) :: r => by rw [firsts, firsts_eq r]; rfl
theorem seconds_eq : ∀ l, seconds l = l.map (·.2)
  | [] => rfl
  | (a, b) :: r => by rw [seconds, seconds_eq r]; rfl
section
variable {P : Program} {N : Nat} {w0 : World} {S0 : Ent}
def ocOk (st : LSt) (f : FuncId) (args : List Operand) (C : OCD P) : Prop :=
  f = C.f ∧ (args.map (evL st.env)).map (ren C.ha) = C.args ∧ allO (fun c e => (bkL C.ha c).bind st.row = some e) C.I.ro ∧ allO (fun c cs => (bkL C.ha c).bind st.arr = some cs) C.I.ar ∧ allO (fun c cs => ((bkL C.ha c).bind st.box).map (fun l => l.map (ren1 C.ha)) = some cs) C.I.bx
def ocNext (st : LSt) (d : Nat) (C : OCD P) : LSt := (st.ocall (firsts C.ha ++ seconds C.ba) C.ba C.R).put (some d) (ren C.ba C.r)
def ocAt (oc : List (Nat × OCD P)) : Option Tmp → Op → Option ((FuncId × List Operand) × Nat × OCD P)
  | some d, op => match alook oc d with | some C => (callOf op).map fun fa => (fa, d, C) | none => none
  | none, _ => none
/-- What must not turn, and what is asked of that. -/
def disjL (l : List Nat) : List Nat → Bool
  | [] => true
  | a :: r => !memL l a && disjL l r
def stab1 (SB : List Nat) : LV → Bool
  | .lit _ => true
  | .any => true
  | .ref _ => true
  | .sl _ _ (.row q) => memL SB q
  | .sl _ _ _ => true
  | .ptr d _ => memL SB d
  | .bsl d _ _ => memL SB d
  | .aptr d _ => memL SB d
  | _ => false
def stab2 (SB : List Nat) : LV → Bool
  | .agg cs => cs.all (stab1 SB)
  | x => stab1 SB x
def stab (SB : List Nat) : LV → Bool
  | .tup cs => cs.all (stab2 SB)
  | x => stab2 SB x
def bxStab (SB : List Nat) (B : Nat → Option (List LV)) : LV → Bool
  | .ptr e _ => match B e with | some cs => cs.all (stab1 SB) | none => true
  | _ => true
def opsStab (SB : List Nat) (st : LSt) (op : Op) : Bool := op.operands.toList.all fun y => stab SB (evL st.env y) && bxStab SB st.box (evL st.env y)
def idsOf : LV → List Nat
  | .sl _ _ (.row q) => [q]
  | .ptr d _ => [d]
  | .bsl d _ _ => [d]
  | .aptr d _ => [d]
  | _ => []
/-- The names that an operation turns. -/
def touch (st : LSt) : Option Tmp → Op → List Nat
  | some d, .call ⟨.builtin .append, ⟨x :: _⟩, _⟩ => d :: idsOf (evL st.env x)
  | some d, _ => [d]
  | none, .store _ p _ => idsOf (evL st.env p)
  | none, _ => []
def mOk (m : Option (List Nat)) (f : List Nat → Bool) : Bool := match m with | none => true | some l => f l
theorem mOk_none (f : List Nat → Bool) : mOk none f = true := rfl
theorem mOk_some (l : List Nat) (f : List Nat → Bool) : mOk (some l) f = f l := rfl
def effOk (SB : List Nat) (st : LSt) (dst : Option Tmp) (op : Op) : Bool :=
  match op, dst with
  | .buildSlice t n ps, some d => cond (st.mode d) (disjL SB [d]) (opsStab SB st (.buildSlice t n ps))
  | op, dst => disjL SB (touch st dst op)
def stOk (SB : List Nat) (st : LSt) (op : Op) (x : LV) : Bool := opsStab SB st op && stab SB x
def lopX (P : Program) (oc : List (Nat × OCD P)) (m : Option (List Nat)) (o : Oper) (st : LSt) (K : LSt → Prop) : Prop :=
  match ocAt oc o.dst o.op with
  | some q => (ocOk st q.1.1 q.1.2 q.2.2 ∧ mOk m (fun SB => disjL SB (firsts q.2.2.ha ++ seconds q.2.2.ba) && disjL SB [q.2.1]) = true) ∧ K (ocNext st q.2.1 q.2.2)
  | none => pvK (pv P (evL st.env) st.box st.arr o.op) (fun x => mOk m (fun SB => stOk SB st o.op x) = true ∧ K (st.put o.dst x))
      (callK P (callOf o.op) (evL st.env) (fun r => mOk m (fun SB => stOk SB st o.op (strip r)) = true ∧ K (st.put o.dst (strip r))) (effK (effE P st o.dst o.op) fun st' => mOk m (fun SB => effOk SB st o.dst o.op) = true ∧ K st'))
def lopsX (P : Program) (N : Nat) (oc : List (Nat × OCD P)) (ops : Array Oper) : List (Option (List Nat) × Oper) → (LSt → Prop) → LSt → Prop
  | [], K, st => K st
  | (m, o) :: rest, K, st => dstOk N o.dst = true ∧
    guardK (guardL ops o st.env) (lopX P oc m o st (lopsX P N oc ops rest K)) (lopsX P N oc ops rest K (st.put o.dst (.lit undef)))
theorem lopX_mono {oc : List (Nat × OCD P)} {m : Option (List Nat)} {o : Oper} {st : LSt} {K K' : LSt → Prop} (hK : ∀ st, K st → K' st) (h : lopX P oc m o st K) : lopX P oc m o st K' := by
  unfold lopX at h ⊢
  cases hq : ocAt oc o.dst o.op with
  | some q => rw [hq] at h; exact ⟨h.1, hK _ h.2⟩
  | none =>
    rw [hq] at h
    simp only at h ⊢
    cases hx : pv P (evL st.env) st.box st.arr o.op with
    | some x => rw [hx] at h; exact ⟨h.1, hK _ h.2⟩
    | none =>
      rw [hx, pvK_none] at h
      rw [pvK_none]
      cases hc : callOf o.op with
      | some fa =>
        obtain ⟨f, args⟩ := fa
        rw [hc] at h
        obtain ⟨r, hr, h2⟩ := h
        exact ⟨r, hr, h2.1, hK _ h2.2⟩
      | none =>
        rw [hc, callK_none] at h
        rw [callK_none]
        cases he : effE P st o.dst o.op with
        | none => rw [he] at h; exact h
        | some cs => obtain ⟨c, st'⟩ := cs; rw [he] at h; exact ⟨h.1, h.2.1, hK _ h.2.2⟩
theorem lopsX_mono {oc : List (Nat × OCD P)} {ops : Array Oper} {K K' : LSt → Prop} (hK : ∀ st, K st → K' st) : ∀ (l : List (Option (List Nat) × Oper)) (st : LSt), lopsX P N oc ops l K st → lopsX P N oc ops l K' st
  | [], st, h => hK st h
  | (m, o) :: l, st, h => by
    obtain ⟨hd, h⟩ := h
    refine ⟨hd, ?_⟩
    cases hg : guardL ops o st.env with
    | none => rw [hg] at h; exact h.elim
    | some wb =>
      obtain ⟨want, b⟩ := wb
      rw [hg] at h
      exact ⟨fun hc => lopX_mono (fun st' => lopsX_mono hK l st') (h.1 hc), fun hc => lopsX_mono hK l _ (h.2 hc)⟩
theorem ocAt_spec {oc : List (Nat × OCD P)} {dst : Option Tmp} {op : Op} {q : (FuncId × List Operand) × Nat × OCD P} (h : ocAt oc dst op = some q) : dst = some q.2.1 ∧ callOf op = some q.1 ∧ alook oc q.2.1 = some q.2.2 := by
  unfold ocAt at h
  split at h
  · rename_i d op
    split at h
    · rename_i C hC
      obtain ⟨fa, h1, h2⟩ := Option.map_eq_some_iff.1 h
      subst h2
      exact ⟨rfl, h1, hC⟩
    · cases h
  · cases h
theorem oc_wp {st : LSt} {a : Act} {w : World} {o : Oper} {oc : List (Nat × OCD P)} {q : (FuncId × List Operand) × Nat × OCD P} {K : Act → World → Prop} {Q : Exit → Act → World → Prop} (h : Rel P N w0 S0 st a w) (hd : dstOk N o.dst = true) (hq : ocAt oc o.dst o.op = some q) (hok : ocOk st q.1.1 q.1.2 q.2.2)
    (hK : ∀ a' w', Rel P N w0 S0 (ocNext st q.2.1 q.2.2) a' w' → K a' w') : o.wp P a w K Q := by
  obtain ⟨h1, h2, _⟩ := ocAt_spec hq
  obtain ⟨⟨f, args⟩, d, C⟩ := q
  obtain ⟨dst, op, type, pos, after, guard⟩ := o
  simp only at h1 h2 hd hK hok
  subst h1
  obtain ⟨ts, rfl⟩ := callOf_ops h2
  obtain ⟨rfl, ha, hr, har, hbx⟩ := hok
  have := ocall_mid (P := P) (N := N) (w0 := w0) (S0 := S0) (Kont := fun st' => st' = ocNext st d C) (f := C.f) (args := args.toArray) (args' := C.args) (I := C.I) (R := C.R) (r := C.r) (d := d) (type := type) (pos := pos) (after := after) (guard := guard) (ts := ts) (st := st) C.ha C.ba (firsts C.ha ++ seconds C.ba) (by rw [firsts_eq, seconds_eq]) C.ok (by simpa using ha) C.hoa C.hob (dstOk_spec hd d rfl) hr har hbx rfl
  exact this a w K Q h fun st' a' w' hr' e => hK a' w' (e ▸ hr')
theorem lopX_wp {oc : List (Nat × OCD P)} {m : Option (List Nat)} {st : LSt} {a : Act} {w : World} {o : Oper} {K' : LSt → Prop} {K : Act → World → Prop} {Q : Exit → Act → World → Prop} (h : Rel P N w0 S0 st a w) (hd : dstOk N o.dst = true) (he : lopX P oc m o st K')
    (hK : ∀ st' a' w', Rel P N w0 S0 st' a' w' → K' st' → K a' w') : o.wp P a w K Q := by
  unfold lopX at he
  cases hq : ocAt oc o.dst o.op with
  | some q =>
    rw [hq] at he
    exact oc_wp h hd hq he.1.1 fun a' w' hr => hK _ _ _ hr he.2
  | none =>
    rw [hq] at he
    simp only at he
    refine lop_wp (K' := K') h hd ?_ hK
    unfold lop
    cases hx : pv P (evL st.env) st.box st.arr o.op with
    | some x => rw [hx] at he; exact he.2
    | none =>
      rw [hx, pvK_none] at he
      rw [pvK_none]
      cases hc : callOf o.op with
      | some fa =>
        obtain ⟨f, args⟩ := fa
        rw [hc] at he
        obtain ⟨r, hr, h2⟩ := he
        exact ⟨r, hr, h2.2⟩
      | none =>
        rw [hc, callK_none] at he
        rw [callK_none]
        cases hs : effE P st o.dst o.op with
        | none => rw [hs] at he; exact he
        | some cs => obtain ⟨c, st'⟩ := cs; rw [hs] at he; exact ⟨he.1, he.2.2⟩
theorem lopsX_wp {oc : List (Nat × OCD P)} {ops : Array Oper} {Q' : Exit → Act → World → Prop} : ∀ (l : List (Option (List Nat) × Oper)) (K : LSt → Prop) (st : LSt) (a : Act) (w : World), Rel P N w0 S0 st a w → lopsX P N oc ops l K st → (∀ st a w, Rel P N w0 S0 st a w → K st → Q' .normal a w) → wpList P ops Q' (l.map (·.2)) a w
  | [], K, st, a, w, h, hl, hQ => hQ _ _ _ h hl
  | (m, o) :: rest, K, st, a, w, h, hl, hQ => by
    obtain ⟨hd, hl⟩ := hl
    rw [List.map_cons]
    unfold wpList
    obtain ⟨g, hg⟩ := h
    cases hgd : guardL ops o st.env with
    | some wb =>
      obtain ⟨want, b⟩ := wb
      rw [hgd] at hl
      have hw := guardL_want hgd
      cases hc : wantB b want
      · rw [hc] at hw
        rw [wantL_run hg.env hw, if_neg (by simp)]
        exact lopsX_wp rest K _ _ _ ⟨g, hg.put (dstOk_spec hd) (.lit _ _)⟩ (hl.2 hc) hQ
      · rw [hc] at hw
        rw [wantL_run hg.env hw, if_pos rfl]
        exact .inl (lopX_wp ⟨g, hg⟩ hd (hl.1 hc) fun st' a' w' hr hk => lopsX_wp rest K st' a' w' hr hk hQ)
    | none => rw [hgd] at hl; exact hl.elim
def noM : List Oper → List (Option (List Nat) × Oper)
  | [] => []
  | o :: r => (none, o) :: noM r
theorem noM_map : ∀ l : List Oper, (noM l).map (·.2) = l
  | [] => rfl
  | o :: r => by rw [noM, List.map_cons, noM_map r]
/-- A region in the order of the text, with such calls. -/
theorem LW_regionO {Q : Exit → LSt → Prop} {st : LSt} {id : Nat} {l : List Oper} (oc : List (Nat × OCD P)) (h : ∀ K : LSt → Prop, (∀ st', Q .normal st' → K st') → lopsX P N oc l.toArray (noM l) K st) : LW P N w0 S0 (.region id l.toArray false) Q st := by
  intro a w hr
  refine wp_region_lit ?_
  have := lopsX_wp (Q' := fun e a' w' => ∃ st', Rel P N w0 S0 st' a' w' ∧ Q e st') (noM l) (Q .normal) st a w hr (h _ fun _ h => h) fun st' a' w' h1 h2 => ⟨st', h1, h2⟩
  rwa [noM_map] at this
end
/-! ### Step by step, nothing behind the step looked at -/
section
variable {P : Program} (N : Nat) (oc : List (Nat × OCD P)) (ops : Array Oper) (m : Option (List Nat)) (o : Oper) (rest : List (Option (List Nat) × Oper)) (K : LSt → Prop) (st : LSt)
def gopX (g : Option (Bool × Bool)) : Prop := guardK g (lopX P oc m o st (lopsX P N oc ops rest K)) (lopsX P N oc ops rest K (st.put o.dst (.lit undef)))
def wopX (q : Option ((FuncId × List Operand) × Nat × OCD P)) : Prop :=
  match q with
  | some q => (ocOk st q.1.1 q.1.2 q.2.2 ∧ mOk m (fun SB => disjL SB (firsts q.2.2.ha ++ seconds q.2.2.ba) && disjL SB [q.2.1]) = true) ∧ lopsX P N oc ops rest K (ocNext st q.2.1 q.2.2)
  | none => pvK (pv P (evL st.env) st.box st.arr o.op) (fun x => mOk m (fun SB => stOk SB st o.op x) = true ∧ lopsX P N oc ops rest K (st.put o.dst x))
      (callK P (callOf o.op) (evL st.env) (fun r => mOk m (fun SB => stOk SB st o.op (strip r)) = true ∧ lopsX P N oc ops rest K (st.put o.dst (strip r))) (effK (effE P st o.dst o.op) fun st' => mOk m (fun SB => effOk SB st o.dst o.op) = true ∧ lopsX P N oc ops rest K st'))
def popX (v : Option LV) : Prop := pvK v (fun x => mOk m (fun SB => stOk SB st o.op x) = true ∧ lopsX P N oc ops rest K (st.put o.dst x))
      (callK P (callOf o.op) (evL st.env) (fun r => mOk m (fun SB => stOk SB st o.op (strip r)) = true ∧ lopsX P N oc ops rest K (st.put o.dst (strip r))) (effK (effE P st o.dst o.op) fun st' => mOk m (fun SB => effOk SB st o.dst o.op) = true ∧ lopsX P N oc ops rest K st'))
def copX (c : Option (FuncId × List Operand)) : Prop := callK P c (evL st.env) (fun r => mOk m (fun SB => stOk SB st o.op (strip r)) = true ∧ lopsX P N oc ops rest K (st.put o.dst (strip r))) (effK (effE P st o.dst o.op) fun st' => mOk m (fun SB => effOk SB st o.dst o.op) = true ∧ lopsX P N oc ops rest K st')
def eopX (r : Option (Prop × LSt)) : Prop := effK r fun st' => mOk m (fun SB => effOk SB st o.dst o.op) = true ∧ lopsX P N oc ops rest K st'
theorem lopsX_nil : lopsX P N oc ops [] K st = K st := rfl
theorem lopsX_c : lopsX P N oc ops ((m, o) :: rest) K st = (dstOk N o.dst = true ∧ gopX N oc ops m o rest K st (guardL ops o st.env)) := rfl
theorem gopX_tt : gopX N oc ops m o rest K st (some (true, true)) = wopX N oc ops m o rest K st (ocAt oc o.dst o.op) := by unfold gopX; rw [guardK_some, wantK_tt]; rfl
theorem gopX_ff : gopX N oc ops m o rest K st (some (false, false)) = wopX N oc ops m o rest K st (ocAt oc o.dst o.op) := by unfold gopX; rw [guardK_some, wantK_ff]; rfl
theorem gopX_tf : gopX N oc ops m o rest K st (some (true, false)) = lopsX P N oc ops rest K (st.put o.dst (.lit undef)) := by unfold gopX; rw [guardK_some, wantK_tf]
theorem gopX_ft : gopX N oc ops m o rest K st (some (false, true)) = lopsX P N oc ops rest K (st.put o.dst (.lit undef)) := by unfold gopX; rw [guardK_some, wantK_ft]
theorem wopX_some (f : FuncId) (args : List Operand) (d : Nat) (C : OCD P) : wopX N oc ops m o rest K st (some ((f, args), d, C)) = ((ocOk st f args C ∧ mOk m (fun SB => disjL SB (firsts C.ha ++ seconds C.ba) && disjL SB [d]) = true) ∧ lopsX P N oc ops rest K (ocNext st d C)) := rfl
theorem wopX_none : wopX N oc ops m o rest K st none = popX N oc ops m o rest K st (pv P (evL st.env) st.box st.arr o.op) := rfl
theorem popX_some (x : LV) : popX N oc ops m o rest K st (some x) = (mOk m (fun SB => stOk SB st o.op x) = true ∧ lopsX P N oc ops rest K (st.put o.dst x)) := rfl
theorem popX_none : popX N oc ops m o rest K st none = copX N oc ops m o rest K st (callOf o.op) := rfl
theorem copX_none : copX N oc ops m o rest K st none = eopX N oc ops m o rest K st (effE P st o.dst o.op) := rfl
theorem eopX_some (c : Prop) (st' : LSt) : eopX N oc ops m o rest K st (some (c, st')) = (c ∧ mOk m (fun SB => effOk SB st o.dst o.op) = true ∧ lopsX P N oc ops rest K st') := rfl
variable {N oc ops m o rest K st}
theorem copX_intro {f : FuncId} {args : List Operand} {args' : List LV} {r : LV} (ha : (args.map (evL st.env)).map strip = args') (hc : LCalls P f args' r) (hm : mOk m (fun SB => stOk SB st o.op (strip r)) = true) (hk : lopsX P N oc ops rest K (st.put o.dst (strip r))) : copX N oc ops m o rest K st (some (f, args)) := by
  subst ha; exact ⟨r, hc, hm, hk⟩
theorem gopX_t {b : Bool} (h1 : b = true → gopX N oc ops m o rest K st (some (true, true))) (h2 : b = false → gopX N oc ops m o rest K st (some (true, false))) : gopX N oc ops m o rest K st (some (true, b)) := by
  cases b
  · exact h2 rfl
  · exact h1 rfl
theorem gopX_f {b : Bool} (h1 : b = true → gopX N oc ops m o rest K st (some (false, true))) (h2 : b = false → gopX N oc ops m o rest K st (some (false, false))) : gopX N oc ops m o rest K st (some (false, b)) := by
  cases b
  · exact h2 rfl
  · exact h1 rfl
end
end Go.Proofs.Ytmchdjpgceiloaa
