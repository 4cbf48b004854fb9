import Derived.Test.YtpficpldemickaaLK
import Derived.Test.YtpficpldemickaaL11
section
set_option linter.unusedSimpArgs false
set_option linter.unusedVariables false
namespace Go.Proofs.Ytpficpldemickaa
open Go.RowKit

section
variable {P : Program} {N : Nat} {w0 : World} {S0 : Ent} {Q : Exit → LSt → Prop} {st : LSt}
theorem LW_weak {c : Code} (k : Nat) {x : LV} (hx : ∀ w g v,Rep P w g (st.env k) v → Rep P w g x v) (h : LW P N w0 S0 c Q (st.put (some k) x)) : LW P N w0 S0 c Q st := by
  intro a w hr
  refine h a w ?_
  obtain ⟨g,hR⟩ := hr
  refine ⟨g,⟨hR.defers,hR.size,fun j => ?_,hR.below,hR.s0,hR.wf,hR.own,hR.inj,hR.box,hR.row,hR.dis,hR.arr,hR.dia,⟨hR.ex.glob,hR.ex.wf0,fun j v' hj => by
    simp only [LSt.put,upd] at hj
    split at hj
    · cases hj
    · exact hR.ex.vals j v' hj⟩,hR.keep⟩⟩
  simp only [LSt.put,upd]
  split
  · rename_i hj
    rw [hj];exact hx _ _ _ (hR.env k)
  · exact hR.env j
theorem LW_plain {c : Code} (k : Nat) {n : Nat} {cs : List LV} {t : Tok} (hk : st.env k = .sl n cs t) (h : LW P N w0 S0 c Q (st.put (some k) (.sl n cs .no))) : LW P N w0 S0 c Q st :=
  LW_weak k (fun w g v hv => by rw [hk] at hv;exact hv.no_of rfl) h
theorem LW_join {c : Code} {Q : Exit → LSt → Prop} {K : LSt → Prop} {st : LSt} (M : LSt → Prop) (h1 : LW P N w0 S0 c (thenL M Q) st) (h2 : ∀ st',M st' → K st') : LW P N w0 S0 c (thenL K Q) st :=
  h1.mono fun e st' h => by cases e <;> first | exact h2 _ h | exact h
theorem LW_joinB {id : Nat} {c : Code} {Q : Exit → LSt → Prop} {K : LSt → Prop} {st : LSt} (M : LSt → Prop) (h1 : LW P N w0 S0 c (inBlockL id (thenL M Q)) st) (h2 : ∀ st',M st' → K st') : LW P N w0 S0 c (inBlockL id (thenL K Q)) st :=
  h1.mono fun e st' h => by
    cases e with
    | exit i =>
      simp only [inBlockL] at h ⊢
      split
      · rename_i hi;rw [if_pos hi] at h;exact h2 _ h
      · rename_i hi;rw [if_neg hi] at h;exact h
    | normal => exact h2 _ h
    | _ => exact h
theorem LW_regionA {Q : Exit → LSt → Prop} {st : LSt} {id : Nat} {ops : Array Oper} {l : List Oper} {dr : Bool} (hl : ops.toList = l) (h : LW P N w0 S0 (.region id l.toArray dr) Q st) : LW P N w0 S0 (.region id ops dr) Q st := by
  subst hl;simpa using h
theorem LW_slim {c : Code} {Q : Exit → LSt → Prop} {st : LSt} (M : LSt → Prop) (h : M st) (hk : ∀ st',M st' → LW P N w0 S0 c Q st') : LW P N w0 S0 c Q st := hk st h
end
end Go.Proofs.Ytpficpldemickaa
end
section
set_option linter.unusedSimpArgs false
set_option linter.unusedVariables false
namespace Go.Proofs.Ytpficpldemickaa
open Go.RowKit

def Closed (md : Region.Mode) (ops : Array Oper) (listed : Array Bool) : Prop := ∀ j oj,ops[j]? = some oj → listed.getD j false = true → ∀ e ∈ oj.after,Region.binds md e = true → listed.getD e.on false = true
section
variable {ops : Array Oper} {md : Region.Mode}
theorem Closed.set {i : Nat} {listed : Array Bool} (inv : Closed md ops listed) (hi : i ∈ Region.ready md ops listed) : Closed md ops (listed.setIfInBounds i true) := by
  obtain ⟨_,oi,hoi,hall⟩ := mem_ready.1 hi
  intro j oj hj hl e he hb
  by_cases hij : i = j
  · subst hij
    have : oj = oi := Option.some.inj (hj.symm.trans hoi)
    subst this
    exact getD_set_true (hall e he hb)
  · rw [getD_set_ne false hij] at hl
    exact getD_set_true (inv j oj hj hl e he hb)
def orders (md : Region.Mode) (ops : Array Oper) : Nat → Array Bool → List (List Nat)
  | 0,_ => [[]]
  | f + 1,listed => if (Region.ready md ops listed).isEmpty then [[]] else (Region.ready md ops listed).flatMap fun i => (orders md ops f (listed.setIfInBounds i true)).map (i :: ·)
def AllL {α : Type} (F : α → Prop) : List α → Prop
  | [] => True
  | [a] => F a
  | a :: b :: r => F a ∧ AllL F (b :: r)
theorem AllL.spec {α : Type} {F : α → Prop} : ∀ {l : List α},AllL F l → ∀ p ∈ l,F p
  | [],_,p,hp => by cases hp
  | [a],h,p,hp => by rw [List.mem_singleton] at hp;subst hp;exact h
  | a :: b :: r,h,p,hp => by
    rcases List.mem_cons.1 hp with rfl | hp
    · exact h.1
    · exact AllL.spec h.2 p hp
end
end Go.Proofs.Ytpficpldemickaa
end
section
set_option linter.unusedSimpArgs false
set_option linter.unusedVariables false
namespace Go.Proofs.Ytpficpldemickaa
open Go.RowKit

def alook {α : Type} : List (Nat × α) → Nat → Option α
  | [],_ => none
  | (c,x) :: r,y => if y = c then some x else alook r y
def allO {α : Type} (p : Nat → α → Prop) : List (Nat × α) → Prop
  | [] => True
  | (c,x) :: r => p c x ∧ allO p r
theorem allO_get {α : Type} {p : Nat → α → Prop} : ∀ {l : List (Nat × α)} {c : Nat} {x : α},allO p l → alook l c = some x → p c x
  | (c',x') :: r,c,x,h,hl => by
    unfold alook at hl
    split at hl
    · rename_i he;cases hl;subst he;exact h.1
    · exact allO_get h.2 hl
def bkL : List (Nat × Nat) → Nat → Option Nat
  | [],_ => none
  | (c,k) :: r,y => if y = k then some c else bkL r y
def memL : List Nat → Nat → Bool
  | [],_ => false
  | a :: r,q => if q = a then true else memL r q
def nodupL : List Nat → Bool
  | [] => true
  | a :: r => !memL r a && nodupL r
def okAl (al : List (Nat × Nat)) : Bool := nodupL (al.map (·.1)) && nodupL (al.map (·.2))
theorem memL_iff : ∀ (l : List Nat) (q : Nat),memL l q = true ↔ q ∈ l
  | [],q => by simp [memL]
  | a :: r,q => by
    unfold memL
    split
    · rename_i h;simp [h]
    · rename_i h;rw [memL_iff r q];simp [h]
theorem nodupL_iff : ∀ l : List Nat,nodupL l = true ↔ l.Nodup
  | [] => by simp [nodupL]
  | a :: r => by
    rw [nodupL,Bool.and_eq_true,nodupL_iff r,List.nodup_cons]
    have := memL_iff r a
    cases h : memL r a
    · rw [h] at this;simp at this;simp [this]
    · rw [h] at this;simp at this;simp [this]
theorem alook_mem {α : Type} : ∀ {l : List (Nat × α)} {c : Nat} {x : α},alook l c = some x → (c,x) ∈ l
  | (c',x') :: r,c,x,h => by
    unfold alook at h
    split at h
    · rename_i he;cases h;subst he;simp
    · exact List.mem_cons_of_mem _ (alook_mem h)
theorem bkL_mem : ∀ {l : List (Nat × Nat)} {k c : Nat},bkL l k = some c → (c,k) ∈ l
  | (c',k') :: r,k,c,h => by
    unfold bkL at h
    split at h
    · rename_i he;cases h;subst he;simp
    · exact List.mem_cons_of_mem _ (bkL_mem h)
theorem mem_bkL : ∀ {l : List (Nat × Nat)} {k c : Nat},(l.map (·.2)).Nodup → (c,k) ∈ l → bkL l k = some c
  | (c',k') :: r,k,c,hn,h => by
    rw [List.map_cons,List.nodup_cons] at hn
    unfold bkL
    rcases List.mem_cons.1 h with h' | h'
    · cases h';simp
    · have : k ≠ k' := by
        rintro rfl
        exact hn.1 (List.mem_map.2 ⟨(c,k),h',rfl⟩)
      rw [if_neg this];exact mem_bkL hn.2 h'
theorem fst_inj : ∀ {l : List (Nat × Nat)} {k k' c : Nat},(l.map (·.1)).Nodup → (c,k) ∈ l → (c,k') ∈ l → k = k'
  | (c',x) :: r,k,k',c,hn,h,h' => by
    rw [List.map_cons,List.nodup_cons] at hn
    rcases List.mem_cons.1 h with h | h <;> rcases List.mem_cons.1 h' with h' | h'
    · cases h;cases h';rfl
    · cases h;exact absurd (List.mem_map.2 ⟨_,h',rfl⟩) hn.1
    · cases h';exact absurd (List.mem_map.2 ⟨_,h,rfl⟩) hn.1
    · exact fst_inj hn.2 h h'
theorem okAl_bk {al : List (Nat × Nat)} (h : okAl al = true) {c k : Nat} (hc : alook al c = some k) : bkL al k = some c := by
  unfold okAl at h
  rw [Bool.and_eq_true,nodupL_iff,nodupL_iff] at h
  exact mem_bkL h.2 (alook_mem hc)
theorem okAl_inj {al : List (Nat × Nat)} (h : okAl al = true) {k k' c : Nat} (h1 : bkL al k = some c) (h2 : bkL al k' = some c) : k = k' := by
  unfold okAl at h
  rw [Bool.and_eq_true,nodupL_iff,nodupL_iff] at h
  exact fst_inj h.1 (bkL_mem h1) (bkL_mem h2)

def ren1 (al : List (Nat × Nat)) : LV → LV
  | .lit v => .lit v
  | .sl n cs (.row q) => .sl n cs (match alook al q with | some k => .row k | none => .no)
  | .sl n cs _ => .sl n cs .no
  | .ref cs => .ref cs
  | .ptr d o => match alook al d with | some k => .ptr k o | none => .any
  | .bsl d n e => match alook al d with | some k => .bsl k n e | none => .any
  | .aptr d o => match alook al d with | some k => .aptr k o | none => .any
  | _ => .any
def ren2 (al : List (Nat × Nat)) : LV → LV
  | .agg cs => .agg (cs.map (ren1 al))
  | x => ren1 al x
def ren (al : List (Nat × Nat)) : LV → LV
  | .tup cs => .tup (cs.map (ren2 al))
  | x => ren2 al x
def fgF1 (F : List Nat) : LV → LV
  | .lit v => .lit v
  | .sl n cs (.row q) => .sl n cs (if memL F q = true then .no else .row q)
  | .sl n cs (.sub q o) => .sl n cs (if memL F q = true then .no else .sub q o)
  | .sl n cs t => .sl n cs t
  | .ref cs => .ref cs
  | .ptr e off => if memL F e = true then .any else .ptr e off
  | .bsl q n e => if memL F q = true then .any else .bsl q n e
  | .aptr e off => if memL F e = true then .any else .aptr e off
  | _ => .any
def fgF2 (F : List Nat) : LV → LV
  | .agg cs => .agg (cs.map (fgF1 F))
  | x => fgF1 F x
def fgF (F : List Nat) : LV → LV
  | .tup cs => .tup (cs.map (fgF2 F))
  | x => fgF2 F x
section
variable {P : Program} {w : World} {g g' : Gh} {v : Value}
structure Ren (al : List (Nat × Nat)) (g g' : Gh) : Prop where
  S : g'.S = g.S
  own : ∀ c k,alook al c = some k → g'.own k = g.own c
  row : ∀ c k e,alook al c = some k → g'.row k = some e → g.row c = some e
theorem OwnAt.of_own {q q' : Nat} {e : TypeId} {n : Nat} (h : OwnAt P w g q e n v) (ho : g'.own q' = g.own q) (hS : g'.S = g.S) : OwnAt P w g' q' e n v := by
  rcases h with h | ⟨b,cap,cur,h1,h2,h3,h4,h5,h6,h7⟩
  · exact .inl h
  · exact .inr ⟨b,cap,cur,by rw [ho];exact h1,h2,h3,h4,h5,h6,by rw [hS];exact h7⟩
theorem BslAt.of_own {q q' : Nat} {e : TypeId} {n : Nat} (h : BslAt P w g q n e v) (ho : g'.own q' = g.own q) : BslAt P w g' q' n e v := by
  rcases h with h | ⟨b,cap,cur,h1,h2⟩
  · exact .inl h
  · exact .inr ⟨b,cap,cur,by rw [ho];exact h1,h2⟩
theorem Rep.ren1 {al : List (Nat × Nat)} {x : LV} (h : Rep P w g x v) (r : Ren al g g') : Rep P w g' (Go.Proofs.Ytpficpldemickaa.ren1 al x) v := by
  cases x with
  | lit u => rw [h.inv_lit];exact .lit _ _
  | sl n cs t =>
    cases t with
    | no => exact h.no_of r.S
    | nil => exact h.no_of r.S
    | sub q o => exact h.no_of r.S
    | row q =>
      simp only [Go.Proofs.Ytpficpldemickaa.ren1]
      cases hq : alook al q with
      | none => exact h.no_of r.S
      | some k => exact .row _ _ _ _ _ (h.no_of r.S) fun e he => (h.inv_row.2 e (r.row q k _ hq he)).of_own (r.own q k hq) r.S
  | ref cs => exact h.ref_of r.S
  | ptr d o =>
    obtain ⟨b,rfl,hb⟩ := h.inv_ptr
    simp only [Go.Proofs.Ytpficpldemickaa.ren1]
    cases hq : alook al d with
    | none => exact .any _ _
    | some k => exact .ptr _ _ _ _ (by rw [r.own d k hq];exact hb)
  | aptr d o =>
    obtain ⟨b,rfl,hb⟩ := h.inv_aptr
    simp only [Go.Proofs.Ytpficpldemickaa.ren1]
    cases hq : alook al d with
    | none => exact .any _ _
    | some k => exact .aptr _ _ _ _ (by rw [r.own d k hq];exact hb)
  | bsl d n e =>
    simp only [Go.Proofs.Ytpficpldemickaa.ren1]
    cases hq : alook al d with
    | none => exact .any _ _
    | some k => exact .bsl _ _ _ _ _ (h.inv_bsl.of_own (r.own d k hq))
  | _ => exact .any _ _
theorem Rep.ren2 {al : List (Nat × Nat)} {x : LV} (h : Rep P w g x v) (r : Ren al g g') : Rep P w g' (Go.Proofs.Ytpficpldemickaa.ren2 al x) v := by
  cases x with
  | agg cs =>
    obtain ⟨vs,rfl,hl,h⟩ := h.inv_agg
    refine .agg _ _ _ (by simpa using hl) fun i c u hc hu => ?_
    obtain ⟨c',hc',rfl⟩ := map_get hc
    exact (h i c' u hc' hu).ren1 r
  | lit u => exact h.ren1 r
  | sl n cs t => exact h.ren1 r
  | ref cs => exact h.ren1 r
  | ptr d' off => exact h.ren1 r
  | aptr d' off => exact h.ren1 r
  | bsl d' n e => exact h.ren1 r
  | _ => exact .any _ _
theorem Rep.ren {al : List (Nat × Nat)} {x : LV} (h : Rep P w g x v) (r : Ren al g g') : Rep P w g' (Go.Proofs.Ytpficpldemickaa.ren al x) v := by
  cases x with
  | tup cs =>
    obtain ⟨vs,rfl,hl,h⟩ := h.inv_tup
    refine .tup _ _ _ (by simpa using hl) fun i c u hc hu => ?_
    obtain ⟨c',hc',rfl⟩ := map_get hc
    exact (h i c' u hc' hu).ren2 r
  | agg cs => exact h.ren2 r
  | lit u => exact h.ren1 r
  | sl n cs t => exact h.ren1 r
  | ref cs => exact h.ren1 r
  | ptr d' off => exact h.ren1 r
  | aptr d' off => exact h.ren1 r
  | bsl d' n e => exact h.ren1 r
  | _ => exact .any _ _
theorem bare_eq (hS : g'.S = g.S) : g'.bare = g.bare := by unfold Gh.bare;rw [hS]
theorem ArrAt.of_own {c k : Nat} {cs : List LV} (h : ArrAt P w g c cs) (ho : g'.own k = g.own c) (hS : g'.S = g.S) : ArrAt P w g' k cs := by
  rcases h with h | ⟨b,vals,T,h1,h2,h3,h4,h5⟩
  · exact .inl h
  · exact .inr ⟨b,vals,T,by rw [ho];exact h1,h2,h3,by rw [bare_eq hS];exact h4,by rw [hS];exact h5⟩
theorem BoxAt.ren {al : List (Nat × Nat)} {c k : Nat} {cs : List LV} (h : BoxAt P w g c cs) (ho : g'.own k = g.own c) (r : Ren al g g') : BoxAt P w g' k (cs.map (Go.Proofs.Ytpficpldemickaa.ren1 al)) := by
  obtain ⟨b,vals,T,h1,h2,h3,h4,h5⟩ := h
  refine ⟨b,vals,T,by rw [ho];exact h1,h2,by simpa using h3,fun i c' u hc hu => ?_,by rw [r.S];exact h5⟩
  obtain ⟨c0,hc0,rfl⟩ := map_get hc
  exact (h4 i c0 u hc0 hu).ren1 r
structure MonoF (P : Program) (F : List Nat) (w : World) (g : Gh) (w' : World) (g' : Gh) : Prop where
  cell : ∀ b i v,g.S b i → w.cell? ⟨b,i,none⟩ = some v → g'.S b i ∧ w'.cell? ⟨b,i,none⟩ = some v
  ptr : ∀ k b,memL F k = false → g.own k = some b → g'.own k = some b
  own : ∀ q e n v,memL F q = false → g'.row q = some (e,n) → (∀ e',g.row q = some (e',n) → OwnAt P w g q e' n v) → OwnAt P w' g' q e n v
  shape : ∀ k b cur e,memL F k = false → g.own k = some b → w.heap[b]? = some (.cells cur e (0,0)) → ∃ cur',w'.heap[b]? = some (.cells cur' e (0,0)) ∧ cur'.size = cur.size
variable {w' : World}
theorem Rep.fgF1 {F : List Nat} {x : LV} (h : Rep P w g x v) (m : MonoF P F w g w' g') : Rep P w' g' (Go.Proofs.Ytpficpldemickaa.fgF1 F x) v := by
  cases x with
  | lit u => rw [h.inv_lit];exact .lit _ _
  | sl n cs t =>
    cases t with
    | no => exact rep_no h m.cell
    | nil => obtain ⟨rfl,rfl,rfl⟩ := h.inv_nil;exact .nil _
    | row q =>
      simp only [Go.Proofs.Ytpficpldemickaa.fgF1]
      split
      · exact rep_no h m.cell
      · rename_i hq
        exact .row _ _ _ _ _ (rep_no h m.cell) fun e he => m.own q e n v (by simpa using hq) he h.inv_row.2
    | sub q o =>
      obtain ⟨rfl,h1,b,o',cap,hv,ho,hb⟩ := h.inv_sub
      simp only [Go.Proofs.Ytpficpldemickaa.fgF1]
      split
      · exact rep_no h1 m.cell
      · rename_i hq
        exact .sub _ _ _ _ _ (rep_no h1 m.cell) b o' cap hv ho (m.ptr _ _ (by simpa using hq) hb)
  | ref cs =>
    obtain ⟨b,off,rfl,hc⟩ := h.inv_ref
    exact (rep_cells hc m.cell).rep_ref
  | ptr d' off =>
    obtain ⟨b,rfl,hb⟩ := h.inv_ptr
    simp only [Go.Proofs.Ytpficpldemickaa.fgF1]
    split
    · exact .any _ _
    · rename_i hq
      exact .ptr _ _ _ _ (m.ptr _ _ (by simpa using hq) hb)
  | aptr d' off =>
    obtain ⟨b,rfl,hb⟩ := h.inv_aptr
    simp only [Go.Proofs.Ytpficpldemickaa.fgF1]
    split
    · exact .any _ _
    · rename_i hq
      exact .aptr _ _ _ _ (m.ptr _ _ (by simpa using hq) hb)
  | bsl d' n e =>
    simp only [Go.Proofs.Ytpficpldemickaa.fgF1]
    split
    · exact .any _ _
    · rename_i hq
      exact .bsl _ _ _ _ _ (h.inv_bsl.mono (fun b hb => m.ptr _ _ (by simpa using hq) hb) (fun b cur e hb hc => m.shape _ _ _ _ (by simpa using hq) hb hc))
  | _ => exact .any _ _
theorem Rep.fgF2 {F : List Nat} {x : LV} (h : Rep P w g x v) (m : MonoF P F w g w' g') : Rep P w' g' (Go.Proofs.Ytpficpldemickaa.fgF2 F x) v := by
  cases x with
  | agg cs =>
    obtain ⟨vs,rfl,hl,h⟩ := h.inv_agg
    refine .agg _ _ _ (by simpa using hl) fun i c u hc hu => ?_
    obtain ⟨c',hc',rfl⟩ := map_get hc
    exact (h i c' u hc' hu).fgF1 m
  | lit u => exact h.fgF1 m
  | sl n cs t => exact h.fgF1 m
  | ref cs => exact h.fgF1 m
  | ptr d' off => exact h.fgF1 m
  | aptr d' off => exact h.fgF1 m
  | bsl d' n e => exact h.fgF1 m
  | _ => exact .any _ _
theorem Rep.fgF {F : List Nat} {x : LV} (h : Rep P w g x v) (m : MonoF P F w g w' g') : Rep P w' g' (Go.Proofs.Ytpficpldemickaa.fgF F x) v := by
  cases x with
  | tup cs =>
    obtain ⟨vs,rfl,hl,h⟩ := h.inv_tup
    refine .tup _ _ _ (by simpa using hl) fun i c u hc hu => ?_
    obtain ⟨c',hc',rfl⟩ := map_get hc
    exact (h i c' u hc' hu).fgF2 m
  | agg cs => exact h.fgF2 m
  | lit u => exact h.fgF1 m
  | sl n cs t => exact h.fgF1 m
  | ref cs => exact h.fgF1 m
  | ptr d' off => exact h.fgF1 m
  | aptr d' off => exact h.fgF1 m
  | bsl d' n e => exact h.fgF1 m
  | _ => exact .any _ _
end

structure Own where
  ro : List (Nat × (TypeId × Nat))
  ar : List (Nat × List LV)
  bx : List (Nat × List LV)
structure Holds (P : Program) (w : World) (g : Gh) (O : Own) : Prop where
  row : g.row = alook O.ro
  arr : ∀ d cs,alook O.ar d = some cs → ArrAt P w g d cs
  box : ∀ d cs,alook O.bx d = some cs → BoxAt P w g d cs
  dia : ∀ d cs,alook O.ar d = some cs → alook O.ro d = none ∧ alook O.bx d = none
  dis : ∀ d cs,alook O.bx d = some cs → alook O.ro d = none
def HOf (own : Nat → Option Nat) (b : Nat) : Prop := ∃ d,own d = some b
structure Back (P : Program) (w : World) (S : Nat → Nat → Prop) (own : Nat → Option Nat) (w' : World) (S' : Nat → Nat → Prop) (own' : Nat → Option Nat) (r : LV) (R : Own) (v : Value) : Prop where
  rep : Rep P w' ⟨S',own',alook R.ro⟩ r v
  holds : Holds P w' ⟨S',own',alook R.ro⟩ R
  below : BelowH w.heap.size (HOf own) w w'
  s : ∀ b i,b < w.heap.size → ¬ HOf own b → (S' b i ↔ S b i)
  wf : ∀ b i,S' b i → b < w'.heap.size
  own : ∀ d b,own' d = some b → (w.heap.size ≤ b ∨ HOf own b) ∧ b < w'.heap.size
  inj : ∀ d d' b,own' d = some b → own' d' = some b → d = d'
  keep : ∀ b i v,S b i → w.cell? ⟨b,i,none⟩ = some v → S' b i ∧ w'.cell? ⟨b,i,none⟩ = some v
structure OCalls (P : Program) (f : FuncId) (args : List LV) (I : Own) (r : LV) (R : Own) : Prop where
  enters : ∀ (vs : Array Value) (w : World),(callFunc f vs).run P w = .ok (.enter f vs) w
  calls : ∀ (w : World) (S : Nat → Nat → Prop) (own : Nat → Option Nat) (vs : Array Value),(∀ w',BelowH w.heap.size (HOf own) w w' → Glob P w') → (∀ b i,S b i → b < w.heap.size) → (∀ d b,own d = some b → b < w.heap.size) → (∀ d d' b,own d = some b → own d' = some b → d = d') →
    Holds P w ⟨S,own,alook I.ro⟩ I → vs.size = args.length → (∀ (i : Nat) (c : LV) (u : Value),args[i]? = some c → vs[i]? = some u → Rep P w ⟨S,own,alook I.ro⟩ c u) →
    Calls P f vs w fun e w' => ∃ v S' own',e = .returned v ∧ Back P w S own w' S' own' r R v

section
variable {P : Program} {N : Nat} {w0 : World} {S0 : Ent} {Q : Exit → LSt → Prop} {st : LSt}
def bodyO (P : Program) (rs : List ResultVar) (r : LV) (R : Own) : Exit → LSt → Prop
  | .normal,st | .ret,st => ∃ al,okAl al = true ∧ (retL P rs st).map (ren al) = some r ∧ allO (fun k e => (bkL al k).bind st.row = some e) R.ro ∧ allO (fun k cs => (bkL al k).bind st.arr = some cs) R.ar ∧ allO (fun k cs => ((bkL al k).bind st.box).map (fun l => l.map (ren1 al)) = some cs) R.bx
  | _,_ => False
def entryO (md : Nat → Bool) (val : Nat → Option Value) (args : List LV) (I : Own) : LSt := ⟨fun k => (args[k]?).getD .any,alook I.bx,alook I.ro,alook I.ar,md,val⟩
theorem OCalls.of (md : Nat → Bool) {f : FuncId} {fn : Func} {c : Code} {args : List LV} {I : Own} {r : LV} {R : Own} {rs : List ResultVar} (hf : P.funcs[f]? = some fn) (hb : fn.body = some c) (hname : (fn.name == "runtime.NumGoroutine") = false) (hn : fn.ntmps = N) (hrs : fn.results = rs.toArray) (hle : args.length ≤ N)
    (h : ∀ w0 (S0 : Ent) (vs : Array Value),LW P N w0 S0 c (bodyO P rs r R) (entryO md (fun k => vs[k]?) args I)) : OCalls P f args I r R := by
  refine ⟨fun vs w => ?_,fun w S own vs hglob hwf hown hinj hI hl hr => ?_⟩
  · have h1 : fn.name ≠ "runtime.NumGoroutine" := by simpa using hname
    simp [callFunc,hf,h1,hb,mark]
  · refine calls_of_wp hf hb (wp_mono (h w ⟨S,HOf own⟩ vs _ w ?_) ?_)
    · refine ⟨⟨S,own,alook I.ro⟩,rfl,by simp [hn,hl];omega,fun k => ?_,.refl _ _ _,fun _ _ _ _ => Iff.rfl,hwf,fun d b hd => ⟨.inr ⟨d,hd⟩,hown d b hd⟩,hinj,hI.box,rfl,hI.dis,hI.arr,hI.dia,⟨hglob,hwf,fun k v hk => ?_⟩,fun _ _ _ hs hc => ⟨hs,hc⟩⟩
      rotate_left
      · have hk2 : vs[k]? = some v := hk
        have hk' := (Array.getElem?_eq_some_iff.1 hk2).1
        simp only [Array.getD_eq_getD_getElem?,Array.getElem?_append_left hk',hk2,Option.getD_some]
      by_cases hk : k < args.length
      · have hk' : k < vs.size := by omega
        have e1 : (vs ++ Array.replicate (fn.ntmps - vs.size) undef).getD k undef = vs[k] := by
          simp only [Array.getD_eq_getD_getElem?,Array.getElem?_append_left hk',Array.getElem?_eq_getElem hk',Option.getD_some]
        show Rep P w _ ((args[k]?).getD .any) _
        rw [e1,List.getElem?_eq_getElem hk]
        exact hr k args[k] vs[k] (List.getElem?_eq_getElem hk) (Array.getElem?_eq_getElem hk')
      · show Rep P w _ ((args[k]?).getD .any) _
        rw [List.getElem?_eq_none (by omega)]
        exact .any _ _
    · rintro e a' w' ⟨st',⟨g,hg⟩,hq⟩
      have fin : (∃ al,okAl al = true ∧ (retL P rs st').map (ren al) = some r ∧ allO (fun k e => (bkL al k).bind st'.row = some e) R.ro ∧ allO (fun k cs => (bkL al k).bind st'.arr = some cs) R.ar ∧ allO (fun k cs => ((bkL al k).bind st'.box).map (fun l => l.map (ren1 al)) = some cs) R.bx) →
          a'.defers = [] ∧ ∃ v,(results fn a'.tmps).run P w' = .ok v w' ∧ ∃ v' S' own',Ending.returned v = .returned v' ∧ Back P w S own w' S' own' r R v' := by
        rintro ⟨al,hok,hx,h1,h2,h3⟩
        obtain ⟨x,hx1,rfl⟩ := Option.map_eq_some_iff.1 hx
        obtain ⟨v,hv,hrep⟩ := retL_run hg hrs hx1
        let own' : Nat → Option Nat := fun k => (bkL al k).bind g.own
        have hrow : ∀ k e,alook R.ro k = some e → (bkL al k).bind st'.row = some e := fun k e hk => allO_get h1 hk
        have harr : ∀ k cs,alook R.ar k = some cs → (bkL al k).bind st'.arr = some cs := fun k cs hk => allO_get h2 hk
        have hbox : ∀ k cs,alook R.bx k = some cs → ((bkL al k).bind st'.box).map (fun l => l.map (Go.Proofs.Ytpficpldemickaa.ren1 al)) = some cs := fun k cs hk => allO_get h3 hk
        have hren : Ren al g ⟨g.S,own',alook R.ro⟩ := by
          refine ⟨rfl,fun c k hc => ?_,fun c k e hc he => ?_⟩
          · show (bkL al k).bind g.own = _
            rw [okAl_bk hok hc];rfl
          · have := hrow k e he
            rw [okAl_bk hok hc] at this
            rw [hg.row];exact this
        have ofb : ∀ k c,bkL al k = some c → (⟨g.S,own',alook R.ro⟩ : Gh).own k = g.own c := fun k c hk => by
          show (bkL al k).bind g.own = _
          rw [hk];rfl
        refine ⟨hg.defers,v,hv,v,g.S,own',rfl,hrep.ren hren,⟨rfl,fun k cs hk => ?_,fun k cs hk => ?_,fun k cs hk => ⟨?_,?_⟩,fun k cs hk => ?_⟩,hg.below,fun b i hb hn => hg.s0 b i hb hn,hg.wf,fun k b hk => ?_,fun k k' b hk hk' => ?_,hg.keep⟩
        · have := harr k cs hk
          cases hc : bkL al k with
          | none => rw [hc] at this;cases this
          | some c => rw [hc] at this;exact (hg.arr c cs this).of_own (ofb k c hc) rfl
        · have := hbox k cs hk
          cases hc : bkL al k with
          | none => rw [hc] at this;cases this
          | some c =>
            rw [hc] at this
            obtain ⟨cs0,e1,rfl⟩ := Option.map_eq_some_iff.1 this
            exact (hg.box c cs0 e1).ren (ofb k c hc) hren
        · cases he : alook R.ro k with
          | none => rfl
          | some e =>
            have h4 := harr k cs hk
            have h5 := hrow k e he
            cases hc : bkL al k with
            | none => rw [hc] at h4;cases h4
            | some c =>
              rw [hc] at h4 h5
              have := (hg.dia c cs h4).1
              rw [show st'.row c = some e from h5] at this;cases this
        · cases he : alook R.bx k with
          | none => rfl
          | some cs1 =>
            have h4 := harr k cs hk
            have h5 := hbox k cs1 he
            cases hc : bkL al k with
            | none => rw [hc] at h4;cases h4
            | some c =>
              rw [hc] at h4 h5
              obtain ⟨cs0,e1,_⟩ := Option.map_eq_some_iff.1 h5
              have := (hg.dia c cs h4).2
              rw [show st'.box c = some cs0 from e1] at this;cases this
        · cases he : alook R.ro k with
          | none => rfl
          | some e =>
            have h4 := hbox k cs hk
            have h5 := hrow k e he
            cases hc : bkL al k with
            | none => rw [hc] at h4;cases h4
            | some c =>
              rw [hc] at h4 h5
              obtain ⟨cs0,e1,_⟩ := Option.map_eq_some_iff.1 h4
              have := hg.dis c cs0 e1
              rw [show st'.row c = some e from h5] at this;cases this
        · have hk2 : (bkL al k).bind g.own = some b := hk
          cases hc : bkL al k with
          | none => rw [hc] at hk2;cases hk2
          | some c => rw [hc] at hk2;exact hg.own c b hk2
        · have hk2 : (bkL al k).bind g.own = some b := hk
          have hk3 : (bkL al k').bind g.own = some b := hk'
          cases hc : bkL al k with
          | none => rw [hc] at hk2;cases hk2
          | some c =>
            cases hc' : bkL al k' with
            | none => rw [hc'] at hk3;cases hk3
            | some c' =>
              rw [hc] at hk2
              rw [hc'] at hk3
              have := hg.inj c c' b hk2 hk3
              subst this
              exact okAl_inj hok hc hc'
      cases e with
      | normal => exact fin hq
      | ret => exact fin hq
      | exit _ => exact hq.elim
      | goto _ => exact hq.elim
      | panic _ => exact hq.elim
      | outgrown => exact hq.elim

def LSt.ocall (st : LSt) (F : List Nat) (ba : List (Nat × Nat)) (R : Own) : LSt :=
  ⟨fun k => fgF F (st.env k),
   fun k => match bkL ba k with | some c => (alook R.bx c).map (fun l => l.map (ren1 ba)) | none => if memL F k = true then none else (st.box k).map fun l => l.map (fgF1 F),
   fun k => match bkL ba k with | some c => alook R.ro c | none => if memL F k = true then none else st.row k,
   fun k => match bkL ba k with | some c => alook R.ar c | none => if memL F k = true then none else st.arr k,st.mode,st.val⟩
end
end Go.Proofs.Ytpficpldemickaa
end
section
set_option linter.unusedSimpArgs false
set_option linter.unusedVariables false
namespace Go.Proofs.Ytpficpldemickaa
open Go.RowKit

structure OCD (P : Program) where
  f : FuncId
  args : List LV
  I : Own
  r : LV
  R : Own
  ha : List (Nat × Nat)
  ba : List (Nat × Nat)
  ok : OCalls P f args I r R
  hoa : okAl ha = true
  hob : okAl ba = true
def firsts : List (Nat × Nat) → List Nat
  | [] => []
  | (a,_) :: r => a :: firsts r
def seconds : List (Nat × Nat) → List Nat
  | [] => []
  | (_,b) :: r => b :: seconds r
section
variable {P : Program} {N : Nat} {w0 : World} {S0 : Ent}
def ocOk (st : LSt) (f : FuncId) (args : List Operand) (C : OCD P) : Prop :=
  f = C.f ∧ (args.map (evL st.env)).map (ren C.ha) = C.args ∧ allO (fun c e => (bkL C.ha c).bind st.row = some e) C.I.ro ∧ allO (fun c cs => (bkL C.ha c).bind st.arr = some cs) C.I.ar ∧ allO (fun c cs => ((bkL C.ha c).bind st.box).map (fun l => l.map (ren1 C.ha)) = some cs) C.I.bx
def ocNext (st : LSt) (d : Nat) (C : OCD P) : LSt := (st.ocall (firsts C.ha ++ seconds C.ba) C.ba C.R).put (some d) (ren C.ba C.r)
def ocAt (oc : List (Nat × OCD P)) : Option Tmp → Op → Option ((FuncId × List Operand) × Nat × OCD P)
  | some d,op => match alook oc d with | some C => (callOf op).map fun fa => (fa,d,C) | none => none
  | none,_ => none
def disjL (l : List Nat) : List Nat → Bool
  | [] => true
  | a :: r => !memL l a && disjL l r
def stab1 (SB : List Nat) : LV → Bool
  | .lit _ => true
  | .any => true
  | .ref _ => true
  | .sl _ _ (.row q) => memL SB q
  | .sl _ _ (.sub q _) => memL SB q
  | .sl _ _ _ => true
  | .ptr d _ => memL SB d
  | .bsl d _ _ => memL SB d
  | .aptr d _ => memL SB d
  | _ => false
def stab2 (SB : List Nat) : LV → Bool
  | .agg cs => cs.all (stab1 SB)
  | x => stab1 SB x
def stab (SB : List Nat) : LV → Bool
  | .tup cs => cs.all (stab2 SB)
  | x => stab2 SB x
def bxStab (SB : List Nat) (B : Nat → Option (List LV)) : LV → Bool
  | .ptr e _ => match B e with | some cs => cs.all (stab1 SB) | none => true
  | .sl _ _ (.sub e _) => match B e with | some cs => cs.all (stab1 SB) | none => true
  | _ => true
def opsStab (SB : List Nat) (st : LSt) (op : Op) : Bool := op.operands.toList.all fun y => stab SB (evL st.env y) && bxStab SB st.box (evL st.env y)
def idsOf : LV → List Nat
  | .sl _ _ (.row q) => [q]
  | .sl _ _ (.sub q _) => [q]
  | .ptr d _ => [d]
  | .bsl d _ _ => [d]
  | .aptr d _ => [d]
  | _ => []
def touch (st : LSt) : Option Tmp → Op → List Nat
  | some d,.call ⟨.builtin .append,⟨x :: _⟩,_⟩ => d :: idsOf (evL st.env x)
  | some d,.call ⟨.builtin .copy,⟨x :: _⟩,_⟩ => d :: idsOf (evL st.env x)
  | some d,_ => [d]
  | none,.store _ p _ => idsOf (evL st.env p)
  | none,_ => []
def mOk (m : Option (List Nat)) (f : List Nat → Bool) : Bool := match m with | none => true | some l => f l
theorem mOk_none (f : List Nat → Bool) : mOk none f = true := rfl
theorem mOk_some (l : List Nat) (f : List Nat → Bool) : mOk (some l) f = f l := rfl
def effOk (SB : List Nat) (st : LSt) (dst : Option Tmp) (op : Op) : Bool :=
  match op,dst with
  | .buildSlice t n ps,some d => cond (st.mode d) (disjL SB [d]) (opsStab SB st (.buildSlice t n ps))
  | op,dst => disjL SB (touch st dst op)
def stOk (SB : List Nat) (st : LSt) (op : Op) (x : LV) : Bool := opsStab SB st op && stab SB x
def lopX (P : Program) (oc : List (Nat × OCD P)) (m : Option (List Nat)) (o : Oper) (st : LSt) (K : LSt → Prop) : Prop :=
  match ocAt oc o.dst o.op with
  | some q => (ocOk st q.1.1 q.1.2 q.2.2 ∧ mOk m (fun SB => disjL SB (firsts q.2.2.ha ++ seconds q.2.2.ba) && disjL SB [q.2.1]) = true) ∧ K (ocNext st q.2.1 q.2.2)
  | none => pvK (pv P (evL st.env) st.box st.arr o.op) (fun x => mOk m (fun SB => stOk SB st o.op x) = true ∧ K (st.put o.dst x))
      (callK P (callOf o.op) (evL st.env) (fun r => mOk m (fun SB => stOk SB st o.op (strip r)) = true ∧ K (st.put o.dst (strip r))) (effK (effE P st o.dst o.op) fun st' => mOk m (fun SB => effOk SB st o.dst o.op) = true ∧ K st'))
def lopsX (P : Program) (N : Nat) (oc : List (Nat × OCD P)) (ops : Array Oper) : List (Option (List Nat) × Oper) → (LSt → Prop) → LSt → Prop
  | [],K,st => K st
  | (m,o) :: rest,K,st => dstOk N o.dst = true ∧
    guardK (guardL ops o st.env) (lopX P oc m o st (lopsX P N oc ops rest K)) (lopsX P N oc ops rest K (st.put o.dst (.lit undef)))
def noM : List Oper → List (Option (List Nat) × Oper)
  | [] => []
  | o :: r => (none,o) :: noM r
end
section
variable {P : Program} (N : Nat) (oc : List (Nat × OCD P)) (ops : Array Oper) (m : Option (List Nat)) (o : Oper) (rest : List (Option (List Nat) × Oper)) (K : LSt → Prop) (st : LSt)
def gopX (g : Option (Bool × Bool)) : Prop := guardK g (lopX P oc m o st (lopsX P N oc ops rest K)) (lopsX P N oc ops rest K (st.put o.dst (.lit undef)))
def wopX (q : Option ((FuncId × List Operand) × Nat × OCD P)) : Prop :=
  match q with
  | some q => (ocOk st q.1.1 q.1.2 q.2.2 ∧ mOk m (fun SB => disjL SB (firsts q.2.2.ha ++ seconds q.2.2.ba) && disjL SB [q.2.1]) = true) ∧ lopsX P N oc ops rest K (ocNext st q.2.1 q.2.2)
  | none => pvK (pv P (evL st.env) st.box st.arr o.op) (fun x => mOk m (fun SB => stOk SB st o.op x) = true ∧ lopsX P N oc ops rest K (st.put o.dst x))
      (callK P (callOf o.op) (evL st.env) (fun r => mOk m (fun SB => stOk SB st o.op (strip r)) = true ∧ lopsX P N oc ops rest K (st.put o.dst (strip r))) (effK (effE P st o.dst o.op) fun st' => mOk m (fun SB => effOk SB st o.dst o.op) = true ∧ lopsX P N oc ops rest K st'))
def popX (v : Option LV) : Prop := pvK v (fun x => mOk m (fun SB => stOk SB st o.op x) = true ∧ lopsX P N oc ops rest K (st.put o.dst x))
      (callK P (callOf o.op) (evL st.env) (fun r => mOk m (fun SB => stOk SB st o.op (strip r)) = true ∧ lopsX P N oc ops rest K (st.put o.dst (strip r))) (effK (effE P st o.dst o.op) fun st' => mOk m (fun SB => effOk SB st o.dst o.op) = true ∧ lopsX P N oc ops rest K st'))
def copX (c : Option (FuncId × List Operand)) : Prop := callK P c (evL st.env) (fun r => mOk m (fun SB => stOk SB st o.op (strip r)) = true ∧ lopsX P N oc ops rest K (st.put o.dst (strip r))) (effK (effE P st o.dst o.op) fun st' => mOk m (fun SB => effOk SB st o.dst o.op) = true ∧ lopsX P N oc ops rest K st')
def eopX (r : Option (Prop × LSt)) : Prop := effK r fun st' => mOk m (fun SB => effOk SB st o.dst o.op) = true ∧ lopsX P N oc ops rest K st'
theorem lopsX_nil : lopsX P N oc ops [] K st = K st := rfl
theorem lopsX_c : lopsX P N oc ops ((m,o) :: rest) K st = (dstOk N o.dst = true ∧ gopX N oc ops m o rest K st (guardL ops o st.env)) := rfl
theorem gopX_tt : gopX N oc ops m o rest K st (some (true,true)) = wopX N oc ops m o rest K st (ocAt oc o.dst o.op) := by unfold gopX;rw [guardK_some,wantK_tt];rfl
theorem gopX_ff : gopX N oc ops m o rest K st (some (false,false)) = wopX N oc ops m o rest K st (ocAt oc o.dst o.op) := by unfold gopX;rw [guardK_some,wantK_ff];rfl
theorem gopX_tf : gopX N oc ops m o rest K st (some (true,false)) = lopsX P N oc ops rest K (st.put o.dst (.lit undef)) := by unfold gopX;rw [guardK_some,wantK_tf]
theorem gopX_ft : gopX N oc ops m o rest K st (some (false,true)) = lopsX P N oc ops rest K (st.put o.dst (.lit undef)) := by unfold gopX;rw [guardK_some,wantK_ft]
theorem wopX_some (f : FuncId) (args : List Operand) (d : Nat) (C : OCD P) : wopX N oc ops m o rest K st (some ((f,args),d,C)) = ((ocOk st f args C ∧ mOk m (fun SB => disjL SB (firsts C.ha ++ seconds C.ba) && disjL SB [d]) = true) ∧ lopsX P N oc ops rest K (ocNext st d C)) := rfl
theorem wopX_none : wopX N oc ops m o rest K st none = popX N oc ops m o rest K st (pv P (evL st.env) st.box st.arr o.op) := rfl
theorem popX_some (x : LV) : popX N oc ops m o rest K st (some x) = (mOk m (fun SB => stOk SB st o.op x) = true ∧ lopsX P N oc ops rest K (st.put o.dst x)) := rfl
theorem popX_none : popX N oc ops m o rest K st none = copX N oc ops m o rest K st (callOf o.op) := rfl
theorem copX_none : copX N oc ops m o rest K st none = eopX N oc ops m o rest K st (effE P st o.dst o.op) := rfl
theorem eopX_some (c : Prop) (st' : LSt) : eopX N oc ops m o rest K st (some (c,st')) = (c ∧ mOk m (fun SB => effOk SB st o.dst o.op) = true ∧ lopsX P N oc ops rest K st') := rfl
variable {N oc ops m o rest K st}
end
end Go.Proofs.Ytpficpldemickaa
end
section
set_option linter.unusedSimpArgs false
set_option linter.unusedVariables false
namespace Go.Proofs.Ytpficpldemickaa
open Go.RowKit

section
variable {P : Program} {N : Nat} {w0 : World} {S0 : Ent} {ops : Array Oper} {md : Region.Mode}
theorem stab_forget1 {SB : List Nat} {d : Nat} {x : LV} (h : stab1 SB x = true) (hd : memL SB d = false) : forget1 d x = x := by
  have ne : ∀ q,memL SB q = true → q ≠ d := fun q hq e => by rw [e,hd] at hq;cases hq
  unfold stab1 at h
  split at h
  · rfl
  · rfl
  · rfl
  · rename_i q;simp only [forget1,if_neg (ne q h)]
  · rename_i q o;simp only [forget1,if_neg (ne q h)]
  · rename_i n cs t hnr hns
    cases t with
    | no => rfl
    | nil => rfl
    | row q => exact absurd rfl (hnr q)
    | sub q o => exact absurd rfl (hns q o)
  · rename_i q o;simp only [forget1,if_neg (ne q h)]
  · rename_i q n e;simp only [forget1,if_neg (ne q h)]
  · rename_i q o;simp only [forget1,if_neg (ne q h)]
  · cases h
theorem map_stab {SB : List Nat} {cs : List LV} {f : LV → LV} (h : cs.all (stab1 SB) = true) (hf : ∀ x,stab1 SB x = true → f x = x) : cs.map f = cs := by
  rw [List.all_eq_true] at h
  conv => rhs;rw [← List.map_id cs]
  exact List.map_congr_left fun x hx => hf x (h x hx)
theorem lift_stab2 {SB : List Nat} {x : LV} {f1 f2 : LV → LV} (h : stab2 SB x = true) (hf : ∀ x,stab1 SB x = true → f1 x = x) (ha : ∀ cs,f2 (.agg cs) = .agg (cs.map f1)) (hn : ∀ x,(∀ cs,x ≠ .agg cs) → f2 x = f1 x) : f2 x = x := by
  cases x with
  | agg cs => rw [ha,map_stab h hf]
  | _ => rw [hn _ (fun cs e => by cases e)];exact hf _ h
theorem stab_forget {SB : List Nat} {d : Nat} {x : LV} (h : stab SB x = true) (hd : memL SB d = false) : Go.Proofs.Ytpficpldemickaa.forget d x = x := by
  have h2 : ∀ x,stab2 SB x = true → forget2 d x = x := fun x hx => lift_stab2 hx (fun x hx => stab_forget1 hx hd) (fun _ => rfl) (fun x hx => by cases x <;> first | rfl | exact absurd rfl (hx _))
  cases x with
  | tup cs =>
    show LV.tup (cs.map (forget2 d)) = _
    unfold stab at h
    rw [List.all_eq_true] at h
    congr 1
    conv => rhs;rw [← List.map_id cs]
    exact List.map_congr_left fun x hx => h2 x (h x hx)
  | any => exact h2 .any h
  | lit u => exact h2 (.lit u) h
  | agg cs => exact h2 (.agg cs) h
  | sl n cs t => exact h2 (.sl n cs t) h
  | ref cs => exact h2 (.ref cs) h
  | ptr q o => exact h2 (.ptr q o) h
  | bsl q n e => exact h2 (.bsl q n e) h
  | aptr q o => exact h2 (.aptr q o) h
structure Calm (SB : List Nat) (dst : Option Tmp) (st st' : LSt) : Prop where
  env : ∀ t,dst ≠ some t → stab SB (st.env t) = true → st'.env t = st.env t
  box : ∀ e,memL SB e = true → (∀ cs,st.box e = some cs → cs.all (stab1 SB) = true) → st'.box e = st.box e
  arr : ∀ e,memL SB e = true → st'.arr e = st.arr e
  mode : st'.mode = st.mode
theorem Calm.refl {SB : List Nat} {dst : Option Tmp} {st : LSt} : Calm SB dst st st := ⟨fun _ _ _ => rfl,fun _ _ _ => rfl,fun _ _ => rfl,rfl⟩
theorem Calm.put {SB : List Nat} {d : Nat} {st st' : LSt} {x : LV} (h : Calm SB (some d) st st') : Calm SB (some d) st (st'.put (some d) x) :=
  ⟨fun t ht hs => by rw [put_env_ne ht];exact h.env t ht hs,fun e h1 h2 => by rw [put_box];exact h.box e h1 h2,fun e he => by rw [put_arr];exact h.arr e he,by rw [put_mode];exact h.mode⟩
theorem Calm.forget {SB : List Nat} {dst : Option Tmp} {st : LSt} {d : Nat} (hd : memL SB d = false) : Calm SB dst st (st.forget d) := by
  have ne : ∀ q,memL SB q = true → q ≠ d := fun q hq e => by rw [e,hd] at hq;cases hq
  refine ⟨fun t _ hs => stab_forget hs hd,fun e he hs => ?_,fun e he => ?_,rfl⟩
  · simp only [LSt.forget,if_neg (ne e he)]
    cases hb : st.box e with
    | none => rfl
    | some cs => rw [Option.map_some,map_stab (hs cs hb) fun x hx => stab_forget1 hx hd]
  · simp only [LSt.forget,upd_ne _ _ (ne e he)]
theorem Calm.setBox {SB : List Nat} {dst : Option Tmp} {st st' : LSt} {d : Nat} {cs : List LV} (h : Calm SB dst st st') (hd : memL SB d = false) : Calm SB dst st (st'.setBox d cs) := by
  have ne : ∀ q,memL SB q = true → q ≠ d := fun q hq e => by rw [e,hd] at hq;cases hq
  exact ⟨h.env,fun e he hs => by simp only [LSt.setBox,upd_ne _ _ (ne e he)];exact h.box e he hs,h.arr,h.mode⟩
theorem Calm.setArr {SB : List Nat} {dst : Option Tmp} {st st' : LSt} {d : Nat} {cs : List LV} (h : Calm SB dst st st') (hd : memL SB d = false) : Calm SB dst st (st'.setArr d cs) := by
  have ne : ∀ q,memL SB q = true → q ≠ d := fun q hq e => by rw [e,hd] at hq;cases hq
  exact ⟨h.env,h.box,fun e he => by simp only [LSt.setArr,upd_ne _ _ (ne e he)];exact h.arr e he,h.mode⟩
theorem Calm.setRow {SB : List Nat} {dst : Option Tmp} {st st' : LSt} {d n : Nat} {e : TypeId} (h : Calm SB dst st st') : Calm SB dst st (st'.setRow d e n) := ⟨h.env,h.box,h.arr,h.mode⟩
end
end Go.Proofs.Ytpficpldemickaa
end
section
set_option linter.unusedSimpArgs false
set_option linter.unusedVariables false
namespace Go.Proofs.Ytpficpldemickaa
open Go.RowKit

section
variable {P : Program} {N : Nat} {w0 : World} {S0 : Ent} {ops : Array Oper} {md : Region.Mode} {mo : Nat → Bool} {ml : List (Nat × List Nat)} {oc : List (Nat × OCD P)} {ocd : List Nat}
def subL (a b : List Nat) : Bool := a.all fun x => memL b x
def getM (ops : Array Oper) (ml : List (Nat × List Nat)) : List Nat → List (Option (List Nat) × Oper)
  | [] => []
  | i :: r => match ops[i]? with | some o => (alook ml i,o) :: getM ops ml r | none => getM ops ml r
end
end Go.Proofs.Ytpficpldemickaa
end
section
set_option linter.unusedSimpArgs false
set_option linter.unusedVariables false
namespace Go.Proofs.Ytpficpldemickaa
open Go.RowKit

def pub1 (P : Program) (al : List (Nat × List LV)) : LV → LV
  | .lit v => .lit v
  | .sl n cs t => .sl n cs t
  | .ref cs => .ref cs
  | .ptr d o => .ptr d o
  | .bsl q n e => match alook al q with | some cs => if cs.length = n * sizeL P e then .sl n cs .no else .any | none => .bsl q n e
  | .aptr q o => match alook al q with | some cs => .any | none => .aptr q o
  | _ => .any
def pub2 (P : Program) (al : List (Nat × List LV)) : LV → LV
  | .agg cs => .agg (cs.map (pub1 P al))
  | x => pub1 P al x
def pub (P : Program) (al : List (Nat × List LV)) : LV → LV
  | .tup cs => .tup (cs.map (pub2 P al))
  | x => pub2 P al x
def LSt.pub (P : Program) (st : LSt) (al : List (Nat × List LV)) : LSt :=
  ⟨fun k => Go.Proofs.Ytpficpldemickaa.pub P al (st.env k),fun k => (st.box k).map fun l => l.map (pub1 P al),st.row,fun k => match alook al k with | some _ => none | none => st.arr k,st.mode,st.val⟩
section
variable {P : Program} {N : Nat} {w0 : World} {S0 : Ent} {Q : Exit → LSt → Prop} {st : LSt}
structure PubM (P : Program) (al : List (Nat × List LV)) (w : World) (g g' : Gh) : Prop where
  own : g'.own = g.own
  cell : ∀ b i v,g.S b i → w.cell? ⟨b,i,none⟩ = some v → g'.S b i ∧ w.cell? ⟨b,i,none⟩ = some v
  row : ∀ q e n v,g'.row q = some (e,n) → (∀ e',g.row q = some (e',n) → OwnAt P w g q e' n v) → OwnAt P w g' q e n v
  arr : ∀ d cs,alook al d = some cs → ArrAt P w g d cs
  S : ∀ d cs b,alook al d = some cs → g.own d = some b → ∀ i,g'.S b i
theorem PubM.mono {al : List (Nat × List LV)} {w : World} {g g' : Gh} (m : PubM P al w g g') : Mono P w g w g' :=
  ⟨m.cell,fun d b h => by rw [m.own];exact h,m.row,fun _ _ cur _ _ hc => ⟨cur,hc,rfl⟩⟩
theorem Rep.pub1 {al : List (Nat × List LV)} {w : World} {g g' : Gh} {x : LV} {v : Value} (h : Rep P w g x v) (m : PubM P al w g g') : Rep P w g' (Go.Proofs.Ytpficpldemickaa.pub1 P al x) v := by
  cases x with
  | lit u => rw [h.inv_lit];exact .lit _ _
  | sl n cs t => exact h.mono m.mono
  | ref cs => exact h.mono m.mono
  | ptr d o => exact h.mono m.mono
  | bsl q n e =>
    simp only [Go.Proofs.Ytpficpldemickaa.pub1]
    cases hq : alook al q with
    | none => exact h.mono m.mono
    | some cs =>
      simp only
      split
      · rename_i hl
        rcases h.inv_bsl with ⟨rfl,rfl⟩ | ⟨b,cap,cur,h1,rfl,h3,h4,h5,h6,h7⟩
        · have : cs = [] := List.eq_nil_of_length_eq_zero (by rw [hl];simp)
          subst this
          exact .empty _ _ _
        · have hv := (arr_vals (m.arr q cs hq) h1 h3 hl h4 h6).mono (g' := g') (fun b i v hs hc => m.cell b i v hs hc)
          have hc := hv.cells (b := b) (off := 0) fun i u hu => ⟨m.S q cs b hq h1 _,by
            rw [Nat.zero_add,cell_of_heap h3]
            rw [List.getElem?_take] at hu
            split at hu
            · simpa using hu
            · cases hu⟩
          obtain ⟨val,hc1,hc2⟩ := hc
          exact .sl _ _ _ _ _ _ (by omega) val hc1 hc2
      · exact .any _ _
  | aptr q o =>
    simp only [Go.Proofs.Ytpficpldemickaa.pub1]
    cases hq : alook al q with
    | none => exact h.mono m.mono
    | some cs => exact .any _ _
  | _ => exact .any _ _
theorem Rep.pub2 {al : List (Nat × List LV)} {w : World} {g g' : Gh} {x : LV} {v : Value} (h : Rep P w g x v) (m : PubM P al w g g') : Rep P w g' (Go.Proofs.Ytpficpldemickaa.pub2 P al x) v := by
  cases x with
  | agg cs =>
    obtain ⟨vs,rfl,hl,h⟩ := h.inv_agg
    refine .agg _ _ _ (by simpa using hl) fun i c u hc hu => ?_
    obtain ⟨c',hc',rfl⟩ := map_get hc
    exact (h i c' u hc' hu).pub1 m
  | lit u => exact h.pub1 m
  | sl n cs t => exact h.pub1 m
  | ref cs => exact h.pub1 m
  | ptr d' off => exact h.pub1 m
  | aptr d' off => exact h.pub1 m
  | bsl d' n e => exact h.pub1 m
  | _ => exact .any _ _
theorem Rep.pub {al : List (Nat × List LV)} {w : World} {g g' : Gh} {x : LV} {v : Value} (h : Rep P w g x v) (m : PubM P al w g g') : Rep P w g' (Go.Proofs.Ytpficpldemickaa.pub P al x) v := by
  cases x with
  | tup cs =>
    obtain ⟨vs,rfl,hl,h⟩ := h.inv_tup
    refine .tup _ _ _ (by simpa using hl) fun i c u hc hu => ?_
    obtain ⟨c',hc',rfl⟩ := map_get hc
    exact (h i c' u hc' hu).pub2 m
  | agg cs => exact h.pub2 m
  | lit u => exact h.pub1 m
  | sl n cs t => exact h.pub1 m
  | ref cs => exact h.pub1 m
  | ptr d' off => exact h.pub1 m
  | aptr d' off => exact h.pub1 m
  | bsl d' n e => exact h.pub1 m
  | _ => exact .any _ _
theorem OCalls.toL {f : FuncId} {args : List LV} {r : LV} {R : Own} (h : OCalls P f args ⟨[],[],[]⟩ r R) : LCalls P f args (strip (Go.Proofs.Ytpficpldemickaa.pub P R.ar r)) := by
  refine ⟨h.enters,fun w S vs hgl hwf hl hr => ?_⟩
  have hno : ∀ b,¬ HOf (fun _ => none) b := fun b ⟨d,hd⟩ => by cases hd
  refine Calls.mono (h.calls w S (fun _ => none) vs (fun w' hb => hgl.on (hb.below hno)) hwf (fun d b hd => by cases hd) (fun d d' b hd => by cases hd) ⟨rfl,(fun d cs hd => by cases hd),(fun d cs hd => by cases hd),(fun d cs hd => by cases hd),(fun d cs hd => by cases hd)⟩ hl hr) ?_
  rintro e w' ⟨v,S',own',rfl,hb⟩
  let g : Gh := ⟨S',own',alook R.ro⟩
  let S2 : Nat → Nat → Prop := fun b i => S' b i ∨ ∃ d cs,alook R.ar d = some cs ∧ own' d = some b
  let g' : Gh := ⟨S2,own',fun _ => none⟩
  have m : PubM P R.ar w' g g' := ⟨rfl,fun b i v hs hc => ⟨.inl hs,hc⟩,(fun q e n v he => by cases he),hb.holds.arr,fun d cs b hd hb i => .inr ⟨d,cs,hd,hb⟩⟩
  refine ⟨v,S2,rfl,(hb.rep.pub m).strip rfl,hb.below.below hno,fun b i hlt => ⟨fun hs => hs.elim (hb.s b i hlt (hno b)).1 fun ⟨d,cs,hd,ho⟩ => ?_,fun hs => .inl ((hb.s b i hlt (hno b)).2 hs)⟩,fun b i hs => hs.elim (hb.wf b i) fun ⟨d,cs,hd,ho⟩ => (hb.own d b ho).2⟩
  rcases (hb.own d b ho).1 with h | h
  · omega
  · exact absurd h (hno b)
end
section
variable {α : Type} {enc : α → List LV} {k : Nat}
end
set_option maxRecDepth 100000 in
theorem LSx : type_of% (And.intro @lopsX_nil <| And.intro @lopsX_c <| And.intro @gopX_tt <| And.intro @gopX_ff <| And.intro @gopX_tf <| And.intro @gopX_ft <| And.intro @wopX_some <| And.intro @wopX_none <| And.intro @popX_some <| And.intro @popX_none <| And.intro @copX_none <| And.intro @eopX_some <| And.intro @mOk_none <| And.intro @mOk_some <| And.intro @Option.bind_none.{0,0} <| And.intro @Bool.or_true <| And.intro @Bool.true_or <| And.intro @Bool.and_false <| And.intro @Bool.false_and <| And.intro @Bool.false_or <| And.intro @Bool.or_false <| And.intro @ocOk.eq_1 <| And.intro @ocNext.eq_1 <| And.intro @ocAt.eq_1 <| And.intro @ocAt.eq_2 <| And.intro @alook.eq_1 <| And.intro @alook.eq_2 <| And.intro @bkL.eq_1 <| And.intro @bkL.eq_2 <| And.intro @allO.eq_1 <| And.intro @allO.eq_2 <| And.intro @memL.eq_1 <| And.intro @memL.eq_2 <| And.intro @firsts.eq_1 <| And.intro @firsts.eq_2 <| And.intro @seconds.eq_1 <| And.intro @seconds.eq_2 <| And.intro @ren1.eq_1 <| And.intro @ren1.eq_2 <| And.intro @ren1.eq_3 <| And.intro @ren1.eq_4 <| And.intro @ren1.eq_5 <| And.intro @ren1.eq_6 <| And.intro @ren1.eq_7 <| And.intro @ren1.eq_8 <| And.intro @ren2.eq_1 <| And.intro @ren2.eq_2 <| And.intro @ren.eq_1 <| And.intro @ren.eq_2 <| And.intro @fgF1.eq_1 <| And.intro @fgF1.eq_2 <| And.intro @fgF1.eq_3 <| And.intro @fgF1.eq_4 <| And.intro @fgF1.eq_5 <| And.intro @fgF1.eq_6 <| And.intro @fgF1.eq_7 <| And.intro @fgF1.eq_8 <| And.intro @fgF1.eq_9 <| And.intro @fgF2.eq_1 <| And.intro @fgF2.eq_2 <| And.intro @fgF.eq_1 <| And.intro @fgF.eq_2 <| And.intro @LSt.ocall.eq_1 <| And.intro @disjL.eq_1 <| And.intro @disjL.eq_2 <| And.intro @stab1.eq_1 <| And.intro @stab1.eq_2 <| And.intro @stab1.eq_3 <| And.intro @stab1.eq_4 <| And.intro @stab1.eq_5 <| And.intro @stab1.eq_6 <| And.intro @stab1.eq_7 <| And.intro @stab1.eq_8 <| And.intro @stab1.eq_9 <| And.intro @stab1.eq_10 <| And.intro @stab2.eq_1 <| And.intro @stab2.eq_2 <| And.intro @stab.eq_1 <| And.intro @stab.eq_2 <| And.intro @bxStab.eq_1 <| And.intro @bxStab.eq_2 <| And.intro @bxStab.eq_3 <| And.intro @opsStab.eq_1 <| And.intro @idsOf.eq_1 <| And.intro @idsOf.eq_2 <| And.intro @idsOf.eq_3 <| And.intro @idsOf.eq_4 <| And.intro @idsOf.eq_5 <| And.intro @idsOf.eq_6 <| And.intro @touch.eq_1 <| And.intro @touch.eq_2 <| And.intro @touch.eq_3 <| And.intro @touch.eq_4 <| And.intro @touch.eq_5 <| And.intro @effOk.eq_1 <| And.intro @effOk.eq_2 <| And.intro @stOk.eq_1 <| And.intro @noM.eq_1 <| And.intro @noM.eq_2 <| And.intro @getM.eq_1 <| And.intro @getM.eq_2 <| And.intro @entryO.eq_1 <| And.intro @subL.eq_1 <| And.intro @AllL.eq_1 <| And.intro @AllL.eq_2 <| And.intro @AllL.eq_3 <| And.intro @pub1.eq_1 <| And.intro @pub1.eq_2 <| And.intro @pub1.eq_3 <| And.intro @pub1.eq_4 <| And.intro @pub1.eq_5 <| And.intro @pub1.eq_6 <| And.intro @pub1.eq_7 <| And.intro @pub2.eq_1 <| And.intro @pub2.eq_2 <| And.intro @pub.eq_1 <| And.intro @pub.eq_2 <| @LSt.pub.eq_1) := And.intro @lopsX_nil <| And.intro @lopsX_c <| And.intro @gopX_tt <| And.intro @gopX_ff <| And.intro @gopX_tf <| And.intro @gopX_ft <| And.intro @wopX_some <| And.intro @wopX_none <| And.intro @popX_some <| And.intro @popX_none <| And.intro @copX_none <| And.intro @eopX_some <| And.intro @mOk_none <| And.intro @mOk_some <| And.intro @Option.bind_none.{0,0} <| And.intro @Bool.or_true <| And.intro @Bool.true_or <| And.intro @Bool.and_false <| And.intro @Bool.false_and <| And.intro @Bool.false_or <| And.intro @Bool.or_false <| And.intro @ocOk.eq_1 <| And.intro @ocNext.eq_1 <| And.intro @ocAt.eq_1 <| And.intro @ocAt.eq_2 <| And.intro @alook.eq_1 <| And.intro @alook.eq_2 <| And.intro @bkL.eq_1 <| And.intro @bkL.eq_2 <| And.intro @allO.eq_1 <| And.intro @allO.eq_2 <| And.intro @memL.eq_1 <| And.intro @memL.eq_2 <| And.intro @firsts.eq_1 <| And.intro @firsts.eq_2 <| And.intro @seconds.eq_1 <| And.intro @seconds.eq_2 <| And.intro @ren1.eq_1 <| And.intro @ren1.eq_2 <| And.intro @ren1.eq_3 <| And.intro @ren1.eq_4 <| And.intro @ren1.eq_5 <| And.intro @ren1.eq_6 <| And.intro @ren1.eq_7 <| And.intro @ren1.eq_8 <| And.intro @ren2.eq_1 <| And.intro @ren2.eq_2 <| And.intro @ren.eq_1 <| And.intro @ren.eq_2 <| And.intro @fgF1.eq_1 <| And.intro @fgF1.eq_2 <| And.intro @fgF1.eq_3 <| And.intro @fgF1.eq_4 <| And.intro @fgF1.eq_5 <| And.intro @fgF1.eq_6 <| And.intro @fgF1.eq_7 <| And.intro @fgF1.eq_8 <| And.intro @fgF1.eq_9 <| And.intro @fgF2.eq_1 <| And.intro @fgF2.eq_2 <| And.intro @fgF.eq_1 <| And.intro @fgF.eq_2 <| And.intro @LSt.ocall.eq_1 <| And.intro @disjL.eq_1 <| And.intro @disjL.eq_2 <| And.intro @stab1.eq_1 <| And.intro @stab1.eq_2 <| And.intro @stab1.eq_3 <| And.intro @stab1.eq_4 <| And.intro @stab1.eq_5 <| And.intro @stab1.eq_6 <| And.intro @stab1.eq_7 <| And.intro @stab1.eq_8 <| And.intro @stab1.eq_9 <| And.intro @stab1.eq_10 <| And.intro @stab2.eq_1 <| And.intro @stab2.eq_2 <| And.intro @stab.eq_1 <| And.intro @stab.eq_2 <| And.intro @bxStab.eq_1 <| And.intro @bxStab.eq_2 <| And.intro @bxStab.eq_3 <| And.intro @opsStab.eq_1 <| And.intro @idsOf.eq_1 <| And.intro @idsOf.eq_2 <| And.intro @idsOf.eq_3 <| And.intro @idsOf.eq_4 <| And.intro @idsOf.eq_5 <| And.intro @idsOf.eq_6 <| And.intro @touch.eq_1 <| And.intro @touch.eq_2 <| And.intro @touch.eq_3 <| And.intro @touch.eq_4 <| And.intro @touch.eq_5 <| And.intro @effOk.eq_1 <| And.intro @effOk.eq_2 <| And.intro @stOk.eq_1 <| And.intro @noM.eq_1 <| And.intro @noM.eq_2 <| And.intro @getM.eq_1 <| And.intro @getM.eq_2 <| And.intro @entryO.eq_1 <| And.intro @subL.eq_1 <| And.intro @AllL.eq_1 <| And.intro @AllL.eq_2 <| And.intro @AllL.eq_3 <| And.intro @pub1.eq_1 <| And.intro @pub1.eq_2 <| And.intro @pub1.eq_3 <| And.intro @pub1.eq_4 <| And.intro @pub1.eq_5 <| And.intro @pub1.eq_6 <| And.intro @pub1.eq_7 <| And.intro @pub2.eq_1 <| And.intro @pub2.eq_2 <| And.intro @pub.eq_1 <| And.intro @pub.eq_2 <| @LSt.pub.eq_1
set_option maxRecDepth 100000 in
theorem LZ : type_of% (And.intro LSx LY) := And.intro LSx LY
end Go.Proofs.Ytpficpldemickaa
end
