import Derived.Test.YtbffcndmcaeamaaDoorLK
import Derived.Test.YtbffcndmcaeamaaDoorL11
section
set_option linter.unusedSimpArgs false
set_option linter.unusedVariables false
namespace Go.Proofs.YtbffcndmcaeamaaDoor
open Go.RowKit

section
variable {P : Program} {N : Nat} {w0 : World} {S0 : Ent} {Q : Exit → LSt → Prop} {st : LSt}
theorem LW_weak {c : Code} (k : Nat) {x : LV} (hx : ∀ w g v,Rep P w g (st.env k) v → Rep P w g x v) (h : LW P N w0 S0 c Q (st.put (some k) x)) : LW P N w0 S0 c Q st := by
  intro a w hr
  refine h a w ?_
  obtain ⟨g,hR⟩ := hr
  refine ⟨g,⟨hR.defers,hR.size,fun j => ?_,hR.below,hR.s0,hR.wf,hR.own,hR.inj,hR.box,hR.row,hR.dis,hR.arr,hR.dia,⟨hR.ex.glob,hR.ex.wf0,fun j v' hj => by
    simp only [LSt.put,upd] at hj
    split at hj
    · cases hj
    · exact hR.ex.vals j v' hj⟩,hR.keep⟩⟩
  simp only [LSt.put,upd]
  split
  · rename_i hj
    rw [hj];exact hx _ _ _ (hR.env k)
  · exact hR.env j
theorem LW_plain {c : Code} (k : Nat) {n : Nat} {cs : List LV} {t : Tok} (hk : st.env k = .sl n cs t) (h : LW P N w0 S0 c Q (st.put (some k) (.sl n cs .no))) : LW P N w0 S0 c Q st :=
  LW_weak k (fun w g v hv => by rw [hk] at hv;exact hv.no_of rfl) h
theorem LW_weakBox {c : Code} (d : Nat) {cs : List LV} (ds : List LV) (hb : st.box d = some cs) (hl : ds.length = cs.length) (hx : ∀ (i : Nat) (x y : LV),cs[i]? = some x → ds[i]? = some y → ∀ w g v,Rep P w g x v → Rep P w g y v) (h : LW P N w0 S0 c Q (st.setBox d ds)) : LW P N w0 S0 c Q st := by
  intro a w hr
  refine h a w ?_
  obtain ⟨g,hR⟩ := hr
  refine ⟨g,⟨hR.defers,hR.size,hR.env,hR.below,hR.s0,hR.wf,hR.own,hR.inj,fun e es he => ?_,hR.row,fun e es he => ?_,hR.arr,fun e es he => ?_,hR.ex,hR.keep⟩⟩
  · simp only [LSt.setBox,upd] at he
    split at he
    · rename_i hd
      cases he
      subst hd
      obtain ⟨b,vals,T,k1,k2,k3,k4,k5⟩ := hR.box _ _ hb
      refine ⟨b,vals,T,k1,k2,by rw [k3,hl],fun i y u hy hu => ?_,k5⟩
      have hi : i < cs.length := by rw [← hl];exact (List.getElem?_eq_some_iff.1 hy).1
      exact hx i cs[i] y (List.getElem?_eq_getElem hi) hy _ _ _ (k4 i _ u (List.getElem?_eq_getElem hi) hu)
    · exact hR.box _ _ he
  · simp only [LSt.setBox,upd] at he
    split at he
    · rename_i hd;subst hd;exact hR.dis _ _ hb
    · exact hR.dis _ _ he
  · refine ⟨(hR.dia e es he).1,?_⟩
    have h2 := (hR.dia e es he).2
    simp only [LSt.setBox,upd]
    split
    · rename_i hd;subst hd;rw [hb] at h2;cases h2
    · exact h2
theorem LW_join {c : Code} {Q : Exit → LSt → Prop} {K : LSt → Prop} {st : LSt} (M : LSt → Prop) (h1 : LW P N w0 S0 c (thenL M Q) st) (h2 : ∀ st',M st' → K st') : LW P N w0 S0 c (thenL K Q) st :=
  h1.mono fun e st' h => by cases e <;> first | exact h2 _ h | exact h
theorem LW_joinB {id : Nat} {c : Code} {Q : Exit → LSt → Prop} {K : LSt → Prop} {st : LSt} (M : LSt → Prop) (h1 : LW P N w0 S0 c (inBlockL id (thenL M Q)) st) (h2 : ∀ st',M st' → K st') : LW P N w0 S0 c (inBlockL id (thenL K Q)) st :=
  h1.mono fun e st' h => by
    cases e with
    | exit i =>
      simp only [inBlockL] at h ⊢
      split
      · rename_i hi;rw [if_pos hi] at h;exact h2 _ h
      · rename_i hi;rw [if_neg hi] at h;exact h
    | normal => exact h2 _ h
    | _ => exact h
theorem LW_slim {c : Code} {Q : Exit → LSt → Prop} {st : LSt} (M : LSt → Prop) (h : M st) (hk : ∀ st',M st' → LW P N w0 S0 c Q st') : LW P N w0 S0 c Q st := hk st h
end
end Go.Proofs.YtbffcndmcaeamaaDoor
end
section
set_option linter.unusedSimpArgs false
set_option linter.unusedVariables false
namespace Go.Proofs.YtbffcndmcaeamaaDoor
open Go.RowKit

def waitsB (md : Region.Mode) (ops : Array Oper) : Nat → Nat → Nat → Bool
  | 0,_,_ => false
  | f + 1,j,i =>
    match ops[j]? with
    | some oj => oj.after.toList.any fun e => Region.binds md e && (e.on == i || waitsB md ops f e.on i)
    | none => false
def Closed (md : Region.Mode) (ops : Array Oper) (listed : Array Bool) : Prop := ∀ j oj,ops[j]? = some oj → listed.getD j false = true → ∀ e ∈ oj.after,Region.binds md e = true → listed.getD e.on false = true
section
variable {ops : Array Oper} {md : Region.Mode}
theorem needs_not {listed : Array Bool} (hc : Closed md ops listed) {i : Nat} (hi : listed.getD i false = false) : ∀ (f j : Nat) (oj : Oper),ops[j]? = some oj → (∀ e ∈ oj.after,Region.binds md e = true → listed.getD e.on false = true) → waitsB md ops f j i = false
  | 0,_,_,_,_ => rfl
  | f + 1,j,oj,hj,hall => by
    unfold waitsB
    simp only [hj]
    rw [List.any_eq_false]
    intro e he h
    rw [Bool.and_eq_true,Bool.or_eq_true] at h
    have hl := hall e (by simpa using he) h.1
    rcases h.2 with h2 | h2
    · rw [beq_iff_eq] at h2
      rw [h2,hi] at hl;cases hl
    · cases ho : ops[e.on]? with
      | none =>
        cases f with
        | zero => simp [waitsB] at h2
        | succ f => simp [waitsB,ho] at h2
      | some oe =>
        rw [needs_not hc hi f e.on oe ho (hc e.on oe ho hl)] at h2;cases h2
theorem Closed.set {i : Nat} {listed : Array Bool} (inv : Closed md ops listed) (hi : i ∈ Region.ready md ops listed) : Closed md ops (listed.setIfInBounds i true) := by
  obtain ⟨_,oi,hoi,hall⟩ := mem_ready.1 hi
  intro j oj hj hl e he hb
  by_cases hij : i = j
  · subst hij
    have : oj = oi := Option.some.inj (hj.symm.trans hoi)
    subst this
    exact getD_set_true (hall e he hb)
  · rw [getD_set_ne false hij] at hl
    exact getD_set_true (inv j oj hj hl e he hb)
def orders (md : Region.Mode) (ops : Array Oper) : Nat → Array Bool → List (List Nat)
  | 0,_ => [[]]
  | f + 1,listed => if (Region.ready md ops listed).isEmpty then [[]] else (Region.ready md ops listed).flatMap fun i => (orders md ops f (listed.setIfInBounds i true)).map (i :: ·)
theorem orders_ne : ∀ (f : Nat) (listed : Array Bool),orders md ops f listed ≠ []
  | 0,_ => by simp [orders]
  | f + 1,listed => by
    unfold orders
    split
    · simp
    · rename_i h
      intro he
      rw [List.flatMap_eq_nil_iff] at he
      cases hr : Region.ready md ops listed with
      | nil => rw [hr] at h;simp at h
      | cons i r =>
        have := he i (by rw [hr];simp)
        rw [List.map_eq_nil_iff] at this
        exact orders_ne f _ this
def AllL {α : Type} (F : α → Prop) : List α → Prop
  | [] => True
  | [a] => F a
  | a :: b :: r => F a ∧ AllL F (b :: r)
theorem AllL.spec {α : Type} {F : α → Prop} : ∀ {l : List α},AllL F l → ∀ p ∈ l,F p
  | [],_,p,hp => by cases hp
  | [a],h,p,hp => by rw [List.mem_singleton] at hp;subst hp;exact h
  | a :: b :: r,h,p,hp => by
    rcases List.mem_cons.1 hp with rfl | hp
    · exact h.1
    · exact AllL.spec h.2 p hp
end
end Go.Proofs.YtbffcndmcaeamaaDoor
end
section
set_option linter.unusedSimpArgs false
set_option linter.unusedVariables false
namespace Go.Proofs.YtbffcndmcaeamaaDoor
open Go.RowKit

def alook {α : Type} : List (Nat × α) → Nat → Option α
  | [],_ => none
  | (c,x) :: r,y => if y = c then some x else alook r y
def allO {α : Type} (p : Nat → α → Prop) : List (Nat × α) → Prop
  | [] => True
  | (c,x) :: r => p c x ∧ allO p r
theorem allO_get {α : Type} {p : Nat → α → Prop} : ∀ {l : List (Nat × α)} {c : Nat} {x : α},allO p l → alook l c = some x → p c x
  | (c',x') :: r,c,x,h,hl => by
    unfold alook at hl
    split at hl
    · rename_i he;cases hl;subst he;exact h.1
    · exact allO_get h.2 hl
def bkL : List (Nat × Nat) → Nat → Option Nat
  | [],_ => none
  | (c,k) :: r,y => if y = k then some c else bkL r y
def memL : List Nat → Nat → Bool
  | [],_ => false
  | a :: r,q => if q = a then true else memL r q
def nodupL : List Nat → Bool
  | [] => true
  | a :: r => !memL r a && nodupL r
def okAl (al : List (Nat × Nat)) : Bool := nodupL (al.map (·.1)) && nodupL (al.map (·.2))
theorem memL_iff : ∀ (l : List Nat) (q : Nat),memL l q = true ↔ q ∈ l
  | [],q => by simp [memL]
  | a :: r,q => by
    unfold memL
    split
    · rename_i h;simp [h]
    · rename_i h;rw [memL_iff r q];simp [h]
theorem nodupL_iff : ∀ l : List Nat,nodupL l = true ↔ l.Nodup
  | [] => by simp [nodupL]
  | a :: r => by
    rw [nodupL,Bool.and_eq_true,nodupL_iff r,List.nodup_cons]
    have := memL_iff r a
    cases h : memL r a
    · rw [h] at this;simp at this;simp [this]
    · rw [h] at this;simp at this;simp [this]
theorem alook_mem {α : Type} : ∀ {l : List (Nat × α)} {c : Nat} {x : α},alook l c = some x → (c,x) ∈ l
  | (c',x') :: r,c,x,h => by
    unfold alook at h
    split at h
    · rename_i he;cases h;subst he;simp
    · exact List.mem_cons_of_mem _ (alook_mem h)
theorem bkL_mem : ∀ {l : List (Nat × Nat)} {k c : Nat},bkL l k = some c → (c,k) ∈ l
  | (c',k') :: r,k,c,h => by
    unfold bkL at h
    split at h
    · rename_i he;cases h;subst he;simp
    · exact List.mem_cons_of_mem _ (bkL_mem h)
theorem mem_bkL : ∀ {l : List (Nat × Nat)} {k c : Nat},(l.map (·.2)).Nodup → (c,k) ∈ l → bkL l k = some c
  | (c',k') :: r,k,c,hn,h => by
    rw [List.map_cons,List.nodup_cons] at hn
    unfold bkL
    rcases List.mem_cons.1 h with h' | h'
    · cases h';simp
    · have : k ≠ k' := by
        rintro rfl
        exact hn.1 (List.mem_map.2 ⟨(c,k),h',rfl⟩)
      rw [if_neg this];exact mem_bkL hn.2 h'
theorem fst_inj : ∀ {l : List (Nat × Nat)} {k k' c : Nat},(l.map (·.1)).Nodup → (c,k) ∈ l → (c,k') ∈ l → k = k'
  | (c',x) :: r,k,k',c,hn,h,h' => by
    rw [List.map_cons,List.nodup_cons] at hn
    rcases List.mem_cons.1 h with h | h <;> rcases List.mem_cons.1 h' with h' | h'
    · cases h;cases h';rfl
    · cases h;exact absurd (List.mem_map.2 ⟨_,h',rfl⟩) hn.1
    · cases h';exact absurd (List.mem_map.2 ⟨_,h,rfl⟩) hn.1
    · exact fst_inj hn.2 h h'
theorem okAl_bk {al : List (Nat × Nat)} (h : okAl al = true) {c k : Nat} (hc : alook al c = some k) : bkL al k = some c := by
  unfold okAl at h
  rw [Bool.and_eq_true,nodupL_iff,nodupL_iff] at h
  exact mem_bkL h.2 (alook_mem hc)
theorem okAl_inj {al : List (Nat × Nat)} (h : okAl al = true) {k k' c : Nat} (h1 : bkL al k = some c) (h2 : bkL al k' = some c) : k = k' := by
  unfold okAl at h
  rw [Bool.and_eq_true,nodupL_iff,nodupL_iff] at h
  exact fst_inj h.1 (bkL_mem h1) (bkL_mem h2)

def ren1 (al : List (Nat × Nat)) : LV → LV
  | .lit v => .lit v
  | .sl n cs (.row q) => .sl n cs (match alook al q with | some k => .row k | none => .no)
  | .sl n cs (.sub q o) => .sl n cs (match alook al q with | some k => .sub k o | none => .no)
  | .sl n cs _ => .sl n cs .no
  | .ref cs => .ref cs
  | .fn f cs => .fn f cs
  | .ptr d o => match alook al d with | some k => .ptr k o | none => .any
  | .bsl d n e => match alook al d with | some k => .bsl k n e | none => .any
  | .aptr d o => match alook al d with | some k => .aptr k o | none => .any
  | _ => .any
def ren2 (al : List (Nat × Nat)) : LV → LV
  | .agg cs => .agg (cs.map (ren1 al))
  | x => ren1 al x
def ren (al : List (Nat × Nat)) : LV → LV
  | .tup cs => .tup (cs.map (ren2 al))
  | x => ren2 al x
def memP (F : List Nat) (q : Nat) : Bool := memL F q && !memL F (q + 1000000)
def memA (F : List Nat) (q : Nat) : Bool := memL F q && !memL F (q + 2000000)
theorem memA_of {F : List Nat} {k : Nat} (h : memL F k = false) : memA F k = false := by unfold memA;rw [h];rfl
theorem memP_of {F : List Nat} {k : Nat} (h : memL F k = false) : memP F k = false := by unfold memP;rw [h];rfl
def fgF1 (F : List Nat) : LV → LV
  | .lit v => .lit v
  | .sl n cs (.row q) => .sl n cs (if memL F q = true then .no else .row q)
  | .sl n cs (.sub q o) => .sl n cs (if memA F q = true then .no else .sub q o)
  | .sl n cs t => .sl n cs t
  | .ref cs => .ref cs
  | .fn f cs => .fn f cs
  | .ptr e off => if memP F e = true then .any else .ptr e off
  | .bsl q n e => if memA F q = true then .any else .bsl q n e
  | .aptr e off => if memA F e = true then .any else .aptr e off
  | .mp e kvs => if memL F e = true then .any else .mp e kvs
  | _ => .any
def fgF2 (F : List Nat) : LV → LV
  | .agg cs => .agg (cs.map (fgF1 F))
  | x => fgF1 F x
def fgF (F : List Nat) : LV → LV
  | .tup cs => .tup (cs.map (fgF2 F))
  | x => fgF2 F x
section
variable {P : Program} {w : World} {g g' : Gh} {v : Value}
structure Ren (al : List (Nat × Nat)) (g g' : Gh) : Prop where
  S : g'.S = g.S
  own : ∀ c k,alook al c = some k → g'.own k = g.own c
  row : ∀ c k e,alook al c = some k → g'.row k = some e → g.row c = some e
theorem OwnAt.of_own {q q' : Nat} {e : TypeId} {n : Nat} (h : OwnAt P w g q e n v) (ho : g'.own q' = g.own q) (hS : g'.S = g.S) : OwnAt P w g' q' e n v := by
  rcases h with h | ⟨b,cap,cur,h1,h2,h3,h4,h5,h6,h7⟩
  · exact .inl h
  · exact .inr ⟨b,cap,cur,by rw [ho];exact h1,h2,h3,h4,h5,h6,by rw [hS];exact h7⟩
theorem BslAt.of_own {q q' : Nat} {e : TypeId} {n : Nat} (h : BslAt P w g q n e v) (ho : g'.own q' = g.own q) : BslAt P w g' q' n e v := by
  rcases h with h | ⟨b,cap,cur,h1,h2⟩
  · exact .inl h
  · exact .inr ⟨b,cap,cur,by rw [ho];exact h1,h2⟩
theorem Rep.ren1 {al : List (Nat × Nat)} {x : LV} (h : Rep P w g x v) (r : Ren al g g') : Rep P w g' (Go.Proofs.YtbffcndmcaeamaaDoor.ren1 al x) v := by
  cases x with
  | lit u => rw [h.inv_lit];exact .lit _ _
  | sl n cs t =>
    cases t with
    | no => exact h.no_of r.S
    | nil => exact h.no_of r.S
    | sub q o =>
      simp only [Go.Proofs.YtbffcndmcaeamaaDoor.ren1]
      cases hq : alook al q with
      | none => exact h.no_of r.S
      | some k =>
        obtain ⟨rfl,h1,b,o',cap,hv,ho,hb⟩ := h.inv_sub
        exact .sub _ _ _ _ _ (h1.no_of r.S) b o' cap hv ho (by rw [r.own q k hq];exact hb)
    | row q =>
      simp only [Go.Proofs.YtbffcndmcaeamaaDoor.ren1]
      cases hq : alook al q with
      | none => exact h.no_of r.S
      | some k => exact .row _ _ _ _ _ (h.no_of r.S) fun e he => (h.inv_row.2 e (r.row q k _ hq he)).of_own (r.own q k hq) r.S
  | ref cs => exact h.ref_of r.S
  | fn f cs => exact h.fn_of r.S
  | ptr d o =>
    obtain ⟨b,rfl,hb⟩ := h.inv_ptr
    simp only [Go.Proofs.YtbffcndmcaeamaaDoor.ren1]
    cases hq : alook al d with
    | none => exact .any _ _
    | some k => exact .ptr _ _ _ _ (by rw [r.own d k hq];exact hb)
  | aptr d o =>
    obtain ⟨b,rfl,hb⟩ := h.inv_aptr
    simp only [Go.Proofs.YtbffcndmcaeamaaDoor.ren1]
    cases hq : alook al d with
    | none => exact .any _ _
    | some k => exact .aptr _ _ _ _ (by rw [r.own d k hq];exact hb)
  | bsl d n e =>
    simp only [Go.Proofs.YtbffcndmcaeamaaDoor.ren1]
    cases hq : alook al d with
    | none => exact .any _ _
    | some k => exact .bsl _ _ _ _ _ (h.inv_bsl.of_own (r.own d k hq))
  | _ => exact .any _ _
theorem Rep.ren2 {al : List (Nat × Nat)} {x : LV} (h : Rep P w g x v) (r : Ren al g g') : Rep P w g' (Go.Proofs.YtbffcndmcaeamaaDoor.ren2 al x) v := by
  cases x with
  | agg cs =>
    obtain ⟨vs,rfl,hl,h⟩ := h.inv_agg
    refine .agg _ _ _ (by simpa using hl) fun i c u hc hu => ?_
    obtain ⟨c',hc',rfl⟩ := map_get hc
    exact (h i c' u hc' hu).ren1 r
  | lit u => exact h.ren1 r
  | sl n cs t => exact h.ren1 r
  | ref cs => exact h.ren1 r
  | fn f cs => exact h.ren1 r
  | ptr d' off => exact h.ren1 r
  | aptr d' off => exact h.ren1 r
  | bsl d' n e => exact h.ren1 r
  | _ => exact .any _ _
theorem Rep.ren {al : List (Nat × Nat)} {x : LV} (h : Rep P w g x v) (r : Ren al g g') : Rep P w g' (Go.Proofs.YtbffcndmcaeamaaDoor.ren al x) v := by
  cases x with
  | tup cs =>
    obtain ⟨vs,rfl,hl,h⟩ := h.inv_tup
    refine .tup _ _ _ (by simpa using hl) fun i c u hc hu => ?_
    obtain ⟨c',hc',rfl⟩ := map_get hc
    exact (h i c' u hc' hu).ren2 r
  | agg cs => exact h.ren2 r
  | lit u => exact h.ren1 r
  | sl n cs t => exact h.ren1 r
  | ref cs => exact h.ren1 r
  | fn f cs => exact h.ren1 r
  | ptr d' off => exact h.ren1 r
  | aptr d' off => exact h.ren1 r
  | bsl d' n e => exact h.ren1 r
  | _ => exact .any _ _
theorem bare_eq (hS : g'.S = g.S) : g'.bare = g.bare := by unfold Gh.bare;rw [hS]
theorem ArrAt.of_own {c k : Nat} {cs : List LV} (h : ArrAt P w g c cs) (ho : g'.own k = g.own c) (hS : g'.S = g.S) : ArrAt P w g' k cs := by
  rcases h with h | ⟨b,vals,T,h1,h2,h3,h4,h5⟩
  · exact .inl h
  · exact .inr ⟨b,vals,T,by rw [ho];exact h1,h2,h3,by rw [bare_eq hS];exact h4,by rw [hS];exact h5⟩
theorem BoxAt.ren {al : List (Nat × Nat)} {c k : Nat} {cs : List LV} (h : BoxAt P w g c cs) (ho : g'.own k = g.own c) (r : Ren al g g') : BoxAt P w g' k (cs.map (Go.Proofs.YtbffcndmcaeamaaDoor.ren1 al)) := by
  obtain ⟨b,vals,T,h1,h2,h3,h4,h5⟩ := h
  refine ⟨b,vals,T,by rw [ho];exact h1,h2,by simpa using h3,fun i c' u hc hu => ?_,by rw [r.S];exact h5⟩
  obtain ⟨c0,hc0,rfl⟩ := map_get hc
  exact (h4 i c0 u hc0 hu).ren1 r
structure MonoF (P : Program) (F : List Nat) (w : World) (g : Gh) (w' : World) (g' : Gh) : Prop where
  cell : ∀ b i v,g.S b i → w.cell? ⟨b,i,none⟩ = some v → g'.S b i ∧ w'.cell? ⟨b,i,none⟩ = some v
  ptr : ∀ k b,memP F k = false → g.own k = some b → g'.own k = some b
  ptrA : ∀ k b,memA F k = false → g.own k = some b → g'.own k = some b
  own : ∀ q e n v,memL F q = false → g'.row q = some (e,n) → (∀ e',g.row q = some (e',n) → OwnAt P w g q e' n v) → OwnAt P w' g' q e n v
  shape : ∀ k b cur e,memA F k = false → g.own k = some b → w.heap[b]? = some (.cells cur e (0,0)) → ∃ cur',w'.heap[b]? = some (.cells cur' e (0,0)) ∧ cur'.size = cur.size
  maps : ∀ k b es clk,memL F k = false → g.own k = some b → w.heap[b]? = some (.map es clk) → w'.heap[b]? = some (.map es clk)
variable {w' : World}
theorem Rep.fgF1 {F : List Nat} {x : LV} (h : Rep P w g x v) (m : MonoF P F w g w' g') : Rep P w' g' (Go.Proofs.YtbffcndmcaeamaaDoor.fgF1 F x) v := by
  cases x with
  | lit u => rw [h.inv_lit];exact .lit _ _
  | sl n cs t =>
    cases t with
    | no => exact rep_no h m.cell
    | nil => obtain ⟨rfl,rfl,rfl⟩ := h.inv_nil;exact .nil _
    | row q =>
      simp only [Go.Proofs.YtbffcndmcaeamaaDoor.fgF1]
      split
      · exact rep_no h m.cell
      · rename_i hq
        exact .row _ _ _ _ _ (rep_no h m.cell) fun e he => m.own q e n v (by simpa using hq) he h.inv_row.2
    | sub q o =>
      obtain ⟨rfl,h1,b,o',cap,hv,ho,hb⟩ := h.inv_sub
      simp only [Go.Proofs.YtbffcndmcaeamaaDoor.fgF1]
      split
      · exact rep_no h1 m.cell
      · rename_i hq
        exact .sub _ _ _ _ _ (rep_no h1 m.cell) b o' cap hv ho (m.ptrA _ _ (by simpa using hq) hb)
  | ref cs =>
    obtain ⟨b,off,rfl,hc⟩ := h.inv_ref
    exact (rep_cells hc m.cell).rep_ref
  | fn f cs => exact rep_fn h m.cell
  | ptr d' off =>
    obtain ⟨b,rfl,hb⟩ := h.inv_ptr
    simp only [Go.Proofs.YtbffcndmcaeamaaDoor.fgF1]
    split
    · exact .any _ _
    · rename_i hq
      exact .ptr _ _ _ _ (m.ptr _ _ (by simpa using hq) hb)
  | aptr d' off =>
    obtain ⟨b,rfl,hb⟩ := h.inv_aptr
    simp only [Go.Proofs.YtbffcndmcaeamaaDoor.fgF1]
    split
    · exact .any _ _
    · rename_i hq
      exact .aptr _ _ _ _ (m.ptrA _ _ (by simpa using hq) hb)
  | bsl d' n e =>
    simp only [Go.Proofs.YtbffcndmcaeamaaDoor.fgF1]
    split
    · exact .any _ _
    · rename_i hq
      exact .bsl _ _ _ _ _ (h.inv_bsl.mono (fun b hb => m.ptrA _ _ (by simpa using hq) hb) (fun b cur e hb hc => m.shape _ _ _ _ (by simpa using hq) hb hc))
  | mp d' kvs =>
    obtain ⟨b,es,clk,rfl,hb,hm,he⟩ := h.inv_mp
    simp only [Go.Proofs.YtbffcndmcaeamaaDoor.fgF1]
    split
    · exact .any _ _
    · rename_i hq
      have hq : memL F d' = false := by simpa using hq
      exact .mp _ _ _ _ _ _ (m.ptr _ _ (memP_of hq) hb) (m.maps _ _ _ _ hq hb hm) he
  | _ => exact .any _ _
theorem Rep.fgF2 {F : List Nat} {x : LV} (h : Rep P w g x v) (m : MonoF P F w g w' g') : Rep P w' g' (Go.Proofs.YtbffcndmcaeamaaDoor.fgF2 F x) v := by
  cases x with
  | agg cs =>
    obtain ⟨vs,rfl,hl,h⟩ := h.inv_agg
    refine .agg _ _ _ (by simpa using hl) fun i c u hc hu => ?_
    obtain ⟨c',hc',rfl⟩ := map_get hc
    exact (h i c' u hc' hu).fgF1 m
  | lit u => exact h.fgF1 m
  | sl n cs t => exact h.fgF1 m
  | ref cs => exact h.fgF1 m
  | fn f cs => exact h.fgF1 m
  | ptr d' off => exact h.fgF1 m
  | aptr d' off => exact h.fgF1 m
  | bsl d' n e => exact h.fgF1 m
  | mp d' kvs => exact h.fgF1 m
  | _ => exact .any _ _
theorem Rep.fgF {F : List Nat} {x : LV} (h : Rep P w g x v) (m : MonoF P F w g w' g') : Rep P w' g' (Go.Proofs.YtbffcndmcaeamaaDoor.fgF F x) v := by
  cases x with
  | tup cs =>
    obtain ⟨vs,rfl,hl,h⟩ := h.inv_tup
    refine .tup _ _ _ (by simpa using hl) fun i c u hc hu => ?_
    obtain ⟨c',hc',rfl⟩ := map_get hc
    exact (h i c' u hc' hu).fgF2 m
  | agg cs => exact h.fgF2 m
  | lit u => exact h.fgF1 m
  | sl n cs t => exact h.fgF1 m
  | ref cs => exact h.fgF1 m
  | fn f cs => exact h.fgF1 m
  | ptr d' off => exact h.fgF1 m
  | aptr d' off => exact h.fgF1 m
  | bsl d' n e => exact h.fgF1 m
  | mp d' kvs => exact h.fgF1 m
  | _ => exact .any _ _
end

structure Own where
  ro : List (Nat × (TypeId × Nat))
  ar : List (Nat × List LV)
  bx : List (Nat × List LV)
structure Holds (P : Program) (w : World) (g : Gh) (O : Own) : Prop where
  row : g.row = alook O.ro
  arr : ∀ d cs,alook O.ar d = some cs → ArrAt P w g d cs
  box : ∀ d cs,alook O.bx d = some cs → BoxAt P w g d cs
  dia : ∀ d cs,alook O.ar d = some cs → alook O.ro d = none ∧ alook O.bx d = none
  dis : ∀ d cs,alook O.bx d = some cs → alook O.ro d = none
def HOf (own : Nat → Option Nat) (b : Nat) : Prop := ∃ d,own d = some b
structure Back (P : Program) (w : World) (S : Nat → Nat → Prop) (own : Nat → Option Nat) (w' : World) (S' : Nat → Nat → Prop) (own' : Nat → Option Nat) (r : LV) (R : Own) (v : Value) : Prop where
  rep : Rep P w' ⟨S',own',alook R.ro⟩ r v
  holds : Holds P w' ⟨S',own',alook R.ro⟩ R
  below : BelowH w.heap.size (HOf own) w w'
  s : ∀ b i,b < w.heap.size → ¬ HOf own b → (S' b i ↔ S b i)
  wf : ∀ b i,S' b i → b < w'.heap.size
  own : ∀ d b,own' d = some b → (w.heap.size ≤ b ∨ HOf own b) ∧ b < w'.heap.size
  inj : ∀ d d' b,own' d = some b → own' d' = some b → d = d'
  keep : ∀ b i v,S b i → w.cell? ⟨b,i,none⟩ = some v → S' b i ∧ w'.cell? ⟨b,i,none⟩ = some v
structure OCalls (P : Program) (f : FuncId) (args : List LV) (I : Own) (r : LV) (R : Own) : Prop where
  enters : ∀ (vs : Array Value) (w : World),(callFunc f vs).run P w = .ok (.enter f vs) w
  calls : ∀ (w : World) (S : Nat → Nat → Prop) (own : Nat → Option Nat) (vs : Array Value),(∀ w',BelowH w.heap.size (HOf own) w w' → Glob P w') → (∀ b i,S b i → b < w.heap.size) → (∀ d b,own d = some b → b < w.heap.size) → (∀ d d' b,own d = some b → own d' = some b → d = d') →
    Holds P w ⟨S,own,alook I.ro⟩ I → vs.size = args.length → (∀ (i : Nat) (c : LV) (u : Value),args[i]? = some c → vs[i]? = some u → Rep P w ⟨S,own,alook I.ro⟩ c u) →
    Calls P f vs w fun e w' => ∃ v S' own',e = .returned v ∧ Back P w S own w' S' own' r R v

structure SCalls (P : Program) (f : FuncId) (args : List LV) (I : Own) (r : LV) (R : Own) (sm : List (Nat × Nat)) : Prop where
  enters : ∀ (vs : Array Value) (w : World),(callFunc f vs).run P w = .ok (.enter f vs) w
  calls : ∀ (w : World) (S : Nat → Nat → Prop) (own : Nat → Option Nat) (vs : Array Value),(∀ w',BelowH w.heap.size (HOf own) w w' → Glob P w') → (∀ b i,S b i → b < w.heap.size) → (∀ d b,own d = some b → b < w.heap.size) → (∀ d d' b,own d = some b → own d' = some b → d = d') →
    Holds P w ⟨S,own,alook I.ro⟩ I → vs.size = args.length → (∀ (i : Nat) (c : LV) (u : Value),args[i]? = some c → vs[i]? = some u → Rep P w ⟨S,own,alook I.ro⟩ c u) →
    Calls P f vs w fun e w' => ∃ v S' own',e = .returned v ∧ Back P w S own w' S' own' r R v ∧ ∀ a b,(a,b) ∈ sm → own' b = own a ∧ (3000 ≤ a → ∀ x,own a = some x → w'.heap[x]? = w.heap[x]?)
theorem OCalls.toS {P : Program} {f : FuncId} {args : List LV} {I : Own} {r : LV} {R : Own} (h : OCalls P f args I r R) : SCalls P f args I r R [] :=
  ⟨h.enters,fun w S own vs h1 h2 h3 h4 h5 h6 h7 => Calls.mono (h.calls w S own vs h1 h2 h3 h4 h5 h6 h7) fun e w' ⟨v,S',own',he,hb⟩ => ⟨v,S',own',he,hb,fun a b hm => by cases hm⟩⟩
theorem SCalls.toS {P : Program} {f : FuncId} {args : List LV} {I : Own} {r : LV} {R : Own} {sm : List (Nat × Nat)} (h : SCalls P f args I r R sm) : SCalls P f args I r R sm := h
theorem SCalls.toO {P : Program} {f : FuncId} {args : List LV} {I : Own} {r : LV} {R : Own} {sm : List (Nat × Nat)} (h : SCalls P f args I r R sm) : OCalls P f args I r R :=
  ⟨h.enters,fun w S own vs h1 h2 h3 h4 h5 h6 h7 => Calls.mono (h.calls w S own vs h1 h2 h3 h4 h5 h6 h7) fun e w' ⟨v,S',own',he,hb,_⟩ => ⟨v,S',own',he,hb⟩⟩

section
variable {P : Program} {N : Nat} {w0 : World} {S0 : Ent} {Q : Exit → LSt → Prop} {st : LSt}
def bodyO (P : Program) (rs : List ResultVar) (r : LV) (R : Own) : Exit → LSt → Prop
  | .normal,st | .ret,st => ∃ al,okAl al = true ∧ (retL P rs st).map (ren al) = some r ∧ allO (fun k e => (bkL al k).bind st.row = some e) R.ro ∧ allO (fun k cs => (bkL al k).bind st.arr = some cs) R.ar ∧ allO (fun k cs => ((bkL al k).bind st.box).map (fun l => l.map (ren1 al)) = some cs) R.bx
  | _,_ => False
def entryO (md : Nat → Bool) (val : Nat → Option Value) (args : List LV) (I : Own) : LSt := ⟨fun k => (args[k]?).getD .any,alook I.bx,alook I.ro,alook I.ar,md,val⟩
def smOk (sm al : List (Nat × Nat)) (st : LSt) (j : Nat) (u : Option Value) : Prop := sm = [] ∨ ∃ a b c,sm = [(a,b)] ∧ bkL al b = some c ∧ st.env j = .ptr c 0 ∧ st.val j = u
def bodyS (P : Program) (rs : List ResultVar) (r : LV) (R : Own) (sm : List (Nat × Nat)) (j : Nat) (u : Option Value) : Exit → LSt → Prop
  | .normal,st | .ret,st => ∃ al,okAl al = true ∧ smOk sm al st j u ∧ (retL P rs st).map (ren al) = some r ∧ allO (fun k e => (bkL al k).bind st.row = some e) R.ro ∧ allO (fun k cs => (bkL al k).bind st.arr = some cs) R.ar ∧ allO (fun k cs => ((bkL al k).bind st.box).map (fun l => l.map (ren1 al)) = some cs) R.bx
  | _,_ => False
theorem SCalls.of (md : Nat → Bool) (sm : List (Nat × Nat)) (jp : Nat) {f : FuncId} {fn : Func} {c : Code} {args : List LV} {I : Own} {r : LV} {R : Own} {rs : List ResultVar} (hf : P.funcs[f]? = some fn) (hb : fn.body = some c) (hname : (fn.name == "runtime.NumGoroutine") = false) (hn : fn.ntmps = N) (hrs : fn.results = rs.toArray) (hle : args.length ≤ N) (hsm : sm = [] ∨ ∃ a b,sm = [(a,b)] ∧ a < 3000 ∧ args[jp]? = some (.ptr a 0))
    (h : ∀ w0 (S0 : Ent) (vs : Array Value),LW P N w0 S0 c (bodyS P rs r R sm jp vs[jp]?) (entryO md (fun k => vs[k]?) args I)) : SCalls P f args I r R sm := by
  refine ⟨fun vs w => ?_,fun w S own vs hglob hwf hown hinj hI hl hr => ?_⟩
  · have h1 : fn.name ≠ "runtime.NumGoroutine" := by simpa using hname
    simp [callFunc,hf,h1,hb,mark]
  · refine calls_of_wp hf hb (wp_mono (h w ⟨S,HOf own⟩ vs _ w ?_) ?_)
    · refine ⟨⟨S,own,alook I.ro⟩,rfl,by simp [hn,hl];omega,fun k => ?_,.refl _ _ _,fun _ _ _ _ => Iff.rfl,hwf,fun d b hd => ⟨.inr ⟨d,hd⟩,hown d b hd⟩,hinj,hI.box,rfl,hI.dis,hI.arr,hI.dia,⟨hglob,hwf,fun k v hk => ?_⟩,fun _ _ _ hs hc => ⟨hs,hc⟩⟩
      rotate_left
      · have hk2 : vs[k]? = some v := hk
        have hk' := (Array.getElem?_eq_some_iff.1 hk2).1
        simp only [Array.getD_eq_getD_getElem?,Array.getElem?_append_left hk',hk2,Option.getD_some]
      by_cases hk : k < args.length
      · have hk' : k < vs.size := by omega
        have e1 : (vs ++ Array.replicate (fn.ntmps - vs.size) undef).getD k undef = vs[k] := by
          simp only [Array.getD_eq_getD_getElem?,Array.getElem?_append_left hk',Array.getElem?_eq_getElem hk',Option.getD_some]
        show Rep P w _ ((args[k]?).getD .any) _
        rw [e1,List.getElem?_eq_getElem hk]
        exact hr k args[k] vs[k] (List.getElem?_eq_getElem hk) (Array.getElem?_eq_getElem hk')
      · show Rep P w _ ((args[k]?).getD .any) _
        rw [List.getElem?_eq_none (by omega)]
        exact .any _ _
    · rintro e a' w' ⟨st',⟨g,hg⟩,hq⟩
      have fin : (∃ al,okAl al = true ∧ smOk sm al st' jp vs[jp]? ∧ (retL P rs st').map (ren al) = some r ∧ allO (fun k e => (bkL al k).bind st'.row = some e) R.ro ∧ allO (fun k cs => (bkL al k).bind st'.arr = some cs) R.ar ∧ allO (fun k cs => ((bkL al k).bind st'.box).map (fun l => l.map (ren1 al)) = some cs) R.bx) →
          a'.defers = [] ∧ ∃ v,(results fn a'.tmps).run P w' = .ok v w' ∧ ∃ v' S' own',Ending.returned v = .returned v' ∧ Back P w S own w' S' own' r R v' ∧ ∀ a b,(a,b) ∈ sm → own' b = own a ∧ (3000 ≤ a → ∀ x,own a = some x → w'.heap[x]? = w.heap[x]?) := by
        rintro ⟨al,hok,hsmk,hx,h1,h2,h3⟩
        obtain ⟨x,hx1,rfl⟩ := Option.map_eq_some_iff.1 hx
        obtain ⟨v,hv,hrep⟩ := retL_run hg hrs hx1
        let own' : Nat → Option Nat := fun k => (bkL al k).bind g.own
        have hrow : ∀ k e,alook R.ro k = some e → (bkL al k).bind st'.row = some e := fun k e hk => allO_get h1 hk
        have harr : ∀ k cs,alook R.ar k = some cs → (bkL al k).bind st'.arr = some cs := fun k cs hk => allO_get h2 hk
        have hbox : ∀ k cs,alook R.bx k = some cs → ((bkL al k).bind st'.box).map (fun l => l.map (Go.Proofs.YtbffcndmcaeamaaDoor.ren1 al)) = some cs := fun k cs hk => allO_get h3 hk
        have hren : Ren al g ⟨g.S,own',alook R.ro⟩ := by
          refine ⟨rfl,fun c k hc => ?_,fun c k e hc he => ?_⟩
          · show (bkL al k).bind g.own = _
            rw [okAl_bk hok hc];rfl
          · have := hrow k e he
            rw [okAl_bk hok hc] at this
            rw [hg.row];exact this
        have ofb : ∀ k c,bkL al k = some c → (⟨g.S,own',alook R.ro⟩ : Gh).own k = g.own c := fun k c hk => by
          show (bkL al k).bind g.own = _
          rw [hk];rfl
        refine ⟨hg.defers,v,hv,v,g.S,own',rfl,⟨hrep.ren hren,⟨rfl,fun k cs hk => ?_,fun k cs hk => ?_,fun k cs hk => ⟨?_,?_⟩,fun k cs hk => ?_⟩,hg.below,fun b i hb hn => hg.s0 b i hb hn,hg.wf,fun k b hk => ?_,fun k k' b hk hk' => ?_,hg.keep⟩,fun a b hab => ?_⟩
        · have := harr k cs hk
          cases hc : bkL al k with
          | none => rw [hc] at this;cases this
          | some c => rw [hc] at this;exact (hg.arr c cs this).of_own (ofb k c hc) rfl
        · have := hbox k cs hk
          cases hc : bkL al k with
          | none => rw [hc] at this;cases this
          | some c =>
            rw [hc] at this
            obtain ⟨cs0,e1,rfl⟩ := Option.map_eq_some_iff.1 this
            exact (hg.box c cs0 e1).ren (ofb k c hc) hren
        · cases he : alook R.ro k with
          | none => rfl
          | some e =>
            have h4 := harr k cs hk
            have h5 := hrow k e he
            cases hc : bkL al k with
            | none => rw [hc] at h4;cases h4
            | some c =>
              rw [hc] at h4 h5
              have := (hg.dia c cs h4).1
              rw [show st'.row c = some e from h5] at this;cases this
        · cases he : alook R.bx k with
          | none => rfl
          | some cs1 =>
            have h4 := harr k cs hk
            have h5 := hbox k cs1 he
            cases hc : bkL al k with
            | none => rw [hc] at h4;cases h4
            | some c =>
              rw [hc] at h4 h5
              obtain ⟨cs0,e1,_⟩ := Option.map_eq_some_iff.1 h5
              have := (hg.dia c cs h4).2
              rw [show st'.box c = some cs0 from e1] at this;cases this
        · cases he : alook R.ro k with
          | none => rfl
          | some e =>
            have h4 := hbox k cs hk
            have h5 := hrow k e he
            cases hc : bkL al k with
            | none => rw [hc] at h4;cases h4
            | some c =>
              rw [hc] at h4 h5
              obtain ⟨cs0,e1,_⟩ := Option.map_eq_some_iff.1 h4
              have := hg.dis c cs0 e1
              rw [show st'.row c = some e from h5] at this;cases this
        · have hk2 : (bkL al k).bind g.own = some b := hk
          cases hc : bkL al k with
          | none => rw [hc] at hk2;cases hk2
          | some c => rw [hc] at hk2;exact hg.own c b hk2
        · have hk2 : (bkL al k).bind g.own = some b := hk
          have hk3 : (bkL al k').bind g.own = some b := hk'
          cases hc : bkL al k with
          | none => rw [hc] at hk2;cases hk2
          | some c =>
            cases hc' : bkL al k' with
            | none => rw [hc'] at hk3;cases hk3
            | some c' =>
              rw [hc] at hk2
              rw [hc'] at hk3
              have := hg.inj c c' b hk2 hk3
              subst this
              exact okAl_inj hok hc hc'
        · rcases hsmk with rfl | ⟨a2,b2,c2,rfl,hc2,he2,hv2⟩
          · cases hab
          · rw [List.mem_singleton] at hab
            cases hab
            rcases hsm with hs | ⟨a3,b3,hs,hlt3,hargs⟩
            · cases hs
            · cases hs
              have hjl : jp < vs.size := by rw [hl];exact (List.getElem?_eq_some_iff.1 hargs).1
              have hvj : vs[jp]? = some vs[jp] := Array.getElem?_eq_getElem hjl
              obtain ⟨b0,hp0,ho0⟩ := (hr jp _ _ hargs hvj).inv_ptr
              have hen := hg.env jp
              rw [he2] at hen
              obtain ⟨b1,hp1,ho1⟩ := hen.inv_ptr
              have hex := hg.ex.vals jp vs[jp] (by rw [hv2,hvj])
              rw [hex,hp0] at hp1
              cases hp1
              refine ⟨?_,fun h3 => by omega⟩
              show (bkL al b).bind g.own = own a
              rw [hc2]
              exact ho1.trans ho0.symm
      cases e with
      | normal => exact fin hq
      | ret => exact fin hq
      | exit _ => exact hq.elim
      | goto _ => exact hq.elim
      | panic _ => exact hq.elim
      | outgrown => exact hq.elim

theorem OCalls.of (md : Nat → Bool) {f : FuncId} {fn : Func} {c : Code} {args : List LV} {I : Own} {r : LV} {R : Own} {rs : List ResultVar} (hf : P.funcs[f]? = some fn) (hb : fn.body = some c) (hname : (fn.name == "runtime.NumGoroutine") = false) (hn : fn.ntmps = N) (hrs : fn.results = rs.toArray) (hle : args.length ≤ N)
    (h : ∀ w0 (S0 : Ent) (vs : Array Value),LW P N w0 S0 c (bodyO P rs r R) (entryO md (fun k => vs[k]?) args I)) : OCalls P f args I r R :=
  (SCalls.of md [] 0 hf hb hname hn hrs hle (.inl rfl) fun w0 S0 vs => (h w0 S0 vs).mono fun e st hq => by
    cases e with
    | normal => obtain ⟨al,h1,h2⟩ := hq;exact ⟨al,h1,.inl rfl,h2⟩
    | ret => obtain ⟨al,h1,h2⟩ := hq;exact ⟨al,h1,.inl rfl,h2⟩
    | exit _ => exact hq.elim
    | goto _ => exact hq.elim
    | panic _ => exact hq.elim
    | outgrown => exact hq.elim).toO

def isNilT : Tok → Bool
  | .nil => true
  | .no => false
  | .row _ => false
  | .sub _ _ => false
def isNilL : LV → Bool
  | .any => false
  | .lit _ => false
  | .agg _ => false
  | .tup _ => false
  | .sl _ _ t => isNilT t
  | .ref _ => false
  | .fn _ _ => false
  | .ptr _ _ => false
  | .bsl _ _ _ => false
  | .aptr _ _ => false
  | .mp _ _ => false
def renA (al : List (Nat × Nat)) : List LV → List LV → List LV
  | [],_ => []
  | x :: r,[] => ren al x :: renA al r []
  | x :: r,a :: s => (if (isNilL x && isNilL a) = true then x else ren al x) :: renA al r s
theorem renA_len {al : List (Nat × Nat)} : ∀ (l m : List LV),(renA al l m).length = l.length
  | [],_ => by rw [renA.eq_1]
  | x :: r,[] => by rw [renA.eq_2,List.length_cons,List.length_cons,renA_len r []]
  | x :: r,a :: s => by rw [renA.eq_3,List.length_cons,List.length_cons,renA_len r s]
theorem renA_get {al : List (Nat × Nat)} : ∀ {l m : List LV} {i : Nat} {c : LV},(renA al l m)[i]? = some c → ∃ x,l[i]? = some x ∧ (c = ren al x ∨ (c = x ∧ isNilL x = true))
  | [],_,i,c,h => by rw [renA.eq_1] at h;cases h
  | x :: r,[],0,c,h => by rw [renA.eq_2] at h;cases h;exact ⟨x,rfl,.inl rfl⟩
  | x :: r,[],i + 1,c,h => by rw [renA.eq_2] at h;exact renA_get (l := r) (m := []) h
  | x :: r,a :: s,0,c,h => by
    rw [renA.eq_3] at h
    cases h
    by_cases hn : (isNilL x && isNilL a) = true
    · rw [if_pos hn];exact ⟨x,rfl,.inr ⟨rfl,(Bool.and_eq_true _ _ ▸ hn).1⟩⟩
    · rw [if_neg hn];exact ⟨x,rfl,.inl rfl⟩
  | x :: r,a :: s,i + 1,c,h => by rw [renA.eq_3] at h;exact renA_get (l := r) (m := s) h
theorem Rep.ofNil {P : Program} {w : World} {g g' : Gh} {x : LV} {v : Value} (h : Rep P w g x v) (hx : isNilL x = true) : Rep P w g' x v := by
  cases x with
  | sl n cs t =>
    cases t with
    | nil => obtain ⟨rfl,rfl,rfl⟩ := h.inv_nil;exact .nil _
    | _ => cases hx
  | _ => cases hx
def LSt.ocall (st : LSt) (F : List Nat) (ba : List (Nat × Nat)) (R : Own) : LSt :=
  ⟨fun k => fgF F (st.env k),
   fun k => match bkL ba k with | some c => (alook R.bx c).map (fun l => l.map (ren1 ba)) | none => if memL F k = true then none else (st.box k).map fun l => l.map (fgF1 F),
   fun k => match bkL ba k with | some c => alook R.ro c | none => if memL F k = true then none else st.row k,
   fun k => match bkL ba k with | some c => alook R.ar c | none => if memL F k = true then none else st.arr k,st.mode,st.val⟩
def keptOk (ha ba sm : List (Nat × Nat)) (kp : List Nat) : Bool :=
  ha.all (fun p => Nat.blt p.1 1000000) && ba.all (fun p => Nat.blt p.2 1000000) && kp.all fun z => !memL kp (z + 1000000) && (Nat.ble 1000000 z && (if Nat.blt z 2000000 = true then sm.any fun p => bkL ha p.1 == some (z - 1000000) && bkL ba (z - 1000000) == some p.2 else sm.any fun p => bkL ha p.1 == some (z - 2000000) && bkL ba (z - 2000000) == some p.2 && Nat.ble 3000 p.1))
theorem ocall_mid {Kont : LSt → Prop} {f : FuncId} {args : Array Operand} {args' : List LV} {I R : Own} {r : LV} {d : Tmp} {type : TypeId} {pos : String} {after : Array Edge} {guard : Option (Nat × Bool)} {ts : Array TypeId} (ha ba : List (Nat × Nat)) (F : List Nat) {sm : List (Nat × Nat)} (kp : List Nat) (hF : F = ha.map (·.1) ++ ba.map (·.2) ++ kp) (hkp : keptOk ha ba sm kp = true)
    (hc : SCalls P f args' I r R sm) (hargs : renA ha (args.toList.map (evL st.env)) args' = args') (hoa : okAl ha = true) (hob : okAl ba = true) (hd : d < N)
    (h1 : allO (fun c e => (bkL ha c).bind st.row = some e) I.ro) (h2 : allO (fun c cs => (bkL ha c).bind st.arr = some cs) I.ar) (h3 : allO (fun c cs => ((bkL ha c).bind st.box).map (fun l => l.map (ren1 ha)) = some cs) I.bx)
    (hQ : Kont ((st.ocall F ba R).put (some d) (ren ba r))) : LastL P N w0 S0 ⟨some d,.call ⟨.value (.func f),args,ts⟩,type,pos,after,guard⟩ Kont st := by
  rintro a w K Q' ⟨g,hg⟩ hK
  subst hF
  have hrun : (execOp a.eval ⟨some d,.call ⟨.value (.func f),args,ts⟩,type,pos,after,guard⟩).run P w = .ok (.enter f (args.map a.eval)) w := by
    have := hc.enters (args.map a.eval) w
    simpa [execOp,resolve,Deferred.ofValue,Act.eval,invoke] using this
  unfold Oper.wp
  rw [hrun]
  let ownC : Nat → Option Nat := fun c => (bkL ha c).bind g.own
  have hH : ∀ b,HOf ownC b → ∃ q c,bkL ha c = some q ∧ g.own q = some b := by
    rintro b ⟨c,hb⟩
    have hb2 : (bkL ha c).bind g.own = some b := hb
    cases hq : bkL ha c with
    | none => rw [hq] at hb2;cases hb2
    | some q => rw [hq] at hb2;exact ⟨q,c,hq,hb2⟩
  have hHlo : ∀ b,HOf ownC b → w0.heap.size ≤ b ∨ S0.H b := fun b hb => by
    obtain ⟨q,c,_,ho⟩ := hH b hb
    exact (hg.own q b ho).1
  have hup : ∀ {w'},BelowH w.heap.size (HOf ownC) w w' → BelowH w0.heap.size S0.H w w' := fun {w'} hb =>
    ⟨hb.os,hb.tape,hb.output,hb.size,fun k hk hn => hb.block k (by have := hg.below.size;omega) fun hx => (hHlo k hx).elim (fun h => by omega) hn⟩
  have inF : ∀ c q,bkL ha c = some q → memL (ha.map (·.1) ++ ba.map (·.2) ++ kp) q = true := fun c q hq => by
    rw [memL_iff];exact List.mem_append_left _ (List.mem_append_left _ (List.mem_map.2 ⟨_,bkL_mem hq,rfl⟩))
  have inB : ∀ k c,bkL ba k = some c → memL (ha.map (·.1) ++ ba.map (·.2) ++ kp) k = true := fun k c hq => by
    rw [memL_iff];exact List.mem_append_left _ (List.mem_append_right _ (List.mem_map.2 ⟨_,bkL_mem hq,rfl⟩))
  unfold keptOk at hkp
  simp only [Bool.and_eq_true,List.all_eq_true] at hkp
  obtain ⟨⟨hk1,hk2⟩,hk3⟩ := hkp
  have low : ∀ k z,memL (ha.map (·.1) ++ ba.map (·.2) ++ kp) (k + z) = true → 1000000 ≤ z → k + z ∈ kp := fun k z hk hz => by
    rw [memL_iff,List.mem_append,List.mem_append] at hk
    rcases hk with (hk | hk) | hk
    · obtain ⟨p,hp,he⟩ := List.mem_map.1 hk
      have := Nat.blt_eq ▸ hk1 p hp
      omega
    · obtain ⟨p,hp,he⟩ := List.mem_map.1 hk
      have := Nat.blt_eq ▸ hk2 p hp
      omega
    · exact hk
  have hk4 : ∀ k,memL (ha.map (·.1) ++ ba.map (·.2) ++ kp) k = true → k < 1000000 ∨ k ∈ kp := fun k hk => by
    rw [memL_iff,List.mem_append,List.mem_append] at hk
    rcases hk with (hk | hk) | hk
    · obtain ⟨p,hp,he⟩ := List.mem_map.1 hk
      have := Nat.blt_eq ▸ hk1 p hp
      exact .inl (by omega)
    · obtain ⟨p,hp,he⟩ := List.mem_map.1 hk
      have := Nat.blt_eq ▸ hk2 p hp
      exact .inl (by omega)
    · exact .inr hk
  have kept : ∀ k,memL (ha.map (·.1) ++ ba.map (·.2) ++ kp) k = true → memL (ha.map (·.1) ++ ba.map (·.2) ++ kp) (k + 1000000) = true → ∃ p ∈ sm,bkL ha p.1 = some k ∧ bkL ba k = some p.2 := fun k hkk hk => by
    have hlt : k < 1000000 := by
      rcases hk4 k hkk with h | h
      · exact h
      · have h5 := (hk3 _ h).1
        rw [(memL_iff _ _).2 (low k 1000000 hk (Nat.le_refl _))] at h5
        cases h5
    obtain ⟨_,_,h2⟩ := hk3 _ (low k 1000000 hk (Nat.le_refl _))
    rw [if_pos (Nat.blt_eq.symm ▸ (by omega : k + 1000000 < 2000000))] at h2
    obtain ⟨p,hp,h3⟩ := List.any_eq_true.1 h2
    rw [Bool.and_eq_true,beq_iff_eq,beq_iff_eq,Nat.add_sub_cancel] at h3
    exact ⟨p,hp,h3.1,h3.2⟩
  have keptA : ∀ k,memL (ha.map (·.1) ++ ba.map (·.2) ++ kp) (k + 2000000) = true → ∃ p ∈ sm,bkL ha p.1 = some k ∧ bkL ba k = some p.2 ∧ 3000 ≤ p.1 := fun k hk => by
    obtain ⟨_,_,h2⟩ := hk3 _ (low k 2000000 hk (by omega))
    rw [if_neg (by rw [Nat.blt_eq];omega)] at h2
    obtain ⟨p,hp,h3⟩ := List.any_eq_true.1 h2
    rw [Bool.and_eq_true,Bool.and_eq_true,beq_iff_eq,beq_iff_eq,Nat.add_sub_cancel] at h3
    exact ⟨p,hp,h3.1.1,h3.1.2,Nat.ble_eq ▸ h3.2⟩
  generalize hFe : ha.map (·.1) ++ ba.map (·.2) ++ kp = F at inF inB hQ kept keptA
  have hren : Ren ha g ⟨g.S,ownC,alook I.ro⟩ := by
    refine ⟨rfl,fun c k hc => ?_,fun c k e hc he => ?_⟩
    · show (bkL ha k).bind g.own = _
      rw [okAl_bk hoa hc];rfl
    · have := allO_get h1 he
      rw [okAl_bk hoa hc] at this
      rw [hg.row];exact this
  have ofb : ∀ k c,bkL ha k = some c → (⟨g.S,ownC,alook I.ro⟩ : Gh).own k = g.own c := fun k c hk => by
    show (bkL ha k).bind g.own = _
    rw [hk];rfl
  have hI : Holds P w ⟨g.S,ownC,alook I.ro⟩ I := by
    refine ⟨rfl,fun k cs hk => ?_,fun k cs hk => ?_,fun k cs hk => ⟨?_,?_⟩,fun k cs hk => ?_⟩
    · have := allO_get h2 hk
      cases hc : bkL ha k with
      | none => rw [hc] at this;cases this
      | some c => rw [hc] at this;exact (hg.arr c cs this).of_own (ofb k c hc) rfl
    · have := allO_get h3 hk
      cases hc : bkL ha k with
      | none => rw [hc] at this;cases this
      | some c =>
        rw [hc] at this
        obtain ⟨cs0,e1,rfl⟩ := Option.map_eq_some_iff.1 this
        exact (hg.box c cs0 e1).ren (ofb k c hc) hren
    · cases he : alook I.ro k with
      | none => rfl
      | some e =>
        have h4 := allO_get h2 hk
        have h5 := allO_get h1 he
        cases hc : bkL ha k with
        | none => rw [hc] at h4;cases h4
        | some c =>
          rw [hc] at h4 h5
          have := (hg.dia c cs h4).1
          rw [show st.row c = some e from h5] at this;cases this
    · cases he : alook I.bx k with
      | none => rfl
      | some cs1 =>
        have h4 := allO_get h2 hk
        have h5 := allO_get h3 he
        cases hc : bkL ha k with
        | none => rw [hc] at h4;cases h4
        | some c =>
          rw [hc] at h4 h5
          obtain ⟨cs0,e1,_⟩ := Option.map_eq_some_iff.1 h5
          have := (hg.dia c cs h4).2
          rw [show st.box c = some cs0 from e1] at this;cases this
    · cases he : alook I.ro k with
      | none => rfl
      | some e =>
        have h4 := allO_get h3 hk
        have h5 := allO_get h1 he
        cases hc : bkL ha k with
        | none => rw [hc] at h4;cases h4
        | some c =>
          rw [hc] at h4 h5
          obtain ⟨cs0,e1,_⟩ := Option.map_eq_some_iff.1 h4
          have := hg.dis c cs0 e1
          rw [show st.row c = some e from h5] at this;cases this
  have hcall := hc.calls w g.S ownC (args.map a.eval) (fun w' hb => hg.ex.glob _ (hg.below.trans (hup hb))) hg.wf (fun c b hb => by
    obtain ⟨q,c',_,ho⟩ := hH b ⟨c,hb⟩
    exact (hg.own q b ho).2) (fun c c' b hb hb' => by
    have k1 : (bkL ha c).bind g.own = some b := hb
    have k2 : (bkL ha c').bind g.own = some b := hb'
    cases hq : bkL ha c with
    | none => rw [hq] at k1;cases k1
    | some q =>
      cases hq' : bkL ha c' with
      | none => rw [hq'] at k2;cases k2
      | some q' =>
        rw [hq] at k1
        rw [hq'] at k2
        have := hg.inj q q' b k1 k2
        subst this
        exact okAl_inj hoa hq hq') hI (by rw [← hargs,renA_len];simp) (fun i c u hc hu => by
    rw [← hargs] at hc
    obtain ⟨c',hc',hor⟩ := renA_get hc
    rw [List.getElem?_map,Option.map_eq_some_iff] at hc'
    obtain ⟨y,hy,rfl⟩ := hc'
    have : u = a.eval y := by
      rw [Array.getElem?_map,Array.getElem?_toList] at *
      rw [hy] at hu
      exact (Option.some.inj hu).symm
    rw [this]
    rcases hor with rfl | ⟨rfl,hnil⟩
    · exact (hg.ev y).ren hren
    · exact (hg.ev y).ofNil hnil)
  refine Calls.mono hcall ?_
  rintro e w' ⟨v,S',own',rfl,hb,hsame⟩
  have hnH : ∀ k b,memL F k = false → g.own k = some b → ¬ HOf ownC b := by
    intro k b hk ho hx
    obtain ⟨q,c,hq,hoq⟩ := hH b hx
    have := hg.inj k q b ho hoq
    subst this
    rw [inF c k hq] at hk;cases hk
  have hheap : ∀ k b,memL F k = false → g.own k = some b → w'.heap[b]? = w.heap[b]? := fun k b hk ho => hb.below.block b (hg.own k b ho).2 (hnH k b hk ho)
  have hS' : ∀ k b i,memL F k = false → g.own k = some b → (S' b i ↔ g.S b i) := fun k b i hk ho => hb.s b i (hg.own k b ho).2 (hnH k b hk ho)
  let g2 : Gh := ⟨S',fun k => match bkL ba k with | some c => own' c | none => if memL F k = true then none else g.own k,fun k => match bkL ba k with | some c => alook R.ro c | none => if memL F k = true then none else g.row k⟩
  have nb : ∀ k,memL F k = false → bkL ba k = none := fun k hk => by
    cases hc : bkL ba k with
    | none => rfl
    | some c => rw [inB k c hc] at hk;cases hk
  have o2 : ∀ k,memL F k = false → g2.own k = g.own k := fun k hk => by
    show (match bkL ba k with | some c => own' c | none => if memL F k = true then none else g.own k) = _
    rw [nb k hk,hk];rfl
  have r2 : ∀ k,memL F k = false → g2.row k = g.row k := fun k hk => by
    show (match bkL ba k with | some c => alook R.ro c | none => if memL F k = true then none else g.row k) = _
    rw [nb k hk,hk];rfl
  have ob : ∀ k c,bkL ba k = some c → g2.own k = own' c := fun k c hk => by
    show (match bkL ba k with | some c => own' c | none => if memL F k = true then none else g.own k) = _
    rw [hk]
  have rb : ∀ k c,bkL ba k = some c → g2.row k = alook R.ro c := fun k c hk => by
    show (match bkL ba k with | some c => alook R.ro c | none => if memL F k = true then none else g.row k) = _
    rw [hk]
  have on : ∀ k,bkL ba k = none → memL F k = true → g2.own k = none := fun k hk hm => by
    show (match bkL ba k with | some c => own' c | none => if memL F k = true then none else g.own k) = _
    rw [hk,hm];rfl
  have m : MonoF P F w g w' g2 := by
    refine ⟨hb.keep,fun k b hk ho => ?_,fun k b hk ho => ?_,fun q e n u hq he ho => ?_,fun k b cur e hk ho hh => ⟨cur,?_,rfl⟩,fun k b es clk hk ho hh => by rw [hheap k b hk ho];exact hh⟩
    · cases hkF : memL F k with
      | false => rw [o2 k hkF];exact ho
      | true =>
        unfold memP at hk
        rw [hkF,Bool.true_and,Bool.not_eq_false'] at hk
        obtain ⟨p,hp,h1,h2⟩ := kept k hkF hk
        rw [ob k p.2 h2,(hsame p.1 p.2 hp).1]
        show (bkL ha p.1).bind g.own = some b
        rw [h1];exact ho
    · cases hkF : memL F k with
      | false => rw [o2 k hkF];exact ho
      | true =>
        unfold memA at hk
        rw [hkF,Bool.true_and,Bool.not_eq_false'] at hk
        obtain ⟨p,hp,h1,h2,_⟩ := keptA k hk
        rw [ob k p.2 h2,(hsame p.1 p.2 hp).1]
        show (bkL ha p.1).bind g.own = some b
        rw [h1];exact ho
    rotate_left
    · cases hkF : memL F k with
      | false => rw [hheap k b hkF ho];exact hh
      | true =>
        unfold memA at hk
        rw [hkF,Bool.true_and,Bool.not_eq_false'] at hk
        obtain ⟨p,hp,h1,h2,h3⟩ := keptA k hk
        have hob : ownC p.1 = some b := by
          show (bkL ha p.1).bind g.own = some b
          rw [h1];exact ho
        rw [(hsame p.1 p.2 hp).2 h3 b hob];exact hh
    rw [r2 q hq] at he
    rcases ho e he with h0 | ⟨b,cap,cur,k1,k2,k3,k4,k5,k6,k7⟩
    · exact .inl h0
    · exact .inr ⟨b,cap,cur,by rw [o2 q hq];exact k1,k2,by rw [hheap q b hq k1];exact k3,k4,k5,k6,fun i hi hs => k7 i hi ((hS' q b i hq k1).1 hs)⟩
  have hren2 : Ren ba ⟨S',own',alook R.ro⟩ g2 := ⟨rfl,fun c k hc => ob k c (okAl_bk hob hc),fun c k e hc he => by rw [rb k c (okAl_bk hob hc)] at he;exact he⟩
  have hR : RelG P N w0 S0 g2 (st.ocall F ba R) a w' := by
    refine ⟨hg.defers,hg.size,fun k => (hg.env k).fgF m,hg.below.trans (hup hb.below),fun b i hlt hn => ?_,hb.wf,fun k b hk => ?_,fun k k' b hk hk' => ?_,fun k cs hk => ?_,?_,fun k cs hk => ?_,fun k cs hk => ?_,fun k cs hk => ?_,hg.ex,fun b i u hs hc => ?_⟩
    · refine (hb.s b i (by have := hg.below.size;omega) fun hx => (hHlo b hx).elim (fun h => by omega) hn).trans (hg.s0 b i hlt hn)
    · cases hc : bkL ba k with
      | some c =>
        rw [ob k c hc] at hk
        have := hb.own c b hk
        refine ⟨?_,this.2⟩
        rcases this.1 with h | h
        · exact .inl (by have := hg.below.size;omega)
        · exact hHlo b h
      | none =>
        cases hm : memL F k with
        | true => rw [on k hc hm] at hk;cases hk
        | false =>
          rw [o2 k hm] at hk
          have := hg.own k b hk
          exact ⟨this.1,by have := hb.below.size;omega⟩
    · have cross : ∀ k k' c,bkL ba k = some c → g2.own k = some b → bkL ba k' = none → g2.own k' = some b → False := by
        intro k k' c hc hk hc' hk'
        cases hm : memL F k' with
        | true => rw [on k' hc' hm] at hk';cases hk'
        | false =>
          rw [o2 k' hm] at hk'
          rw [ob k c hc] at hk
          rcases (hb.own c b hk).1 with h | h
          · have := (hg.own k' b hk').2;omega
          · exact hnH k' b hm hk' h
      cases hc : bkL ba k with
      | some c =>
        cases hc' : bkL ba k' with
        | some c' =>
          rw [ob k c hc] at hk
          rw [ob k' c' hc'] at hk'
          have := hb.inj c c' b hk hk'
          subst this
          exact okAl_inj hob hc hc'
        | none => exact (cross k k' c hc hk hc' hk').elim
      | none =>
        cases hc' : bkL ba k' with
        | some c' => exact (cross k' k c' hc' hk' hc hk).elim
        | none =>
          cases hm : memL F k with
          | true => rw [on k hc hm] at hk;cases hk
          | false =>
            cases hm' : memL F k' with
            | true => rw [on k' hc' hm'] at hk';cases hk'
            | false =>
              rw [o2 k hm] at hk
              rw [o2 k' hm'] at hk'
              exact hg.inj k k' b hk hk'
    · have hk2 : (match bkL ba k with | some c => (alook R.bx c).map (fun l => l.map (Go.Proofs.YtbffcndmcaeamaaDoor.ren1 ba)) | none => if memL F k = true then none else (st.box k).map fun l => l.map (Go.Proofs.YtbffcndmcaeamaaDoor.fgF1 F)) = some cs := hk
      cases hc : bkL ba k with
      | some c =>
        rw [hc] at hk2
        obtain ⟨cs0,e1,rfl⟩ := Option.map_eq_some_iff.1 hk2
        exact (hb.holds.box c cs0 e1).ren (ob k c hc) hren2
      | none =>
        rw [hc] at hk2
        cases hm : memL F k with
        | true => rw [hm] at hk2;cases hk2
        | false =>
          rw [hm] at hk2
          obtain ⟨cs0,e1,rfl⟩ := Option.map_eq_some_iff.1 (show (st.box k).map (fun l => l.map (Go.Proofs.YtbffcndmcaeamaaDoor.fgF1 F)) = some cs from hk2)
          obtain ⟨b,vals,T,k1,k2,k3,k4,k5⟩ := hg.box k cs0 e1
          refine ⟨b,vals,T,by rw [o2 k hm];exact k1,by rw [hheap k b hm k1];exact k2,by simpa using k3,fun i c u hc hu => ?_,fun i hs => k5 i ((hS' k b i hm k1).1 hs)⟩
          obtain ⟨c',hc',rfl⟩ := map_get hc
          exact (k4 i c' u hc' hu).fgF1 m
    · funext k
      show g2.row k = (match bkL ba k with | some c => alook R.ro c | none => if memL F k = true then none else st.row k)
      rw [← hg.row]
    · have hk2 : (match bkL ba k with | some c => (alook R.bx c).map (fun l => l.map (Go.Proofs.YtbffcndmcaeamaaDoor.ren1 ba)) | none => if memL F k = true then none else (st.box k).map fun l => l.map (Go.Proofs.YtbffcndmcaeamaaDoor.fgF1 F)) = some cs := hk
      show (match bkL ba k with | some c => alook R.ro c | none => if memL F k = true then none else st.row k) = none
      cases hc : bkL ba k with
      | some c =>
        rw [hc] at hk2
        obtain ⟨cs0,e1,_⟩ := Option.map_eq_some_iff.1 hk2
        exact hb.holds.dis c cs0 e1
      | none =>
        rw [hc] at hk2
        cases hm : memL F k with
        | true => rfl
        | false =>
          rw [hm] at hk2
          obtain ⟨cs0,e1,_⟩ := Option.map_eq_some_iff.1 (show (st.box k).map (fun l => l.map (Go.Proofs.YtbffcndmcaeamaaDoor.fgF1 F)) = some cs from hk2)
          exact hg.dis k cs0 e1
    · have hk2 : (match bkL ba k with | some c => alook R.ar c | none => if memL F k = true then none else st.arr k) = some cs := hk
      cases hc : bkL ba k with
      | some c =>
        rw [hc] at hk2
        exact (hb.holds.arr c cs hk2).of_own (ob k c hc) rfl
      | none =>
        rw [hc] at hk2
        cases hm : memL F k with
        | true => rw [hm] at hk2;cases hk2
        | false =>
          rw [hm] at hk2
          rcases hg.arr k cs hk2 with h0 | ⟨b,vals,T,k1,k2,k3,k4,k5⟩
          · exact .inl h0
          · exact .inr ⟨b,vals,T,by rw [o2 k hm];exact k1,by rw [hheap k b hm k1];exact k2,k3,fun i c u hc hu => (k4 i c u hc hu).mono (.bare m.cell),fun i hs => k5 i ((hS' k b i hm k1).1 hs)⟩
    · have hk2 : (match bkL ba k with | some c => alook R.ar c | none => if memL F k = true then none else st.arr k) = some cs := hk
      show (match bkL ba k with | some c => alook R.ro c | none => if memL F k = true then none else st.row k) = none ∧ (match bkL ba k with | some c => (alook R.bx c).map (fun l => l.map (Go.Proofs.YtbffcndmcaeamaaDoor.ren1 ba)) | none => if memL F k = true then none else (st.box k).map fun l => l.map (Go.Proofs.YtbffcndmcaeamaaDoor.fgF1 F)) = none
      cases hc : bkL ba k with
      | some c =>
        rw [hc] at hk2
        have := hb.holds.dia c cs hk2
        exact ⟨this.1,by simp [this.2]⟩
      | none =>
        rw [hc] at hk2
        cases hm : memL F k with
        | true => exact ⟨rfl,rfl⟩
        | false =>
          rw [hm] at hk2
          have := hg.dia k cs hk2
          exact ⟨this.1,by simp [this.2]⟩
    · have := hg.keep b i u hs hc
      exact hb.keep b i u this.1 this.2
  exact hK _ _ _ ⟨g2,hR.put (fun d' hd' => by cases hd';exact hd) (hb.rep.ren hren2)⟩ hQ
end
end Go.Proofs.YtbffcndmcaeamaaDoor
end
section
set_option linter.unusedSimpArgs false
set_option linter.unusedVariables false
namespace Go.Proofs.YtbffcndmcaeamaaDoor
open Go.RowKit

structure OCD (P : Program) where
  f : FuncId
  args : List LV
  I : Own
  r : LV
  R : Own
  ha : List (Nat × Nat)
  ba : List (Nat × Nat)
  sm : List (Nat × Nat)
  kp : List Nat
  ok : SCalls P f args I r R sm
  hoa : okAl ha = true
  hob : okAl ba = true
  hkp : keptOk ha ba sm kp = true
def firsts : List (Nat × Nat) → List Nat
  | [] => []
  | (a,_) :: r => a :: firsts r
def seconds : List (Nat × Nat) → List Nat
  | [] => []
  | (_,b) :: r => b :: seconds r
theorem firsts_eq : ∀ l,firsts l = l.map (·.1)
  | [] => rfl
  | (a,b) :: r => by rw [firsts,firsts_eq r];rfl
theorem seconds_eq : ∀ l,seconds l = l.map (·.2)
  | [] => rfl
  | (a,b) :: r => by rw [seconds,seconds_eq r];rfl
section
variable {P : Program} {N : Nat} {w0 : World} {S0 : Ent}
def ocOk (st : LSt) (f : FuncId) (args : List Operand) (C : OCD P) : Prop :=
  f = C.f ∧ renA C.ha (args.map (evL st.env)) C.args = C.args ∧ allO (fun c e => (bkL C.ha c).bind st.row = some e) C.I.ro ∧ allO (fun c cs => (bkL C.ha c).bind st.arr = some cs) C.I.ar ∧ allO (fun c cs => ((bkL C.ha c).bind st.box).map (fun l => l.map (ren1 C.ha)) = some cs) C.I.bx
def ocNext (st : LSt) (d : Nat) (C : OCD P) : LSt := (st.ocall (firsts C.ha ++ seconds C.ba ++ C.kp) C.ba C.R).put (some d) (ren C.ba C.r)
def ocAt (oc : List (Nat × OCD P)) : Option Tmp → Op → Option ((FuncId × List Operand) × Nat × OCD P)
  | some d,op => match alook oc d with | some C => (callOf op).map fun fa => (fa,d,C) | none => none
  | none,_ => none
def disjL (l : List Nat) : List Nat → Bool
  | [] => true
  | a :: r => !memL l a && disjL l r
def stab1 (SB : List Nat) : LV → Bool
  | .lit _ => true
  | .any => true
  | .ref _ => true
  | .fn _ _ => true
  | .sl _ _ (.row q) => memL SB q
  | .sl _ _ (.sub q _) => memL SB q
  | .sl _ _ _ => true
  | .ptr d _ => memL SB d
  | .bsl d _ _ => memL SB d
  | .aptr d _ => memL SB d
  | .mp d _ => memL SB d
  | _ => false
def stab2 (SB : List Nat) : LV → Bool
  | .agg cs => cs.all (stab1 SB)
  | x => stab1 SB x
def stab (SB : List Nat) : LV → Bool
  | .tup cs => cs.all (stab2 SB)
  | x => stab2 SB x
def bxStab (SB : List Nat) (B : Nat → Option (List LV)) : LV → Bool
  | .ptr e _ => match B e with | some cs => cs.all (stab1 SB) | none => true
  | .sl _ _ (.sub e _) => match B e with | some cs => cs.all (stab1 SB) | none => true
  | .aptr e _ => match B e with | some cs => cs.all (stab1 SB) | none => true
  | _ => true
def opsStab (SB : List Nat) (st : LSt) (op : Op) : Bool := op.operands.toList.all fun y => stab SB (evL st.env y) && bxStab SB st.box (evL st.env y)
def idsOf : LV → List Nat
  | .sl _ _ (.row q) => [q]
  | .sl _ _ (.sub q _) => [q]
  | .ptr d _ => [d]
  | .bsl d _ _ => [d]
  | .aptr d _ => [d]
  | .mp d _ => [d]
  | _ => []
def touch (st : LSt) : Option Tmp → Op → List Nat
  | some d,.call ⟨.builtin .append,⟨x :: _⟩,_⟩ => d :: idsOf (evL st.env x)
  | some d,.call ⟨.builtin .copy,⟨x :: _⟩,_⟩ => d :: idsOf (evL st.env x)
  | some d,_ => [d]
  | none,.store _ p _ => idsOf (evL st.env p)
  | none,.mapUpdate _ m _ _ => idsOf (evL st.env m)
  | none,.insert _ m _ _ => idsOf (evL st.env m)
  | none,_ => []
def mOk (m : Option (List Nat)) (f : List Nat → Bool) : Bool := match m with | none => true | some l => f l
theorem mOk_none (f : List Nat → Bool) : mOk none f = true := rfl
theorem mOk_some (l : List Nat) (f : List Nat → Bool) : mOk (some l) f = f l := rfl
def effOk (SB : List Nat) (st : LSt) (dst : Option Tmp) (op : Op) : Bool :=
  match op,dst with
  | .buildSlice t n ps,some d => cond (st.mode d) (disjL SB [d]) (opsStab SB st (.buildSlice t n ps))
  | op,dst => disjL SB (touch st dst op)
def stOk (SB : List Nat) (st : LSt) (op : Op) (x : LV) : Bool := opsStab SB st op && stab SB x
def lopX (P : Program) (oc : List (Nat × OCD P)) (m : Option (List Nat)) (o : Oper) (st : LSt) (K : LSt → Prop) : Prop :=
  match ocAt oc o.dst o.op with
  | some q => (ocOk st q.1.1 q.1.2 q.2.2 ∧ mOk m (fun SB => disjL SB (firsts q.2.2.ha ++ seconds q.2.2.ba ++ q.2.2.kp) && disjL SB [q.2.1]) = true) ∧ K (ocNext st q.2.1 q.2.2)
  | none => pvK (pv P (evL st.env) st.box st.arr o.op) (fun x => mOk m (fun SB => stOk SB st o.op x) = true ∧ K (st.put o.dst x))
      (callK P (callOf o.op) (evL st.env) (fun r => mOk m (fun SB => stOk SB st o.op (strip r)) = true ∧ K (st.put o.dst (strip r))) (effK (effE P st o.dst o.op) fun st' => mOk m (fun SB => effOk SB st o.dst o.op) = true ∧ K st'))
def lopsX (P : Program) (N : Nat) (oc : List (Nat × OCD P)) (ops : Array Oper) : List (Option (List Nat) × Oper) → (LSt → Prop) → LSt → Prop
  | [],K,st => K st
  | (m,o) :: rest,K,st => dstOk N o.dst = true ∧
    guardK (guardL ops o st.env) (lopX P oc m o st (lopsX P N oc ops rest K)) (lopsX P N oc ops rest K (st.put o.dst (.lit undef)))
theorem lopX_mono {oc : List (Nat × OCD P)} {m : Option (List Nat)} {o : Oper} {st : LSt} {K K' : LSt → Prop} (hK : ∀ st,K st → K' st) (h : lopX P oc m o st K) : lopX P oc m o st K' := by
  unfold lopX at h ⊢
  cases hq : ocAt oc o.dst o.op with
  | some q => rw [hq] at h;exact ⟨h.1,hK _ h.2⟩
  | none =>
    rw [hq] at h
    simp only at h ⊢
    cases hx : pv P (evL st.env) st.box st.arr o.op with
    | some x => rw [hx] at h;exact ⟨h.1,hK _ h.2⟩
    | none =>
      rw [hx,pvK_none] at h
      rw [pvK_none]
      cases hc : callOf o.op with
      | some fa =>
        obtain ⟨f,args⟩ := fa
        rw [hc] at h
        obtain ⟨r,hr,h2⟩ := h
        exact ⟨r,hr,h2.1,hK _ h2.2⟩
      | none =>
        rw [hc,callK_none] at h
        rw [callK_none]
        cases he : effE P st o.dst o.op with
        | none => rw [he] at h;exact h
        | some cs => obtain ⟨c,st'⟩ := cs;rw [he] at h;exact ⟨h.1,h.2.1,hK _ h.2.2⟩
theorem lopsX_mono {oc : List (Nat × OCD P)} {ops : Array Oper} {K K' : LSt → Prop} (hK : ∀ st,K st → K' st) : ∀ (l : List (Option (List Nat) × Oper)) (st : LSt),lopsX P N oc ops l K st → lopsX P N oc ops l K' st
  | [],st,h => hK st h
  | (m,o) :: l,st,h => by
    obtain ⟨hd,h⟩ := h
    refine ⟨hd,?_⟩
    cases hg : guardL ops o st.env with
    | none => rw [hg] at h;exact h.elim
    | some wb =>
      obtain ⟨want,b⟩ := wb
      rw [hg] at h
      exact ⟨fun hc => lopX_mono (fun st' => lopsX_mono hK l st') (h.1 hc),fun hc => lopsX_mono hK l _ (h.2 hc)⟩
theorem ocAt_spec {oc : List (Nat × OCD P)} {dst : Option Tmp} {op : Op} {q : (FuncId × List Operand) × Nat × OCD P} (h : ocAt oc dst op = some q) : dst = some q.2.1 ∧ callOf op = some q.1 ∧ alook oc q.2.1 = some q.2.2 := by
  unfold ocAt at h
  split at h
  · rename_i d op
    split at h
    · rename_i C hC
      obtain ⟨fa,h1,h2⟩ := Option.map_eq_some_iff.1 h
      subst h2
      exact ⟨rfl,h1,hC⟩
    · cases h
  · cases h
theorem oc_wp {st : LSt} {a : Act} {w : World} {o : Oper} {oc : List (Nat × OCD P)} {q : (FuncId × List Operand) × Nat × OCD P} {K : Act → World → Prop} {Q : Exit → Act → World → Prop} (h : Rel P N w0 S0 st a w) (hd : dstOk N o.dst = true) (hq : ocAt oc o.dst o.op = some q) (hok : ocOk st q.1.1 q.1.2 q.2.2)
    (hK : ∀ a' w',Rel P N w0 S0 (ocNext st q.2.1 q.2.2) a' w' → K a' w') : o.wp P a w K Q := by
  obtain ⟨h1,h2,_⟩ := ocAt_spec hq
  obtain ⟨⟨f,args⟩,d,C⟩ := q
  obtain ⟨dst,op,type,pos,after,guard⟩ := o
  simp only at h1 h2 hd hK hok
  subst h1
  obtain ⟨ts,rfl⟩ := callOf_ops h2
  obtain ⟨rfl,ha,hr,har,hbx⟩ := hok
  have := ocall_mid (P := P) (N := N) (w0 := w0) (S0 := S0) (Kont := fun st' => st' = ocNext st d C) (f := C.f) (args := args.toArray) (args' := C.args) (I := C.I) (R := C.R) (r := C.r) (d := d) (type := type) (pos := pos) (after := after) (guard := guard) (ts := ts) (st := st) C.ha C.ba (firsts C.ha ++ seconds C.ba ++ C.kp) C.kp (by rw [firsts_eq,seconds_eq]) C.hkp C.ok (by simpa using ha) C.hoa C.hob (dstOk_spec hd d rfl) hr har hbx rfl
  exact this a w K Q h fun st' a' w' hr' e => hK a' w' (e ▸ hr')
theorem lopX_wp {oc : List (Nat × OCD P)} {m : Option (List Nat)} {st : LSt} {a : Act} {w : World} {o : Oper} {K' : LSt → Prop} {K : Act → World → Prop} {Q : Exit → Act → World → Prop} (h : Rel P N w0 S0 st a w) (hd : dstOk N o.dst = true) (he : lopX P oc m o st K')
    (hK : ∀ st' a' w',Rel P N w0 S0 st' a' w' → K' st' → K a' w') : o.wp P a w K Q := by
  unfold lopX at he
  cases hq : ocAt oc o.dst o.op with
  | some q =>
    rw [hq] at he
    exact oc_wp h hd hq he.1.1 fun a' w' hr => hK _ _ _ hr he.2
  | none =>
    rw [hq] at he
    simp only at he
    refine lop_wp (K' := K') h hd ?_ hK
    unfold lop
    cases hx : pv P (evL st.env) st.box st.arr o.op with
    | some x => rw [hx] at he;exact he.2
    | none =>
      rw [hx,pvK_none] at he
      rw [pvK_none]
      cases hc : callOf o.op with
      | some fa =>
        obtain ⟨f,args⟩ := fa
        rw [hc] at he
        obtain ⟨r,hr,h2⟩ := he
        exact ⟨r,hr,h2.2⟩
      | none =>
        rw [hc,callK_none] at he
        rw [callK_none]
        cases hs : effE P st o.dst o.op with
        | none => rw [hs] at he;exact he
        | some cs => obtain ⟨c,st'⟩ := cs;rw [hs] at he;exact ⟨he.1,he.2.2⟩
theorem lopsX_wp {oc : List (Nat × OCD P)} {ops : Array Oper} {Q' : Exit → Act → World → Prop} : ∀ (l : List (Option (List Nat) × Oper)) (K : LSt → Prop) (st : LSt) (a : Act) (w : World),Rel P N w0 S0 st a w → lopsX P N oc ops l K st → (∀ st a w,Rel P N w0 S0 st a w → K st → Q' .normal a w) → wpList P ops Q' (l.map (·.2)) a w
  | [],K,st,a,w,h,hl,hQ => hQ _ _ _ h hl
  | (m,o) :: rest,K,st,a,w,h,hl,hQ => by
    obtain ⟨hd,hl⟩ := hl
    rw [List.map_cons]
    unfold wpList
    obtain ⟨g,hg⟩ := h
    cases hgd : guardL ops o st.env with
    | some wb =>
      obtain ⟨want,b⟩ := wb
      rw [hgd] at hl
      have hw := guardL_want hgd
      cases hc : wantB b want
      · rw [hc] at hw
        rw [wantL_run hg.env hw,if_neg (by simp)]
        exact lopsX_wp rest K _ _ _ ⟨g,hg.put (dstOk_spec hd) (.lit _ _)⟩ (hl.2 hc) hQ
      · rw [hc] at hw
        rw [wantL_run hg.env hw,if_pos rfl]
        exact .inl (lopX_wp ⟨g,hg⟩ hd (hl.1 hc) fun st' a' w' hr hk => lopsX_wp rest K st' a' w' hr hk hQ)
    | none => rw [hgd] at hl;exact hl.elim
def noM : List Oper → List (Option (List Nat) × Oper)
  | [] => []
  | o :: r => (none,o) :: noM r
theorem noM_map : ∀ l : List Oper,(noM l).map (·.2) = l
  | [] => rfl
  | o :: r => by rw [noM,List.map_cons,noM_map r]
theorem LW_regionO {Q : Exit → LSt → Prop} {st : LSt} {id : Nat} {l : List Oper} (oc : List (Nat × OCD P)) (h : ∀ K : LSt → Prop,(∀ st',Q .normal st' → K st') → lopsX P N oc l.toArray (noM l) K st) : LW P N w0 S0 (.region id l.toArray false) Q st := by
  intro a w hr
  refine wp_region_lit ?_
  have := lopsX_wp (Q' := fun e a' w' => ∃ st',Rel P N w0 S0 st' a' w' ∧ Q e st') (noM l) (Q .normal) st a w hr (h _ fun _ h => h) fun st' a' w' h1 h2 => ⟨st',h1,h2⟩
  rwa [noM_map] at this
end
section
variable {P : Program} (N : Nat) (oc : List (Nat × OCD P)) (ops : Array Oper) (m : Option (List Nat)) (o : Oper) (rest : List (Option (List Nat) × Oper)) (K : LSt → Prop) (st : LSt)
def gopX (g : Option (Bool × Bool)) : Prop := guardK g (lopX P oc m o st (lopsX P N oc ops rest K)) (lopsX P N oc ops rest K (st.put o.dst (.lit undef)))
def wopX (q : Option ((FuncId × List Operand) × Nat × OCD P)) : Prop :=
  match q with
  | some q => (ocOk st q.1.1 q.1.2 q.2.2 ∧ mOk m (fun SB => disjL SB (firsts q.2.2.ha ++ seconds q.2.2.ba ++ q.2.2.kp) && disjL SB [q.2.1]) = true) ∧ lopsX P N oc ops rest K (ocNext st q.2.1 q.2.2)
  | none => pvK (pv P (evL st.env) st.box st.arr o.op) (fun x => mOk m (fun SB => stOk SB st o.op x) = true ∧ lopsX P N oc ops rest K (st.put o.dst x))
      (callK P (callOf o.op) (evL st.env) (fun r => mOk m (fun SB => stOk SB st o.op (strip r)) = true ∧ lopsX P N oc ops rest K (st.put o.dst (strip r))) (effK (effE P st o.dst o.op) fun st' => mOk m (fun SB => effOk SB st o.dst o.op) = true ∧ lopsX P N oc ops rest K st'))
def popX (v : Option LV) : Prop := pvK v (fun x => mOk m (fun SB => stOk SB st o.op x) = true ∧ lopsX P N oc ops rest K (st.put o.dst x))
      (callK P (callOf o.op) (evL st.env) (fun r => mOk m (fun SB => stOk SB st o.op (strip r)) = true ∧ lopsX P N oc ops rest K (st.put o.dst (strip r))) (effK (effE P st o.dst o.op) fun st' => mOk m (fun SB => effOk SB st o.dst o.op) = true ∧ lopsX P N oc ops rest K st'))
def copX (c : Option (FuncId × List Operand)) : Prop := callK P c (evL st.env) (fun r => mOk m (fun SB => stOk SB st o.op (strip r)) = true ∧ lopsX P N oc ops rest K (st.put o.dst (strip r))) (effK (effE P st o.dst o.op) fun st' => mOk m (fun SB => effOk SB st o.dst o.op) = true ∧ lopsX P N oc ops rest K st')
def eopX (r : Option (Prop × LSt)) : Prop := effK r fun st' => mOk m (fun SB => effOk SB st o.dst o.op) = true ∧ lopsX P N oc ops rest K st'
theorem lopsX_nil : lopsX P N oc ops [] K st = K st := rfl
theorem lopsX_c : lopsX P N oc ops ((m,o) :: rest) K st = (dstOk N o.dst = true ∧ gopX N oc ops m o rest K st (guardL ops o st.env)) := rfl
theorem gopX_tt : gopX N oc ops m o rest K st (some (true,true)) = wopX N oc ops m o rest K st (ocAt oc o.dst o.op) := by unfold gopX;rw [guardK_some,wantK_tt];rfl
theorem gopX_ff : gopX N oc ops m o rest K st (some (false,false)) = wopX N oc ops m o rest K st (ocAt oc o.dst o.op) := by unfold gopX;rw [guardK_some,wantK_ff];rfl
theorem gopX_tf : gopX N oc ops m o rest K st (some (true,false)) = lopsX P N oc ops rest K (st.put o.dst (.lit undef)) := by unfold gopX;rw [guardK_some,wantK_tf]
theorem gopX_ft : gopX N oc ops m o rest K st (some (false,true)) = lopsX P N oc ops rest K (st.put o.dst (.lit undef)) := by unfold gopX;rw [guardK_some,wantK_ft]
theorem wopX_some (f : FuncId) (args : List Operand) (d : Nat) (C : OCD P) : wopX N oc ops m o rest K st (some ((f,args),d,C)) = ((ocOk st f args C ∧ mOk m (fun SB => disjL SB (firsts C.ha ++ seconds C.ba ++ C.kp) && disjL SB [d]) = true) ∧ lopsX P N oc ops rest K (ocNext st d C)) := rfl
theorem wopX_none : wopX N oc ops m o rest K st none = popX N oc ops m o rest K st (pv P (evL st.env) st.box st.arr o.op) := rfl
theorem popX_some (x : LV) : popX N oc ops m o rest K st (some x) = (mOk m (fun SB => stOk SB st o.op x) = true ∧ lopsX P N oc ops rest K (st.put o.dst x)) := rfl
theorem popX_none : popX N oc ops m o rest K st none = copX N oc ops m o rest K st (callOf o.op) := rfl
theorem copX_none : copX N oc ops m o rest K st none = eopX N oc ops m o rest K st (effE P st o.dst o.op) := rfl
theorem eopX_some (c : Prop) (st' : LSt) : eopX N oc ops m o rest K st (some (c,st')) = (c ∧ mOk m (fun SB => effOk SB st o.dst o.op) = true ∧ lopsX P N oc ops rest K st') := rfl
variable {N oc ops m o rest K st}
theorem copX_intro {f : FuncId} {args : List Operand} {args' : List LV} {r : LV} (ha : (args.map (evL st.env)).map strip = args') (hc : LCalls P f args' r) (hm : mOk m (fun SB => stOk SB st o.op (strip r)) = true) (hk : lopsX P N oc ops rest K (st.put o.dst (strip r))) : copX N oc ops m o rest K st (some (f,args)) := by
  subst ha;exact ⟨r,hc,hm,hk⟩
end
end Go.Proofs.YtbffcndmcaeamaaDoor
end
section
set_option linter.unusedSimpArgs false
set_option linter.unusedVariables false
namespace Go.Proofs.YtbffcndmcaeamaaDoor
open Op renaming operands → zo
open Call renaming operands → zc
open Go.RowKit

section
variable {P : Program} {N : Nat} {w0 : World} {S0 : Ent} {ops : Array Oper} {md : Region.Mode}
theorem disjL_spec {l r : List Nat} (h : disjL l r = true) : ∀ a ∈ r,memL l a = false := by
  induction r with
  | nil => intro a ha;cases ha
  | cons b r ih =>
    unfold disjL at h
    rw [Bool.and_eq_true] at h
    intro a ha
    rcases List.mem_cons.1 ha with rfl | ha
    · simpa using h.1
    · exact ih h.2 a ha
theorem disjL_mem {l r : List Nat} (h : disjL l r = true) {q : Nat} (hq : memL l q = true) : memL r q = false := by
  cases hm : memL r q with
  | false => rfl
  | true =>
    have := disjL_spec h q ((memL_iff r q).1 hm)
    rw [hq] at this;cases this
theorem disjL_append {l a b : List Nat} (h : disjL l (a ++ b) = true) : disjL l a = true ∧ disjL l b = true := by
  induction a with
  | nil => exact ⟨rfl,h⟩
  | cons x a ih =>
    simp only [List.cons_append,disjL,Bool.and_eq_true] at h ⊢
    exact ⟨⟨h.1,(ih h.2).1⟩,(ih h.2).2⟩
theorem stab_forget1 {SB : List Nat} {d : Nat} {x : LV} (h : stab1 SB x = true) (hd : memL SB d = false) : forget1 d x = x := by
  have ne : ∀ q,memL SB q = true → q ≠ d := fun q hq e => by rw [e,hd] at hq;cases hq
  unfold stab1 at h
  split at h
  · rfl
  · rfl
  · rfl
  · rfl
  · rename_i q;simp only [forget1,if_neg (ne q h)]
  · rename_i q o;simp only [forget1,if_neg (ne q h)]
  · rename_i n cs t hnr hns
    cases t with
    | no => rfl
    | nil => rfl
    | row q => exact absurd rfl (hnr q)
    | sub q o => exact absurd rfl (hns q o)
  · rename_i q o;simp only [forget1,if_neg (ne q h)]
  · rename_i q n e;simp only [forget1,if_neg (ne q h)]
  · rename_i q o;simp only [forget1,if_neg (ne q h)]
  · rename_i q kvs;simp only [forget1,if_neg (ne q h)]
  · cases h
theorem stab_fgF1 {SB F : List Nat} {x : LV} (h : stab1 SB x = true) (hd : ∀ q,memL SB q = true → memL F q = false) : fgF1 F x = x := by
  unfold stab1 at h
  split at h
  · rfl
  · rfl
  · rfl
  · rfl
  · rename_i q;simp only [fgF1,hd q h,Bool.false_eq_true,if_false]
  · rename_i q o;simp only [fgF1,memA_of (hd q h),Bool.false_eq_true,if_false]
  · rename_i n cs t hnr hns
    cases t with
    | no => rfl
    | nil => rfl
    | row q => exact absurd rfl (hnr q)
    | sub q o => exact absurd rfl (hns q o)
  · rename_i q o;simp only [fgF1,memP_of (hd q h),Bool.false_eq_true,if_false]
  · rename_i q n e;simp only [fgF1,memA_of (hd q h),Bool.false_eq_true,if_false]
  · rename_i q o;simp only [fgF1,memA_of (hd q h),Bool.false_eq_true,if_false]
  · rename_i q kvs;simp only [fgF1,hd q h,Bool.false_eq_true,if_false]
  · cases h
theorem map_stab {SB : List Nat} {cs : List LV} {f : LV → LV} (h : cs.all (stab1 SB) = true) (hf : ∀ x,stab1 SB x = true → f x = x) : cs.map f = cs := by
  rw [List.all_eq_true] at h
  conv => rhs;rw [← List.map_id cs]
  exact List.map_congr_left fun x hx => hf x (h x hx)
theorem lift_stab2 {SB : List Nat} {x : LV} {f1 f2 : LV → LV} (h : stab2 SB x = true) (hf : ∀ x,stab1 SB x = true → f1 x = x) (ha : ∀ cs,f2 (.agg cs) = .agg (cs.map f1)) (hn : ∀ x,(∀ cs,x ≠ .agg cs) → f2 x = f1 x) : f2 x = x := by
  cases x with
  | agg cs => rw [ha,map_stab h hf]
  | _ => rw [hn _ (fun cs e => by cases e)];exact hf _ h
theorem stab_forget {SB : List Nat} {d : Nat} {x : LV} (h : stab SB x = true) (hd : memL SB d = false) : Go.Proofs.YtbffcndmcaeamaaDoor.forget d x = x := by
  have h2 : ∀ x,stab2 SB x = true → forget2 d x = x := fun x hx => lift_stab2 hx (fun x hx => stab_forget1 hx hd) (fun _ => rfl) (fun x hx => by cases x <;> first | rfl | exact absurd rfl (hx _))
  cases x with
  | tup cs =>
    show LV.tup (cs.map (forget2 d)) = _
    unfold stab at h
    rw [List.all_eq_true] at h
    congr 1
    conv => rhs;rw [← List.map_id cs]
    exact List.map_congr_left fun x hx => h2 x (h x hx)
  | any => exact h2 .any h
  | lit u => exact h2 (.lit u) h
  | agg cs => exact h2 (.agg cs) h
  | sl n cs t => exact h2 (.sl n cs t) h
  | ref cs => exact h2 (.ref cs) h
  | fn f cs => exact h2 (.fn f cs) h
  | ptr q o => exact h2 (.ptr q o) h
  | bsl q n e => exact h2 (.bsl q n e) h
  | aptr q o => exact h2 (.aptr q o) h
  | mp q kvs => exact h2 (.mp q kvs) h
theorem stab_fgF {SB F : List Nat} {x : LV} (h : stab SB x = true) (hd : ∀ q,memL SB q = true → memL F q = false) : fgF F x = x := by
  have h2 : ∀ x,stab2 SB x = true → fgF2 F x = x := fun x hx => lift_stab2 hx (fun x hx => stab_fgF1 hx hd) (fun _ => rfl) (fun x hx => by cases x <;> first | rfl | exact absurd rfl (hx _))
  cases x with
  | tup cs =>
    show LV.tup (cs.map (fgF2 F)) = _
    unfold stab at h
    rw [List.all_eq_true] at h
    congr 1
    conv => rhs;rw [← List.map_id cs]
    exact List.map_congr_left fun x hx => h2 x (h x hx)
  | any => exact h2 .any h
  | lit u => exact h2 (.lit u) h
  | agg cs => exact h2 (.agg cs) h
  | sl n cs t => exact h2 (.sl n cs t) h
  | ref cs => exact h2 (.ref cs) h
  | fn f cs => exact h2 (.fn f cs) h
  | ptr q o => exact h2 (.ptr q o) h
  | bsl q n e => exact h2 (.bsl q n e) h
  | aptr q o => exact h2 (.aptr q o) h
  | mp q kvs => exact h2 (.mp q kvs) h
theorem stab_remp {SB : List Nat} {d : Nat} {kvs : List (List UInt8 × Int)} {x : LV} (h : stab SB x = true) (hd : memL SB d = false) : remp d kvs x = x := by
  cases x with
  | mp e k =>
    have hne : e ≠ d := fun he => by
      have h2 : memL SB e = true := h
      rw [he,hd] at h2;cases h2
    rw [rm_mp,if_neg hne]
  | _ => exact stab_forget h hd
structure Calm (SB : List Nat) (dst : Option Tmp) (st st' : LSt) : Prop where
  env : ∀ t,dst ≠ some t → stab SB (st.env t) = true → st'.env t = st.env t
  box : ∀ e,memL SB e = true → (∀ cs,st.box e = some cs → cs.all (stab1 SB) = true) → st'.box e = st.box e
  arr : ∀ e,memL SB e = true → st'.arr e = st.arr e
  mode : st'.mode = st.mode
theorem Calm.refl {SB : List Nat} {dst : Option Tmp} {st : LSt} : Calm SB dst st st := ⟨fun _ _ _ => rfl,fun _ _ _ => rfl,fun _ _ => rfl,rfl⟩
theorem Calm.put {SB : List Nat} {d : Nat} {st st' : LSt} {x : LV} (h : Calm SB (some d) st st') : Calm SB (some d) st (st'.put (some d) x) :=
  ⟨fun t ht hs => by rw [put_env_ne ht];exact h.env t ht hs,fun e h1 h2 => by rw [put_box];exact h.box e h1 h2,fun e he => by rw [put_arr];exact h.arr e he,by rw [put_mode];exact h.mode⟩
theorem Calm.forget {SB : List Nat} {dst : Option Tmp} {st : LSt} {d : Nat} (hd : memL SB d = false) : Calm SB dst st (st.forget d) := by
  have ne : ∀ q,memL SB q = true → q ≠ d := fun q hq e => by rw [e,hd] at hq;cases hq
  refine ⟨fun t _ hs => stab_forget hs hd,fun e he hs => ?_,fun e he => ?_,rfl⟩
  · simp only [LSt.forget,if_neg (ne e he)]
    cases hb : st.box e with
    | none => rfl
    | some cs => rw [Option.map_some,map_stab (hs cs hb) fun x hx => stab_forget1 hx hd]
  · simp only [LSt.forget,upd_ne _ _ (ne e he)]
theorem Calm.setBox {SB : List Nat} {dst : Option Tmp} {st st' : LSt} {d : Nat} {cs : List LV} (h : Calm SB dst st st') (hd : memL SB d = false) : Calm SB dst st (st'.setBox d cs) := by
  have ne : ∀ q,memL SB q = true → q ≠ d := fun q hq e => by rw [e,hd] at hq;cases hq
  exact ⟨h.env,fun e he hs => by simp only [LSt.setBox,upd_ne _ _ (ne e he)];exact h.box e he hs,h.arr,h.mode⟩
theorem Calm.setArr {SB : List Nat} {dst : Option Tmp} {st st' : LSt} {d : Nat} {cs : List LV} (h : Calm SB dst st st') (hd : memL SB d = false) : Calm SB dst st (st'.setArr d cs) := by
  have ne : ∀ q,memL SB q = true → q ≠ d := fun q hq e => by rw [e,hd] at hq;cases hq
  exact ⟨h.env,h.box,fun e he => by simp only [LSt.setArr,upd_ne _ _ (ne e he)];exact h.arr e he,h.mode⟩
theorem Calm.setRow {SB : List Nat} {dst : Option Tmp} {st st' : LSt} {d n : Nat} {e : TypeId} (h : Calm SB dst st st') : Calm SB dst st (st'.setRow d e n) := ⟨h.env,h.box,h.arr,h.mode⟩
theorem Calm.setMap {SB : List Nat} {dst : Option Tmp} {st : LSt} {d : Nat} {kvs : List (List UInt8 × Int)} (hd : memL SB d = false) : Calm SB dst st (st.setMap d kvs) :=
  ⟨fun t _ hs => stab_remp hs hd,(Calm.forget (dst := dst) hd).box,(Calm.forget (dst := dst) hd).arr,rfl⟩
theorem touch_some (st : LSt) (d : Nat) (op : Op) : ∃ r,touch st (some d) op = d :: r := by
  unfold touch
  split <;> simp_all
theorem touch_d {st : LSt} {SB : List Nat} {d : Nat} {op : Op} (h : disjL SB (touch st (some d) op) = true) : memL SB d = false := by
  obtain ⟨r,hr⟩ := touch_some st d op
  rw [hr] at h
  exact disjL_spec h d (by simp)
theorem setBox_putS {st : LSt} {k d : Nat} {v : LV} {cs : List LV} : (st.put (some k) v).setBox d cs = (st.setBox d cs).put (some k) v := rfl
theorem setArr_putS {st : LSt} {k d : Nat} {v : LV} {cs : List LV} : (st.put (some k) v).setArr d cs = (st.setArr d cs).put (some k) v := rfl
theorem setRow_putS {st : LSt} {k d n : Nat} {v : LV} {e : TypeId} : (st.put (some k) v).setRow d e n = (st.setRow d e n).put (some k) v := rfl
theorem effE_calm {SB : List Nat} {st st' : LSt} {dst : Option Tmp} {op : Op} {c : Prop} (h : effE P st dst op = some (c,st')) (ht : disjL SB (touch st dst op) = true) : Calm SB dst st st' := by
  unfold effE at h
  split at h
  · rename_i d e x
    have hd := touch_d ht
    unfold boxE at h
    split at h
    · cases h;exact ((Calm.forget hd).setBox hd).put
    · cases h
  · rename_i d e
    have hd := touch_d ht
    unfold boxE at h
    split at h
    · cases h;exact ((Calm.forget hd).setBox hd).put
    · cases h
  · rename_i t p x
    unfold storeE at h
    split at h
    · rename_i d o xs hp hx
      have hd : memL SB d = false := disjL_spec ht d (by simp [touch,hp,idsOf])
      unfold storeTo at h
      split at h
      · cases h;exact Calm.refl.setBox hd
      · cases h
    · rename_i d o xs hp hx
      have hd : memL SB d = false := disjL_spec ht d (by simp [touch,hp,idsOf])
      split at h
      · unfold storeArr at h
        cases h;exact Calm.refl.setArr hd
      · unfold storeTo at h
        split at h
        · cases h;exact Calm.refl.setBox hd
        · cases h
    · cases h
  · rename_i d t n parts
    have hd := touch_d ht
    unfold buildSliceE at h
    split at h
    · unfold buildSliceE1 at h
      split at h
      · cases h
        cases st.mode d
        · exact Calm.refl.put
        · simp only [cond_true]
          split
          · exact (Calm.setRow (Calm.forget hd)).put
          · exact ((Calm.forget hd).setArr hd).put
      · cases h
    · cases h
  · rename_i d args ts
    have hd := touch_d ht
    obtain ⟨args⟩ := args
    simp only at h
    unfold appendE2 at h
    split at h
    · rename_i x y t t' _ _
      · unfold appendE at h
        split at h
        · rename_i e k n cs tk m ds _ hx _
          unfold appendE1 at h
          split at h
          · cases h
            cases st.mode d
            · exact (Calm.setRow (Calm.forget hd)).put
            · exact ((Calm.forget hd).setArr hd).put
          · rename_i q
            cases h
            have hq : memL SB q = false := disjL_spec ht q (by simp [touch,hx,idsOf])
            cases st.mode d <;> simp only [cond_true,cond_false] <;> (repeat' split) <;> first | exact (Calm.setRow (Calm.forget hq)).put | exact ((Calm.forget hq).setArr hq).put
          · cases h
          · cases h
        · rename_i e k q n e' m ds _ hx _
          have hq : memL SB q = false := disjL_spec ht q (by simp [touch,hx,idsOf])
          unfold appendA at h
          split at h
          · cases h;exact ((Calm.forget hq).setArr hq).put
          · cases h
        · cases h
    · cases h
  · rename_i d args ts
    obtain ⟨args⟩ := args
    simp only at h
    unfold copyE2 at h
    split at h
    · rename_i x y t r _ _
      unfold copyE at h
      split at h
      · rename_i _ _ q off s _ hx _
        have hq : memL SB q = false := disjL_spec ht q (by simp [touch,hx,idsOf])
        unfold copyA at h
        split at h
        · cases h;exact (Calm.refl.setArr hq).put
        · cases h
      · rename_i _ q n e' s _ hx _
        have hq : memL SB q = false := disjL_spec ht q (by simp [touch,hx,idsOf])
        unfold copyA at h
        split at h
        · cases h;exact (Calm.refl.setArr hq).put
        · cases h
      · cases h
    · cases h
  · rename_i d t x y
    have hd := touch_d ht
    unfold makeE at h
    split at h
    · split at h
      · cases h
        split
        · exact Calm.refl.put
        · exact ((Calm.forget hd).setArr hd).put
      · cases h
    · cases h
  · rename_i d t r
    have hd := touch_d ht
    unfold mkMapE at h
    split at h
    · cases h;exact (Calm.forget hd).put
    · cases h
  · rename_i t x y z
    unfold mapE at h
    split at h
    · rename_i q kvs s i hx _ _
      have hq : memL SB q = false := disjL_spec ht q (by simp [touch,hx,idsOf])
      cases h;exact Calm.setMap hq
    · cases h
  · rename_i t x y z
    unfold mapE at h
    split at h
    · rename_i q kvs s i hx _ _
      have hq : memL SB q = false := disjL_spec ht q (by simp [touch,hx,idsOf])
      cases h;exact Calm.setMap hq
    · cases h
  · cases h
theorem ocNext_calm {SB : List Nat} {st : LSt} {d : Nat} {C : OCD P} (h : disjL SB (firsts C.ha ++ seconds C.ba ++ C.kp) = true) : Calm SB (some d) st (ocNext st d C) := by
  have hF : ∀ q,memL SB q = true → memL (firsts C.ha ++ seconds C.ba ++ C.kp) q = false := fun q hq => disjL_mem h hq
  have hb : ∀ q,memL SB q = true → bkL C.ba q = none := fun q hq => by
    cases hc : bkL C.ba q with
    | none => rfl
    | some c =>
      have := hF q hq
      rw [seconds_eq] at this
      have h2 : memL (firsts C.ha ++ C.ba.map (·.2) ++ C.kp) q = true := (memL_iff _ _).2 (List.mem_append_left _ (List.mem_append_right _ (List.mem_map.2 ⟨_,bkL_mem hc,rfl⟩)))
      rw [this] at h2;cases h2
  refine Calm.put ⟨fun t _ hs => stab_fgF hs hF,fun e he hs => ?_,fun e he => ?_,rfl⟩
  · simp only [LSt.ocall,hb e he,hF e he,Bool.false_eq_true,if_false]
    cases hbx : st.box e with
    | none => rfl
    | some cs => rw [Option.map_some,map_stab (hs cs hbx) fun x hx => stab_fgF1 hx hF]
  · simp only [LSt.ocall,hb e he,hF e he,Bool.false_eq_true,if_false]
def effX (oc : List (Nat × OCD P)) (st : LSt) (dst : Option Tmp) (op : Op) : Option (Prop × LSt) :=
  match ocAt oc dst op with
  | some q => some (ocOk st q.1.1 q.1.2 q.2.2,ocNext st q.2.1 q.2.2)
  | none => effE P st dst op
def touchX (oc : List (Nat × OCD P)) (st : LSt) (dst : Option Tmp) (op : Op) : List Nat :=
  match ocAt oc dst op with
  | some q => (firsts q.2.2.ha ++ seconds q.2.2.ba ++ q.2.2.kp) ++ [q.2.1]
  | none => touch st dst op
theorem effX_calm {oc : List (Nat × OCD P)} {SB : List Nat} {st st' : LSt} {dst : Option Tmp} {op : Op} {c : Prop} (h : effX oc st dst op = some (c,st')) (ht : disjL SB (touchX oc st dst op) = true) : Calm SB dst st st' := by
  unfold effX at h
  unfold touchX at ht
  cases hq : ocAt oc dst op with
  | some q =>
    rw [hq] at h ht
    cases h
    obtain ⟨h1,_,_⟩ := ocAt_spec hq
    subst h1
    exact ocNext_calm (disjL_append ht).1
  | none => rw [hq] at h ht;exact effE_calm h ht
theorem forget_put_stab {st : LSt} {SB : List Nat} {k d : Nat} {v : LV} (h : stab SB v = true) (hd : memL SB d = false) : (st.put (some k) v).forget d = (st.forget d).put (some k) v := by
  unfold LSt.forget LSt.put
  simp only
  congr 1
  funext j
  simp only [upd]
  split
  · exact stab_forget h hd
  · rfl
theorem setMap_put_stab {st : LSt} {SB : List Nat} {k d : Nat} {v : LV} {kvs : List (List UInt8 × Int)} (h : stab SB v = true) (hd : memL SB d = false) : (st.put (some k) v).setMap d kvs = (st.setMap d kvs).put (some k) v := by
  unfold LSt.setMap LSt.forget LSt.put
  simp only
  congr 1
  funext j
  simp only [upd]
  split
  · exact stab_remp h hd
  · rfl
theorem evL_put_ne {st : LSt} {k : Nat} {v : LV} {y : Operand} (h : y ≠ .tmp k) : evL (st.put (some k) v).env y = evL st.env y := by
  cases y with
  | tmp t => exact put_env_ne (fun e => h (by cases e;rfl))
  | _ => rfl
theorem touch_put {st : LSt} {k : Nat} {v : LV} {dst : Option Tmp} {op : Op} (hk : .tmp k ∉ op.operands) : touch (st.put (some k) v) dst op = touch st dst op := by
  unfold touch
  split
  · rename_i d x r ts
    rw [evL_put_ne (fun e => hk (by rw [← e];simp [Op.operands,Call.operands]))]
  · rename_i d x r ts
    rw [evL_put_ne (fun e => hk (by rw [← e];simp [Op.operands,Call.operands]))]
  · rfl
  · rename_i t p x
    rw [evL_put_ne (fun e => hk (by rw [← e];simp [Op.operands]))]
  · rename_i t m x y
    rw [evL_put_ne (fun e => hk (by rw [← e];simp [Op.operands]))]
  · rename_i t m x y
    rw [evL_put_ne (fun e => hk (by rw [← e];simp [Op.operands]))]
  · rfl
theorem effE_putS {SB : List Nat} {st st1 : LSt} {dst : Option Tmp} {op : Op} {c : Prop} {k : Nat} {v : LV} (hv : stab SB v = true) (hk : .tmp k ∉ op.operands) (hd : dst ≠ some k) (ht : disjL SB (touch (st.put (some k) v) dst op) = true) (h : effE P (st.put (some k) v) dst op = some (c,st1)) :
    ∃ st2,effE P st dst op = some (c,st2) ∧ st1 = st2.put (some k) v := by
  have hev : ∀ y ∈ op.operands,evL (st.put (some k) v).env y = evL st.env y := fun y hy => evL_put_ne (fun e => hk (e ▸ hy))
  have pc : ∀ (s : LSt) (d : Nat) (x : LV),d ≠ k → (s.put (some k) v).put (some d) x = (s.put (some d) x).put (some k) v := fun s d x hne => put_comm v x (fun e he => by cases he;intro h;cases h;exact hne rfl)
  unfold effE at h ⊢
  split at h
  · rename_i d e x
    have hd2 := touch_d ht
    have hdk : d ≠ k := fun e => hd (by rw [e])
    rw [hev x (by simp [Op.operands])] at h
    unfold boxE at h ⊢
    split at h
    · rename_i cs hcs
      cases h
      refine ⟨_,rfl,?_⟩
      rw [forget_put_stab hv hd2,setBox_putS];exact pc _ d _ hdk
    · cases h
  · rename_i d e
    have hd2 := touch_d ht
    have hdk : d ≠ k := fun e => hd (by rw [e])
    unfold boxE at h ⊢
    split at h
    · rename_i cs hcs
      cases h
      refine ⟨_,rfl,?_⟩
      rw [forget_put_stab hv hd2,setBox_putS];exact pc _ d _ hdk
    · cases h
  · rename_i t p x
    rw [hev x (by simp [Op.operands]),hev p (by simp [Op.operands])] at h
    unfold storeE storeTo storeArr at h ⊢
    simp only [put_box,put_arr] at h
    split at h
    · rename_i d o xs hp hx
      split at h
      · rename_i cs hcs;cases h;exact ⟨_,rfl,rfl⟩
      · cases h
    · rename_i d o xs hp hx
      split at h
      · rename_i cs hcs;cases h;exact ⟨_,rfl,rfl⟩
      · split at h
        · rename_i cs hcs;cases h;exact ⟨_,rfl,rfl⟩
        · cases h
    · cases h
  · rename_i d t n parts
    have hd2 := touch_d ht
    have hdk : d ≠ k := fun e => hd (by rw [e])
    have hparts : (parts.toList.map fun q => (q.1,evL (st.put (some k) v).env q.2)) = parts.toList.map fun q => (q.1,evL st.env q.2) := by
      apply List.map_congr_left
      intro q hq
      rw [hev q.2 (by simp only [Op.operands];simpa using ⟨q.1,by simpa using hq⟩)]
    rw [hparts] at h
    unfold buildSliceE buildSliceE1 at h ⊢
    split at h
    · rename_i e kk hek
      split at h
      · rename_i cs hcs
        cases h
        refine ⟨_,rfl,?_⟩
        rw [put_mode]
        cases st.mode d
        · simp only [cond_false];exact pc _ d _ hdk
        · simp only [cond_true]
          split
          · rw [forget_put_stab hv hd2,setRow_putS];exact pc _ d _ hdk
          · rw [forget_put_stab hv hd2,setArr_putS];exact pc _ d _ hdk
      · cases h
    · cases h
  · rename_i d args ts
    have hd2 := touch_d ht
    have hdk : d ≠ k := fun e => hd (by rw [e])
    have hargs : ∀ y ∈ args.toList,evL (st.put (some k) v).env y = evL st.env y := fun y hy => hev y (by simp only [Op.operands,Call.operands];simpa using hy)
    obtain ⟨al⟩ := args
    simp only at hargs h ⊢
    have htt2 : ∀ x r,al = x :: r → ∀ q ∈ idsOf (evL st.env x),memL SB q = false := by
      rintro x r rfl q hq
      have := disjL_spec ht q
      simp only [touch,hargs x (by simp),List.mem_cons] at this
      exact this (.inr hq)
    unfold appendE2 at h ⊢
    split at h
    · rename_i x y t t' hts
      rw [hargs x (by simp),hargs y (by simp),put_arr] at h
      · unfold appendE at h ⊢
        split at h
        · rename_i e kk n cs tk m ds h1 h2 h3
          unfold appendE1 at h ⊢
          split at h
          · cases h
            refine ⟨_,rfl,?_⟩
            rw [put_mode]
            cases st.mode d
            · simp only [cond_false];rw [forget_put_stab hv hd2,setRow_putS];exact pc _ d _ hdk
            · simp only [cond_true];rw [forget_put_stab hv hd2,setArr_putS];exact pc _ d _ hdk
          · rename_i q
            cases h
            refine ⟨_,rfl,?_⟩
            rw [put_mode]
            cases st.mode d
            · simp only [cond_false];rw [forget_put_stab hv (htt2 x _ rfl q (by rw [h2];simp [idsOf])),setRow_putS];exact pc _ d _ hdk
            · simp only [cond_true]
              split
              · split
                · rw [forget_put_stab hv (htt2 x _ rfl q (by rw [h2];simp [idsOf])),setRow_putS];exact pc _ d _ hdk
                · rw [forget_put_stab hv (htt2 x _ rfl q (by rw [h2];simp [idsOf])),setArr_putS];exact pc _ d _ hdk
              · rw [forget_put_stab hv (htt2 x _ rfl q (by rw [h2];simp [idsOf])),setRow_putS];exact pc _ d _ hdk
          · cases h
          · cases h
        · rename_i e kk q n e' m ds h1 h2 h3
          rw [put_arr] at h
          unfold appendA at h ⊢
          split at h
          · rename_i cs hcs
            cases h
            refine ⟨_,rfl,?_⟩
            rw [forget_put_stab hv (htt2 x _ rfl q (by rw [h2];simp [idsOf])),setArr_putS];exact pc _ d _ hdk
          · cases h
        · cases h
    · cases h
  · rename_i d args ts
    have hdk : d ≠ k := fun e => hd (by rw [e])
    have hargs : ∀ y ∈ args.toList,evL (st.put (some k) v).env y = evL st.env y := fun y hy => hev y (by simp only [Op.operands,Call.operands];simpa using hy)
    obtain ⟨al⟩ := args
    simp only at hargs h ⊢
    unfold copyE2 at h ⊢
    split at h
    · rename_i x y t r hts
      rw [hargs x (by simp),hargs y (by simp)] at h
      unfold copyE at h ⊢
      split at h
      · rename_i _ n q off s _ h2 _
        rw [put_arr] at h
        unfold copyA at h ⊢
        split at h
        · cases h
          exact ⟨_,rfl,by rw [setArr_putS];exact pc _ d _ hdk⟩
        · cases h
      · rename_i _ q n e' s _ h2 _
        rw [put_arr] at h
        unfold copyA at h ⊢
        split at h
        · cases h
          exact ⟨_,rfl,by rw [setArr_putS];exact pc _ d _ hdk⟩
        · cases h
      · cases h
    · cases h
  · rename_i d t x y
    have hd2 := touch_d ht
    have hdk : d ≠ k := fun e => hd (by rw [e])
    rw [hev x (by simp [Op.operands]),hev y (by simp [Op.operands])] at h
    unfold makeE at h ⊢
    split at h
    · split at h
      · cases h
        refine ⟨_,rfl,?_⟩
        split
        · exact pc _ d _ hdk
        · rw [forget_put_stab hv hd2,setArr_putS];exact pc _ d _ hdk
      · cases h
    · cases h
  · rename_i d t r
    have hd2 := touch_d ht
    have hdk : d ≠ k := fun e => hd (by rw [e])
    unfold mkMapE at h ⊢
    split at h
    · cases h
      exact ⟨_,rfl,by rw [forget_put_stab hv hd2];exact pc _ d _ hdk⟩
    · cases h
  · rename_i t x y z
    rw [hev x (by simp [Op.operands]),hev y (by simp [Op.operands]),hev z (by simp [Op.operands])] at h
    unfold mapE at h ⊢
    split at h
    · rename_i q kvs s i hx _ _
      have hq : memL SB q = false := disjL_spec ht q (by simp [touch,hev x (by simp [Op.operands]),hx,idsOf])
      cases h
      exact ⟨_,rfl,setMap_put_stab hv hq⟩
    · cases h
  · rename_i t x y z
    rw [hev x (by simp [Op.operands]),hev y (by simp [Op.operands]),hev z (by simp [Op.operands])] at h
    unfold mapE at h ⊢
    split at h
    · rename_i q kvs s i hx _ _
      have hq : memL SB q = false := disjL_spec ht q (by simp [touch,hev x (by simp [Op.operands]),hx,idsOf])
      cases h
      exact ⟨_,rfl,setMap_put_stab hv hq⟩
    · cases h
  · cases h
theorem effX_putS {oc : List (Nat × OCD P)} {SB : List Nat} {st st1 : LSt} {dst : Option Tmp} {op : Op} {c : Prop} {k : Nat} {v : LV} (hv : stab SB v = true) (hk : .tmp k ∉ op.operands) (hd : dst ≠ some k) (ht : disjL SB (touchX oc (st.put (some k) v) dst op) = true) (h : effX oc (st.put (some k) v) dst op = some (c,st1)) :
    ∃ st2,effX oc st dst op = some (c,st2) ∧ st1 = st2.put (some k) v := by
  unfold effX at h ⊢
  unfold touchX at ht
  cases hq : ocAt oc dst op with
  | none => rw [hq] at h ht;exact effE_putS hv hk hd ht h
  | some q =>
    rw [hq] at h ht
    simp only [Option.some.injEq,Prod.mk.injEq] at h
    obtain ⟨rfl,rfl⟩ := h
    obtain ⟨h1,h2,_⟩ := ocAt_spec hq
    obtain ⟨⟨f,args⟩,d,C⟩ := q
    simp only at h1 h2 ht ⊢
    subst h1
    have hdk : d ≠ k := fun e => hd (by rw [e])
    obtain ⟨ts,rfl⟩ := callOf_ops h2
    have ha : args.map (evL (st.put (some k) v).env) = args.map (evL st.env) := List.map_congr_left fun y hy => evL_put_ne fun e => hk (by rw [← e];simp [zo,zc,hy])
    have hF : ∀ q,memL SB q = true → memL (firsts C.ha ++ seconds C.ba ++ C.kp) q = false := fun q hq => disjL_mem (disjL_append ht).1 hq
    have e : ocOk st f args C = ocOk (st.put (some k) v) f args C := by
      unfold ocOk
      rw [ha]
      rfl
    refine ⟨ocNext st d C,by rw [e],?_⟩
    · unfold ocNext
      have : (st.put (some k) v).ocall (firsts C.ha ++ seconds C.ba ++ C.kp) C.ba C.R = (st.ocall (firsts C.ha ++ seconds C.ba ++ C.kp) C.ba C.R).put (some k) v := by
        unfold LSt.ocall LSt.put
        simp only
        congr 1
        funext j
        simp only [upd]
        split
        · exact stab_fgF hv hF
        · rfl
      rw [this]
      exact put_comm v _ (fun e he => by cases he;intro h;cases h;exact hdk rfl)
theorem touchX_put {oc : List (Nat × OCD P)} {st : LSt} {k : Nat} {v : LV} {dst : Option Tmp} {op : Op} (hk : .tmp k ∉ op.operands) : touchX oc (st.put (some k) v) dst op = touchX oc st dst op := by
  unfold touchX
  split
  · rfl
  · exact touch_put hk
theorem bx_calm {SB : List Nat} {dst : Option Tmp} {st st' : LSt} {x : LV} (hc : Calm SB dst st st') (hx : stab SB x = true) (hb : bxStab SB st.box x = true) : bxStab SB st'.box x = true := by
  unfold bxStab at hb ⊢
  split
  · rename_i e o
    simp only at hb
    rw [hc.box e hx fun cs hcs => by rw [hcs] at hb;exact hb];exact hb
  · rename_i n cs e o
    simp only at hb
    rw [hc.box e hx fun cs hcs => by rw [hcs] at hb;exact hb];exact hb
  · rename_i e o
    simp only at hb
    rw [hc.box e hx fun cs hcs => by rw [hcs] at hb;exact hb];exact hb
  · rfl
theorem pv_calm {SB : List Nat} {dst : Option Tmp} {st st' : LSt} {op : Op} {v : LV} (hc : Calm SB dst st st') (hs : opsStab SB st op = true) (hρ : ∀ y ∈ op.operands,evL st'.env y = evL st.env y) (h : pv P (evL st.env) st.box st.arr op = some v) : pv P (evL st'.env) st'.box st'.arr op = some v := by
  rw [pv_congr (P := P) (ρ := evL st'.env) (ρ' := evL st.env) hρ]
  cases op <;> first | exact h | skip
  case load t p =>
    simp only [pv] at h ⊢
    have h1 := (List.all_eq_true.1 hs) p (by simp [Op.operands])
    rw [Bool.and_eq_true] at h1
    unfold loadAtL at h ⊢
    split at h
    · exact h
    · rename_i d o hp
      rw [hp] at h1
      split at h
      · rename_i cs hb
        have h2 := h1.2
        simp only [bxStab,hb] at h2
        rw [hc.box d h1.1 fun cs' hcs' => by rw [hb] at hcs';cases hcs';exact h2,hb];exact h
      · cases h
    · rename_i d o hp
      rw [hp] at h1
      rw [hc.arr d h1.1]
      cases ha : st.arr d with
      | some cs => rw [ha] at h;exact h
      | none =>
        rw [ha] at h
        simp only at h ⊢
        cases hb : st.box d with
        | some cs =>
          have h2 := h1.2
          simp only [bxStab,hb] at h2
          rw [hc.box d h1.1 fun cs' hcs' => by rw [hb] at hcs';cases hcs';exact h2,hb]
          rw [hb] at h;exact h
        | none => rw [hb] at h;cases h
    · cases h
  case convert s d x =>
    simp only [pv] at h ⊢
    have h1 := (List.all_eq_true.1 hs) x (by simp [Op.operands])
    rw [Bool.and_eq_true] at h1
    unfold convL at h ⊢
    split at h
    · exact h
    · rename_i n cs t hp
      rw [hp] at h1
      unfold convT at h ⊢
      split at h
      · exact h
      · exact h
      · exact h
      · rename_i q off
        cases hq : st.box q with
        | none => rw [hq] at h;cases h
        | some xs =>
          have h2 := h1.2
          simp only [bxStab,hq] at h2
          rw [hc.box q h1.1 fun cs' hcs' => by rw [hq] at hcs';cases hcs';exact h2]
          exact h
    · rename_i q n e hp
      rw [hp] at h1
      rw [hc.arr q h1.1];exact h
    · cases h
  case call c =>
    obtain ⟨callee,args,ts⟩ := c
    cases callee with
    | value y => cases y <;> exact h
    | _ => exact h
  case slice t x lo hi mx => cases mx <;> exact h
theorem want_calm {SB : List Nat} {dst : Option Tmp} {st st' : LSt} {o : Oper} {b : Bool} (hc : Calm SB dst st st') (ha : ∀ t,dst = some t → t ∉ o.looksAt ops) (hb : wantL ops o st.env = some b) : wantL ops o st'.env = some b := by
  unfold wantL at hb ⊢
  cases hg : o.guard with
  | none => rw [hg] at hb;exact hb
  | some jw =>
    obtain ⟨j,want⟩ := jw
    rw [hg] at hb
    simp only at hb ⊢
    cases hj : (ops[j]?).bind (·.dst) with
    | none => rw [hj] at hb;exact hb
    | some t =>
      rw [hj] at hb
      simp only at hb ⊢
      have hn : dst ≠ some t := fun e => ha t e (by simp [Oper.looksAt,hg,hj])
      have hl : ∀ u,st.env t = .lit u → st'.env t = .lit u := fun u hu => by rw [hc.env t hn (by rw [hu];rfl)];exact hu
      split at hb
      · rename_i c hcc;rw [hl _ hcc];exact hb
      · rename_i vs hcc;rw [hl _ hcc];exact hb
      · cases hb
theorem yields_calm {SB : List Nat} {dst : Option Tmp} {st st' : LSt} {o : Oper} {v : LV} (hc : Calm SB dst st st') (hs : opsStab SB st o.op = true ∨ wantL ops o st.env = some false) (ha : ∀ t,dst = some t → t ∉ o.looksAt ops) (h : YieldsL P ops o v st) : YieldsL P ops o v st' := by
  rcases h with ⟨h1,h2⟩ | ⟨h1,h2⟩
  · rcases hs with hs | hs
    rotate_left
    · rw [hs] at h1;cases h1
    have hρ : ∀ y ∈ o.op.operands,evL st'.env y = evL st.env y := fun y hy => by
      cases y with
      | tmp t =>
        have h1 := (List.all_eq_true.1 hs) (.tmp t) (by simpa using hy)
        rw [Bool.and_eq_true] at h1
        exact hc.env t (fun e => ha t e (List.mem_append_left _ (List.mem_filterMap.2 ⟨.tmp t,by simpa using hy,rfl⟩))) h1.1
      | _ => rfl
    refine .inl ⟨want_calm hc ha h1,?_⟩
    rcases h2 with h2 | ⟨f,args,r,h2,h3,h4⟩ | ⟨c,h2,h3⟩
    · exact .inl (pv_calm hc hs hρ h2)
    · refine .inr (.inl ⟨f,args,r,h2,?_,h4⟩)
      obtain ⟨ts,e⟩ := callOf_ops h2
      have : args.map (evL st'.env) = args.map (evL st.env) := List.map_congr_left fun y hy => hρ y (by rw [e];simp [zo,zc,hy])
      rw [this];exact h3
    · exact .inr (.inr ⟨c,by rw [buildV_congr hρ];exact h2,h3⟩)
  · exact .inr ⟨want_calm hc ha h1,h2⟩
theorem opsStab_calm {SB : List Nat} {dst : Option Tmp} {st st' : LSt} {op : Op} (hc : Calm SB dst st st') (hd : ∀ t,dst = some t → .tmp t ∉ op.operands) (hs : opsStab SB st op = true) : opsStab SB st' op = true := by
  unfold opsStab at hs ⊢
  rw [List.all_eq_true] at hs ⊢
  intro y hy
  have h1 := hs y hy
  rw [Bool.and_eq_true] at h1 ⊢
  have hy' : y ∈ op.operands := by simpa using hy
  have he : evL st'.env y = evL st.env y := by
    cases y with
    | tmp t => exact hc.env t (fun e => hd t e hy') h1.1
    | _ => rfl
  rw [he]
  exact ⟨h1.1,bx_calm hc h1.1 h1.2⟩
end
end Go.Proofs.YtbffcndmcaeamaaDoor
end
section
set_option linter.unusedSimpArgs false
set_option linter.unusedVariables false
namespace Go.Proofs.YtbffcndmcaeamaaDoor
open Go.RowKit

def effB2 (ocd : List Nat) (mo : Nat → Bool) (o : Oper) : Bool := (match o.dst with | some d => memL ocd d | none => false) || !(pureB o && bmode mo o)
def alookD (l : List (Nat × List Nat)) (i : Nat) : List Nat := (alook l i).getD []
section
variable {P : Program} {N : Nat} {w0 : World} {S0 : Ent} {ops : Array Oper} {md : Region.Mode} {mo : Nat → Bool} {ml : List (Nat × List Nat)} {oc : List (Nat × OCD P)} {ocd : List Nat}
def mx2Op (oc : List (Nat × OCD P)) (ocd : List Nat) (mo : Nat → Bool) (ml : List (Nat × List Nat)) (ops : Array Oper) (i : Nat) (K : LSt → Prop) (st : LSt) : Prop :=
  match ops[i]? with
  | none => K st
  | some o => (∃ x,YieldsL P ops o x st ∧ K (st.put o.dst x)) ∨ (o.guard = none ∧ effB2 ocd mo o = true ∧ ∃ c st',effX oc st o.dst o.op = some (c,st') ∧ c ∧ disjL (alookD ml i) (touchX oc st o.dst o.op) = true ∧ K st')
def mx2L (oc : List (Nat × OCD P)) (ocd : List Nat) (mo : Nat → Bool) (ml : List (Nat × List Nat)) (md : Region.Mode) (ops : Array Oper) (Q : LSt → Prop) : Nat → Array Bool → LSt → Prop
  | 0,listed,st => Region.ready md ops listed = [] ∧ Q st
  | fuel + 1,listed,st => (Region.ready md ops listed = [] → Q st) ∧ ∀ i ∈ Region.ready md ops listed,mx2Op oc ocd mo ml ops i (mx2L oc ocd mo ml md ops Q fuel (listed.setIfInBounds i true)) st
theorem wpAny_of_mx2L {Q : LSt → Prop} {Q' : Exit → Act → World → Prop} (hd : ∀ (i : Nat) (o : Oper),ops[i]? = some o → dstOk N o.dst = true) (hQ : ∀ st a w,Rel P N w0 S0 st a w → Q st → Q' .normal a w) :
    ∀ (fuel : Nat) (listed : Array Bool) (st : LSt) (a : Act) (w : World),Rel P N w0 S0 st a w → mx2L oc ocd mo ml md ops Q fuel listed st → wpAny P md ops Q' fuel listed a w
  | 0,_,_,_,_,hr,h => ⟨h.1,hQ _ _ _ hr h.2⟩
  | fuel + 1,_,st,a,w,hr,h => by
    refine ⟨fun h0 => hQ _ _ _ hr (h.1 h0),fun i hi => ?_⟩
    have h1 := h.2 i hi
    unfold mx2Op at h1
    unfold wpOp
    split
    · rename_i ho;simp only [ho] at h1;exact wpAny_of_mx2L hd hQ fuel _ st a w hr h1
    · rename_i o ho
      simp only [ho] at h1
      obtain ⟨g,hg⟩ := hr
      rcases h1 with ⟨x,hy,hK⟩ | ⟨hgd,_,c,st',he,hc,_,hK⟩
      · rcases hy with ⟨hw,hv⟩ | ⟨hw,rfl⟩
        · rw [wantL_run hg.env hw,if_pos rfl]
          exact .inl (hv.wp hg (dstOk_spec (hd i o ho)) fun a' w' hr' => wpAny_of_mx2L hd hQ fuel _ _ a' w' hr' hK)
        · rw [wantL_run hg.env hw,if_neg (by simp)]
          exact wpAny_of_mx2L hd hQ fuel _ _ _ _ ⟨g,hg.put (dstOk_spec (hd i o ho)) (.lit _ _)⟩ hK
      · have hw : wantL ops o st.env = some true := by simp [wantL,hgd]
        rw [wantL_run hg.env hw,if_pos rfl]
        unfold effX at he
        cases hq : ocAt oc o.dst o.op with
        | none =>
          rw [hq] at he
          exact .inl (effE_wp hg (dstOk_spec (hd i o ho)) he hc fun a' w' hr' => wpAny_of_mx2L hd hQ fuel _ _ a' w' hr' hK)
        | some q =>
          rw [hq] at he
          simp only [Option.some.injEq,Prod.mk.injEq] at he
          obtain ⟨rfl,rfl⟩ := he
          exact .inl (oc_wp ⟨g,hg⟩ (hd i o ho) hq hc fun a' w' hr' => wpAny_of_mx2L hd hQ fuel _ _ a' w' hr' hK)
def subL (a b : List Nat) : Bool := a.all fun x => memL b x
theorem disj_sub {SB l r : List Nat} (h : subL SB l = true) (hd : disjL l r = true) : disjL SB r = true := by
  induction r with
  | nil => rfl
  | cons a r ih =>
    unfold disjL at hd ⊢
    rw [Bool.and_eq_true] at hd ⊢
    refine ⟨?_,ih hd.2⟩
    cases hm : memL SB a with
    | false => rfl
    | true =>
      have := List.all_eq_true.1 h a ((memL_iff _ _).1 hm)
      rw [this] at hd;cases hd.1
theorem mx2L_first {Q : LSt → Prop} {i : Nat} {oi : Oper} {v : LV} (hi : ops[i]? = some oi) :
    ∀ (fuel : Nat) (listed : Array Bool) (st : LSt),Closed md ops listed →
      (∀ j oj,ops[j]? = some oj → j ≠ i → listed.getD j true = false → (∀ e ∈ oj.after,Region.binds md e = true → e.on ≠ i) → oi.apart ops oj = true) →
      ((∃ SB,(opsStab SB st oi.op = true ∨ wantL ops oi st.env = some false) ∧ stab SB v = true ∧ ∀ j oj,ops[j]? = some oj → j ≠ i → listed.getD j true = false → effB2 ocd mo oj = true → waitsB md ops ops.size j i = true ∨ subL SB (alookD ml j) = true) ∨ ∀ j oj,ops[j]? = some oj → j ≠ i → listed.getD j true = false → effB2 ocd mo oj = true → waitsB md ops ops.size j i = true) →
      i ∈ Region.ready md ops listed → YieldsL P ops oi v st →
      mx2L oc ocd mo ml md ops Q fuel (listed.setIfInBounds i true) (st.put oi.dst v) → mx2L oc ocd mo ml md ops Q (fuel + 1) listed st := by
  intro fuel
  have self : ∀ {st : LSt} {K : LSt → Prop},YieldsL P ops oi v st → K (st.put oi.dst v) → mx2Op oc ocd mo ml ops i K st := by
    intro st K hy hK
    unfold mx2Op;simp only [hi];exact .inl ⟨v,hy,hK⟩
  induction fuel with
  | zero =>
    intro listed st _ _ _ hr hy H
    refine ⟨fun h => (by rw [h] at hr;cases hr),fun j hj => ?_⟩
    by_cases hji : j = i
    · subst hji;exact self hy H
    · have := ready_mono hj hji
      rw [H.1] at this
      cases this
  | succ fuel ih =>
    intro listed st hcl hfree hcase hr hy H
    refine ⟨fun h => (by rw [h] at hr;cases hr),fun j hj => ?_⟩
    by_cases hji : j = i
    · subst hji;exact self hy H
    · have h1 := H.2 j (ready_mono hj hji)
      obtain ⟨hjun,oj,hoj,hall⟩ := mem_ready.1 hj
      have hiun := (mem_ready.1 hr).1
      have hnot : ∀ e ∈ oj.after,Region.binds md e = true → e.on ≠ i := fun e he hb heq => by
        have h1 := hall e he hb
        rw [heq,getD_both hiun] at h1;cases h1
      have hap := hfree j oj hoj hji hjun hnot
      obtain ⟨a1,a2,a3⟩ := Oper.apart_spec hap
      have hun' : ∀ k,(listed.setIfInBounds j true).getD k true = false → listed.getD k true = false := fun k hun => by
        by_cases hjk : j = k
        · subst hjk;exact hjun
        · rw [getD_set_ne true hjk] at hun;exact hun
      have hfree' : ∀ k ok,ops[k]? = some ok → k ≠ i → (listed.setIfInBounds j true).getD k true = false →
          (∀ e ∈ ok.after,Region.binds md e = true → e.on ≠ i) → oi.apart ops ok = true := fun k ok hk hki hun hno => hfree k ok hk hki (hun' k hun) hno
      have hr' := ready_mono hr (Ne.symm hji)
      have hswap := Array.setIfInBounds_comm true true (xs := listed) hji
      have nodst : ∀ t,oj.dst = some t → .tmp t ∉ oi.op.operands := fun t ht hm => a3 t ht (List.mem_append_left _ (List.mem_filterMap.2 ⟨.tmp t,by simpa using hm,rfl⟩))
      unfold mx2Op at h1 ⊢
      simp only [hoj] at h1 ⊢
      rcases h1 with ⟨u,hu,hn⟩ | ⟨hgd,heff,c,st1,he,hc,htc,hn⟩
      · have hu' := (YieldsL.put v a1).1 hu
        refine .inl ⟨u,hu',ih _ _ (hcl.set hj) hfree' ?_ hr' ((YieldsL.put u a3).2 hy) ?_⟩
        · rcases hcase with ⟨SB,h1,h2,h3⟩ | h
          · refine .inl ⟨SB,?_,h2,fun k ok hk hki hun he => h3 k ok hk hki (hun' k hun) he⟩
            have hcm : Calm SB oj.dst st (st.put oj.dst u) := ⟨fun t ht _ => put_env_ne ht,fun e _ _ => by rw [put_box],fun e _ => by rw [put_arr],put_mode _ _ _⟩
            exact h1.imp (opsStab_calm hcm nodst) (want_calm hcm a3)
          · exact .inr fun k ok hk hki hun he => h k ok hk hki (hun' k hun) he
        · rw [← put_comm v u a2,hswap]
          exact hn
      · rcases hcase with ⟨SB,hs1,hs2,hs3⟩ | hne
        · rcases hs3 j oj hoj hji hjun heff with hw | hsub
          · rw [needs_not hcl (getD_both hiun) _ j oj hoj hall] at hw;cases hw
          · have htS := disj_sub hsub htc
            have key : ∃ st2,effX oc st oj.dst oj.op = some (c,st2) ∧ st1 = st2.put oi.dst v ∧ disjL (alookD ml j) (touchX oc st oj.dst oj.op) = true := by
              cases hd : oi.dst with
              | none => rw [hd] at he htc;exact ⟨st1,he,rfl,htc⟩
              | some k =>
                rw [hd] at he htS htc
                have hk : .tmp k ∉ oj.op.operands := fun hk => a1 k hd (List.mem_append_left _ (List.mem_filterMap.2 ⟨.tmp k,by simpa using hk,rfl⟩))
                obtain ⟨st2,e1,e2⟩ := effX_putS hs2 hk (a2 k hd) htS he
                exact ⟨st2,e1,e2,by rw [touchX_put hk] at htc;exact htc⟩
            obtain ⟨st2,he2,rfl,htc2⟩ := key
            have hcalm := effX_calm he2 (disj_sub hsub htc2)
            refine .inr ⟨hgd,heff,c,st2,he2,hc,htc2,ih _ _ (hcl.set hj) hfree' (.inl ⟨SB,hs1.imp (opsStab_calm hcalm nodst) (want_calm hcalm a3),hs2,fun k ok hk hki hun he => hs3 k ok hk hki (hun' k hun) he⟩) hr' (yields_calm hcalm hs1 a3 hy) ?_⟩
            rw [hswap]
            exact hn
        · have h2 := hne j oj hoj hji hjun heff
          rw [needs_not hcl (getD_both hiun) _ j oj hoj hall] at h2;cases h2
def okFirst2 (md : Region.Mode) (ops : Array Oper) (ocd : List Nat) (mo : Nat → Bool) (ml : List (Nat × List Nat)) (listed : Array Bool) (k : Nat) : Bool :=
  (Region.ready md ops listed).contains k && Region.free md ops listed k && (match ops[k]? with | some o => !effB2 ocd mo o | none => false) &&
  ((List.range ops.size).all fun j => j == k || listed.getD j true || (match ops[j]? with | some oj => !effB2 ocd mo oj | none => true) || waitsB md ops ops.size j k || (match alook ml k with | some SB => subL SB (alookD ml j) | none => false))
def preB2 (md : Region.Mode) (ops : Array Oper) (ocd : List Nat) (mo : Nat → Bool) (ml : List (Nat × List Nat)) : List Nat → Array Bool → Option (Array Bool)
  | [],listed => some listed
  | k :: r,listed => if okFirst2 md ops ocd mo ml listed k then preB2 md ops ocd mo ml r (listed.setIfInBounds k true) else none
def getM (ops : Array Oper) (ml : List (Nat × List Nat)) : List Nat → List (Option (List Nat) × Oper)
  | [] => []
  | i :: r => match ops[i]? with | some o => (alook ml i,o) :: getM ops ml r | none => getM ops ml r
theorem ocAt_none (hocd : ocd = oc.map (·.1)) {o : Oper} (h : effB2 ocd mo o = false) : ocAt oc o.dst o.op = none := by
  unfold effB2 at h
  rw [Bool.or_eq_false_iff] at h
  cases hq : ocAt oc o.dst o.op with
  | none => rfl
  | some q =>
    obtain ⟨h1,_,h3⟩ := ocAt_spec hq
    rw [h1] at h
    have h2 := h.1
    simp only at h2
    have : memL ocd q.2.1 = true := by
      rw [memL_iff,hocd];exact List.mem_map.2 ⟨_,alook_mem h3,rfl⟩
    rw [this] at h2;cases h2
theorem lopX_pure {m : Option (List Nat)} {o : Oper} {st : LSt} {K : LSt → Prop} (hq : ocAt oc o.dst o.op = none) (hp : pureB o = true) (hmd : bmode st.mode o = true) (h : lopX P oc m o st K) : ∃ x,LVal P (evL st.env) st.box st.arr o.op x ∧ (∀ SB,m = some SB → stOk SB st o.op x = true) ∧ K (st.put o.dst x) := by
  unfold lopX at h
  rw [hq] at h
  simp only at h
  cases hx : pv P (evL st.env) st.box st.arr o.op with
  | some x => rw [hx] at h;exact ⟨x,.inl hx,fun SB e => by have := h.1;rw [e] at this;exact this,h.2⟩
  | none =>
    rw [hx,pvK_none] at h
    cases hc : callOf o.op with
    | some fa =>
      obtain ⟨f,args⟩ := fa
      rw [hc] at h
      obtain ⟨r,hr,hK⟩ := h
      exact ⟨strip r,.inr (.inl ⟨f,args,r,hc,hr,rfl⟩),fun SB e => by have := hK.1;rw [e] at this;exact this,hK.2⟩
    | none =>
      rw [hc,callK_none] at h
      obtain ⟨dst,op,type,pos,after,guard⟩ := o
      simp only at h
      cases he : effE P st dst op with
      | none => rw [he] at h;exact h.elim
      | some cs =>
        rw [he] at h
        unfold effE at he
        split at he
        · cases hp
        · cases hp
        · cases hp
        · rename_i d t n parts
          have hm : st.mode d = false := by simpa [bmode] using hmd
          cases hek : elemL P t with
          | none => rw [hek] at he;cases he
          | some ek =>
            obtain ⟨e,k⟩ := ek
            rw [hek] at he
            simp only [buildSliceE] at he
            cases hcs : partsL k 0 (parts.toList.map fun q => (q.1,evL st.env q.2)) with
            | none => rw [hcs] at he;cases he
            | some xs =>
              rw [hcs] at he
              cases he
              obtain ⟨⟨h1,h2,h3,h4⟩,hm2,hK⟩ := h
              rw [hm,cond_false,cond_false] at hK
              rw [List.length_map] at h2
              have hbv : buildV P (evL st.env) (.buildSlice t n parts) = some ((0 < k ∧ parts.toList.length = n ∧ n * k ≤ 16777216 ∧ zeroOk P e = true),.sl n xs .no) := by simp only [buildV,hek,hcs,Option.map_some]
              refine ⟨.sl n xs .no,.inr (.inr ⟨_,hbv,h1,h2,h3,h4⟩),fun SB e => ?_,hK⟩
              rw [e] at hm2
              simp only [mOk,effOk,hm,cond_false] at hm2
              unfold stOk
              rw [hm2];rfl
        · cases hp
        · cases hp
        · cases hp
        · cases hp
        · cases hp
        · cases hp
        · cases he
theorem mx2L_pre (hocd : ocd = oc.map (·.1)) {Q T : LSt → Prop} {g : Nat} {listed' : Array Bool} : ∀ (pre : List Nat) (listed : Array Bool) (st : LSt),preB2 md ops ocd mo ml pre listed = some listed' → Closed md ops listed → st.mode = mo →
    (∀ st',T st' → st'.mode = mo → mx2L oc ocd mo ml md ops Q g listed' st') → lopsX P N oc ops (getM ops ml pre) T st → mx2L oc ocd mo ml md ops Q (pre.length + g) listed st
  | [],listed,st,hB,hcl,hmo,hT,h => by
    cases hB
    rw [List.length_nil,Nat.zero_add]
    exact hT st h hmo
  | k :: r,listed,st,hB,hcl,hmo,hT,h => by
    unfold preB2 at hB
    split at hB
    · rename_i hok
      unfold okFirst2 at hok
      simp only [Bool.and_eq_true] at hok
      obtain ⟨⟨⟨hr,hf⟩,hef⟩,hcase⟩ := hok
      have hr' : k ∈ Region.ready md ops listed := by simpa using hr
      obtain ⟨_,o,ho,_⟩ := mem_ready.1 hr'
      rw [ho] at hef
      simp only [Bool.not_eq_true'] at hef
      have hq := ocAt_none (oc := oc) hocd hef
      have hef2 : pureB o = true ∧ bmode mo o = true := by
        unfold effB2 at hef
        rw [Bool.or_eq_false_iff] at hef
        have := hef.2
        simpa using this
      have hget : getM ops ml (k :: r) = (alook ml k,o) :: getM ops ml r := by simp only [getM,ho]
      rw [hget] at h
      obtain ⟨_,h⟩ := h
      have hst : ∃ v,YieldsL P ops o v st ∧ (∀ SB,alook ml k = some SB → (opsStab SB st o.op = true ∨ wantL ops o st.env = some false) ∧ stab SB v = true) ∧ lopsX P N oc ops (getM ops ml r) T (st.put o.dst v) := by
        cases hg : guardL ops o st.env with
        | some wb =>
          obtain ⟨want,b⟩ := wb
          rw [hg] at h
          have hw := guardL_want hg
          cases hc : wantB b want
          · rw [hc] at hw;exact ⟨.lit undef,.inr ⟨hw,rfl⟩,fun SB e => ⟨.inr hw,rfl⟩,h.2 hc⟩
          · rw [hc] at hw
            obtain ⟨x,h1,hs,h2⟩ := lopX_pure hq hef2.1 (by rw [hmo];exact hef2.2) (h.1 hc)
            refine ⟨x,.inl ⟨hw,h1⟩,fun SB e => ?_,h2⟩
            have := hs SB e
            unfold stOk at this
            rw [Bool.and_eq_true] at this
            exact ⟨.inl this.1,this.2⟩
        | none => rw [hg] at h;exact h.elim
      rw [List.all_eq_true] at hcase
      have hcj : ∀ j oj,ops[j]? = some oj → j ≠ k → listed.getD j true = false → effB2 ocd mo oj = true → waitsB md ops ops.size j k = true ∨ ∃ SB,alook ml k = some SB ∧ subL SB (alookD ml j) = true := fun j oj hj hjk hun he => by
        have h1 := hcase j (List.mem_range.2 (Array.getElem?_eq_some_iff.1 hj).1)
        simp only [hj,hun,he,Bool.or_false,Bool.not_true,Bool.or_eq_true,beq_iff_eq] at h1
        rcases h1 with (h1 | h1) | h1
        · exact absurd h1 hjk
        · exact .inl h1
        · cases hs : alook ml k with
          | none => rw [hs] at h1;cases h1
          | some SB => rw [hs] at h1;exact .inr ⟨SB,rfl,h1⟩
      rw [List.length_cons,show r.length + 1 + g = (r.length + g) + 1 by omega]
      obtain ⟨v,hy,hs,hK⟩ := hst
      have := mx2L_pre hocd r (listed.setIfInBounds k true) (st.put o.dst v) hB (hcl.set hr') (by rw [put_mode];exact hmo) hT hK
      refine mx2L_first ho _ listed st hcl (Region.free_spec ho hf) ?_ hr' hy this
      cases hm : alook ml k with
      | some SB =>
        refine .inl ⟨SB,(hs SB hm).1,(hs SB hm).2,fun j oj hj hjk hun he => ?_⟩
        rcases hcj j oj hj hjk hun he with h | ⟨SB',e1,e2⟩
        · exact .inl h
        · rw [hm] at e1;cases e1;exact .inr e2
      | none =>
        refine .inr fun j oj hj hjk hun he => ?_
        rcases hcj j oj hj hjk hun he with h | ⟨SB',e1,e2⟩
        · exact h
        · rw [hm] at e1;cases e1
    · cases hB
def ordB2 (md : Region.Mode) (ops : Array Oper) (ocd : List Nat) (mo : Nat → Bool) (ml : List (Nat × List Nat)) : Nat → Array Bool → Bool
  | 0,listed => (Region.ready md ops listed).isEmpty
  | f + 1,listed => (Region.ready md ops listed).all fun i => (match ops[i]? with | some o => o.guard.isNone && ((callOf o.op).isSome == (match o.dst with | some d => memL ocd d | none => false)) | none => false) && ordB2 md ops ocd mo ml f (listed.setIfInBounds i true)
theorem lopX_all {m : Option (List Nat)} {o : Oper} {st : LSt} {α : Type} {ps : List α} {F : α → LSt → Prop} (hc : (callOf o.op).isNone = true ∨ (ocAt oc o.dst o.op).isSome = true) (hne : ps ≠ []) (h : ∀ p ∈ ps,lopX P oc m o st (F p)) : lopX P oc m o st (fun st' => ∀ p ∈ ps,F p st') := by
  obtain ⟨p0,hp0⟩ := List.exists_mem_of_ne_nil _ hne
  unfold lopX at h ⊢
  cases hq : ocAt oc o.dst o.op with
  | some q =>
    rw [hq] at h
    exact ⟨(h p0 hp0).1,fun p hp => (h p hp).2⟩
  | none =>
    have hcn : callOf o.op = none := by
      rcases hc with h | h
      · simpa using h
      · rw [hq] at h;cases h
    rw [hq] at h
    simp only at h ⊢
    cases hx : pv P (evL st.env) st.box st.arr o.op with
    | some x => rw [hx] at h;exact ⟨(h p0 hp0).1,fun p hp => (h p hp).2⟩
    | none =>
      rw [hx,hcn] at h
      rw [hcn]
      cases hs : effE P st o.dst o.op with
      | none =>
        have := h p0 hp0
        rw [hs] at this
        exact this
      | some cs =>
        obtain ⟨c,st'⟩ := cs
        rw [hs] at h
        have h0 := h p0 hp0
        exact ⟨h0.1,h0.2.1,fun p hp => (h p hp).2.2⟩
theorem effX_mode {st st' : LSt} {dst : Option Tmp} {op : Op} {c : Prop} (h : effX oc st dst op = some (c,st')) : st'.mode = st.mode := by
  refine (effX_calm (SB := []) h ?_).mode
  generalize touchX oc st dst op = l
  induction l with
  | nil => rfl
  | cons a l ih => simp [disjL,memL,ih]
theorem ocAt_some (hocd : ocd = oc.map (·.1)) {o : Oper} {d : Nat} (h1 : o.dst = some d) (h2 : memL ocd d = true) (h3 : (callOf o.op).isSome = true) : (ocAt oc o.dst o.op).isSome = true := by
  rw [h1]
  unfold ocAt
  simp only
  have h4 : ∃ C,alook oc d = some C := by
    rw [hocd,memL_iff] at h2
    clear hocd
    induction oc with
    | nil => simp at h2
    | cons x r ih =>
      obtain ⟨c,C⟩ := x
      unfold alook
      by_cases hc : d = c
      · exact ⟨C,if_pos hc⟩
      · rw [if_neg hc]
        rw [List.map_cons,List.mem_cons] at h2
        exact ih (h2.resolve_left hc)
  obtain ⟨C,hC⟩ := h4
  rw [hC]
  simpa using h3
theorem disj_oc {SB a : List Nat} {d : Nat} (h : (disjL SB a && disjL SB [d]) = true) : disjL SB (a ++ [d]) = true := by
  rw [Bool.and_eq_true] at h
  induction a with
  | nil => exact h.2
  | cons x a ih =>
    have h1 := h.1
    simp only [disjL,Bool.and_eq_true,List.cons_append] at h1 ⊢
    exact ⟨h1.1,ih ⟨h1.2,h.2⟩⟩
theorem disj_nil : ∀ l : List Nat,disjL [] l = true
  | [] => rfl
  | a :: l => by simp [disjL,memL,disj_nil l]
theorem mOk_look {i : Nat} {f : List Nat → Bool} (h : mOk (alook ml i) f = true) (h0 : f [] = true) : f (alookD ml i) = true := by
  unfold alookD
  cases hm : alook ml i with
  | none => exact h0
  | some l => rw [hm] at h;exact h
theorem effOk_eff {st : LSt} {o : Oper} (hef : (pureB o && bmode st.mode o) = false) (SB : List Nat) : effOk SB st o.dst o.op = disjL SB (touch st o.dst o.op) := by
  obtain ⟨dst,op,type,pos,after,guard⟩ := o
  cases op <;> try rfl
  case buildSlice t n ps =>
    cases dst with
    | none => rfl
    | some d =>
      simp only [pureB,bmode,Bool.true_and,Bool.not_eq_false'] at hef
      simp only [effOk,hef,cond_true,touch]
theorem mx2L_orders (hocd : ocd = oc.map (·.1)) {Q : LSt → Prop} : ∀ (f : Nat) (listed : Array Bool) (st : LSt),ordB2 md ops ocd mo ml f listed = true → st.mode = mo → (∀ p ∈ orders md ops f listed,lopsX P N oc ops (getM ops ml p) Q st) → mx2L oc ocd mo ml md ops Q f listed st
  | 0,listed,st,hB,_,h => by
    refine ⟨by simpa [ordB2] using hB,?_⟩
    exact h [] (by simp [orders])
  | f + 1,listed,st,hB,hmo,h => by
    refine ⟨fun h0 => h [] (by simp [orders,h0]),fun i hi => ?_⟩
    unfold ordB2 at hB
    rw [List.all_eq_true] at hB
    have hBi := hB i hi
    rw [Bool.and_eq_true] at hBi
    obtain ⟨_,o,ho,_⟩ := mem_ready.1 hi
    rw [ho] at hBi
    simp only [Bool.and_eq_true] at hBi
    obtain ⟨⟨hgd,hcn⟩,hB'⟩ := hBi
    have hgd' : o.guard = none := by simpa using hgd
    have hne0 : (Region.ready md ops listed).isEmpty = false := by
      rw [List.isEmpty_eq_false_iff];exact List.ne_nil_of_mem hi
    have hps : ∀ p ∈ orders md ops f (listed.setIfInBounds i true),lopsX P N oc ops ((alook ml i,o) :: getM ops ml p) Q st := fun p hp => by
      have := h (i :: p) (by
        unfold orders
        rw [hne0]
        simp only [Bool.false_eq_true,if_false]
        exact List.mem_flatMap.2 ⟨i,hi,List.mem_map.2 ⟨p,hp,rfl⟩⟩)
      have hget : getM ops ml (i :: p) = (alook ml i,o) :: getM ops ml p := by simp only [getM,ho]
      rwa [hget] at this
    have hgl : guardL ops o st.env = some (true,true) := by simp [guardL,hgd']
    have hw : wantL ops o st.env = some true := by simp [wantL,hgd']
    rw [beq_iff_eq] at hcn
    have hcc : (callOf o.op).isNone = true ∨ (ocAt oc o.dst o.op).isSome = true := by
      cases hco : callOf o.op with
      | none => exact .inl rfl
      | some fa =>
        rw [hco] at hcn
        cases hd : o.dst with
        | none => rw [hd] at hcn;cases hcn
        | some d =>
          rw [hd] at hcn
          exact .inr (by have := ocAt_some (oc := oc) hocd hd hcn.symm (by rw [hco];rfl);rwa [hd] at this)
    have hlop : lopX P oc (alook ml i) o st (fun st' => ∀ p ∈ orders md ops f (listed.setIfInBounds i true),lopsX P N oc ops (getM ops ml p) Q st') :=
      lopX_all hcc (orders_ne _ _) fun p hp => by
        obtain ⟨_,h2⟩ := hps p hp
        rw [hgl] at h2
        exact h2.1 rfl
    unfold mx2Op
    simp only [ho]
    cases he : effB2 ocd mo o
    · have hq := ocAt_none (oc := oc) hocd he
      have hef2 : pureB o = true ∧ bmode mo o = true := by
        unfold effB2 at he
        rw [Bool.or_eq_false_iff] at he
        simpa using he.2
      obtain ⟨x,h1,_,h2⟩ := lopX_pure hq hef2.1 (by rw [hmo];exact hef2.2) hlop
      exact .inl ⟨x,.inl ⟨hw,h1⟩,mx2L_orders hocd f _ _ hB' (by rw [put_mode];exact hmo) h2⟩
    · unfold lopX at hlop
      cases hq : ocAt oc o.dst o.op with
      | some q =>
        rw [hq] at hlop
        obtain ⟨⟨hok,htc⟩,hK⟩ := hlop
        have he2 : effX oc st o.dst o.op = some (ocOk st q.1.1 q.1.2 q.2.2,ocNext st q.2.1 q.2.2) := by unfold effX;rw [hq]
        refine .inr ⟨hgd',rfl,_,_,he2,hok,?_,mx2L_orders hocd f _ _ hB' (by rw [effX_mode he2];exact hmo) hK⟩
        unfold touchX
        rw [hq]
        exact disj_oc (mOk_look (f := fun SB => disjL SB (firsts q.2.2.ha ++ seconds q.2.2.ba ++ q.2.2.kp) && disjL SB [q.2.1]) htc (by simp [disj_nil]))
      | none =>
        rw [hq] at hlop
        have hcn' : callOf o.op = none := by
          rcases hcc with h | h
          · simpa using h
          · rw [hq] at h;cases h
        simp only at hlop
        cases hx : pv P (evL st.env) st.box st.arr o.op with
        | some x =>
          rw [hx] at hlop
          exact .inl ⟨x,.inl ⟨hw,.inl hx⟩,mx2L_orders hocd f _ _ hB' (by rw [put_mode];exact hmo) hlop.2⟩
        | none =>
          rw [hx,hcn'] at hlop
          cases hs : effE P st o.dst o.op with
          | none => rw [hs] at hlop;exact hlop.elim
          | some cs =>
            obtain ⟨c,st'⟩ := cs
            rw [hs] at hlop
            obtain ⟨hc,htc,hK⟩ := hlop
            have he2 : effX oc st o.dst o.op = some (c,st') := by unfold effX;rw [hq];exact hs
            refine .inr ⟨hgd',rfl,c,st',he2,hc,?_,mx2L_orders hocd f _ _ hB' (by rw [effX_mode he2];exact hmo) hK⟩
            unfold touchX
            rw [hq]
            have hef : (pureB o && bmode mo o) = false := by
              unfold effB2 at he
              rw [hcn'] at hcn
              rw [← hcn] at he
              simp only [Option.isSome_none,Bool.false_or,Bool.not_eq_true'] at he
              exact he
            have key : ∀ SB,effOk SB st o.dst o.op = disjL SB (touch st o.dst o.op) := effOk_eff (by rw [hmo];exact hef)
            simp only [key] at htc
            exact mOk_look (f := fun SB => disjL SB (touch st o.dst o.op)) htc (disj_nil _)
def mixB2 (md : Region.Mode) (ops : Array Oper) (ocd : List Nat) (mo : Nat → Bool) (ml : List (Nat × List Nat)) (pre : List Nat) (sufs : List (List Nat)) : Bool :=
  match preB2 md ops ocd mo ml pre (Array.replicate ops.size false) with
    | some listed => decide (pre.length ≤ ops.size) && ordB2 md ops ocd mo ml (ops.size - pre.length) listed && (orders md ops (ops.size - pre.length) listed == sufs)
    | none => false
theorem LW_mix2 {Q : Exit → LSt → Prop} {st : LSt} {id : Nat} {l : List Oper} (oc : List (Nat × OCD P)) (ocd : List Nat) (mo : Nat → Bool) (ml : List (Nat × List Nat)) (pre : List Nat) (sufs : List (List Nat)) (hocd : ocd = oc.map (·.1)) (hm : P.follows .mixedOrders = true) (hB : mixB2 .any l.toArray ocd mo ml pre sufs = true) (hd : l.all (fun o => dstOk N o.dst) = true) (hmo : st.mode = mo)
    (h : ∀ K : LSt → Prop,(∀ st',Q .normal st' → K st') → lopsX P N oc l.toArray (getM l.toArray ml pre) (fun st' => AllL (fun p => lopsX P N oc l.toArray (getM l.toArray ml p) K st') sufs) st) : LW P N w0 S0 (.region id l.toArray true) Q st := by
  intro a w hr
  unfold mixB2 at hB
  split at hB
  · rename_i listed hpre
    simp only [Bool.and_eq_true,decide_eq_true_eq,beq_iff_eq] at hB
    obtain ⟨⟨hle,hord⟩,hsu⟩ := hB
    have hp2 : ∀ (i : Nat) (o : Oper),l.toArray[i]? = some o → dstOk N o.dst = true := fun i o ho => by
      have : o ∈ l := by rw [List.getElem?_toArray] at ho;exact List.mem_of_getElem? ho
      exact List.all_eq_true.1 hd o this
    refine wp_region_any hm (wpAny_of_mx2L (oc := oc) (ocd := ocd) (mo := mo) (ml := ml) hp2 (Q := fun st' => Q .normal st') (fun st' a' w' h1 h2 => ⟨st',h1,h2⟩) _ _ _ _ _ hr.drew ?_)
    have hc0 : Closed .any l.toArray (Array.replicate l.toArray.size false) := fun j oj _ hl => by rw [getD_replicate_false] at hl;cases hl
    have := mx2L_pre (md := .any) (mo := mo) (ml := ml) (oc := oc) (P := P) (N := N) hocd (Q := fun st' => Q .normal st') (g := l.toArray.size - pre.length) pre _ st hpre hc0 hmo (fun st' hT hm' => mx2L_orders hocd _ _ _ hord hm' (by rw [hsu];exact hT)) (lopsX_mono (fun _ h => AllL.spec h) _ _ (h _ fun _ h => h))
    rwa [show pre.length + (l.toArray.size - pre.length) = l.toArray.size by omega] at this
  · cases hB
end
end Go.Proofs.YtbffcndmcaeamaaDoor
end
section
set_option linter.unusedSimpArgs false
set_option linter.unusedVariables false
namespace Go.Proofs.YtbffcndmcaeamaaDoor
open Go.RowKit

def pub1 (P : Program) (al : List (Nat × List LV)) : LV → LV
  | .lit v => .lit v
  | .sl n cs t => .sl n cs t
  | .ref cs => .ref cs
  | .fn f cs => .fn f cs
  | .ptr d o => .ptr d o
  | .bsl q n e => match alook al q with | some cs => if cs.length = n * sizeL P e then .sl n cs .no else .any | none => .bsl q n e
  | .aptr q o => match alook al q with | some cs => .any | none => .aptr q o
  | .mp q kvs => .mp q kvs
  | _ => .any
def pub2 (P : Program) (al : List (Nat × List LV)) : LV → LV
  | .agg cs => .agg (cs.map (pub1 P al))
  | x => pub1 P al x
def pub (P : Program) (al : List (Nat × List LV)) : LV → LV
  | .tup cs => .tup (cs.map (pub2 P al))
  | x => pub2 P al x
def LSt.pub (P : Program) (st : LSt) (al : List (Nat × List LV)) : LSt :=
  ⟨fun k => Go.Proofs.YtbffcndmcaeamaaDoor.pub P al (st.env k),fun k => (st.box k).map fun l => l.map (pub1 P al),st.row,fun k => match alook al k with | some _ => none | none => st.arr k,st.mode,st.val⟩
section
variable {P : Program} {N : Nat} {w0 : World} {S0 : Ent} {Q : Exit → LSt → Prop} {st : LSt}
structure PubM (P : Program) (al : List (Nat × List LV)) (w : World) (g g' : Gh) : Prop where
  own : g'.own = g.own
  cell : ∀ b i v,g.S b i → w.cell? ⟨b,i,none⟩ = some v → g'.S b i ∧ w.cell? ⟨b,i,none⟩ = some v
  row : ∀ q e n v,g'.row q = some (e,n) → (∀ e',g.row q = some (e',n) → OwnAt P w g q e' n v) → OwnAt P w g' q e n v
  arr : ∀ d cs,alook al d = some cs → ArrAt P w g d cs
  S : ∀ d cs b,alook al d = some cs → g.own d = some b → ∀ i,g'.S b i
theorem PubM.mono {al : List (Nat × List LV)} {w : World} {g g' : Gh} (m : PubM P al w g g') : Mono P w g w g' :=
  ⟨m.cell,fun d b h => by rw [m.own];exact h,m.row,fun _ _ cur _ _ hc => ⟨cur,hc,rfl⟩,fun _ _ _ _ _ hc => hc⟩
theorem Rep.pub1 {al : List (Nat × List LV)} {w : World} {g g' : Gh} {x : LV} {v : Value} (h : Rep P w g x v) (m : PubM P al w g g') : Rep P w g' (Go.Proofs.YtbffcndmcaeamaaDoor.pub1 P al x) v := by
  cases x with
  | lit u => rw [h.inv_lit];exact .lit _ _
  | sl n cs t => exact h.mono m.mono
  | ref cs => exact h.mono m.mono
  | fn f cs => exact h.mono m.mono
  | ptr d o => exact h.mono m.mono
  | bsl q n e =>
    simp only [Go.Proofs.YtbffcndmcaeamaaDoor.pub1]
    cases hq : alook al q with
    | none => exact h.mono m.mono
    | some cs =>
      simp only
      split
      · rename_i hl
        rcases h.inv_bsl with ⟨rfl,rfl⟩ | ⟨b,cap,cur,h1,rfl,h3,h4,h5,h6,h7⟩
        · have : cs = [] := List.eq_nil_of_length_eq_zero (by rw [hl];simp)
          subst this
          exact .empty _ _ _
        · have hv := (arr_vals (m.arr q cs hq) h1 h3 hl h4 h6).mono (g' := g') (fun b i v hs hc => m.cell b i v hs hc)
          have hc := hv.cells (b := b) (off := 0) fun i u hu => ⟨m.S q cs b hq h1 _,by
            rw [Nat.zero_add,cell_of_heap h3]
            rw [List.getElem?_take] at hu
            split at hu
            · simpa using hu
            · cases hu⟩
          obtain ⟨val,hc1,hc2⟩ := hc
          exact .sl _ _ _ _ _ _ (by omega) val hc1 hc2
      · exact .any _ _
  | aptr q o =>
    simp only [Go.Proofs.YtbffcndmcaeamaaDoor.pub1]
    cases hq : alook al q with
    | none => exact h.mono m.mono
    | some cs => exact .any _ _
  | mp q kvs => exact h.mono m.mono
  | _ => exact .any _ _
theorem Rep.pub2 {al : List (Nat × List LV)} {w : World} {g g' : Gh} {x : LV} {v : Value} (h : Rep P w g x v) (m : PubM P al w g g') : Rep P w g' (Go.Proofs.YtbffcndmcaeamaaDoor.pub2 P al x) v := by
  cases x with
  | agg cs =>
    obtain ⟨vs,rfl,hl,h⟩ := h.inv_agg
    refine .agg _ _ _ (by simpa using hl) fun i c u hc hu => ?_
    obtain ⟨c',hc',rfl⟩ := map_get hc
    exact (h i c' u hc' hu).pub1 m
  | lit u => exact h.pub1 m
  | sl n cs t => exact h.pub1 m
  | ref cs => exact h.pub1 m
  | fn f cs => exact h.pub1 m
  | ptr d' off => exact h.pub1 m
  | aptr d' off => exact h.pub1 m
  | bsl d' n e => exact h.pub1 m
  | mp d' kvs => exact h.pub1 m
  | _ => exact .any _ _
theorem Rep.pub {al : List (Nat × List LV)} {w : World} {g g' : Gh} {x : LV} {v : Value} (h : Rep P w g x v) (m : PubM P al w g g') : Rep P w g' (Go.Proofs.YtbffcndmcaeamaaDoor.pub P al x) v := by
  cases x with
  | tup cs =>
    obtain ⟨vs,rfl,hl,h⟩ := h.inv_tup
    refine .tup _ _ _ (by simpa using hl) fun i c u hc hu => ?_
    obtain ⟨c',hc',rfl⟩ := map_get hc
    exact (h i c' u hc' hu).pub2 m
  | agg cs => exact h.pub2 m
  | lit u => exact h.pub1 m
  | sl n cs t => exact h.pub1 m
  | ref cs => exact h.pub1 m
  | fn f cs => exact h.pub1 m
  | ptr d' off => exact h.pub1 m
  | aptr d' off => exact h.pub1 m
  | bsl d' n e => exact h.pub1 m
  | mp d' kvs => exact h.pub1 m
  | _ => exact .any _ _
theorem LCalls.toO {f : FuncId} {args : List LV} {r : LV} (h : LCalls P f args r) (ha : args.map strip = args := by rfl) : OCalls P f args ⟨[],[],[]⟩ (strip r) ⟨[],[],[]⟩ := by
  refine ⟨h.enters,fun w S own vs hgl hwf hown hinj hI hl hr => ?_⟩
  refine Calls.mono (h.calls w S vs (hgl w (.refl _ _ _)) hwf hl fun i c u hc hu => ?_) ?_
  · rw [← ha,List.getElem?_map,Option.map_eq_some_iff] at hc
    obtain ⟨c',hc',rfl⟩ := hc
    exact (hr i c' u hc' hu).strip rfl
  · rintro e w' ⟨v,S',rfl,hrep,hg,hS,hwf'⟩
    have hsz : w.heap.size ≤ w'.heap.size := hg.lt
    refine ⟨v,S',fun _ => none,rfl,hrep.strip rfl,⟨rfl,(fun d cs hd => by cases hd),(fun d cs hd => by cases hd),(fun d cs hd => by cases hd),(fun d cs hd => by cases hd)⟩,.of hg,fun b i hb _ => hS b i hb,hwf',(fun d b hd => by cases hd),(fun d d' b hd => by cases hd),fun b i u hs hc => ⟨(hS b i (hwf b i hs)).2 hs,by rw [hg.cellAt (hwf b i hs)];exact hc⟩⟩
theorem OCalls.toL {f : FuncId} {args : List LV} {r : LV} {R : Own} (h : OCalls P f args ⟨[],[],[]⟩ r R) : LCalls P f args (strip (Go.Proofs.YtbffcndmcaeamaaDoor.pub P R.ar r)) := by
  refine ⟨h.enters,fun w S vs hgl hwf hl hr => ?_⟩
  have hno : ∀ b,¬ HOf (fun _ => none) b := fun b ⟨d,hd⟩ => by cases hd
  refine Calls.mono (h.calls w S (fun _ => none) vs (fun w' hb => hgl.on (hb.below hno)) hwf (fun d b hd => by cases hd) (fun d d' b hd => by cases hd) ⟨rfl,(fun d cs hd => by cases hd),(fun d cs hd => by cases hd),(fun d cs hd => by cases hd),(fun d cs hd => by cases hd)⟩ hl hr) ?_
  rintro e w' ⟨v,S',own',rfl,hb⟩
  let g : Gh := ⟨S',own',alook R.ro⟩
  let S2 : Nat → Nat → Prop := fun b i => S' b i ∨ ∃ d cs,alook R.ar d = some cs ∧ own' d = some b
  let g' : Gh := ⟨S2,own',fun _ => none⟩
  have m : PubM P R.ar w' g g' := ⟨rfl,fun b i v hs hc => ⟨.inl hs,hc⟩,(fun q e n v he => by cases he),hb.holds.arr,fun d cs b hd hb i => .inr ⟨d,cs,hd,hb⟩⟩
  refine ⟨v,S2,rfl,(hb.rep.pub m).strip rfl,hb.below.below hno,fun b i hlt => ⟨fun hs => hs.elim (hb.s b i hlt (hno b)).1 fun ⟨d,cs,hd,ho⟩ => ?_,fun hs => .inl ((hb.s b i hlt (hno b)).2 hs)⟩,fun b i hs => hs.elim (hb.wf b i) fun ⟨d,cs,hd,ho⟩ => (hb.own d b ho).2⟩
  rcases (hb.own d b ho).1 with h | h
  · omega
  · exact absurd h (hno b)
end
section
variable {α : Type} {enc : α → List LV} {k : Nat}
end
set_option maxRecDepth 100000 in
theorem LSx : type_of% (And.intro @lopsX_nil <| And.intro @lopsX_c <| And.intro @gopX_tt <| And.intro @gopX_ff <| And.intro @gopX_tf <| And.intro @gopX_ft <| And.intro @wopX_some <| And.intro @wopX_none <| And.intro @popX_some <| And.intro @popX_none <| And.intro @copX_none <| And.intro @eopX_some <| And.intro @mOk_none <| And.intro @mOk_some <| And.intro @Option.bind_none.{0,0} <| And.intro @Bool.or_true <| And.intro @Bool.true_or <| And.intro @Bool.and_false <| And.intro @Bool.false_and <| And.intro @Bool.false_or <| And.intro @Bool.or_false <| And.intro @memP.eq_1 <| And.intro @memA.eq_1 <| And.intro @ocOk.eq_1 <| And.intro @renA.eq_1 <| And.intro @renA.eq_2 <| And.intro @renA.eq_3 <| And.intro @isNilL.eq_1 <| And.intro @isNilL.eq_2 <| And.intro @isNilL.eq_3 <| And.intro @isNilL.eq_4 <| And.intro @isNilL.eq_5 <| And.intro @isNilL.eq_6 <| And.intro @isNilL.eq_7 <| And.intro @isNilL.eq_8 <| And.intro @isNilL.eq_9 <| And.intro @isNilL.eq_10 <| And.intro @isNilL.eq_11 <| And.intro @isNilT.eq_1 <| And.intro @isNilT.eq_2 <| And.intro @isNilT.eq_3 <| And.intro @isNilT.eq_4 <| And.intro @ocNext.eq_1 <| And.intro @ocAt.eq_1 <| And.intro @ocAt.eq_2 <| And.intro @alook.eq_1 <| And.intro @alook.eq_2 <| And.intro @bkL.eq_1 <| And.intro @bkL.eq_2 <| And.intro @allO.eq_1 <| And.intro @allO.eq_2 <| And.intro @memL.eq_1 <| And.intro @memL.eq_2 <| And.intro @firsts.eq_1 <| And.intro @firsts.eq_2 <| And.intro @seconds.eq_1 <| And.intro @seconds.eq_2 <| And.intro @ren1.eq_1 <| And.intro @ren1.eq_2 <| And.intro @ren1.eq_3 <| And.intro @ren1.eq_4 <| And.intro @ren1.eq_5 <| And.intro @ren1.eq_6 <| And.intro @ren1.eq_7 <| And.intro @ren1.eq_8 <| And.intro @ren1.eq_9 <| And.intro @ren1.eq_10 <| And.intro @ren2.eq_1 <| And.intro @ren2.eq_2 <| And.intro @ren.eq_1 <| And.intro @ren.eq_2 <| And.intro @fgF1.eq_1 <| And.intro @fgF1.eq_2 <| And.intro @fgF1.eq_3 <| And.intro @fgF1.eq_4 <| And.intro @fgF1.eq_5 <| And.intro @fgF1.eq_6 <| And.intro @fgF1.eq_7 <| And.intro @fgF1.eq_8 <| And.intro @fgF1.eq_9 <| And.intro @fgF1.eq_10 <| And.intro @fgF1.eq_11 <| And.intro @fgF2.eq_1 <| And.intro @fgF2.eq_2 <| And.intro @fgF.eq_1 <| And.intro @fgF.eq_2 <| And.intro @LSt.ocall.eq_1 <| And.intro @disjL.eq_1 <| And.intro @disjL.eq_2 <| And.intro @stab1.eq_1 <| And.intro @stab1.eq_2 <| And.intro @stab1.eq_3 <| And.intro @stab1.eq_4 <| And.intro @stab1.eq_5 <| And.intro @stab1.eq_6 <| And.intro @stab1.eq_7 <| And.intro @stab1.eq_8 <| And.intro @stab1.eq_9 <| And.intro @stab1.eq_10 <| And.intro @stab1.eq_11 <| And.intro @stab1.eq_12 <| And.intro @stab2.eq_1 <| And.intro @stab2.eq_2 <| And.intro @stab.eq_1 <| And.intro @stab.eq_2 <| And.intro @bxStab.eq_1 <| And.intro @bxStab.eq_2 <| And.intro @bxStab.eq_3 <| And.intro @bxStab.eq_4 <| And.intro @opsStab.eq_1 <| And.intro @idsOf.eq_1 <| And.intro @idsOf.eq_2 <| And.intro @idsOf.eq_3 <| And.intro @idsOf.eq_4 <| And.intro @idsOf.eq_5 <| And.intro @idsOf.eq_6 <| And.intro @idsOf.eq_7 <| And.intro @touch.eq_1 <| And.intro @touch.eq_2 <| And.intro @touch.eq_3 <| And.intro @touch.eq_4 <| And.intro @touch.eq_5 <| And.intro @touch.eq_6 <| And.intro @touch.eq_7 <| And.intro @effOk.eq_1 <| And.intro @effOk.eq_2 <| And.intro @stOk.eq_1 <| And.intro @noM.eq_1 <| And.intro @noM.eq_2 <| And.intro @getM.eq_1 <| And.intro @getM.eq_2 <| And.intro @entryO.eq_1 <| And.intro @subL.eq_1 <| And.intro @AllL.eq_1 <| And.intro @AllL.eq_2 <| And.intro @AllL.eq_3 <| And.intro @pub1.eq_1 <| And.intro @pub1.eq_2 <| And.intro @pub1.eq_3 <| And.intro @pub1.eq_4 <| And.intro @pub1.eq_5 <| And.intro @pub1.eq_6 <| And.intro @pub1.eq_7 <| And.intro @pub1.eq_8 <| And.intro @pub1.eq_9 <| And.intro @pub2.eq_1 <| And.intro @pub2.eq_2 <| And.intro @pub.eq_1 <| And.intro @pub.eq_2 <| @LSt.pub.eq_1) := And.intro @lopsX_nil <| And.intro @lopsX_c <| And.intro @gopX_tt <| And.intro @gopX_ff <| And.intro @gopX_tf <| And.intro @gopX_ft <| And.intro @wopX_some <| And.intro @wopX_none <| And.intro @popX_some <| And.intro @popX_none <| And.intro @copX_none <| And.intro @eopX_some <| And.intro @mOk_none <| And.intro @mOk_some <| And.intro @Option.bind_none.{0,0} <| And.intro @Bool.or_true <| And.intro @Bool.true_or <| And.intro @Bool.and_false <| And.intro @Bool.false_and <| And.intro @Bool.false_or <| And.intro @Bool.or_false <| And.intro @memP.eq_1 <| And.intro @memA.eq_1 <| And.intro @ocOk.eq_1 <| And.intro @renA.eq_1 <| And.intro @renA.eq_2 <| And.intro @renA.eq_3 <| And.intro @isNilL.eq_1 <| And.intro @isNilL.eq_2 <| And.intro @isNilL.eq_3 <| And.intro @isNilL.eq_4 <| And.intro @isNilL.eq_5 <| And.intro @isNilL.eq_6 <| And.intro @isNilL.eq_7 <| And.intro @isNilL.eq_8 <| And.intro @isNilL.eq_9 <| And.intro @isNilL.eq_10 <| And.intro @isNilL.eq_11 <| And.intro @isNilT.eq_1 <| And.intro @isNilT.eq_2 <| And.intro @isNilT.eq_3 <| And.intro @isNilT.eq_4 <| And.intro @ocNext.eq_1 <| And.intro @ocAt.eq_1 <| And.intro @ocAt.eq_2 <| And.intro @alook.eq_1 <| And.intro @alook.eq_2 <| And.intro @bkL.eq_1 <| And.intro @bkL.eq_2 <| And.intro @allO.eq_1 <| And.intro @allO.eq_2 <| And.intro @memL.eq_1 <| And.intro @memL.eq_2 <| And.intro @firsts.eq_1 <| And.intro @firsts.eq_2 <| And.intro @seconds.eq_1 <| And.intro @seconds.eq_2 <| And.intro @ren1.eq_1 <| And.intro @ren1.eq_2 <| And.intro @ren1.eq_3 <| And.intro @ren1.eq_4 <| And.intro @ren1.eq_5 <| And.intro @ren1.eq_6 <| And.intro @ren1.eq_7 <| And.intro @ren1.eq_8 <| And.intro @ren1.eq_9 <| And.intro @ren1.eq_10 <| And.intro @ren2.eq_1 <| And.intro @ren2.eq_2 <| And.intro @ren.eq_1 <| And.intro @ren.eq_2 <| And.intro @fgF1.eq_1 <| And.intro @fgF1.eq_2 <| And.intro @fgF1.eq_3 <| And.intro @fgF1.eq_4 <| And.intro @fgF1.eq_5 <| And.intro @fgF1.eq_6 <| And.intro @fgF1.eq_7 <| And.intro @fgF1.eq_8 <| And.intro @fgF1.eq_9 <| And.intro @fgF1.eq_10 <| And.intro @fgF1.eq_11 <| And.intro @fgF2.eq_1 <| And.intro @fgF2.eq_2 <| And.intro @fgF.eq_1 <| And.intro @fgF.eq_2 <| And.intro @LSt.ocall.eq_1 <| And.intro @disjL.eq_1 <| And.intro @disjL.eq_2 <| And.intro @stab1.eq_1 <| And.intro @stab1.eq_2 <| And.intro @stab1.eq_3 <| And.intro @stab1.eq_4 <| And.intro @stab1.eq_5 <| And.intro @stab1.eq_6 <| And.intro @stab1.eq_7 <| And.intro @stab1.eq_8 <| And.intro @stab1.eq_9 <| And.intro @stab1.eq_10 <| And.intro @stab1.eq_11 <| And.intro @stab1.eq_12 <| And.intro @stab2.eq_1 <| And.intro @stab2.eq_2 <| And.intro @stab.eq_1 <| And.intro @stab.eq_2 <| And.intro @bxStab.eq_1 <| And.intro @bxStab.eq_2 <| And.intro @bxStab.eq_3 <| And.intro @bxStab.eq_4 <| And.intro @opsStab.eq_1 <| And.intro @idsOf.eq_1 <| And.intro @idsOf.eq_2 <| And.intro @idsOf.eq_3 <| And.intro @idsOf.eq_4 <| And.intro @idsOf.eq_5 <| And.intro @idsOf.eq_6 <| And.intro @idsOf.eq_7 <| And.intro @touch.eq_1 <| And.intro @touch.eq_2 <| And.intro @touch.eq_3 <| And.intro @touch.eq_4 <| And.intro @touch.eq_5 <| And.intro @touch.eq_6 <| And.intro @touch.eq_7 <| And.intro @effOk.eq_1 <| And.intro @effOk.eq_2 <| And.intro @stOk.eq_1 <| And.intro @noM.eq_1 <| And.intro @noM.eq_2 <| And.intro @getM.eq_1 <| And.intro @getM.eq_2 <| And.intro @entryO.eq_1 <| And.intro @subL.eq_1 <| And.intro @AllL.eq_1 <| And.intro @AllL.eq_2 <| And.intro @AllL.eq_3 <| And.intro @pub1.eq_1 <| And.intro @pub1.eq_2 <| And.intro @pub1.eq_3 <| And.intro @pub1.eq_4 <| And.intro @pub1.eq_5 <| And.intro @pub1.eq_6 <| And.intro @pub1.eq_7 <| And.intro @pub1.eq_8 <| And.intro @pub1.eq_9 <| And.intro @pub2.eq_1 <| And.intro @pub2.eq_2 <| And.intro @pub.eq_1 <| And.intro @pub.eq_2 <| @LSt.pub.eq_1
theorem Yg0 {p q : Prop} (hq : q) (h : q → p := by intro hq;((repeat (first | refine LW_seq ?_ | ((first | (refine LW_region ?_;intro K hK;simp only [LSx,Op.operands,Call.operands,LSa,LSy,LSd,forall_const,implies_true,false_implies,undef,reduceCtorEq,reduceIte,Nat.reduceAdd,Nat.reduceMul,Nat.reduceSub,Nat.reduceLT,Nat.reduceLeDiff,Nat.reduceEqDiff,Int.reduceAdd,Int.reduceSub,Int.reduceMul,Int.reduceLT,Int.reduceLE,Int.reduceEq,Int.reduceNeg,Int.reduceToNat,Nat.reduceBEq];refine hK _ ?_;clear hK K) | refine LW_label ?_ | refine LW_skip ?_);try simp only [thenL,inBlockL,jumpsL,reduceIte,Nat.reduceEqDiff]) | refine LW_block ?_)));exact hq) : p := h hq
theorem Yg1 {A : Prop} {p q : Prop} (a : A) (hq : q) (h : A → q → p := by intro a hq;((repeat (first | refine LW_seq ?_ | ((first | (refine LW_region ?_;intro K hK;simp only [LSx,Op.operands,Call.operands,LSa,LSy,LSd,forall_const,implies_true,false_implies,undef,reduceCtorEq,reduceIte,Nat.reduceAdd,Nat.reduceMul,Nat.reduceSub,Nat.reduceLT,Nat.reduceLeDiff,Nat.reduceEqDiff,Int.reduceAdd,Int.reduceSub,Int.reduceMul,Int.reduceLT,Int.reduceLE,Int.reduceEq,Int.reduceNeg,Int.reduceToNat,Nat.reduceBEq,a];refine hK _ ?_;clear hK K) | refine LW_label ?_ | refine LW_skip ?_);try simp only [thenL,inBlockL,jumpsL,reduceIte,Nat.reduceEqDiff]) | refine LW_block ?_)));exact hq) : p := h a hq
theorem Yo0 {p q : Prop} (hq : q) (h : q → p := by intro hq;((first | (refine LW_seq ?_;refine LW_region ?_;intro K hK;simp only [LSx,Op.operands,Call.operands,LSa,LSy,LSd,forall_const,implies_true,false_implies,undef,reduceCtorEq,reduceIte,Nat.reduceAdd,Nat.reduceMul,Nat.reduceSub,Nat.reduceLT,Nat.reduceLeDiff,Nat.reduceEqDiff,Int.reduceAdd,Int.reduceSub,Int.reduceMul,Int.reduceLT,Int.reduceLE,Int.reduceEq,Int.reduceNeg,Int.reduceToNat,Nat.reduceBEq];refine hK _ ?_;clear hK K;try simp only [thenL,inBlockL,jumpsL,reduceIte,Nat.reduceEqDiff]) | (refine LW_seq ?_;refine LW_label ?_;try simp only [thenL,inBlockL,jumpsL,reduceIte,Nat.reduceEqDiff]) | (refine LW_region ?_;intro K hK;simp only [LSx,Op.operands,Call.operands,LSa,LSy,LSd,forall_const,implies_true,false_implies,undef,reduceCtorEq,reduceIte,Nat.reduceAdd,Nat.reduceMul,Nat.reduceSub,Nat.reduceLT,Nat.reduceLeDiff,Nat.reduceEqDiff,Int.reduceAdd,Int.reduceSub,Int.reduceMul,Int.reduceLT,Int.reduceLE,Int.reduceEq,Int.reduceNeg,Int.reduceToNat,Nat.reduceBEq];refine hK _ ?_;clear hK K;try simp only [thenL,inBlockL,jumpsL,reduceIte,Nat.reduceEqDiff]) | (refine LW_label ?_;try simp only [thenL,inBlockL,jumpsL,reduceIte,Nat.reduceEqDiff]) | (refine LW_skip ?_;try simp only [thenL,inBlockL,jumpsL,reduceIte,Nat.reduceEqDiff]) | (refine LW_block ?_)));exact hq) : p := h hq
theorem Yo1 {A : Prop} {p q : Prop} (a : A) (hq : q) (h : A → q → p := by intro a hq;((first | (refine LW_seq ?_;refine LW_region ?_;intro K hK;simp only [LSx,Op.operands,Call.operands,LSa,LSy,LSd,forall_const,implies_true,false_implies,undef,reduceCtorEq,reduceIte,Nat.reduceAdd,Nat.reduceMul,Nat.reduceSub,Nat.reduceLT,Nat.reduceLeDiff,Nat.reduceEqDiff,Int.reduceAdd,Int.reduceSub,Int.reduceMul,Int.reduceLT,Int.reduceLE,Int.reduceEq,Int.reduceNeg,Int.reduceToNat,Nat.reduceBEq,a];refine hK _ ?_;clear hK K;try simp only [thenL,inBlockL,jumpsL,reduceIte,Nat.reduceEqDiff]) | (refine LW_seq ?_;refine LW_label ?_;try simp only [thenL,inBlockL,jumpsL,reduceIte,Nat.reduceEqDiff]) | (refine LW_region ?_;intro K hK;simp only [LSx,Op.operands,Call.operands,LSa,LSy,LSd,forall_const,implies_true,false_implies,undef,reduceCtorEq,reduceIte,Nat.reduceAdd,Nat.reduceMul,Nat.reduceSub,Nat.reduceLT,Nat.reduceLeDiff,Nat.reduceEqDiff,Int.reduceAdd,Int.reduceSub,Int.reduceMul,Int.reduceLT,Int.reduceLE,Int.reduceEq,Int.reduceNeg,Int.reduceToNat,Nat.reduceBEq,a];refine hK _ ?_;clear hK K;try simp only [thenL,inBlockL,jumpsL,reduceIte,Nat.reduceEqDiff]) | (refine LW_label ?_;try simp only [thenL,inBlockL,jumpsL,reduceIte,Nat.reduceEqDiff]) | (refine LW_skip ?_;try simp only [thenL,inBlockL,jumpsL,reduceIte,Nat.reduceEqDiff]) | (refine LW_block ?_)));exact hq) : p := h a hq
theorem Yl0 {p q : Prop} (hq : q) (h : q → p := by intro hq;((repeat (first | (refine LW_seq ?_;refine LW_region ?_;intro K hK;simp only [LSx,Op.operands,Call.operands,LSa,LSy,LSd,forall_const,implies_true,false_implies,undef,reduceCtorEq,reduceIte,Nat.reduceAdd,Nat.reduceMul,Nat.reduceSub,Nat.reduceLT,Nat.reduceLeDiff,Nat.reduceEqDiff,Int.reduceAdd,Int.reduceSub,Int.reduceMul,Int.reduceLT,Int.reduceLE,Int.reduceEq,Int.reduceNeg,Int.reduceToNat,Nat.reduceBEq];refine hK _ ?_;clear hK K;try simp only [thenL,inBlockL,jumpsL,reduceIte,Nat.reduceEqDiff]) | (refine LW_region ?_;intro K hK;simp only [LSx,Op.operands,Call.operands,LSa,LSy,LSd,forall_const,implies_true,false_implies,undef,reduceCtorEq,reduceIte,Nat.reduceAdd,Nat.reduceMul,Nat.reduceSub,Nat.reduceLT,Nat.reduceLeDiff,Nat.reduceEqDiff,Int.reduceAdd,Int.reduceSub,Int.reduceMul,Int.reduceLT,Int.reduceLE,Int.reduceEq,Int.reduceNeg,Int.reduceToNat,Nat.reduceBEq];refine hK _ ?_;clear hK K;try simp only [thenL,inBlockL,jumpsL,reduceIte,Nat.reduceEqDiff]) | (refine LW_skip ?_;simp only [thenL,inBlockL,jumpsL,reduceIte,Nat.reduceEqDiff])));refine LW_seq ?_;refine LW_label ?_;simp only [thenL,inBlockL,jumpsL,reduceIte,Nat.reduceEqDiff]);exact hq) : p := h hq
theorem Yt0 {p q : Prop} (hq : q) (h : q → p := by intro hq;(refine LW_if ?_;intro X Y hX hY;simp only [LSx,Op.operands,Call.operands,LSa,LSy,LSd,forall_const,implies_true,false_implies,undef,reduceCtorEq,reduceIte,Nat.reduceAdd,Nat.reduceMul,Nat.reduceSub,Nat.reduceLT,Nat.reduceLeDiff,Nat.reduceEqDiff,Int.reduceAdd,Int.reduceSub,Int.reduceMul,Int.reduceLT,Int.reduceLE,Int.reduceEq,Int.reduceNeg,Int.reduceToNat,Nat.reduceBEq];refine hX ?_;clear hX hY X Y;try simp only [thenL,inBlockL,jumpsL,reduceIte,Nat.reduceEqDiff]);exact hq) : p := h hq
theorem Yt1 {A : Prop} {p q : Prop} (a : A) (hq : q) (h : A → q → p := by intro a hq;(refine LW_if ?_;intro X Y hX hY;simp only [LSx,Op.operands,Call.operands,LSa,LSy,LSd,forall_const,implies_true,false_implies,undef,reduceCtorEq,reduceIte,Nat.reduceAdd,Nat.reduceMul,Nat.reduceSub,Nat.reduceLT,Nat.reduceLeDiff,Nat.reduceEqDiff,Int.reduceAdd,Int.reduceSub,Int.reduceMul,Int.reduceLT,Int.reduceLE,Int.reduceEq,Int.reduceNeg,Int.reduceToNat,Nat.reduceBEq,a];refine hX ?_;clear hX hY X Y;try simp only [thenL,inBlockL,jumpsL,reduceIte,Nat.reduceEqDiff]);exact hq) : p := h a hq
theorem Yf0 {p q : Prop} (hq : q) (h : q → p := by intro hq;(refine LW_if ?_;intro X Y hX hY;simp only [LSx,Op.operands,Call.operands,LSa,LSy,LSd,forall_const,implies_true,false_implies,undef,reduceCtorEq,reduceIte,Nat.reduceAdd,Nat.reduceMul,Nat.reduceSub,Nat.reduceLT,Nat.reduceLeDiff,Nat.reduceEqDiff,Int.reduceAdd,Int.reduceSub,Int.reduceMul,Int.reduceLT,Int.reduceLE,Int.reduceEq,Int.reduceNeg,Int.reduceToNat,Nat.reduceBEq];refine hY ?_;clear hX hY X Y;(try simp only [thenL,inBlockL,jumpsL,reduceIte,Nat.reduceEqDiff]);(try (refine LW_skip ?_;simp only [thenL,inBlockL,jumpsL,reduceIte,Nat.reduceEqDiff])));exact hq) : p := h hq
theorem Yf1 {A : Prop} {p q : Prop} (a : A) (hq : q) (h : A → q → p := by intro a hq;(refine LW_if ?_;intro X Y hX hY;simp only [LSx,Op.operands,Call.operands,LSa,LSy,LSd,forall_const,implies_true,false_implies,undef,reduceCtorEq,reduceIte,Nat.reduceAdd,Nat.reduceMul,Nat.reduceSub,Nat.reduceLT,Nat.reduceLeDiff,Nat.reduceEqDiff,Int.reduceAdd,Int.reduceSub,Int.reduceMul,Int.reduceLT,Int.reduceLE,Int.reduceEq,Int.reduceNeg,Int.reduceToNat,Nat.reduceBEq,a];refine hY ?_;clear hX hY X Y;(try simp only [thenL,inBlockL,jumpsL,reduceIte,Nat.reduceEqDiff]);(try (refine LW_skip ?_;simp only [thenL,inBlockL,jumpsL,reduceIte,Nat.reduceEqDiff])));exact hq) : p := h a hq
theorem Yr0 {p q : Prop} (hq : q) (h : q → p := by intro hq;((repeat (first | refine LW_seq ?_ | (refine LW_skip ?_;simp only [thenL,inBlockL,jumpsL,reduceIte,Nat.reduceEqDiff]) | refine LW_block ?_));refine LW_region ?_;intro K hK;simp only [LSx,Op.operands,Call.operands,LSa,LSy,LSd,forall_const,implies_true,false_implies,undef,reduceCtorEq,reduceIte,Nat.reduceAdd,Nat.reduceMul,Nat.reduceSub,Nat.reduceLT,Nat.reduceLeDiff,Nat.reduceEqDiff,Int.reduceAdd,Int.reduceSub,Int.reduceMul,Int.reduceLT,Int.reduceLE,Int.reduceEq,Int.reduceNeg,Int.reduceToNat,Nat.reduceBEq];revert hK;revert K);exact hq) : p := h hq
theorem Yr1 {A : Prop} {p q : Prop} (a : A) (hq : q) (h : A → q → p := by intro a hq;((repeat (first | refine LW_seq ?_ | (refine LW_skip ?_;simp only [thenL,inBlockL,jumpsL,reduceIte,Nat.reduceEqDiff]) | refine LW_block ?_));refine LW_region ?_;intro K hK;simp only [LSx,Op.operands,Call.operands,LSa,LSy,LSd,forall_const,implies_true,false_implies,undef,reduceCtorEq,reduceIte,Nat.reduceAdd,Nat.reduceMul,Nat.reduceSub,Nat.reduceLT,Nat.reduceLeDiff,Nat.reduceEqDiff,Int.reduceAdd,Int.reduceSub,Int.reduceMul,Int.reduceLT,Int.reduceLE,Int.reduceEq,Int.reduceNeg,Int.reduceToNat,Nat.reduceBEq,a];revert hK;revert K);exact hq) : p := h a hq
theorem Yn1 {A : Prop} {p q : Prop} (a : A) (hq : q) (h : A → q → p := by intro a hq;((repeat (first | refine LW_seq ?_ | (refine LW_skip ?_;simp only [thenL,inBlockL,jumpsL,reduceIte,Nat.reduceEqDiff]) | refine LW_block ?_));refine LW_any (by kernel_rfl) (by kernel_rfl) (by kernel_rfl) (by first | exact rfl | (rw [hmd];exact rfl)) ?_;intro K hK;simp only [LSx,Op.operands,Call.operands,LSa,LSy,LSd,forall_const,implies_true,false_implies,undef,reduceCtorEq,reduceIte,Nat.reduceAdd,Nat.reduceMul,Nat.reduceSub,Nat.reduceLT,Nat.reduceLeDiff,Nat.reduceEqDiff,Int.reduceAdd,Int.reduceSub,Int.reduceMul,Int.reduceLT,Int.reduceLE,Int.reduceEq,Int.reduceNeg,Int.reduceToNat,Nat.reduceBEq,a];revert hK;revert K);exact hq) : p := h a hq
theorem Yc0 {C : Prop} {p q : Prop} (c : C) (hq : q) (h : C → q → p := by intro c hq;refine cop_intro ?ha c ?_;(case ha => (simp only [LSx,Op.operands,Call.operands,LSa,LSy,LSd,forall_const,implies_true,false_implies,undef,reduceCtorEq,reduceIte,Nat.reduceAdd,Nat.reduceMul,Nat.reduceSub,Nat.reduceLT,Nat.reduceLeDiff,Nat.reduceEqDiff,Int.reduceAdd,Int.reduceSub,Int.reduceMul,Int.reduceLT,Int.reduceLE,Int.reduceEq,Int.reduceNeg,Int.reduceToNat,Nat.reduceBEq]) <;> rfl);simp only [LSx,Op.operands,Call.operands,LSa,LSy,LSd,forall_const,implies_true,false_implies,undef,reduceCtorEq,reduceIte,Nat.reduceAdd,Nat.reduceMul,Nat.reduceSub,Nat.reduceLT,Nat.reduceLeDiff,Nat.reduceEqDiff,Int.reduceAdd,Int.reduceSub,Int.reduceMul,Int.reduceLT,Int.reduceLE,Int.reduceEq,Int.reduceNeg,Int.reduceToNat,Nat.reduceBEq] <;> exact hq) : p := h c hq
theorem Yc1 {C : Prop} {A : Prop} {p q : Prop} (c : C) (a : A) (hq : q) (h : C → A → q → p := by intro c a hq;refine cop_intro ?ha c ?_;(case ha => (simp only [LSx,Op.operands,Call.operands,LSa,LSy,LSd,forall_const,implies_true,false_implies,undef,reduceCtorEq,reduceIte,Nat.reduceAdd,Nat.reduceMul,Nat.reduceSub,Nat.reduceLT,Nat.reduceLeDiff,Nat.reduceEqDiff,Int.reduceAdd,Int.reduceSub,Int.reduceMul,Int.reduceLT,Int.reduceLE,Int.reduceEq,Int.reduceNeg,Int.reduceToNat,Nat.reduceBEq,a]) <;> rfl);simp only [LSx,Op.operands,Call.operands,LSa,LSy,LSd,forall_const,implies_true,false_implies,undef,reduceCtorEq,reduceIte,Nat.reduceAdd,Nat.reduceMul,Nat.reduceSub,Nat.reduceLT,Nat.reduceLeDiff,Nat.reduceEqDiff,Int.reduceAdd,Int.reduceSub,Int.reduceMul,Int.reduceLT,Int.reduceLE,Int.reduceEq,Int.reduceNeg,Int.reduceToNat,Nat.reduceBEq,a] <;> exact hq) : p := h c a hq
theorem Yx1 {C : Prop} {A : Prop} {p q : Prop} (c : C) (a : A) (hq : q) (h : C → A → q → p := by intro c a hq;refine copX_intro ?ha c rfl ?_;(case ha => (simp only [LSx,Op.operands,Call.operands,LSa,LSy,LSd,forall_const,implies_true,false_implies,undef,reduceCtorEq,reduceIte,Nat.reduceAdd,Nat.reduceMul,Nat.reduceSub,Nat.reduceLT,Nat.reduceLeDiff,Nat.reduceEqDiff,Int.reduceAdd,Int.reduceSub,Int.reduceMul,Int.reduceLT,Int.reduceLE,Int.reduceEq,Int.reduceNeg,Int.reduceToNat,Nat.reduceBEq,a]) <;> rfl);simp only [LSx,Op.operands,Call.operands,LSa,LSy,LSd,forall_const,implies_true,false_implies,undef,reduceCtorEq,reduceIte,Nat.reduceAdd,Nat.reduceMul,Nat.reduceSub,Nat.reduceLT,Nat.reduceLeDiff,Nat.reduceEqDiff,Int.reduceAdd,Int.reduceSub,Int.reduceMul,Int.reduceLT,Int.reduceLE,Int.reduceEq,Int.reduceNeg,Int.reduceToNat,Nat.reduceBEq,a] <;> exact hq) : p := h c a hq
theorem Ye0 {p q : Prop} (hq : q) (h : q → p := by intro hq;refine LW_ret ?_;simp only [thenL,jumpsL,inBlockL,twoL,bodyQ,LV.lit.injEq,LV.tup.injEq,LV.agg.injEq,LV.sl.injEq,List.cons.injEq,Value.int.injEq,Value.bool.injEq,Value.string.injEq,ByteArray.mk.injEq,exists_eq_left',exists_eq_left,exists_eq_right,LSx,Op.operands,Call.operands,LSa,LSy,LSd,forall_const,implies_true,false_implies,undef,reduceCtorEq,reduceIte,Nat.reduceAdd,Nat.reduceMul,Nat.reduceSub,Nat.reduceLT,Nat.reduceLeDiff,Nat.reduceEqDiff,Int.reduceAdd,Int.reduceSub,Int.reduceMul,Int.reduceLT,Int.reduceLE,Int.reduceEq,Int.reduceNeg,Int.reduceToNat,Nat.reduceBEq] <;> exact hq) (h2 : q = q := by first | (with_reducible exact @rfl _ True) | exact rfl) : p := h hq
theorem Ye1 {A : Prop} {p q : Prop} (a : A) (hq : q) (h : A → q → p := by intro a hq;refine LW_ret ?_;simp only [thenL,jumpsL,inBlockL,twoL,bodyQ,LV.lit.injEq,LV.tup.injEq,LV.agg.injEq,LV.sl.injEq,List.cons.injEq,Value.int.injEq,Value.bool.injEq,Value.string.injEq,ByteArray.mk.injEq,exists_eq_left',exists_eq_left,exists_eq_right,LSx,Op.operands,Call.operands,LSa,LSy,LSd,forall_const,implies_true,false_implies,undef,reduceCtorEq,reduceIte,Nat.reduceAdd,Nat.reduceMul,Nat.reduceSub,Nat.reduceLT,Nat.reduceLeDiff,Nat.reduceEqDiff,Int.reduceAdd,Int.reduceSub,Int.reduceMul,Int.reduceLT,Int.reduceLE,Int.reduceEq,Int.reduceNeg,Int.reduceToNat,Nat.reduceBEq,a] <;> exact hq) (h2 : q = q := by first | (with_reducible exact @rfl _ True) | exact rfl) : p := h a hq
theorem Yq0 {p : Prop} (h : p := by first | exact rfl | assumption | (simp only [LSx,Op.operands,Call.operands,LSa,LSy,LSd,forall_const,implies_true,false_implies,undef,reduceCtorEq,reduceIte,Nat.reduceAdd,Nat.reduceMul,Nat.reduceSub,Nat.reduceLT,Nat.reduceLeDiff,Nat.reduceEqDiff,Int.reduceAdd,Int.reduceSub,Int.reduceMul,Int.reduceLT,Int.reduceLE,Int.reduceEq,Int.reduceNeg,Int.reduceToNat,Nat.reduceBEq];done) | (simp only [LSx,Op.operands,Call.operands,LSa,LSy,LSd,forall_const,implies_true,false_implies,undef,reduceCtorEq,reduceIte,Nat.reduceAdd,Nat.reduceMul,Nat.reduceSub,Nat.reduceLT,Nat.reduceLeDiff,Nat.reduceEqDiff,Int.reduceAdd,Int.reduceSub,Int.reduceMul,Int.reduceLT,Int.reduceLE,Int.reduceEq,Int.reduceNeg,Int.reduceToNat,Nat.reduceBEq];exact rfl)) : p := h 
theorem Yq1 {A : Prop} {p : Prop} (a : A) (h : A → p := by intro a;first | exact rfl | assumption | (simp only [LSx,Op.operands,Call.operands,LSa,LSy,LSd,forall_const,implies_true,false_implies,undef,reduceCtorEq,reduceIte,Nat.reduceAdd,Nat.reduceMul,Nat.reduceSub,Nat.reduceLT,Nat.reduceLeDiff,Nat.reduceEqDiff,Int.reduceAdd,Int.reduceSub,Int.reduceMul,Int.reduceLT,Int.reduceLE,Int.reduceEq,Int.reduceNeg,Int.reduceToNat,Nat.reduceBEq,a];done) | (simp only [LSx,Op.operands,Call.operands,LSa,LSy,LSd,forall_const,implies_true,false_implies,undef,reduceCtorEq,reduceIte,Nat.reduceAdd,Nat.reduceMul,Nat.reduceSub,Nat.reduceLT,Nat.reduceLeDiff,Nat.reduceEqDiff,Int.reduceAdd,Int.reduceSub,Int.reduceMul,Int.reduceLT,Int.reduceLE,Int.reduceEq,Int.reduceNeg,Int.reduceToNat,Nat.reduceBEq,a];exact rfl)) : p := h a 
set_option maxRecDepth 100000 in
theorem LZ : type_of% (And.intro LSx LY) := And.intro LSx LY
end Go.Proofs.YtbffcndmcaeamaaDoor
end
section
set_option linter.unusedSimpArgs false
set_option linter.unusedVariables false
namespace Go.Proofs.YtbffcndmcaeamaaDoor
open Go.RowKit

section
variable {P : Program} {N : Nat} {w0 : World} {S0 : Ent} {Q : Exit → LSt → Prop} {st : LSt}
theorem LW_nilBox {c : Code} (d o q : Nat) (e : TypeId) {cs : List LV} (hb : (st.forget q).box d = some cs) (ho : cs[o]? = some (.sl 0 [] .nil)) (h : LW P N w0 S0 c Q (((st.forget q).setRow q e 0).setBox d (cs.set o (.sl 0 [] (.row q))))) : LW P N w0 S0 c Q st := by
  intro a w hr
  refine h a w ?_
  obtain ⟨g,hg⟩ := hr
  let g' : Gh := ⟨g.S,g.own,upd g.row q (some (e,0))⟩
  have m : MonoX P q w g w g' := ⟨fun b i v hs hc => ⟨hs,hc⟩,fun _ _ _ h => h,fun q' e' n v hq' he ho => by
    simp only [g',upd_ne _ _ hq'] at he;exact ho e' he,fun _ _ cur _ _ _ hc => ⟨cur,hc,rfl⟩,fun _ _ _ _ _ _ hc => hc⟩
  have hR : RelG P N w0 S0 g' ((st.forget q).setRow q e 0) a w := by
    refine hg.change m (.refl _ _ _) (fun _ _ _ _ => Iff.rfl) hg.wf hg.own hg.inj (fun _ _ _ _ hn => ⟨rfl,hn⟩) rfl (fun _ _ _ h => h) (fun cs hc => ?_) ?_ (fun k' hk' => ?_) (fun k' cs hk' hc => ?_) (fun cs hc => ?_)
    · simp [LSt.setRow,LSt.forget] at hc
    · simp only [g',hg.row]
      funext j
      simp only [LSt.setRow,LSt.forget,upd]
      split <;> rfl
    · simp only [LSt.setRow,LSt.forget,upd_ne _ _ hk']
    · simpa only [LSt.setRow,LSt.forget,upd_ne _ _ hk'] using hc
    · simp [LSt.setRow,LSt.forget,upd] at hc
  have hb2 : ((st.forget q).setRow q e 0).box d = some cs := hb
  refine ⟨g',⟨hR.defers,hR.size,hR.env,hR.below,hR.s0,hR.wf,hR.own,hR.inj,fun e es he => ?_,hR.row,fun e es he => ?_,hR.arr,fun e es he => ?_,hR.ex,hR.keep⟩⟩
  · simp only [LSt.setBox,upd] at he
    split at he
    · rename_i hd
      cases he
      subst hd
      obtain ⟨b,vals,T,k1,k2,k3,k4,k5⟩ := hR.box _ _ hb2
      refine ⟨b,vals,T,k1,k2,by rw [k3,List.length_set],fun i y u hy hu => ?_,k5⟩
      by_cases hio : i = o
      · subst hio
        have hi := (List.getElem?_eq_some_iff.1 ho).1
        rw [List.getElem?_set_self hi] at hy
        cases hy
        have hv := (k4 i _ u ho hu).inv_nil.1
        rw [hv]
        exact .row _ _ _ _ _ (.empty _ _ _) fun _ _ => .inl ⟨rfl,rfl⟩
      · rw [List.getElem?_set_ne (Ne.symm hio)] at hy
        exact k4 i y u hy hu
    · exact hR.box _ _ he
  · simp only [LSt.setBox,upd] at he
    split at he
    · rename_i hd;subst hd;exact hR.dis _ _ hb2
    · exact hR.dis _ _ he
  · refine ⟨(hR.dia e es he).1,?_⟩
    have h2 := (hR.dia e es he).2
    simp only [LSt.setBox,upd]
    split
    · rename_i hd;subst hd;rw [hb2] at h2;cases h2
    · exact h2
theorem LW_rowBox {c : Code} (d o q : Nat) {n : Nat} {e : TypeId} {cs bs : List LV} (hdq : d ≠ q) (hb : st.box d = some bs) (ho : bs[o]? = some (.bsl q n e)) (ha : st.arr q = some cs) (hl : cs.length = n * sizeL P e) (hs0 : 0 < sizeL P e)
    (h : LW P N w0 S0 c Q (((st.forget q).setRow q e n).setBox d ((bs.map (forget1 q)).set o (.sl n cs (.row q))))) : LW P N w0 S0 c Q st := by
  intro a w hr
  refine h a w ?_
  obtain ⟨g,hg⟩ := hr
  let S' : Nat → Nat → Prop := fun b i => g.S b i ∨ (g.own q = some b ∧ i < n * sizeL P e)
  let g' : Gh := ⟨S',g.own,upd g.row q (some (e,n))⟩
  have m : MonoX P q w g w g' := ⟨fun b i v hs hc => ⟨.inl hs,hc⟩,fun _ _ _ h => h,fun q' e' n v hq' he ho => by
    simp only [g',upd_ne _ _ hq'] at he
    rcases ho e' he with h0 | ⟨b,cap,cur,h1,h2,h3,h4,h5,h6,h7⟩
    · exact .inl h0
    · refine .inr ⟨b,cap,cur,h1,h2,h3,h4,h5,h6,fun i hi hs => ?_⟩
      rcases hs with hs | hs
      · exact h7 i hi hs
      · exact hq' (hg.inj _ _ b h1 hs.1),fun _ _ cur _ _ _ hc => ⟨cur,hc,rfl⟩,fun _ _ _ _ _ _ hc => hc⟩
  have hR : RelG P N w0 S0 g' ((st.forget q).setRow q e n) a w := by
    refine hg.change m (.refl _ _ _) (fun b i hb hH => ⟨fun hs => hs.elim id fun ho => ?_,.inl⟩) (fun b i hs => hs.elim (hg.wf b i) fun ho => (hg.own q b ho.1).2) hg.own hg.inj (fun k' b hk' hb hn => ⟨rfl,fun i hs => hs.elim (hn i) fun ho => hk' (hg.inj _ _ b hb ho.1)⟩) rfl (fun _ _ _ h => h) (fun cs hc => ?_) ?_ (fun k' hk' => ?_) (fun k' cs hk' hc => ?_) (fun cs hc => ?_)
    · exact absurd ((hg.own q b ho.1).1.elim (fun h => by omega) hH) id
    · simp [LSt.setRow,LSt.forget] at hc
    · simp only [g',hg.row]
      funext j
      simp only [LSt.setRow,LSt.forget,upd]
      split <;> rfl
    · simp only [LSt.setRow,LSt.forget,upd_ne _ _ hk']
    · simpa only [LSt.setRow,LSt.forget,upd_ne _ _ hk'] using hc
    · simp [LSt.setRow,LSt.forget,upd] at hc
  have hb2 : ((st.forget q).setRow q e n).box d = some (bs.map (forget1 q)) := by
    simp only [LSt.setRow,LSt.forget,if_neg hdq,hb,Option.map_some]
  have hval : ∀ u,Rep P w g (.bsl q n e) u → Rep P w g' (.sl n cs (.row q)) u := by
    intro u hu
    rcases hu.inv_bsl with ⟨hx,hn0⟩ | ⟨b,cap,cur,h1,hx,h3,h4,h5,h6,h7⟩
    · have : cs = [] := List.eq_nil_of_length_eq_zero (by rw [hl,hn0];simp)
      rw [hx,this,hn0]
      exact .row _ _ _ _ _ (.empty _ _ _) fun e' he' => .inl ⟨rfl,rfl⟩
    · have hpos : 0 < n * sizeL P e := Nat.mul_pos h7 hs0
      have hnS : ∀ i,¬ g.S b i := by
        rcases hg.arr q cs ha with hc0 | ⟨b',vals,T,k1,k2,k3,k4,k5⟩
        · rw [hc0,List.length_nil] at hl;omega
        · rw [h1] at k1;cases k1;exact k5
      have hvals := (arr_vals (hg.arr q cs ha) h1 h3 hl h4 h6).mono (g' := g') (fun b i v hs hc => ⟨.inl hs,hc⟩)
      have hc := hvals.cells (b := b) (off := 0) fun i u hu => by
        rw [List.getElem?_take] at hu
        split at hu
        · rename_i hi
          refine ⟨.inr ⟨h1,by omega⟩,?_⟩
          rw [Nat.zero_add,cell_of_heap h3]
          simpa using hu
        · cases hu
      obtain ⟨val,hc1,hc2⟩ := hc
      rw [hx]
      refine .row _ _ _ _ _ (.sl _ _ _ _ _ _ (by omega) val hc1 hc2) fun e' he' => ?_
      simp only [g',upd_eq,Option.some.injEq,Prod.mk.injEq] at he'
      rw [← he'.1]
      exact .inr ⟨b,cap,cur,h1,rfl,h3,h4,h5,h6,fun i hi hs => hs.elim (hnS i) fun h => by omega⟩
  refine ⟨g',⟨hR.defers,hR.size,hR.env,hR.below,hR.s0,hR.wf,hR.own,hR.inj,fun f es he => ?_,hR.row,fun f es he => ?_,hR.arr,fun f es he => ?_,hR.ex,hR.keep⟩⟩
  · simp only [LSt.setBox,upd] at he
    split at he
    · rename_i hd
      cases he
      subst hd
      obtain ⟨b,vals,T,k1,k2,k3,k4,k5⟩ := hR.box _ _ hb2
      obtain ⟨b',vals',T',j1,j2,j3,j4,j5⟩ := hg.box _ _ hb
      have hbb : b' = b := by rw [show g'.own f = g.own f from rfl,j1] at k1;exact Option.some.inj k1
      subst hbb
      have hvv : vals' = vals := by rw [j2] at k2;cases k2;rfl
      subst hvv
      refine ⟨b',vals',T,k1,k2,by rw [k3,List.length_set],fun i y u hy hu => ?_,k5⟩
      by_cases hio : i = o
      · subst hio
        have hi := (List.getElem?_eq_some_iff.1 ho).1
        rw [List.getElem?_set_self (by rw [List.length_map];exact hi)] at hy
        cases hy
        exact hval u (j4 i _ u ho hu)
      · rw [List.getElem?_set_ne (Ne.symm hio)] at hy
        exact k4 i y u hy hu
    · exact hR.box _ _ he
  · simp only [LSt.setBox,upd] at he
    split at he
    · rename_i hd;subst hd;exact hR.dis _ _ hb2
    · exact hR.dis _ _ he
  · refine ⟨(hR.dia f es he).1,?_⟩
    have h2 := (hR.dia f es he).2
    simp only [LSt.setBox,upd]
    split
    · rename_i hd;subst hd;rw [hb2] at h2;cases h2
    · exact h2
theorem LW_rowVar {c : Code} (k q : Nat) {n : Nat} {e : TypeId} {cs : List LV} (hk : st.env k = .bsl q n e) (ha : st.arr q = some cs) (hl : cs.length = n * sizeL P e) (hs0 : 0 < sizeL P e)
    (h : LW P N w0 S0 c Q (((st.forget q).setRow q e n).put (some k) (.sl n cs (.row q)))) : LW P N w0 S0 c Q st := by
  intro a w hr
  refine h a w ?_
  obtain ⟨g,hg⟩ := hr
  let S' : Nat → Nat → Prop := fun b i => g.S b i ∨ (g.own q = some b ∧ i < n * sizeL P e)
  let g' : Gh := ⟨S',g.own,upd g.row q (some (e,n))⟩
  have m : MonoX P q w g w g' := ⟨fun b i v hs hc => ⟨.inl hs,hc⟩,fun _ _ _ h => h,fun q' e' n v hq' he ho => by
    simp only [g',upd_ne _ _ hq'] at he
    rcases ho e' he with h0 | ⟨b,cap,cur,h1,h2,h3,h4,h5,h6,h7⟩
    · exact .inl h0
    · refine .inr ⟨b,cap,cur,h1,h2,h3,h4,h5,h6,fun i hi hs => ?_⟩
      rcases hs with hs | hs
      · exact h7 i hi hs
      · exact hq' (hg.inj _ _ b h1 hs.1),fun _ _ cur _ _ _ hc => ⟨cur,hc,rfl⟩,fun _ _ _ _ _ _ hc => hc⟩
  have hR : RelG P N w0 S0 g' ((st.forget q).setRow q e n) a w := by
    refine hg.change m (.refl _ _ _) (fun b i hb hH => ⟨fun hs => hs.elim id fun ho => ?_,.inl⟩) (fun b i hs => hs.elim (hg.wf b i) fun ho => (hg.own q b ho.1).2) hg.own hg.inj (fun k' b hk' hb hn => ⟨rfl,fun i hs => hs.elim (hn i) fun ho => hk' (hg.inj _ _ b hb ho.1)⟩) rfl (fun _ _ _ h => h) (fun cs hc => ?_) ?_ (fun k' hk' => ?_) (fun k' cs hk' hc => ?_) (fun cs hc => ?_)
    · exact absurd ((hg.own q b ho.1).1.elim (fun h => by omega) hH) id
    · simp [LSt.setRow,LSt.forget] at hc
    · simp only [g',hg.row]
      funext j
      simp only [LSt.setRow,LSt.forget,upd]
      split <;> rfl
    · simp only [LSt.setRow,LSt.forget,upd_ne _ _ hk']
    · simpa only [LSt.setRow,LSt.forget,upd_ne _ _ hk'] using hc
    · simp [LSt.setRow,LSt.forget,upd] at hc
  have hval : ∀ u,Rep P w g (.bsl q n e) u → Rep P w g' (.sl n cs (.row q)) u := by
    intro u hu
    rcases hu.inv_bsl with ⟨hx,hn0⟩ | ⟨b,cap,cur,h1,hx,h3,h4,h5,h6,h7⟩
    · have : cs = [] := List.eq_nil_of_length_eq_zero (by rw [hl,hn0];simp)
      rw [hx,this,hn0]
      exact .row _ _ _ _ _ (.empty _ _ _) fun e' he' => .inl ⟨rfl,rfl⟩
    · have hpos : 0 < n * sizeL P e := Nat.mul_pos h7 hs0
      have hnS : ∀ i,¬ g.S b i := by
        rcases hg.arr q cs ha with hc0 | ⟨b',vals,T,k1,k2,k3,k4,k5⟩
        · rw [hc0,List.length_nil] at hl;omega
        · rw [h1] at k1;cases k1;exact k5
      have hvals := (arr_vals (hg.arr q cs ha) h1 h3 hl h4 h6).mono (g' := g') (fun b i v hs hc => ⟨.inl hs,hc⟩)
      have hc := hvals.cells (b := b) (off := 0) fun i u hu => by
        rw [List.getElem?_take] at hu
        split at hu
        · rename_i hi
          refine ⟨.inr ⟨h1,by omega⟩,?_⟩
          rw [Nat.zero_add,cell_of_heap h3]
          simpa using hu
        · cases hu
      obtain ⟨val,hc1,hc2⟩ := hc
      rw [hx]
      refine .row _ _ _ _ _ (.sl _ _ _ _ _ _ (by omega) val hc1 hc2) fun e' he' => ?_
      simp only [g',upd_eq,Option.some.injEq,Prod.mk.injEq] at he'
      rw [← he'.1]
      exact .inr ⟨b,cap,cur,h1,rfl,h3,h4,h5,h6,fun i hi hs => hs.elim (hnS i) fun h => by omega⟩
  refine ⟨g',⟨hR.defers,hR.size,fun j => ?_,hR.below,hR.s0,hR.wf,hR.own,hR.inj,hR.box,hR.row,hR.dis,hR.arr,hR.dia,⟨hR.ex.glob,hR.ex.wf0,fun j v' hj => by
    simp only [LSt.put,upd] at hj
    split at hj
    · cases hj
    · exact hR.ex.vals j v' hj⟩,hR.keep⟩⟩
  simp only [LSt.put,upd]
  split
  · rename_i hj
    rw [hj]
    have := hg.env k
    rw [hk] at this
    exact hval _ this
  · exact hR.env j
end
end Go.Proofs.YtbffcndmcaeamaaDoor
end
section
set_option linter.unusedSimpArgs false
set_option linter.unusedVariables false
namespace Go.Proofs.YtbffcndmcaeamaaDoor
open Go.RowKit

def plain1 : LV → LV
  | .sl n cs _ => .sl n cs .no
  | x => x
theorem LW_plainBox {P : Program} {N : Nat} {w0 : World} {S0 : Ent} {Q : Exit → LSt → Prop} {st : LSt} {c : Code} (d : Nat) {cs : List LV} (hb : st.box d = some cs) (h : LW P N w0 S0 c Q (st.setBox d (cs.map plain1))) : LW P N w0 S0 c Q st :=
  LW_weakBox d _ hb (by simp) (fun i x y hx hy w g v hr => by
    rw [List.getElem?_map,hx] at hy
    cases hy
    cases x <;> first | exact hr | exact hr.no_of rfl) h
theorem LW_joinC {P : Program} {N : Nat} {w0 : World} {S0 : Ent} {a b : Code} {Q Q2 : Exit → LSt → Prop} {K : LSt → Prop} {st : LSt} (M : LSt → Prop) (h1 : LW P N w0 S0 a (thenL (LW P N w0 S0 b (thenL M Q)) Q2) st) (h2 : ∀ st',M st' → K st') : LW P N w0 S0 a (thenL (LW P N w0 S0 b (thenL K Q)) Q2) st :=
  h1.mono fun e st' h => by cases e <;> first | exact LW_join M h h2 | exact h
end Go.Proofs.YtbffcndmcaeamaaDoor
end
