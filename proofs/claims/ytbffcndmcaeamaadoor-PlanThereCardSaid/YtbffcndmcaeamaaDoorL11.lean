import Derived.Test.YtbffcndmcaeamaaDoorL9
import Derived.Deep.LoopGhost
import Derived.StillTail
section
set_option linter.unusedSimpArgs false
set_option linter.unusedVariables false
namespace Go.Proofs.YtbffcndmcaeamaaDoor
open Go.RowKit

def LW (P : Program) (N : Nat) (w0 : World) (S0 : Ent) (c : Code) (Q : Exit → LSt → Prop) (st : LSt) : Prop :=
  ∀ a w,Rel P N w0 S0 st a w → c.wp P (fun e a' w' => ∃ st',Rel P N w0 S0 st' a' w' ∧ Q e st') a w
def thenL (K : LSt → Prop) (Q : Exit → LSt → Prop) : Exit → LSt → Prop
  | .normal,st => K st
  | e,st => Q e st
def inBlockL (id : Nat) (Q : Exit → LSt → Prop) : Exit → LSt → Prop
  | .exit i,st => if i = id then Q .normal st else Q (.exit i) st
  | e,st => Q e st
def jumpsL (J : Nat → LSt → Prop) (Q : Exit → LSt → Prop) : Exit → LSt → Prop
  | .goto l,st => J l st
  | e,st => Q e st
section
variable {P : Program} {N : Nat} {w0 : World} {S0 : Ent} {Q : Exit → LSt → Prop} {st : LSt}
theorem LW.mono {c : Code} {Q' : Exit → LSt → Prop} (h : LW P N w0 S0 c Q st) (hQ : ∀ e st,Q e st → Q' e st) : LW P N w0 S0 c Q' st :=
  fun a w hr => wp_mono (h a w hr) fun e a' w' ⟨st',h1,h2⟩ => ⟨st',h1,hQ _ _ h2⟩
theorem LW_skip (h : Q .normal st) : LW P N w0 S0 .skip Q st := fun _ _ hr => wp_skip ⟨st,hr,h⟩
theorem LW_label {l : Nat} (h : Q .normal st) : LW P N w0 S0 (.label l) Q st := fun _ _ hr => wp_label ⟨st,hr,h⟩
theorem LW_exit {id : Nat} (h : Q (.exit id) st) : LW P N w0 S0 (.exit id) Q st := fun _ _ hr => wp_exit ⟨st,hr,h⟩
theorem LW_goto {l : Nat} (h : Q (.goto l) st) : LW P N w0 S0 (.goto l) Q st := fun _ _ hr => wp_goto ⟨st,hr,h⟩
theorem LW_ret (h : Q .ret st) : LW P N w0 S0 .ret Q st := fun _ _ hr => wp_ret ⟨st,hr,h⟩
theorem LW_seq {x y : Code} (h : LW P N w0 S0 x (thenL (LW P N w0 S0 y Q) Q) st) : LW P N w0 S0 (.seq x y) Q st := by
  intro a w hr
  refine wp_seq (wp_mono (h a w hr) fun e a' w' ⟨st',h1,h2⟩ => ?_)
  cases e with
  | normal => exact h2 a' w' h1
  | _ => exact ⟨st',h1,h2⟩
theorem LW_cond {c : Operand} {x y : Code} {t : Bool} (hc : evL st.env c = .lit (.bool t)) (h1 : t = true → LW P N w0 S0 x Q st) (h2 : t = false → LW P N w0 S0 y Q st) : LW P N w0 S0 (.cond c x y) Q st := by
  intro a w hr
  obtain ⟨g,hg⟩ := hr
  have hv := hg.ev c
  rw [hc] at hv
  exact wp_cond_split hv.inv_lit (fun ht => h1 ht a w ⟨g,hg⟩) (fun ht => h2 ht a w ⟨g,hg⟩)
def condL (v : LV) (x y : Prop) : Prop :=
  match v with
  | .lit (.bool t) => (t = true → x) ∧ (t = false → y)
  | _ => False
theorem LW_if {c : Operand} {x y : Code} (h : ∀ X Y : Prop,(LW P N w0 S0 x Q st → X) → (LW P N w0 S0 y Q st → Y) → condL (evL st.env c) X Y) : LW P N w0 S0 (.cond c x y) Q st := by
  have := h _ _ (fun h => h) (fun h => h)
  unfold condL at this
  split at this
  · rename_i t ht;exact LW_cond ht this.1 this.2
  · exact this.elim
theorem LW_block {id : Nat} {c : Code} (h : LW P N w0 S0 c (inBlockL id Q) st) : LW P N w0 S0 (.block id c) Q st := by
  intro a w hr
  refine wp_block (wp_mono (h a w hr) fun e a' w' ⟨st',h1,h2⟩ => ?_)
  cases e with
  | exit i =>
    simp only [inBlockL] at h2
    simp only [Exit.inBlock]
    split
    · rename_i hi;rw [if_pos hi] at h2;exact ⟨st',h1,h2⟩
    · rename_i hi;rw [if_neg hi] at h2;exact ⟨st',h1,h2⟩
  | _ => exact ⟨st',h1,h2⟩
theorem LW_loop {c : Code} (I : Nat → LSt → Prop) (n : Nat) (h0 : I n st) (h : ∀ n st,I n st → LW P N w0 S0 c (thenL (fun st' => ∃ m,m < n ∧ I m st') Q) st) : LW P N w0 S0 (.loop c) Q st := by
  intro a w hr
  refine wp_loop_ghost (fun n a w => ∃ st,Rel P N w0 S0 st a w ∧ I n st) n ⟨st,hr,h0⟩ fun n a w ⟨st,h1,h2⟩ => ?_
  refine wp_mono (h n st h2 a w h1) fun e a' w' ⟨st',h3,h4⟩ => ?_
  cases e with
  | normal => obtain ⟨m,hm,hI⟩ := h4;exact ⟨m,hm,st',h3,hI⟩
  | _ => exact ⟨st',h3,h4⟩
theorem LW_scope {c : Code} (J : Nat → Nat → LSt → Prop) (h0 : LW P N w0 S0 c (jumpsL (fun l st => ∃ n,J l n st) Q) st)
    (h : ∀ l n st,J l n st → ∃ rest,findLabel c l = some rest ∧ LW P N w0 S0 rest (jumpsL (fun l' st' => ∃ m,m < n ∧ J l' m st') Q) st) : LW P N w0 S0 (.scope c) Q st := by
  intro a w hr b k cs
  have key : ∀ n l st a w,Rel P N w0 S0 st a w → J l n st → ∃ rest,findLabel c l = some rest ∧ ∃ e a' w',(∃ st',Rel P N w0 S0 st' a' w' ∧ Q e st') ∧ Arrives P (lone (b.at a (.code rest :: .inScope c :: k)) cs w) b k cs e a' w' := by
    intro n
    induction n using Nat.strongRecOn with
    | _ n ih =>
      intro l st a w hr hJ
      obtain ⟨rest,hf,hp⟩ := h l n st hJ
      refine ⟨rest,hf,?_⟩
      obtain ⟨e,a₁,w₁,⟨st₁,hr₁,hq⟩,harr⟩ := hp a w hr b (.inScope c :: k) cs
      cases e with
      | normal => exact ⟨.normal,a₁,w₁,⟨st₁,hr₁,hq⟩,Steps.trans harr (.one step_inScope)⟩
      | exit id => exact ⟨.exit id,a₁,w₁,⟨st₁,hr₁,hq⟩,fun k' hk => harr k' (by simp [exitTo,hk])⟩
      | goto l' =>
        obtain ⟨m,hlt,hJ'⟩ := hq
        obtain ⟨rest',hf',e₂,a₂,w₂,hq₂,harr₂⟩ := ih m hlt l' st₁ a₁ w₁ hr₁ hJ'
        have hg : gotoIn l' (.inScope c :: k) = some (.code rest' :: .inScope c :: k) := by simp [gotoIn,hf']
        exact ⟨e₂,a₂,w₂,hq₂,.of_steps (harr _ hg) harr₂⟩
      | ret => exact ⟨_,a₁,w₁,⟨st₁,hr₁,hq⟩,harr⟩
      | panic ch => exact ⟨_,a₁,w₁,⟨st₁,hr₁,hq⟩,harr⟩
      | outgrown => exact ⟨_,a₁,w₁,⟨st₁,hr₁,hq⟩,harr⟩
  obtain ⟨e,a₁,w₁,⟨st₁,hr₁,hq⟩,harr⟩ := h0 a w hr b (.inScope c :: k) cs
  cases e with
  | normal => exact ⟨.normal,a₁,w₁,⟨st₁,hr₁,hq⟩,.head step_scope (Steps.trans harr (.one step_inScope))⟩
  | exit id => exact ⟨.exit id,a₁,w₁,⟨st₁,hr₁,hq⟩,fun k' hk => .head step_scope (harr k' (by simp [exitTo,hk]))⟩
  | goto l' =>
    obtain ⟨n,hJ⟩ := hq
    obtain ⟨rest',hf',e₂,a₂,w₂,hq₂,harr₂⟩ := key n l' st₁ a₁ w₁ hr₁ hJ
    have hg : gotoIn l' (.inScope c :: k) = some (.code rest' :: .inScope c :: k) := by simp [gotoIn,hf']
    exact ⟨e₂,a₂,w₂,hq₂,.of_steps (.head step_scope (harr _ hg)) harr₂⟩
  | ret => exact ⟨_,a₁,w₁,⟨st₁,hr₁,hq⟩,.of_steps (.one step_scope) harr⟩
  | panic ch => exact ⟨_,a₁,w₁,⟨st₁,hr₁,hq⟩,.of_steps (.one step_scope) harr⟩
  | outgrown => exact ⟨_,a₁,w₁,⟨st₁,hr₁,hq⟩,.of_steps (.one step_scope) harr⟩
theorem LW_lab1 {c R : Code} (J : Nat → LSt → Prop) (hf : findLabel c 0 = some (.seq .skip R))
    (first : Hid (∀ n st,J n st → LW P N w0 S0 R (jumpsL (fun l st => l = 0 ∧ ∃ n,J n st) Q) st) → LW P N w0 S0 c (jumpsL (fun l st => l = 0 ∧ ∃ n,J n st) Q) st)
    (pass : ∀ n st,J n st → LW P N w0 S0 R (jumpsL (fun l st => l = 0 ∧ ∃ m,m < n ∧ J m st) Q) st) : LW P N w0 S0 (.scope c) Q st := by
  refine LW_scope (fun l n st => l = 0 ∧ J n st) ((first fun n st h => (pass n st h).mono fun e st' hq => ?_).mono fun e st' hq => ?_) ?_
  · cases e <;> first | exact hq | (obtain ⟨h0,m,_,hm⟩ := hq;exact ⟨h0,m,hm⟩)
  · cases e <;> first | exact hq | (obtain ⟨h0,m,hm⟩ := hq;exact ⟨m,h0,hm⟩)
  · rintro l n st ⟨rfl,h⟩
    refine ⟨_,hf,LW_seq (LW_skip ((pass n st h).mono fun e st' hq => ?_))⟩
    cases e <;> first | exact hq | (obtain ⟨h0,m,hm,hJ⟩ := hq;exact ⟨m,hm,h0,hJ⟩)
def twoL (J0 J1 : LSt → Prop) : Nat → LSt → Prop
  | 0,st => J0 st
  | 1,st => J1 st
  | _,_ => False
theorem LW_lab2 {c R0 R1 : Code} (J0 J1 : Nat → LSt → Prop) (hf0 : findLabel c 0 = some (.seq .skip R0)) (hf1 : findLabel c 1 = some (.seq .skip R1))
    (first : Hid (∀ n st,J0 n st → LW P N w0 S0 R0 (jumpsL (twoL (fun st => ∃ n,J0 n st) (fun st => ∃ n,J1 n st)) Q) st) → Hid (∀ n st,J1 n st → LW P N w0 S0 R1 (jumpsL (twoL (fun st => ∃ n,J0 n st) (fun st => ∃ n,J1 n st)) Q) st) →
      LW P N w0 S0 c (jumpsL (twoL (fun st => ∃ n,J0 n st) (fun st => ∃ n,J1 n st)) Q) st)
    (pass0 : ∀ n st,J0 n st → Hid (∀ m st,m < n → J1 m st → LW P N w0 S0 R1 (jumpsL (twoL (fun st => ∃ m,m < n ∧ J0 m st) (fun st => ∃ m,m < n ∧ J1 m st)) Q) st) → LW P N w0 S0 R0 (jumpsL (twoL (fun st => ∃ m,m < n ∧ J0 m st) (fun st => ∃ m,m < n ∧ J1 m st)) Q) st)
    (pass1 : ∀ n st,J1 n st → Hid (∀ m st,m < n → J0 m st → LW P N w0 S0 R0 (jumpsL (twoL (fun st => ∃ m,m < n ∧ J0 m st) (fun st => ∃ m,m < n ∧ J1 m st)) Q) st) → LW P N w0 S0 R1 (jumpsL (twoL (fun st => ∃ m,m < n ∧ J0 m st) (fun st => ∃ m,m < n ∧ J1 m st)) Q) st) :
    LW P N w0 S0 (.scope c) Q st := by
  have up : ∀ (n m : Nat),m ≤ n → ∀ e st',jumpsL (twoL (fun st => ∃ k,k < m ∧ J0 k st) (fun st => ∃ k,k < m ∧ J1 k st)) Q e st' → jumpsL (twoL (fun st => ∃ k,k < n ∧ J0 k st) (fun st => ∃ k,k < n ∧ J1 k st)) Q e st' := by
    intro n m hm e st' hq
    cases e with
    | goto l =>
      match l,hq with
      | 0,hq => obtain ⟨k,hk,hj⟩ := hq;exact ⟨k,by omega,hj⟩
      | 1,hq => obtain ⟨k,hk,hj⟩ := hq;exact ⟨k,by omega,hj⟩
    | _ => exact hq
  have key : ∀ n,(∀ st,J0 n st → LW P N w0 S0 R0 (jumpsL (twoL (fun st => ∃ m,m < n ∧ J0 m st) (fun st => ∃ m,m < n ∧ J1 m st)) Q) st) ∧ (∀ st,J1 n st → LW P N w0 S0 R1 (jumpsL (twoL (fun st => ∃ m,m < n ∧ J0 m st) (fun st => ∃ m,m < n ∧ J1 m st)) Q) st) := by
    intro n
    induction n using Nat.strongRecOn with
    | _ n ih =>
      exact ⟨fun st h => pass0 n st h fun m st' hm h' => ((ih m hm).2 st' h').mono (up n m (by omega)),fun st h => pass1 n st h fun m st' hm h' => ((ih m hm).1 st' h').mono (up n m (by omega))⟩
  have out : ∀ n e st',jumpsL (twoL (fun st => ∃ k,k < n ∧ J0 k st) (fun st => ∃ k,k < n ∧ J1 k st)) Q e st' → jumpsL (twoL (fun st => ∃ n,J0 n st) (fun st => ∃ n,J1 n st)) Q e st' := by
    intro n e st' hq
    cases e with
    | goto l =>
      match l,hq with
      | 0,hq => obtain ⟨k,hk,hj⟩ := hq;exact ⟨k,hj⟩
      | 1,hq => obtain ⟨k,hk,hj⟩ := hq;exact ⟨k,hj⟩
    | _ => exact hq
  refine LW_scope (fun l n st => twoL (J0 n) (J1 n) l st) ((first (fun n st h => ((key n).1 st h).mono (out n)) (fun n st h => ((key n).2 st h).mono (out n))).mono fun e st' hq => ?_) ?_
  · cases e with
    | goto l =>
      match l,hq with
      | 0,hq => obtain ⟨k,hj⟩ := hq;exact ⟨k,hj⟩
      | 1,hq => obtain ⟨k,hj⟩ := hq;exact ⟨k,hj⟩
    | _ => exact hq
  · intro l n st h
    match l,h with
    | 0,h =>
      refine ⟨_,hf0,LW_seq (LW_skip (((key n).1 st h).mono fun e st' hq => ?_))⟩
      cases e with
      | goto l =>
        match l,hq with
        | 0,hq => obtain ⟨k,hk,hj⟩ := hq;exact ⟨k,hk,hj⟩
        | 1,hq => obtain ⟨k,hk,hj⟩ := hq;exact ⟨k,hk,hj⟩
      | _ => exact hq
    | 1,h =>
      refine ⟨_,hf1,LW_seq (LW_skip (((key n).2 st h).mono fun e st' hq => ?_))⟩
      cases e with
      | goto l =>
        match l,hq with
        | 0,hq => obtain ⟨k,hk,hj⟩ := hq;exact ⟨k,hk,hj⟩
        | 1,hq => obtain ⟨k,hk,hj⟩ := hq;exact ⟨k,hk,hj⟩
      | _ => exact hq
theorem LW_scope_straight {c : Code} (h : LW P N w0 S0 c (jumpsL (fun _ _ => False) Q) st) : LW P N w0 S0 (.scope c) Q st :=
  LW_scope (fun _ _ _ => False) (h.mono fun e st hq => by cases e <;> first | exact hq | exact hq.elim) (fun _ _ _ h => h.elim)
theorem LW_region {id : Nat} {l : List Oper} (h : ∀ K : LSt → Prop,(∀ st',Q .normal st' → K st') → lops P N l.toArray l K st) : LW P N w0 S0 (.region id l.toArray false) Q st := by
  intro a w hr
  exact wp_region_lit (lops_wp l (Q .normal) st a w hr (h _ fun _ h => h) fun st' a' w' h1 h2 => ⟨st',h1,h2⟩)
theorem LW_any {id : Nat} {l : List Oper} (hm : P.follows .mixedOrders = true) (hB : Region.lexB .any l.toArray = true) (hp : l.all (fun o => pureB o && dstOk N o.dst) = true) (hmd : l.all (bmode st.mode) = true)
    (h : ∀ K : LSt → Prop,(∀ st',Q .normal st' → K st') → lops P N l.toArray l K st) : LW P N w0 S0 (.region id l.toArray true) Q st := by
  intro a w hr
  exact region_any hm hB hp hmd hr (h _ fun _ h => h) fun st' a' w' h1 h2 => ⟨st',h1,h2⟩
theorem LW_nil {c : Code} {k q : Nat} {e : TypeId} (hk : st.env k = .sl 0 [] .nil) (h : LW P N w0 S0 c Q (((st.forget q).setRow q e 0).put (some k) (.sl 0 [] (.row q)))) : LW P N w0 S0 c Q st := by
  intro a w hr
  refine h a w ?_
  obtain ⟨g,hg⟩ := hr
  let g' : Gh := ⟨g.S,g.own,upd g.row q (some (e,0))⟩
  have m : MonoX P q w g w g' := ⟨fun b i v hs hc => ⟨hs,hc⟩,fun _ _ _ h => h,fun q' e' n v hq' he ho => by
    simp only [g',upd_ne _ _ hq'] at he;exact ho e' he,fun _ _ cur _ _ _ hc => ⟨cur,hc,rfl⟩,fun _ _ _ _ _ _ hc => hc⟩
  have hv : a.tmps.getD k undef = .slice none 0 0 := by have := hg.env k;rw [hk] at this;exact this.inv_nil.1
  have hR : RelG P N w0 S0 g' ((st.forget q).setRow q e 0) a w := by
    refine hg.change m (.refl _ _ _) (fun _ _ _ _ => Iff.rfl) hg.wf hg.own hg.inj (fun _ _ _ _ hn => ⟨rfl,hn⟩) rfl (fun _ _ _ h => h) (fun cs hc => ?_) ?_ (fun k' hk' => ?_) (fun k' cs hk' hc => ?_) (fun cs hc => ?_)
    · simp [LSt.setRow,LSt.forget] at hc
    · simp only [g',hg.row]
      funext j
      simp only [LSt.setRow,LSt.forget,upd]
      split <;> rfl
    · simp only [LSt.setRow,LSt.forget,upd_ne _ _ hk']
    · simpa only [LSt.setRow,LSt.forget,upd_ne _ _ hk'] using hc
    · simp [LSt.setRow,LSt.forget,upd] at hc
  refine ⟨g',⟨hR.defers,hR.size,fun j => ?_,hR.below,hR.s0,hR.wf,hR.own,hR.inj,hR.box,hR.row,hR.dis,hR.arr,hR.dia,⟨hR.ex.glob,hR.ex.wf0,fun j v' hj => by
    simp only [LSt.put,upd] at hj
    split at hj
    · cases hj
    · exact hR.ex.vals j v' hj⟩,hR.keep⟩⟩
  simp only [LSt.put,upd]
  split
  · rename_i hj
    rw [hj,hv]
    exact .row _ _ _ _ _ (.empty _ _ _) fun _ _ => .inl ⟨rfl,rfl⟩
  · exact hR.env j
theorem LW_nilB {c : Code} {k q : Nat} {e : TypeId} (hk : st.env k = .sl 0 [] .nil) (h : LW P N w0 S0 c Q (((st.forget q).setArr q []).put (some k) (.bsl q 0 e))) : LW P N w0 S0 c Q st := by
  intro a w hr
  refine h a w ?_
  obtain ⟨g,hg⟩ := hr
  let g' : Gh := ⟨g.S,g.own,upd g.row q none⟩
  have m : MonoX P q w g w g' := ⟨fun b i v hs hc => ⟨hs,hc⟩,fun _ _ _ h => h,fun q' e' n v hq' he ho => by
    simp only [g',upd_ne _ _ hq'] at he;exact ho e' he,fun _ _ cur _ _ _ hc => ⟨cur,hc,rfl⟩,fun _ _ _ _ _ _ hc => hc⟩
  have hv : a.tmps.getD k undef = .slice none 0 0 := by have := hg.env k;rw [hk] at this;exact this.inv_nil.1
  have hR : RelG P N w0 S0 g' ((st.forget q).setArr q []) a w := by
    refine hg.change m (.refl _ _ _) (fun _ _ _ _ => Iff.rfl) hg.wf hg.own hg.inj (fun _ _ _ _ hn => ⟨rfl,hn⟩) rfl (fun _ _ _ h => h) (fun cs hc => ?_) ?_ (fun k' hk' => ?_) (fun k' cs hk' hc => ?_) (fun cs hc => ?_)
    · simp [LSt.setArr,LSt.forget] at hc
    · simp only [g',hg.row];rfl
    · simp only [LSt.setArr,LSt.forget,upd_ne _ _ hk']
    · simpa only [LSt.setArr,LSt.forget,upd_ne _ _ hk'] using hc
    · simp only [LSt.setArr,upd_eq] at hc
      cases hc
      exact ⟨.inl rfl,by simp [LSt.setArr,LSt.forget,upd],by simp [LSt.setArr,LSt.forget]⟩
  refine ⟨g',⟨hR.defers,hR.size,fun j => ?_,hR.below,hR.s0,hR.wf,hR.own,hR.inj,hR.box,hR.row,hR.dis,hR.arr,hR.dia,⟨hR.ex.glob,hR.ex.wf0,fun j v' hj => by
    simp only [LSt.put,upd] at hj
    split at hj
    · cases hj
    · exact hR.ex.vals j v' hj⟩,hR.keep⟩⟩
  simp only [LSt.put,upd]
  split
  · rename_i hj
    rw [hj,hv]
    exact .bsl _ _ _ _ _ (.inl ⟨rfl,rfl⟩)
  · exact hR.env j
theorem LW_publish {c : Code} (k : Nat) {d n : Nat} {e : TypeId} {cs : List LV} (hk : st.env k = .bsl d n e) (ha : st.arr d = some cs) (hl : cs.length = n * sizeL P e) (h : LW P N w0 S0 c Q ((st.forget d).put (some k) (.sl n cs .no))) : LW P N w0 S0 c Q st := by
  intro a w hr
  refine h a w ?_
  obtain ⟨g,hg⟩ := hr
  have hv := hg.env k
  rw [hk] at hv
  let S' : Nat → Nat → Prop := fun b i => g.S b i ∨ (g.own d = some b)
  let g' : Gh := ⟨S',g.own,upd g.row d none⟩
  have m : MonoX P d w g w g' := ⟨fun b i v hs hc => ⟨.inl hs,hc⟩,fun _ _ _ h => h,fun q' e' n v hq' he ho => by
    simp only [g',upd_ne _ _ hq'] at he
    rcases ho e' he with h0 | ⟨b,cap,cur,h1,h2,h3,h4,h5,h6,h7⟩
    · exact .inl h0
    · refine .inr ⟨b,cap,cur,h1,h2,h3,h4,h5,h6,fun i hi hs => ?_⟩
      rcases hs with hs | hs
      · exact h7 i hi hs
      · exact hq' (hg.inj _ _ b h1 hs),fun _ _ cur _ _ _ hc => ⟨cur,hc,rfl⟩,fun _ _ _ _ _ _ hc => hc⟩
  have hR : RelG P N w0 S0 g' (st.forget d) a w := by
    refine hg.change m (.refl _ _ _) (fun b i hb hH => ⟨fun hs => hs.elim id fun ho => ?_,.inl⟩) (fun b i hs => hs.elim (hg.wf b i) fun ho => (hg.own d b ho).2) hg.own hg.inj (fun k' b hk' hb hn => ⟨rfl,fun i hs => hs.elim (hn i) fun ho => hk' (hg.inj _ _ b hb ho)⟩) rfl (fun _ _ _ h => h) (fun cs hc => ?_) ?_ (fun k' hk' => ?_) (fun k' cs hk' hc => ?_) (fun cs hc => ?_)
    · exact absurd ((hg.own d b ho).1.elim (fun h => by omega) hH) id
    · simp [LSt.forget] at hc
    · simp only [g',hg.row];rfl
    · simp only [LSt.forget,upd_ne _ _ hk']
    · simpa only [LSt.forget,upd_ne _ _ hk'] using hc
    · simp [LSt.forget,upd] at hc
  refine ⟨g',⟨hR.defers,hR.size,fun j => ?_,hR.below,hR.s0,hR.wf,hR.own,hR.inj,hR.box,hR.row,hR.dis,hR.arr,hR.dia,⟨hR.ex.glob,hR.ex.wf0,fun j v' hj => by
    simp only [LSt.put,upd] at hj
    split at hj
    · cases hj
    · exact hR.ex.vals j v' hj⟩,hR.keep⟩⟩
  simp only [LSt.put,upd]
  split
  · rename_i hj
    rw [hj]
    rcases hv.inv_bsl with ⟨hx,rfl⟩ | ⟨b,cap,cur,h1,hx,h3,h4,h5,h6,h7⟩
    · rw [hx]
      have : cs = [] := List.eq_nil_of_length_eq_zero (by rw [hl];simp)
      subst this
      exact .empty _ _ _
    · rw [hx]
      have hvals := (arr_vals (hg.arr d cs ha) h1 h3 hl h4 h6).mono (g' := g') (fun b i v hs hc => ⟨.inl hs,hc⟩)
      have hc := hvals.cells (b := b) (off := 0) fun i u hu => ⟨.inr h1,by
        rw [Nat.zero_add,cell_of_heap h3]
        rw [List.getElem?_take] at hu
        split at hu
        · simpa using hu
        · cases hu⟩
      obtain ⟨val,hc1,hc2⟩ := hc
      exact .sl _ _ _ _ _ _ (by omega) val hc1 hc2
  · exact hR.env j

def retL1 (P : Program) (st : LSt) : ResultVar → Option LV
  | .tmp t => some (st.env t)
  | .cell a t => loadAtL P st.box st.arr t (st.env a)
def retLs (P : Program) (st : LSt) : List ResultVar → Option (List LV)
  | [] => some []
  | r :: rs => match retL1 P st r,retLs P st rs with
    | some x,some xs => some (x :: xs)
    | _,_ => none
def retL (P : Program) (rs : List ResultVar) (st : LSt) : Option LV :=
  match retLs P st rs with
  | some [x] => some x
  | some xs => some (.tup xs)
  | none => none
theorem retLs_eq (P : Program) (st : LSt) : ∀ rs,retLs P st rs = rs.mapM (retL1 P st)
  | [] => rfl
  | r :: rs => by
    rw [List.mapM_cons,retLs,retLs_eq P st rs]
    cases retL1 P st r with
    | none => rfl
    | some x => cases rs.mapM (retL1 P st) <;> rfl
def bodyQ (P : Program) (rs : List ResultVar) (r : LV) : Exit → LSt → Prop
  | .normal,st | .ret,st => ∃ x,retL P rs st = some x ∧ strip x = r
  | _,_ => False
def entryL (md : Nat → Bool) (val : Nat → Option Value) (args : List LV) : LSt := ⟨fun k => (args[k]?).getD .any,fun _ => none,fun _ => none,fun _ => none,md,val⟩
theorem retL_run {g : Gh} {a : Act} {w : World} {fn : Func} {x : LV} (h : RelG P N w0 S0 g st a w) {rs : List ResultVar} (hrs : fn.results = rs.toArray) (hx : retL P rs st = some x) : ∃ v,(results fn a.tmps).run P w = .ok v w ∧ Rep P w g x v := by
  have key : ∀ (rs : List ResultVar) (xs : List LV),rs.mapM (retL1 P st) = some xs → ∃ vs : List Value,(rs.mapM fun
      | .tmp t => pure (a.tmps.getD t undef)
      | .cell b t => do loadVar t (← asAddr (a.tmps.getD b undef)) : Sem (List Value)).run P w = .ok vs w ∧ xs.length = vs.length ∧ ∀ (i : Nat) (c : LV) (u : Value),xs[i]? = some c → vs[i]? = some u → Rep P w g c u := by
    intro rs
    induction rs with
    | nil => intro xs hxs;simp at hxs;subst hxs;exact ⟨[],rfl,rfl,fun i c u hc => by cases hc⟩
    | cons r rs ih =>
      intro xs hxs
      rw [List.mapM_cons] at hxs
      cases hr : retL1 P st r with
      | none => rw [hr] at hxs;cases hxs
      | some y =>
        rw [hr] at hxs
        cases hrs : rs.mapM (retL1 P st) with
        | none => rw [hrs] at hxs;cases hxs
        | some ys =>
          rw [hrs] at hxs
          cases hxs
          obtain ⟨vs,hvs,hl,hrep⟩ := ih ys hrs
          have hone : ∃ v,(match r with
              | .tmp t => pure (a.tmps.getD t undef)
              | .cell b t => do loadVar t (← asAddr (a.tmps.getD b undef)) : Sem Value).run P w = .ok v w ∧ Rep P w g y v := by
            cases r with
            | tmp t => cases hr;exact ⟨_,rfl,h.env t⟩
            | cell b t =>
              obtain ⟨v,hv,hrv⟩ := loadAtL_run (h.env b) h.box h.arr hr
              refine ⟨v,?_,hrv⟩
              have hp : ∃ ad,a.tmps.getD b undef = .pointer (some ad) := by
                have hb := h.env b
                simp only [retL1,loadAtL] at hr
                split at hr
                · rename_i he;rw [he] at hb;obtain ⟨b',o',hv',_⟩ := hb.inv_ref;exact ⟨_,hv'⟩
                · rename_i he;rw [he] at hb;obtain ⟨b',hv',_⟩ := hb.inv_ptr;exact ⟨_,hv'⟩
                · rename_i he;rw [he] at hb;obtain ⟨b',hv',_⟩ := hb.inv_aptr;exact ⟨_,hv'⟩
                · cases hr
              obtain ⟨ad,had⟩ := hp
              show (do loadVar t (← asAddr (a.tmps.getD b undef)) : Sem Value).run P w = _
              rw [had] at hv ⊢
              simpa [Instr.loadAt,Instr.sureAddr,asAddr] using hv
          obtain ⟨v,hv,hrv⟩ := hone
          refine ⟨v :: vs,?_,by simp [hl],fun i c u hc hu => ?_⟩
          · rw [List.mapM_cons,Sem.run_bind,hv]
            show (_ >>= fun ys => pure (v :: ys) : Sem (List Value)).run P w = _
            rw [Sem.run_bind,hvs]
            rfl
          · cases i with
            | zero => cases hc;cases hu;exact hrv
            | succ i => exact hrep i c u (by simpa using hc) (by simpa using hu)
  have hrs' : fn.results.toList = rs := by rw [hrs]
  unfold retL at hx
  rw [retLs_eq] at hx
  cases hm : rs.mapM (retL1 P st) with
  | none => rw [hm] at hx;cases hx
  | some xs =>
    obtain ⟨vs,hvs,hl,hrep⟩ := key _ _ hm
    have hrun : (results fn a.tmps).run P w = .ok (if h : vs.toArray.size = 1 then vs.toArray[0] else .tuple vs.toArray) w := by
      unfold results
      rw [Sem.run_bind,Array.mapM_eq_mapM_toList,Sem.run_map,hrs']
      refine (congrArg (fun r => (Result.andThen (Result.andThen r _) _)) (?_ : _ = Result.ok vs w)).trans rfl
      rw [← hvs]
      congr 2
    rw [hm] at hx
    cases xs with
    | nil =>
      cases vs with
      | nil => cases hx;exact ⟨_,hrun,by simpa using .tup _ _ _ rfl (fun i c u hc => by cases hc)⟩
      | cons v1 vs => cases hl
    | cons x1 xs =>
      cases vs with
      | nil => cases hl
      | cons v1 vs =>
        cases xs with
        | nil =>
          cases vs with
          | nil => cases hx;exact ⟨v1,by rw [hrun];simp,hrep 0 x v1 rfl rfl⟩
          | cons v2 vs => cases hl
        | cons x2 xs =>
          cases vs with
          | nil => cases hl
          | cons v2 vs =>
            cases hx
            exact ⟨_,hrun,by simpa using .tup _ _ _ (by simpa using hl.symm) (fun i c u hc hu => hrep i c u hc (by simpa using hu))⟩
theorem LCalls.of (md : Nat → Bool) {f : FuncId} {fn : Func} {c : Code} {args : List LV} {r : LV} {rs : List ResultVar} (hf : P.funcs[f]? = some fn) (hb : fn.body = some c) (hname : (fn.name == "runtime.NumGoroutine") = false) (hn : fn.ntmps = N) (hrs : fn.results = rs.toArray) (hle : args.length ≤ N)
    (h : ∀ w0 (S0 : Nat → Nat → Prop) (vs : Array Value),Glob P w0 → (∀ b i,S0 b i → b < w0.heap.size) → vs.size = args.length → (∀ (i : Nat) (c : LV) (u : Value),args[i]? = some c → vs[i]? = some u → Rep P w0 (bareGh S0) c u) → LW P N w0 ⟨S0,fun _ => False⟩ c (bodyQ P rs r) (entryL md (fun k => vs[k]?) args)) : LCalls P f args r := by
  refine ⟨fun vs w => ?_,fun w S vs hglob hwf hl hr => ?_⟩
  · have h1 : fn.name ≠ "runtime.NumGoroutine" := by simpa using hname
    simp [callFunc,hf,h1,hb,mark]
  · refine calls_of_wp hf hb (wp_mono (h w S vs hglob hwf hl hr _ w ?_) ?_)
    · refine ⟨bareGh S,rfl,by simp [hn,hl];omega,fun k => ?_,.refl _ _ _,fun _ _ _ _ => Iff.rfl,hwf,(fun d b hd => by cases hd),(fun d d' b hd => by cases hd),(fun d cs hd => by cases hd),rfl,(fun d cs hd => by cases hd),(fun d cs hd => by cases hd),(fun d cs hd => by cases hd),⟨fun w' hb => hglob.on (hb.below fun _ h => h),hwf,fun k v hk => ?_⟩,fun _ _ _ hs hc => ⟨hs,hc⟩⟩
      rotate_left
      · have hk2 : vs[k]? = some v := hk
        have hk' := (Array.getElem?_eq_some_iff.1 hk2).1
        simp only [Array.getD_eq_getD_getElem?,Array.getElem?_append_left hk',hk2,Option.getD_some]
      by_cases hk : k < args.length
      · have hk' : k < vs.size := by omega
        have e1 : (vs ++ Array.replicate (fn.ntmps - vs.size) undef).getD k undef = vs[k] := by
          simp only [Array.getD_eq_getD_getElem?,Array.getElem?_append_left hk',Array.getElem?_eq_getElem hk',Option.getD_some]
        show Rep P w (bareGh S) ((args[k]?).getD .any) _
        rw [e1,List.getElem?_eq_getElem hk]
        exact hr k args[k] vs[k] (List.getElem?_eq_getElem hk) (Array.getElem?_eq_getElem hk')
      · show Rep P w (bareGh S) ((args[k]?).getD .any) _
        rw [List.getElem?_eq_none (by omega)]
        exact .any _ _
    · rintro e a' w' ⟨st',⟨g,hg⟩,hq⟩
      have fin : (∃ x,retL P rs st' = some x ∧ strip x = r) → a'.defers = [] ∧ ∃ v,(results fn a'.tmps).run P w' = .ok v w' ∧ ∃ v' S',Ending.returned v = .returned v' ∧ Rep P w' (bareGh S') r v' ∧ G w w' ∧ (∀ b i,b < w.heap.size → (S' b i ↔ S b i)) ∧ ∀ b i,S' b i → b < w'.heap.size := by
        rintro ⟨x,hx,rfl⟩
        obtain ⟨v,hv,hrep⟩ := retL_run hg hrs hx
        exact ⟨hg.defers,v,hv,v,g.S,rfl,hrep.strip rfl,hg.below.below fun _ h => h,fun b i hb => hg.s0 b i hb fun h => h,hg.wf⟩
      cases e with
      | normal => exact fin hq
      | ret => exact fin hq
      | exit _ => exact hq.elim
      | goto _ => exact hq.elim
      | panic _ => exact hq.elim
      | outgrown => exact hq.elim
end
end Go.Proofs.YtbffcndmcaeamaaDoor
end
section
set_option linter.unusedSimpArgs false
set_option linter.unusedVariables false
namespace Go.Proofs.YtbffcndmcaeamaaDoor
open Go.RowKit

section
variable {P : Program} {N : Nat} {w0 : World} {S0 : Ent} {ops : Array Oper} {md : Region.Mode}
theorem lops_append : ∀ (l1 l2 : List Oper) (K : LSt → Prop) (st : LSt),lops P N ops (l1 ++ l2) K st → lops P N ops l1 (lops P N ops l2 K) st
  | [],_,_,_,h => h
  | o :: l1,l2,K,st,h => by
    simp only [List.cons_append,lops] at h ⊢
    refine ⟨h.1,?_⟩
    have h2 := h.2
    have e : ∀ st,lops P N ops (l1 ++ l2) K st → lops P N ops l1 (lops P N ops l2 K) st := fun st => lops_append l1 l2 K st
    cases hw : guardL ops o st.env with
    | none => rw [hw] at h2;exact h2.elim
    | some wb =>
      obtain ⟨want,b⟩ := wb
      rw [hw] at h2
      exact ⟨fun hc => lop_mono e (h2.1 hc),fun hc => e _ (h2.2 hc)⟩
def headL (P : Program) (md : Region.Mode) (ops : Array Oper) (n : Nat) (L : Array Bool → LSt → Prop) : Nat → Array Bool → LSt → Prop
  | 0,listed,st => L listed st
  | f + 1,listed,st => Region.ready md ops listed ≠ [] ∧ ∀ i ∈ Region.ready md ops listed,i < n ∧ lqOp P ops i (headL P md ops n L f (listed.setIfInBounds i true)) st
theorem wpAny_of_headL {n g : Nat} {L : Array Bool → LSt → Prop} {Q' : Exit → Act → World → Prop} (hd : ∀ (i : Nat) (o : Oper),ops[i]? = some o → dstOk N o.dst = true) (hL : ∀ listed st a w,Rel P N w0 S0 st a w → L listed st → wpAny P md ops Q' g listed a w) :
    ∀ (f : Nat) (listed : Array Bool) (st : LSt) (a : Act) (w : World),Rel P N w0 S0 st a w → headL P md ops n L f listed st → wpAny P md ops Q' (f + g) listed a w
  | 0,listed,st,a,w,hr,h => by rw [Nat.zero_add];exact hL _ _ _ _ hr h
  | f + 1,listed,st,a,w,hr,h => by
    rw [show f + 1 + g = (f + g) + 1 by omega]
    refine ⟨fun h0 => absurd h0 h.1,fun i hi => ?_⟩
    have h1 := (h.2 i hi).2
    unfold lqOp at h1
    unfold wpOp
    split
    · rename_i ho;simp only [ho] at h1;exact wpAny_of_headL hd hL f _ st a w hr h1
    · rename_i o ho
      simp only [ho] at h1
      obtain ⟨x,hy,hK⟩ := h1
      obtain ⟨g',hg⟩ := hr
      rcases hy with ⟨hw,hv⟩ | ⟨hw,rfl⟩
      · rw [wantL_run hg.env hw,if_pos rfl]
        exact .inl (hv.wp hg (dstOk_spec (hd i o ho)) fun a' w' hr' => wpAny_of_headL hd hL f _ _ a' w' hr' hK)
      · rw [wantL_run hg.env hw,if_neg (by simp)]
        exact wpAny_of_headL hd hL f _ _ _ _ ⟨g',hg.put (dstOk_spec (hd i o ho)) (.lit _ _)⟩ hK
theorem headL_first {n i : Nat} {oi : Oper} {v : LV} {L : Array Bool → LSt → Prop} (hi : ops[i]? = some oi)
    (hs : Region.sinkB md ops n = true) (hc : Region.chainB md ops n = true) (hn : n < ops.size) (hin : i < n)
    (hdone : ∀ listed st,L listed st → ∀ j ∈ Region.ready md ops listed,n ≤ j) :
    ∀ (f : Nat) (listed : Array Bool) (st : LSt),HeadInv md ops n listed →
      (∀ j oj,ops[j]? = some oj → j ≠ i → listed.getD j true = false → (∀ e ∈ oj.after,Region.binds md e = true → e.on ≠ i) → oi.apart ops oj = true) →
      i ∈ Region.ready md ops listed → YieldsL P ops oi v st →
      headL P md ops n L f (listed.setIfInBounds i true) (st.put oi.dst v) → headL P md ops n L (f + 1) listed st := by
  intro f
  have self : ∀ {st : LSt} {K : LSt → Prop},YieldsL P ops oi v st → K (st.put oi.dst v) → lqOp P ops i K st := by
    intro st K hy hK
    unfold lqOp;simp only [hi];exact ⟨v,hy,hK⟩
  induction f with
  | zero =>
    intro listed st inv _ hr hy H
    have hun := (mem_ready.1 hr).1
    refine ⟨fun h => (by rw [h] at hr;cases hr),fun j hj => ?_⟩
    have hjn : j < n := by
      rcases Nat.lt_or_ge j n with h | h
      · exact h
      · exact absurd hj (tail_waits hs hc hn inv _ i rfl hin hun j h)
    refine ⟨hjn,?_⟩
    by_cases hji : j = i
    · subst hji;exact self hy H
    · have := hdone _ _ H j (ready_mono hj hji)
      omega
  | succ f ih =>
    intro listed st inv hfree hr hy H
    have hun := (mem_ready.1 hr).1
    refine ⟨fun h => (by rw [h] at hr;cases hr),fun j hj => ?_⟩
    have hjn : j < n := by
      rcases Nat.lt_or_ge j n with h | h
      · exact h
      · exact absurd hj (tail_waits hs hc hn inv _ i rfl hin hun j h)
    refine ⟨hjn,?_⟩
    by_cases hji : j = i
    · subst hji;exact self hy H
    · have h1 := (H.2 j (ready_mono hj hji)).2
      obtain ⟨hjun,oj,hoj,hall⟩ := mem_ready.1 hj
      have hnot : ∀ e ∈ oj.after,Region.binds md e = true → e.on ≠ i := fun e he hb heq => by
        have h1 := hall e he hb
        rw [heq,getD_both hun] at h1
        cases h1
      have h2 := lqOp_put hoj (hfree j oj hoj hji hjun hnot) hy h1
      have hfree' : ∀ k ok,ops[k]? = some ok → k ≠ i → (listed.setIfInBounds j true).getD k true = false →
          (∀ e ∈ ok.after,Region.binds md e = true → e.on ≠ i) → oi.apart ops ok = true := fun k ok hk hki hun hno => by
        refine hfree k ok hk hki ?_ hno
        by_cases hjk : j = k
        · subst hjk;exact hjun
        · rw [getD_set_ne true hjk] at hun;exact hun
      refine lqOp_mono (fun st' h3 => ih (listed.setIfInBounds j true) st' (inv.set hj hjn) hfree' (ready_mono hr (Ne.symm hji)) h3.1 ?_) h2
      rw [Array.setIfInBounds_comm _ _ hji]
      exact h3.2
theorem headL_lex {n g : Nat} {Lq : LSt → Prop} (hs : Region.sinkB md ops n = true) (hc : Region.chainB md ops n = true) (hn : n < ops.size) :
    ∀ (l : List Oper) (k : Nat) (listed : Array Bool) (st : LSt),(∀ j,j < l.length → l[j]? = ops[k + j]?) → k + l.length = n → HeadInv md ops n listed →
    Region.lexHead md ops g l.length k listed = true → l.all pureB = true → l.all (bmode st.mode) = true → lops P N ops l Lq st →
    headL P md ops n (fun listed' st' => Region.seqB md ops g n listed' = true ∧ Lq st') l.length listed st
  | [],k,listed,st,_,hk,_,hB,_,_,h => by
    have : k = n := by simpa using hk
    subst this
    exact ⟨by simpa [Region.lexHead] using hB,h⟩
  | o :: l,k,listed,st,hl,hk,inv,hB,hp,hmd,h => by
    have h0 : ops[k]? = some o := by simpa using (hl 0 (by simp)).symm
    simp only [List.length_cons,Region.lexHead,Bool.and_eq_true] at hB
    obtain ⟨⟨hr,hf⟩,hB'⟩ := hB
    rw [List.all_cons,Bool.and_eq_true] at hp hmd
    have hkn : k < n := by simp only [List.length_cons] at hk;omega
    have hr' : k ∈ Region.ready md ops listed := by simpa using hr
    obtain ⟨hd,h⟩ := h
    have hst : ∃ v,YieldsL P ops o v st ∧ lops P N ops l Lq (st.put o.dst v) := by
      cases hg : guardL ops o st.env with
      | some wb =>
        obtain ⟨want,b⟩ := wb
        rw [hg] at h
        have hw := guardL_want hg
        cases hc : wantB b want
        · rw [hc] at hw;exact ⟨_,.inr ⟨hw,rfl⟩,h.2 hc⟩
        · rw [hc] at hw
          obtain ⟨x,h1,h2⟩ := lop_pure hp.1 hmd.1 (h.1 hc)
          exact ⟨x,.inl ⟨hw,h1⟩,h2⟩
      | none => rw [hg] at h;exact h.elim
    obtain ⟨v,hy,hK⟩ := hst
    exact headL_first h0 hs hc hn hkn (fun listed' st' hL => seqB_ready hL.1) l.length listed st inv (Region.free_spec h0 hf) hr' hy
      (headL_lex hs hc hn l (k + 1) _ _ (fun j hj => by have := hl (j + 1) (by simp;omega);simpa [Nat.add_assoc,Nat.add_comm 1 j] using this) (by simp only [List.length_cons] at hk;omega) (inv.set hr' hkn) hB' hp.2 (by rw [put_mode];exact hmd.2) hK)
theorem region_tail {id : Nat} {l : List Oper} {Q : LSt → Prop} {Q' : Exit → Act → World → Prop} {st : LSt} {a : Act} {w : World} (n : Nat) (hm : P.follows .mixedOrders = true) (hB : Region.lexTailB .any l.toArray n = true) (hp : ((l.take n).all pureB && l.all (fun o => dstOk N o.dst)) = true) (hmd : (l.take n).all (bmode st.mode) = true)
    (h : Rel P N w0 S0 st a w) (hl : lops P N l.toArray l Q st) (hQ : ∀ st a w,Rel P N w0 S0 st a w → Q st → Q' .normal a w) : (Code.region id l.toArray true).wp P Q' a w := by
  simp only [Region.lexTailB,Bool.and_eq_true,decide_eq_true_eq] at hB
  obtain ⟨⟨⟨⟨hsel,hn⟩,hs⟩,hc⟩,hlex⟩ := hB
  rw [Bool.and_eq_true] at hp
  have hn' : n < l.length := by simpa using hn
  have htl : (l.take n).length = n := by simp;omega
  have hdl : (l.drop n).length = l.toArray.size - n := by simp
  have inv0 : HeadInv .any l.toArray n (Array.replicate l.toArray.size false) :=
    ⟨by simp,fun j oj _ hl => (by rw [getD_replicate_false] at hl;cases hl),fun t _ ht => getD_in (by simpa using ht) (getD_replicate_false _ _)⟩
  have hl' : lops P N l.toArray (l.take n) (lops P N l.toArray (l.drop n) Q) st := lops_append _ _ _ _ (by rw [List.take_append_drop];exact hl)
  have H := headL_lex (P := P) (N := N) (md := .any) (g := l.toArray.size - n) hs hc hn (l.take n) 0 _ st (fun j hj => by
    have hj' : j < n := by rw [htl] at hj;exact hj
    simp [hj']) (by simpa using htl) inv0 (by rw [htl];exact hlex) hp.1 hmd hl'
  have hp2 : ∀ (i : Nat) (o : Oper),l.toArray[i]? = some o → dstOk N o.dst = true := fun i o ho => by
    have : o ∈ l := by rw [List.getElem?_toArray] at ho;exact List.mem_of_getElem? ho
    exact List.all_eq_true.1 hp.2 o this
  refine wp_region_any hm ?_
  have := wpAny_of_headL (Q' := Q') (g := l.toArray.size - n) hp2 (fun listed st' a' w' hr hL => by
    have := wpAny_of_seq (md := .any) (Q' := Q') (l.drop n) n listed a' w' (fun j => by simp [List.getElem?_drop]) (by rw [hdl];exact hL.1) (lops_wp (l.drop n) Q st' a' w' hr hL.2 hQ)
    rwa [hdl] at this) _ _ _ _ _ h.drew H
  rw [htl,show n + (l.toArray.size - n) = l.toArray.size by omega] at this
  exact this
theorem LW_tail {Q : Exit → LSt → Prop} {st : LSt} {id : Nat} {l : List Oper} (n : Nat) (hm : P.follows .mixedOrders = true) (hB : Region.lexTailB .any l.toArray n = true) (hp : ((l.take n).all pureB && l.all (fun o => dstOk N o.dst)) = true) (hmd : (l.take n).all (bmode st.mode) = true)
    (h : ∀ K : LSt → Prop,(∀ st',Q .normal st' → K st') → lops P N l.toArray l K st) : LW P N w0 S0 (.region id l.toArray true) Q st := by
  intro a w hr
  exact region_tail n hm hB hp hmd hr (h _ fun _ h => h) fun st' a' w' h1 h2 => ⟨st',h1,h2⟩
end
section
variable {P : Program} {N : Nat} {w0 : World} {S0 : Ent}
def LastL (P : Program) (N : Nat) (w0 : World) (S0 : Ent) (o : Oper) (Kont : LSt → Prop) (st : LSt) : Prop :=
  ∀ a w (K : Act → World → Prop) (Q' : Exit → Act → World → Prop),Rel P N w0 S0 st a w → (∀ st' a' w',Rel P N w0 S0 st' a' w' → Kont st' → K a' w') → o.wp P a w K Q'
end
end Go.Proofs.YtbffcndmcaeamaaDoor
end
