/-
  SMALL LAWS OF THE WALK: a scope with one label that is jumped back to, walked once; worlds that have grown; slices; a region that draws its order, whose calls may make memory.
-/
import Derived.ScopeJumps
import Derived.WalkKit
import Derived.WalkSpells
import Derived.WalkLawsBesides
import Derived.WalkMore
import Derived.Outline
import Derived.Lib.Hide
import Derived.Lib.Strings
import Derived.Deep.QuietTactic
import Derived.BigQuiet
import Derived.Sort.Grow
set_option linter.unusedSimpArgs false
set_option linter.unusedVariables false
namespace Go.Proofs.Ytmchdjpgceiloaa
open Go.RowKit

theorem Exit.jump_mono {l : Nat} {J J' : Act → World → Prop} {Q : Exit → Act → World → Prop} (h : ∀ a w, J a w → J' a w) :
    ∀ e a w, Exit.jump l J Q e a w → Exit.jump l J' Q e a w := by
  intro e a w hj
  cases e <;> first | exact hj | exact ⟨hj.1, h _ _ hj.2⟩

/-- A scope whose one label is jumped back to: the code behind the label is walked once. -/
theorem wp_scope_lab {P : Program} {Q : Exit → Act → World → Prop} {a : Act} {w : World} {c R : Code} (l : Nat) (J : Act → World → Prop) (μ : Act → World → Nat)
    (hf : findLabel c l = some (.seq .skip R))
    (first : Hid (∀ a w, J a w → R.wp P (Exit.jump l J Q) a w) → c.wp P (Exit.jump l J Q) a w)
    (pass : ∀ a w, J a w → R.wp P (Exit.jump l (fun a' w' => J a' w' ∧ μ a' w' < μ a w) Q) a w) : (Code.scope c).wp P Q a w := by
  refine wp_scope_jumps l J μ hf (first ?_) (fun a w h => wp_seq (wp_skip (pass a w h)))
  intro a w h
  exact wp_mono (pass a w h) (Exit.jump_mono fun _ _ h => h.1)

/-- As Q; by a goto to label l: J l. -/
def Exit.jumps (J : Nat → Act → World → Prop) (Q : Exit → Act → World → Prop) : Exit → Act → World → Prop
  | .goto l, a, w => J l a w
  | e, a, w => Q e a w
theorem Exit.jumps_mono {J J' : Nat → Act → World → Prop} {Q : Exit → Act → World → Prop} (h : ∀ l a w, J l a w → J' l a w) :
    ∀ e a w, Exit.jumps J Q e a w → Exit.jumps J' Q e a w := by
  intro e a w hj
  cases e <;> first | exact hj | exact h _ _ _ hj
/-- A scope with labels: what holds at each jump, and a measure that every pass lowers. -/
theorem wp_scope_multi {P : Program} {Q : Exit → Act → World → Prop} {a : Act} {w : World} {c : Code} (J : Nat → Act → World → Prop) (μ : Nat → Act → World → Nat)
    (first : c.wp P (Exit.jumps J Q) a w)
    (pass : ∀ l a w, J l a w → ∃ rest, findLabel c l = some rest ∧ rest.wp P (Exit.jumps (fun l' a' w' => J l' a' w' ∧ μ l' a' w' < μ l a w) Q) a w) : (Code.scope c).wp P Q a w := by
  intro b k cs
  have key : ∀ n l a w, μ l a w = n → J l a w → ∃ rest, findLabel c l = some rest ∧ ∃ e a' w', Q e a' w' ∧ Arrives P (lone (b.at a (.code rest :: .inScope c :: k)) cs w) b k cs e a' w' := by
    intro n
    induction n using Nat.strongRecOn with
    | _ n ih =>
      intro l a w hn hJ
      obtain ⟨rest, hf, hp⟩ := pass l a w hJ
      refine ⟨rest, hf, ?_⟩
      obtain ⟨e, a₁, w₁, hq, harr⟩ := hp b (.inScope c :: k) cs
      cases e with
      | normal => exact ⟨.normal, a₁, w₁, hq, Steps.trans harr (.one step_inScope)⟩
      | exit id => exact ⟨.exit id, a₁, w₁, hq, fun k' hk => harr k' (by simp [exitTo, hk])⟩
      | goto l' =>
        obtain ⟨hJ', hlt⟩ := hq
        obtain ⟨rest', hf', e₂, a₂, w₂, hq₂, harr₂⟩ := ih _ (by omega) l' a₁ w₁ rfl hJ'
        have hg : gotoIn l' (.inScope c :: k) = some (.code rest' :: .inScope c :: k) := by simp [gotoIn, hf']
        exact ⟨e₂, a₂, w₂, hq₂, .of_steps (harr _ hg) harr₂⟩
      | ret => exact ⟨_, a₁, w₁, hq, harr⟩
      | panic ch => exact ⟨_, a₁, w₁, hq, harr⟩
      | outgrown => exact ⟨_, a₁, w₁, hq, harr⟩
  obtain ⟨e, a₁, w₁, hq, harr⟩ := first b (.inScope c :: k) cs
  cases e with
  | normal => exact ⟨.normal, a₁, w₁, hq, .head step_scope (Steps.trans harr (.one step_inScope))⟩
  | exit id => exact ⟨.exit id, a₁, w₁, hq, fun k' hk => .head step_scope (harr k' (by simp [exitTo, hk]))⟩
  | goto l' =>
    obtain ⟨rest', hf', e₂, a₂, w₂, hq₂, harr₂⟩ := key _ l' a₁ w₁ rfl hq
    have hg : gotoIn l' (.inScope c :: k) = some (.code rest' :: .inScope c :: k) := by simp [gotoIn, hf']
    exact ⟨e₂, a₂, w₂, hq₂, .of_steps (.head step_scope (harr _ hg)) harr₂⟩
  | ret => exact ⟨_, a₁, w₁, hq, .of_steps (.one step_scope) harr⟩
  | panic ch => exact ⟨_, a₁, w₁, hq, .of_steps (.one step_scope) harr⟩
  | outgrown => exact ⟨_, a₁, w₁, hq, .of_steps (.one step_scope) harr⟩
/-- The jumps of a scope with two labels. -/
def two (J0 J1 : Act → World → Prop) : Nat → Act → World → Prop
  | 0 => J0
  | 1 => J1
  | _ => fun _ _ => False
/-- A scope with two labels, one loop behind the other: the code behind each is walked once. -/
theorem wp_scope_lab2 {P : Program} {Q : Exit → Act → World → Prop} {a : Act} {w : World} {c R0 R1 : Code} (J0 J1 : Act → World → Prop) (μ0 μ1 : Act → World → Nat)
    (hf0 : findLabel c 0 = some (.seq .skip R0)) (hf1 : findLabel c 1 = some (.seq .skip R1))
    (first : Hid (∀ a w, J0 a w → R0.wp P (Exit.jumps (two J0 J1) Q) a w) → c.wp P (Exit.jumps (two J0 J1) Q) a w)
    (pass0 : Hid (∀ a w (K : Act → World → Prop), J1 a w → R1.wp P (Exit.jumps (two K J1) Q) a w) → ∀ a w, J0 a w → R0.wp P (Exit.jumps (two (fun a' w' => J0 a' w' ∧ μ0 a' w' < μ0 a w) J1) Q) a w)
    (pass1 : ∀ a w, J1 a w → R1.wp P (Exit.jumps (two (fun _ _ => False) (fun a' w' => J1 a' w' ∧ μ1 a' w' < μ1 a w)) Q) a w)
    (hμ : ∀ a w a' w', J0 a w → J1 a' w' → μ1 a' w' < μ0 a w) : (Code.scope c).wp P Q a w := by
  have p1 : ∀ a w (K : Act → World → Prop), J1 a w → R1.wp P (Exit.jumps (two K J1) Q) a w := fun a w K h => wp_mono (pass1 a w h) (Exit.jumps_mono fun l a w h => by
    match l with
    | 0 => exact h.elim
    | 1 => exact h.1
    | _ + 2 => exact h.elim)
  have p0 := pass0 p1
  refine wp_scope_multi (two J0 J1) (fun l => match l with | 0 => μ0 | _ => μ1) (first fun a w h => wp_mono (p0 a w h) (Exit.jumps_mono fun l a w h => by
    match l with
    | 0 => exact h.1
    | 1 => exact h
    | _ + 2 => exact h.elim)) ?_
  intro l a w h
  match l with
  | 0 =>
    refine ⟨_, hf0, wp_seq (wp_skip (wp_mono (p0 a w h) (Exit.jumps_mono fun l a' w' h' => ?_)))⟩
    match l with
    | 0 => exact h'
    | 1 => exact ⟨h', hμ a w a' w' h h'⟩
    | _ + 2 => exact h'.elim
  | 1 =>
    refine ⟨_, hf1, wp_seq (wp_skip (wp_mono (pass1 a w h) (Exit.jumps_mono fun l a' w' h' => ?_)))⟩
    match l with
    | 0 => exact h'.elim
    | 1 => exact h'
    | _ + 2 => exact h'.elim
  | _ + 2 => exact h.elim

/-- Nothing that was there has turned; memory may have grown. -/
def G (w w' : World) : Prop := Below w.heap.size w w'
theorem G.refl (w : World) : G w w := Below.refl _ _
theorem G.trans {a b c : World} (h : G a b) (k : G b c) : G a c := Below.trans h (Below.mono k h.size)
theorem G.drew (w : World) : G w w.drew := Below.drew (Below.refl _ _)
theorem G.drewN (w : World) (n : Nat) : G w (w.drewN n) := ⟨rfl, rfl, rfl, Nat.le_refl _, fun _ _ => rfl⟩
theorem G.alloc (w : World) (o : Obj) : G w (w.alloc o) := Below.alloc (Below.refl _ _) (Nat.le_refl _) o
theorem G.cell {w w' : World} (h : G w w') {p : Addr} {v : Value} (hp : w.cell? p = some v) : w'.cell? p = some v := by
  have hb : p.block < w.heap.size := by
    rcases Nat.lt_or_ge p.block w.heap.size with h | h
    · exact h
    · simp [World.cell?, Array.getElem?_eq_none h] at hp
  rw [Below.cell h hb, hp]
/-- The length of a slot's text: for a measure. -/
def strLen : Value → Nat | .string s => s.size | _ => 0
/-- Nothing has turned; new blocks lie behind, and some draws were made. -/
def Grw (w w' : World) : Prop := ∃ q os, w' = Sort.grow (w.drewN q) os
theorem Grw.refl (w : World) : Grw w w := ⟨0, #[], by simp [Sort.grow, World.drewN]⟩
theorem Grw.alloc {w w' : World} (h : Grw w w') (o : Obj) : Grw w (w'.alloc o) := by
  obtain ⟨q, os, rfl⟩ := h
  exact ⟨q, os ++ #[o], by rw [Sort.alloc_eq_grow, Sort.grow_grow]⟩
theorem Grw.drew {w w' : World} (h : Grw w w') : Grw w w'.drew := by
  obtain ⟨q, os, rfl⟩ := h
  exact ⟨q + 1, os, rfl⟩
theorem Grw.drewN {w w' : World} (h : Grw w w') (n : Nat) : Grw w (w'.drewN n) := by
  obtain ⟨q, os, rfl⟩ := h
  refine ⟨q + n, os, ?_⟩
  rw [← World.drewN_drewN]; rfl
theorem Grw.trans {a b c : World} (h : Grw a b) (k : Grw b c) : Grw a c := by
  obtain ⟨q, os, rfl⟩ := h
  obtain ⟨q', os', rfl⟩ := k
  refine ⟨q + q', os ++ os', ?_⟩
  rw [← World.drewN_drewN, ← Sort.grow_grow]; rfl
theorem Grw.G {w w' : World} (h : Grw w w') : G w w' := by
  obtain ⟨q, os, rfl⟩ := h
  refine ⟨rfl, rfl, rfl, by simp [Sort.grow], fun k hk => ?_⟩
  show (w.heap ++ os)[k]? = w.heap[k]?
  rw [Array.getElem?_append_left hk]
/-- The cells from an address on hold these values. -/
def Row (w : World) (b off : Nat) (vs : List Value) : Prop := ∀ i (h : i < vs.length), w.cell? ⟨b, off + i, none⟩ = some vs[i]
theorem Row.of {w w' : World} {b off : Nat} {vs : List Value} (h : Row w b off vs) (g : G w w') : Row w' b off vs := fun i hi => g.cell (h i hi)
theorem row_alloc (w : World) (vs : List Value) (t : TypeId) : Row (w.alloc (.cells vs.toArray t)) w.heap.size 0 vs := by
  intro i hi
  have e : (w.alloc (.cells vs.toArray t)).heap[w.heap.size]? = some (.cells vs.toArray t) := by
    show (w.heap.push (.cells vs.toArray t))[w.heap.size]? = _
    simp
  unfold World.cell?
  simp only [e, Nat.zero_add]
  simp [hi]
/-- A slice of n elements whose cells hold these values. -/
def Sl (w : World) (v : Value) (n : Nat) (vs : List Value) : Prop :=
  (v = .slice none 0 0 ∧ n = 0 ∧ vs = []) ∨ ∃ b off cap, v = .slice (some ⟨b, off, none⟩) n cap ∧ Row w b off vs
theorem Sl.of {w w' : World} {v : Value} {n : Nat} {vs : List Value} (h : Sl w v n vs) (g : G w w') : Sl w' v n vs := by
  rcases h with h | ⟨b, off, cap, h1, h2⟩
  · exact .inl h
  · exact .inr ⟨b, off, cap, h1, h2.of g⟩
theorem Sl.nil (w : World) : Sl w (.slice none 0 0) 0 [] := .inl ⟨rfl, rfl, rfl⟩
/-- A slice of n elements, whatever its address, whose cells hold these values. -/
def Sh (w : World) (v : Value) (n : Nat) (vs : List Value) : Prop :=
  ∃ p cap, v = .slice p n cap ∧ ∀ i x, vs[i]? = some x → ∃ b off, p = some ⟨b, off, none⟩ ∧ w.cell? ⟨b, off + i, none⟩ = some x
theorem Sh.of {w w' : World} {v : Value} {n : Nat} {vs : List Value} (h : Sh w v n vs) (g : G w w') : Sh w' v n vs := by
  obtain ⟨p, cap, hv, hr⟩ := h
  refine ⟨p, cap, hv, fun i x hx => ?_⟩
  obtain ⟨b, off, hp, hc⟩ := hr i x hx
  exact ⟨b, off, hp, g.cell hc⟩
theorem Sh.news {w : World} {a : Addr} {n m cap : Nat} {vs : List Value} (h : Sh w (.slice (some a) n cap) m vs) : ∀ j u, vs[j]? = some u → w.cell? (a.add j) = some u := by
  obtain ⟨p, cap', hv, hr⟩ := h
  intro j u hu
  obtain ⟨b, off, hp, hc⟩ := hr j u hu
  cases hv
  cases hp
  rw [Addr.add_lit]; exact hc
theorem Sh.own {w : World} {base : Nat} {e : TypeId} {size : Nat} {v : Value} {n : Nat} {vs : List Value} (h : w.ownsRow base e size v n vs) : Sh w v n vs := by
  obtain ⟨h1, ⟨h2, h3⟩ | ⟨g, cap, cur, hv, _, hh, hn, _, hs, ht⟩⟩ := h
  · subst h2 h3
    have : vs = [] := List.eq_nil_of_length_eq_zero (by simpa using h1)
    subst this
    exact ⟨none, 0, rfl, fun i x hx => by simp at hx⟩
  · refine ⟨_, cap, hv, fun i x hx => ⟨g, 0, rfl, ?_⟩⟩
    have hi : i < n * size := by rw [← h1]; exact (List.getElem?_eq_some_iff.1 hx).1
    have e : cur.toList[i]? = some x := by rw [← ht, List.getElem?_take_of_lt hi] at hx; exact hx
    unfold World.cell?
    simp only [hh, Nat.zero_add]
    rw [← Array.getElem?_toList, e]
    simp
theorem Sl.shape {w : World} {v : Value} {n : Nat} {vs : List Value} (h : Sl w v n vs) : Sh w v n vs := by
  rcases h with ⟨hv, hn, h0⟩ | ⟨b, off, cap, hv, hr⟩
  · subst h0 hn; exact ⟨none, 0, hv, fun i x hx => by simp at hx⟩
  · refine ⟨_, cap, hv, fun i x hx => ⟨b, off, rfl, ?_⟩⟩
    obtain ⟨hi, rfl⟩ := List.getElem?_eq_some_iff.1 hx
    exact hr i hi
/-- The cells of elements of k cells each. -/
theorem flat_get {α : Type} (f : α → List Value) (k : Nat) (hk : ∀ x, (f x).length = k) : ∀ (l : List α) (i : Nat) (a : α) (j : Nat), l[i]? = some a → j < k → (l.flatMap f)[i * k + j]? = (f a)[j]?
  | [], _, _, _, h, _ => by simp at h
  | x :: r, 0, a, j, h, hj => by
    simp at h; subst h
    rw [List.flatMap_cons, Nat.zero_mul, Nat.zero_add, List.getElem?_append_left (by rw [hk]; exact hj)]
  | x :: r, i + 1, a, j, h, hj => by
    have h' : r[i]? = some a := by simpa using h
    rw [List.flatMap_cons, List.getElem?_append_right (by rw [hk, Nat.add_mul]; omega), hk]
    rw [show (i + 1) * k + j - k = i * k + j by rw [Nat.add_mul]; omega]
    exact flat_get f k hk r i a j h' hj
theorem flat_len {α : Type} (f : α → List Value) (k : Nat) (hk : ∀ x, (f x).length = k) (l : List α) : (l.flatMap f).length = l.length * k := by
  induction l with
  | nil => simp
  | cons x r ih => rw [List.flatMap_cons, List.length_append, hk, ih, List.length_cons, Nat.add_mul]; omega
/-- A slice of ints. -/
def Ints (w : World) (v : Value) (zs : List Int) : Prop := Sh w v zs.length (zs.map (Value.int .i64))
theorem Ints.of {w w' : World} {v : Value} {zs : List Int} (h : Ints w v zs) (g : G w w') : Ints w' v zs := Sh.of h g
theorem Ints.shape {w : World} {v : Value} {zs : List Int} (h : Ints w v zs) :
    ∃ p cap, v = .slice p zs.length cap ∧ ∀ i z, zs[i]? = some z → ∃ b off, p = some ⟨b, off, none⟩ ∧ w.cell? ⟨b, off + i, none⟩ = some (.int .i64 z) := by
  obtain ⟨p, cap, hv, hr⟩ := h
  exact ⟨p, cap, hv, fun i z hz => hr i _ (by rw [List.getElem?_map, hz]; rfl)⟩
/-- A slice of texts. -/
def Strs (w : World) (v : Value) (xs : List (List UInt8)) : Prop := Sl w v xs.length (xs.map (fun x => Value.string ⟨x.toArray⟩))
theorem Strs.of {w w' : World} {v : Value} {xs : List (List UInt8)} (h : Strs w v xs) (g : G w w') : Strs w' v xs := Sl.of h g
theorem Strs.out {w : World} {v : Value} {xs : List (List UInt8)} (h : Strs w v xs) :
    (v = .slice none 0 0 ∧ xs = []) ∨ ∃ b off cap, v = .slice (some ⟨b, off, none⟩) xs.length cap ∧ ∀ i x, xs[i]? = some x → w.cell? ⟨b, off + i, none⟩ = some (.string ⟨x.toArray⟩) := by
  rcases h with ⟨h1, h2, h3⟩ | ⟨b, off, cap, h1, h2⟩
  · exact .inl ⟨h1, List.eq_nil_of_length_eq_zero h2⟩
  · refine .inr ⟨b, off, cap, h1, fun i x hx => ?_⟩
    obtain ⟨hi, rfl⟩ := List.getElem?_eq_some_iff.1 hx
    rw [h2 i (by simpa using hi)]
    simp
theorem Strs.shape {w : World} {v : Value} {xs : List (List UInt8)} (h : Strs w v xs) :
    ∃ p cap, v = .slice p xs.length cap ∧ ∀ i x, xs[i]? = some x → ∃ b off, p = some ⟨b, off, none⟩ ∧ w.cell? ⟨b, off + i, none⟩ = some (.string ⟨x.toArray⟩) := by
  rcases h.out with ⟨hv, h0⟩ | ⟨b, off, cap, hv, hr⟩
  · subst h0; exact ⟨none, 0, hv, fun i x hx => by simp at hx⟩
  · exact ⟨_, cap, hv, fun i x hx => ⟨b, off, rfl, hr i x hx⟩⟩
def RetStrs (w : World) (xs : List (List UInt8)) (e : Ending) (w' : World) : Prop := ∃ v, e = .returned v ∧ Strs w' v xs ∧ G w w'
theorem Strs.nil (w : World) : Strs w (.slice none 0 0) [] := Sl.nil w

theorem G.lt {w w' : World} (h : G w w') : w.heap.size ≤ w'.heap.size := Below.size h
theorem G.grown {w wr w' : World} {e : TypeId} {size : Nat} {v : Value} {n : Nat} {xs : List Value} (h : G w wr) (ho : wr.ownsRow w.heap.size e size v n xs) (hg : wr.grownBy w' v.ownBlock) : G w w' :=
  Below.grown h hg h.lt (fun k hk => (ho.lt k hk).1)
theorem Strs.own {w : World} {base : Nat} {e : TypeId} {v : Value} {xs : List (List UInt8)} (h : w.ownsRow base e 1 v xs.length (xs.map (fun x => Value.string ⟨x.toArray⟩))) : Strs w v xs := by
  obtain ⟨h1, ⟨h2, h3⟩ | ⟨g, cap, cur, hv, _, hh, hn, _, hs, ht⟩⟩ := h
  · exact .inl ⟨h2, h3, by rw [List.eq_nil_of_length_eq_zero h3]; rfl⟩
  · refine .inr ⟨g, 0, cap, hv, fun i hi => ?_⟩
    have hi' : i < xs.length := by simpa using hi
    have e : cur.toList[i]? = some ((xs.map (fun x => Value.string ⟨x.toArray⟩))[i]) := by
      rw [← List.getElem?_eq_getElem hi, ← ht, List.getElem?_take_of_lt (by omega)]
    unfold World.cell?
    simp only [hh, Nat.zero_add]
    rw [← Array.getElem?_toList, e]
    simp
theorem ret_bool {a b : Bool} (h : a = b) : Ending.returned (.bool a) = .returned (.bool b) := by rw [h]
theorem ret_int {k : IntKind} {a b : Int} (h : a = b) : Ending.returned (.int k a) = .returned (.int k b) := by rw [h]
theorem ret_str {a b : List UInt8} (h : a = b) : Ending.returned (.string ⟨a.toArray⟩) = .returned (.string ⟨b.toArray⟩) := by rw [h]
theorem ret_boolw {a b : Bool} {w w' : World} (h : a = b) (g : G w w') : Ending.returned (.bool a) = .returned (.bool b) ∧ G w w' := ⟨by rw [h], g⟩
theorem ba_extract (l : List UInt8) (a b : Nat) : (ByteArray.mk l.toArray).extract a b = ⟨((l.take b).drop a).toArray⟩ := by
  apply ByteArray.ext
  simp [List.extract_eq_take_drop, List.take_drop]
  by_cases h : a ≤ b
  · congr 2; omega
  · rw [List.drop_of_length_le (by simp; omega)]
    have : b - a = 0 := by omega
    simp [this]; omega
theorem ba_append (l m : List UInt8) : (ByteArray.mk l.toArray) ++ (ByteArray.mk m.toArray) = ⟨(l ++ m).toArray⟩ := by
  apply ByteArray.ext
  simp

/-- The worlds that w may have grown to. -/
def KG (w : World) : Type := { w' : World // G w w' }
instance KG.ne (w : World) : Nonempty (KG w) := ⟨⟨w, G.refl w⟩⟩
theorem KG.cell {w : World} {p : Addr} {v : Value} (h : w.cell? p = some v) (k : KG w) : k.val.cell? p = some v := k.property.cell h
theorem wp_region_G {P : Program} {id : Nat} {Q : Exit → Act → World → Prop} {a : Act} {w : World} {l : List Oper} (hm : P.follows .mixedOrders = true) (hB : Region.lexB .any l.toArray = true)
    (h : wpQuiet P l.toArray (fun w' => ∃ k : KG w, w' = k.val) (fun a' => ∀ w', (∃ k : KG w, w' = k.val) → Q .normal a' w') l a) : (Code.region id l.toArray true).wp P Q a w :=
  wp_region_quiet (C := fun w' => ∃ k : KG w, w' = k.val) hm hB ⟨⟨w.drew, G.drew w⟩, rfl⟩ (by simpa using h)
theorem Calls.kg {P : Program} {f : FuncId} {args : Array Value} {w : World} {k : KG w} {v : Value}
    (h : Calls P f args k.val fun e w' => e = .returned v ∧ G k.val w') : Calls P f args k.val fun e w'' => e = .returned v ∧ ∃ k' : KG w, w'' = k'.val :=
  h.mono fun _ w' ⟨he, hg⟩ => ⟨he, ⟨w', k.property.trans hg⟩, rfl⟩

/-- These slots hold these values. -/
def slotsAre : List (Nat × Value) → Array Value → Prop
  | [], _ => True
  | (k, v) :: r, t => t.getD k undef = v ∧ slotsAre r t
/-- A frame of n slots of which some are known. -/
def Fr (n : Nat) (S : List (Nat × Value)) (a : Act) : Prop := a.defers = [] ∧ a.tmps.size = n ∧ slotsAre S a.tmps
theorem slotsAre_lookup : ∀ (S : List (Nat × Value)) (t : Array Value) (k : Nat), slotsAre S t → (S.lookup k).getD (t.getD k undef) = t.getD k undef
  | [], _, _, _ => rfl
  | (j, v) :: r, t, k, h => by
    rw [List.lookup_cons]
    by_cases e : k = j
    · subst e; simp only [beq_self_eq_true, Option.getD_some]; exact h.1.symm
    · have : (k == j) = false := by simp [e]
      rw [this]; exact slotsAre_lookup r t k h.2
theorem Fr.opened {n : Nat} {S : List (Nat × Value)} {a : Act} (h : Fr n S a) : ∃ u : Nat → Value, a = ⟨((List.range n).map (fun k => (S.lookup k).getD (u k))).toArray, []⟩ := by
  obtain ⟨t, d⟩ := a
  obtain ⟨h1, h2, h3⟩ := h
  simp only at h1 h2 h3
  subst h1
  refine ⟨fun k => t.getD k undef, ?_⟩
  congr 1
  apply Array.ext
  · simp [h2]
  · intro i hi _
    have : (S.lookup i).getD (t.getD i undef) = t.getD i undef := slotsAre_lookup S t i h3
    simp only [List.getElem_toArray, List.getElem_map, List.getElem_range, this]
    simp [Array.getD, hi]
end Go.Proofs.Ytmchdjpgceiloaa
