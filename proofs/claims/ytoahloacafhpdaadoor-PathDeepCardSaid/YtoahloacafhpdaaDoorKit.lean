/-
  SMALL LAWS OF THE WALK for this seat's texts: a scope with one label that is jumped back to, walked once.
-/
import Derived.ScopeJumps
import Derived.WalkKit
import Derived.WalkSpells
import Derived.WalkLawsBesides
import Derived.WalkMore
import Derived.Outline
import Derived.Lib.Hide
import Derived.Lib.Strings
namespace Go.Proofs.YtoahloacafhpdaaDoor
open Go.RowKit

theorem Exit.jump_mono {l : Nat} {J J' : Act → World → Prop} {Q : Exit → Act → World → Prop} (h : ∀ a w, J a w → J' a w) :
    ∀ e a w, Exit.jump l J Q e a w → Exit.jump l J' Q e a w := by
  intro e a w hj
  cases e <;> first | exact hj | exact ⟨hj.1, h _ _ hj.2⟩

/-- A scope whose one label is jumped back to: the code behind the label is walked once. -/
theorem wp_scope_lab {P : Program} {Q : Exit → Act → World → Prop} {a : Act} {w : World} {c R : Code} (l : Nat) (J : Act → World → Prop) (μ : Act → World → Nat)
    (hf : findLabel c l = some (.seq .skip R))
    (first : Hid (∀ a w, J a w → R.wp P (Exit.jump l J Q) a w) → c.wp P (Exit.jump l J Q) a w)
    (pass : ∀ a w, J a w → R.wp P (Exit.jump l (fun a' w' => J a' w' ∧ μ a' w' < μ a w) Q) a w) : (Code.scope c).wp P Q a w := by
  refine wp_scope_jumps l J μ hf (first ?_) (fun a w h => wp_seq (wp_skip (pass a w h)))
  intro a w h
  exact wp_mono (pass a w h) (Exit.jump_mono fun _ _ h => h.1)

/-- Nothing that was there has turned; memory may have grown. -/
def G (w w' : World) : Prop := Below w.heap.size w w'
theorem G.refl (w : World) : G w w := Below.refl _ _
theorem G.trans {a b c : World} (h : G a b) (k : G b c) : G a c := Below.trans h (Below.mono k h.size)
theorem G.drew (w : World) : G w w.drew := Below.drew (Below.refl _ _)
theorem G.drewN (w : World) (n : Nat) : G w (w.drewN n) := ⟨rfl, rfl, rfl, Nat.le_refl _, fun _ _ => rfl⟩
theorem G.alloc (w : World) (o : Obj) : G w (w.alloc o) := Below.alloc (Below.refl _ _) (Nat.le_refl _) o
theorem G.cell {w w' : World} (h : G w w') {p : Addr} {v : Value} (hp : w.cell? p = some v) : w'.cell? p = some v := by
  have hb : p.block < w.heap.size := by
    rcases Nat.lt_or_ge p.block w.heap.size with h | h
    · exact h
    · simp [World.cell?, Array.getElem?_eq_none h] at hp
  rw [Below.cell h hb, hp]
/-- The length of a slot's text: for a measure. -/
def strLen : Value → Nat | .string s => s.size | _ => 0
/-- The library's own variable holds a number. -/
def Ok (w : World) : Prop := ∃ m : Int, w.cell? ⟨0, 0, none⟩ = some (.int .i64 m)
theorem Ok.of {w w' : World} (h : Ok w) (g : G w w') : Ok w' := h.elim fun m hm => ⟨m, g.cell hm⟩

/-- The cells from an address on hold these values. -/
def Row (w : World) (b off : Nat) (vs : List Value) : Prop := ∀ i (h : i < vs.length), w.cell? ⟨b, off + i, none⟩ = some vs[i]
theorem Row.of {w w' : World} {b off : Nat} {vs : List Value} (h : Row w b off vs) (g : G w w') : Row w' b off vs := fun i hi => g.cell (h i hi)
theorem row_alloc (w : World) (vs : List Value) (t : TypeId) : Row (w.alloc (.cells vs.toArray t)) w.heap.size 0 vs := by
  intro i hi
  have e : (w.alloc (.cells vs.toArray t)).heap[w.heap.size]? = some (.cells vs.toArray t) := by
    show (w.heap.push (.cells vs.toArray t))[w.heap.size]? = _
    simp
  unfold World.cell?
  simp only [e, Nat.zero_add]
  simp [hi]
/-- A slice of n elements whose cells hold these values. -/
def Sl (w : World) (v : Value) (n : Nat) (vs : List Value) : Prop :=
  (v = .slice none 0 0 ∧ n = 0 ∧ vs = []) ∨ ∃ b off cap, v = .slice (some ⟨b, off, none⟩) n cap ∧ Row w b off vs
theorem Sl.of {w w' : World} {v : Value} {n : Nat} {vs : List Value} (h : Sl w v n vs) (g : G w w') : Sl w' v n vs := by
  rcases h with h | ⟨b, off, cap, h1, h2⟩
  · exact .inl h
  · exact .inr ⟨b, off, cap, h1, h2.of g⟩
theorem Sl.nil (w : World) : Sl w (.slice none 0 0) 0 [] := .inl ⟨rfl, rfl, rfl⟩
/-- A slice of n elements, whatever its address, whose cells hold these values. -/
def Sh (w : World) (v : Value) (n : Nat) (vs : List Value) : Prop :=
  ∃ p cap, v = .slice p n cap ∧ ∀ i x, vs[i]? = some x → ∃ b off, p = some ⟨b, off, none⟩ ∧ w.cell? ⟨b, off + i, none⟩ = some x
theorem Sh.of {w w' : World} {v : Value} {n : Nat} {vs : List Value} (h : Sh w v n vs) (g : G w w') : Sh w' v n vs := by
  obtain ⟨p, cap, hv, hr⟩ := h
  refine ⟨p, cap, hv, fun i x hx => ?_⟩
  obtain ⟨b, off, hp, hc⟩ := hr i x hx
  exact ⟨b, off, hp, g.cell hc⟩
theorem Sl.shape {w : World} {v : Value} {n : Nat} {vs : List Value} (h : Sl w v n vs) : Sh w v n vs := by
  rcases h with ⟨hv, hn, h0⟩ | ⟨b, off, cap, hv, hr⟩
  · subst h0 hn; exact ⟨none, 0, hv, fun i x hx => by simp at hx⟩
  · refine ⟨_, cap, hv, fun i x hx => ⟨b, off, rfl, ?_⟩⟩
    obtain ⟨hi, rfl⟩ := List.getElem?_eq_some_iff.1 hx
    exact hr i hi
/-- A slice of ints. -/
def Ints (w : World) (v : Value) (zs : List Int) : Prop := Sh w v zs.length (zs.map (Value.int .i64))
theorem Ints.of {w w' : World} {v : Value} {zs : List Int} (h : Ints w v zs) (g : G w w') : Ints w' v zs := Sh.of h g
theorem Ints.shape {w : World} {v : Value} {zs : List Int} (h : Ints w v zs) :
    ∃ p cap, v = .slice p zs.length cap ∧ ∀ i z, zs[i]? = some z → ∃ b off, p = some ⟨b, off, none⟩ ∧ w.cell? ⟨b, off + i, none⟩ = some (.int .i64 z) := by
  obtain ⟨p, cap, hv, hr⟩ := h
  exact ⟨p, cap, hv, fun i z hz => hr i _ (by rw [List.getElem?_map, hz]; rfl)⟩
/-- A slice of texts. -/
def Strs (w : World) (v : Value) (xs : List (List UInt8)) : Prop := Sl w v xs.length (xs.map (fun x => Value.string ⟨x.toArray⟩))
theorem Strs.of {w w' : World} {v : Value} {xs : List (List UInt8)} (h : Strs w v xs) (g : G w w') : Strs w' v xs := Sl.of h g
theorem Strs.out {w : World} {v : Value} {xs : List (List UInt8)} (h : Strs w v xs) :
    (v = .slice none 0 0 ∧ xs = []) ∨ ∃ b off cap, v = .slice (some ⟨b, off, none⟩) xs.length cap ∧ ∀ i x, xs[i]? = some x → w.cell? ⟨b, off + i, none⟩ = some (.string ⟨x.toArray⟩) := by
  rcases h with ⟨h1, h2, h3⟩ | ⟨b, off, cap, h1, h2⟩
  · exact .inl ⟨h1, List.eq_nil_of_length_eq_zero h2⟩
  · refine .inr ⟨b, off, cap, h1, fun i x hx => ?_⟩
    obtain ⟨hi, rfl⟩ := List.getElem?_eq_some_iff.1 hx
    rw [h2 i (by simpa using hi)]
    simp
theorem Strs.shape {w : World} {v : Value} {xs : List (List UInt8)} (h : Strs w v xs) :
    ∃ p cap, v = .slice p xs.length cap ∧ ∀ i x, xs[i]? = some x → ∃ b off, p = some ⟨b, off, none⟩ ∧ w.cell? ⟨b, off + i, none⟩ = some (.string ⟨x.toArray⟩) := by
  rcases h.out with ⟨hv, h0⟩ | ⟨b, off, cap, hv, hr⟩
  · subst h0; exact ⟨none, 0, hv, fun i x hx => by simp at hx⟩
  · exact ⟨_, cap, hv, fun i x hx => ⟨b, off, rfl, hr i x hx⟩⟩
def RetStrs (w : World) (xs : List (List UInt8)) (e : Ending) (w' : World) : Prop := ∃ v, e = .returned v ∧ Strs w' v xs ∧ G w w'
theorem Strs.nil (w : World) : Strs w (.slice none 0 0) [] := Sl.nil w

theorem G.lt {w w' : World} (h : G w w') : w.heap.size ≤ w'.heap.size := Below.size h
theorem G.grown {w wr w' : World} {e : TypeId} {size : Nat} {v : Value} {n : Nat} {xs : List Value} (h : G w wr) (ho : wr.ownsRow w.heap.size e size v n xs) (hg : wr.grownBy w' v.ownBlock) : G w w' :=
  Below.grown h hg h.lt (fun k hk => (ho.lt k hk).1)
theorem Strs.own {w : World} {base : Nat} {e : TypeId} {v : Value} {xs : List (List UInt8)} (h : w.ownsRow base e 1 v xs.length (xs.map (fun x => Value.string ⟨x.toArray⟩))) : Strs w v xs := by
  obtain ⟨h1, ⟨h2, h3⟩ | ⟨g, cap, cur, hv, _, hh, hn, _, hs, ht⟩⟩ := h
  · exact .inl ⟨h2, h3, by rw [List.eq_nil_of_length_eq_zero h3]; rfl⟩
  · refine .inr ⟨g, 0, cap, hv, fun i hi => ?_⟩
    have hi' : i < xs.length := by simpa using hi
    have e : cur.toList[i]? = some ((xs.map (fun x => Value.string ⟨x.toArray⟩))[i]) := by
      rw [← List.getElem?_eq_getElem hi, ← ht, List.getElem?_take_of_lt (by omega)]
    unfold World.cell?
    simp only [hh, Nat.zero_add]
    rw [← Array.getElem?_toList, e]
    simp
theorem ret_bool {a b : Bool} (h : a = b) : Ending.returned (.bool a) = .returned (.bool b) := by rw [h]
theorem ret_int {k : IntKind} {a b : Int} (h : a = b) : Ending.returned (.int k a) = .returned (.int k b) := by rw [h]
theorem ret_str {a b : List UInt8} (h : a = b) : Ending.returned (.string ⟨a.toArray⟩) = .returned (.string ⟨b.toArray⟩) := by rw [h]
theorem ret_boolw {a b : Bool} {w w' : World} (h : a = b) (g : G w w') : Ending.returned (.bool a) = .returned (.bool b) ∧ G w w' := ⟨by rw [h], g⟩
theorem ba_extract (l : List UInt8) (a b : Nat) : (ByteArray.mk l.toArray).extract a b = ⟨((l.take b).drop a).toArray⟩ := by
  apply ByteArray.ext
  simp [List.extract_eq_take_drop, List.take_drop]
  by_cases h : a ≤ b
  · congr 2; omega
  · rw [List.drop_of_length_le (by simp; omega)]
    have : b - a = 0 := by omega
    simp [this]; omega
theorem ba_append (l m : List UInt8) : (ByteArray.mk l.toArray) ++ (ByteArray.mk m.toArray) = ⟨(l ++ m).toArray⟩ := by
  apply ByteArray.ext
  simp
end Go.Proofs.YtoahloacafhpdaaDoor
