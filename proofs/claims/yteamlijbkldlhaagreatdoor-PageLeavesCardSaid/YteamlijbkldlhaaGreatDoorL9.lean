import Derived.ScopeJumps
import Derived.WalkKit
import Derived.WalkSpells
import Derived.WalkLawsBesides
import Derived.WalkMore
import Derived.Outline
import Derived.Lib.Hide
import Derived.Lib.Strings
import Derived.Deep.QuietTactic
import Derived.BigQuiet
import Derived.Sort.Grow
import Derived.Laws.AppendOwn
import Derived.Laws.AppendOwnNone
import Derived.Laws.Rows
import Derived.Laws.Externs
import Derived.Laws.IdiomStrings
import Derived.Lib.AppendIntMem
import Derived.Lib.AppendStr
import Derived.Laws.MakeOwn
import Derived.Lib.BufferWrite
section
set_option linter.unusedSimpArgs false
set_option linter.unusedVariables false
namespace Go.Proofs.YteamlijbkldlhaaGreatDoor
open Go.RowKit

def Exit.jumps (J : Nat → Act → World → Prop) (Q : Exit → Act → World → Prop) : Exit → Act → World → Prop
 | .goto l,a,w => J l a w
 | e,a,w => Q e a w
def two (J0 J1 : Act → World → Prop) : Nat → Act → World → Prop
 | 0 => J0
 | 1 => J1
 | _ => fun _ _ => False
def G (w w' : World) : Prop := Below w.heap.size w w'
theorem G.refl (w : World) : G w w := Below.refl _ _
theorem G.trans {a b c : World} (h : G a b) (k : G b c) : G a c := Below.trans h (Below.mono k h.size)
theorem G.drew (w : World) : G w w.drew := Below.drew (Below.refl _ _)
theorem G.drewN (w : World) (n : Nat) : G w (w.drewN n) := ⟨rfl,rfl,rfl,Nat.le_refl _,fun _ _ => rfl⟩
theorem G.alloc (w : World) (o : Obj) : G w (w.alloc o) := Below.alloc (Below.refl _ _) (Nat.le_refl _) o
theorem G.cell {w w' : World} (h : G w w') {p : Addr} {v : Value} (hp : w.cell? p = some v) : w'.cell? p = some v := by
 have hb : p.block < w.heap.size := by
  rcases Nat.lt_or_ge p.block w.heap.size with h | h
  ·exact h
  ·simp [World.cell?,Array.getElem?_eq_none h] at hp
 rw [Below.cell h hb,hp]
def Grw (w w' : World) : Prop := ∃ q os,w' = Sort.grow (w.drewN q) os
theorem Grw.refl (w : World) : Grw w w := ⟨0,#[],by simp [Sort.grow,World.drewN]⟩
theorem Grw.alloc {w w' : World} (h : Grw w w') (o : Obj) : Grw w (w'.alloc o) := by
 obtain ⟨q,os,rfl⟩ := h
 exact ⟨q,os ++ #[o],by rw [Sort.alloc_eq_grow,Sort.grow_grow]⟩
theorem Grw.drew {w w' : World} (h : Grw w w') : Grw w w'.drew := by
 obtain ⟨q,os,rfl⟩ := h
 exact ⟨q + 1,os,rfl⟩
theorem Grw.drewN {w w' : World} (h : Grw w w') (n : Nat) : Grw w (w'.drewN n) := by
 obtain ⟨q,os,rfl⟩ := h
 refine ⟨q + n,os,?_⟩
 rw [← World.drewN_drewN];rfl
theorem Grw.trans {a b c : World} (h : Grw a b) (k : Grw b c) : Grw a c := by
 obtain ⟨q,os,rfl⟩ := h
 obtain ⟨q',os',rfl⟩ := k
 refine ⟨q + q',os ++ os',?_⟩
 rw [← World.drewN_drewN,← Sort.grow_grow];rfl
theorem Grw.G {w w' : World} (h : Grw w w') : G w w' := by
 obtain ⟨q,os,rfl⟩ := h
 refine ⟨rfl,rfl,rfl,by simp [Sort.grow],fun k hk => ?_⟩
 show (w.heap ++ os)[k]? = w.heap[k]?
 rw [Array.getElem?_append_left hk]
def Row (w : World) (b off : Nat) (vs : List Value) : Prop := ∀ i (h : i < vs.length),w.cell? ⟨b,off + i,none⟩ = some vs[i]
theorem Row.of {w w' : World} {b off : Nat} {vs : List Value} (h : Row w b off vs) (g : G w w') : Row w' b off vs := fun i hi => g.cell (h i hi)
def Sl (w : World) (v : Value) (n : Nat) (vs : List Value) : Prop :=
 (v = .slice none 0 0 ∧ n = 0 ∧ vs = []) ∨ ∃ b off cap,v = .slice (some ⟨b,off,none⟩) n cap ∧ Row w b off vs
theorem Sl.of {w w' : World} {v : Value} {n : Nat} {vs : List Value} (h : Sl w v n vs) (g : G w w') : Sl w' v n vs := by
 rcases h with h | ⟨b,off,cap,h1,h2⟩
 ·exact .inl h
 ·exact .inr ⟨b,off,cap,h1,h2.of g⟩
theorem Sl.nil (w : World) : Sl w (.slice none 0 0) 0 [] := .inl ⟨rfl,rfl,rfl⟩
def Sh (w : World) (v : Value) (n : Nat) (vs : List Value) : Prop :=
 ∃ p cap,v = .slice p n cap ∧ ∀ i x,vs[i]? = some x → ∃ b off,p = some ⟨b,off,none⟩ ∧ w.cell? ⟨b,off + i,none⟩ = some x
theorem Sh.of {w w' : World} {v : Value} {n : Nat} {vs : List Value} (h : Sh w v n vs) (g : G w w') : Sh w' v n vs := by
 obtain ⟨p,cap,hv,hr⟩ := h
 refine ⟨p,cap,hv,fun i x hx => ?_⟩
 obtain ⟨b,off,hp,hc⟩ := hr i x hx
 exact ⟨b,off,hp,g.cell hc⟩
theorem Sh.news {w : World} {a : Addr} {n m cap : Nat} {vs : List Value} (h : Sh w (.slice (some a) n cap) m vs) : ∀ j u,vs[j]? = some u → w.cell? (a.add j) = some u := by
 obtain ⟨p,cap',hv,hr⟩ := h
 intro j u hu
 obtain ⟨b,off,hp,hc⟩ := hr j u hu
 cases hv
 cases hp
 rw [Addr.add_lit];exact hc
theorem Sh.own {w : World} {base : Nat} {e : TypeId} {size : Nat} {v : Value} {n : Nat} {vs : List Value} (h : w.ownsRow base e size v n vs) : Sh w v n vs := by
 obtain ⟨h1,⟨h2,h3⟩ | ⟨g,cap,cur,hv,_,hh,hn,_,hs,ht⟩⟩ := h
 ·subst h2 h3
  have : vs = [] := List.eq_nil_of_length_eq_zero (by simpa using h1)
  subst this
  exact ⟨none,0,rfl,fun i x hx => by simp at hx⟩
 ·refine ⟨_,cap,hv,fun i x hx => ⟨g,0,rfl,?_⟩⟩
  have hi : i < n * size := by rw [← h1];exact (List.getElem?_eq_some_iff.1 hx).1
  have e : cur.toList[i]? = some x := by rw [← ht,List.getElem?_take_of_lt hi] at hx;exact hx
  unfold World.cell?
  simp only [hh,Nat.zero_add]
  rw [← Array.getElem?_toList,e]
  simp
theorem Sl.shape {w : World} {v : Value} {n : Nat} {vs : List Value} (h : Sl w v n vs) : Sh w v n vs := by
 rcases h with ⟨hv,hn,h0⟩ | ⟨b,off,cap,hv,hr⟩
 ·subst h0 hn;exact ⟨none,0,hv,fun i x hx => by simp at hx⟩
 ·refine ⟨_,cap,hv,fun i x hx => ⟨b,off,rfl,?_⟩⟩
  obtain ⟨hi,rfl⟩ := List.getElem?_eq_some_iff.1 hx
  exact hr i hi
def Ints (w : World) (v : Value) (zs : List Int) : Prop := Sh w v zs.length (zs.map (Value.int .i64))
theorem Ints.of {w w' : World} {v : Value} {zs : List Int} (h : Ints w v zs) (g : G w w') : Ints w' v zs := Sh.of h g
theorem Ints.shape {w : World} {v : Value} {zs : List Int} (h : Ints w v zs) :
  ∃ p cap,v = .slice p zs.length cap ∧ ∀ i z,zs[i]? = some z → ∃ b off,p = some ⟨b,off,none⟩ ∧ w.cell? ⟨b,off + i,none⟩ = some (.int .i64 z) := by
 obtain ⟨p,cap,hv,hr⟩ := h
 exact ⟨p,cap,hv,fun i z hz => hr i _ (by rw [List.getElem?_map,hz];rfl)⟩
def Strs (w : World) (v : Value) (xs : List (List UInt8)) : Prop := Sl w v xs.length (xs.map (fun x => Value.string ⟨x.toArray⟩))
theorem Strs.of {w w' : World} {v : Value} {xs : List (List UInt8)} (h : Strs w v xs) (g : G w w') : Strs w' v xs := Sl.of h g
theorem Strs.out {w : World} {v : Value} {xs : List (List UInt8)} (h : Strs w v xs) :
  (v = .slice none 0 0 ∧ xs = []) ∨ ∃ b off cap,v = .slice (some ⟨b,off,none⟩) xs.length cap ∧ ∀ i x,xs[i]? = some x → w.cell? ⟨b,off + i,none⟩ = some (.string ⟨x.toArray⟩) := by
 rcases h with ⟨h1,h2,h3⟩ | ⟨b,off,cap,h1,h2⟩
 ·exact .inl ⟨h1,List.eq_nil_of_length_eq_zero h2⟩
 ·refine .inr ⟨b,off,cap,h1,fun i x hx => ?_⟩
  obtain ⟨hi,rfl⟩ := List.getElem?_eq_some_iff.1 hx
  rw [h2 i (by simpa using hi)]
  simp
theorem Strs.shape {w : World} {v : Value} {xs : List (List UInt8)} (h : Strs w v xs) :
  ∃ p cap,v = .slice p xs.length cap ∧ ∀ i x,xs[i]? = some x → ∃ b off,p = some ⟨b,off,none⟩ ∧ w.cell? ⟨b,off + i,none⟩ = some (.string ⟨x.toArray⟩) := by
 rcases h.out with ⟨hv,h0⟩ | ⟨b,off,cap,hv,hr⟩
 ·subst h0;exact ⟨none,0,hv,fun i x hx => by simp at hx⟩
 ·exact ⟨_,cap,hv,fun i x hx => ⟨b,off,rfl,hr i x hx⟩⟩
theorem Strs.nil (w : World) : Strs w (.slice none 0 0) [] := Sl.nil w

theorem G.lt {w w' : World} (h : G w w') : w.heap.size ≤ w'.heap.size := Below.size h
theorem G.grown {w wr w' : World} {e : TypeId} {size : Nat} {v : Value} {n : Nat} {xs : List Value} (h : G w wr) (ho : wr.ownsRow w.heap.size e size v n xs) (hg : wr.grownBy w' v.ownBlock) : G w w' :=
 Below.grown h hg h.lt (fun k hk => (ho.lt k hk).1)
theorem Strs.own {w : World} {base : Nat} {e : TypeId} {v : Value} {xs : List (List UInt8)} (h : w.ownsRow base e 1 v xs.length (xs.map (fun x => Value.string ⟨x.toArray⟩))) : Strs w v xs := by
 obtain ⟨h1,⟨h2,h3⟩ | ⟨g,cap,cur,hv,_,hh,hn,_,hs,ht⟩⟩ := h
 ·exact .inl ⟨h2,h3,by rw [List.eq_nil_of_length_eq_zero h3];rfl⟩
 ·refine .inr ⟨g,0,cap,hv,fun i hi => ?_⟩
  have hi' : i < xs.length := by simpa using hi
  have e : cur.toList[i]? = some ((xs.map (fun x => Value.string ⟨x.toArray⟩))[i]) := by
   rw [← List.getElem?_eq_getElem hi,← ht,List.getElem?_take_of_lt (by omega)]
  unfold World.cell?
  simp only [hh,Nat.zero_add]
  rw [← Array.getElem?_toList,e]
  simp
theorem ba_extract (l : List UInt8) (a b : Nat) : (ByteArray.mk l.toArray).extract a b = ⟨((l.take b).drop a).toArray⟩ := by
 apply ByteArray.ext
 simp [List.extract_eq_take_drop,List.take_drop]
 by_cases h : a ≤ b
 ·congr 2;omega
 ·rw [List.drop_of_length_le (by simp;omega)]
  have : b - a = 0 := by omega
  simp [this];omega
def KG (w : World) : Type := { w' : World // G w w' }
instance KG.ne (w : World) : Nonempty (KG w) := ⟨⟨w,G.refl w⟩⟩
theorem KG.cell {w : World} {p : Addr} {v : Value} (h : w.cell? p = some v) (k : KG w) : k.val.cell? p = some v := k.property.cell h
end Go.Proofs.YteamlijbkldlhaaGreatDoor
end
section
set_option linter.unusedSimpArgs false
set_option linter.unusedVariables false
namespace Go.Proofs.YteamlijbkldlhaaGreatDoor
open Go.RowKit

inductive Tok where
 | no
 | nil
 | row (q : Nat)
 | sub (d off : Nat)

inductive LV where
 | any
 | lit (v : Value)
 | agg (cs : List LV)
 | tup (cs : List LV)
 | sl (n : Nat) (cs : List LV) (t : Tok)
 | ref (cs : List LV)
 | ptr (d off : Nat)
 | bsl (d n : Nat) (e : TypeId)
 | aptr (d off : Nat)

structure Gh where
 S : Nat → Nat → Prop
 own : Nat → Option Nat
 row : Nat → Option (TypeId × Nat)
def Gh.bare (g : Gh) : Gh := ⟨g.S,fun _ => none,fun _ => none⟩
def sizeL (P : Program) (e : TypeId) : Nat := ((P.info? e).map (·.size)).getD 0

def OwnAt (P : Program) (w : World) (g : Gh) (q : Nat) (e : TypeId) (n : Nat) (v : Value) : Prop :=
 (v = .slice none 0 0 ∧ n = 0) ∨ ∃ b cap cur,g.own q = some b ∧ v = .slice (some ⟨b,0,none⟩) n cap ∧ w.heap[b]? = some (.cells cur e (0,0)) ∧ n ≤ cap ∧ cap ≤ maxLen ∧ cur.size = cap * sizeL P e ∧ ∀ i,n * sizeL P e ≤ i → ¬ g.S b i

def BslAt (P : Program) (w : World) (g : Gh) (d n : Nat) (e : TypeId) (v : Value) : Prop :=
 (v = .slice none 0 0 ∧ n = 0) ∨ ∃ b cap cur,g.own d = some b ∧ v = .slice (some ⟨b,0,none⟩) n cap ∧ w.heap[b]? = some (.cells cur e (0,0)) ∧ n ≤ cap ∧ cap ≤ maxLen ∧ cur.size = cap * sizeL P e ∧ 0 < n

inductive Rep (P : Program) (w : World) : Gh → LV → Value → Prop
 | any (g : Gh) (v : Value) : Rep P w g .any v
 | lit (g : Gh) (v : Value) : Rep P w g (.lit v) v
 | agg (g : Gh) (cs : List LV) (vs : Array Value) (hl : vs.size = cs.length) (h : ∀ (i : Nat) (c : LV) (u : Value),cs[i]? = some c → vs[i]? = some u → Rep P w g c u) : Rep P w g (.agg cs) (.agg vs)
 | tup (g : Gh) (cs : List LV) (vs : Array Value) (hl : vs.size = cs.length) (h : ∀ (i : Nat) (c : LV) (u : Value),cs[i]? = some c → vs[i]? = some u → Rep P w g c u) : Rep P w g (.tup cs) (.tuple vs)
 | nil (g : Gh) : Rep P w g (.sl 0 [] .nil) (.slice none 0 0)
 | empty (g : Gh) (p : Option Addr) (cap : Nat) : Rep P w g (.sl 0 [] .no) (.slice p 0 cap)
 | sl (g : Gh) (n : Nat) (cs : List LV) (b off cap : Nat) (hcap : n ≤ cap) (val : Nat → Value) (hc : ∀ i,i < cs.length → g.S b (off + i) ∧ w.cell? ⟨b,off + i,none⟩ = some (val i))
   (h : ∀ (i : Nat) (c : LV),cs[i]? = some c → Rep P w g.bare c (val i)) : Rep P w g (.sl n cs .no) (.slice (some ⟨b,off,none⟩) n cap)
 | row (g : Gh) (n : Nat) (cs : List LV) (v : Value) (q : Nat) (h0 : Rep P w g (.sl n cs .no) v) (ho : ∀ e,g.row q = some (e,n) → OwnAt P w g q e n v) : Rep P w g (.sl n cs (.row q)) v
 | sub (g : Gh) (n : Nat) (v : Value) (d off : Nat) (h0 : Rep P w g (.sl n [] .no) v) (b o cap : Nat) (hv : v = .slice (some ⟨b,o,none⟩) n cap) (ho : n ≠ 0 → o = off) (hb : g.own d = some b) : Rep P w g (.sl n [] (.sub d off)) v
 | ref (g : Gh) (cs : List LV) (b off : Nat) (val : Nat → Value) (hc : ∀ i,i < cs.length → g.S b (off + i) ∧ w.cell? ⟨b,off + i,none⟩ = some (val i))
   (h : ∀ (i : Nat) (c : LV),cs[i]? = some c → Rep P w g.bare c (val i)) : Rep P w g (.ref cs) (.pointer (some ⟨b,off,none⟩))
 | ptr (g : Gh) (d off b : Nat) (h : g.own d = some b) : Rep P w g (.ptr d off) (.pointer (some ⟨b,off,none⟩))
 | bsl (g : Gh) (d n : Nat) (e : TypeId) (v : Value) (h : BslAt P w g d n e v) : Rep P w g (.bsl d n e) v
 | aptr (g : Gh) (d off b : Nat) (h : g.own d = some b) : Rep P w g (.aptr d off) (.pointer (some ⟨b,off,none⟩))

structure Mono (P : Program) (w : World) (g : Gh) (w' : World) (g' : Gh) : Prop where
 cell : ∀ b i v,g.S b i → w.cell? ⟨b,i,none⟩ = some v → g'.S b i ∧ w'.cell? ⟨b,i,none⟩ = some v
 ptr : ∀ d b,g.own d = some b → g'.own d = some b
 own : ∀ q e n v,g'.row q = some (e,n) → (∀ e',g.row q = some (e',n) → OwnAt P w g q e' n v) → OwnAt P w' g' q e n v
 shape : ∀ d b cur e,g.own d = some b → w.heap[b]? = some (.cells cur e (0,0)) → ∃ cur',w'.heap[b]? = some (.cells cur' e (0,0)) ∧ cur'.size = cur.size
theorem BslAt.mono {P : Program} {w w' : World} {g g' : Gh} {d n : Nat} {e : TypeId} {v : Value} (h : BslAt P w g d n e v) (hp : ∀ b,g.own d = some b → g'.own d = some b) (hs : ∀ b cur e,g.own d = some b → w.heap[b]? = some (.cells cur e (0,0)) → ∃ cur',w'.heap[b]? = some (.cells cur' e (0,0)) ∧ cur'.size = cur.size) : BslAt P w' g' d n e v := by
 rcases h with h | ⟨b,cap,cur,h1,h2,h3,h4,h5,h6⟩
 ·exact .inl h
 ·obtain ⟨cur',h7,h8⟩ := hs b cur e h1 h3
  exact .inr ⟨b,cap,cur',hp b h1,h2,h7,h4,h5,by rw [h8];exact h6⟩
theorem Mono.bare {P : Program} {w w' : World} {g g' : Gh} (h : ∀ b i v,g.S b i → w.cell? ⟨b,i,none⟩ = some v → g'.S b i ∧ w'.cell? ⟨b,i,none⟩ = some v) : Mono P w g.bare w' g'.bare :=
 ⟨h,(fun _ _ h => by cases h),(fun _ _ _ _ h => by cases h),(fun _ _ _ _ h => by cases h)⟩
theorem Rep.mono {P : Program} {w w' : World} {g g' : Gh} {x : LV} {v : Value} (h : Rep P w g x v) (m : Mono P w g w' g') : Rep P w' g' x v := by
 induction h generalizing g' with
 | any => exact .any _ _
 | lit => exact .lit _ _
 | agg g cs vs hl h ih => exact .agg _ _ _ hl fun i c u hc hu => ih i c u hc hu m
 | tup g cs vs hl h ih => exact .tup _ _ _ hl fun i c u hc hu => ih i c u hc hu m
 | nil => exact .nil _
 | empty => exact .empty _ _ _
 | sl g n cs b off cap hcap val hc h ih => exact .sl _ _ _ _ _ _ hcap val (fun i hi => m.cell _ _ _ (hc i hi).1 (hc i hi).2) fun i c hc => ih i c hc (.bare m.cell)
 | row g n cs v q h0 ho ih => exact .row _ _ _ _ _ (ih m) fun e he => m.own q e n v he ho
 | sub g n v d off h0 b o cap hv ho hb ih => exact .sub _ _ _ _ _ (ih m) b o cap hv ho (m.ptr _ _ hb)
 | ref g cs b off val hc h ih => exact .ref _ _ _ _ val (fun i hi => m.cell _ _ _ (hc i hi).1 (hc i hi).2) fun i c hc => ih i c hc (.bare m.cell)
 | ptr g d off b h => exact .ptr _ _ _ _ (m.ptr _ _ h)
 | bsl g d n e v h => exact .bsl _ _ _ _ _ (h.mono (fun b hb => m.ptr _ _ hb) (fun b cur e hb hc => m.shape _ _ _ _ hb hc))
 | aptr g d off b h => exact .aptr _ _ _ _ (m.ptr _ _ h)

section
variable {P : Program} {w : World} {g : Gh} {v : Value}
theorem Rep.inv_lit {u : Value} (h : Rep P w g (.lit u) v) : v = u := by cases h;rfl
theorem Rep.inv_agg {cs : List LV} (h : Rep P w g (.agg cs) v) : ∃ vs : Array Value,v = .agg vs ∧ vs.size = cs.length ∧ ∀ (i : Nat) (c : LV) (u : Value),cs[i]? = some c → vs[i]? = some u → Rep P w g c u := by
 cases h;exact ⟨_,rfl,by assumption,by assumption⟩
theorem Rep.inv_tup {cs : List LV} (h : Rep P w g (.tup cs) v) : ∃ vs : Array Value,v = .tuple vs ∧ vs.size = cs.length ∧ ∀ (i : Nat) (c : LV) (u : Value),cs[i]? = some c → vs[i]? = some u → Rep P w g c u := by
 cases h;exact ⟨_,rfl,by assumption,by assumption⟩
def CellsAt (P : Program) (w : World) (g : Gh) (b off : Nat) (cs : List LV) : Prop :=
 ∃ val : Nat → Value,(∀ i,i < cs.length → g.S b (off + i) ∧ w.cell? ⟨b,off + i,none⟩ = some (val i)) ∧ ∀ (i : Nat) (c : LV),cs[i]? = some c → Rep P w g.bare c (val i)
theorem Rep.inv_ref {cs : List LV} (h : Rep P w g (.ref cs) v) : ∃ b off,v = .pointer (some ⟨b,off,none⟩) ∧ CellsAt P w g b off cs := by
 cases h;exact ⟨_,_,rfl,_,by assumption,by assumption⟩
theorem Rep.inv_ptr {d off : Nat} (h : Rep P w g (.ptr d off) v) : ∃ b,v = .pointer (some ⟨b,off,none⟩) ∧ g.own d = some b := by
 cases h;exact ⟨_,rfl,by assumption⟩
theorem Rep.inv_aptr {d off : Nat} (h : Rep P w g (.aptr d off) v) : ∃ b,v = .pointer (some ⟨b,off,none⟩) ∧ g.own d = some b := by
 cases h;exact ⟨_,rfl,by assumption⟩
theorem Rep.inv_bsl {d n : Nat} {e : TypeId} (h : Rep P w g (.bsl d n e) v) : BslAt P w g d n e v := by
 cases h;assumption
theorem Rep.inv_nil {n : Nat} {cs : List LV} (h : Rep P w g (.sl n cs .nil) v) : v = .slice none 0 0 ∧ n = 0 ∧ cs = [] := by
 cases h;exact ⟨rfl,rfl,rfl⟩
theorem Rep.inv_no {n : Nat} {cs : List LV} (h : Rep P w g (.sl n cs .no) v) : (∃ p cap,v = .slice p 0 cap ∧ n = 0 ∧ cs = []) ∨ ∃ b off cap,v = .slice (some ⟨b,off,none⟩) n cap ∧ n ≤ cap ∧ CellsAt P w g b off cs := by
 cases h with
 | empty => exact .inl ⟨_,_,rfl,rfl,rfl⟩
 | sl => exact .inr ⟨_,_,_,rfl,by assumption,_,by assumption,by assumption⟩
theorem Rep.inv_row {n q : Nat} {cs : List LV} (h : Rep P w g (.sl n cs (.row q)) v) : Rep P w g (.sl n cs .no) v ∧ ∀ e,g.row q = some (e,n) → OwnAt P w g q e n v := by
 cases h;exact ⟨by assumption,by assumption⟩
theorem Rep.inv_sub {n d off : Nat} {cs : List LV} (h : Rep P w g (.sl n cs (.sub d off)) v) : cs = [] ∧ Rep P w g (.sl n [] .no) v ∧ ∃ b o cap,v = .slice (some ⟨b,o,none⟩) n cap ∧ (n ≠ 0 → o = off) ∧ g.own d = some b := by
 cases h;exact ⟨rfl,by assumption,_,_,_,by assumption,by assumption,by assumption⟩
theorem CellsAt.rep_sl {b off cap n : Nat} {cs : List LV} (h : CellsAt P w g b off cs) (hcap : n ≤ cap) : Rep P w g (.sl n cs .no) (.slice (some ⟨b,off,none⟩) n cap) :=
 let ⟨val,h1,h2⟩ := h
 .sl _ _ _ _ _ _ hcap val h1 h2
theorem CellsAt.rep_ref {b off : Nat} {cs : List LV} (h : CellsAt P w g b off cs) : Rep P w g (.ref cs) (.pointer (some ⟨b,off,none⟩)) :=
 let ⟨val,h1,h2⟩ := h
 .ref _ _ _ _ val h1 h2
theorem CellsAt.drop {b off : Nat} {cs : List LV} (k : Nat) (h : CellsAt P w g b off cs) : CellsAt P w g b (off + k) (cs.drop k) := by
 obtain ⟨val,h1,h2⟩ := h
 refine ⟨fun i => val (k + i),fun i hi => ?_,fun i c hc => h2 (k + i) c (by rw [List.getElem?_drop] at hc;exact hc)⟩
 have := h1 (k + i) (by rw [List.length_drop] at hi;omega)
 rwa [← Nat.add_assoc] at this
theorem CellsAt.take {b off : Nat} {cs : List LV} (k : Nat) (h : CellsAt P w g b off cs) : CellsAt P w g b off (cs.take k) := by
 obtain ⟨val,h1,h2⟩ := h
 refine ⟨val,fun i hi => h1 i (by rw [List.length_take] at hi;omega),fun i c hc => h2 i c ?_⟩
 rw [List.getElem?_take] at hc
 split at hc
 ·exact hc
 ·cases hc
theorem CellsAt.bare {b off : Nat} {cs : List LV} (h : CellsAt P w g b off cs) : CellsAt P w g.bare b off cs := h
theorem Rep.inv_sl {n : Nat} {cs : List LV} {t : Tok} (h : Rep P w g (.sl n cs t) v) : (∃ p cap,v = .slice p 0 cap ∧ n = 0 ∧ cs = []) ∨ ∃ b off cap,v = .slice (some ⟨b,off,none⟩) n cap ∧ n ≤ cap ∧ CellsAt P w g b off cs := by
 cases t with
 | no => exact h.inv_no
 | nil => obtain ⟨rfl,rfl,rfl⟩ := h.inv_nil;exact .inl ⟨_,_,rfl,rfl,rfl⟩
 | row q => exact h.inv_row.1.inv_no
 | sub d off => obtain ⟨rfl,h1,_⟩ := h.inv_sub;exact h1.inv_no
theorem Rep.no_of {g' : Gh} {n : Nat} {cs : List LV} {t : Tok} (h : Rep P w g (.sl n cs t) v) (hS : g'.S = g.S) : Rep P w g' (.sl n cs .no) v := by
 rcases h.inv_sl with ⟨p,cap,rfl,rfl,rfl⟩ | ⟨b,off,cap,rfl,hcap,val,h1,h2⟩
 ·exact .empty _ _ _
 ·refine .sl _ _ _ _ _ _ hcap val (by rw [hS];exact h1) fun i c hc => ?_
  have : g'.bare = g.bare := by unfold Gh.bare;rw [hS]
  rw [this];exact h2 i c hc
theorem Rep.ref_of {g' : Gh} {cs : List LV} (h : Rep P w g (.ref cs) v) (hS : g'.S = g.S) : Rep P w g' (.ref cs) v := by
 obtain ⟨b,off,rfl,val,h1,h2⟩ := h.inv_ref
 refine .ref _ _ _ _ val (by rw [hS];exact h1) fun i c hc => ?_
 have : g'.bare = g.bare := by unfold Gh.bare;rw [hS]
 rw [this];exact h2 i c hc
end

def strip1 : LV → LV
 | .lit v => .lit v
 | .sl n cs _ => .sl n cs .no
 | .ref cs => .ref cs
 | _ => .any
def strip2 : LV → LV
 | .agg cs => .agg (cs.map strip1)
 | x => strip1 x
def strip : LV → LV
 | .tup cs => .tup (cs.map strip2)
 | x => strip2 x
section
variable {P : Program} {w : World} {g g' : Gh} {v : Value}
theorem map_get {f : LV → LV} {cs : List LV} {i : Nat} {c : LV} (h : (cs.map f)[i]? = some c) : ∃ c',cs[i]? = some c' ∧ f c' = c := by
 rw [List.getElem?_map,Option.map_eq_some_iff] at h;exact h
theorem Rep.strip1 {x : LV} (h : Rep P w g x v) (hS : g'.S = g.S) : Rep P w g' (Go.Proofs.YteamlijbkldlhaaGreatDoor.strip1 x) v := by
 cases x with
 | lit u => rw [h.inv_lit];exact .lit _ _
 | sl n cs t => exact h.no_of hS
 | ref cs => exact h.ref_of hS
 | _ => exact .any _ _
theorem Rep.strip2 {x : LV} (h : Rep P w g x v) (hS : g'.S = g.S) : Rep P w g' (Go.Proofs.YteamlijbkldlhaaGreatDoor.strip2 x) v := by
 cases x with
 | agg cs =>
  obtain ⟨vs,rfl,hl,h⟩ := h.inv_agg
  refine .agg _ _ _ (by simpa using hl) fun i c u hc hu => ?_
  obtain ⟨c',hc',rfl⟩ := map_get hc
  exact (h i c' u hc' hu).strip1 hS
 | lit u => exact h.strip1 hS
 | sl n cs t => exact h.strip1 hS
 | ref cs => exact h.strip1 hS
 | _ => exact .any _ _
theorem Rep.strip {x : LV} (h : Rep P w g x v) (hS : g'.S = g.S) : Rep P w g' (Go.Proofs.YteamlijbkldlhaaGreatDoor.strip x) v := by
 cases x with
 | tup cs =>
  obtain ⟨vs,rfl,hl,h⟩ := h.inv_tup
  refine .tup _ _ _ (by simpa using hl) fun i c u hc hu => ?_
  obtain ⟨c',hc',rfl⟩ := map_get hc
  exact (h i c' u hc' hu).strip2 hS
 | agg cs => exact h.strip2 hS
 | lit u => exact h.strip1 hS
 | sl n cs t => exact h.strip1 hS
 | ref cs => exact h.strip1 hS
 | _ => exact .any _ _
end

def forget1 (d : Nat) : LV → LV
 | .lit v => .lit v
 | .sl n cs (.row q) => if q = d then .sl n cs .no else .sl n cs (.row q)
 | .sl n cs (.sub q o) => if q = d then .sl n cs .no else .sl n cs (.sub q o)
 | .sl n cs t => .sl n cs t
 | .ref cs => .ref cs
 | .ptr e off => if e = d then .any else .ptr e off
 | .bsl q n e => if q = d then .any else .bsl q n e
 | .aptr e off => if e = d then .any else .aptr e off
 | _ => .any
def forget2 (d : Nat) : LV → LV
 | .agg cs => .agg (cs.map (forget1 d))
 | x => forget1 d x
def forget (d : Nat) : LV → LV
 | .tup cs => .tup (cs.map (forget2 d))
 | x => forget2 d x
def upd {α : Type} (f : Nat → α) (d : Nat) (x : α) : Nat → α := fun k => if k = d then x else f k
theorem upd_eq {α : Type} (f : Nat → α) (d : Nat) (x : α) : upd f d x d = x := if_pos rfl
theorem upd_ne {α : Type} (f : Nat → α) {d k : Nat} (x : α) (h : k ≠ d) : upd f d x k = f k := if_neg h
end Go.Proofs.YteamlijbkldlhaaGreatDoor
end
section
set_option linter.unusedSimpArgs false
set_option linter.unusedVariables false
namespace Go.Proofs.YteamlijbkldlhaaGreatDoor
open Go.RowKit

def toLV : Value → LV
 | .slice none 0 0 => .sl 0 [] .nil
 | v => .lit v
theorem rep_toLV {P : Program} {w : World} {g : Gh} (v : Value) : Rep P w g (toLV v) v := by
 unfold toLV
 split
 ·exact .nil _
 ·exact .lit _ _

structure LSt where
 env : Nat → LV
 box : Nat → Option (List LV)
 row : Nat → Option (TypeId × Nat)
 arr : Nat → Option (List LV)
 mode : Nat → Bool
 val : Nat → Option Value
def LSt.put (st : LSt) (dst : Option Tmp) (x : LV) : LSt :=
 match dst with
 | some d => { st with env := upd st.env d x,val := upd st.val d none }
 | none => st
def evL (env : Nat → LV) : Operand → LV
 | .tmp t => env t
 | .const v => toLV v
 | .global g => .lit (.pointer (some ⟨g,0,none⟩))
 | .func f => .lit (.func (.func f) #[] #[])

def aggL (P : Program) (t : TypeId) : Option Bool :=
 match P.underlying t with
 | some (.struct _) => some true
 | some (.array _ _) => some true
 | some _ => some false
 | none => none
def fieldL (P : Program) (s : TypeId) (f : Nat) : Option (Nat × TypeId) :=
 match P.underlying s with
 | some (.struct fs) =>
  match fs[f]? with
  | some fl => match P.info? fl.type with
   | some i => if i.size = 0 then none else some (fl.offset,fl.type)
   | none => none
  | none => none
 | _ => none
def elemL (P : Program) (t : TypeId) : Option (TypeId × Nat) :=
 match P.underlying t with
 | some (.slice e) => (P.info? e).map fun i => (e,i.size)
 | _ => none
def loadL (P : Program) (t : TypeId) (cs : List LV) : Option LV :=
 match aggL P t with
 | some true => match P.info? t with
  | some i => if i.size ≤ cs.length then some (.agg (cs.take i.size)) else none
  | none => none
 | some false => cs.head?
 | none => none

def binI (op : BinOp) (k : IntKind) (a b : Int) : Option Value :=
 match op with
 | .eql => some (.bool (decide (a = b)))
 | .neq => some (.bool (!decide (a = b)))
 | .lss => some (.bool (decide (a < b)))
 | .leq => some (.bool (decide (a ≤ b)))
 | .gtr => some (.bool (decide (b < a)))
 | .geq => some (.bool (decide (b ≤ a)))
 | .add => some (.int k (k.wrap (a + b)))
 | .sub => some (.int k (k.wrap (a - b)))
 | .mul => some (.int k (k.wrap (a * b)))
 | .and => some (.int k (bits .and k a b))
 | .or => some (.int k (bits .or k a b))
 | .xor => some (.int k (bits .xor k a b))
 | .andNot => some (.int k (bits .andNot k a b))
 | .quo => if b = 0 then none else some (.int k (k.wrap (a.tdiv b)))
 | .rem => if b = 0 then none else some (.int k (a.tmod b))
 | _ => none
def binS (op : BinOp) (a b : List UInt8) : Option Value :=
 match op with
 | .add => if a.length + b.length ≤ 9223372036854775807 then some (.string ⟨(a ++ b).toArray⟩) else none
 | .eql => some (.bool (decide (a = b)))
 | .neq => some (.bool (!decide (a = b)))
 | .lss => some (.bool (Op.bytesLess a b))
 | .leq => some (.bool (Op.bytesLess a b || decide (a = b)))
 | .gtr => some (.bool (!(Op.bytesLess a b || decide (a = b))))
 | .geq => some (.bool (!Op.bytesLess a b))
 | _ => none
def shV (op : BinOp) (k : IntKind) (a b : Int) : Option Value :=
 match op with
 | .shl => if b < 0 then none else some (.int k (k.wrap (a * 2 ^ (min b.toNat k.bits))))
 | .shr => if b < 0 then none else some (.int k (a.fdiv (2 ^ (min b.toNat k.bits))))
 | _ => none
def isSh (op : BinOp) : Bool := match op with | .shl => true | .shr => true | _ => false
def binV (P : Program) (op : BinOp) (t : TypeId) (x y : Value) : Option Value :=
 match x,y with
 | .int k a,.int k' b => if isSh op then shV op k a b else if k = k' then binI op k a b else none
 | .string a,.string b => binS op a.data.toList b.data.toList
 | .bool a,.bool b =>
  match P.underlying t,op with
  | some .bool,.eql => some (.bool (a == b))
  | some .bool,.neq => some (.bool (!(a == b)))
  | _,_ => none
 | .float k a,.float k' b =>
  if k = k' then
   match op with
   | .lss => some (.bool (k.format.order a b == some .lt))
   | .gtr => some (.bool (k.format.order a b == some .gt))
   | .leq => some (.bool (k.format.order a b == some .lt || k.format.order a b == some .eq))
   | .geq => some (.bool (k.format.order a b == some .gt || k.format.order a b == some .eq))
   | .eql => some (.bool (k.format.order a b == some .eq))
   | .neq => some (.bool (k.format.order a b != some .eq))
   | _ => none
  else none
 | .complex k a b,.complex k' c d =>
  if k = k' then
   match op with
   | .eql => some (.bool ((k.format.order a c == some .eq) && (k.format.order b d == some .eq)))
   | .neq => some (.bool !((k.format.order a c == some .eq) && (k.format.order b d == some .eq)))
   | _ => none
  else none
 | _,_ => none
theorem eqGuard_lit {P : Program} {w : World} {op : BinOp} {t : TypeId} {x y : Operand} {a b : Value} {v : Value} (h : binV P op t a b = some v) : (eqGuard op t x y a b).run P w = .ok () w := by
 cases a <;> cases b <;> simp only [binV] at h <;> first | (cases h;done) | (unfold eqGuard;cases op <;> rfl)
theorem toList_eq (s : ByteArray) : s.toList = s.data.toList := by
 exact Lib.toList_data s
section
variable {P : Program} {w : World} {t : TypeId}
theorem binI_run {op : BinOp} {k : IntKind} {a b : Int} {v : Value} (h : binI op k a b = some v) : (binOp op t (.int k a) (.int k b)).run P w = .ok v w := by
 cases op <;> simp only [binI] at h
 case add => cases h;rw [binOp_add];rfl
 case sub => cases h;rw [binOp_sub];rfl
 case mul => cases h;rw [binOp_mul];rfl
 case quo =>
  split at h;· cases h
  ·rename_i hb;cases h;rw [binOp_quo];simp only [Op.intDiv,if_neg hb];rfl
 case rem =>
  split at h;· cases h
  ·rename_i hb;cases h;rw [binOp_rem];simp only [Op.intDiv,if_neg hb];rfl
 case and => cases h;rw [binOp_and];rfl
 case or => cases h;rw [binOp_or];rfl
 case xor => cases h;rw [binOp_xor];rfl
 case andNot => cases h;rw [binOp_andNot];rfl
 case eql => cases h;rw [binOp_eql];show Result.ok (Value.bool _) w = _;congr 2
 case neq => cases h;rw [binOp_neq];show Result.ok (Value.bool _) w = _;congr 2
 case lss => cases h;rw [binOp_lss];rfl
 case leq => cases h;rw [binOp_leq];rfl
 case gtr => cases h;rw [binOp_gtr];rfl
 case geq => cases h;rw [binOp_geq];rfl
 all_goals cases h
theorem shV_run {op : BinOp} {k k' : IntKind} {a b : Int} {v : Value} (h : shV op k a b = some v) : (binOp op t (.int k a) (.int k' b)).run P w = .ok v w := by
 cases op <;> simp only [shV] at h
 case shl =>
  split at h;· cases h
  ·rename_i hb;cases h;rw [binOp_shl];simp only [Op.shift,if_neg hb];rfl
 case shr =>
  split at h;· cases h
  ·rename_i hb;cases h;rw [binOp_shr];simp only [Op.shift,if_neg hb];rfl
 all_goals cases h
theorem dec_beq (a b : List UInt8) : (a == b) = decide (a = b) := by
 rw [Bool.eq_iff_iff];simp
theorem binS_run {op : BinOp} {a b : ByteArray} {v : Value} (h : binS op a.data.toList b.data.toList = some v) : (binOp op t (.string a) (.string b)).run P w = .ok v w := by
 cases op <;> simp only [binS] at h
 case add =>
  split at h
  ·cases h
   rename_i hl
   have hl' : ¬ ((a.size + b.size : Nat) : Int) > IntKind.i64.max := by
    have e1 : a.size = a.data.toList.length := by simp
    have e2 : b.size = b.data.toList.length := by simp
    rw [e1,e2]
    show ¬ _ > (9223372036854775807 : Int)
    omega
   rw [binOp_string_add]
   simp only [Op.stringOp,hl',if_false]
   have : a ++ b = ⟨(a.data.toList ++ b.data.toList).toArray⟩ := by apply ByteArray.ext;simp
   rw [this];rfl
  ·cases h
 case eql => cases h;rw [binOp_string_eql,toList_eq,toList_eq,dec_beq];rfl
 case neq => cases h;rw [binOp_string_neq,toList_eq,toList_eq,dec_beq];rfl
 case lss => cases h;rw [binOp_string_lss,toList_eq,toList_eq];rfl
 case leq => cases h;rw [binOp_string_leq,toList_eq,toList_eq,dec_beq];rfl
 case gtr => cases h;rw [binOp_string_gtr,toList_eq,toList_eq,dec_beq];rfl
 case geq => cases h;rw [binOp_string_geq,toList_eq,toList_eq];rfl
 all_goals cases h
theorem binV_run {op : BinOp} {a b v : Value} (h : binV P op t a b = some v) : (binOp op t a b).run P w = .ok v w := by
 cases a <;> cases b <;> simp only [binV] at h <;> try (cases h;done)
 case bool.bool a b =>
  split at h <;> cases h
  ·rename_i hu;exact run_eql_bool _ _ _ _ hu
  ·rename_i hu;exact run_neq_bool _ _ _ _ hu
 case int.int k a k' b =>
  split at h
  ·exact shV_run h
  ·split at h
   ·rename_i hk;subst hk;exact binI_run h
   ·cases h
 case string.string a b => exact binS_run h
 case float.float k a k' b =>
  split at h
  ·rename_i hk;subst hk
   cases op <;> simp only at h
   case eql => cases h;rw [binOp_float_cmp_eql];rfl
   case neq => cases h;rw [binOp_float_cmp_neq];rfl
   case lss => cases h;rw [binOp_float_cmp_lss];rfl
   case leq => cases h;rw [binOp_float_cmp_leq];rfl
   case gtr => cases h;rw [binOp_float_cmp_gtr];rfl
   case geq => cases h;rw [binOp_float_cmp_geq];rfl
   all_goals cases h
  ·cases h
 case complex.complex k a b k' c d =>
  split at h
  ·rename_i hk;subst hk
   cases op <;> simp only at h
   case eql => cases h;exact run_eql_complex _ _ _ _ _ _ _
   case neq => cases h;exact run_neq_complex _ _ _ _ _ _ _
   all_goals cases h
  ·cases h
end
end Go.Proofs.YteamlijbkldlhaaGreatDoor
end
section
set_option linter.unusedSimpArgs false
set_option linter.unusedVariables false
namespace Go.Proofs.YteamlijbkldlhaaGreatDoor
open Go.RowKit

def unV (op : UnOp) : Value → Option Value
 | .bool b => match op with | .not => some (.bool (!b)) | _ => none
 | .int k n => match op with | .neg => some (.int k (k.wrap (0 - n))) | _ => none
 | _ => none
def convV (P : Program) (s d : TypeId) (v : Value) : Option Value :=
 match P.underlying s,P.underlying d,v with
 | some _,some (.int k),.int _ n => some (.int k (k.wrap n))
 | some _,some (.float k),.int _ n => some (.float k (floatOfInt k n))
 | some _,some (.int k),.float q b => (floatToIntVal q b k).map (Value.int k)
 | some .string,some .string,.string x => some (.string x)
 | _,_,_ => none
def idxV (P : Program) (t : TypeId) (x i : Value) : Option Value :=
 match P.underlying t,x,i with
 | some .string,.string s,.int _ z => if 0 ≤ z then (s.data.toList[z.toNat]?).map fun b => .int .u8 b.toNat else none
 | _,_,_ => none
def lowV : Option LV → Option Int
 | none => some 0
 | some (.lit (.int _ z)) => some z
 | some _ => none
def highV (n : Nat) : Option LV → Option Int
 | none => some n
 | some (.lit (.int _ z)) => some z
 | some _ => none
def arrL (P : Program) (t : TypeId) : Option (Nat × Nat) :=
 match P.underlying t with
 | some (.array n e) => (P.info? e).map fun i => (n,i.size)
 | _ => none
def sliceArr (d off : Nat) (lo hi : Option LV) : Option (Nat × Nat) → Option LV
 | some (n,k) =>
  match lowV lo,highV n hi with
  | some l,some h => if 0 ≤ l ∧ l ≤ h ∧ h ≤ n then some (.sl (h.toNat - l.toNat) [] (.sub d (off + l.toNat * k))) else none
  | _,_ => none
 | none => none
def sliceL (P : Program) (t : TypeId) (x : LV) (lo hi : Option LV) : Option LV :=
 match x with
 | .lit (.string s) =>
  match P.underlying t,lowV lo,highV s.data.toList.length hi with
  | some .string,some l,some h => if 0 ≤ l ∧ l ≤ h ∧ h ≤ s.data.toList.length then some (.lit (.string ⟨((s.data.toList.take h.toNat).drop l.toNat).toArray⟩)) else none
  | _,_,_ => none
 | .sl n cs _ =>
  match elemL P t,lowV lo,highV n hi with
  | some (_,k),some l,some h => if 0 ≤ l ∧ l ≤ h ∧ h ≤ n then some (.sl (h.toNat - l.toNat) ((cs.take (h.toNat * k)).drop (l.toNat * k)) .no) else none
  | _,_,_ => none
 | .bsl d n _ =>
  match elemL P t,lowV lo,highV n hi with
  | some (_,k),some l,some h => if 0 ≤ l ∧ l ≤ h ∧ h ≤ n then some (if n = 0 then .sl 0 [] .no else .sl (h.toNat - l.toNat) [] (.sub d (l.toNat * k))) else none
  | _,_,_ => none
 | .ptr d off => sliceArr d off lo hi (arrL P t)
 | _ => none
def lenL (P : Program) (t : TypeId) : LV → Option LV
 | .sl n _ _ => match P.underlying t with | some (.slice _) => some (.lit (.int .i64 n)) | _ => none
 | .lit (.string s) => match P.underlying t with | some .string => some (.lit (.int .i64 s.data.toList.length)) | _ => none
 | .bsl _ n _ => match P.underlying t with | some (.slice _) => some (.lit (.int .i64 n)) | _ => none
 | _ => none
def minmaxV (big : Bool) : Value → Value → Option Value
 | .int k x,.int _ y => some (.int k (if big then (if y > x then y else x) else (if y < x then y else x)))
 | _,_ => none
def builtinL (P : Program) (b : Builtin) (ts : List TypeId) (xs : List LV) : Option LV :=
 match b,ts,xs with
 | .len,[t],[x] => lenL P t x
 | .min,_,[.lit x,.lit y] => (minmaxV false x y).map .lit
 | .max,_,[.lit x,.lit y] => (minmaxV true x y).map .lit
 | .real,_,[.lit (.complex k a _)] => some (.lit (.float k a))
 | .imag,_,[.lit (.complex k _ b)] => some (.lit (.float k b))
 | .complex,_,[.lit (.float k a),.lit (.float k' b)] => if k = k' then some (.lit (.complex k a b)) else none
 | _,_,_ => none
def fieldV (P : Program) (s : TypeId) (f : Nat) (x : LV) : Option LV :=
 match fieldL P s f,x with
 | some (o,t),.agg cs => loadL P t (cs.drop o)
 | _,_ => none

def lit1 (f : Value → Option Value) : LV → Option LV
 | .lit a => (f a).map .lit
 | _ => none
def lit2 (f : Value → Value → Option Value) : LV → LV → Option LV
 | .lit a,.lit b => (f a b).map .lit
 | _,_ => none
def eqKind (P : Program) (f : Field) : Option (Nat × Nat) :=
 if f.name = "_" then none else
 match P.underlying f.type with
 | some (.int _) => some (f.offset,0)
 | some .string => some (f.offset,1)
 | some .bool => some (f.offset,2)
 | _ => none
def eqKinds (P : Program) (t : TypeId) : Option (List (Nat × Nat)) :=
 match P.underlying t with
 | some (.struct fs) => if P.stoodInHeld t = false ∧ P.eqGuardType P.depth t = false then fs.toList.mapM (eqKind P) else none
 | _ => none
def eqOne (k : Nat) (x y : LV) : Option Bool :=
 match k,x,y with
 | 0,.lit (.int a p),.lit (.int b q) => if a = b then some (decide (p = q)) else none
 | 1,.lit (.string p),.lit (.string q) => some (decide (p.data.toList = q.data.toList))
 | 2,.lit (.bool p),.lit (.bool q) => some (p == q)
 | _,_,_ => none
def eqListL (cs ds : List LV) : List (Nat × Nat) → Option Bool
 | [] => some true
 | (o,k) :: r =>
  match cs[o]?,ds[o]? with
  | some x,some y => match eqOne k x y,eqListL cs ds r with
   | some b,some e => some (b && e)
   | _,_ => none
  | _,_ => none
def eqAggL (op : BinOp) : Option Bool → Option LV
 | some b => match op with
  | .eql => some (.lit (.bool b))
  | .neq => some (.lit (.bool (!b)))
  | _ => none
 | none => none
def binL (P : Program) (op : BinOp) (t : TypeId) (x y : LV) : Option LV :=
 match x,y with
 | .agg cs,.agg ds => match eqKinds P t with
  | some ks => eqAggL op (eqListL cs ds ks)
  | none => none
 | x,y => lit2 (binV P op t) x y
def pickL (x y : LV) : LV → Option LV
 | .lit (.bool t) => some (cond t x y)
 | _ => none
def nilL : LV → Option LV
 | .ptr d o => some (.ptr d o)
 | .aptr d o => some (.aptr d o)
 | .ref cs => some (.ref cs)
 | _ => none
def extractL (i : Nat) : LV → Option LV
 | .tup cs => cs[i]?
 | _ => none
def moveL (o : Nat) : LV → Option LV
 | .ref cs => some (.ref (cs.drop o))
 | .ptr d k => some (.ptr d (k + o))
 | .aptr d k => some (.aptr d (k + o))
 | _ => none
def fieldAtL (P : Program) (s : TypeId) (f : Nat) (x : LV) : Option LV :=
 match fieldL P s f with
 | some (o,_) => moveL o x
 | none => none
def indexAtL (k : Nat) : LV → LV → Option LV
 | .sl n cs _,.lit (.int _ z) => if 0 ≤ z ∧ z < n then some (.ref (cs.drop (z.toNat * k))) else none
 | .bsl d n _,.lit (.int _ z) => if 0 ≤ z ∧ z < n then some (.aptr d (z.toNat * k)) else none
 | _,_ => none
def indexArr (x i : LV) : Option (Nat × Nat) → Option LV
 | some (n,k) =>
  match x,i with
  | .ptr d off,.lit (.int _ z) => if 0 ≤ z ∧ z < n then some (.ptr d (off + z.toNat * k)) else none
  | .ref cs,.lit (.int _ z) => if 0 ≤ z ∧ z < n then some (.ref (cs.drop (z.toNat * k))) else none
  | _,_ => none
 | none => none
def indexL (P : Program) (t : TypeId) (x i : LV) : Option LV :=
 match elemL P t with
 | some (_,k) => indexAtL k x i
 | none => indexArr x i (arrL P t)
def loadAtL (P : Program) (B A : Nat → Option (List LV)) (t : TypeId) : LV → Option LV
 | .ref cs => (loadL P t cs).map strip2
 | .ptr d o => match B d with | some cs => loadL P t (cs.drop o) | none => none
 | .aptr d o => match A d with | some cs => (loadL P t (cs.drop o)).map strip2 | none => none
 | _ => none
def cellsL : LV → Option (List LV)
 | .agg cs => some cs
 | .lit (.agg _) => none
 | .lit (.tuple _) => none
 | .lit v => some [.lit v]
 | .sl n cs t => some [.sl n cs t]
 | .ref cs => some [.ref cs]
 | .ptr d o => some [.ptr d o]
 | .bsl d n e => some [.bsl d n e]
 | .aptr d o => some [.aptr d o]
 | _ => none
def fillL (place : Nat → Option (Nat × Nat)) : List LV → List (Nat × LV) → Option (List LV)
 | cs,[] => some cs
 | cs,(i,x) :: r =>
  match place i,cellsL x with
  | some (off,size),some xs => if xs.length = size ∧ off + size ≤ cs.length then fillL place (cs.take off ++ xs ++ cs.drop (off + size)) r else none
  | _,_ => none
def placesL (P : Program) (t : TypeId) : Option (List (Nat × Nat)) :=
 match P.underlying t with
 | some (.struct fs) => fs.toList.mapM fun f => (P.info? f.type).map fun i => (f.offset,i.size)
 | _ => none
def buildL (P : Program) (t : TypeId) (parts : List (Nat × LV)) : Option LV :=
 match P.info? t,placesL P t with
 | some i,some ps => match i.zero with
  | some z => (fillL (fun j => ps[j]?) (z.cells.toList.map toLV) parts).map .agg
  | none => none
 | some i,none => match arrL P t,i.zero with
  | some (_,k),some z => (fillL (fun j => some (j * k,k)) (z.cells.toList.map toLV) parts).map .agg
  | _,_ => none
 | _,_ => none
def bytesOf : List LV → Option (List UInt8)
 | [] => some []
 | .lit (.int .u8 z) :: r => if 0 ≤ z ∧ z < 256 then (bytesOf r).map (UInt8.ofNat z.toNat :: ·) else none
 | _ :: _ => none
def bL (l : List UInt8) : List LV := l.map fun b => .lit (.int .u8 b.toNat)
theorem bytesOf_bL : ∀ l : List UInt8,bytesOf (bL l) = some l
 | [] => rfl
 | b :: r => by
  have ih := bytesOf_bL r
  unfold bL at ih
  simp only [bL,List.map_cons,bytesOf]
  rw [ih,if_pos ⟨by omega,by have := b.toNat_lt;omega⟩]
  simp
theorem bL_len (l : List UInt8) : (bL l).length = l.length := by simp [bL]
def bconvL (P : Program) (s d : TypeId) (n : Nat) (cs : List LV) : Option LV :=
 match P.underlying s,P.underlying d with
 | some (.slice e),some .string => match P.underlying e with
  | some (.int .u8) => if cs.length = n then (bytesOf cs).map fun l => .lit (.string ⟨l.toArray⟩) else none
  | _ => none
 | _,_ => none
def convB (P : Program) (s d : TypeId) (n off : Nat) : Option (List LV) → Option LV
 | some xs => if off + n ≤ xs.length then bconvL P s d n ((xs.drop off).take n) else none
 | none => none
def convT (P : Program) (B : Nat → Option (List LV)) (s d : TypeId) (n : Nat) (cs : List LV) : Tok → Option LV
 | .no => bconvL P s d n cs
 | .nil => bconvL P s d n cs
 | .row _ => bconvL P s d n cs
 | .sub q off => convB P s d n off (B q)
def convL (P : Program) (B A : Nat → Option (List LV)) (s d : TypeId) : LV → Option LV
 | .lit v => (convV P s d v).map .lit
 | .sl n cs t => convT P B s d n cs t
 | .bsl q n e => match A q with | some cs => if cs.length = n * sizeL P e ∧ sizeL P e = 1 then bconvL P s d n cs else none | none => none
 | _ => none
def extAdd (P : Program) : Option Nat := match P.funcNamed "math/bits.Add64" with
 | some f => match P.funcs[f]? with
  | some fn => if fn.name = "math/bits.Add64" ∧ fn.origin = "" ∧ fn.body.isNone = true then some f else none
  | none => none
 | none => none
def add64L : List LV → Option LV
 | [.lit (.int .u64 x),.lit (.int .u64 y),.lit (.int .u64 c)] => if 0 ≤ x ∧ 0 ≤ y ∧ 0 ≤ c ∧ c ≤ 1 then some (.tup [.lit (.int .u64 ((x + y + c) % 18446744073709551616)),.lit (.int .u64 ((x + y + c) / 18446744073709551616))]) else none
 | _ => none
def extL (f : Nat) (xs : List LV) : Option Nat → Option LV
 | some g => if f = g then add64L xs else none
 | none => none
def pv (P : Program) (ρ : Operand → LV) (B A : Nat → Option (List LV)) : Op → Option LV
 | .move x => some (ρ x)
 | .assign x => some (ρ x)
 | .pick c x y => pickL (ρ x) (ρ y) (ρ c)
 | .extract x i => extractL i (ρ x)
 | .fieldAddr s x f => fieldAtL P s f (ρ x)
 | .indexAddr t x i => indexL P t (ρ x) (ρ i)
 | .load t p => loadAtL P B A t (ρ p)
 | .field s x f => fieldV P s f (ρ x)
 | .binOp op t x y _ => binL P op t (ρ x) (ρ y)
 | .unOp op _ x => lit1 (unV op) (ρ x)
 | .nilCheck x => nilL (ρ x)
 | .convert s d x => convL P B A s d (ρ x)
 | .index t x i => lit2 (idxV P t) (ρ x) (ρ i)
 | .slice t x lo hi none => sliceL P t (ρ x) (lo.map ρ) (hi.map ρ)
 | .build t parts => buildL P t (parts.toList.map fun q => (q.1,ρ q.2))
 | .call ⟨.builtin b,args,ts⟩ => builtinL P b ts.toList (args.toList.map ρ)
 | .call ⟨.value (.func f),args,_⟩ => extL f (args.toList.map ρ) (extAdd P)
 | _ => none

def BoxAt (P : Program) (w : World) (g : Gh) (d : Nat) (cs : List LV) : Prop :=
 ∃ (b : Nat) (vals : Array Value) (T : TypeId),g.own d = some b ∧ w.heap[b]? = some (.cells vals T (0,0)) ∧ vals.size = cs.length ∧ (∀ (i : Nat) (c : LV) (u : Value),cs[i]? = some c → vals[i]? = some u → Rep P w g c u) ∧ ∀ i,¬ g.S b i

def ArrAt (P : Program) (w : World) (g : Gh) (d : Nat) (cs : List LV) : Prop :=
 cs = [] ∨ ∃ (b : Nat) (vals : Array Value) (T : TypeId),g.own d = some b ∧ w.heap[b]? = some (.cells vals T (0,0)) ∧ cs.length ≤ vals.size ∧ (∀ (i : Nat) (c : LV) (u : Value),cs[i]? = some c → vals[i]? = some u → Rep P w g.bare c u) ∧ ∀ i,¬ g.S b i

section
variable {P : Program} {w : World} {g : Gh}
theorem run_ok {α : Type} (a : α) : (pure a : Sem α).run P w = .ok a w := rfl

theorem run_loadCells {b off : Nat} (val : Nat → Value) : ∀ (n i : Nat) (acc : Array Value),(∀ j,j < n → w.cell? ⟨b,off + i + j,none⟩ = some (val (i + j))) →
  (loadCellsFrom ⟨b,off,none⟩ i n acc).run P w = .ok (acc ++ ((List.range n).map fun j => val (i + j)).toArray) w
 | 0,i,acc,_ => by simp [loadCellsFrom,run_ok]
 | n + 1,i,acc,h => by
  have h0 := h 0 (by omega)
  simp only [Nat.add_zero] at h0
  have ih := run_loadCells val n (i + 1) (acc.push (val i)) (fun j hj => by
   have := h (j + 1) (by omega)
   rw [show off + (i + 1) + j = off + i + (j + 1) by omega,show i + 1 + j = i + (j + 1) by omega];exact this)
  have e : (load ((⟨b,off,none⟩ : Addr).add i)).run P w = .ok (val i) w := by
   rw [Addr.add_lit];simp [load,Sem.run,h0]
  show ((load ((⟨b,off,none⟩ : Addr).add i)) >>= fun v => loadCellsFrom ⟨b,off,none⟩ (i + 1) n (acc.push v)).run P w = _
  rw [Sem.run_bind,e]
  show (loadCellsFrom ⟨b,off,none⟩ (i + 1) n (acc.push (val i))).run P w = _
  rw [ih]
  congr 1
  apply Array.ext'
  simp only [Array.toList_append,Array.toList_push,List.append_assoc,List.range_succ_eq_map,List.map_cons,List.map_map,Nat.add_zero,List.cons_append,List.nil_append]
  congr 2
  apply List.map_congr_left
  intro j _
  simp only [Function.comp]
  congr 1;omega
theorem run_load_cells {b off : Nat} {t : TypeId} {cs : List LV} {x : LV} {g' : Gh} {val : Nat → Value} (hc : ∀ i,i < cs.length → w.cell? ⟨b,off + i,none⟩ = some (val i))
  (h : ∀ (i : Nat) (c : LV),cs[i]? = some c → Rep P w g' c (val i)) (hx : loadL P t cs = some x) : ∃ v,(loadVar t ⟨b,off,none⟩).run P w = .ok v w ∧ Rep P w g' x v := by
 unfold loadL at hx
 split at hx
 ·rename_i ha
  split at hx
  ·rename_i i hi
   split at hx
   ·rename_i hle
    cases hx
    refine ⟨.agg ((List.range i.size).map val).toArray,?_,.agg _ _ _ (by simp;omega) fun j c u hc' hu => ?_⟩
    ·have e1 : (isAgg t).run P w = .ok true w := by
      unfold aggL at ha
      split at ha <;> cases ha <;> rename_i hu <;> simp [isAgg,run_underlying hu]
     have e2 : (Go.sizeOf t).run P w = .ok i.size w := by simp [Go.sizeOf,typeInfo,hi]
     have e3 := run_loadCells (P := P) (w := w) (b := b) (off := off) val i.size 0 #[] (fun j hj => by simpa using hc j (by omega))
     simp only [loadVar,Sem.run_bind,e1,Result.andThen]
     simp only [if_true,Sem.run_bind,e2,Result.andThen,loadCells,e3]
     simp [run_ok]
    ·rw [List.getElem?_take] at hc'
     split at hc'
     ·rename_i hj
      have : u = val j := by simpa [hj] using hu.symm
      rw [this];exact h j c hc'
     ·cases hc'
   ·cases hx
  ·cases hx
 ·rename_i ha
  cases cs with
  | nil => cases hx
  | cons c r =>
   cases hx
   refine ⟨val 0,?_,h 0 _ rfl⟩
   have e1 : (isAgg t).run P w = .ok false w := by
    unfold aggL at ha
    split at ha <;> cases ha
    rename_i d hd1 hd2 hu
    simp only [isAgg,Sem.run_bind,run_underlying hu,Result.andThen]
    cases d <;> first | rfl | (exact absurd rfl (hd1 _)) | (exact absurd rfl (hd2 _ _))
   have h0 := hc 0 (by simp)
   simp only [Nat.add_zero] at h0
   simp only [loadVar,Sem.run_bind,e1,Result.andThen]
   simp [load,Sem.run,h0]
 ·cases hx
end
end Go.Proofs.YteamlijbkldlhaaGreatDoor
end
section
set_option linter.unusedSimpArgs false
set_option linter.unusedVariables false
namespace Go.Proofs.YteamlijbkldlhaaGreatDoor
open Go.RowKit

section
variable {P : Program} {w : World} {g : Gh}
theorem run_v {s : Sem Value} {v : Value} (h : s.run P w = .ok v w) : (do pure (Next.value (← s)) : Sem Next).run P w = .ok (.value v) w := by
 rw [Sem.run_bind,h];rfl
theorem unV_run {op : UnOp} {a v : Value} (h : unV op a = some v) : (Op.unary op a).run P w = .ok v w := by
 cases a <;> simp only [unV] at h <;> try (cases h;done)
 case bool b => cases op <;> simp only at h <;> first | (cases h;done) | (cases h;rfl)
 case int k n => cases op <;> simp only at h <;> first | (cases h;done) | (cases h;rfl)
theorem convV_run {s d : TypeId} {a v : Value} (h : convV P s d a = some v) : (convert s d a).run P w = .ok v w := by
 unfold convV at h
 split at h
 ·cases h;rename_i u k _ n hu hd;cases u <;> simp [convert,run_underlying hu,run_underlying hd,Conv.intToInt]
 ·cases h;rename_i u k _ n hu hd;exact run_convert_int_float _ _ _ _ _ _ (by simp [hu]) hd
 ·rename_i u k q b hu hd
  obtain ⟨n,hn,rfl⟩ := Option.map_eq_some_iff.1 h
  exact run_convert_float_int _ _ _ _ _ _ _ (by simp [hu]) hd hn
 ·cases h;rename_i hu hd;simp [convert,run_underlying hu,run_underlying hd]
 ·cases h
theorem idxV_run {t : TypeId} {a b v : Value} (h : idxV P t a b = some v) : (Instr.index t a b).run P w = .ok v w := by
 unfold idxV at h
 split at h
 ·rename_i s k z hu
  split at h
  ·rename_i hz
   obtain ⟨c,hc,rfl⟩ := Option.map_eq_some_iff.1 h
   have e : s[z.toNat]? = some c := by
    rw [Array.getElem?_toList] at hc
    rw [← hc];rfl
   simp [Instr.index,asIntOf,run_underlying hu,hz,e]
  ·cases h
 ·cases h
theorem rep_lit_inv {x : LV} {u v : Value} (hx : x = .lit u) (h : Rep P w g x v) : v = u := by subst hx;exact h.inv_lit
theorem bound_run {ρ : Operand → LV} {e : Operand → Value} {x : Operand} {k : IntKind} {z : Int} {y : Nat} (hr : Rep P w g (ρ x) (e x)) (h : ρ x = .lit (.int k z)) (h0 : 0 ≤ z) (h1 : z ≤ y) (c : BoundsCode) :
  (Instr.sliceBound (e x) y c).run P w = .ok z.toNat w := by
 rw [h] at hr
 rw [hr.inv_lit]
 simp [Instr.sliceBound,asIntOf,h0,h1]
theorem lowV_inv {ρ : Operand → LV} {x : Operand} {l : Int} (h : lowV (some (ρ x)) = some l) : ∃ k,ρ x = .lit (.int k l) := by
 unfold lowV at h
 split at h
 ·rename_i he;cases he
 ·cases h;rename_i k he;exact ⟨_,Option.some.inj he⟩
 ·cases h
theorem highV_inv {n : Nat} {ρ : Operand → LV} {x : Operand} {l : Int} (h : highV n (some (ρ x)) = some l) : ∃ k,ρ x = .lit (.int k l) := by
 unfold highV at h
 split at h
 ·rename_i he;cases he
 ·cases h;rename_i k he;exact ⟨_,Option.some.inj he⟩
 ·cases h
theorem sliceBounds_run {isS : Bool} {len cap : Nat} {lo hi : Option Operand} {ρ : Operand → LV} {e : Operand → Value} {l h : Int} (hrl : ∀ x,lo = some x → Rep P w g (ρ x) (e x)) (hrh : ∀ x,hi = some x → Rep P w g (ρ x) (e x))
  (hl : lowV (lo.map ρ) = some l) (hh : highV len (hi.map ρ) = some h) (h0 : 0 ≤ l) (h1 : l ≤ h) (h2 : h ≤ cap) :
  (Instr.sliceBounds isS len cap (lo.map e) (hi.map e) none).run P w = .ok (l.toNat,h.toNat,cap) w := by
 cases hi with
 | none =>
  have eh : h = len := by cases hh;rfl
  subst eh
  cases lo with
  | none =>
   have el : l = 0 := by cases hl;rfl
   subst el;rfl
  | some x =>
   obtain ⟨k,hk⟩ := lowV_inv hl
   have := bound_run (hrl x rfl) hk h0 h1 .sliceB
   simp [Instr.sliceBounds,this]
 | some y =>
  obtain ⟨k',hk'⟩ := highV_inv hh
  have eh := bound_run (y := cap) (hrh y rfl) hk' (by omega) h2 (if isS then .sliceAcap else .sliceAlen)
  cases lo with
  | none =>
   have el : l = 0 := by cases hl;rfl
   subst el
   simp [Instr.sliceBounds,eh]
  | some x =>
   obtain ⟨k,hk⟩ := lowV_inv hl
   have := bound_run (y := h.toNat) (hrl x rfl) hk h0 (by omega) .sliceB
   simp [Instr.sliceBounds,eh,this]
theorem sliceL_run {t : TypeId} {x : Operand} {lo hi : Option Operand} {ρ : Operand → LV} {e : Operand → Value} {r : LV} (hx : Rep P w g (ρ x) (e x)) (hrl : ∀ x,lo = some x → Rep P w g (ρ x) (e x)) (hrh : ∀ x,hi = some x → Rep P w g (ρ x) (e x))
  (h : sliceL P t (ρ x) (lo.map ρ) (hi.map ρ) = some r) : ∃ v,(Instr.sliceAt t (e x) (lo.map e) (hi.map e) none).run P w = .ok v w ∧ Rep P w g r v := by
 unfold sliceL at h
 split at h
 ·rename_i s he
  rw [he] at hx
  have hv := hx.inv_lit
  split at h
  ·rename_i l z hu hl hh
   split at h
   ·rename_i hb
    cases h
    refine ⟨_,?_,.lit _ _⟩
    have hlen : s.data.toList.length = s.size := by simp
    rw [hlen] at hh hb
    have := sliceBounds_run (P := P) (w := w) (g := g) (isS := false) (len := s.size) (cap := s.size) hrl hrh hl hh hb.1 hb.2.1 hb.2.2
    rw [hv]
    simp only [Instr.sliceAt,Instr.slice,Sem.run_bind,run_underlying hu,Result.andThen,this]
    simp only [Option.isSome,Bool.false_eq_true,if_false,Sem.run_bind,this,Result.andThen]
    have e1 : s.extract l.toNat z.toNat = ⟨((s.data.toList.take z.toNat).drop l.toNat).toArray⟩ := by
     have := ba_extract s.data.toList l.toNat z.toNat
     exact this
    rw [e1];rfl
   ·cases h
  ·cases h
 ·rename_i n cs tk he
  rw [he] at hx
  split at h
  ·rename_i e' k l z hek hl hh
   split at h
   ·rename_i hb
    cases h
    unfold elemL at hek
    split at hek
    ·rename_i e2 hu
     obtain ⟨i,hi',heq⟩ := Option.map_eq_some_iff.1 hek
     cases heq
     have hsz : (Go.sizeOf e').run P w = .ok i.size w := by simp [Go.sizeOf,typeInfo,hi']
     rcases hx.inv_sl with ⟨p,cap,hv,rfl,rfl⟩ | ⟨b,off,cap,hv,hcap,hc⟩
     ·have hz : z = 0 := by omega
      have hl0 : l = 0 := by omega
      subst hz;subst hl0
      have := sliceBounds_run (P := P) (w := w) (g := g) (isS := true) (len := 0) (cap := cap) hrl hrh hl hh (by omega) (by omega) (by omega)
      rw [hv]
      refine ⟨.slice (if cap = (0 : Int).toNat then p else p.map (·.add ((0 : Int).toNat * i.size))) 0 cap,?_,?_⟩
      ·simp only [Instr.sliceAt,Instr.slice,Sem.run_bind,run_underlying hu,Result.andThen,this,hsz]
       rfl
      ·simp only [Int.toNat_zero,Nat.zero_mul,List.take_nil,List.drop_nil,Nat.sub_self];exact .empty _ _ _
     ·have := sliceBounds_run (P := P) (w := w) (g := g) (isS := true) (len := n) (cap := cap) hrl hrh hl hh hb.1 hb.2.1 (by omega)
      rw [hv]
      by_cases hcl : cap = l.toNat
      ·refine ⟨.slice (some ⟨b,off,none⟩) (z.toNat - l.toNat) (cap - l.toNat),?_,?_⟩
       ·simp only [Instr.sliceAt,Instr.slice,Sem.run_bind,run_underlying hu,Result.andThen,this,hsz]
        simp [hcl]
       ·have e0 : z.toNat - l.toNat = 0 := by omega
        have e1 : (cs.take (z.toNat * i.size)).drop (l.toNat * i.size) = [] := by
         apply List.drop_eq_nil_of_le
         have : z.toNat = l.toNat := by omega
         rw [this];exact List.length_take_le _ _
        rw [e0,e1];exact .empty _ _ _
      ·refine ⟨.slice (some ⟨b,off + l.toNat * i.size,none⟩) (z.toNat - l.toNat) (cap - l.toNat),?_,?_⟩
       ·simp only [Instr.sliceAt,Instr.slice,Sem.run_bind,run_underlying hu,Result.andThen,this,hsz]
        simp [hcl,run_ok,Addr.add_lit]
       ·exact ((hc.take _).drop _).rep_sl (by omega)
    ·cases hek
   ·cases h
  ·cases h
 ·rename_i d n e0 he
  rw [he] at hx
  split at h
  ·rename_i e' k l z hek hl hh
   split at h
   ·rename_i hb
    cases h
    unfold elemL at hek
    split at hek
    ·rename_i e2 hu
     obtain ⟨i,hi',heq⟩ := Option.map_eq_some_iff.1 hek
     cases heq
     have hsz : (Go.sizeOf e').run P w = .ok i.size w := by simp [Go.sizeOf,typeInfo,hi']
     rcases hx.inv_bsl with ⟨hv,rfl⟩ | ⟨b,cap,cur,h1,hv,h3,h4,h5,h6,h7⟩
     ·have hz : z = 0 := by omega
      have hl0 : l = 0 := by omega
      subst hz;subst hl0
      have := sliceBounds_run (P := P) (w := w) (g := g) (isS := true) (len := 0) (cap := 0) hrl hrh hl hh (by omega) (by omega) (by omega)
      rw [hv]
      refine ⟨.slice none 0 0,?_,?_⟩
      ·simp only [Instr.sliceAt,Instr.slice,Sem.run_bind,run_underlying hu,Result.andThen,this,hsz]
       rfl
      ·exact .empty _ _ _
     ·have := sliceBounds_run (P := P) (w := w) (g := g) (isS := true) (len := n) (cap := cap) hrl hrh hl hh hb.1 hb.2.1 (by omega)
      rw [hv,if_neg (by omega)]
      by_cases hcl : cap = l.toNat
      ·refine ⟨.slice (some ⟨b,0,none⟩) (z.toNat - l.toNat) (cap - l.toNat),?_,?_⟩
       ·simp only [Instr.sliceAt,Instr.slice,Sem.run_bind,run_underlying hu,Result.andThen,this,hsz]
        simp [hcl]
       ·have e0 : z.toNat - l.toNat = 0 := by omega
        exact .sub _ _ _ _ _ (.sl _ _ _ _ _ _ (by omega) (fun _ => undef) (fun i hi => by cases hi) (fun i c hc => by cases hc)) b 0 _ rfl (fun h => absurd e0 h) h1
      ·refine ⟨.slice (some ⟨b,0 + l.toNat * i.size,none⟩) (z.toNat - l.toNat) (cap - l.toNat),?_,?_⟩
       ·simp only [Instr.sliceAt,Instr.slice,Sem.run_bind,run_underlying hu,Result.andThen,this,hsz]
        simp [hcl,run_ok,Addr.add_lit]
       ·exact .sub _ _ _ _ _ (.sl _ _ _ _ _ _ (by omega) (fun _ => undef) (fun i hi => by cases hi) (fun i c hc => by cases hc)) b _ _ rfl (fun _ => by rw [Nat.zero_add]) h1
    ·cases hek
   ·cases h
  ·cases h
 ·rename_i d off he
  rw [he] at hx
  obtain ⟨b,hv,hb⟩ := hx.inv_ptr
  unfold sliceArr at h
  split at h
  ·rename_i n k hek
   split at h
   ·rename_i l z hl hh
    split at h
    ·rename_i hbd
     cases h
     unfold arrL at hek
     split at hek
     ·rename_i n' e2 hu
      obtain ⟨i,hi',heq⟩ := Option.map_eq_some_iff.1 hek
      cases heq
      have hsz : (Go.sizeOf e2).run P w = .ok i.size w := by simp [Go.sizeOf,typeInfo,hi']
      have := sliceBounds_run (P := P) (w := w) (g := g) (isS := false) (len := n) (cap := n) hrl hrh hl hh hbd.1 hbd.2.1 hbd.2.2
      rw [hv]
      by_cases hcl : n = l.toNat
      ·refine ⟨.slice (some ⟨b,off,none⟩) (z.toNat - l.toNat) (n - l.toNat),?_,?_⟩
       ·have e1 : (Instr.sureAddr (.pointer (some ⟨b,off,none⟩))).run P w = .ok ⟨b,off,none⟩ w := rfl
        simp only [Instr.sliceAt,Sem.run_bind,run_underlying hu,Result.andThen,e1,this,hsz,if_pos hcl]
        rfl
       ·have e0 : z.toNat - l.toNat = 0 := by omega
        exact .sub _ _ _ _ _ (.sl _ _ _ _ _ _ (by omega) (fun _ => undef) (fun i hi => by cases hi) (fun i c hc => by cases hc)) b off _ rfl (fun h => absurd e0 h) hb
      ·refine ⟨.slice (some ⟨b,off + l.toNat * i.size,none⟩) (z.toNat - l.toNat) (n - l.toNat),?_,?_⟩
       ·have e1 : (Instr.sureAddr (.pointer (some ⟨b,off,none⟩))).run P w = .ok ⟨b,off,none⟩ w := rfl
        simp only [Instr.sliceAt,Sem.run_bind,run_underlying hu,Result.andThen,e1,this,hsz,if_neg hcl]
        simp [run_ok,Addr.add_lit]
       ·exact .sub _ _ _ _ _ (.sl _ _ _ _ _ _ (by omega) (fun _ => undef) (fun i hi => by cases hi) (fun i c hc => by cases hc)) b _ _ rfl (fun _ => rfl) hb
     ·cases hek
    ·cases h
   ·cases h
  ·cases h
 ·cases h
theorem bytesOf_get : ∀ {cs : List LV} {l : List UInt8},bytesOf cs = some l → cs.length = l.length ∧ ∀ (j : Nat) (hj : j < l.length),cs[j]? = some (.lit (.int .u8 (l[j].toNat : Int)))
 | [],l,h => by cases h;exact ⟨rfl,fun j hj => by cases hj⟩
 | c :: r,l,h => by
  unfold bytesOf at h
  split at h
  ·rename_i heq;cases heq
  ·rename_i z r' heq
   cases heq
   split at h
   ·rename_i hz
    obtain ⟨l',hl',rfl⟩ := Option.map_eq_some_iff.1 h
    obtain ⟨e1,e2⟩ := bytesOf_get hl'
    refine ⟨by simp [e1],fun j hj => ?_⟩
    match j with
    | 0 =>
     simp only [List.getElem?_cons_zero,List.getElem_cons_zero]
     have : ((UInt8.ofNat z.toNat).toNat : Int) = z := by simp;omega
     rw [this]
    | j + 1 => simpa using e2 j (by simpa using hj)
   ·cases h
  ·cases h
theorem bconv_run {s d : TypeId} {n cap : Nat} {cs : List LV} {r : LV} {v : Value} {p : Option Addr} (hv : v = .slice p n cap) (h : bconvL P s d n cs = some r) (hc : n = 0 ∨ ∃ a : Addr,p = some a ∧ ∀ j c,cs[j]? = some c → ∃ u,w.cell? (a.add j) = some u ∧ Rep P w g.bare c u) :
  ∃ v',(convert s d v).run P w = .ok v' w ∧ Rep P w g r v' := by
 unfold bconvL at h
 split at h
 ·rename_i e hs hd
  split at h
  ·rename_i he
   split at h
   ·rename_i hl
    obtain ⟨l,hb,rfl⟩ := Option.map_eq_some_iff.1 h
    obtain ⟨e1,e2⟩ := bytesOf_get hb
    refine ⟨_,?_,.lit _ _⟩
    rw [hv]
    rcases hc with rfl | ⟨a,rfl,hc⟩
    ·have : l = [] := List.eq_nil_of_length_eq_zero (by omega)
     subst this
     cases p with
     | none => rw [run_convert_bytes_string w s d e none 0 cap hs he hd];rfl
     | some a => exact run_convert_bytes_back w s d e a cap [] hs he hd fun j hj => by cases hj
    ·have hn : n = l.length := by omega
     subst hn
     refine run_convert_bytes_back w s d e a cap l hs he hd fun j hj => ?_
     obtain ⟨u,h1,h2⟩ := hc j _ (e2 j hj)
     rw [h1,h2.inv_lit]
   ·cases h
  ·cases h
 ·cases h
theorem convL_run {B A : Nat → Option (List LV)} {s d : TypeId} {x r : LV} {v : Value} (hx : Rep P w g x v) (hB : ∀ d cs,B d = some cs → BoxAt P w g d cs) (hA : ∀ d cs,A d = some cs → ArrAt P w g d cs) (h : convL P B A s d x = some r) : ∃ v',(convert s d v).run P w = .ok v' w ∧ Rep P w g r v' := by
 unfold convL at h
 split at h
 ·obtain ⟨v',hv,rfl⟩ := Option.map_eq_some_iff.1 h
  exact ⟨v',by rw [hx.inv_lit];exact convV_run hv,.lit _ _⟩
 ·rename_i n cs t
  have plain : bconvL P s d n cs = some r → ∃ v',(convert s d v).run P w = .ok v' w ∧ Rep P w g r v' := fun h => by
   rcases hx.inv_sl with ⟨p,cap,rfl,rfl,rfl⟩ | ⟨b,off,cap,rfl,hcap,val,h1,h2⟩
   ·exact bconv_run rfl h (.inl rfl)
   ·refine bconv_run rfl h (.inr ⟨_,rfl,fun j c hc => ⟨val j,?_,h2 j c hc⟩⟩)
    rw [Addr.add_lit]
    exact (h1 j (List.getElem?_eq_some_iff.1 hc).1).2
  unfold convT at h
  split at h
  ·exact plain h
  ·exact plain h
  ·exact plain h
  ·rename_i q off
   obtain ⟨rfl,h0,b,o,cap,rfl,ho,hb⟩ := hx.inv_sub
   unfold convB at h
   split at h
   ·rename_i xs hq
    split at h
    ·rename_i hle
     by_cases hn : n = 0
     ·subst hn
      exact bconv_run rfl h (.inl rfl)
     ·refine bconv_run rfl h (.inr ⟨_,rfl,fun j c hc => ?_⟩)
      obtain ⟨b',vals,T,k1,k2,k3,k4,k5⟩ := hB q xs hq
      rw [hb] at k1;cases k1
      have hjn : j < n := by
       have := (List.getElem?_eq_some_iff.1 hc).1
       rw [List.length_take] at this;omega
      rw [List.getElem?_take_of_lt hjn,List.getElem?_drop] at hc
      have hjv : off + j < vals.size := by omega
      refine ⟨vals[off + j],?_,?_⟩
      ·rw [Addr.add_lit,ho hn]
       simp [World.cell?,k2,hjv]
      ·have hr := k4 (off + j) c _ hc (Array.getElem?_eq_getElem hjv)
       have hc2 : ∃ u,c = .lit u := by
        unfold bconvL at h
        split at h
        ·split at h
         ·split at h
          ·obtain ⟨l,hl,_⟩ := Option.map_eq_some_iff.1 h
           have hcc : ((xs.drop off).take n)[j]? = some c := by rw [List.getElem?_take_of_lt hjn,List.getElem?_drop];exact hc
           obtain ⟨e1,e2⟩ := bytesOf_get hl
           have hj2 : j < l.length := by rw [← e1];exact (List.getElem?_eq_some_iff.1 hcc).1
           rw [e2 j hj2] at hcc
           exact ⟨_,(Option.some.inj hcc).symm⟩
          ·cases h
         ·cases h
        ·cases h
       obtain ⟨u,rfl⟩ := hc2
       rw [hr.inv_lit];exact .lit _ _
    ·cases h
   ·cases h
 ·rename_i q n e
  split at h
  ·rename_i cs hq
   split at h
   ·rename_i hl
    rcases hx.inv_bsl with ⟨rfl,rfl⟩ | ⟨b,cap,cur,h1,rfl,h3,h4,h5,h6,h7⟩
    ·exact bconv_run rfl h (.inl rfl)
    ·refine bconv_run rfl h (.inr ⟨_,rfl,fun j c hc => ?_⟩)
     rcases hA q cs hq with rfl | ⟨b',vals,T,k1,k2,k3,k4,k5⟩
     ·cases hc
     ·rw [h1] at k1;cases k1
      rw [h3] at k2;cases k2
      have hj := (List.getElem?_eq_some_iff.1 hc).1
      have hjv : j < cur.size := by omega
      refine ⟨cur[j],?_,k4 j c _ hc (Array.getElem?_eq_getElem hjv)⟩
      rw [Addr.add_lit,Nat.zero_add]
      simp [World.cell?,h3,hjv]
   ·cases h
  ·cases h
 ·cases h
theorem moveL_run {k : Nat} {x r : LV} {v : Value} (hx : Rep P w g x v) (h : moveL k x = some r) : ∃ b off,v = .pointer (some ⟨b,off,none⟩) ∧ Rep P w g r (.pointer (some ⟨b,off + k,none⟩)) := by
 unfold moveL at h
 split at h
 ·cases h
  obtain ⟨b,off,rfl,hc⟩ := hx.inv_ref
  exact ⟨b,off,rfl,(hc.drop k).rep_ref⟩
 ·cases h
  obtain ⟨b,rfl,hb⟩ := hx.inv_ptr
  exact ⟨b,_,rfl,.ptr _ _ _ _ hb⟩
 ·cases h
  obtain ⟨b,rfl,hb⟩ := hx.inv_aptr
  exact ⟨b,_,rfl,.aptr _ _ _ _ hb⟩
 ·cases h
theorem fieldAtL_run {s : TypeId} {f : Nat} {x r : LV} {v : Value} (hx : Rep P w g x v) (h : fieldAtL P s f x = some r) : ∃ u,(Instr.fieldAt s v f).run P w = .ok u w ∧ Rep P w g r u := by
 unfold fieldAtL at h
 split at h
 ·rename_i o ft hf
  obtain ⟨b,off,rfl,hr⟩ := moveL_run hx h
  refine ⟨_,?_,hr⟩
  unfold fieldL at hf
  split at hf
  ·rename_i fs hu
   split at hf
   ·rename_i fl hfl
    split at hf
    ·rename_i i hi
     split at hf
     ·cases hf
     ·rename_i hz
      cases hf
      simp [Instr.fieldAt,run_underlying hu,hfl,Instr.sureAddr,fieldPlace,Go.sizeOf,typeInfo,hi,hz,Addr.add_lit]
    ·cases hf
   ·cases hf
  ·cases hf
 ·cases h
theorem indexL_run {t : TypeId} {x i r : LV} {v u : Value} (hx : Rep P w g x v) (hi : Rep P w g i u) (h : indexL P t x i = some r) : ∃ q,(Instr.indexAt t v u).run P w = .ok q w ∧ Rep P w g r q := by
 unfold indexL at h
 split at h
 ·rename_i e k he
  unfold indexAtL at h
  split at h
  ·rename_i n cs tk kk z
   split at h
   ·rename_i hz
    cases h
    rw [hi.inv_lit]
    unfold elemL at he
    split at he
    ·rename_i e' hu
     obtain ⟨inf,hinf,heq⟩ := Option.map_eq_some_iff.1 he
     cases heq
     rcases hx.inv_sl with ⟨p,cap,hv,rfl,rfl⟩ | ⟨b,off,cap,hv,hcap,hc⟩
     ·omega
     ·rw [hv]
      refine ⟨_,?_,(hc.drop (z.toNat * inf.size)).rep_ref⟩
      simp [Instr.indexAt,asIntOf,run_underlying hu,hz.1,hz.2,Go.sizeOf,typeInfo,hinf,Addr.add_lit]
    ·cases he
   ·cases h
  ·rename_i d n e2 kk z
   split at h
   ·rename_i hz
    cases h
    rw [hi.inv_lit]
    unfold elemL at he
    split at he
    ·rename_i e' hu
     obtain ⟨inf,hinf,heq⟩ := Option.map_eq_some_iff.1 he
     cases heq
     rcases hx.inv_bsl with ⟨hv,rfl⟩ | ⟨b,cap,cur,hb,hv,_⟩
     ·omega
     ·rw [hv]
      refine ⟨.pointer (some ⟨b,0 + z.toNat * inf.size,none⟩),?_,?_⟩
      ·simp [Instr.indexAt,asIntOf,run_underlying hu,hz.1,hz.2,Go.sizeOf,typeInfo,hinf,Addr.add_lit]
      ·rw [Nat.zero_add];exact .aptr _ _ _ _ hb
    ·cases he
   ·cases h
  ·cases h
 ·unfold indexArr at h
  split at h
  ·rename_i n k he
   unfold arrL at he
   split at he
   ·rename_i n' e' hu
    obtain ⟨inf,hinf,heq⟩ := Option.map_eq_some_iff.1 he
    cases heq
    split at h
    ·rename_i d off kk z
     split at h
     ·rename_i hz
      cases h
      rw [hi.inv_lit]
      obtain ⟨b,hv,hb⟩ := hx.inv_ptr
      rw [hv]
      refine ⟨.pointer (some ⟨b,off + z.toNat * inf.size,none⟩),?_,.ptr _ _ _ _ hb⟩
      simp [Instr.indexAt,asIntOf,run_underlying hu,hz.1,hz.2,Go.sizeOf,typeInfo,hinf,Addr.add_lit,Instr.sureAddr]
     ·cases h
    ·rename_i cs kk z
     split at h
     ·rename_i hz
      cases h
      rw [hi.inv_lit]
      obtain ⟨b,off,hv,hc⟩ := hx.inv_ref
      rw [hv]
      refine ⟨.pointer (some ⟨b,off + z.toNat * inf.size,none⟩),?_,(hc.drop (z.toNat * inf.size)).rep_ref⟩
      simp [Instr.indexAt,asIntOf,run_underlying hu,hz.1,hz.2,Go.sizeOf,typeInfo,hinf,Addr.add_lit,Instr.sureAddr]
     ·cases h
    ·cases h
   ·cases he
  ·cases h
theorem cell_of_heap {b i : Nat} {vals : Array Value} {T : TypeId} {f : Nat × Nat} (h : w.heap[b]? = some (.cells vals T f)) : w.cell? ⟨b,i,none⟩ = vals[i]? := by
 simp [World.cell?,h]
theorem loadAtL_run {B A : Nat → Option (List LV)} {t : TypeId} {x r : LV} {v : Value} (hx : Rep P w g x v) (hB : ∀ d cs,B d = some cs → BoxAt P w g d cs) (hA : ∀ d cs,A d = some cs → ArrAt P w g d cs) (h : loadAtL P B A t x = some r) : ∃ u,(Instr.loadAt t v).run P w = .ok u w ∧ Rep P w g r u := by
 unfold loadAtL at h
 split at h
 ·obtain ⟨b,off,rfl,val,h1,h2⟩ := hx.inv_ref
  obtain ⟨r',hr',rfl⟩ := Option.map_eq_some_iff.1 h
  obtain ⟨u,hu,hr⟩ := run_load_cells (g' := g.bare) (fun i hi => (h1 i hi).2) h2 hr'
  exact ⟨u,by simpa [Instr.loadAt,Instr.sureAddr] using hu,hr.strip2 rfl⟩
 ·rename_i d o
  split at h
  ·rename_i cs hcs
   obtain ⟨b,rfl,hb⟩ := hx.inv_ptr
   obtain ⟨b',vals,T,hb',hh,hl,hr,_⟩ := hB d cs hcs
   rw [hb] at hb'
   cases hb'
   obtain ⟨u,hu,hr'⟩ := run_load_cells (P := P) (w := w) (b := b) (off := o) (g' := g) (val := fun i => vals.getD (o + i) undef) (cs := cs.drop o) (fun i hi => by
     have : o + i < vals.size := by rw [List.length_drop] at hi;omega
     rw [cell_of_heap hh];simp [this]) (fun i c hc => by
     rw [List.getElem?_drop] at hc
     have hi : o + i < vals.size := by rw [hl];exact (List.getElem?_eq_some_iff.1 hc).1
     exact hr (o + i) c _ hc (by simp [hi])) h
   exact ⟨u,by simpa [Instr.loadAt,Instr.sureAddr] using hu,hr'⟩
  ·cases h
 ·rename_i d o
  split at h
  ·rename_i cs hcs
   obtain ⟨r',hr',rfl⟩ := Option.map_eq_some_iff.1 h
   obtain ⟨b,rfl,hb⟩ := hx.inv_aptr
   rcases hA d cs hcs with rfl | ⟨b',vals,T,hb',hh,hl,hr,_⟩
   ·obtain ⟨u,hu,hr2⟩ := run_load_cells (P := P) (w := w) (b := b) (off := o) (g' := g.bare) (val := fun _ => undef) (cs := ([] : List LV).drop o) (fun i hi => by simp at hi) (fun i c hc => by simp at hc) hr'
    exact ⟨u,by simpa [Instr.loadAt,Instr.sureAddr] using hu,hr2.strip2 rfl⟩
   ·rw [hb] at hb'
    cases hb'
    obtain ⟨u,hu,hr2⟩ := run_load_cells (P := P) (w := w) (b := b) (off := o) (g' := g.bare) (val := fun i => vals.getD (o + i) undef) (cs := cs.drop o) (fun i hi => by
      have : o + i < vals.size := by rw [List.length_drop] at hi;omega
      rw [cell_of_heap hh];simp [this]) (fun i c hc => by
      rw [List.getElem?_drop] at hc
      have hi : o + i < vals.size := by have := (List.getElem?_eq_some_iff.1 hc).1;omega
      exact hr (o + i) c _ hc (by simp [hi])) hr'
    exact ⟨u,by simpa [Instr.loadAt,Instr.sureAddr] using hu,hr2.strip2 rfl⟩
  ·cases h
 ·cases h
theorem fieldV_run {s : TypeId} {f : Nat} {x r : LV} {v : Value} (hx : Rep P w g x v) (h : fieldV P s f x = some r) : ∃ u,(Instr.field s v f).run P w = .ok u w ∧ Rep P w g r u := by
 unfold fieldV at h
 split at h
 ·rename_i o t cs hf
  obtain ⟨vs,rfl,hl,hr⟩ := hx.inv_agg
  unfold fieldL at hf
  split at hf
  ·rename_i fs hu
   split at hf
   ·rename_i fl hfl
    split at hf
    ·rename_i i hi
     split at hf
     ·cases hf
     ·cases hf
      unfold loadL at h
      split at h
      ·rename_i ha
       rw [hi] at h
       simp only at h
       split at h
       ·rename_i hle
        cases h
        have e1 : (isAgg fl.type).run P w = .ok true w := by
         unfold aggL at ha
         split at ha <;> cases ha <;> rename_i hu <;> simp [isAgg,run_underlying hu]
        have e2 : (Go.sizeOf fl.type).run P w = .ok i.size w := by simp [Go.sizeOf,typeInfo,hi]
        have hle' : fl.offset + i.size ≤ vs.size := by rw [List.length_drop] at hle;omega
        refine ⟨.agg (vs.extract fl.offset (fl.offset + i.size)),?_,.agg _ _ _ (by simp;omega) fun j c u hc hu => ?_⟩
        ·simp [Instr.field,run_underlying hu,hfl,asAgg,part,e1,e2]
        ·rw [List.getElem?_take] at hc
         split at hc
         ·rename_i hj
          rw [List.getElem?_drop] at hc
          refine hr (fl.offset + j) c u hc ?_
          rw [Array.getElem?_extract] at hu
          split at hu
          ·exact hu
          ·cases hu
         ·cases hc
       ·cases h
      ·rename_i ha
       have e1 : (isAgg fl.type).run P w = .ok false w := by
        unfold aggL at ha
        split at ha <;> cases ha
        rename_i d hd1 hd2 hu
        simp only [isAgg,Sem.run_bind,run_underlying hu,Result.andThen]
        cases d <;> first | rfl | (exact absurd rfl (hd1 _)) | (exact absurd rfl (hd2 _ _))
       have h0 : cs[fl.offset]? = some r := by
        rw [List.head?_eq_getElem?,List.getElem?_drop] at h;simpa using h
       have hlt : fl.offset < vs.size := by rw [hl];exact (List.getElem?_eq_some_iff.1 h0).1
       refine ⟨vs[fl.offset],?_,hr fl.offset r _ h0 (by simp [hlt])⟩
       simp [Instr.field,run_underlying hu,hfl,asAgg,part,e1,hlt]
      ·cases h
    ·cases hf
   ·cases hf
  ·cases hf
 ·cases h
theorem lenL_run {t T : TypeId} {x r : LV} {v : Value} (hx : Rep P w g x v) (h : lenL P t x = some r) : ∃ u,(Builtin.len_ #[t] T #[v]).run P w = .ok u w ∧ Rep P w g r u := by
 unfold lenL at h
 split at h
 ·split at h
  ·rename_i e hu
   cases h
   rcases hx.inv_sl with ⟨p,cap,hv,rfl,rfl⟩ | ⟨b,off,cap,hv,_,_⟩ <;> rw [hv] <;> exact ⟨_,by simp [Builtin.len_,run_underlying hu,goInt],.lit _ _⟩
  ·cases h
 ·split at h
  ·rename_i hu
   cases h
   rw [hx.inv_lit]
   exact ⟨_,by simp [Builtin.len_,run_underlying hu,goInt];rfl,by simpa using .lit _ _⟩
  ·cases h
 ·split at h
  ·rename_i e hu
   cases h
   rcases hx.inv_bsl with ⟨hv,rfl⟩ | ⟨b,cap,cur,hb,hv,_⟩ <;> rw [hv] <;> exact ⟨_,by simp [Builtin.len_,run_underlying hu,goInt],.lit _ _⟩
  ·cases h
 ·cases h
theorem minmaxV_run {big : Bool} {ts : Array TypeId} {T : TypeId} {x y v : Value} (h : minmaxV big x y = some v) : ((if big then Builtin.max_ else Builtin.min_) ts T #[x,y]).run P w = .ok v w := by
 unfold minmaxV at h
 split at h
 ·cases h;cases big <;> rfl
 ·cases h
theorem map1 {α β : Type} {f : α → β} {l : List α} {x : β} (h : l.map f = [x]) : ∃ y,l = [y] ∧ f y = x := by
 cases l with
 | nil => cases h
 | cons a r => cases r with
  | nil => cases h;exact ⟨a,rfl,rfl⟩
  | cons b r => cases h
theorem map2 {α β : Type} {f : α → β} {l : List α} {x z : β} (h : l.map f = [x,z]) : ∃ y u,l = [y,u] ∧ f y = x ∧ f u = z := by
 cases l with
 | nil => cases h
 | cons a r => cases r with
  | nil => cases h
  | cons b r => cases r with
   | nil => cases h;exact ⟨a,b,rfl,rfl,rfl⟩
   | cons c r => cases h
theorem builtinL_run {b : Builtin} {ts : Array TypeId} {T : TypeId} {args : Array Operand} {cb : Array Bool} {ρ : Operand → LV} {e : Operand → Value} {r : LV} (hr : ∀ x ∈ args,Rep P w g (ρ x) (e x)) (h : builtinL P b ts.toList (args.toList.map ρ) = some r) :
  ∃ u,(builtin b ts T cb (args.map e)).run P w = .ok (.value u) w ∧ Rep P w g r u := by
 obtain ⟨args⟩ := args
 obtain ⟨ts⟩ := ts
 unfold builtinL at h
 split at h
 ·rename_i t x ht hx
  obtain ⟨y,rfl,rfl⟩ := map1 hx
  simp only at ht
  subst ht
  obtain ⟨u,hu,hr'⟩ := lenL_run (T := T) (hr y (by simp)) h
  exact ⟨u,run_v (by simpa using hu),hr'⟩
 ·rename_i x y hx
  obtain ⟨p,q,rfl,hp,hq⟩ := map2 hx
  obtain ⟨v,hv,rfl⟩ := Option.map_eq_some_iff.1 h
  have h1 := rep_lit_inv hp (hr p (by simp))
  have h2 := rep_lit_inv hq (hr q (by simp))
  refine ⟨v,run_v ?_,.lit _ _⟩
  have := minmaxV_run (P := P) (w := w) (ts := ⟨ts⟩) (T := T) hv
  simpa [h1,h2] using this
 ·rename_i x y hx
  obtain ⟨p,q,rfl,hp,hq⟩ := map2 hx
  obtain ⟨v,hv,rfl⟩ := Option.map_eq_some_iff.1 h
  have h1 := rep_lit_inv hp (hr p (by simp))
  have h2 := rep_lit_inv hq (hr q (by simp))
  refine ⟨v,run_v ?_,.lit _ _⟩
  have := minmaxV_run (P := P) (w := w) (ts := ⟨ts⟩) (T := T) hv
  simpa [h1,h2] using this
 ·rename_i k x y hx
  obtain ⟨p,rfl,hp⟩ := map1 hx
  cases h
  have h1 := rep_lit_inv hp (hr p (by simp))
  exact ⟨_,run_v (by simpa [h1] using run_real (P := P) (w := w) ⟨ts⟩ T _ _ _),.lit _ _⟩
 ·rename_i k x y hx
  obtain ⟨p,rfl,hp⟩ := map1 hx
  cases h
  have h1 := rep_lit_inv hp (hr p (by simp))
  exact ⟨_,run_v (by simpa [h1] using run_imag (P := P) (w := w) ⟨ts⟩ T _ _ _),.lit _ _⟩
 ·rename_i k x k' y hx
  obtain ⟨p,q,rfl,hp,hq⟩ := map2 hx
  split at h
  ·rename_i hk
   subst hk
   cases h
   have h1 := rep_lit_inv hp (hr p (by simp))
   have h2 := rep_lit_inv hq (hr q (by simp))
   exact ⟨_,run_v (by simpa [h1,h2] using run_complex (P := P) (w := w) ⟨ts⟩ T _ _ _),.lit _ _⟩
  ·cases h
 ·cases h

theorem cellsL_rep {w : World} {g : Gh} {x : LV} {v : Value} {cs : List LV} (h : Rep P w g x v) (hc : cellsL x = some cs) : v.cells.size = cs.length ∧ ∀ (i : Nat) (c : LV) (u : Value),cs[i]? = some c → v.cells[i]? = some u → Rep P w g c u := by
 have one : ∀ {y : LV} {u : Value},Rep P w g y u → u.cells = #[u] → u.cells.size = [y].length ∧ ∀ (i : Nat) (c : LV) (z : Value),[y][i]? = some c → u.cells[i]? = some z → Rep P w g c z := by
  intro y u hr hu
  rw [hu]
  refine ⟨rfl,fun i c z hc hz => ?_⟩
  match i,hc,hz with
  | 0,hc,hz => cases hc;cases hz;exact hr
 cases x with
 | any => cases hc
 | tup => cases hc
 | agg ds =>
  cases hc
  obtain ⟨vs,rfl,hl,hr⟩ := h.inv_agg
  exact ⟨hl,hr⟩
 | lit u =>
  have := h.inv_lit
  subst this
  cases v <;> cases hc <;> exact one h rfl
 | sl n ds t =>
  cases hc
  rcases h.inv_sl with ⟨p,cap,rfl,_,_⟩ | ⟨b,off,cap,rfl,_,_⟩ <;> exact one h rfl
 | ref ds => cases hc;obtain ⟨b,off,rfl,_⟩ := h.inv_ref;exact one h rfl
 | ptr d o => cases hc;obtain ⟨b,rfl,_⟩ := h.inv_ptr;exact one h rfl
 | aptr d o => cases hc;obtain ⟨b,rfl,_⟩ := h.inv_aptr;exact one h rfl
 | bsl d n e =>
  cases hc
  rcases h.inv_bsl with ⟨rfl,_⟩ | ⟨b,cap,cur,_,rfl,_⟩ <;> exact one h rfl
theorem foldl_set {off : Nat} : ∀ (l : List Value) (j0 : Nat) (cells : Array Value),off + j0 + l.length ≤ cells.size →
  ((l.zipIdx j0).foldl (fun cs p => cs.setIfInBounds (off + p.2) p.1) cells).toList = cells.toList.take (off + j0) ++ l ++ cells.toList.drop (off + j0 + l.length)
 | [],j0,cells,_ => by simp
 | c :: r,j0,cells,h => by
  rw [List.length_cons] at h
  rw [List.zipIdx_cons,List.foldl_cons,foldl_set r (j0 + 1) _ (by simp;omega)]
  have hlt : off + j0 < cells.toList.length := by rw [Array.length_toList];omega
  have e : (cells.setIfInBounds (off + j0) c).toList = cells.toList.take (off + j0) ++ c :: cells.toList.drop (off + j0 + 1) := by
   rw [Array.toList_setIfInBounds,List.set_eq_take_append_cons_drop,if_pos hlt]
  have hto : (cells.toList.take (off + j0)).length = off + j0 := by rw [List.length_take];omega
  rw [e]
  rw [show off + (j0 + 1) = off + j0 + 1 by omega,List.length_cons]
  rw [List.take_append,hto,List.take_of_length_le (by omega),show off + j0 + 1 - (off + j0) = 1 by omega,List.take_succ_cons,List.take_zero]
  rw [List.drop_append,hto,List.drop_eq_nil_of_le (by omega),show off + j0 + 1 + r.length - (off + j0) = r.length + 1 by omega,List.drop_succ_cons,List.drop_drop,List.nil_append]
  simp [Nat.add_assoc,Nat.add_comm 1]
theorem fill_run {w : World} {g : Gh} {place : Nat → Option (Nat × Nat)} {e : Operand → Value} {ρ : Operand → LV} : ∀ (parts : List (Nat × Operand)) (cells : Array Value) (cs rs : List LV),(∀ p ∈ parts,Rep P w g (ρ p.2) (e p.2)) → cells.size = cs.length → (∀ (i : Nat) (c : LV) (u : Value),cs[i]? = some c → cells[i]? = some u → Rep P w g c u) →
  fillL place cs (parts.map fun q => (q.1,ρ q.2)) = some rs → ∃ out : Array Value,Instr.fill place cells (parts.map fun q => (q.1,e q.2)) = some out ∧ out.size = rs.length ∧ ∀ (i : Nat) (c : LV) (u : Value),rs[i]? = some c → out[i]? = some u → Rep P w g c u
 | [],cells,cs,rs,_,hl,hr,h => by cases h;exact ⟨cells,rfl,hl,hr⟩
 | (i,x) :: r,cells,cs,rs,hp,hl,hr,h => by
  simp only [List.map_cons,fillL] at h
  split at h
  ·rename_i off size xs hpl hcx
   split at h
   ·rename_i hb
    have hx := hp (i,x) (by simp)
    obtain ⟨h1,h2⟩ := cellsL_rep hx hcx
    simp only at h1 h2
    have hsz : (e x).cells.size = size := by rw [h1];exact hb.1
    have hfit : off + 0 + (e x).cells.toList.length ≤ cells.size := by rw [Array.length_toList,hsz];omega
    have hfold : ((e x).cells.zipIdx.foldl (fun cs (c,j) => cs.setIfInBounds (off + j) c) cells).toList = cells.toList.take off ++ (e x).cells.toList ++ cells.toList.drop (off + size) := by
     have := foldl_set (off := off) (e x).cells.toList 0 cells hfit
     rw [Nat.add_zero,Array.length_toList,hsz] at this
     rw [← this]
     congr 1
     rw [← Array.foldl_toList]
     simp
    generalize hc' : ((e x).cells.zipIdx.foldl (fun cs (c,j) => cs.setIfInBounds (off + j) c) cells) = cells' at hfold
    have hto : (cs.take off).length = off := by rw [List.length_take];omega
    have hto' : (cells.toList.take off).length = off := by rw [List.length_take,Array.length_toList];omega
    obtain ⟨out,ho,hol,hor⟩ := fill_run r cells' (cs.take off ++ xs ++ cs.drop (off + size)) rs (fun p hp' => hp p (by simp [hp'])) (by
     rw [← Array.length_toList,hfold]
     simp only [List.length_append,hto,hto',List.length_drop,Array.length_toList];omega) (fun j c u hc hu => by
     rw [← Array.getElem?_toList,hfold] at hu
     have hxl : (e x).cells.toList.length = xs.length := by rw [Array.length_toList,h1]
     by_cases i1 : j < off
     ·rw [List.append_assoc,List.getElem?_append_left (by omega),List.getElem?_take_of_lt i1] at hc hu
      exact hr j c u hc (by rw [← Array.getElem?_toList];exact hu)
     ·by_cases i2 : j < off + size
      ·rw [List.append_assoc,List.getElem?_append_right (by omega),List.getElem?_append_left (by omega)] at hc hu
       rw [hto] at hc
       rw [hto'] at hu
       exact h2 (j - off) c u hc (by rw [← Array.getElem?_toList];exact hu)
      ·rw [List.append_assoc,List.getElem?_append_right (by omega),List.getElem?_append_right (by omega),List.getElem?_drop] at hc hu
       rw [hto] at hc
       rw [hto',hxl] at hu
       rw [show off + size + (j - off - xs.length) = j by omega] at hc hu
       exact hr j c u hc (by rw [← Array.getElem?_toList];exact hu)) h
    refine ⟨out,?_,hol,hor⟩
    simp only [List.map_cons,Instr.fill,hpl]
    rw [if_neg (by simp [hsz];omega),hc']
    exact ho
   ·cases h
  ·cases h
theorem mapM_run {w : World} {α β : Type} {f : α → Sem β} {h : α → Option β} (hf : ∀ x y,h x = some y → (f x).run P w = .ok y w) : ∀ (l : List α) (r : List β),l.mapM h = some r → (l.mapM f).run P w = .ok r w
 | [],r,hr => by simp at hr;subst hr;rfl
 | x :: l,r,hr => by
  rw [List.mapM_cons] at hr
  cases hx : h x with
  | none => rw [hx] at hr;cases hr
  | some y =>
   rw [hx] at hr
   cases hl : l.mapM h with
   | none => rw [hl] at hr;cases hr
   | some r' =>
    rw [hl] at hr
    cases hr
    rw [List.mapM_cons,Sem.run_bind,hf x y hx]
    show ((l.mapM f) >>= fun ys => pure (y :: ys)).run P w = _
    rw [Sem.run_bind,mapM_run hf l r' hl]
    rfl
theorem buildL_run {w : World} {g : Gh} {t : TypeId} {parts : Array (Nat × Operand)} {e : Operand → Value} {ρ : Operand → LV} {x : LV} (hr : ∀ p ∈ parts,Rep P w g (ρ p.2) (e p.2)) (h : buildL P t (parts.toList.map fun q => (q.1,ρ q.2)) = some x) :
  ∃ v,(Instr.build t (parts.map fun (i,y) => (i,e y))).run P w = .ok v w ∧ Rep P w g x v := by
 unfold buildL at h
 split at h
 ·rename_i i ps hi hps
  split at h
  ·rename_i z hz
   obtain ⟨rs,hrs,rfl⟩ := Option.map_eq_some_iff.1 h
   unfold placesL at hps
   split at hps
   ·rename_i fs hu
    obtain ⟨out,ho,hol,hor⟩ := fill_run parts.toList z.cells (z.cells.toList.map toLV) rs (fun p hp => hr p (by simpa using hp)) (by simp) (fun j c u hc hu => by
     rw [List.getElem?_map,Option.map_eq_some_iff] at hc
     obtain ⟨u',hu',rfl⟩ := hc
     rw [Array.getElem?_toList,hu] at hu'
     cases hu'
     exact rep_toLV u) hrs
    refine ⟨.agg out,?_,.agg _ _ _ hol hor⟩
    have hm := mapM_run (P := P) (w := w) (f := fun f : Field => (do pure (f.offset,← Go.sizeOf f.type) : Sem (Nat × Nat))) (h := fun f => (P.info? f.type).map fun i => (f.offset,i.size)) (fun f y hy => by
     obtain ⟨inf,hinf,rfl⟩ := Option.map_eq_some_iff.1 hy
     simp [Go.sizeOf,typeInfo,hinf]) fs.toList ps hps
    have hm' : (fs.mapM fun f : Field => (do pure (f.offset,← Go.sizeOf f.type) : Sem (Nat × Nat))).run P w = .ok ps.toArray w := by
     rw [Array.mapM_eq_mapM_toList,Sem.run_map,hm];rfl
    have hz' : (zeroValue t).run P w = .ok z w := by simp [zeroValue,typeInfo,hi,hz]
    have hfl : Instr.fill (ps.toArray[·]?) z.cells (parts.map fun (i,y) => (i,e y)).toList = some out := by
     rw [Array.toList_map,← ho]
     congr 1
     funext j;simp
    simp only [Instr.build,Sem.run_bind,hz',Result.andThen,run_underlying hu,hm',hfl]
    rfl
   ·cases hps
  ·cases h
 ·rename_i i hi hps
  split at h
  ·rename_i n k z he hz
   obtain ⟨rs,hrs,rfl⟩ := Option.map_eq_some_iff.1 h
   unfold arrL at he
   split at he
   ·rename_i n' e' hu
    obtain ⟨inf,hinf,heq⟩ := Option.map_eq_some_iff.1 he
    cases heq
    obtain ⟨out,ho,hol,hor⟩ := fill_run parts.toList z.cells (z.cells.toList.map toLV) rs (fun p hp => hr p (by simpa using hp)) (by simp) (fun j c u hc hu => by
     rw [List.getElem?_map,Option.map_eq_some_iff] at hc
     obtain ⟨u',hu',rfl⟩ := hc
     rw [Array.getElem?_toList,hu] at hu'
     cases hu'
     exact rep_toLV u) hrs
    refine ⟨.agg out,?_,.agg _ _ _ hol hor⟩
    have hz' : (zeroValue t).run P w = .ok z w := by simp [zeroValue,typeInfo,hi,hz]
    have hsz : (Go.sizeOf e').run P w = .ok inf.size w := by simp [Go.sizeOf,typeInfo,hinf]
    have hfl : Instr.fill (fun j => some (j * inf.size,inf.size)) z.cells (parts.map fun (i,y) => (i,e y)).toList = some out := by
     rw [Array.toList_map,← ho]
    simp only [Instr.build,Sem.run_bind,hz',Result.andThen,run_underlying hu,hsz,hfl]
    rfl
   ·cases he
  ·cases h
 ·cases h
theorem eqOne_run {w : World} {g : Gh} {d o : Nat} {f : Field} {k : Nat} {x y : LV} {u v : Value} {xs ys : Array Value} {b : Bool} (hf : eqKind P f = some (o,k)) (hx : Rep P w g x u) (hy : Rep P w g y v) (hu : xs[o]? = some u) (hv : ys[o]? = some v) (h : eqOne k x y = some b) :
  f.name ≠ "_" ∧ (part f.type xs f.offset).run P w = .ok u w ∧ (part f.type ys f.offset).run P w = .ok v w ∧ (Op.equalIn (d + 1) f.type u v).run P w = .ok b w := by
 unfold eqKind at hf
 split at hf
 ·cases hf
 ·rename_i hn
  refine ⟨hn,?_⟩
  have pt : ∀ {u : Value} {xs : Array Value},xs[f.offset]? = some u → (isAgg f.type).run P w = .ok false w → (part f.type xs f.offset).run P w = .ok u w := by
   intro u xs hu ha
   simp [part,ha,hu]
  split at hf
  ·rename_i kk ht
   cases hf
   have ha : (isAgg f.type).run P w = .ok false w := by simp [isAgg,run_underlying ht]
   unfold eqOne at h
   split at h
   ·split at h
    ·rename_i a p b' q hab
     subst hab
     cases h
     rw [hx.inv_lit] at hu
     rw [hy.inv_lit] at hv
     rw [hx.inv_lit,hy.inv_lit]
     refine ⟨pt hu ha,pt hv ha,?_⟩
     rw [run_equalIn_int w d f.type _ _ _ _ ht]
     congr 1
    ·cases h
   ·rename_i h1;cases h1
   ·rename_i h1;cases h1
   ·cases h
  ·rename_i ht
   cases hf
   have ha : (isAgg f.type).run P w = .ok false w := by simp [isAgg,run_underlying ht]
   unfold eqOne at h
   split at h
   ·rename_i h1;cases h1
   ·cases h
    rw [hx.inv_lit] at hu
    rw [hy.inv_lit] at hv
    rw [hx.inv_lit,hy.inv_lit]
    refine ⟨pt hu ha,pt hv ha,?_⟩
    rw [run_equalIn_string w d f.type _ _ ht,toList_eq,toList_eq,dec_beq]
   ·rename_i h1;cases h1
   ·cases h
  ·rename_i ht
   cases hf
   have ha : (isAgg f.type).run P w = .ok false w := by simp [isAgg,run_underlying ht]
   unfold eqOne at h
   split at h
   ·rename_i h1;cases h1
   ·rename_i h1;cases h1
   ·cases h
    rw [hx.inv_lit] at hu
    rw [hy.inv_lit] at hv
    rw [hx.inv_lit,hy.inv_lit]
    exact ⟨pt hu ha,pt hv ha,run_equalIn_bool' w d f.type _ _ ht⟩
   ·cases h
  ·cases hf
theorem eqFields_run {w : World} {g : Gh} {d : Nat} {cs ds : List LV} {xs ys : Array Value} (hxl : xs.size = cs.length) (hyl : ys.size = ds.length) (hx : ∀ (i : Nat) (c : LV) (u : Value),cs[i]? = some c → xs[i]? = some u → Rep P w g c u) (hy : ∀ (i : Nat) (c : LV) (u : Value),ds[i]? = some c → ys[i]? = some u → Rep P w g c u) :
  ∀ (fs : List Field) (ks : List (Nat × Nat)) (b : Bool),fs.mapM (eqKind P) = some ks → eqListL cs ds ks = some b → (Op.eqFields (d + 1) xs ys fs).run P w = .ok b w
 | [],ks,b,hk,h => by simp at hk;subst hk;cases h;rfl
 | f :: fs,ks,b,hk,h => by
  rw [List.mapM_cons] at hk
  cases hf : eqKind P f with
  | none => rw [hf] at hk;cases hk
  | some ok =>
   rw [hf] at hk
   cases hfs : fs.mapM (eqKind P) with
   | none => rw [hfs] at hk;cases hk
   | some ks' =>
    rw [hfs] at hk
    cases hk
    obtain ⟨o,k⟩ := ok
    simp only [eqListL] at h
    split at h
    ·rename_i x y hcx hdy
     split at h
     ·rename_i b1 e1 h1 h2
      cases h
      have hol : o < xs.size := by rw [hxl];exact (List.getElem?_eq_some_iff.1 hcx).1
      have hol' : o < ys.size := by rw [hyl];exact (List.getElem?_eq_some_iff.1 hdy).1
      have ih := eqFields_run (d := d) hxl hyl hx hy fs ks' e1 hfs h2
      obtain ⟨hn,r1,r2,r3⟩ := eqOne_run (d := d) hf (hx o x _ hcx (Array.getElem?_eq_getElem hol)) (hy o y _ hdy (Array.getElem?_eq_getElem hol')) (Array.getElem?_eq_getElem hol) (Array.getElem?_eq_getElem hol') h1
      simp only [Op.eqFields,if_pos hn,Sem.run_bind,r1,r2,r3,Result.andThen]
      cases b1
      ·simp
      ·simpa using ih
     ·cases h
    ·cases h
theorem binL_run {w : World} {g : Gh} {op : BinOp} {t : TypeId} {p q : Operand} {x y r : LV} {u v : Value} (hx : Rep P w g x u) (hy : Rep P w g y v) (h : binL P op t x y = some r) : ∃ z,(do eqGuard op t p q u v;binOp op t u v : Sem Value).run P w = .ok z w ∧ Rep P w g r z := by
 unfold binL at h
 split at h
 ·split at h
  ·rename_i cs ds ks hks
   unfold eqKinds at hks
   split at hks
   ·rename_i fs hu
    split at hks
    ·rename_i hc
     obtain ⟨xs,rfl,hxl,hxr⟩ := hx.inv_agg
     obtain ⟨ys,rfl,hyl,hyr⟩ := hy.inv_agg
     have hfo : P.fieldsOf t = fs := by simp [Program.fieldsOf,hu]
     unfold eqAggL at h
     split at h
     ·rename_i b hb
      have hrun := eqFields_run (P := P) (w := w) (g := g) (d := 9998) hxl hyl hxr hyr fs.toList ks b hks hb
      have he : (Op.equalIn 10000 t (.agg xs) (.agg ys)).run P w = .ok b w := by
       rw [show (10000 : Nat) = 9999 + 1 from rfl,run_equalIn_agg w 9999 t xs ys (by rw [hfo];exact hu) hc.1,hfo]
       exact hrun
      split at h
      ·cases h
       exact ⟨_,by rw [Sem.run_bind,run_eqGuard_agg w _ _ _ _ _ _ hc.2];show (binOp _ _ _ _).run P w = _;rw [run_eql_struct,he];rfl,.lit _ _⟩
      ·cases h
       exact ⟨_,by rw [Sem.run_bind,run_eqGuard_agg w _ _ _ _ _ _ hc.2];show (binOp _ _ _ _).run P w = _;rw [run_neq_struct,he];rfl,.lit _ _⟩
      ·cases h
     ·cases h
    ·cases hks
   ·cases hks
  ·cases h
 ·unfold lit2 at h
  split at h
  ·obtain ⟨z,hz,rfl⟩ := Option.map_eq_some_iff.1 h
   rw [hx.inv_lit,hy.inv_lit]
   exact ⟨z,by rw [Sem.run_bind,eqGuard_lit hz];exact binV_run hz,.lit _ _⟩
  ·cases h
theorem add64L_run {ρ : Operand → LV} {e : Operand → Value} {args : List Operand} {x : LV} (hr : ∀ z ∈ args,Rep P w g (ρ z) (e z)) (h : add64L (args.map ρ) = some x) :
  ∃ p q c : Int,args.map e = [.int .u64 p,.int .u64 q,.int .u64 c] ∧ 0 ≤ p ∧ 0 ≤ q ∧ 0 ≤ c ∧ c ≤ 1 ∧ x = .tup [.lit (.int .u64 ((p + q + c) % 18446744073709551616)),.lit (.int .u64 ((p + q + c) / 18446744073709551616))] := by
 generalize hm : args.map ρ = l at h
 unfold add64L at h
 split at h
 ·rename_i p q c
  split at h
  ·rename_i hc
   cases h
   rcases args with _ | ⟨a,_ | ⟨b,_ | ⟨d,_ | ⟨y,t⟩⟩⟩⟩ <;> simp at hm
   refine ⟨p,q,c,?_,hc.1,hc.2.1,hc.2.2.1,hc.2.2.2,rfl⟩
   simp only [List.map_cons,List.map_nil]
   rw [rep_lit_inv hm.1 (hr a (by simp)),rep_lit_inv hm.2.1 (hr b (by simp)),rep_lit_inv hm.2.2 (hr d (by simp))]
  ·cases h
 ·cases h
theorem extL_run {ρ : Operand → LV} {e : Operand → Value} {f : Nat} {args : Array Operand} {x : LV} (hr : ∀ z ∈ args,Rep P w g (ρ z) (e z)) (h : extL f (args.toList.map ρ) (extAdd P) = some x) :
  ∃ v,(callFunc f (args.map e)).run P w = .ok (.value v) w ∧ Rep P w g x v := by
 unfold extL at h
 split at h
 ·rename_i k hk
  split at h
  ·rename_i hf
   subst hf
   obtain ⟨p,q,c,h1,h2,h3,h4,h5,rfl⟩ := add64L_run (fun z hz => hr z (by simpa using hz)) h
   unfold extAdd at hk
   split at hk
   ·rename_i f2 hn
    split at hk
    ·rename_i fn hfn
     split at hk
     ·rename_i hc
      cases hk
      have hv : args.map e = #[.int .u64 p,.int .u64 q,.int .u64 c] := by
       apply Array.ext'
       rw [Array.toList_map,h1]
      have hfind : Extern.find fn = some add64Entry := by
       have l1 : Extern.allGenericRows.lookup "math/bits.Add64" = none := by kernel_rfl
       have l2 : Extern.allTypedRows.lookup "math/bits.Add64" = none := by kernel_rfl
       have l3 : Extern.allRows.lookup "math/bits.Add64" = some add64Entry := by kernel_rfl
       unfold Extern.find
       simp only [hc.1,l1,l2,l3]
       rfl
      have hnext : Extern.findNext fn = none := by
       have l1 : Extern.allNextRows.lookup "math/bits.Add64" = none := by kernel_rfl
       have l2 : Extern.allNextRows.lookup "" = none := by kernel_rfl
       unfold Extern.findNext
       simp only [hc.1,hc.2.1,l1,l2]
       rfl
      refine ⟨.tuple #[.int .u64 ((p + q + c) % 18446744073709551616),.int .u64 ((p + q + c) / 18446744073709551616)],?_,.tup _ _ _ rfl fun i c u hc hu => ?_⟩
      ·rw [hv,run_callFunc_extern hfn (by rw [hc.1];decide) hc.2.2 hnext hfind,run_add64 p q c h2 h3 h4 h5]
       rfl
      ·rcases i with _ | _ | i
       ·cases hc;cases hu;exact .lit _ _
       ·cases hc;cases hu;exact .lit _ _
       ·simp at hc
     ·cases hk
    ·cases hk
   ·cases hk
  ·cases h
 ·cases h

theorem pv_sound {ρ : Operand → LV} {B A : Nat → Option (List LV)} {a : Act} {o : Oper} {x : LV} (hr : ∀ y ∈ o.op.operands,Rep P w g (ρ y) (a.eval y)) (hB : ∀ d cs,B d = some cs → BoxAt P w g d cs) (hA : ∀ d cs,A d = some cs → ArrAt P w g d cs) (h : pv P ρ B A o.op = some x) :
  ∃ v,(execOp a.eval o).run P w = .ok (.value v) w ∧ Rep P w g x v := by
 obtain ⟨dst,op,type,pos,after,guard⟩ := o
 simp only at hr h
 cases op <;> simp only [Op.operands] at hr <;> simp only [pv] at h <;> try (cases h;done)
 case move y => cases h;exact ⟨_,rfl,hr y (by simp)⟩
 case assign y => cases h;exact ⟨_,rfl,hr y (by simp)⟩
 case pick c y z =>
  have h1 := hr c (by simp)
  unfold pickL at h
  split at h
  ·rename_i t he
   cases h
   have h2 := rep_lit_inv he h1
   refine ⟨if t then a.eval y else a.eval z,by simp [execOp,h2,asBool],?_⟩
   cases t
   ·exact hr z (by simp)
   ·exact hr y (by simp)
  ·cases h
 case nilCheck y =>
  have h1 := hr y (by simp)
  unfold nilL at h
  split at h
  ·rename_i d o he
   cases h
   rw [he] at h1
   obtain ⟨b,hb,hn⟩ := h1.inv_ptr
   exact ⟨a.eval y,by simp [execOp,hb,run_ok],h1⟩
  ·rename_i d o he
   cases h
   rw [he] at h1
   obtain ⟨b,hb,hn⟩ := h1.inv_aptr
   exact ⟨a.eval y,by simp [execOp,hb,run_ok],h1⟩
  ·rename_i cs he
   cases h
   rw [he] at h1
   obtain ⟨b,off,hb,hn⟩ := h1.inv_ref
   exact ⟨a.eval y,by simp [execOp,hb,run_ok],h1⟩
  ·cases h
 case extract t i =>
  have h1 := hr t (by simp)
  unfold extractL at h
  split at h
  ·rename_i cs he
   rw [he] at h1
   obtain ⟨vs,hv,hl,h2⟩ := h1.inv_tup
   have hi : i < vs.size := by rw [hl];exact (List.getElem?_eq_some_iff.1 h).1
   refine ⟨vs[i],run_v (by simp [hv,Instr.extract,hi]),h2 i x _ h (by simp [hi])⟩
  ·cases h
 case fieldAddr s y f =>
  obtain ⟨u,hu,h2⟩ := fieldAtL_run (hr y (by simp)) h
  exact ⟨u,run_v hu,h2⟩
 case indexAddr t y i =>
  obtain ⟨u,hu,h2⟩ := indexL_run (hr y (by simp)) (hr i (by simp)) h
  exact ⟨u,run_v hu,h2⟩
 case load t p =>
  obtain ⟨u,hu,h2⟩ := loadAtL_run (hr p (by simp)) hB hA h
  exact ⟨u,run_v hu,h2⟩
 case field s y f =>
  obtain ⟨u,hu,h2⟩ := fieldV_run (hr y (by simp)) h
  exact ⟨u,run_v hu,h2⟩
 case binOp op t y z t' =>
  obtain ⟨u,hu,h2⟩ := binL_run (p := y) (q := z) (hr y (by simp)) (hr z (by simp)) h
  exact ⟨u,run_v hu,h2⟩
 case unOp op t y =>
  unfold lit1 at h
  split at h
  ·rename_i p he1
   obtain ⟨v,hv,rfl⟩ := Option.map_eq_some_iff.1 h
   have h1 := rep_lit_inv he1 (hr y (by simp))
   exact ⟨v,run_v (by rw [h1];exact unV_run hv),.lit _ _⟩
  ·cases h
 case convert s d y =>
  obtain ⟨u,hu,h2⟩ := convL_run (hr y (by simp)) hB hA h
  exact ⟨u,run_v hu,h2⟩
 case index t y i =>
  unfold lit2 at h
  split at h
  ·rename_i p q he1 he2
   obtain ⟨v,hv,rfl⟩ := Option.map_eq_some_iff.1 h
   have h1 := rep_lit_inv he1 (hr y (by simp))
   have h2 := rep_lit_inv he2 (hr i (by simp))
   exact ⟨v,run_v (by rw [h1,h2];exact idxV_run hv),.lit _ _⟩
  ·cases h
 case slice t y lo hi mx =>
  cases mx with
  | some _ => simp only [pv] at h;cases h
  | none =>
   simp only [pv] at h
   obtain ⟨u,hu,h2⟩ := sliceL_run (e := a.eval) (hr y (by simp)) (fun z hz => hr z (by simp [hz])) (fun z hz => hr z (by simp [hz])) h
   exact ⟨u,run_v hu,h2⟩
 case build t parts =>
  obtain ⟨u,hu,h2⟩ := buildL_run (e := a.eval) (fun p hp => hr p.2 (by simpa using ⟨p.1,by simpa using hp⟩)) h
  exact ⟨u,run_v hu,h2⟩
 case call c =>
  obtain ⟨callee,args,ts⟩ := c
  cases callee with
  | value y =>
   cases y <;> simp only [pv] at h <;> try (cases h;done)
   rename_i f
   obtain ⟨v,hv,h2⟩ := extL_run (P := P) (w := w) (g := g) (e := a.eval) (fun z hz => hr z (by simp [Call.operands,hz])) h
   refine ⟨v,?_,h2⟩
   simpa [execOp,resolve,Deferred.ofValue,Act.eval,invoke] using hv
  | builtin b =>
   simp only [pv] at h
   obtain ⟨u,hu,h2⟩ := builtinL_run (T := type) (cb := args.map fun | .const _ => true | _ => false) (e := a.eval) (fun z hz => hr z (by simp [Call.operands,hz])) h
   refine ⟨u,?_,h2⟩
   rw [← hu];rfl
  | _ => simp only [pv] at h;cases h

theorem pv_congr {ρ ρ' : Operand → LV} {B A : Nat → Option (List LV)} {op : Op} (h : ∀ y ∈ op.operands,ρ y = ρ' y) : pv P ρ B A op = pv P ρ' B A op := by
 cases op <;> simp only [Op.operands] at h <;> try rfl
 case call c =>
  obtain ⟨callee,args,ts⟩ := c
  cases callee with
  | value y =>
   cases y <;> try rfl
   simp only [pv]
   congr 1
   apply List.map_congr_left
   intro x hx
   exact h x (by simp [Call.operands];exact .inr (by simpa using hx))
  | builtin b =>
   simp only [pv]
   congr 1
   apply List.map_congr_left
   intro x hx
   exact h x (by simp [Call.operands];simpa using hx)
  | _ => rfl
 case build t parts =>
  simp only [pv]
  congr 1
  apply List.map_congr_left
  intro q hq
  rw [h q.2 (by simpa using ⟨q.1,by simpa using hq⟩)]
 case slice t x lo hi mx =>
  cases mx with
  | some _ => rfl
  | none => cases lo <;> cases hi <;> simp_all [pv]
 all_goals (simp only [pv];simp_all;done)
end
end Go.Proofs.YteamlijbkldlhaaGreatDoor
end
section
set_option linter.unusedSimpArgs false
set_option linter.unusedVariables false
namespace Go.Proofs.YteamlijbkldlhaaGreatDoor
open Go.RowKit

def zeroOk (P : Program) (e : TypeId) : Bool :=
 match P.info? e with
 | some i => match i.zero with
  | some z => z.cells.size == i.size
  | none => false
 | none => false
def partsL (k : Nat) : Nat → List (Nat × LV) → Option (List LV)
 | _,[] => some []
 | i,(j,x) :: r => if i = j then match cellsL x,partsL k (i + 1) r with
   | some cs,some ds => if cs.length = k then some (cs.map strip1 ++ ds) else none
   | _,_ => none
  else none
section
variable {P : Program}
def Vals (P : Program) (w : World) (g : Gh) (cs : List LV) (vs : List Value) : Prop := cs.length = vs.length ∧ ∀ (i : Nat) (c : LV) (u : Value),cs[i]? = some c → vs[i]? = some u → Rep P w g.bare c u
theorem Vals.append {w : World} {g : Gh} {cs ds : List LV} {us vs : List Value} (h : Vals P w g cs us) (k : Vals P w g ds vs) : Vals P w g (cs ++ ds) (us ++ vs) := by
 refine ⟨by simp [h.1,k.1],fun i c u hc hu => ?_⟩
 by_cases hi : i < cs.length
 ·rw [List.getElem?_append_left hi] at hc
  rw [List.getElem?_append_left (by rw [← h.1];exact hi)] at hu
  exact h.2 i c u hc hu
 ·rw [List.getElem?_append_right (by omega)] at hc
  rw [List.getElem?_append_right (by rw [← h.1];omega),← h.1] at hu
  exact k.2 _ c u hc hu
theorem Vals.mono {w w' : World} {g g' : Gh} {cs : List LV} {vs : List Value} (h : Vals P w g cs vs) (m : ∀ b i v,g.S b i → w.cell? ⟨b,i,none⟩ = some v → g'.S b i ∧ w'.cell? ⟨b,i,none⟩ = some v) : Vals P w' g' cs vs :=
 ⟨h.1,fun i c u hc hu => (h.2 i c u hc hu).mono (.bare m)⟩
theorem Vals.cells {w : World} {g : Gh} {cs : List LV} {vs : List Value} {b off : Nat} (h : Vals P w g cs vs) (hc : ∀ (i : Nat) u,vs[i]? = some u → g.S b (off + i) ∧ w.cell? ⟨b,off + i,none⟩ = some u) : CellsAt P w g b off cs := by
 refine ⟨fun i => vs.getD i undef,fun i hi => ?_,fun i c hcs => ?_⟩
 ·have hlt : i < vs.length := by rw [← h.1];exact hi
  exact hc i _ (by simp [List.getD_eq_getElem?_getD,List.getElem?_eq_getElem hlt])
 ·have hlt : i < vs.length := by rw [← h.1];exact (List.getElem?_eq_some_iff.1 hcs).1
  exact h.2 i c _ hcs (by simp [List.getD_eq_getElem?_getD,List.getElem?_eq_getElem hlt])
theorem CellsAt.vals {w : World} {g : Gh} {cs : List LV} {b off : Nat} (h : CellsAt P w g b off cs) : ∃ vs,Vals P w g cs vs ∧ ∀ (i : Nat) u,vs[i]? = some u → w.cell? ⟨b,off + i,none⟩ = some u := by
 obtain ⟨val,h1,h2⟩ := h
 refine ⟨(List.range cs.length).map val,⟨by simp,fun i c u hc hu => ?_⟩,fun i u hu => ?_⟩
 ·have hi := (List.getElem?_eq_some_iff.1 hc).1
  have : u = val i := by simpa [List.getElem?_map,hi] using hu.symm
  rw [this];exact h2 i c hc
 ·have hi : i < cs.length := by have := (List.getElem?_eq_some_iff.1 hu).1;simpa using this
  have : u = val i := by simpa [List.getElem?_map,hi] using hu.symm
  rw [this];exact (h1 i hi).2
theorem Vals.strip {w : World} {g : Gh} {cs : List LV} {vs : List Value} (h : Vals P w g cs vs) : Vals P w g (cs.map strip1) vs := by
 refine ⟨by simpa using h.1,fun i c u hc hu => ?_⟩
 obtain ⟨c',hc',rfl⟩ := map_get hc
 exact (h.2 i c' u hc' hu).strip1 rfl
theorem Vals.of_cells {w : World} {g : Gh} {x : LV} {v : Value} {cs : List LV} (h : Rep P w g x v) (hc : cellsL x = some cs) : Vals P w g (cs.map strip1) v.cells.toList := by
 obtain ⟨h1,h2⟩ := cellsL_rep h hc
 refine ⟨by simp [h1],fun i c u hc hu => ?_⟩
 obtain ⟨c',hc',rfl⟩ := map_get hc
 exact (h2 i c' u hc' (by rw [← Array.getElem?_toList];exact hu)).strip1 rfl
theorem parts_run {w : World} {g : Gh} {k : Nat} {e : Operand → Value} {ρ : Operand → LV} : ∀ (parts : List (Nat × Operand)) (i : Nat) (cells : Array Value) (cs : List LV),(∀ p ∈ parts,Rep P w g (ρ p.2) (e p.2)) → partsL k i (parts.map fun q => (q.1,ρ q.2)) = some cs → (i + parts.length) * k ≤ cells.size →
  ∃ vs,Vals P w g cs vs ∧ vs.length = parts.length * k ∧ Instr.fill (fun i => some (i * k,k)) cells (parts.map fun q => (q.1,e q.2)) = some (cells.toList.take (i * k) ++ vs ++ cells.toList.drop ((i + parts.length) * k)).toArray
 | [],i,cells,cs,_,h,hle => by
  cases h
  exact ⟨[],⟨rfl,fun i c u hc => by cases hc⟩,by simp,by simp [Instr.fill]⟩
 | (j,x) :: r,i,cells,cs,hp,h,hle => by
  simp only [List.map_cons,partsL] at h
  split at h
  ·rename_i hij
   subst hij
   split at h
   ·rename_i xs ds hx hds
    split at h
    ·rename_i hxl
     cases h
     have hrep := hp (i,x) (by simp)
     obtain ⟨h1,h2⟩ := cellsL_rep hrep hx
     simp only at h1
     have hsz : (e x).cells.size = k := by rw [h1];exact hxl
     rw [List.length_cons] at hle
     have hik : i * k + k ≤ cells.size := by
      have : (i + 1) * k ≤ (i + (r.length + 1)) * k := Nat.mul_le_mul_right _ (by omega)
      rw [Nat.add_mul,Nat.one_mul] at this;omega
     have hfold : ((e x).cells.zipIdx.foldl (fun cs (c,j) => cs.setIfInBounds (i * k + j) c) cells).toList = cells.toList.take (i * k) ++ (e x).cells.toList ++ cells.toList.drop (i * k + k) := by
      have := foldl_set (off := i * k) (e x).cells.toList 0 cells (by rw [Array.length_toList,hsz];omega)
      rw [Nat.add_zero,Array.length_toList,hsz] at this
      rw [← this]
      congr 1
      rw [← Array.foldl_toList]
      simp
     generalize hc' : ((e x).cells.zipIdx.foldl (fun cs (c,j) => cs.setIfInBounds (i * k + j) c) cells) = cells' at hfold
     have hto : (cells.toList.take (i * k)).length = i * k := by rw [List.length_take,Array.length_toList];omega
     have hcl : (e x).cells.toList.length = k := by rw [Array.length_toList,hsz]
     have hsz' : cells'.size = cells.size := by
      rw [← Array.length_toList,hfold]
      simp only [List.length_append,hto,hcl,List.length_drop,Array.length_toList];omega
     obtain ⟨vs,hv,hvl,hf⟩ := parts_run r (i + 1) cells' ds (fun p hp' => hp p (by simp [hp'])) hds (by rw [hsz',show i + 1 + r.length = i + (r.length + 1) by omega];exact hle)
     refine ⟨(e x).cells.toList ++ vs,(Vals.of_cells hrep hx).append hv,by rw [List.length_append,hcl,hvl,List.length_cons,Nat.add_mul];omega,?_⟩
     simp only [List.map_cons,Instr.fill]
     rw [if_neg (by simp [hsz];omega),hc',hf]
     congr 1
     apply congrArg
     rw [hfold,List.length_cons,show i + 1 + r.length = i + (r.length + 1) by omega]
     have e1 : (cells.toList.take (i * k) ++ (e x).cells.toList ++ cells.toList.drop (i * k + k)).take ((i + 1) * k) = cells.toList.take (i * k) ++ (e x).cells.toList := by
      rw [Nat.add_mul,Nat.one_mul]
      exact List.take_left' (by rw [List.length_append,hto,hcl])
     have e2 : (cells.toList.take (i * k) ++ (e x).cells.toList ++ cells.toList.drop (i * k + k)).drop ((i + (r.length + 1)) * k) = cells.toList.drop ((i + (r.length + 1)) * k) := by
      rw [List.drop_append,List.length_append,hto,hcl,List.drop_eq_nil_of_le (by
       rw [List.length_append,hto,hcl]
       rw [show i + (r.length + 1) = i + 1 + r.length by omega,Nat.add_mul,Nat.add_mul,Nat.one_mul];omega),List.nil_append,List.drop_drop]
      congr 1
      rw [show i + (r.length + 1) = i + 1 + r.length by omega,Nat.add_mul,Nat.add_mul,Nat.one_mul];omega
     rw [e1,e2]
     simp
    ·cases h
   ·cases h
  ·cases h
def buildV (P : Program) (ρ : Operand → LV) : Op → Option (Prop × LV)
 | .buildSlice t n parts => match elemL P t with
  | some (e,k) => (partsL k 0 (parts.toList.map fun q => (q.1,ρ q.2))).map fun cs => ((0 < k ∧ parts.toList.length = n ∧ n * k ≤ 16777216 ∧ zeroOk P e = true),.sl n cs .no)
  | none => none
 | _ => none
theorem buildV_congr {ρ ρ' : Operand → LV} {op : Op} (h : ∀ y ∈ op.operands,ρ y = ρ' y) : buildV P ρ op = buildV P ρ' op := by
 unfold buildV
 split
 ·rename_i t n parts
  have : (parts.toList.map fun q => (q.1,ρ q.2)) = parts.toList.map fun q => (q.1,ρ' q.2) := List.map_congr_left fun q hq => by
   rw [h q.2 (by simp [Op.operands];exact ⟨_,by simpa using hq⟩)]
  rw [this]
 ·rfl
theorem build_run {g : Gh} {w : World} {a : Act} {ρ : Operand → LV} {o : Oper} {c : Prop} {x : LV} (hr : ∀ y,Rep P w g (ρ y) (a.eval y)) (h : buildV P ρ o.op = some (c,x)) (hc : c) :
  ∃ (n : Nat) (cs : List LV) (vs : List Value) (e : TypeId),(∀ t m ps e2 k2,o.op = .buildSlice t m ps → elemL P t = some (e2,k2) → e = e2) ∧ x = .sl n cs .no ∧ Vals P w g cs vs ∧ vs.length = n * sizeL P e ∧ 0 < sizeL P e ∧ n * sizeL P e ≤ 16777216 ∧ (execOp a.eval o).run P w = .ok (.value (.slice (some ⟨w.heap.size,0,none⟩) n n)) (w.alloc (.cells vs.toArray e)) := by
 obtain ⟨dst,op,type,pos,after,guard⟩ := o
 simp only at h
 unfold buildV at h
 split at h
 ·rename_i t n parts
  cases hek : elemL P t with
  | none => rw [hek] at h;cases h
  | some ek =>
   obtain ⟨e,k⟩ := ek
   rw [hek] at h
   cases hcs : partsL k 0 (parts.toList.map fun q => (q.1,ρ q.2)) with
   | none => simp only [hcs] at h;cases h
   | some cs =>
    simp only [hcs,Option.map_some,Option.some.injEq,Prod.mk.injEq] at h
    obtain ⟨rfl,rfl⟩ := h
    obtain ⟨hk,hpn,hbig,hzo⟩ := hc
    have hek0 := hek
    unfold elemL at hek
    split at hek
    ·rename_i e' hu
     obtain ⟨i,hi,heq⟩ := Option.map_eq_some_iff.1 hek
     cases heq
     obtain ⟨z,hz⟩ : ∃ z,i.zero = some z := by
      unfold zeroOk at hzo
      rw [hi] at hzo
      simp only at hzo
      split at hzo
      ·rename_i z hz;exact ⟨z,hz⟩
      ·cases hzo
     have hs : (Go.sizeOf e).run P w = .ok i.size w := by simp [Go.sizeOf,typeInfo,hi]
     have hzr : (zeroValue e).run P w = .ok z w := by simp [zeroValue,typeInfo,hi,hz]
     let zero : Array Value := if n * i.size = 0 then #[] else z.cells
     let cells0 : Array Value := (Array.range (n * i.size)).map (zero[· % zero.size]!)
     obtain ⟨vs,hv,hvl,hf⟩ := parts_run (e := a.eval) parts.toList 0 cells0 cs (fun p _ => hr p.2) hcs (by simp [cells0,← hpn])
     have hf' : Instr.fill (fun i_1 => some (i_1 * i.size,i.size)) cells0 (parts.map fun (i,x) => (i,a.eval x)).toList = some vs.toArray := by
      rw [Array.toList_map]
      have : cells0.toList.take (0 * i.size) ++ vs ++ cells0.toList.drop ((0 + parts.toList.length) * i.size) = vs := by
       rw [Nat.zero_mul,List.take_zero,List.nil_append,Nat.zero_add,hpn,List.drop_eq_nil_of_le (by simp [cells0]),List.append_nil]
      rw [this] at hf
      exact hf
     have hrun : (execOp a.eval ⟨dst,.buildSlice t n parts,type,pos,after,guard⟩).run P w = .ok (.value (.slice (some ⟨w.heap.size,0,none⟩) n n)) (w.alloc (.cells vs.toArray e)) := by
      refine (?_ : (do pure (Next.value (← Instr.buildSlice t n (parts.map fun (i,x) => (i,a.eval x)))) : Sem Next).run P w = _)
      have hnb : ¬ n * i.size > 2 ^ 24 := by omega
      by_cases h0 : n * i.size = 0
      ·have hz0 : zero = #[] := by simp only [zero,h0,if_true]
       simp only [cells0,hz0] at hf'
       simp only [Instr.buildSlice,Sem.run_bind,run_underlying hu,Result.andThen,hs]
       rw [if_neg hnb]
       simp only [h0,if_true,Sem.run_bind,Sem.run_pure,Result.andThen]
       simp only [h0] at hf'
       simp only [hf']
       rfl
      ·have hz0 : zero = z.cells := by simp only [zero,h0,if_false]
       simp only [cells0,hz0] at hf'
       simp only [Instr.buildSlice,Sem.run_bind,run_underlying hu,Result.andThen,hs]
       rw [if_neg hnb]
       simp only [h0,if_false,Sem.run_bind,Sem.run_pure,Result.andThen,hzr,hf']
       rfl
     have hsl : sizeL P e = i.size := by simp [sizeL,hi]
     exact ⟨n,cs,vs,e,(fun t' m' ps' e2 k2 h1 h2 => by
      cases h1
      rw [hek0] at h2;cases h2;rfl),rfl,hv,by rw [hsl,hvl,hpn],by rw [hsl];exact hk,by rw [hsl];exact hbig,hrun⟩
    ·cases hek
 ·cases h
end
end Go.Proofs.YteamlijbkldlhaaGreatDoor
end
section
set_option linter.unusedSimpArgs false
set_option linter.unusedVariables false
namespace Go.Proofs.YteamlijbkldlhaaGreatDoor
open Op renaming operands → zo
open Call renaming operands → zc
open Go.RowKit

def bareGh (S : Nat → Nat → Prop) : Gh := ⟨S,fun _ => none,fun _ => none⟩

def Glob (P : Program) (w : World) : Prop := ((P.globalNamed "internal/strconv.uint64pow10").isSome = true → Lib.TabIs P w "internal/strconv.uint64pow10" .u64 Lib.pow10Tab) ∧ ∀ g,P.globalNamed "internal/bytealg.MaxLen" = some g → ∃ m : Int,w.cell? ⟨g,0,none⟩ = some (.int .i64 m)
theorem Glob.on {P : Program} {w w' : World} (h : Glob P w) (hb : Below w.heap.size w w') : Glob P w' := ⟨fun hs => Lib.tabBelow_of_tabIs (h.1 hs) w' hb,fun g hg => (h.2 g hg).imp fun _ hm => G.cell hb hm⟩
structure Ent where
 S : Nat → Nat → Prop
 H : Nat → Prop
structure BelowH (B : Nat) (H : Nat → Prop) (w w' : World) : Prop where
 os : w'.os = w.os
 tape : w'.tape = w.tape
 output : w'.output = w.output
 size : w.heap.size ≤ w'.heap.size
 block : ∀ k,k < B → ¬ H k → w'.heap[k]? = w.heap[k]?
theorem BelowH.refl (B : Nat) (H : Nat → Prop) (w : World) : BelowH B H w w := ⟨rfl,rfl,rfl,Nat.le_refl _,fun _ _ _ => rfl⟩
theorem BelowH.trans {B : Nat} {H : Nat → Prop} {w w' w'' : World} (h : BelowH B H w w') (k : BelowH B H w' w'') : BelowH B H w w'' :=
 ⟨k.os.trans h.os,k.tape.trans h.tape,k.output.trans h.output,Nat.le_trans h.size k.size,fun b hb hn => (k.block b hb hn).trans (h.block b hb hn)⟩
theorem BelowH.of {B : Nat} {H : Nat → Prop} {w w' : World} (h : Below B w w') : BelowH B H w w' := ⟨h.os,h.tape,h.output,h.size,fun b hb _ => h.block b hb⟩
theorem BelowH.below {B : Nat} {H : Nat → Prop} {w w' : World} (h : BelowH B H w w') (hH : ∀ b,¬ H b) : Below B w w' := ⟨h.os,h.tape,h.output,h.size,fun b hb => h.block b hb (hH b)⟩
structure Ext (P : Program) (w0 : World) (S0 : Ent) (val : Nat → Option Value) (a : Act) : Prop where
 glob : ∀ w,BelowH w0.heap.size S0.H w0 w → Glob P w
 wf0 : ∀ b i,S0.S b i → b < w0.heap.size
 vals : ∀ k v,val k = some v → a.tmps.getD k undef = v
structure LCalls (P : Program) (f : FuncId) (args : List LV) (r : LV) : Prop where
 enters : ∀ (vs : Array Value) (w : World),(callFunc f vs).run P w = .ok (.enter f vs) w
 calls : ∀ (w : World) (S : Nat → Nat → Prop) (vs : Array Value),Glob P w → (∀ b i,S b i → b < w.heap.size) → vs.size = args.length → (∀ (i : Nat) (c : LV) (u : Value),args[i]? = some c → vs[i]? = some u → Rep P w (bareGh S) c u) →
  Calls P f vs w fun e w' => ∃ v S',e = .returned v ∧ Rep P w' (bareGh S') r v ∧ G w w' ∧ (∀ b i,b < w.heap.size → (S' b i ↔ S b i)) ∧ ∀ b i,S' b i → b < w'.heap.size

structure RelG (P : Program) (N : Nat) (w0 : World) (S0 : Ent) (g : Gh) (st : LSt) (a : Act) (w : World) : Prop where
 defers : a.defers = []
 size : a.tmps.size = N
 env : ∀ k,Rep P w g (st.env k) (a.tmps.getD k undef)
 below : BelowH w0.heap.size S0.H w0 w
 s0 : ∀ b i,b < w0.heap.size → ¬ S0.H b → (g.S b i ↔ S0.S b i)
 wf : ∀ b i,g.S b i → b < w.heap.size
 own : ∀ d b,g.own d = some b → (w0.heap.size ≤ b ∨ S0.H b) ∧ b < w.heap.size
 inj : ∀ d d' b,g.own d = some b → g.own d' = some b → d = d'
 box : ∀ d cs,st.box d = some cs → BoxAt P w g d cs
 row : g.row = st.row
 dis : ∀ d cs,st.box d = some cs → st.row d = none
 arr : ∀ d cs,st.arr d = some cs → ArrAt P w g d cs
 dia : ∀ d cs,st.arr d = some cs → st.row d = none ∧ st.box d = none
 ex : Ext P w0 S0 st.val a
 keep : ∀ b i v,S0.S b i → w0.cell? ⟨b,i,none⟩ = some v → g.S b i ∧ w.cell? ⟨b,i,none⟩ = some v
def Rel (P : Program) (N : Nat) (w0 : World) (S0 : Ent) (st : LSt) (a : Act) (w : World) : Prop := ∃ g,RelG P N w0 S0 g st a w

section
variable {P : Program} {N : Nat} {w0 : World} {S0 : Ent}
theorem G.heap {w w' : World} (h : G w w') {b : Nat} (hb : b < w.heap.size) : w'.heap[b]? = w.heap[b]? := Below.block h b hb
theorem G.cellAt {w w' : World} (h : G w w') {b i : Nat} (hb : b < w.heap.size) : w'.cell? ⟨b,i,none⟩ = w.cell? ⟨b,i,none⟩ := Below.cell (p := ⟨b,i,none⟩) h hb
theorem mono_grow {g : Gh} {w w' : World} {S' : Nat → Nat → Prop} (hwf : ∀ b i,g.S b i → b < w.heap.size) (hown : ∀ d b,g.own d = some b → b < w.heap.size) (hg : G w w') (hS : ∀ b i,b < w.heap.size → (S' b i ↔ g.S b i)) :
  Mono P w g w' ⟨S',g.own,g.row⟩ := by
 refine ⟨fun b i v hs hc => ⟨(hS b i (hwf b i hs)).2 hs,by rw [hg.cellAt (hwf b i hs)];exact hc⟩,fun d b h => h,fun q e n v hq h => ?_,fun d b cur e hb hc => ⟨cur,by rw [hg.heap (hown d b hb)];exact hc,rfl⟩⟩
 rcases h e hq with h | ⟨b,cap,cur,h1,h2,h3,h4,h5,h6,h7⟩
 ·exact .inl h
 ·have hb := hown q b h1
  exact .inr ⟨b,cap,cur,h1,h2,by rw [hg.heap hb];exact h3,h4,h5,h6,fun i hi hs => h7 i hi ((hS b i hb).1 hs)⟩
theorem BoxAt.mono {g g' : Gh} {w w' : World} {d : Nat} {cs : List LV} (h : BoxAt P w g d cs) (m : Mono P w g w' g') (hh : ∀ b,g.own d = some b → w'.heap[b]? = w.heap[b]?) (hS : ∀ b i,g.own d = some b → ¬ g.S b i → ¬ g'.S b i) : BoxAt P w' g' d cs := by
 obtain ⟨b,vals,T,h1,h2,h3,h4,h5⟩ := h
 exact ⟨b,vals,T,m.ptr _ _ h1,by rw [hh b h1];exact h2,h3,fun i c u hc hu => (h4 i c u hc hu).mono m,fun i => hS b i h1 (h5 i)⟩
theorem ArrAt.mono {g g' : Gh} {w w' : World} {d : Nat} {cs : List LV} (h : ArrAt P w g d cs) (m : Mono P w g w' g') (hh : ∀ b,g.own d = some b → w'.heap[b]? = w.heap[b]?) (hS : ∀ b i,g.own d = some b → ¬ g.S b i → ¬ g'.S b i) : ArrAt P w' g' d cs := by
 rcases h with h | ⟨b,vals,T,h1,h2,h3,h4,h5⟩
 ·exact .inl h
 ·exact .inr ⟨b,vals,T,m.ptr _ _ h1,by rw [hh b h1];exact h2,h3,fun i c u hc hu => (h4 i c u hc hu).mono (.bare m.cell),fun i => hS b i h1 (h5 i)⟩
theorem RelG.grow {g : Gh} {st : LSt} {a : Act} {w w' : World} {S' : Nat → Nat → Prop} (h : RelG P N w0 S0 g st a w) (hg : G w w') (hS : ∀ b i,b < w.heap.size → (S' b i ↔ g.S b i)) (hwf : ∀ b i,S' b i → b < w'.heap.size) :
  RelG P N w0 S0 ⟨S',g.own,g.row⟩ st a w' := by
 have m := mono_grow (P := P) h.wf (fun d b hb => (h.own d b hb).2) hg hS
 have hsz : w.heap.size ≤ w'.heap.size := hg.lt
 refine ⟨h.defers,h.size,fun k => (h.env k).mono m,h.below.trans (.of (hg.mono h.below.size)),fun b i hb hH => ?_,hwf,fun d b hb => ⟨(h.own d b hb).1,by have := (h.own d b hb).2;omega⟩,h.inj,fun d cs hd => ?_,h.row,h.dis,fun d cs hd => ?_,h.dia,h.ex,fun b i v hs hc => m.cell b i v (h.keep b i v hs hc).1 (h.keep b i v hs hc).2⟩
 ·show S' b i ↔ _
  rw [hS b i (by have := h.below.size;omega)];exact h.s0 b i hb hH
 ·exact (h.box d cs hd).mono m (fun b hb => hg.heap (h.own d b hb).2) (fun b i hb hn hs => hn ((hS b i (h.own d b hb).2).1 hs))
 ·exact (h.arr d cs hd).mono m (fun b hb => hg.heap (h.own d b hb).2) (fun b i hb hn hs => hn ((hS b i (h.own d b hb).2).1 hs))
theorem getD_put {a : Act} {d k : Nat} {v : Value} (hd : d < a.tmps.size) : (a.put (some d) v).tmps.getD k undef = if k = d then v else a.tmps.getD k undef := by
 by_cases h : k = d
 ·subst h;simp [Act.put,hd]
 ·rw [if_neg h];simp [Act.put,Array.getElem?_setIfInBounds_ne (Ne.symm h)]
theorem RelG.put {g : Gh} {st : LSt} {a : Act} {w : World} {dst : Option Tmp} {x : LV} {v : Value} (h : RelG P N w0 S0 g st a w) (hd : ∀ d,dst = some d → d < N) (hx : Rep P w g x v) : RelG P N w0 S0 g (st.put dst x) (a.put dst v) w := by
 cases dst with
 | none => exact h
 | some d =>
  have hd' : d < a.tmps.size := by rw [h.size];exact hd d rfl
  refine ⟨h.defers,by simpa [Act.put] using h.size,fun k => ?_,h.below,h.s0,h.wf,h.own,h.inj,h.box,h.row,h.dis,h.arr,h.dia,⟨h.ex.glob,h.ex.wf0,fun k v' hk => ?_⟩,h.keep⟩
  rotate_left
  ·rw [getD_put hd']
   simp only [LSt.put,upd] at hk
   split at hk
   ·cases hk
   ·rename_i hne;rw [if_neg hne];exact h.ex.vals k v' hk
  rw [getD_put hd']
  simp only [LSt.put,upd]
  split
  ·exact hx
  ·exact h.env k
theorem RelG.ev {g : Gh} {st : LSt} {a : Act} {w : World} (h : RelG P N w0 S0 g st a w) (x : Operand) : Rep P w g (evL st.env x) (a.eval x) := by
 cases x with
 | tmp t => exact h.env t
 | const v => exact rep_toLV v
 | global q => exact .lit _ _
 | func f => exact .lit _ _

def wantB (b want : Bool) : Bool := if want then b else !b
def wantL (ops : Array Oper) (o : Oper) (env : Nat → LV) : Option Bool :=
 match o.guard with
 | none => some true
 | some (j,want) =>
  match (ops[j]?).bind (·.dst) with
  | none => some false
  | some t => match env t with
   | .lit (.bool b) => some (wantB b want)
   | .lit (.tuple _) => some false
   | _ => none
def guardL (ops : Array Oper) (o : Oper) (env : Nat → LV) : Option (Bool × Bool) :=
 match o.guard with
 | none => some (true,true)
 | some (j,want) =>
  match (ops[j]?).bind (·.dst) with
  | none => some (true,false)
  | some t => match env t with
   | .lit (.bool b) => some (want,b)
   | .lit (.tuple _) => some (true,false)
   | _ => none
theorem guardL_want {ops : Array Oper} {o : Oper} {env : Nat → LV} {want b : Bool} (h : guardL ops o env = some (want,b)) : wantL ops o env = some (wantB b want) := by
 unfold guardL at h
 unfold wantL
 cases hg : o.guard with
 | none => rw [hg] at h;cases h;rfl
 | some jw =>
  obtain ⟨j,w⟩ := jw
  rw [hg] at h
  simp only at h ⊢
  cases hj : (ops[j]?).bind (·.dst) with
  | none => rw [hj] at h;cases h;rfl
  | some t =>
   rw [hj] at h
   simp only at h ⊢
   split at h
   ·cases h;rfl
   ·cases h;rfl
   ·cases h
def wantK (want b : Bool) (A B : Prop) : Prop := (wantB b want = true → A) ∧ (wantB b want = false → B)
theorem wantK_tt (A B : Prop) : wantK true true A B = A := by simp [wantK,wantB]
theorem wantK_tf (A B : Prop) : wantK true false A B = B := by simp [wantK,wantB]
theorem wantK_ft (A B : Prop) : wantK false true A B = B := by simp [wantK,wantB]
theorem wantK_ff (A B : Prop) : wantK false false A B = A := by simp [wantK,wantB]
@[congr] theorem wantK_congr {want b b' : Bool} {A B : Prop} (h : b = b') : wantK want b A B = wantK want b' A B := by rw [h]
theorem wantL_run {ops : Array Oper} {o : Oper} {st : LSt} {a : Act} {b : Bool} {w : World} {g : Gh} (h : ∀ k,Rep P w g (st.env k) (a.tmps.getD k undef)) (hw : wantL ops o st.env = some b) : Region.wanted o (yielded ops a.tmps) = b := by
 unfold wantL at hw
 unfold Region.wanted
 split at hw
 ·rename_i hg;cases hw;rw [hg]
 ·rename_i j want hg
  rw [hg]
  simp only [yielded]
  split at hw
  ·rename_i hj;cases hw;rw [hj];rfl
  ·rename_i t hj
   rw [hj]
   simp only [Option.bind_some]
   have ht := h t
   split at hw
   ·rename_i c hc
    cases hw
    rw [hc] at ht
    have hv := ht.inv_lit
    have hlt : t < a.tmps.size := by
     rcases Nat.lt_or_ge t a.tmps.size with h | h
     ·exact h
     ·simp [Array.getD,Nat.not_lt.2 h,undef] at hv
    have : a.tmps[t]? = some (.bool c) := by simp [Array.getD,hlt] at hv;simp [hlt,hv]
    rw [this]
    simp only
    cases c <;> cases want <;> rfl
   ·rename_i vs hc
    cases hw
    rw [hc] at ht
    have hv := ht.inv_lit
    rcases Nat.lt_or_ge t a.tmps.size with hlt | hge
    ·have : a.tmps[t]? = some (.tuple vs) := by simp [Array.getD,hlt] at hv;simp [hlt,hv]
     rw [this];rfl
    ·rw [Array.getElem?_eq_none hge];rfl
   ·cases hw

def callOf : Op → Option (FuncId × List Operand)
 | .call ⟨.value (.func f),args,_⟩ => some (f,args.toList)
 | _ => none
def LVal (P : Program) (ρ : Operand → LV) (B A : Nat → Option (List LV)) (op : Op) (x : LV) : Prop :=
 pv P ρ B A op = some x ∨ (∃ f args r,callOf op = some (f,args) ∧ LCalls P f ((args.map ρ).map strip) r ∧ x = strip r) ∨ ∃ c,buildV P ρ op = some (c,x) ∧ c
theorem callOf_ops {op : Op} {f : FuncId} {args : List Operand} (h : callOf op = some (f,args)) : ∃ ts,op = .call ⟨.value (.func f),args.toArray,ts⟩ := by
 unfold callOf at h
 split at h
 ·cases h;exact ⟨_,rfl⟩
 ·cases h
theorem LVal.congr {ρ ρ' : Operand → LV} {B A : Nat → Option (List LV)} {op : Op} {x : LV} (h : LVal P ρ B A op x) (hρ : ∀ y ∈ op.operands,ρ y = ρ' y) : LVal P ρ' B A op x := by
 rcases h with h | ⟨f,args,r,h1,h2,h3⟩ | ⟨c,h1,h2⟩
 rotate_left 2
 ·exact .inr (.inr ⟨c,by rw [← buildV_congr hρ];exact h1,h2⟩)
 ·exact .inl (by rw [← pv_congr hρ];exact h)
 ·refine .inr (.inl ⟨f,args,r,h1,?_,h3⟩)
  obtain ⟨ts,rfl⟩ := callOf_ops h1
  have : args.map ρ' = args.map ρ := List.map_congr_left fun y hy => (hρ y (by simp [zo,zc,hy])).symm
  rw [this];exact h2
theorem LVal.wp {g : Gh} {st : LSt} {a : Act} {w : World} {o : Oper} {x : LV} {K : Act → World → Prop} {Q : Exit → Act → World → Prop} (h : RelG P N w0 S0 g st a w) (hv : LVal P (evL st.env) st.box st.arr o.op x) (hd : ∀ d,o.dst = some d → d < N)
  (hK : ∀ a' w',Rel P N w0 S0 (st.put o.dst x) a' w' → K a' w') : o.wp P a w K Q := by
 rcases hv with hv | ⟨f,args,r,h1,h2,rfl⟩ | ⟨c,hbv,hc⟩
 rotate_left 2
 ·obtain ⟨n,cs,vs,e,_,rfl,hvals,hvl,hk,hbig,hrun⟩ := build_run (a := a) (fun y => h.ev y) hbv hc
  unfold Oper.wp
  rw [hrun]
  let S' : Nat → Nat → Prop := fun b i => g.S b i ∨ (b = w.heap.size ∧ i < vs.length)
  have hnew : (w.alloc (.cells vs.toArray e)).heap[w.heap.size]? = some (.cells vs.toArray e (0,0)) := by
   show (w.heap.push _)[w.heap.size]? = _
   simp
  have hsz : (w.alloc (.cells vs.toArray e)).heap.size = w.heap.size + 1 := by
   show (w.heap.push _).size = _
   simp
  have hR := h.grow (S' := S') (G.alloc w (.cells vs.toArray e)) (fun b i hb => ⟨fun hs => hs.elim id fun ⟨e1,_⟩ => by omega,.inl⟩) (fun b i hs => by
   rcases hs with hs | ⟨rfl,_⟩
   ·have := h.wf b i hs;omega
   ·omega)
  have hcells : CellsAt P (w.alloc (.cells vs.toArray e)) ⟨S',g.own,g.row⟩ w.heap.size 0 cs := by
   refine (hvals.mono (g' := ⟨S',g.own,g.row⟩) (w' := w.alloc (.cells vs.toArray e)) fun b i v hs hcl => ⟨.inl hs,?_⟩).cells fun i u hu => ?_
   ·rw [World.cell?_of_block (w := w) (a := ⟨b,i,none⟩) (Below.heap_alloc w _ b (h.wf b i hs))];exact hcl
   ·have hi := (List.getElem?_eq_some_iff.1 hu).1
    refine ⟨.inr ⟨rfl,by omega⟩,?_⟩
    rw [Nat.zero_add,cell_of_heap hnew,List.getElem?_toArray];exact hu
  obtain ⟨val,hc1,hc2⟩ := hcells
  exact hK _ _ ⟨_,hR.put hd (.sl _ _ _ _ _ _ (Nat.le_refl _) val hc1 hc2)⟩
 ·obtain ⟨v,hrun,hr⟩ := pv_sound (a := a) (fun y _ => h.ev y) h.box h.arr hv
  unfold Oper.wp
  rw [hrun]
  exact hK _ _ ⟨g,h.put hd hr⟩
 ·obtain ⟨dst,op,type,pos,after,guard⟩ := o
  simp only at h1 hd hK
  obtain ⟨ts,rfl⟩ := callOf_ops h1
  have hrun : (execOp a.eval ⟨dst,.call ⟨.value (.func f),args.toArray,ts⟩,type,pos,after,guard⟩).run P w = .ok (.enter f (args.toArray.map a.eval)) w := by
   have := h2.enters (args.toArray.map a.eval) w
   simpa [execOp,resolve,Deferred.ofValue,Act.eval,invoke] using this
  unfold Oper.wp
  rw [hrun]
  have hc := h2.calls w g.S (args.toArray.map a.eval) (h.ex.glob _ h.below) h.wf (by simp) (fun i c u hc hu => by
   obtain ⟨c',hc',rfl⟩ := map_get hc
   rw [List.getElem?_map,Option.map_eq_some_iff] at hc'
   obtain ⟨y,hy,rfl⟩ := hc'
   have : u = a.eval y := by
    rw [List.map_toArray,List.getElem?_toArray,List.getElem?_map,hy] at hu;exact (Option.some.inj hu).symm
   rw [this]
   exact (h.ev y).strip rfl)
  refine Calls.mono hc fun e w' ⟨v,S',he,hr,hg,hS,hwf⟩ => ?_
  subst he
  exact hK _ _ ⟨_,(h.grow hg hS hwf).put hd (hr.strip rfl)⟩
end
end Go.Proofs.YteamlijbkldlhaaGreatDoor
end
section
set_option linter.unusedSimpArgs false
set_option linter.unusedVariables false
namespace Go.Proofs.YteamlijbkldlhaaGreatDoor
open Go.RowKit

def lcall (P : Program) (f : FuncId) (args : List LV) (K : LV → Prop) : Prop := ∃ r,LCalls P f args r ∧ K r
@[congr] theorem lcall_congr {P : Program} {f : FuncId} {args args' : List LV} {K : LV → Prop} (h : args = args') : lcall P f args K = lcall P f args' K := by rw [h]

section
variable (d : Nat)
theorem fg_any : Go.Proofs.YteamlijbkldlhaaGreatDoor.forget d .any = .any := rfl
theorem fg_lit (v : Value) : Go.Proofs.YteamlijbkldlhaaGreatDoor.forget d (.lit v) = .lit v := rfl
theorem fg_no (n : Nat) (cs : List LV) : Go.Proofs.YteamlijbkldlhaaGreatDoor.forget d (.sl n cs .no) = .sl n cs .no := rfl
theorem fg_nil (n : Nat) (cs : List LV) : Go.Proofs.YteamlijbkldlhaaGreatDoor.forget d (.sl n cs .nil) = .sl n cs .nil := rfl
theorem fg_row (n q : Nat) (cs : List LV) : Go.Proofs.YteamlijbkldlhaaGreatDoor.forget d (.sl n cs (.row q)) = if q = d then .sl n cs .no else .sl n cs (.row q) := rfl
theorem fg_ref (cs : List LV) : Go.Proofs.YteamlijbkldlhaaGreatDoor.forget d (.ref cs) = .ref cs := rfl
theorem fg_ptr (e o : Nat) : Go.Proofs.YteamlijbkldlhaaGreatDoor.forget d (.ptr e o) = if e = d then .any else .ptr e o := rfl
theorem fg_bsl (q n : Nat) (e : TypeId) : Go.Proofs.YteamlijbkldlhaaGreatDoor.forget d (.bsl q n e) = if q = d then .any else .bsl q n e := rfl
theorem fg_aptr (e o : Nat) : Go.Proofs.YteamlijbkldlhaaGreatDoor.forget d (.aptr e o) = if e = d then .any else .aptr e o := rfl
theorem fg1_bsl (q n : Nat) (e : TypeId) : forget1 d (.bsl q n e) = if q = d then .any else .bsl q n e := rfl
theorem fg1_aptr (e o : Nat) : forget1 d (.aptr e o) = if e = d then .any else .aptr e o := rfl
theorem fg_agg (cs : List LV) : Go.Proofs.YteamlijbkldlhaaGreatDoor.forget d (.agg cs) = .agg (cs.map (forget1 d)) := rfl
theorem fg_tup (cs : List LV) : Go.Proofs.YteamlijbkldlhaaGreatDoor.forget d (.tup cs) = .tup (cs.map (forget2 d)) := rfl
theorem fg_sub (n q o : Nat) (cs : List LV) : Go.Proofs.YteamlijbkldlhaaGreatDoor.forget d (.sl n cs (.sub q o)) = if q = d then .sl n cs .no else .sl n cs (.sub q o) := rfl
theorem fg1_sub (n q o : Nat) (cs : List LV) : forget1 d (.sl n cs (.sub q o)) = if q = d then .sl n cs .no else .sl n cs (.sub q o) := rfl
theorem fg1_any : forget1 d .any = .any := rfl
theorem fg1_lit (v : Value) : forget1 d (.lit v) = .lit v := rfl
theorem fg1_no (n : Nat) (cs : List LV) : forget1 d (.sl n cs .no) = .sl n cs .no := rfl
theorem fg1_nil (n : Nat) (cs : List LV) : forget1 d (.sl n cs .nil) = .sl n cs .nil := rfl
theorem fg1_row (n q : Nat) (cs : List LV) : forget1 d (.sl n cs (.row q)) = if q = d then .sl n cs .no else .sl n cs (.row q) := rfl
theorem fg1_ref (cs : List LV) : forget1 d (.ref cs) = .ref cs := rfl
theorem fg1_ptr (e o : Nat) : forget1 d (.ptr e o) = if e = d then .any else .ptr e o := rfl
theorem fg2_lit (v : Value) : forget2 d (.lit v) = .lit v := rfl
theorem fg2_agg (cs : List LV) : forget2 d (.agg cs) = .agg (cs.map (forget1 d)) := rfl
theorem fg2_no (n : Nat) (cs : List LV) : forget2 d (.sl n cs .no) = .sl n cs .no := rfl
end
theorem st_any : strip .any = .any := rfl
theorem st_lit (v : Value) : strip (.lit v) = .lit v := rfl
theorem st_sl (n : Nat) (cs : List LV) (t : Tok) : strip (.sl n cs t) = .sl n cs .no := rfl
theorem st_ref (cs : List LV) : strip (.ref cs) = .ref cs := rfl
theorem st_ptr (d o : Nat) : strip (.ptr d o) = .any := rfl
theorem st_bsl (d n : Nat) (e : TypeId) : strip (.bsl d n e) = .any := rfl
theorem st_aptr (d o : Nat) : strip (.aptr d o) = .any := rfl
theorem st1_bsl (d n : Nat) (e : TypeId) : strip1 (.bsl d n e) = .any := rfl
theorem st1_aptr (d o : Nat) : strip1 (.aptr d o) = .any := rfl
theorem st_agg (cs : List LV) : strip (.agg cs) = .agg (cs.map strip1) := rfl
theorem st_tup (cs : List LV) : strip (.tup cs) = .tup (cs.map strip2) := rfl
theorem st1_any : strip1 .any = .any := rfl
theorem st1_lit (v : Value) : strip1 (.lit v) = .lit v := rfl
theorem st1_sl (n : Nat) (cs : List LV) (t : Tok) : strip1 (.sl n cs t) = .sl n cs .no := rfl
theorem st1_ref (cs : List LV) : strip1 (.ref cs) = .ref cs := rfl
theorem st1_ptr (d o : Nat) : strip1 (.ptr d o) = .any := rfl
theorem st2_any : strip2 .any = .any := rfl
theorem st2_lit (v : Value) : strip2 (.lit v) = .lit v := rfl
theorem st2_sl (n : Nat) (cs : List LV) (t : Tok) : strip2 (.sl n cs t) = .sl n cs .no := rfl
theorem st2_ref (cs : List LV) : strip2 (.ref cs) = .ref cs := rfl
theorem st2_ptr (d o : Nat) : strip2 (.ptr d o) = .any := rfl
theorem st2_agg (cs : List LV) : strip2 (.agg cs) = .agg (cs.map strip1) := rfl
def LSt.forget (st : LSt) (d : Nat) : LSt :=
 ⟨fun k => Go.Proofs.YteamlijbkldlhaaGreatDoor.forget d (st.env k),fun k => if k = d then none else (st.box k).map fun cs => cs.map (forget1 d),upd st.row d none,upd st.arr d none,st.mode,st.val⟩
def LSt.setBox (st : LSt) (d : Nat) (cs : List LV) : LSt := { st with box := upd st.box d (some cs) }
def LSt.setArr (st : LSt) (d : Nat) (cs : List LV) : LSt := { st with arr := upd st.arr d (some cs) }
def LSt.setRow (st : LSt) (d : Nat) (e : TypeId) (n : Nat) : LSt := { st with row := upd st.row d (some (e,n)) }
def oneL : LV → Bool
 | .lit (.agg _) => false
 | .lit (.tuple _) => false
 | .lit _ => true
 | .sl _ _ _ => true
 | .ref _ => true
 | .ptr _ _ => true
 | .bsl _ _ _ => true
 | .aptr _ _ => true
 | _ => false
def bytesL (P : Program) (e : TypeId) : Nat := ((P.info? e).map (·.bytes)).getD 0
def zeroL (P : Program) (e : TypeId) : Option (List LV) :=
 match P.info? e with
 | some i => i.zero.map fun z => z.cells.toList.map toLV
 | none => none
def newL (A : Nat → Option (List LV)) : LV → Option (Nat × List LV)
 | .sl n cs _ => some (n,cs.map strip1)
 | .bsl d n _ => (A d).map fun cs => (n,cs.map strip1)
 | _ => none
def boxE (st : LSt) (d : Nat) : Option (List LV) → Option (Prop × LSt)
 | some cs => some (True,((st.forget d).setBox d (cs.map (forget1 d))).put (some d) (.ptr d 0))
 | none => none
def okT (P : Program) (t : TypeId) : Bool := (P.info? t).isSome
def storeTo (P : Program) (st : LSt) (t : TypeId) (d o : Nat) (xs : List LV) : Option (List LV) → Option (Prop × LSt)
 | some cs => some (okT P t = true ∧ sizeL P t = xs.length ∧ o + xs.length ≤ cs.length ∧ xs.all oneL = true,st.setBox d (cs.take o ++ xs ++ cs.drop (o + xs.length)))
 | none => none
def storeArr (P : Program) (st : LSt) (t : TypeId) (d o : Nat) (xs : List LV) : Option (List LV) → Option (Prop × LSt)
 | some cs => some (okT P t = true ∧ sizeL P t = xs.length ∧ o + xs.length ≤ cs.length ∧ xs.all oneL = true ∧ 0 < xs.length,st.setArr d (cs.take o ++ xs.map strip1 ++ cs.drop (o + xs.length)))
 | none => none
def storeE (P : Program) (st : LSt) (t : TypeId) : LV → Option (List LV) → Option (Prop × LSt)
 | .ptr d o,some xs => storeTo P st t d o xs (st.box d)
 | .aptr d o,some xs => storeArr P st t d o xs (st.arr d)
 | _,_ => none
def buildSliceE1 (P : Program) (st : LSt) (d : Nat) (n m : Nat) (e : TypeId) (k : Nat) : Option (List LV) → Option (Prop × LSt)
 | some cs => some (0 < k ∧ m = n ∧ n * k ≤ 16777216 ∧ zeroOk P e = true,(cond (st.mode d) (if n = 0 then (st.forget d).setRow d e n else (st.forget d).setArr d cs) st).put (some d) (cond (st.mode d) (if n = 0 then .sl n cs (.row d) else .bsl d n e) (.sl n cs .no)))
 | none => none
def buildSliceE (P : Program) (st : LSt) (d : Nat) (n : Nat) (parts : List (Nat × LV)) : Option (TypeId × Nat) → Option (Prop × LSt)
 | some (e,k) => buildSliceE1 P st d n parts.length e k (partsL k 0 parts)
 | none => none
def bslK (P : Program) (m l : Nat) : LV → Prop
 | .bsl _ _ e => okT P e = true ∧ l = m * sizeL P e ∧ 0 < sizeL P e
 | _ => True
def appendE1 (P : Program) (st : LSt) (d : Nat) (e : TypeId) (k n : Nat) (cs : List LV) (m : Nat) (ds : List LV) (y : LV) : Tok → Option (Prop × LSt)
 | .nil => some (n = 0 ∧ cs.length = n * k ∧ ds.length = m * k ∧ 0 < k ∧ ds.all oneL = true ∧ zeroOk P e = true ∧ (n + m) * bytesL P e ≤ 140737488355328 ∧ n + m ≤ maxLen ∧ bslK P m ds.length y,(cond (st.mode d) ((st.forget d).setArr d (cs ++ ds)) ((st.forget d).setRow d e (n + m))).put (some d) (cond (st.mode d) (.bsl d (n + m) e) (.sl (n + m) (cs ++ ds) (.row d))))
 | .row q => some (cs.length = n * k ∧ ds.length = m * k ∧ 0 < k ∧ ds.all oneL = true ∧ zeroOk P e = true ∧ (n + m) * bytesL P e ≤ 140737488355328 ∧ n + m ≤ maxLen ∧ st.row q = some (e,n) ∧ bslK P m ds.length y,cond (st.mode d) (if n = 0 then if m = 0 then ((st.forget q).setRow q e (n + m)).put (some d) (.sl (n + m) (cs ++ ds) (.row q)) else ((st.forget q).setArr q (cs ++ ds)).put (some d) (.bsl q (n + m) e) else ((st.forget q).setRow q e (n + m)).put (some d) (.sl (n + m) (cs ++ ds) (.row q))) (((st.forget q).setRow q e (n + m)).put (some d) (.sl (n + m) (cs ++ ds) (.row q))))
 | .sub _ _ => none
 | .no => none
def appendA (P : Program) (st : LSt) (d q n : Nat) (e e' : TypeId) (k m : Nat) (ds : List LV) (y : LV) : Option (List LV) → Option (Prop × LSt)
 | some cs => some (e = e' ∧ cs.length = n * k ∧ ds.length = m * k ∧ 0 < k ∧ ds.all oneL = true ∧ zeroOk P e = true ∧ (n + m) * bytesL P e ≤ 140737488355328 ∧ n + m ≤ maxLen ∧ bslK P m ds.length y,((st.forget q).setArr q (cs ++ ds)).put (some d) (.bsl q (n + m) e))
 | none => none
def appendE (P : Program) (st : LSt) (d : Nat) (y : LV) : Option (TypeId × Nat) → LV → Option (Nat × List LV) → Option (Prop × LSt)
 | some (e,k),.sl n cs tk,some (m,ds) => appendE1 P st d e k n cs m ds y tk
 | some (e,k),.bsl q n e',some (m,ds) => appendA P st d q n e e' k m ds y (st.arr q)
 | _,_,_ => none
def isStrT (P : Program) (t : TypeId) : Bool := match P.underlying t with | some .string => true | _ => false
def strNew (b : Bool) : LV → Option (Nat × List LV)
 | .lit (.string s) => cond b (some (s.data.toList.length,bL s.data.toList)) none
 | _ => none
def one1 : Option (TypeId × Nat) → Option (TypeId × Nat)
 | some (e,k) => if k = 1 then some (e,k) else none
 | none => none
def newE (P : Program) (A : Nat → Option (List LV)) (t t' : TypeId) (y : LV) : Option (Nat × List LV) := if t = t' then newL A y else strNew (isStrT P t') y
def elE (P : Program) (t t' : TypeId) : Option (TypeId × Nat) := if t = t' then elemL P t else one1 (elemL P t)
def bslY (t t' : TypeId) (y : LV) : LV := if t = t' then y else .any
def appendE2 (P : Program) (st : LSt) (d : Nat) : List Operand → List TypeId → Option (Prop × LSt)
 | [x,y],[t,t'] => appendE P st d (bslY t t' (evL st.env y)) (elE P t t') (evL st.env x) (newE P st.arr t t' (evL st.env y))
 | _,_ => none
def repL (n : Nat) (zs : List LV) : List LV := (List.replicate n zs).flatten
def makeE (P : Program) (st : LSt) (d : Nat) : Option (TypeId × Nat) → LV → LV → Option (Prop × LSt)
 | some (e,k),.lit (.int _ z),.lit (.int _ z') => match zeroL P e with
  | some zs => some (z = z' ∧ 0 ≤ z ∧ z.toNat * bytesL P e ≤ 281474976710656 ∧ z.toNat ≤ maxLen ∧ 0 < k ∧ zs.length = k,if z.toNat = 0 then st.put (some d) (.sl 0 [] .no) else ((st.forget d).setArr d (repL z.toNat zs)).put (some d) (.bsl d z.toNat e))
  | none => none
 | _,_,_ => none
def copyA (st : LSt) (d q off n : Nat) (s : List UInt8) : Option (List LV) → Option (Prop × LSt)
 | some cs => some (0 < s.length ∧ s.length ≤ n ∧ off + s.length ≤ cs.length,(st.setArr q (cs.take off ++ bL s ++ cs.drop (off + s.length))).put (some d) (.lit (.int .i64 s.length)))
 | none => none
def copyE (st : LSt) (d : Nat) : Option (TypeId × Nat) → LV → LV → Option (Prop × LSt)
 | some (_,1),.sl n [] (.sub q off),.lit (.string s) => copyA st d q off n s.data.toList (st.arr q)
 | some (_,1),.bsl q n _,.lit (.string s) => copyA st d q 0 n s.data.toList (st.arr q)
 | _,_,_ => none
def copyE2 (P : Program) (st : LSt) (d : Nat) : List Operand → List TypeId → Option (Prop × LSt)
 | [x,y],t :: _ => copyE st d (elemL P t) (evL st.env x) (evL st.env y)
 | _,_ => none
def effE (P : Program) (st : LSt) : Option Tmp → Op → Option (Prop × LSt)
 | some d,.box _ x => boxE st d (cellsL (evL st.env x))
 | some d,.alloc e => boxE st d (zeroL P e)
 | none,.store t p x => storeE P st t (evL st.env p) (cellsL (evL st.env x))
 | some d,.buildSlice t n parts => buildSliceE P st d n (parts.toList.map fun q => (q.1,evL st.env q.2)) (elemL P t)
 | some d,.call ⟨.builtin .append,args,ts⟩ => appendE2 P st d args.toList ts.toList
 | some d,.call ⟨.builtin .copy,args,ts⟩ => copyE2 P st d args.toList ts.toList
 | some d,.makeSlice t x y => makeE P st d (elemL P t) (evL st.env x) (evL st.env y)
 | _,_ => none
def effK (r : Option (Prop × LSt)) (K : LSt → Prop) : Prop :=
 match r with
 | some (c,st) => c ∧ K st
 | none => False
@[congr] theorem effK_congr {r r' : Option (Prop × LSt)} {K : LSt → Prop} (h : r = r') : effK r K = effK r' K := by rw [h]
def callK (P : Program) (c : Option (FuncId × List Operand)) (ρ : Operand → LV) (K : LV → Prop) (A : Prop) : Prop :=
 match c with
 | some (f,args) => lcall P f ((args.map ρ).map strip) K
 | none => A
theorem callK_none (P : Program) (ρ : Operand → LV) (K : LV → Prop) (A : Prop) : callK P none ρ K A = A := rfl
@[congr] theorem callK_congr {P : Program} {c c' : Option (FuncId × List Operand)} {ρ : Operand → LV} {K : LV → Prop} {A : Prop} (h : c = c') : callK P c ρ K A = callK P c' ρ K A := by rw [h]
def pvK (v : Option LV) (K : LV → Prop) (A : Prop) : Prop :=
 match v with
 | some x => K x
 | none => A
theorem pvK_none (K : LV → Prop) (A : Prop) : pvK none K A = A := rfl
@[congr] theorem pvK_congr {v v' : Option LV} {K : LV → Prop} {A : Prop} (h : v = v') : pvK v K A = pvK v' K A := by rw [h]
def guardK (g : Option (Bool × Bool)) (A B : Prop) : Prop :=
 match g with
 | some (want,b) => wantK want b A B
 | none => False
theorem guardK_some (want b : Bool) (A B : Prop) : guardK (some (want,b)) A B = wantK want b A B := rfl
@[congr] theorem guardK_congr {g g' : Option (Bool × Bool)} {A B : Prop} (h : g = g') : guardK g A B = guardK g' A B := by rw [h]
def lop (P : Program) (o : Oper) (st : LSt) (K : LSt → Prop) : Prop :=
 pvK (pv P (evL st.env) st.box st.arr o.op) (fun x => K (st.put o.dst x)) (callK P (callOf o.op) (evL st.env) (fun r => K (st.put o.dst (strip r))) (effK (effE P st o.dst o.op) K))
def dstOk (N : Nat) : Option Tmp → Bool
 | none => true
 | some d => decide (d < N)
def lops (P : Program) (N : Nat) (ops : Array Oper) : List Oper → (LSt → Prop) → LSt → Prop
 | [],K,st => K st
 | o :: rest,K,st => dstOk N o.dst = true ∧
  guardK (guardL ops o st.env) (lop P o st (lops P N ops rest K)) (lops P N ops rest K (st.put o.dst (.lit undef)))
def pureB (o : Oper) : Bool :=
 match o.op with
 | .box _ _ => false
 | .alloc _ => false
 | .store _ _ _ => false
 | .select _ _ => false
 | .call ⟨.builtin .append,_,_⟩ => false
 | .call ⟨.builtin .copy,_,_⟩ => false
 | .makeSlice _ _ _ => false
 | _ => true
def bmode (md : Nat → Bool) (o : Oper) : Bool :=
 match o.op,o.dst with
 | .buildSlice _ _ _,some d => !md d
 | _,_ => true
section
variable {P : Program} {N : Nat} {w0 : World} {S0 : Ent} {ops : Array Oper} {md : Region.Mode}
theorem dstOk_spec {dst : Option Tmp} (h : dstOk N dst = true) : ∀ d,dst = some d → d < N := by
 rintro d rfl;simpa [dstOk] using h
theorem lop_pure {o : Oper} {st : LSt} {K : LSt → Prop} (hp : pureB o = true) (hmd : bmode st.mode o = true) (h : lop P o st K) : ∃ x,LVal P (evL st.env) st.box st.arr o.op x ∧ K (st.put o.dst x) := by
 unfold lop at h
 cases hx : pv P (evL st.env) st.box st.arr o.op with
 | some x => rw [hx] at h;exact ⟨x,.inl hx,h⟩
 | none =>
  rw [hx,pvK_none] at h
  cases hc : callOf o.op with
  | some fa =>
   obtain ⟨f,args⟩ := fa
   rw [hc] at h
   obtain ⟨r,hr,hK⟩ := h
   exact ⟨strip r,.inr (.inl ⟨f,args,r,hc,hr,rfl⟩),hK⟩
  | none =>
   rw [hc,callK_none] at h
   obtain ⟨dst,op,type,pos,after,guard⟩ := o
   simp only at h
   cases he : effE P st dst op with
   | none => rw [he] at h;exact h.elim
   | some cs =>
    rw [he] at h
    unfold effE at he
    split at he
    ·cases hp
    ·cases hp
    ·cases hp
    ·rename_i d t n parts
     have hm : st.mode d = false := by simpa [bmode] using hmd
     cases hek : elemL P t with
     | none => rw [hek] at he;cases he
     | some ek =>
      obtain ⟨e,k⟩ := ek
      rw [hek] at he
      simp only [buildSliceE] at he
      cases hcs : partsL k 0 (parts.toList.map fun q => (q.1,evL st.env q.2)) with
      | none => rw [hcs] at he;cases he
      | some xs =>
       rw [hcs] at he
       cases he
       obtain ⟨⟨h1,h2,h3,h4⟩,hK⟩ := h
       rw [hm,cond_false,cond_false] at hK
       rw [List.length_map] at h2
       have hbv : buildV P (evL st.env) (.buildSlice t n parts) = some ((0 < k ∧ parts.toList.length = n ∧ n * k ≤ 16777216 ∧ zeroOk P e = true),.sl n xs .no) := by simp only [buildV,hek,hcs,Option.map_some]
       exact ⟨.sl n xs .no,.inr (.inr ⟨_,hbv,h1,h2,h3,h4⟩),hK⟩
    ·cases hp
    ·cases hp
    ·cases hp
    ·cases he
theorem lop_mono {o : Oper} {st : LSt} {K K' : LSt → Prop} (hK : ∀ st,K st → K' st) (h : lop P o st K) : lop P o st K' := by
 unfold lop at h ⊢
 cases hx : pv P (evL st.env) st.box st.arr o.op with
 | some x => rw [hx] at h;exact hK _ h
 | none =>
  rw [hx,pvK_none] at h
  rw [pvK_none]
  cases hc : callOf o.op with
  | some fa =>
   obtain ⟨f,args⟩ := fa
   rw [hc] at h
   obtain ⟨r,hr,h2⟩ := h
   exact ⟨r,hr,hK _ h2⟩
  | none =>
   rw [hc,callK_none] at h
   rw [callK_none]
   cases he : effE P st o.dst o.op with
   | none => rw [he] at h;exact h
   | some cs => obtain ⟨c,st'⟩ := cs;rw [he] at h;exact ⟨h.1,hK _ h.2⟩
def YieldsL (P : Program) (ops : Array Oper) (o : Oper) (x : LV) (st : LSt) : Prop :=
 (wantL ops o st.env = some true ∧ LVal P (evL st.env) st.box st.arr o.op x) ∨ (wantL ops o st.env = some false ∧ x = .lit undef)
def lqOp (P : Program) (ops : Array Oper) (i : Nat) (K : LSt → Prop) (st : LSt) : Prop :=
 match ops[i]? with
 | none => K st
 | some o => ∃ x,YieldsL P ops o x st ∧ K (st.put o.dst x)
theorem lqOp_mono {i : Nat} {st : LSt} {K K' : LSt → Prop} (h : ∀ st,K st → K' st) (hh : lqOp P ops i K st) : lqOp P ops i K' st := by
 unfold lqOp at *
 split
 ·rename_i ho;simp only [ho] at hh;exact h _ hh
 ·rename_i o ho;simp only [ho] at hh;obtain ⟨x,h1,h2⟩ := hh;exact ⟨x,h1,h _ h2⟩
theorem put_comm {st : LSt} {x y : Option Tmp} (v u : LV) (h : ∀ d,x = some d → y ≠ some d) : (st.put x v).put y u = (st.put y u).put x v := by
 cases x with
 | none => rfl
 | some d => cases y with
  | none => rfl
  | some e =>
   have hne : d ≠ e := fun he => h d rfl (he ▸ rfl)
   simp only [LSt.put]
   have key : ∀ {β : Type} (f : Nat → β) (p q : β),upd (upd f d p) e q = upd (upd f e q) d p := by
    intro β f p q
    funext k
    simp only [upd]
    by_cases h1 : k = e
    ·have h3 : ¬ k = d := fun h => hne (h.symm.trans h1)
     rw [if_pos h1,if_neg h3,if_pos h1]
    ·by_cases h2 : k = d
     ·rw [if_neg h1,if_pos h2,if_pos h2]
     ·rw [if_neg h1,if_neg h2,if_neg h2,if_neg h1]
   rw [key,key]
theorem put_box (st : LSt) (dst : Option Tmp) (v : LV) : (st.put dst v).box = st.box := by cases dst <;> rfl
theorem put_mode (st : LSt) (dst : Option Tmp) (v : LV) : (st.put dst v).mode = st.mode := by cases dst <;> rfl
theorem put_arr (st : LSt) (dst : Option Tmp) (v : LV) : (st.put dst v).arr = st.arr := by cases dst <;> rfl
theorem put_env_ne {st : LSt} {dst : Option Tmp} {v : LV} {t : Nat} (h : dst ≠ some t) : (st.put dst v).env t = st.env t := by
 cases dst with
 | none => rfl
 | some d => simp only [LSt.put];exact upd_ne _ _ (fun e => h (by rw [e]))
theorem YieldsL.put {o : Oper} {x : LV} {st : LSt} {dst : Option Tmp} (v : LV) (h : ∀ d,dst = some d → d ∉ o.looksAt ops) : YieldsL P ops o x (st.put dst v) ↔ YieldsL P ops o x st := by
 have hw : wantL ops o (st.put dst v).env = wantL ops o st.env := by
  unfold wantL
  cases hg : o.guard with
  | none => rfl
  | some jw =>
   obtain ⟨j,want⟩ := jw
   simp only
   cases hj : (ops[j]?).bind (·.dst) with
   | none => rfl
   | some t =>
    simp only
    rw [put_env_ne (fun e => h t e (by simp [Oper.looksAt,hg,hj]))]
 have hρ : ∀ y ∈ o.op.operands,evL (st.put dst v).env y = evL st.env y := by
  intro y hy
  cases y with
  | tmp t => exact put_env_ne (fun e => h t e (List.mem_append_left _ (List.mem_filterMap.2 ⟨.tmp t,by simpa using hy,rfl⟩)))
  | _ => rfl
 unfold YieldsL
 rw [hw,put_box,put_arr]
 constructor
 ·rintro (⟨h1,h2⟩ | h1)
  ·exact .inl ⟨h1,h2.congr hρ⟩
  ·exact .inr h1
 ·rintro (⟨h1,h2⟩ | h1)
  ·exact .inl ⟨h1,h2.congr fun y hy => (hρ y hy).symm⟩
  ·exact .inr h1
theorem lqOp_put {j : Nat} {oi oj : Oper} {v : LV} (hj : ops[j]? = some oj) (hap : oi.apart ops oj = true) {K : LSt → Prop} {st : LSt}
  (hy : YieldsL P ops oi v st) (h : lqOp P ops j K (st.put oi.dst v)) : lqOp P ops j (fun st' => YieldsL P ops oi v st' ∧ K (st'.put oi.dst v)) st := by
 obtain ⟨h1,h2,h3⟩ := Oper.apart_spec hap
 unfold lqOp at *
 simp only [hj] at *
 obtain ⟨u,hu,hn⟩ := h
 exact ⟨u,(YieldsL.put v h1).1 hu,(YieldsL.put u h3).2 hy,by rw [← put_comm v u h2];exact hn⟩
def anyL (P : Program) (md : Region.Mode) (ops : Array Oper) (Q : LSt → Prop) : Nat → Array Bool → LSt → Prop
 | 0,listed,st => Region.ready md ops listed = [] ∧ Q st
 | fuel + 1,listed,st => (Region.ready md ops listed = [] → Q st) ∧ ∀ i ∈ Region.ready md ops listed,lqOp P ops i (anyL P md ops Q fuel (listed.setIfInBounds i true)) st
theorem anyL_first {Q : LSt → Prop} {i : Nat} {oi : Oper} {v : LV} (hi : ops[i]? = some oi) :
  ∀ (fuel : Nat) (listed : Array Bool) (st : LSt),
   (∀ j oj,ops[j]? = some oj → j ≠ i → listed.getD j true = false → (∀ e ∈ oj.after,Region.binds md e = true → e.on ≠ i) → oi.apart ops oj = true) →
   i ∈ Region.ready md ops listed → YieldsL P ops oi v st →
   anyL P md ops Q fuel (listed.setIfInBounds i true) (st.put oi.dst v) → anyL P md ops Q (fuel + 1) listed st := by
 intro fuel
 have self : ∀ {st : LSt} {K : LSt → Prop},YieldsL P ops oi v st → K (st.put oi.dst v) → lqOp P ops i K st := by
  intro st K hy hK
  unfold lqOp;simp only [hi];exact ⟨v,hy,hK⟩
 induction fuel with
 | zero =>
  intro listed st _ hr hy H
  refine ⟨fun h => (by rw [h] at hr;cases hr),fun j hj => ?_⟩
  by_cases hji : j = i
  ·subst hji;exact self hy H
  ·have := ready_mono hj hji
   rw [H.1] at this
   cases this
 | succ fuel ih =>
  intro listed st hfree hr hy H
  refine ⟨fun h => (by rw [h] at hr;cases hr),fun j hj => ?_⟩
  by_cases hji : j = i
  ·subst hji;exact self hy H
  ·have h1 := H.2 j (ready_mono hj hji)
   obtain ⟨hjun,oj,hoj,hall⟩ := mem_ready.1 hj
   have hnot : ∀ e ∈ oj.after,Region.binds md e = true → e.on ≠ i := fun e he hb heq => by
    have h1 := hall e he hb
    have h0 := (mem_ready.1 hr).1
    rw [heq] at h1
    rcases Nat.lt_or_ge i listed.size with h' | h'
    ·simp [h'] at h0 h1;rw [h0] at h1;cases h1
    ·simp [Array.getElem?_eq_none h'] at h1
   have h2 := lqOp_put hoj (hfree j oj hoj hji hjun hnot) hy h1
   have hfree' : ∀ k ok,ops[k]? = some ok → k ≠ i → (listed.setIfInBounds j true).getD k true = false →
     (∀ e ∈ ok.after,Region.binds md e = true → e.on ≠ i) → oi.apart ops ok = true := fun k ok hk hki hun hno => by
    refine hfree k ok hk hki ?_ hno
    by_cases hjk : j = k
    ·subst hjk;exact hjun
    ·rw [getD_set_ne true hjk] at hun;exact hun
   refine lqOp_mono (fun st' h3 => ih (listed.setIfInBounds j true) st' hfree' (ready_mono hr (Ne.symm hji)) h3.1 ?_) h2
   rw [Array.setIfInBounds_comm _ _ hji]
   exact h3.2
theorem anyL_lex {Q : LSt → Prop} : ∀ (l : List Oper) (k : Nat) (listed : Array Bool) (st : LSt),(∀ j,l[j]? = ops[k + j]?) →
  Region.lexFrom md ops l.length k listed = true → l.all pureB = true → l.all (bmode st.mode) = true → lops P N ops l Q st → anyL P md ops Q l.length listed st
 | [],_,_,_,_,hB,_,_,h => ⟨by simpa [Region.lexFrom] using hB,h⟩
 | o :: l,k,listed,st,hl,hB,hp,hmd,h => by
  have h0 : ops[k]? = some o := by simpa using (hl 0).symm
  simp only [List.length_cons,Region.lexFrom,Bool.and_eq_true] at hB
  obtain ⟨⟨hr,hf⟩,hB'⟩ := hB
  rw [List.all_cons,Bool.and_eq_true] at hp hmd
  obtain ⟨hd,h⟩ := h
  have hst : ∃ v,YieldsL P ops o v st ∧ lops P N ops l Q (st.put o.dst v) := by
   cases hg : guardL ops o st.env with
   | some wb =>
    obtain ⟨want,b⟩ := wb
    rw [hg] at h
    have hw := guardL_want hg
    cases hc : wantB b want
    ·rw [hc] at hw;exact ⟨_,.inr ⟨hw,rfl⟩,h.2 hc⟩
    ·rw [hc] at hw
     obtain ⟨x,h1,h2⟩ := lop_pure hp.1 hmd.1 (h.1 hc)
     exact ⟨x,.inl ⟨hw,h1⟩,h2⟩
   | none => rw [hg] at h;exact h.elim
  obtain ⟨v,hy,hK⟩ := hst
  exact anyL_first h0 l.length listed st (Region.free_spec h0 hf) (by simpa using hr) hy
   (anyL_lex l (k + 1) _ _ (fun j => by have := hl (j + 1);simpa [Nat.add_assoc,Nat.add_comm 1 j] using this) hB' hp.2 (by rw [put_mode];exact hmd.2) hK)
theorem wpAny_of_anyL {Q : LSt → Prop} {Q' : Exit → Act → World → Prop} (hd : ∀ (i : Nat) (o : Oper),ops[i]? = some o → dstOk N o.dst = true) (hQ : ∀ st a w,Rel P N w0 S0 st a w → Q st → Q' .normal a w) :
  ∀ (fuel : Nat) (listed : Array Bool) (st : LSt) (a : Act) (w : World),Rel P N w0 S0 st a w → anyL P md ops Q fuel listed st → wpAny P md ops Q' fuel listed a w
 | 0,_,_,_,_,hr,h => ⟨h.1,hQ _ _ _ hr h.2⟩
 | fuel + 1,_,st,a,w,hr,h => by
  refine ⟨fun h0 => hQ _ _ _ hr (h.1 h0),fun i hi => ?_⟩
  have h1 := h.2 i hi
  unfold lqOp at h1
  unfold wpOp
  split
  ·rename_i ho;simp only [ho] at h1;exact wpAny_of_anyL hd hQ fuel _ st a w hr h1
  ·rename_i o ho
   simp only [ho] at h1
   obtain ⟨x,hy,hK⟩ := h1
   obtain ⟨g,hg⟩ := hr
   rcases hy with ⟨hw,hv⟩ | ⟨hw,rfl⟩
   ·rw [wantL_run hg.env hw,if_pos rfl]
    exact .inl (hv.wp hg (dstOk_spec (hd i o ho)) fun a' w' hr' => wpAny_of_anyL hd hQ fuel _ _ a' w' hr' hK)
   ·rw [wantL_run hg.env hw,if_neg (by simp)]
    exact wpAny_of_anyL hd hQ fuel _ _ _ _ ⟨g,hg.put (dstOk_spec (hd i o ho)) (.lit _ _)⟩ hK
theorem Rel.drew {st : LSt} {a : Act} {w : World} (h : Rel P N w0 S0 st a w) : Rel P N w0 S0 st a { w with drawn := w.drawn + 1 } := by
 obtain ⟨g,hg⟩ := h
 exact ⟨_,hg.grow (G.drew w) (fun _ _ _ => Iff.rfl) hg.wf⟩
theorem region_any {id : Nat} {l : List Oper} {Q : LSt → Prop} {Q' : Exit → Act → World → Prop} {st : LSt} {a : Act} {w : World} (hm : P.follows .mixedOrders = true) (hB : Region.lexB .any l.toArray = true) (hp : l.all (fun o => pureB o && dstOk N o.dst) = true) (hmd : l.all (bmode st.mode) = true)
  (h : Rel P N w0 S0 st a w) (hl : lops P N l.toArray l Q st) (hQ : ∀ st a w,Rel P N w0 S0 st a w → Q st → Q' .normal a w) : (Code.region id l.toArray true).wp P Q' a w := by
 simp only [Region.lexB,Bool.and_eq_true] at hB
 have hp1 : l.all pureB = true := by
  rw [List.all_eq_true] at hp ⊢
  exact fun o ho => (Bool.and_eq_true _ _ ▸ hp o ho).1
 have hp2 : ∀ (i : Nat) (o : Oper),l.toArray[i]? = some o → dstOk N o.dst = true := fun i o ho => by
  rw [List.all_eq_true] at hp
  have : o ∈ l := by rw [List.getElem?_toArray] at ho;exact List.mem_of_getElem? ho
  exact (Bool.and_eq_true _ _ ▸ hp o this).2
 refine wp_region_any hm (wpAny_of_anyL hp2 hQ _ _ _ _ _ h.drew ?_)
 have := anyL_lex (P := P) (N := N) (md := .any) (ops := l.toArray) l 0 (Array.replicate l.toArray.size false) st (by simp) (by simpa using hB.2) hp1 hmd hl
 simpa using this
end
def gop (g : Option (Bool × Bool)) (P : Program) (N : Nat) (ops : Array Oper) (o : Oper) (rest : List Oper) (K : LSt → Prop) (st : LSt) : Prop :=
 guardK g (lop P o st (lops P N ops rest K)) (lops P N ops rest K (st.put o.dst (.lit undef)))
def pop (v : Option LV) (P : Program) (N : Nat) (ops : Array Oper) (o : Oper) (rest : List Oper) (K : LSt → Prop) (st : LSt) : Prop :=
 pvK v (fun x => lops P N ops rest K (st.put o.dst x)) (callK P (callOf o.op) (evL st.env) (fun r => lops P N ops rest K (st.put o.dst (strip r))) (effK (effE P st o.dst o.op) (lops P N ops rest K)))
def cop (c : Option (FuncId × List Operand)) (P : Program) (N : Nat) (ops : Array Oper) (o : Oper) (rest : List Oper) (K : LSt → Prop) (st : LSt) : Prop :=
 callK P c (evL st.env) (fun r => lops P N ops rest K (st.put o.dst (strip r))) (effK (effE P st o.dst o.op) (lops P N ops rest K))
def eop (r : Option (Prop × LSt)) (P : Program) (N : Nat) (ops : Array Oper) (rest : List Oper) (K : LSt → Prop) : Prop := effK r (lops P N ops rest K)
section
variable (P : Program) (N : Nat) (ops : Array Oper) (o : Oper) (rest : List Oper) (K : LSt → Prop) (st : LSt)
theorem lops_nil : lops P N ops [] K st = K st := rfl
theorem lops_c : lops P N ops (o :: rest) K st = (dstOk N o.dst = true ∧ gop (guardL ops o st.env) P N ops o rest K st) := rfl
theorem gop_tt : gop (some (true,true)) P N ops o rest K st = pop (pv P (evL st.env) st.box st.arr o.op) P N ops o rest K st := by unfold gop;rw [guardK_some,wantK_tt];rfl
theorem gop_ff : gop (some (false,false)) P N ops o rest K st = pop (pv P (evL st.env) st.box st.arr o.op) P N ops o rest K st := by unfold gop;rw [guardK_some,wantK_ff];rfl
theorem gop_tf : gop (some (true,false)) P N ops o rest K st = lops P N ops rest K (st.put o.dst (.lit undef)) := by unfold gop;rw [guardK_some,wantK_tf]
theorem gop_ft : gop (some (false,true)) P N ops o rest K st = lops P N ops rest K (st.put o.dst (.lit undef)) := by unfold gop;rw [guardK_some,wantK_ft]
theorem pop_some (x : LV) : pop (some x) P N ops o rest K st = lops P N ops rest K (st.put o.dst x) := rfl
theorem pop_none : pop none P N ops o rest K st = cop (callOf o.op) P N ops o rest K st := rfl
theorem cop_none : cop none P N ops o rest K st = eop (effE P st o.dst o.op) P N ops rest K := rfl
theorem eop_some (c : Prop) (st' : LSt) : eop (some (c,st')) P N ops rest K = (c ∧ lops P N ops rest K st') := rfl
variable {P N ops o rest K st}
theorem cop_intro {f : FuncId} {args : List Operand} {args' : List LV} {r : LV} (ha : (args.map (evL st.env)).map strip = args') (hc : LCalls P f args' r) (hk : lops P N ops rest K (st.put o.dst (strip r))) : cop (some (f,args)) P N ops o rest K st := by
 subst ha;exact ⟨r,hc,hk⟩
theorem gop_t {b : Bool} (h1 : b = true → gop (some (true,true)) P N ops o rest K st) (h2 : b = false → gop (some (true,false)) P N ops o rest K st) : gop (some (true,b)) P N ops o rest K st := by
 cases b
 ·exact h2 rfl
 ·exact h1 rfl
theorem gop_f {b : Bool} (h1 : b = true → gop (some (false,true)) P N ops o rest K st) (h2 : b = false → gop (some (false,false)) P N ops o rest K st) : gop (some (false,b)) P N ops o rest K st := by
 cases b
 ·exact h2 rfl
 ·exact h1 rfl
end
end Go.Proofs.YteamlijbkldlhaaGreatDoor
end
section
set_option linter.unusedSimpArgs false
set_option linter.unusedVariables false
namespace Go.Proofs.YteamlijbkldlhaaGreatDoor
open Go.RowKit

section
variable {P : Program} {N : Nat} {w0 : World} {S0 : Ent}
structure MonoX (P : Program) (d : Nat) (w : World) (g : Gh) (w' : World) (g' : Gh) : Prop where
 cell : ∀ b i v,g.S b i → w.cell? ⟨b,i,none⟩ = some v → g'.S b i ∧ w'.cell? ⟨b,i,none⟩ = some v
 ptr : ∀ k b,k ≠ d → g.own k = some b → g'.own k = some b
 own : ∀ q e n v,q ≠ d → g'.row q = some (e,n) → (∀ e',g.row q = some (e',n) → OwnAt P w g q e' n v) → OwnAt P w' g' q e n v
 shape : ∀ k b cur e,k ≠ d → g.own k = some b → w.heap[b]? = some (.cells cur e (0,0)) → ∃ cur',w'.heap[b]? = some (.cells cur' e (0,0)) ∧ cur'.size = cur.size
theorem rep_cells {w w' : World} {g g' : Gh} {b off : Nat} {cs : List LV} (h : CellsAt P w g b off cs) (m : ∀ b i v,g.S b i → w.cell? ⟨b,i,none⟩ = some v → g'.S b i ∧ w'.cell? ⟨b,i,none⟩ = some v) : CellsAt P w' g' b off cs := by
 obtain ⟨val,h1,h2⟩ := h
 exact ⟨val,fun i hi => m _ _ _ (h1 i hi).1 (h1 i hi).2,fun i c hc => (h2 i c hc).mono (.bare m)⟩
theorem rep_no {w w' : World} {g g' : Gh} {n : Nat} {cs : List LV} {t : Tok} {v : Value} (h : Rep P w g (.sl n cs t) v) (m : ∀ b i v,g.S b i → w.cell? ⟨b,i,none⟩ = some v → g'.S b i ∧ w'.cell? ⟨b,i,none⟩ = some v) : Rep P w' g' (.sl n cs .no) v := by
 rcases h.inv_sl with ⟨p,cap,rfl,rfl,rfl⟩ | ⟨b,off,cap,rfl,hcap,hc⟩
 ·exact .empty _ _ _
 ·exact (rep_cells hc m).rep_sl hcap
section
variable {w w' : World} {g g' : Gh} {v : Value} {d : Nat}
theorem Rep.forgetX1 {x : LV} (h : Rep P w g x v) (m : MonoX P d w g w' g') : Rep P w' g' (Go.Proofs.YteamlijbkldlhaaGreatDoor.forget1 d x) v := by
 cases x with
 | lit u => rw [h.inv_lit];exact .lit _ _
 | sl n cs t =>
  cases t with
  | no => exact rep_no h m.cell
  | nil => obtain ⟨rfl,rfl,rfl⟩ := h.inv_nil;exact .nil _
  | row q =>
   simp only [Go.Proofs.YteamlijbkldlhaaGreatDoor.forget1]
   split
   ·exact rep_no h m.cell
   ·rename_i hq
    exact .row _ _ _ _ _ (rep_no h m.cell) fun e he => m.own q e n v hq he h.inv_row.2
  | sub q o =>
   obtain ⟨rfl,h1,b,o',cap,hv,ho,hb⟩ := h.inv_sub
   simp only [Go.Proofs.YteamlijbkldlhaaGreatDoor.forget1]
   split
   ·exact rep_no h1 m.cell
   ·rename_i hq
    exact .sub _ _ _ _ _ (rep_no h1 m.cell) b o' cap hv ho (m.ptr _ _ hq hb)
 | ref cs =>
  obtain ⟨b,off,rfl,hc⟩ := h.inv_ref
  exact (rep_cells hc m.cell).rep_ref
 | ptr d' off =>
  obtain ⟨b,rfl,hb⟩ := h.inv_ptr
  simp only [Go.Proofs.YteamlijbkldlhaaGreatDoor.forget1]
  split
  ·exact .any _ _
  ·rename_i hq
   exact .ptr _ _ _ _ (m.ptr _ _ hq hb)
 | aptr d' off =>
  obtain ⟨b,rfl,hb⟩ := h.inv_aptr
  simp only [Go.Proofs.YteamlijbkldlhaaGreatDoor.forget1]
  split
  ·exact .any _ _
  ·rename_i hq
   exact .aptr _ _ _ _ (m.ptr _ _ hq hb)
 | bsl d' n e =>
  simp only [Go.Proofs.YteamlijbkldlhaaGreatDoor.forget1]
  split
  ·exact .any _ _
  ·rename_i hq
   exact .bsl _ _ _ _ _ (h.inv_bsl.mono (fun b hb => m.ptr _ _ hq hb) (fun b cur e hb hc => m.shape _ _ _ _ hq hb hc))
 | _ => exact .any _ _
theorem Rep.forgetX2 {x : LV} (h : Rep P w g x v) (m : MonoX P d w g w' g') : Rep P w' g' (Go.Proofs.YteamlijbkldlhaaGreatDoor.forget2 d x) v := by
 cases x with
 | agg cs =>
  obtain ⟨vs,rfl,hl,h⟩ := h.inv_agg
  refine .agg _ _ _ (by simpa using hl) fun i c u hc hu => ?_
  obtain ⟨c',hc',rfl⟩ := map_get hc
  exact (h i c' u hc' hu).forgetX1 m
 | lit u => exact h.forgetX1 m
 | sl n cs t => exact h.forgetX1 m
 | ref cs => exact h.forgetX1 m
 | ptr d' off => exact h.forgetX1 m
 | aptr d' off => exact h.forgetX1 m
 | bsl d' n e => exact h.forgetX1 m
 | _ => exact .any _ _
theorem Rep.forgetX {x : LV} (h : Rep P w g x v) (m : MonoX P d w g w' g') : Rep P w' g' (Go.Proofs.YteamlijbkldlhaaGreatDoor.forget d x) v := by
 cases x with
 | tup cs =>
  obtain ⟨vs,rfl,hl,h⟩ := h.inv_tup
  refine .tup _ _ _ (by simpa using hl) fun i c u hc hu => ?_
  obtain ⟨c',hc',rfl⟩ := map_get hc
  exact (h i c' u hc' hu).forgetX2 m
 | agg cs => exact h.forgetX2 m
 | lit u => exact h.forgetX1 m
 | sl n cs t => exact h.forgetX1 m
 | ref cs => exact h.forgetX1 m
 | ptr d' off => exact h.forgetX1 m
 | aptr d' off => exact h.forgetX1 m
 | bsl d' n e => exact h.forgetX1 m
 | _ => exact .any _ _
end
theorem RelG.change {g g' : Gh} {st st' : LSt} {a : Act} {w w' : World} {d : Nat} (h : RelG P N w0 S0 g st a w) (m : MonoX P d w g w' g') (hb : BelowH w0.heap.size S0.H w w')
  (hs : ∀ b i,b < w0.heap.size → ¬ S0.H b → (g'.S b i ↔ g.S b i)) (hwf : ∀ b i,g'.S b i → b < w'.heap.size) (hown : ∀ k b,g'.own k = some b → (w0.heap.size ≤ b ∨ S0.H b) ∧ b < w'.heap.size)
  (hinj : ∀ k k' b,g'.own k = some b → g'.own k' = some b → k = k') (hbx : ∀ k b,k ≠ d → g.own k = some b → (∀ i,¬ g.S b i) → w'.heap[b]? = w.heap[b]? ∧ ∀ i,¬ g'.S b i)
  (henv : st'.env = (st.forget d).env) (hbox : ∀ k cs,k ≠ d → st'.box k = some cs → (st.forget d).box k = some cs) (hboxd : ∀ cs,st'.box d = some cs → BoxAt P w' g' d cs ∧ st'.row d = none)
  (hrow : g'.row = st'.row) (hrk : ∀ k,k ≠ d → st'.row k = st.row k) (harr : ∀ k cs,k ≠ d → st'.arr k = some cs → st.arr k = some cs) (harrd : ∀ cs,st'.arr d = some cs → ArrAt P w' g' d cs ∧ st'.row d = none ∧ st'.box d = none) (hval : st'.val = st.val := by rfl) : RelG P N w0 S0 g' st' a w' := by
 refine ⟨h.defers,h.size,fun k => ?_,h.below.trans hb,fun b i hbb hH => (hs b i hbb hH).trans (h.s0 b i hbb hH),hwf,hown,hinj,fun k cs hk => ?_,hrow,fun k cs hk => ?_,fun k cs hk => ?_,fun k cs hk => ?_,by rw [hval];exact h.ex,fun b i v hs hc => m.cell b i v (h.keep b i v hs hc).1 (h.keep b i v hs hc).2⟩
 ·rw [henv];exact (h.env k).forgetX m
 ·by_cases hkd : k = d
  ·subst hkd;exact (hboxd cs hk).1
  ·have hb' := hbox k cs hkd hk
   simp only [LSt.forget,if_neg hkd] at hb'
   obtain ⟨cs',hcs',rfl⟩ := Option.map_eq_some_iff.1 hb'
   obtain ⟨b,vals,T,h1,h2,h3,h4,h5⟩ := h.box k cs' hcs'
   obtain ⟨e1,e2⟩ := hbx k b hkd h1 h5
   refine ⟨b,vals,T,m.ptr k b hkd h1,by rw [e1];exact h2,by simpa using h3,fun i c u hc hu => ?_,e2⟩
   obtain ⟨c',hc',rfl⟩ := map_get hc
   exact (h4 i c' u hc' hu).forgetX1 m
 ·by_cases hkd : k = d
  ·subst hkd;exact (hboxd cs hk).2
  ·have hb' := hbox k cs hkd hk
   simp only [LSt.forget,if_neg hkd] at hb'
   obtain ⟨cs',hcs',_⟩ := Option.map_eq_some_iff.1 hb'
   rw [hrk k hkd];exact h.dis k cs' hcs'
 ·by_cases hkd : k = d
  ·subst hkd;exact (harrd cs hk).1
  ·rcases h.arr k cs (harr k cs hkd hk) with h0 | ⟨b,vals,T,h1,h2,h3,h4,h5⟩
   ·exact .inl h0
   ·obtain ⟨e1,e2⟩ := hbx k b hkd h1 h5
    exact .inr ⟨b,vals,T,m.ptr k b hkd h1,by rw [e1];exact h2,h3,fun i c u hc hu => (h4 i c u hc hu).mono (.bare m.cell),e2⟩
 ·by_cases hkd : k = d
  ·subst hkd;exact (harrd cs hk).2
  ·have hd := h.dia k cs (harr k cs hkd hk)
   refine ⟨by rw [hrk k hkd];exact hd.1,?_⟩
   cases hb' : st'.box k with
   | none => rfl
   | some cs' =>
    have := hbox k cs' hkd hb'
    simp only [LSt.forget,if_neg hkd,hd.2] at this
    cases this
theorem oneL_rep {w : World} {g : Gh} {x : LV} {v : Value} (h : Rep P w g x v) (ho : oneL x = true) : v.oneCell' = true := by
 cases x with
 | any => cases ho
 | tup => cases ho
 | agg ds => cases ho
 | lit u => have := h.inv_lit;subst this;cases v <;> first | rfl | cases ho
 | sl n ds t => rcases h.inv_sl with ⟨p,cap,rfl,_,_⟩ | ⟨b,off,cap,rfl,_,_⟩ <;> rfl
 | ref ds => obtain ⟨b,off,rfl,_⟩ := h.inv_ref;rfl
 | ptr d o => obtain ⟨b,rfl,_⟩ := h.inv_ptr;rfl
 | aptr d o => obtain ⟨b,rfl,_⟩ := h.inv_aptr;rfl
 | bsl d n e => rcases h.inv_bsl with ⟨rfl,_⟩ | ⟨b,cap,cur,_,rfl,_⟩ <;> rfl

theorem RelG.newBox {g : Gh} {st : LSt} {a : Act} {w : World} {d : Nat} {cs : List LV} {v : Value} {T : TypeId} (h : RelG P N w0 S0 g st a w) (hd : d < N) (hl : v.cells.size = cs.length) (hr : ∀ (i : Nat) (c : LV) (u : Value),cs[i]? = some c → v.cells[i]? = some u → Rep P w g c u) :
  Rel P N w0 S0 (((st.forget d).setBox d (cs.map (forget1 d))).put (some d) (.ptr d 0)) (a.put (some d) (.pointer (some ⟨w.heap.size,0,none⟩))) (w.alloc (.cells v.cells T)) := by
 let g' : Gh := ⟨g.S,upd g.own d (some w.heap.size),upd g.row d none⟩
 have hsz : w0.heap.size ≤ w.heap.size := h.below.size
 have hws : (w.alloc (.cells v.cells T)).heap.size = w.heap.size + 1 := by simp
 have m : MonoX P d w g (w.alloc (.cells v.cells T)) g' := by
  refine ⟨fun b i u hs hc => ⟨hs,?_⟩,fun k b hk hb => by simp only [g',upd_ne _ _ hk];exact hb,fun q e n u hq he ho => ?_,fun k b cur e hk hb hc => ⟨cur,by rw [Below.heap_alloc w _ b (h.own k b hb).2];exact hc,rfl⟩⟩
  ·rw [World.cell?_of_block (w := w) (a := ⟨b,i,none⟩) (Below.heap_alloc w _ b (h.wf b i hs))];exact hc
  ·simp only [g',upd_ne _ _ hq] at he
   rcases ho e he with ho | ⟨b,cap,cur,h1,h2,h3,h4⟩
   ·exact .inl ho
   ·exact .inr ⟨b,cap,cur,by simp only [g',upd_ne _ _ hq];exact h1,h2,by rw [Below.heap_alloc w _ b (h.own q b h1).2];exact h3,h4⟩
 have hB : BoxAt P (w.alloc (.cells v.cells T)) g' d (cs.map (forget1 d)) := by
  refine ⟨w.heap.size,v.cells,T,upd_eq _ _ _,heap_alloc_new w _,by simpa using hl,fun i c u hc hu => ?_,fun i hs => ?_⟩
  ·obtain ⟨c',hc',rfl⟩ := map_get hc
   exact (hr i c' u hc' hu).forgetX1 m
  ·have := h.wf _ _ hs;omega
 refine ⟨g',RelG.put (h.change (st' := (st.forget d).setBox d (cs.map (forget1 d))) m ⟨rfl,rfl,rfl,by omega,fun k hk _ => Below.heap_alloc w _ k (by omega)⟩ (fun _ _ _ _ => Iff.rfl) (fun b i hs => by have := h.wf b i hs;omega) ?_ ?_ ?_ rfl ?_ ?_ (by show upd g.row d none = upd st.row d none;rw [h.row]) ?_ ?_ ?_) (fun e he => by cases he;exact hd) (.ptr _ _ _ _ (upd_eq _ _ _))⟩
 ·intro k b hk
  simp only [g',upd] at hk
  split at hk
  ·cases hk;exact ⟨.inl hsz,by omega⟩
  ·have := h.own k b hk;exact ⟨this.1,by omega⟩
 ·intro k k' b hk hk'
  simp only [g',upd] at hk hk'
  split at hk <;> split at hk'
  ·omega
  ·cases hk;have := (h.own k' _ hk').2;omega
  ·cases hk';have := (h.own k _ hk).2;omega
  ·exact h.inj k k' b hk hk'
 ·intro k b hk hb hn
  exact ⟨Below.heap_alloc w _ b (h.own k b hb).2,hn⟩
 ·intro k cs' hk hb
  simpa only [LSt.setBox,upd_ne _ _ hk] using hb
 ·intro cs' hb
  simp only [LSt.setBox,upd_eq] at hb
  cases hb
  exact ⟨hB,upd_eq _ _ _⟩
 ·intro k hk
  exact upd_ne _ _ hk
 ·intro k cs' hk hb
  simpa only [LSt.setBox,LSt.forget,upd_ne _ _ hk] using hb
 ·intro cs' hb
  simp [LSt.setBox,LSt.forget,upd] at hb
theorem RelG.storeBox {g : Gh} {st : LSt} {a : Act} {w : World} {d o : Nat} {cs xs : List LV} {vs : List Value} {b : Nat} {vals : Array Value} {T : TypeId} (h : RelG P N w0 S0 g st a w) (hbox : st.box d = some cs) (hown : g.own d = some b) (hh : w.heap[b]? = some (.cells vals T (0,0)))
  (hl : vs.length = xs.length) (hle : o + xs.length ≤ cs.length) (hr : ∀ (i : Nat) (c : LV) (u : Value),xs[i]? = some c → vs[i]? = some u → Rep P w g c u) :
  RelG P N w0 S0 g (st.setBox d (cs.take o ++ xs ++ cs.drop (o + xs.length))) a (w.setRow b (vals.toList.take o ++ vs ++ vals.toList.drop (o + vs.length)).toArray) := by
 obtain ⟨b',vals',T',h1,h2,h3,h4,h5⟩ := h.box d cs hbox
 rw [hown] at h1;cases h1
 rw [hh] at h2;cases h2
 have hrd : g.row d = none := by rw [h.row];exact h.dis d cs hbox
 have m : Mono P w g (w.setRow b (vals.toList.take o ++ vs ++ vals.toList.drop (o + vs.length)).toArray) g := by
  refine ⟨fun b' i u hs hc => ⟨hs,?_⟩,fun _ _ h => h,fun q e n u hq ho => ?_,fun k b' cur e hk hc => ?_⟩
  ·rw [cell_setRow_other _ _ _ _ (fun e => h5 i (by simpa [← e] using hs))];exact hc
  ·rcases ho e hq with ho | ⟨b',cap,cur,k1,k2,k3,k4⟩
   ·exact .inl ho
   ·have hne : b' ≠ b := by
     rintro rfl
     have := h.inj q d b' k1 hown
     subst this
     rw [hrd] at hq;cases hq
    exact .inr ⟨b',cap,cur,k1,k2,by rw [setRow_other _ _ _ _ hne];exact k3,k4⟩
  ·by_cases hbb : b' = b
   ·subst hbb
    rw [hh] at hc
    cases hc
    refine ⟨_,setRow_heap _ _ _ _ _ _ hh,?_⟩
    have h3' : vals.toList.length = cs.length := by simpa using h3
    simp only [List.size_toArray,List.length_append,List.length_take,List.length_drop,Array.length_toList] at *;omega
   ·exact ⟨cur,by rw [setRow_other _ _ _ _ hbb];exact hc,rfl⟩
 have hb0 := (h.own d b hown).1
 refine ⟨h.defers,h.size,fun k => (h.env k).mono m,(h.below.trans ⟨rfl,rfl,rfl,by simp,fun k hk hH => setRow_other _ _ _ _ (fun e => hb0.elim (by omega) (fun hx => hH (e ▸ hx)))⟩),h.s0,fun b' i hs => by simpa using h.wf b' i hs,fun k b' hk => by simpa using h.own k b' hk,h.inj,fun k cs' hk => ?_,h.row,fun k cs' hk => ?_,fun k cs' hk => ?_,fun k cs' hk => ?_,h.ex,fun b i v hs hc => m.cell b i v (h.keep b i v hs hc).1 (h.keep b i v hs hc).2⟩
 ·by_cases hkd : k = d
  ·subst hkd
   simp only [LSt.setBox,upd_eq] at hk
   cases hk
   have hsz : vals.toList.length = cs.length := by simpa using h3
   refine ⟨b,_,T,hown,setRow_heap _ _ _ _ _ _ hh,?_,fun i c u hc hu => ?_,h5⟩
   ·simp only [List.size_toArray,List.length_append,List.length_take,List.length_drop];omega
   ·rw [List.getElem?_toArray] at hu
    have ht : (vals.toList.take o).length = (cs.take o).length := by simp [h3]
    have hto : (cs.take o).length = o := by rw [List.length_take];omega
    refine Rep.mono ?_ m
    by_cases i1 : i < o
    ·rw [List.append_assoc,List.getElem?_append_left (by omega),List.getElem?_take_of_lt i1] at hc
     rw [List.append_assoc,List.getElem?_append_left (by omega),List.getElem?_take_of_lt i1] at hu
     exact h4 i c u hc (by rw [← Array.getElem?_toList];exact hu)
    ·by_cases i2 : i < o + xs.length
     ·rw [List.append_assoc,List.getElem?_append_right (by omega),List.getElem?_append_left (by omega)] at hc
      rw [List.append_assoc,List.getElem?_append_right (by omega),List.getElem?_append_left (by omega)] at hu
      rw [hto] at hc
      rw [ht,hto] at hu
      exact hr (i - o) c u hc hu
     ·rw [List.append_assoc,List.getElem?_append_right (by omega),List.getElem?_append_right (by omega),List.getElem?_drop] at hc
      rw [List.append_assoc,List.getElem?_append_right (by omega),List.getElem?_append_right (by omega),List.getElem?_drop] at hu
      rw [hto] at hc
      rw [ht,hto,hl] at hu
      rw [show o + xs.length + (i - o - xs.length) = i by omega] at hc hu
      exact h4 i c u hc (by rw [← Array.getElem?_toList];exact hu)
  ·simp only [LSt.setBox,upd_ne _ _ hkd] at hk
   refine (h.box k cs' hk).mono m (fun b' hb' => ?_) (fun _ _ _ h => h)
   exact setRow_other _ _ _ _ (fun e => hkd (by subst e;exact h.inj k d _ hb' hown))
 ·by_cases hkd : k = d
  ·subst hkd;exact h.dis k cs hbox
  ·simp only [LSt.setBox,upd_ne _ _ hkd] at hk;exact h.dis k cs' hk
 ·have hkd : k ≠ d := by
   rintro rfl
   have := (h.dia k cs' hk).2
   rw [hbox] at this;cases this
  refine (h.arr k cs' hk).mono m (fun b' hb' => ?_) (fun _ _ _ h => h)
  exact setRow_other _ _ _ _ (fun e => hkd (by subst e;exact h.inj k d _ hb' hown))
 ·have hkd : k ≠ d := by
   rintro rfl
   have := (h.dia k cs' hk).2
   rw [hbox] at this;cases this
  have := h.dia k cs' hk
  exact ⟨this.1,by simp only [LSt.setBox,upd_ne _ _ hkd];exact this.2⟩
theorem RelG.storeArr {g : Gh} {st : LSt} {a : Act} {w : World} {d o : Nat} {cs xs : List LV} {vs : List Value} {b : Nat} {vals : Array Value} {T : TypeId} (h : RelG P N w0 S0 g st a w) (harr : st.arr d = some cs) (hown : g.own d = some b) (hh : w.heap[b]? = some (.cells vals T (0,0)))
  (h3 : cs.length ≤ vals.size) (h4 : ∀ (i : Nat) (c : LV) (u : Value),cs[i]? = some c → vals[i]? = some u → Rep P w g.bare c u) (h5 : ∀ i,¬ g.S b i)
  (hl : vs.length = xs.length) (hle : o + xs.length ≤ cs.length) (hr : ∀ (i : Nat) (c : LV) (u : Value),xs[i]? = some c → vs[i]? = some u → Rep P w g.bare c u) :
  RelG P N w0 S0 g (st.setArr d (cs.take o ++ xs ++ cs.drop (o + xs.length))) a (w.setRow b (vals.toList.take o ++ vs ++ vals.toList.drop (o + vs.length)).toArray) := by
 have hrd : g.row d = none := by rw [h.row];exact (h.dia d cs harr).1
 have hsz : (vals.toList.take o ++ vs ++ vals.toList.drop (o + vs.length)).toArray.size = vals.size := by
  simp only [List.size_toArray,List.length_append,List.length_take,List.length_drop,Array.length_toList];omega
 have m : Mono P w g (w.setRow b (vals.toList.take o ++ vs ++ vals.toList.drop (o + vs.length)).toArray) g := by
  refine ⟨fun b' i u hs hc => ⟨hs,?_⟩,fun _ _ h => h,fun q e n u hq ho => ?_,fun k b' cur e hk hc => ?_⟩
  ·rw [cell_setRow_other _ _ _ _ (fun e => h5 i (by simpa [← e] using hs))];exact hc
  ·rcases ho e hq with ho | ⟨b',cap,cur,k1,k2,k3,k4⟩
   ·exact .inl ho
   ·have hne : b' ≠ b := by
     rintro rfl
     have := h.inj q d b' k1 hown
     subst this
     rw [hrd] at hq;cases hq
    exact .inr ⟨b',cap,cur,k1,k2,by rw [setRow_other _ _ _ _ hne];exact k3,k4⟩
  ·by_cases hbb : b' = b
   ·subst hbb
    rw [hh] at hc
    cases hc
    exact ⟨_,setRow_heap _ _ _ _ _ _ hh,hsz⟩
   ·exact ⟨cur,by rw [setRow_other _ _ _ _ hbb];exact hc,rfl⟩
 have hb0 := (h.own d b hown).1
 refine ⟨h.defers,h.size,fun k => (h.env k).mono m,(h.below.trans ⟨rfl,rfl,rfl,by simp,fun k hk hH => setRow_other _ _ _ _ (fun e => hb0.elim (by omega) (fun hx => hH (e ▸ hx)))⟩),h.s0,fun b' i hs => by simpa using h.wf b' i hs,fun k b' hk => by simpa using h.own k b' hk,h.inj,fun k cs' hk => ?_,h.row,h.dis,fun k cs' hk => ?_,fun k cs' hk => ?_,h.ex,fun b i v hs hc => m.cell b i v (h.keep b i v hs hc).1 (h.keep b i v hs hc).2⟩
 ·have hkd : k ≠ d := by
   rintro rfl
   have := (h.dia k cs harr).2
   rw [show st.box k = some cs' from hk] at this;cases this
  refine (h.box k cs' hk).mono m (fun b' hb' => ?_) (fun _ _ _ h => h)
  exact setRow_other _ _ _ _ (fun e => hkd (by subst e;exact h.inj k d _ hb' hown))
 ·by_cases hkd : k = d
  ·subst hkd
   simp only [LSt.setArr,upd_eq] at hk
   cases hk
   refine .inr ⟨b,_,T,hown,setRow_heap _ _ _ _ _ _ hh,?_,fun i c u hc hu => ?_,h5⟩
   ·rw [hsz];simp only [List.length_append,List.length_take,List.length_drop];omega
   ·rw [List.getElem?_toArray] at hu
    have hto : (cs.take o).length = o := by rw [List.length_take];omega
    have ht : (vals.toList.take o).length = o := by rw [List.length_take,Array.length_toList];omega
    refine Rep.mono ?_ (.bare m.cell)
    by_cases i1 : i < o
    ·rw [List.append_assoc,List.getElem?_append_left (by omega),List.getElem?_take_of_lt i1] at hc hu
     exact h4 i c u hc (by rw [← Array.getElem?_toList];exact hu)
    ·by_cases i2 : i < o + xs.length
     ·rw [List.append_assoc,List.getElem?_append_right (by omega),List.getElem?_append_left (by omega)] at hc hu
      rw [hto] at hc
      rw [ht] at hu
      exact hr (i - o) c u hc hu
     ·rw [List.append_assoc,List.getElem?_append_right (by omega),List.getElem?_append_right (by omega),List.getElem?_drop] at hc hu
      rw [hto] at hc
      rw [ht,hl] at hu
      rw [show o + xs.length + (i - o - xs.length) = i by omega] at hc hu
      exact h4 i c u hc (by rw [← Array.getElem?_toList];exact hu)
  ·simp only [LSt.setArr,upd_ne _ _ hkd] at hk
   refine (h.arr k cs' hk).mono m (fun b' hb' => ?_) (fun _ _ _ h => h)
   exact setRow_other _ _ _ _ (fun e => hkd (by subst e;exact h.inj k d _ hb' hown))
 ·by_cases hkd : k = d
  ·subst hkd;exact h.dia k cs harr
  ·simp only [LSt.setArr,upd_ne _ _ hkd] at hk;exact h.dia k cs' hk
def Grew (w w' : World) (o : Obj) : Prop := w'.os = w.os ∧ w'.tape = w.tape ∧ w'.output = w.output ∧ w'.heap = w.heap.push o
def Appended (P : Program) (e : TypeId) (k n m : Nat) (v : Value) (news : List Value) (w : World) (v' : Value) (w' : World) : Prop :=
 (v' = v ∧ w' = w ∧ m = 0) ∨
 (∃ b cap cur,v = .slice (some ⟨b,0,none⟩) n cap ∧ w.heap[b]? = some (.cells cur e (0,0)) ∧ n + m ≤ cap ∧ v' = .slice (some ⟨b,0,none⟩) (n + m) cap ∧ w' = w.setRow b (cur.toList.take (n * k) ++ news ++ cur.toList.drop (n * k + news.length)).toArray) ∨
 (∃ cap olds rest,v' = .slice (some ⟨w.heap.size,0,none⟩) (n + m) cap ∧ n + m ≤ cap ∧ cap ≤ maxLen ∧ olds.length = n * k ∧ (olds ++ news ++ rest).length = cap * k ∧ Grew w w' (.cells (olds ++ news ++ rest).toArray e) ∧
  (v = .slice none 0 0 ∨ ∃ b c cur,v = .slice (some ⟨b,0,none⟩) n c ∧ w.heap[b]? = some (.cells cur e (0,0)) ∧ olds = cur.toList.take (n * k)))
theorem append_run {g : Gh} {w : World} {t e ty : TypeId} {i : TypeInfo} {z v : Value} {q n m : Nat} {src : Option Addr} {c : Nat} {news : List Value} (ht : P.underlying t = some (.slice e)) (hi : P.info? e = some i) (hz : i.zero = some z) (hzs : z.cells.size = i.size)
  (hk : 0 < i.size) (hv : OwnAt P w g q e n v) (hl : news.length = m * i.size) (hnews : ∀ (j : Nat) u,news[j]? = some u → ∃ a,src = some a ∧ w.cell? (a.add j) = some u) (h1 : ∀ u ∈ news,u.oneCell' = true) (h63 : n + m ≤ maxLen) (hby : (n + m) * i.bytes ≤ 140737488355328) :
  ∃ v' w',(Builtin.append_ #[t,t] ty #[v,.slice src m c]).run P w = .ok v' w' ∧ Appended P e i.size n m v news w v' w' ∧ (m = 0 → v' = v) := by
 have hsz : sizeL P e = i.size := by simp [sizeL,hi]
 have hle : n + m ≤ 9223372036854775807 := by unfold maxLen at h63;omega
 by_cases hm : m = 0
 ·subst hm
  refine ⟨v,w,?_,.inl ⟨rfl,rfl,rfl⟩,fun _ => rfl⟩
  have hf : (Builtin.firstCells i.size 0 (.slice src 0 c)).run P w = .ok #[] w := by
   cases src <;> simp [Builtin.firstCells,loadCells,loadCellsFrom]
  rcases hv with ⟨rfl,rfl⟩ | ⟨b,cap,cur,h2,rfl,h3,h4,h5,h6,h7⟩
  ·simp [Builtin.append_,run_underlying ht,Go.sizeOf,typeInfo,hi,Builtin.lenOf,hf]
  ·simp [Builtin.append_,run_underlying ht,Go.sizeOf,typeInfo,hi,Builtin.lenOf,hf,h4,storeCells]
 ·have hpos : 0 < news.length := by rw [hl];exact Nat.mul_pos (by omega) hk
  obtain ⟨a,rfl,_⟩ := hnews 0 news[0] (List.getElem?_eq_getElem hpos)
  have hn' : ∀ (j : Nat) u,news[j]? = some u → w.cell? (a.add j) = some u := fun j u hu => by
   obtain ⟨a',ha',h⟩ := hnews j u hu;cases ha';exact h
  rcases hv with ⟨rfl,rfl⟩ | ⟨b,cap,cur,h2,rfl,h3,h4,h5,h6,h7⟩
  ·rw [Nat.zero_add] at *
   have hr := run_append_nil (P := P) w t ty e i z ht hi hz a m c news hl hn' (by omega) (by omega) (by omega)
   refine ⟨_,_,hr,.inr (.inr ⟨grownCap w m 0 e,[],(Builtin.zeroCells z.cells (grownCap w m 0 e - m)).toList,by rw [Nat.zero_add],by rw [Nat.zero_add];exact grownCap_ge _ _ _ _,grownCap_le_maxLen _ _ _ _ h63,by simp,?_,?_,.inl rfl⟩),fun h => absurd h hm⟩
   ·have := grownCap_ge w m 0 e
    simp only [List.nil_append,List.length_append,hl,Array.length_toList,size_zeroCells,hzs,← Nat.add_mul]
    congr 1;omega
   ·refine ⟨rfl,rfl,rfl,?_⟩
    show w.heap.push _ = _
    congr 2
    apply Array.ext'
    simp
  ·rw [hsz] at h6 h7
   by_cases hroom : n + m ≤ cap
   ·have hfit : n * i.size + news.length ≤ cur.size := by rw [hl,h6,← Nat.add_mul];exact Nat.mul_le_mul_right _ hroom
    have hr := run_append_room (P := P) w t ty e i ht hi b n cap cur h3 a m c news hl hn' h1 hroom hfit
    exact ⟨_,_,hr,.inr (.inl ⟨b,cap,cur,rfl,h3,hroom,rfl,rfl⟩),fun h => absurd h hm⟩
   ·have hlo : (cur.toList.take (n * i.size)).length = n * i.size := by
     rw [List.length_take,Array.length_toList,h6];exact Nat.min_eq_left (Nat.mul_le_mul_right _ h4)
    have holds : ∀ (j : Nat) u,(cur.toList.take (n * i.size))[j]? = some u → w.cell? ((⟨b,0,none⟩ : Addr).add j) = some u := fun j u hu => by
     rw [Addr.add_lit,Nat.zero_add,cell_of_heap h3]
     rw [List.getElem?_take] at hu
     split at hu
     ·simpa using hu
     ·cases hu
    have hr := run_append_grow (P := P) w t ty e i z ht hi hz ⟨b,0,none⟩ n cap _ hlo holds a m c news hl hn' (by omega) (by omega) (growslice_fits (by omega) hby)
    refine ⟨_,_,hr,.inr (.inr ⟨grownCap w (n + m) cap e,cur.toList.take (n * i.size),(Builtin.zeroCells z.cells (grownCap w (n + m) cap e - (n + m))).toList,rfl,grownCap_ge _ _ _ _,grownCap_le_maxLen _ _ _ _ h63,hlo,?_,?_,.inr ⟨b,cap,cur,rfl,h3,rfl⟩⟩),fun h => absurd h hm⟩
    ·have := grownCap_ge w (n + m) cap e
     simp only [List.length_append,hl,hlo,Array.length_toList,size_zeroCells,hzs,← Nat.add_mul]
     congr 1;omega
    ·refine ⟨rfl,rfl,rfl,?_⟩
     show w.heap.push _ = _
     congr 2
     apply Array.ext'
     simp
theorem append_run_str {g : Gh} {w : World} {t u e ty : TypeId} {i : TypeInfo} {z v : Value} {q n : Nat} {s : ByteArray} (ht : P.underlying t = some (.slice e)) (hu : P.underlying u = some .string) (hi : P.info? e = some i) (hz : i.zero = some z) (hzs : z.cells.size = i.size)
  (hk : i.size = 1) (hv : OwnAt P w g q e n v) (h63 : n + s.size ≤ maxLen) (hby : (n + s.size) * i.bytes ≤ 140737488355328) :
  ∃ v' w',(Builtin.append_ #[t,u] ty #[v,.string s]).run P w = .ok v' w' ∧ Appended P e i.size n s.size v (Lib.strCells s) w v' w' ∧ (s.size = 0 → v' = v) := by
 have hsz : sizeL P e = i.size := by simp [sizeL,hi]
 have hle : n + s.size ≤ 9223372036854775807 := by unfold maxLen at h63;omega
 have hl : (Lib.strCells s).length = s.size * i.size := by rw [Lib.strCells_length,hk,Nat.mul_one]
 have hf := Lib.run_firstCells_string (P := P) w i.size s
 by_cases hm : s.size = 0
 ·have h0 : Lib.strCells s = [] := List.eq_nil_of_length_eq_zero (by rw [Lib.strCells_length];exact hm)
  rw [h0] at hf
  refine ⟨v,w,?_,.inl ⟨rfl,rfl,hm⟩,fun _ => rfl⟩
  rw [hm] at hf
  rcases hv with ⟨rfl,rfl⟩ | ⟨b,cap,cur,h2,rfl,h3,h4,h5,h6,h7⟩
  ·simp [Builtin.append_,run_underlying ht,run_underlying hu,Go.sizeOf,typeInfo,hi,Builtin.lenOf,hf,hm]
  ·simp [Builtin.append_,run_underlying ht,run_underlying hu,Go.sizeOf,typeInfo,hi,Builtin.lenOf,hf,h4,storeCells,hm]
 ·rcases hv with ⟨rfl,rfl⟩ | ⟨b,cap,cur,h2,rfl,h3,h4,h5,h6,h7⟩
  ·rw [Nat.zero_add] at *
   have hr := run_append_nil_string (P := P) w t u ty e i z ht hu hi hz s (by omega) (by omega) (by omega)
   refine ⟨_,_,hr,.inr (.inr ⟨grownCap w s.size 0 e,[],(Builtin.zeroCells z.cells (grownCap w s.size 0 e - s.size)).toList,by rw [Nat.zero_add],by rw [Nat.zero_add];exact grownCap_ge _ _ _ _,grownCap_le_maxLen _ _ _ _ h63,by simp,?_,?_,.inl rfl⟩),fun h => absurd h hm⟩
   ·have := grownCap_ge w s.size 0 e
    simp only [List.nil_append,List.length_append,hl,Array.length_toList,size_zeroCells,hzs,← Nat.add_mul]
    congr 1;omega
   ·refine ⟨rfl,rfl,rfl,?_⟩
    show w.heap.push _ = _
    congr 2
    apply Array.ext'
    simp [Lib.strCells]
  ·rw [hsz] at h6 h7
   by_cases hroom : n + s.size ≤ cap
   ·have hfit : n + s.size ≤ cur.size := by rw [h6,hk,Nat.mul_one];exact hroom
    have hr := Lib.run_append_room_string (P := P) w t u ty e i ht hu hi hk b n cap cur h3 s hroom hfit
    refine ⟨_,_,hr,.inr (.inl ⟨b,cap,cur,rfl,h3,hroom,rfl,?_⟩),fun h => absurd h hm⟩
    rw [hk,Nat.mul_one,Lib.strCells_length]
   ·have hlo : (cur.toList.take (n * i.size)).length = n * i.size := by
     rw [List.length_take,Array.length_toList,h6];exact Nat.min_eq_left (Nat.mul_le_mul_right _ h4)
    have holds : ∀ (j : Nat) u,(cur.toList.take (n * i.size))[j]? = some u → w.cell? ((⟨b,0,none⟩ : Addr).add j) = some u := fun j u hu => by
     rw [Addr.add_lit,Nat.zero_add,cell_of_heap h3]
     rw [List.getElem?_take] at hu
     split at hu
     ·simpa using hu
     ·cases hu
    have hr := Lib.run_append_grow_string (P := P) w t u ty e i z ht hu hi hz ⟨b,0,none⟩ n cap _ hlo holds s (by omega) (by omega) (growslice_fits (by omega) hby)
    refine ⟨_,_,hr,.inr (.inr ⟨grownCap w (n + s.size) cap e,cur.toList.take (n * i.size),(Builtin.zeroCells z.cells (grownCap w (n + s.size) cap e - (n + s.size))).toList,rfl,grownCap_ge _ _ _ _,grownCap_le_maxLen _ _ _ _ h63,hlo,?_,?_,.inr ⟨b,cap,cur,rfl,h3,rfl⟩⟩),fun h => absurd h hm⟩
    ·have := grownCap_ge w (n + s.size) cap e
     simp only [List.length_append,hl,hlo,Array.length_toList,size_zeroCells,hzs,← Nat.add_mul]
     congr 1;omega
    ·refine ⟨rfl,rfl,rfl,?_⟩
     show w.heap.push _ = _
     congr 2
     apply Array.ext'
     simp
end
end Go.Proofs.YteamlijbkldlhaaGreatDoor
end
section
set_option linter.unusedSimpArgs false
set_option linter.unusedVariables false
namespace Go.Proofs.YteamlijbkldlhaaGreatDoor
open Go.RowKit

section
variable {P : Program} {N : Nat} {w0 : World} {S0 : Ent}
theorem own_vals {w : World} {g : Gh} {n k cap b : Nat} {cs : List LV} {cur : Array Value} {e : TypeId} (h : Rep P w g (.sl n cs .no) (.slice (some ⟨b,0,none⟩) n cap)) (hh : w.heap[b]? = some (.cells cur e (0,0))) (hcs : cs.length = n * k) (hle : n * k ≤ cur.size) :
  Vals P w g cs (cur.toList.take (n * k)) := by
 have hl2 : (cur.toList.take (n * k)).length = n * k := by rw [List.length_take,Array.length_toList];omega
 refine ⟨by rw [hl2];exact hcs,fun i c u hc hu => ?_⟩
 rcases h.inv_no with ⟨p,cap',hv,rfl,rfl⟩ | ⟨b',off',cap',hv,_,val,h1,h2⟩
 ·cases hc
 ·cases hv
  have hi := (List.getElem?_eq_some_iff.1 hc).1
  have h3 := (h1 i hi).2
  rw [Nat.zero_add,cell_of_heap hh] at h3
  rw [List.getElem?_take_of_lt (by omega),Array.getElem?_toList,h3] at hu
  cases hu
  exact h2 i c hc
theorem RelG.append {g : Gh} {st : LSt} {a : Act} {w w' : World} {id d n m : Nat} {e : TypeId} {v v' : Value} {cs ds : List LV} {news : List Value} (h : RelG P N w0 S0 g st a w) (hd : d < N) (hk : 0 < sizeL P e) (hv : Rep P w g (.sl n cs .no) v) (ho : OwnAt P w g id e n v)
  (hcs : cs.length = n * sizeL P e) (hds : news.length = m * sizeL P e) (hn : Vals P w g ds news) (hA : Appended P e (sizeL P e) n m v news w v' w') :
  Rel P N w0 S0 (((st.forget id).setRow id e (n + m)).put (some d) (.sl (n + m) (cs ++ ds) (.row id))) (a.put (some d) v') w' := by
 have hsz : w0.heap.size ≤ w.heap.size := h.below.size
 have hrow : ∀ r,upd g.row id r = upd st.row id r := fun r => by rw [h.row]
 have fin : ∀ (g' : Gh),MonoX P id w g w' g' → BelowH w0.heap.size S0.H w w' → (∀ b i,b < w0.heap.size → ¬ S0.H b → (g'.S b i ↔ g.S b i)) → (∀ b i,g'.S b i → b < w'.heap.size) → (∀ k b,g'.own k = some b → (w0.heap.size ≤ b ∨ S0.H b) ∧ b < w'.heap.size) →
   (∀ k k' b,g'.own k = some b → g'.own k' = some b → k = k') → (∀ k b,k ≠ id → g.own k = some b → (∀ i,¬ g.S b i) → w'.heap[b]? = w.heap[b]? ∧ ∀ i,¬ g'.S b i) → g'.row = upd g.row id (some (e,n + m)) →
   Rep P w' g' (.sl (n + m) (cs ++ ds) .no) v' → OwnAt P w' g' id e (n + m) v' →
   Rel P N w0 S0 (((st.forget id).setRow id e (n + m)).put (some d) (.sl (n + m) (cs ++ ds) (.row id))) (a.put (some d) v') w' := by
  intro g' m1 hb hs hwf hown hinj hbx hr hrep hown'
  refine ⟨g',RelG.put (h.change (st' := (st.forget id).setRow id e (n + m)) m1 hb hs hwf hown hinj hbx rfl ?_ ?_ ?_ ?_ ?_ ?_) (fun _ he => by cases he;exact hd) (.row _ _ _ _ _ hrep fun e' he' => ?_)⟩
  ·intro k cs' hk' hb';exact hb'
  ·intro cs' hb'
   simp [LSt.setRow,LSt.forget] at hb'
  ·rw [hr,h.row]
   funext k
   simp only [LSt.setRow,LSt.forget,upd]
   split <;> rfl
  ·intro k hk'
   simp only [LSt.setRow,LSt.forget,upd_ne _ _ hk']
  ·intro k cs' hk' hb'
   simpa only [LSt.setRow,LSt.forget,upd_ne _ _ hk'] using hb'
  ·intro cs' hb'
   simp [LSt.setRow,LSt.forget,upd] at hb'
  ·rw [hr,upd_eq] at he'
   cases he'
   exact hown'
 rcases hA with ⟨hv',hw',rfl⟩ | ⟨b,cap,cur,rfl,hh,hcap,rfl,rfl⟩ | ⟨cap,olds,rest,rfl,hcap,hmax,hol,hlen,⟨ho1,ho2,ho3,hheap⟩,hor⟩
 ·
  subst hv'
  subst hw'
  have hds0 : ds = [] := List.eq_nil_of_length_eq_zero (by rw [hn.1,hds];simp)
  subst hds0
  have hself : ∀ q e' n' u,q ≠ id → upd g.row id (some (e,n + 0)) q = some (e',n') → (∀ e'',g.row q = some (e'',n') → OwnAt P w' g q e'' n' u) → OwnAt P w' ⟨g.S,g.own,upd g.row id (some (e,n + 0))⟩ q e' n' u := by
   intro q e' n' u hq he' hx
   rw [upd_ne _ _ hq] at he'
   exact hx e' he'
  refine fin ⟨g.S,g.own,upd g.row id (some (e,n + 0))⟩ ⟨fun b i u hs hc => ⟨hs,hc⟩,fun k b _ hb => hb,hself,fun k b cur e _ _ hc => ⟨cur,hc,rfl⟩⟩ (.refl _ _ _) (fun _ _ _ _ => Iff.rfl) h.wf h.own h.inj (fun k b _ _ hn => ⟨rfl,hn⟩) rfl ?_ ?_
  ·rw [List.append_nil,Nat.add_zero];exact hv.no_of rfl
  ·rw [Nat.add_zero];exact ho
 ·
  rcases ho with ⟨hx,_⟩ | ⟨b',cap',cur',hb',hv',hh',hle,hmax,hcsz,hfree⟩
  ·cases hx
  cases hv'
  rw [hh] at hh';cases hh'
  have hb0 := (h.own id b hb').1
  have hbw := (h.own id b hb').2
  have hnk : n * sizeL P e ≤ cur.size := by rw [hcsz];exact Nat.mul_le_mul_right _ hle
  have hfit : n * sizeL P e + news.length ≤ cur.size := by rw [hds,hcsz,← Nat.add_mul];exact Nat.mul_le_mul_right _ hcap
  let S' : Nat → Nat → Prop := fun b1 i => g.S b1 i ∨ (b1 = b ∧ i < (n + m) * sizeL P e)
  let row := (cur.toList.take (n * sizeL P e) ++ news ++ cur.toList.drop (n * sizeL P e + news.length)).toArray
  have hlo : (cur.toList.take (n * sizeL P e)).length = n * sizeL P e := by rw [List.length_take,Array.length_toList];omega
  have hrs : row.size = cur.size := by
   simp only [row,List.size_toArray,List.length_append,hlo,List.length_drop,Array.length_toList];omega
  have hnew := setRow_heap w b cur row e (0,0) hh
  have hcell : ∀ b1 i u,g.S b1 i → w.cell? ⟨b1,i,none⟩ = some u → S' b1 i ∧ (w.setRow b row).cell? ⟨b1,i,none⟩ = some u := by
   intro b1 i u hs hc
   refine ⟨.inl hs,?_⟩
   by_cases hb1 : b1 = b
   ·subst hb1
    have hi : i < n * sizeL P e := by
     rcases Nat.lt_or_ge i (n * sizeL P e) with h1 | h1
     ·exact h1
     ·exact absurd hs (hfree i h1)
    rw [cell_of_heap hh] at hc
    rw [cell_of_heap hnew]
    simp only [row,List.getElem?_toArray]
    rw [List.append_assoc,List.getElem?_append_left (by omega),List.getElem?_take_of_lt hi,Array.getElem?_toList]
    exact hc
   ·rw [cell_setRow_other _ _ _ _ hb1];exact hc
  refine fin ⟨S',g.own,upd g.row id (some (e,n + m))⟩ ⟨hcell,fun k b _ hb => hb,?_,fun k b1 cur1 e1 hk1 hb1 hc1 => ⟨cur1,by rw [setRow_other _ _ _ _ (fun e => hk1 (by subst e;exact h.inj k id b1 hb1 hb'))];exact hc1,rfl⟩⟩ ⟨rfl,rfl,rfl,by simp,fun k hk' hH => setRow_other _ _ _ _ (fun e => hb0.elim (by omega) (fun hx => hH (e ▸ hx)))⟩ ?_ ?_ ?_ h.inj ?_ rfl ?_ ?_
  ·intro q e' n' u hq he' hx
   simp only [upd_ne _ _ hq] at he'
   rcases hx e' he' with hx | ⟨b1,cap1,cur1,k1,k2,k3,k4,k5,k6,k7⟩
   ·exact .inl hx
   ·have hne : b1 ≠ b := fun e => hq (by subst e;exact h.inj q id b1 k1 hb')
    refine .inr ⟨b1,cap1,cur1,k1,k2,by rw [setRow_other _ _ _ _ hne];exact k3,k4,k5,k6,fun i hi hs => ?_⟩
    rcases hs with hs | ⟨hs,_⟩
    ·exact k7 i hi hs
    ·exact hne hs
  ·intro b1 i hb1 hH
   constructor
   ·rintro (hs | ⟨hs,_⟩)
    ·exact hs
    ·exact (hb0.elim (fun h => by omega) (fun hx => hH (hs ▸ hx)) : False).elim
   ·exact fun hs => .inl hs
  ·rintro b1 i (hs | ⟨hs,_⟩)
   ·simpa using h.wf b1 i hs
   ·simpa [hs] using hbw
  ·intro k b1 hk';simpa using h.own k b1 hk'
  ·intro k b1 hk' hb1 hno
   have hne : b1 ≠ b := fun e => hk' (by subst e;exact h.inj k id b1 hb1 hb')
   refine ⟨setRow_other _ _ _ _ hne,fun i hs => ?_⟩
   rcases hs with hs | ⟨hs,_⟩
   ·exact hno i hs
   ·exact hne hs
  ·have hvals := ((own_vals hv hh hcs hnk).append hn).mono (g' := ⟨S',g.own,upd g.row id (some (e,n + m))⟩) hcell
   refine CellsAt.rep_sl ?_ hcap
   refine hvals.cells (g := ⟨S',g.own,upd g.row id (some (e,n + m))⟩) (off := 0) fun i u hu => ?_
   have hi : i < n * sizeL P e + news.length := by
    have := (List.getElem?_eq_some_iff.1 hu).1
    rw [List.length_append,hlo] at this;exact this
   refine ⟨.inr ⟨rfl,by rw [Nat.zero_add,Nat.add_mul,← hds];exact hi⟩,?_⟩
   rw [Nat.zero_add,cell_of_heap hnew]
   simp only [row,List.getElem?_toArray]
   rw [List.getElem?_append_left (by rw [List.length_append,hlo];exact hi)]
   exact hu
  ·refine .inr ⟨b,cap,row,hb',rfl,hnew,hcap,hmax,by rw [hrs];exact hcsz,fun i hi hs => ?_⟩
   rcases hs with hs | ⟨_,hs⟩
   ·exact hfree i (Nat.le_trans (Nat.mul_le_mul_right _ (Nat.le_add_right _ _)) hi) hs
   ·omega
 ·
  let S' : Nat → Nat → Prop := fun b1 i => g.S b1 i ∨ (b1 = w.heap.size ∧ i < (n + m) * sizeL P e)
  have hws : w'.heap.size = w.heap.size + 1 := by rw [hheap];simp
  have hold : ∀ b1,b1 < w.heap.size → w'.heap[b1]? = w.heap[b1]? := fun b1 hb1 => by rw [hheap,Array.getElem?_push,if_neg (by omega)]
  have hnew : w'.heap[w.heap.size]? = some (Obj.cells (olds ++ news ++ rest).toArray e) := by rw [hheap];simp
  have hcell : ∀ b1 i u,g.S b1 i → w.cell? ⟨b1,i,none⟩ = some u → S' b1 i ∧ w'.cell? ⟨b1,i,none⟩ = some u := by
   intro b1 i u hs hc
   refine ⟨.inl hs,?_⟩
   rw [World.cell?_of_block (w := w) (a := ⟨b1,i,none⟩) (hold b1 (h.wf b1 i hs))];exact hc
  have hvo : Vals P w g cs olds := by
   rcases hor with rfl | ⟨b,c,cur,rfl,hh,rfl⟩
   ·rcases hv.inv_no with ⟨p,cap',hv',rfl,rfl⟩ | ⟨b',off',cap',hv',_⟩
    ·rw [Nat.zero_mul] at hol
     rw [List.eq_nil_of_length_eq_zero hol]
     exact ⟨rfl,fun i c u hc => by cases hc⟩
    ·cases hv'
   ·have : n * sizeL P e ≤ cur.size := by rw [List.length_take,Array.length_toList] at hol;omega
    exact own_vals hv hh hcs this
  refine fin ⟨S',upd g.own id (some w.heap.size),upd g.row id (some (e,n + m))⟩ ⟨hcell,fun k b hk' hb => by simp only [upd_ne _ _ hk'];exact hb,?_,fun k b1 cur1 e1 hk1 hb1 hc1 => ⟨cur1,by rw [hold b1 (h.own k b1 hb1).2];exact hc1,rfl⟩⟩ ⟨ho1,ho2,ho3,by omega,fun k hk' _ => hold k (by omega)⟩ ?_ ?_ ?_ ?_ ?_ rfl ?_ ?_
  ·intro q e' n' u hq he' hx
   simp only [upd_ne _ _ hq] at he'
   rcases hx e' he' with hx | ⟨b1,cap1,cur1,k1,k2,k3,k4,k5,k6,k7⟩
   ·exact .inl hx
   ·have hb1 := (h.own q b1 k1).2
    refine .inr ⟨b1,cap1,cur1,by simp only [upd_ne _ _ hq];exact k1,k2,by rw [hold b1 hb1];exact k3,k4,k5,k6,fun i hi hs => ?_⟩
    rcases hs with hs | ⟨hs,_⟩
    ·exact k7 i hi hs
    ·omega
  ·intro b1 i hb1 hH
   constructor
   ·rintro (hs | ⟨hs,_⟩)
    ·exact hs
    ·omega
   ·exact fun hs => .inl hs
  ·rintro b1 i (hs | ⟨hs,_⟩)
   ·have := h.wf b1 i hs;omega
   ·omega
  ·intro k b1 hk'
   simp only [upd] at hk'
   split at hk'
   ·cases hk';exact ⟨.inl hsz,by omega⟩
   ·have := h.own k b1 hk';exact ⟨this.1,by omega⟩
  ·intro k k' b1 hk' hk''
   simp only [upd] at hk' hk''
   split at hk' <;> split at hk''
   ·omega
   ·cases hk';have := (h.own k' _ hk'').2;omega
   ·cases hk'';have := (h.own k _ hk').2;omega
   ·exact h.inj k k' b1 hk' hk''
  ·intro k b1 hk' hb1 hno
   have hlt := (h.own k b1 hb1).2
   refine ⟨hold b1 hlt,fun i hs => ?_⟩
   rcases hs with hs | ⟨hs,_⟩
   ·exact hno i hs
   ·omega
  ·have hvals := (hvo.append hn).mono (g' := ⟨S',upd g.own id (some w.heap.size),upd g.row id (some (e,n + m))⟩) hcell
   refine CellsAt.rep_sl ?_ hcap
   refine hvals.cells (g := ⟨S',upd g.own id (some w.heap.size),upd g.row id (some (e,n + m))⟩) (off := 0) fun i u hu => ?_
   have hi : i < (n + m) * sizeL P e := by
    have := (List.getElem?_eq_some_iff.1 hu).1
    rw [List.length_append,hol,hds,← Nat.add_mul] at this;exact this
   refine ⟨.inr ⟨rfl,by rw [Nat.zero_add];exact hi⟩,?_⟩
   rw [Nat.zero_add,cell_of_heap hnew,List.getElem?_toArray,List.getElem?_append_left (by rw [List.length_append,hol,hds,← Nat.add_mul];exact hi)]
   exact hu
  ·refine .inr ⟨w.heap.size,cap,_,upd_eq _ _ _,rfl,hnew,hcap,hmax,by simpa using hlen,fun i hi hs => ?_⟩
   rcases hs with hs | ⟨_,hs⟩
   ·have := h.wf _ _ hs;omega
   ·omega
theorem arr_vals {w : World} {g : Gh} {d n k b cap : Nat} {cs : List LV} {cur : Array Value} {e : TypeId} (h : ArrAt P w g d cs) (hb : g.own d = some b) (hh : w.heap[b]? = some (.cells cur e (0,0))) (hcs : cs.length = n * k) (hle : n ≤ cap) (hsz : cur.size = cap * k) :
  Vals P w g cs (cur.toList.take (n * k)) := by
 have hnk : n * k ≤ cur.size := by rw [hsz];exact Nat.mul_le_mul_right _ hle
 have hl2 : (cur.toList.take (n*k)).length = n*k := by rw [List.length_take,Array.length_toList];omega
 refine ⟨by rw [hl2];exact hcs,fun i c u hc hu => ?_⟩
 rcases h with rfl | ⟨b',vals,T,h1,h2,h3,h4,h5⟩
 ·cases hc
 ·rw [hb] at h1;cases h1
  rw [hh] at h2;cases h2
  have hi := (List.getElem?_eq_some_iff.1 hc).1
  rw [List.getElem?_take_of_lt (by omega),Array.getElem?_toList] at hu
  exact h4 i c u hc hu
theorem RelG.appendB' {g : Gh} {st : LSt} {a : Act} {w w' : World} {id d n m : Nat} {e : TypeId} {v v' : Value} {cs ds : List LV} {news : List Value} (h : RelG P N w0 S0 g st a w) (hd : d < N) (hk : 0 < sizeL P e) (ho : (v = .slice none 0 0 ∧ n = 0) ∨ ∃ b cap cur,g.own id = some b ∧ v = .slice (some ⟨b,0,none⟩) n cap ∧ w.heap[b]? = some (.cells cur e (0,0)) ∧ n ≤ cap ∧ cap ≤ maxLen ∧ cur.size = cap * sizeL P e) (hfree : ∀ b,g.own id = some b → v ≠ .slice none 0 0 → ∀ i,¬ g.S b i)
  (hcs : cs.length = n * sizeL P e) (ha : v = .slice none 0 0 → cs = []) (hav : v ≠ .slice none 0 0 → ArrAt P w g id cs) (hds : news.length = m * sizeL P e) (hn : Vals P w g ds news) (hA : Appended P e (sizeL P e) n m v news w v' w') (hp : (v' = v ∧ BslAt P w g id n e v) ∨ 0 < n + m) :
  Rel P N w0 S0 (((st.forget id).setArr id (cs ++ ds)).put (some d) (.bsl id (n + m) e)) (a.put (some d) v') w' := by
 have hsz : w0.heap.size ≤ w.heap.size := h.below.size
 have fin : ∀ (g' : Gh),MonoX P id w g w' g' → BelowH w0.heap.size S0.H w w' → (∀ b i,b < w0.heap.size → ¬ S0.H b → (g'.S b i ↔ g.S b i)) → (∀ b i,g'.S b i → b < w'.heap.size) → (∀ k b,g'.own k = some b → (w0.heap.size ≤ b ∨ S0.H b) ∧ b < w'.heap.size) →
   (∀ k k' b,g'.own k = some b → g'.own k' = some b → k = k') → (∀ k b,k ≠ id → g.own k = some b → (∀ i,¬ g.S b i) → w'.heap[b]? = w.heap[b]? ∧ ∀ i,¬ g'.S b i) → g'.row = upd g.row id none →
   ArrAt P w' g' id (cs ++ ds) → BslAt P w' g' id (n + m) e v' →
   Rel P N w0 S0 (((st.forget id).setArr id (cs ++ ds)).put (some d) (.bsl id (n + m) e)) (a.put (some d) v') w' := by
  intro g' m1 hb hs hwf hown hinj hbx hr harr hbsl
  refine ⟨g',RelG.put (h.change (st' := (st.forget id).setArr id (cs ++ ds)) m1 hb hs hwf hown hinj hbx rfl ?_ ?_ ?_ ?_ ?_ ?_) (fun _ he => by cases he;exact hd) (.bsl _ _ _ _ _ hbsl)⟩
  ·intro k cs' hk' hb';exact hb'
  ·intro cs' hb'
   simp [LSt.setArr,LSt.forget] at hb'
  ·rw [hr,h.row];rfl
  ·intro k hk'
   simp only [LSt.setArr,LSt.forget,upd_ne _ _ hk']
  ·intro k cs' hk' hb'
   simpa only [LSt.setArr,LSt.forget,upd_ne _ _ hk'] using hb'
  ·intro cs' hb'
   simp only [LSt.setArr,upd_eq] at hb'
   cases hb'
   exact ⟨harr,by simp [LSt.setArr,LSt.forget,upd],by simp [LSt.setArr,LSt.forget]⟩
 have hself : ∀ q e' n' u,q ≠ id → upd g.row id none q = some (e',n') → (∀ e'',g.row q = some (e'',n') → OwnAt P w g q e'' n' u) → g.row q = some (e',n') ∧ OwnAt P w g q e' n' u := by
  intro q e' n' u hq he' hx
  rw [upd_ne _ _ hq] at he'
  exact ⟨he',hx e' he'⟩
 rcases hA with ⟨hv',hw',rfl⟩ | ⟨b,cap,cur,rfl,hh,hcap,rfl,rfl⟩ | ⟨cap,olds,rest,rfl,hcap,hmax,hol,hlen,⟨ho1,ho2,ho3,hheap⟩,hor⟩
 ·subst hv'
  subst hw'
  have hds0 : ds = [] := List.eq_nil_of_length_eq_zero (by rw [hn.1,hds];simp)
  subst hds0
  refine fin ⟨g.S,g.own,upd g.row id none⟩ ⟨fun b i u hs hc => ⟨hs,hc⟩,fun k b _ hb => hb,fun q e' n' u hq he hx => (hself q e' n' u hq he hx).2,fun k b cur e _ _ hc => ⟨cur,hc,rfl⟩⟩ (.refl _ _ _) (fun _ _ _ _ => Iff.rfl) h.wf h.own h.inj (fun k b _ _ hn => ⟨rfl,hn⟩) rfl ?_ ?_
  ·rw [List.append_nil]
   by_cases hv : v' = .slice none 0 0
   ·exact .inl (ha hv)
   ·exact hav hv
  ·rw [Nat.add_zero]
   rcases hp with hp | hp
   ·exact hp.2
   ·rcases ho with ⟨_,h0⟩ | ⟨b,cap,cur,k1,k2,k3,k4,k5,k6⟩
    ·omega
    ·exact .inr ⟨b,cap,cur,k1,k2,k3,k4,k5,k6,by omega⟩
 ·rcases ho with ⟨hx,_⟩ | ⟨b',cap',cur',hb',hv',hh',hle,hmax,hcsz⟩
  ·cases hx
  have hn0 : 0 < n + m := by
   rcases hp with ⟨_,hx⟩ | hp
   ·rcases hx with ⟨hx,_⟩ | ⟨_,_,_,_,_,_,_,_,_,k⟩
    ·cases hx
    ·omega
   ·exact hp
  cases hv'
  rw [hh] at hh';cases hh'
  have hb0 := (h.own id b hb').1
  have hbw := (h.own id b hb').2
  have hns := hfree b hb' (by simp)
  have hnk : n * sizeL P e ≤ cur.size := by rw [hcsz];exact Nat.mul_le_mul_right _ hle
  have hfit : n * sizeL P e + news.length ≤ cur.size := by rw [hds,hcsz,← Nat.add_mul];exact Nat.mul_le_mul_right _ hcap
  have hlo : (cur.toList.take (n * sizeL P e)).length = n * sizeL P e := by rw [List.length_take,Array.length_toList];omega
  have hrs : (cur.toList.take (n * sizeL P e) ++ news ++ cur.toList.drop (n * sizeL P e + news.length)).toArray.size = cur.size := by
   simp only [List.size_toArray,List.length_append,hlo,List.length_drop,Array.length_toList];omega
  have hnew := setRow_heap w b cur (cur.toList.take (n * sizeL P e) ++ news ++ cur.toList.drop (n * sizeL P e + news.length)).toArray e (0,0) hh
  have hcell : ∀ b1 i u,g.S b1 i → w.cell? ⟨b1,i,none⟩ = some u → g.S b1 i ∧ (w.setRow b (cur.toList.take (n * sizeL P e) ++ news ++ cur.toList.drop (n * sizeL P e + news.length)).toArray).cell? ⟨b1,i,none⟩ = some u := by
   intro b1 i u hs hc
   refine ⟨hs,?_⟩
   rw [cell_setRow_other _ _ _ _ (fun e => hns i (by simpa [← e] using hs))];exact hc
  refine fin ⟨g.S,g.own,upd g.row id none⟩ ⟨hcell,fun k b _ hb => hb,?_,fun k b1 cur1 e1 hk1 hb1 hc1 => ⟨cur1,by rw [setRow_other _ _ _ _ (fun e => hk1 (by subst e;exact h.inj k id b1 hb1 hb'))];exact hc1,rfl⟩⟩ ⟨rfl,rfl,rfl,by simp,fun k hk' hH => setRow_other _ _ _ _ (fun e => hb0.elim (by omega) (fun hx => hH (e ▸ hx)))⟩ (fun _ _ _ _ => Iff.rfl) (fun b1 i hs => by simpa using h.wf b1 i hs) (fun k b1 hk' => by simpa using h.own k b1 hk') h.inj ?_ rfl ?_ ?_
  ·intro q e' n' u hq he' hx
   rcases (hself q e' n' u hq he' hx).2 with hx | ⟨b1,cap1,cur1,k1,k2,k3,k4⟩
   ·exact .inl hx
   ·have hne : b1 ≠ b := fun e => hq (by subst e;exact h.inj q id b1 k1 hb')
    exact .inr ⟨b1,cap1,cur1,k1,k2,by rw [setRow_other _ _ _ _ hne];exact k3,k4⟩
  ·intro k b1 hk' hb1 hno
   have hne : b1 ≠ b := fun e => hk' (by subst e;exact h.inj k id b1 hb1 hb')
   exact ⟨setRow_other _ _ _ _ hne,hno⟩
  ·have hvals := ((arr_vals (hav (by simp)) hb' hh hcs hle hcsz).append hn).mono (g' := ⟨g.S,g.own,upd g.row id none⟩) hcell
   refine .inr ⟨b,_,e,hb',hnew,?_,fun i c u hc hu => ?_,hns⟩
   ·rw [hrs,List.length_append,hcs,hn.1];exact hfit
   ·have hi : i < n * sizeL P e + news.length := by
     have := (List.getElem?_eq_some_iff.1 hc).1
     rw [List.length_append,hcs,hn.1] at this;exact this
    refine hvals.2 i c u hc ?_
    rw [List.getElem?_toArray,List.getElem?_append_left (by rw [List.length_append,hlo];exact hi)] at hu
    exact hu
  ·exact .inr ⟨b,cap,_,hb',rfl,hnew,hcap,hmax,by rw [hrs];exact hcsz,by omega⟩
 ·have hws : w'.heap.size = w.heap.size + 1 := by rw [hheap];simp
  have hold : ∀ b1,b1 < w.heap.size → w'.heap[b1]? = w.heap[b1]? := fun b1 hb1 => by rw [hheap,Array.getElem?_push,if_neg (by omega)]
  have hnew : w'.heap[w.heap.size]? = some (Obj.cells (olds ++ news ++ rest).toArray e) := by rw [hheap];simp
  have hcell : ∀ b1 i u,g.S b1 i → w.cell? ⟨b1,i,none⟩ = some u → g.S b1 i ∧ w'.cell? ⟨b1,i,none⟩ = some u := by
   intro b1 i u hs hc
   refine ⟨hs,?_⟩
   rw [World.cell?_of_block (w := w) (a := ⟨b1,i,none⟩) (hold b1 (h.wf b1 i hs))];exact hc
  have hvo : Vals P w g cs olds := by
   rcases hor with rfl | ⟨b,c,cur,rfl,hh,rfl⟩
   ·have := ha rfl
    subst this
    rw [← hcs] at hol
    rw [List.eq_nil_of_length_eq_zero hol]
    exact ⟨rfl,fun i c u hc => by cases hc⟩
   ·rcases ho with ⟨hx,_⟩ | ⟨b',cap',cur',hb',hv',hh',hle,_,hcsz⟩
    ·cases hx
    cases hv'
    rw [hh] at hh';cases hh'
    exact arr_vals (hav (by simp)) hb' hh hcs hle hcsz
  refine fin ⟨g.S,upd g.own id (some w.heap.size),upd g.row id none⟩ ⟨hcell,fun k b hk' hb => by simp only [upd_ne _ _ hk'];exact hb,?_,fun k b1 cur1 e1 hk1 hb1 hc1 => ⟨cur1,by rw [hold b1 (h.own k b1 hb1).2];exact hc1,rfl⟩⟩ ⟨ho1,ho2,ho3,by omega,fun k hk' _ => hold k (by omega)⟩ (fun _ _ _ _ => Iff.rfl) (fun b1 i hs => by have := h.wf b1 i hs;omega) ?_ ?_ ?_ rfl ?_ ?_
  ·intro q e' n' u hq he' hx
   rcases (hself q e' n' u hq he' hx).2 with hx | ⟨b1,cap1,cur1,k1,k2,k3,k4⟩
   ·exact .inl hx
   ·have hb1 := (h.own q b1 k1).2
    exact .inr ⟨b1,cap1,cur1,by simp only [upd_ne _ _ hq];exact k1,k2,by rw [hold b1 hb1];exact k3,k4⟩
  ·intro k b1 hk'
   simp only [upd] at hk'
   split at hk'
   ·cases hk';exact ⟨.inl hsz,by omega⟩
   ·have := h.own k b1 hk';exact ⟨this.1,by omega⟩
  ·intro k k' b1 hk' hk''
   simp only [upd] at hk' hk''
   split at hk' <;> split at hk''
   ·omega
   ·cases hk';have := (h.own k' _ hk'').2;omega
   ·cases hk'';have := (h.own k _ hk').2;omega
   ·exact h.inj k k' b1 hk' hk''
  ·intro k b1 hk' hb1 hno
   exact ⟨hold b1 (h.own k b1 hb1).2,hno⟩
  ·have hvals := (hvo.append hn).mono (g' := ⟨g.S,upd g.own id (some w.heap.size),upd g.row id none⟩) hcell
   refine .inr ⟨w.heap.size,_,e,upd_eq _ _ _,hnew,?_,fun i c u hc hu => ?_,fun i hs => by have := h.wf _ _ hs;omega⟩
   ·simp only [List.size_toArray,List.length_append,hvals.1];omega
   ·have hi : i < (olds ++ news).length := by rw [← hvals.1];exact (List.getElem?_eq_some_iff.1 hc).1
    refine hvals.2 i c u hc ?_
    rw [List.getElem?_toArray,List.getElem?_append_left hi] at hu
    exact hu
  ·refine .inr ⟨w.heap.size,cap,_,upd_eq _ _ _,rfl,hnew,hcap,hmax,by simpa using hlen,?_⟩
   rcases hp with ⟨hp,hx⟩ | hp
   ·rcases hx with ⟨hx,_⟩ | ⟨b',cap',cur',hb',hv',hh',hle,_,hcsz,hpos⟩
    ·rw [hx] at hp;cases hp
    ·omega
   ·exact hp
theorem RelG.appendB {g : Gh} {st : LSt} {a : Act} {w w' : World} {id d n m : Nat} {e : TypeId} {v v' : Value} {cs ds : List LV} {news : List Value} (h : RelG P N w0 S0 g st a w) (hd : d < N) (hk : 0 < sizeL P e) (ho : BslAt P w g id n e v) (hfree : ∀ b,g.own id = some b → v ≠ .slice none 0 0 → ∀ i,¬ g.S b i)
  (hcs : cs.length = n * sizeL P e) (ha : v = .slice none 0 0 → cs = []) (hav : v ≠ .slice none 0 0 → ArrAt P w g id cs) (hds : news.length = m * sizeL P e) (hn : Vals P w g ds news) (hA : Appended P e (sizeL P e) n m v news w v' w') (hp : v' = v ∨ 0 < n + m) :
  Rel P N w0 S0 (((st.forget id).setArr id (cs ++ ds)).put (some d) (.bsl id (n + m) e)) (a.put (some d) v') w' :=
 h.appendB' hd hk (ho.imp (fun x => x) fun ⟨b,cap,cur,k1,k2,k3,k4,k5,k6,_⟩ => ⟨b,cap,cur,k1,k2,k3,k4,k5,k6⟩) hfree hcs ha hav hds hn hA (hp.imp (fun e => ⟨e,ho⟩) (fun x => x))
theorem RelG.newArr {g : Gh} {st : LSt} {a : Act} {w : World} {d n : Nat} {e : TypeId} {cs : List LV} {vs : List Value} (h : RelG P N w0 S0 g st a w) (hd : d < N) (hk : 0 < sizeL P e) (hvl : vs.length = n * sizeL P e) (hv : Vals P w g cs vs) (hmax : n ≤ maxLen) (hpos : 0 < n) :
  Rel P N w0 S0 (((st.forget d).setArr d cs).put (some d) (.bsl d n e)) (a.put (some d) (.slice (some ⟨w.heap.size,0,none⟩) n n)) (w.alloc (.cells vs.toArray e)) := by
 have := h.appendB (id := d) (d := d) (n := 0) (m := n) (e := e) (v := .slice none 0 0) (v' := .slice (some ⟨w.heap.size,0,none⟩) n n) (w' := w.alloc (.cells vs.toArray e)) (cs := []) (ds := cs) (news := vs) hd hk (.inl ⟨rfl,rfl⟩) (fun _ _ h => absurd rfl h) (by simp) (fun _ => rfl) (fun h => absurd rfl h) hvl hv
  (.inr (.inr ⟨n,[],[],by rw [Nat.zero_add],by omega,hmax,by simp,by simpa using hvl,⟨rfl,rfl,rfl,by show w.heap.push _ = _;simp⟩,.inl rfl⟩)) (.inr (by omega))
 rw [Nat.zero_add,List.nil_append] at this
 exact this
theorem RelG.newRow {g : Gh} {st : LSt} {a : Act} {w : World} {d n : Nat} {e : TypeId} {cs : List LV} {vs : List Value} (h : RelG P N w0 S0 g st a w) (hd : d < N) (hk : 0 < sizeL P e) (hvl : vs.length = n * sizeL P e) (hv : Vals P w g cs vs) (hmax : n ≤ maxLen) :
  Rel P N w0 S0 (((st.forget d).setRow d e n).put (some d) (.sl n cs (.row d))) (a.put (some d) (.slice (some ⟨w.heap.size,0,none⟩) n n)) (w.alloc (.cells vs.toArray e)) := by
 have := h.append (id := d) (d := d) (n := 0) (m := n) (e := e) (v := .slice none 0 0) (v' := .slice (some ⟨w.heap.size,0,none⟩) n n) (w' := w.alloc (.cells vs.toArray e)) (cs := []) (ds := cs) (news := vs) hd hk (.empty _ _ _) (.inl ⟨rfl,rfl⟩) (by simp) hvl hv
  (.inr (.inr ⟨n,[],[],by rw [Nat.zero_add],by omega,hmax,by simp,by simpa using hvl,⟨rfl,rfl,rfl,by show w.heap.push _ = _;simp⟩,.inl rfl⟩))
 rw [Nat.zero_add,List.nil_append] at this
 exact this
end
end Go.Proofs.YteamlijbkldlhaaGreatDoor
end
section
set_option linter.unusedSimpArgs false
set_option linter.unusedVariables false
namespace Go.Proofs.YteamlijbkldlhaaGreatDoor
open Go.RowKit

section
variable {P : Program} {N : Nat} {w0 : World} {S0 : Ent}
theorem append_step {g : Gh} {a : Act} {w : World} {d : Tmp} {x y : Operand} {t e type : TypeId} {pos : String} {after : Array Edge} {guard : Option (Nat × Bool)} {K : Act → World → Prop} {Q : Exit → Act → World → Prop} {i : TypeInfo} {id n m : Nat} {ds : List LV} {src : Option Addr} {c' : Nat} {news : List Value}
  (hd : ∀ d',some d = some d' → d' < N) (hu : P.underlying t = some (.slice e)) (hi : P.info? e = some i) (hk : 0 < i.size) (hone : ds.all oneL = true) (hzo : zeroOk P e = true) (hby : (n + m) * bytesL P e ≤ 140737488355328) (hmax : n + m ≤ maxLen)
  (hown : OwnAt P w g id e n (a.eval x)) (hds : ds.length = m * i.size) (hyv : a.eval y = .slice src m c') (hnv : Vals P w g ds news) (hnc : ∀ (j : Nat) u,news[j]? = some u → ∃ ad : Addr,src = some ad ∧ w.cell? (ad.add j) = some u)
  (hK : ∀ v' w',Appended P e i.size n m (a.eval x) news w v' w' → (m = 0 → v' = a.eval x) → K (a.put (some d) v') w') :
  (⟨some d,.call ⟨.builtin .append,⟨[x,y]⟩,⟨[t,t]⟩⟩,type,pos,after,guard⟩ : Oper).wp P a w K Q := by
 obtain ⟨z,hz,hzs⟩ : ∃ z,i.zero = some z ∧ z.cells.size = i.size := by
  unfold zeroOk at hzo
  rw [hi] at hzo
  simp only at hzo
  split at hzo
  ·rename_i z hz;exact ⟨z,hz,by simpa using hzo⟩
  ·cases hzo
 rw [show bytesL P e = i.bytes by simp [bytesL,hi]] at hby
 have hnl : news.length = m * i.size := by rw [← hnv.1];exact hds
 have h1c : ∀ u ∈ news,u.oneCell' = true := by
  intro u hu
  obtain ⟨j,hj⟩ := List.getElem?_of_mem hu
  have hjl : j < ds.length := by rw [hnv.1];exact (List.getElem?_eq_some_iff.1 hj).1
  exact oneL_rep (hnv.2 j ds[j] u (List.getElem?_eq_getElem hjl) hj) (List.all_eq_true.1 hone ds[j] (List.getElem_mem hjl))
 obtain ⟨v',w',hrun,hA,hm⟩ := append_run (ty := type) (c := c') hu hi hz hzs hk hown hnl hnc h1c hmax hby
 unfold Oper.wp
 have hr' : (execOp a.eval ⟨some d,.call ⟨.builtin .append,⟨[x,y]⟩,⟨[t,t]⟩⟩,type,pos,after,guard⟩).run P w = .ok (.value v') w' := by
  have : (do pure (Next.value (← Builtin.append_ #[t,t] type #[a.eval x,.slice src m c'])) : Sem Next).run P w = .ok (.value v') w' := by rw [Sem.run_bind,hrun];rfl
  rw [← hyv] at this
  simpa [execOp,resolve,invoke,builtin] using this
 rw [hr']
 exact hK _ _ hA hm
theorem append_step_str {g : Gh} {a : Act} {w : World} {d : Tmp} {x y : Operand} {t t' e type : TypeId} {pos : String} {after : Array Edge} {guard : Option (Nat × Bool)} {K : Act → World → Prop} {Q : Exit → Act → World → Prop} {i : TypeInfo} {id n : Nat} {s : ByteArray}
  (hd : ∀ d',some d = some d' → d' < N) (hu : P.underlying t = some (.slice e)) (hs : P.underlying t' = some .string) (hi : P.info? e = some i) (hk : i.size = 1) (hzo : zeroOk P e = true) (hby : (n + s.size) * bytesL P e ≤ 140737488355328) (hmax : n + s.size ≤ maxLen)
  (hown : OwnAt P w g id e n (a.eval x)) (hyv : a.eval y = .string s)
  (hK : ∀ v' w',Appended P e i.size n s.size (a.eval x) (Lib.strCells s) w v' w' → (s.size = 0 → v' = a.eval x) → K (a.put (some d) v') w') :
  (⟨some d,.call ⟨.builtin .append,⟨[x,y]⟩,⟨[t,t']⟩⟩,type,pos,after,guard⟩ : Oper).wp P a w K Q := by
 obtain ⟨z,hz,hzs⟩ : ∃ z,i.zero = some z ∧ z.cells.size = i.size := by
  unfold zeroOk at hzo
  rw [hi] at hzo
  simp only at hzo
  split at hzo
  ·rename_i z hz;exact ⟨z,hz,by simpa using hzo⟩
  ·cases hzo
 rw [show bytesL P e = i.bytes by simp [bytesL,hi]] at hby
 obtain ⟨v',w',hrun,hA,hm⟩ := append_run_str (ty := type) hu hs hi hz hzs hk hown hmax hby
 unfold Oper.wp
 have hr' : (execOp a.eval ⟨some d,.call ⟨.builtin .append,⟨[x,y]⟩,⟨[t,t']⟩⟩,type,pos,after,guard⟩).run P w = .ok (.value v') w' := by
  have : (do pure (Next.value (← Builtin.append_ #[t,t'] type #[a.eval x,.string s])) : Sem Next).run P w = .ok (.value v') w' := by rw [Sem.run_bind,hrun];rfl
  rw [← hyv] at this
  simpa [execOp,resolve,invoke,builtin] using this
 rw [hr']
 exact hK _ _ hA hm
theorem bslK_spec {q n m : Nat} {e : TypeId} {ds : List LV} (h : bslK P m ds.length (.bsl q n e)) : ∃ i,P.info? e = some i ∧ ds.length = m * i.size ∧ 0 < i.size := by
 obtain ⟨h1,h2,h3⟩ := h
 obtain ⟨i,hi⟩ := Option.isSome_iff_exists.1 h1
 rw [show sizeL P e = i.size by simp [sizeL,hi]] at h2 h3
 exact ⟨i,hi,h2,h3⟩
theorem madeCells_list (z : Array Value) (n : Nat) (hz : 0 < z.size ∨ z.size = 0) : (madeCells z (n * z.size)).toList = (List.replicate n z.toList).flatten := by
 clear hz
 have key : ∀ n,(List.range (n * z.size)).map (fun i => z[i % z.size]!) = (List.replicate n z.toList).flatten := by
  intro n
  induction n with
  | zero => simp
  | succ n ih =>
   rw [Nat.add_mul,Nat.one_mul,List.range_add,List.map_append,ih,List.replicate_succ',List.flatten_append]
   congr 1
   simp only [List.map_map,List.flatten_cons,List.flatten_nil,List.append_nil]
   apply List.ext_getElem
   ·simp
   ·intro j h1 h2
    have hj : j < z.size := by simpa using h2
    simp only [List.getElem_map,List.getElem_range,Function.comp,Array.getElem_toList]
    rw [Nat.mul_add_mod_self_right,Nat.mod_eq_of_lt hj,getElem!_pos z j hj]
 rw [← key n]
 simp [madeCells]
theorem effE_wp {g : Gh} {st st' : LSt} {a : Act} {w : World} {o : Oper} {c : Prop} {K : Act → World → Prop} {Q : Exit → Act → World → Prop} (h : RelG P N w0 S0 g st a w) (hd : ∀ d,o.dst = some d → d < N) (he : effE P st o.dst o.op = some (c,st')) (hc : c)
  (hK : ∀ a' w',Rel P N w0 S0 st' a' w' → K a' w') : o.wp P a w K Q := by
 obtain ⟨dst,op,type,pos,after,guard⟩ := o
 simp only at he hd
 unfold effE at he
 split at he
 ·
  rename_i d e x
  cases hcx : cellsL (evL st.env x) with
  | none => rw [hcx] at he;cases he
  | some cs =>
   rw [hcx] at he
   cases he
   obtain ⟨hl,hr⟩ := cellsL_rep (h.ev x) hcx
   unfold Oper.wp
   have hrun : (execOp a.eval ⟨some d,.box e x,type,pos,after,guard⟩).run P w = .ok (.value (.pointer (some ⟨w.heap.size,0,none⟩))) (w.alloc (.cells (a.eval x).cells e)) := rfl
   rw [hrun]
   exact hK _ _ (h.newBox (hd d rfl) hl hr)
 ·rename_i d e
  cases hz : zeroL P e with
  | none => rw [hz] at he;cases he
  | some cs =>
   rw [hz] at he
   cases he
   unfold zeroL at hz
   split at hz
   ·rename_i i hi
    obtain ⟨z,hz',rfl⟩ := Option.map_eq_some_iff.1 hz
    unfold Oper.wp
    have hrun : (execOp a.eval ⟨some d,.alloc e,type,pos,after,guard⟩).run P w = .ok (.value (.pointer (some ⟨w.heap.size,0,none⟩))) (w.alloc (.cells z.cells e)) := by
     have : (zeroValue e).run P w = .ok z w := by simp [zeroValue,typeInfo,hi,hz']
     simp only [execOp,Instr.alloc,Sem.run_bind,this,Result.andThen]
     rfl
    rw [hrun]
    refine hK _ _ (h.newBox (hd d rfl) (by simp) (fun j c u hc hu => ?_))
    rw [List.getElem?_map,Option.map_eq_some_iff] at hc
    obtain ⟨u',hu',rfl⟩ := hc
    rw [Array.getElem?_toList,hu] at hu'
    cases hu'
    exact rep_toLV u
   ·cases hz
 ·
  rename_i t p x
  unfold storeE storeTo storeArr at he
  split at he
  ·rename_i d off xs hp hx
   cases hbox : st.box d with
   | some cs =>
    rw [hbox] at he
    cases he
    obtain ⟨hok,hsz,hle,hone⟩ := hc
    obtain ⟨i,hi⟩ := Option.isSome_iff_exists.1 hok
    rw [show sizeL P t = i.size by simp [sizeL,hi]] at hsz
    have hpv := h.ev p
    rw [hp] at hpv
    obtain ⟨b,hv,hb⟩ := hpv.inv_ptr
    obtain ⟨b',vals,T,h1,h2,h3,h4,h5⟩ := h.box d cs hbox
    rw [hb] at h1;cases h1
    obtain ⟨hl,hr⟩ := cellsL_rep (h.ev x) hx
    have h1c : ∀ u ∈ (a.eval x).cells.toList,u.oneCell' = true := by
     intro u hu
     obtain ⟨j,hj⟩ := List.getElem?_of_mem hu
     have hjl : j < xs.length := by
      have := (List.getElem?_eq_some_iff.1 hj).1;rw [Array.length_toList,hl] at this;exact this
     have hone' := List.all_eq_true.1 hone xs[j] (List.getElem_mem hjl)
     exact oneL_rep (hr j xs[j] u (List.getElem?_eq_getElem hjl) (by rw [← Array.getElem?_toList];exact hj)) hone'
    have hll : (a.eval x).cells.toList.length = xs.length := by rw [Array.length_toList,hl]
    have hst := run_storeCells_at P b off T (a.eval x).cells.toList 0 vals w h2 (by rw [hll,h3];omega) h1c
    simp only [Nat.add_zero] at hst
    have hrun : (execOp a.eval ⟨none,.store t p x,type,pos,after,guard⟩).run P w = .ok .skip (w.setRow b (vals.toList.take off ++ (a.eval x).cells.toList ++ vals.toList.drop (off + (a.eval x).cells.toList.length)).toArray) := by
     have hs : (Go.sizeOf t).run P w = .ok i.size w := by simp [Go.sizeOf,typeInfo,hi]
     have hne : ¬ (a.eval x).cells.size ≠ i.size := by rw [hl,hsz];simp
     simp only [execOp,Instr.storeAt,hv,Instr.sureAddr,storeVar,Sem.run_bind,Sem.run_pure,Result.andThen,hs]
     rw [if_neg hne]
     simp only [Sem.run_bind,Sem.run_pure,Result.andThen,hst]
    unfold Oper.wp
    rw [hrun]
    exact hK _ _ ⟨g,h.storeBox hbox hb h2 hll hle (fun j c u hc hu => hr j c u hc (by rw [← Array.getElem?_toList];exact hu))⟩
   | none => rw [hbox] at he;cases he
  ·rename_i d off xs hp hx
   cases hbox : st.arr d with
   | some cs =>
    rw [hbox] at he
    cases he
    obtain ⟨hok,hsz,hle,hone,hpos⟩ := hc
    obtain ⟨i,hi⟩ := Option.isSome_iff_exists.1 hok
    rw [show sizeL P t = i.size by simp [sizeL,hi]] at hsz
    have hpv := h.ev p
    rw [hp] at hpv
    obtain ⟨b,hv,hb⟩ := hpv.inv_aptr
    rcases h.arr d cs hbox with rfl | ⟨b',vals,T,h1,h2,h3,h4,h5⟩
    ·rw [List.length_nil] at hle;omega
    rw [hb] at h1;cases h1
    obtain ⟨hl,hr⟩ := cellsL_rep (h.ev x) hx
    have h1c : ∀ u ∈ (a.eval x).cells.toList,u.oneCell' = true := by
     intro u hu
     obtain ⟨j,hj⟩ := List.getElem?_of_mem hu
     have hjl : j < xs.length := by
      have := (List.getElem?_eq_some_iff.1 hj).1;rw [Array.length_toList,hl] at this;exact this
     have hone' := List.all_eq_true.1 hone xs[j] (List.getElem_mem hjl)
     exact oneL_rep (hr j xs[j] u (List.getElem?_eq_getElem hjl) (by rw [← Array.getElem?_toList];exact hj)) hone'
    have hll : (a.eval x).cells.toList.length = xs.length := by rw [Array.length_toList,hl]
    have hst := run_storeCells_at P b off T (a.eval x).cells.toList 0 vals w h2 (by rw [hll];omega) h1c
    simp only [Nat.add_zero] at hst
    have hrun : (execOp a.eval ⟨none,.store t p x,type,pos,after,guard⟩).run P w = .ok .skip (w.setRow b (vals.toList.take off ++ (a.eval x).cells.toList ++ vals.toList.drop (off + (a.eval x).cells.toList.length)).toArray) := by
     have hs : (Go.sizeOf t).run P w = .ok i.size w := by simp [Go.sizeOf,typeInfo,hi]
     have hne : ¬ (a.eval x).cells.size ≠ i.size := by rw [hl,hsz];simp
     simp only [execOp,Instr.storeAt,hv,Instr.sureAddr,storeVar,Sem.run_bind,Sem.run_pure,Result.andThen,hs]
     rw [if_neg hne]
     simp only [Sem.run_bind,Sem.run_pure,Result.andThen,hst]
    unfold Oper.wp
    rw [hrun]
    have hv' := Vals.of_cells (h.ev x) hx
    have := h.storeArr (o := off) (xs := xs.map strip1) hbox hb h2 h3 h4 h5 (by rw [hll,List.length_map]) (by rw [List.length_map];exact hle) hv'.2
    rw [List.length_map] at this
    exact hK _ _ ⟨g,this⟩
   | none => rw [hbox] at he;cases he
  ·cases he
 ·
  rename_i d t n parts
  cases hek : elemL P t with
  | none => rw [hek] at he;cases he
  | some ek =>
   obtain ⟨e,k⟩ := ek
   rw [hek] at he
   simp only [buildSliceE,buildSliceE1] at he
   cases hcs : partsL k 0 (parts.toList.map fun q => (q.1,evL st.env q.2)) with
   | none => rw [hcs] at he;cases he
   | some cs =>
    rw [hcs] at he
    cases he
    obtain ⟨hk,hpn,hbig,hzo⟩ := hc
    rw [List.length_map] at hpn
    have hbv : buildV P (evL st.env) (.buildSlice t n parts) = some ((0 < k ∧ parts.toList.length = n ∧ n * k ≤ 16777216 ∧ zeroOk P e = true),.sl n cs .no) := by simp only [buildV,hek,hcs,Option.map_some]
    cases hm : st.mode d with
    | false =>
     refine LVal.wp h (.inr (.inr ⟨_,hbv,hk,hpn,hbig,hzo⟩)) hd fun a' w' hr => hK _ _ ?_
     rw [hm,cond_false,cond_false];exact hr
    | true =>
     obtain ⟨n',cs',vs,e',hte,hx,hvals,hvl,hk',hbig',hrun⟩ := build_run (o := ⟨some d,.buildSlice t n parts,type,pos,after,guard⟩) (a := a) (fun y => h.ev y) hbv ⟨hk,hpn,hbig,hzo⟩
     cases hx
     unfold Oper.wp
     rw [hrun]
     have hee : e' = e := hte t n parts e k rfl hek
     subst hee
     refine hK _ _ ?_
     rw [hm,cond_true,cond_true]
     have hml : n ≤ maxLen := by
      have : n ≤ n * sizeL P e' := Nat.le_mul_of_pos_right n hk'
      unfold maxLen;omega
     by_cases hn : n = 0
     ·rw [if_pos hn,if_pos hn]
      exact h.newRow (hd d rfl) hk' hvl hvals hml
     ·rw [if_neg hn,if_neg hn]
      exact h.newArr (hd d rfl) hk' hvl hvals hml (by omega)
 ·
  rename_i d args ts
  obtain ⟨args⟩ := args
  obtain ⟨ts⟩ := ts
  simp only at he
  unfold appendE2 at he
  split at he
  ·rename_i x y t t'
   ·unfold appendE at he
    have src : ∀ (m : Nat) (ds : List LV),newL st.arr (evL st.env y) = some (m,ds) → (∀ q n e,evL st.env y = .bsl q n e → ∃ i,P.info? e = some i ∧ ds.length = m * i.size ∧ 0 < i.size) → ∃ src c' news,a.eval y = .slice src m c' ∧ Vals P w g ds news ∧ ∀ (j : Nat) u,news[j]? = some u → ∃ ad : Addr,src = some ad ∧ w.cell? (ad.add j) = some u := by
     intro m ds hy hsize
     have hyr := h.ev y
     unfold newL at hy
     split at hy
     ·rename_i m' ds' tk' hey
      cases hy
      rw [hey] at hyr
      rcases hyr.inv_sl with ⟨p,cap,hv,rfl,rfl⟩ | ⟨b,off,cap,hv,_,hc⟩
      ·exact ⟨p,cap,[],hv,⟨rfl,fun i c u hc => by cases hc⟩,fun j u hu => by cases hu⟩
      ·obtain ⟨vs,hvs,hcell⟩ := hc.vals
       exact ⟨_,cap,vs,hv,hvs.strip,fun j u hu => ⟨_,rfl,by rw [Addr.add_lit];exact hcell j u hu⟩⟩
     ·rename_i q n e hey
      obtain ⟨cs,harr,heq⟩ := Option.map_eq_some_iff.1 hy
      cases heq
      obtain ⟨i,hi,hds,hk⟩ := hsize q m e hey
      rw [List.length_map] at hds
      have hsl : sizeL P e = i.size := by simp [sizeL,hi]
      rw [hey] at hyr
      rcases hyr.inv_bsl with ⟨hv,rfl⟩ | ⟨b,cap,cur,h1,hv,h3,h4,h5,h6,h7⟩
      ·have : cs = [] := List.eq_nil_of_length_eq_zero (by rw [hds];simp)
       subst this
       exact ⟨none,0,[],hv,⟨rfl,fun i c u hc => by cases hc⟩,fun j u hu => by cases hu⟩
      ·refine ⟨_,cap,_,hv,(arr_vals (h.arr q cs harr) h1 h3 hds h4 (by rw [h6,hsl])).strip,fun j u hu => ⟨_,rfl,?_⟩⟩
       rw [Addr.add_lit,Nat.zero_add,cell_of_heap h3]
       rw [List.getElem?_take] at hu
       split at hu
       ·simpa using hu
       ·cases hu
     ·cases hy
    have hsrcOf : ∀ (m : Nat) (ds : List LV),newE P st.arr t t' (evL st.env y) = some (m,ds) → bslK P m ds.length (bslY t t' (evL st.env y)) → t = t' → ∀ q n e,evL st.env y = .bsl q n e → ∃ i,P.info? e = some i ∧ ds.length = m * i.size ∧ 0 < i.size := by
     intro m ds _ hbs htt q n e hq
     unfold bslY at hbs
     rw [if_pos htt,hq] at hbs
     exact bslK_spec hbs
    have stepG : ∀ {e : TypeId} {k n m : Nat} {ds : List LV} {i : TypeInfo} (id : Nat),P.underlying t = some (.slice e) → elE P t t' = some (e,k) → newE P st.arr t t' (evL st.env y) = some (m,ds) → P.info? e = some i → k = i.size → ds.length = m * i.size → 0 < i.size → ds.all oneL = true → zeroOk P e = true → (n + m) * bytesL P e ≤ 140737488355328 → n + m ≤ maxLen → bslK P m ds.length (bslY t t' (evL st.env y)) → OwnAt P w g id e n (a.eval x) →
      (∀ v' w' news,news.length = m * i.size → Vals P w g ds news → Appended P e i.size n m (a.eval x) news w v' w' → (m = 0 → v' = a.eval x) → K (a.put (some d) v') w') →
      (⟨some d,.call ⟨.builtin .append,⟨[x,y]⟩,⟨[t,t']⟩⟩,type,pos,after,guard⟩ : Oper).wp P a w K Q := by
     intro e k n m ds i id hu hek hy hi hki hds hk hone hzo hby hmax hbs hown hfin
     by_cases htt : t = t'
     ·have hy2 := hy
      unfold newE at hy2
      rw [if_pos htt] at hy2
      obtain ⟨src,c',news,hyv,hnv,hnc⟩ := src m ds hy2 (hsrcOf m ds hy hbs htt)
      subst htt
      exact append_step (hd := hd) hu hi hk hone hzo hby hmax hown hds hyv hnv hnc fun v' w' hA hm => hfin v' w' news (by rw [← hnv.1];exact hds) hnv hA hm
     ·unfold newE at hy
      rw [if_neg htt] at hy
      unfold elE at hek
      rw [if_neg htt] at hek
      have hk1 : k = 1 := by
       unfold one1 at hek
       split at hek
       ·split at hek
        ·rename_i h1;cases hek;exact h1
        ·cases hek
       ·cases hek
      unfold strNew at hy
      split at hy
      ·rename_i s hs
       have hst : P.underlying t' = some .string := by
        cases hb : isStrT P t' with
        | false => rw [hb] at hy;cases hy
        | true =>
         unfold isStrT at hb
         split at hb
         ·rename_i h1;exact h1
         ·cases hb
       have hb : isStrT P t' = true := by unfold isStrT;rw [hst]
       rw [hb] at hy
       cases hy
       have hyv := h.ev y
       rw [hs] at hyv
       have hyv := hyv.inv_lit
       have hsz : s.size = s.data.toList.length := by simp
       rw [← hsz] at hby hmax
       refine append_step_str (hd := hd) hu hst hi (by omega) hzo hby hmax hown hyv fun v' w' hA hm => ?_
       rw [hsz] at hA hm
       refine hfin v' w' (Lib.strCells s) ?_ ⟨by simp [bL,Lib.strCells],fun j c u hc hu => ?_⟩ hA hm
       ·rw [Lib.strCells_length,hsz,← hki,hk1,Nat.mul_one]
       ·simp only [bL,List.getElem?_map,Option.map_eq_some_iff] at hc
        obtain ⟨bb,hb1,rfl⟩ := hc
        simp only [Lib.strCells,List.getElem?_map,hb1,Option.map_some,Option.some.injEq] at hu
        rw [← hu];exact .lit _ _
      ·cases hy
    have elOf : ∀ {e k},elE P t t' = some (e,k) → elemL P t = some (e,k) := by
     intro e k hek
     unfold elE at hek
     split at hek
     ·exact hek
     ·unfold one1 at hek
      split at hek
      ·rename_i h1
       split at hek
       ·cases hek;exact h1
       ·cases hek
      ·cases hek
    split at he
    ·rename_i e k n cs tk m ds hekE hx hy
     have hek := elOf hekE
     unfold elemL at hek
     split at hek
     ·rename_i e' hu
      obtain ⟨i,hi,heq⟩ := Option.map_eq_some_iff.1 hek
      cases heq
      have hsl : sizeL P e = i.size := by simp [sizeL,hi]
      have hxr := h.ev x
      rw [hx] at hxr
      have step : ∀ id,cs.length = n * i.size → ds.length = m * i.size → 0 < i.size → ds.all oneL = true → zeroOk P e = true → (n + m) * bytesL P e ≤ 140737488355328 → n + m ≤ maxLen → bslK P m ds.length (bslY t t' (evL st.env y)) → OwnAt P w g id e n (a.eval x) → (∀ v' w' news,news.length = m * sizeL P e → Vals P w g ds news → Appended P e (sizeL P e) n m (a.eval x) news w v' w' → (m = 0 → v' = a.eval x) → Rel P N w0 S0 st' (a.put (some d) v') w') →
        (⟨some d,.call ⟨.builtin .append,⟨[x,y]⟩,⟨[t,t']⟩⟩,type,pos,after,guard⟩ : Oper).wp P a w K Q := by
       intro id hcs hds hk hone hzo hby hmax hbs hown hfin
       exact stepG id hu hekE hy hi rfl hds hk hone hzo hby hmax hbs hown fun v' w' news hnl hnv hA hm => hK _ _ (hfin v' w' news (by rw [hsl];exact hnl) hnv (by rw [hsl];exact hA) hm)
      unfold appendE1 at he
      split at he
      ·cases he
       obtain ⟨hn0,hcs,hds,hk,hone,hzo,hby,hmax,hbs⟩ := hc
       obtain ⟨hv,_,hc0⟩ := hxr.inv_nil
       subst hn0
       refine step d hcs hds hk hone hzo hby hmax hbs (.inl ⟨hv,rfl⟩) fun v' w' news hnl hnv hA hm => ?_
       have hcs0 : cs = [] := List.eq_nil_of_length_eq_zero (by rw [hcs];simp)
       subst hcs0
       cases hmd : st.mode d with
       | false =>
        rw [cond_false,cond_false]
        exact h.append (hd d rfl) (by rw [hsl];exact hk) (hxr.no_of rfl) (.inl ⟨hv,rfl⟩) (by simp) hnl hnv hA
       | true =>
        rw [cond_true,cond_true]
        rw [hv] at hA hm
        refine h.appendB (hd d rfl) (by rw [hsl];exact hk) (.inl ⟨rfl,rfl⟩) (fun _ _ h => absurd rfl h) (by simp) (fun _ => rfl) (fun h => absurd rfl h) hnl hnv hA ?_
        by_cases hm0 : m = 0
        ·exact .inl (hm hm0)
        ·exact .inr (by omega)
      ·rename_i q
       cases he
       obtain ⟨hcs,hds,hk,hone,hzo,hby,hmax,hq,hbs⟩ := hc
       have hown := hxr.inv_row.2 e (by rw [h.row];exact hq)
       refine step q hcs hds hk hone hzo hby hmax hbs hown fun v' w' news hnl hnv hA hm => ?_
       have hrow := h.append (hd d rfl) (by rw [hsl];exact hk) (hxr.no_of rfl) hown (by rw [hsl];exact hcs) hnl hnv hA
       cases hmd : st.mode d with
       | false => rw [cond_false];exact hrow
       | true =>
        rw [cond_true]
        split
        ·rename_i hn0
         split
         ·exact hrow
         ·rename_i hm0
          have hcs0 : cs = [] := List.eq_nil_of_length_eq_zero (by rw [hcs,hn0];simp)
          refine h.appendB' (hd d rfl) (by rw [hsl];exact hk) ?_ ?_ (by rw [hcs0,hn0];simp) (fun _ => hcs0) (fun _ => .inl hcs0) hnl hnv hA (.inr (by omega))
          ·exact hown.imp id fun ⟨b,cap,cur,k1,k2,k3,k4,k5,k6,_⟩ => ⟨b,cap,cur,k1,k2,k3,k4,k5,k6⟩
          ·intro b hb hne i
           rcases hown with ⟨hx,_⟩ | ⟨b',cap,cur,k1,k2,k3,k4,k5,k6,k7⟩
           ·exact absurd hx hne
           ·rw [hb] at k1;cases k1
            exact k7 i (by rw [hn0];simp)
        ·exact hrow
      ·cases he
      ·cases he
     ·cases hek
    ·rename_i e k q n e' m ds hekE hx hy
     have hek := elOf hekE
     unfold elemL at hek
     split at hek
     ·rename_i e'' hu
      obtain ⟨i,hi,heq⟩ := Option.map_eq_some_iff.1 hek
      cases heq
      have hsl : sizeL P e = i.size := by simp [sizeL,hi]
      have hxr := h.ev x
      rw [hx] at hxr
      unfold appendA at he
      cases harr : st.arr q with
      | none => rw [harr] at he;cases he
      | some cs =>
       rw [harr] at he
       cases he
       obtain ⟨hee,hcs,hds,hk,hone,hzo,hby,hmax,hbs⟩ := hc
       subst hee
       have hb := hxr.inv_bsl
       have hfree : ∀ b,g.own q = some b → a.eval x ≠ .slice none 0 0 → ∀ i,¬ g.S b i := by
        intro b hb' hne
        rcases hb with ⟨hv,_⟩ | ⟨b1,cap,cur,h1,hv,h3,h4,h5,h6,h7⟩
        ·exact absurd hv hne
        ·rcases h.arr q cs harr with h0 | ⟨b2,vals,T,k1,k2,k3,k4,k5⟩
         ·rw [h0,List.length_nil] at hcs
          have := Nat.mul_pos h7 hk
          omega
         ·rw [hb'] at k1;cases k1;exact k5
       have hown : OwnAt P w g q e n (a.eval x) := by
        rcases hb with hb | ⟨b1,cap,cur,h1,hv,h3,h4,h5,h6,h7⟩
        ·exact .inl hb
        ·exact .inr ⟨b1,cap,cur,h1,hv,h3,h4,h5,h6,fun i _ => hfree b1 h1 (by rw [hv];simp) i⟩
       refine stepG q hu hekE hy hi rfl hds hk hone hzo hby hmax hbs hown fun v' w' news hnl0 hnv hA hm => hK _ _ ?_
       have hnl : news.length = m * sizeL P e := by rw [hsl];exact hnl0
       rw [← hsl] at hA
       refine h.appendB (hd d rfl) (by rw [hsl];exact hk) hb hfree (by rw [hsl];exact hcs) (fun hv => ?_) (fun _ => h.arr q cs harr) hnl hnv hA ?_
       ·rcases hb with ⟨_,hn⟩ | ⟨b1,cap,cur,h1,hv',h3⟩
        ·exact List.eq_nil_of_length_eq_zero (by rw [hcs,hn];simp)
        ·rw [hv'] at hv;cases hv
       ·by_cases hm0 : m = 0
        ·exact .inl (hm hm0)
        ·exact .inr (by omega)
     ·cases hek
    ·cases he
  ·cases he
 ·
  rename_i d args ts
  obtain ⟨args⟩ := args
  obtain ⟨ts⟩ := ts
  simp only at he
  unfold copyE2 at he
  split at he
  ·rename_i x y t r
   have step : ∀ (q off n : Nat) (s : ByteArray) (e : TypeId),elemL P t = some (e,1) → evL st.env y = .lit (.string s) → (∃ b cap,a.eval x = .slice (some ⟨b,off,none⟩) n cap ∧ g.own q = some b) → copyA st d q off n s.data.toList (st.arr q) = some (c,st') →
     (⟨some d,.call ⟨.builtin .copy,⟨[x,y]⟩,⟨t :: r⟩⟩,type,pos,after,guard⟩ : Oper).wp P a w K Q := by
    intro q off n s e hek hy ⟨b,cap,hxv,hb⟩ hcp
    unfold copyA at hcp
    cases harr : st.arr q with
    | none => rw [harr] at hcp;cases hcp
    | some cs =>
     rw [harr] at hcp
     cases hcp
     obtain ⟨h0,h1,h2⟩ := hc
     unfold elemL at hek
     split at hek
     ·rename_i e' hu
      obtain ⟨i,hi,heq⟩ := Option.map_eq_some_iff.1 hek
      have hi1 : i.size = 1 := (Prod.mk.inj heq).2
      rcases h.arr q cs harr with rfl | ⟨b',vals,T,k1,k2,k3,k4,k5⟩
      ·rw [List.length_nil] at h2;omega
      rw [hb] at k1;cases k1
      have hyv := h.ev y
      rw [hy] at hyv
      have hyv := hyv.inv_lit
      have hss : s.size = s.data.toList.length := by simp
      have hrun := Lib.run_copy_row_string (P := P) w t (r.headD 0) type e' b off n cap s vals T hu (by rw [hi];exact congrArg some hi1) k2 (by omega) (by omega)
      unfold Oper.wp
      have hr' : (execOp a.eval ⟨some d,.call ⟨.builtin .copy,⟨[x,y]⟩,⟨t :: r⟩⟩,type,pos,after,guard⟩).run P w = .ok (.value (goInt s.size)) (w.setRow b (vals.toList.take off ++ Lib.byteCells s.data.toList ++ vals.toList.drop (off + s.size)).toArray) := by
       have h1 : (Builtin.copy_ ⟨t :: r⟩ type #[a.eval x,a.eval y]).run P w = .ok (goInt s.size) (w.setRow b (vals.toList.take off ++ Lib.byteCells s.data.toList ++ vals.toList.drop (off + s.size)).toArray) := by
        rw [hxv,hyv];exact hrun
       have : (do pure (Next.value (← Builtin.copy_ ⟨t :: r⟩ type #[a.eval x,a.eval y])) : Sem Next).run P w = .ok (.value (goInt s.size)) (w.setRow b (vals.toList.take off ++ Lib.byteCells s.data.toList ++ vals.toList.drop (off + s.size)).toArray) := by
        rw [Sem.run_bind,h1];rfl
       simpa [execOp,resolve,invoke,builtin] using this
      rw [hr']
      have hbl : (Lib.byteCells s.data.toList).length = (bL s.data.toList).length := by simp [Lib.byteCells,bL]
      have := h.storeArr (o := off) (xs := bL s.data.toList) (vs := Lib.byteCells s.data.toList) harr hb k2 k3 k4 k5 hbl (by simpa [bL] using h2) (fun j c u hc hu => by
       simp only [bL,List.getElem?_map,Option.map_eq_some_iff] at hc
       obtain ⟨bb,hb1,rfl⟩ := hc
       simp only [Lib.byteCells,List.getElem?_map,hb1,Option.map_some,Option.some.injEq] at hu
       rw [← hu];exact .lit _ _)
      have e1 : (bL s.data.toList).length = s.data.toList.length := by simp [bL]
      have e2 : (Lib.byteCells s.data.toList).length = s.size := by rw [hbl,e1,hss]
      rw [e1,e2] at this
      refine hK _ _ ⟨g,this.put hd ?_⟩
      have : goInt s.size = .int .i64 s.data.toList.length := by rw [hss];rfl
      rw [this];exact .lit _ _
     ·cases hek
   unfold copyE at he
   split at he
   ·rename_i e n q off s hek hx hy
    refine step q off n s e hek hy ?_ he
    have hxr := h.ev x
    rw [hx] at hxr
    obtain ⟨_,_,b,o,cap,hv,ho,hb⟩ := hxr.inv_sub
    have hn : n ≠ 0 := by
     unfold copyA at he
     split at he
     ·cases he;obtain ⟨h0,h1,_⟩ := hc;omega
     ·cases he
    rw [ho hn] at hv
    exact ⟨b,cap,hv,hb⟩
   ·rename_i e q n e' s hek hx hy
    refine step q 0 n s e hek hy ?_ he
    have hxr := h.ev x
    rw [hx] at hxr
    have hn : n ≠ 0 := by
     unfold copyA at he
     split at he
     ·cases he;obtain ⟨h0,h1,_⟩ := hc;omega
     ·cases he
    rcases hxr.inv_bsl with ⟨_,h0⟩ | ⟨b,cap,cur,h1,hv,_⟩
    ·exact absurd h0 hn
    ·exact ⟨b,cap,hv,h1⟩
   ·cases he
  ·cases he
 ·
  rename_i d t x y
  unfold makeE at he
  split at he
  ·rename_i e k kk z kk' z' hek hx hy
   cases hzl : zeroL P e with
   | none => rw [hzl] at he;cases he
   | some zs =>
    rw [hzl] at he
    cases he
    obtain ⟨rfl,h0,hby,hmax,hk,hzk⟩ := hc
    unfold elemL at hek
    split at hek
    ·rename_i e0 hu
     obtain ⟨i,hi,heq⟩ := Option.map_eq_some_iff.1 hek
     cases heq
     unfold zeroL at hzl
     rw [hi] at hzl
     obtain ⟨zv,hzv,rfl⟩ := Option.map_eq_some_iff.1 hzl
     have hsl : sizeL P e = i.size := by simp [sizeL,hi]
     rw [List.length_map,Array.length_toList] at hzk
     have hxv : a.eval x = .int kk z := by have := h.ev x;rw [hx] at this;exact this.inv_lit
     have hyv : a.eval y = .int kk' z := by have := h.ev y;rw [hy] at this;exact this.inv_lit
     rw [show bytesL P e = i.bytes by simp [bytesL,hi]] at hby
     have hm := run_make (P := P) w t e i zv hu hi hzv kk kk' z z h0 (Int.le_refl _) (by
      have : ((z.toNat * i.bytes : Nat) : Int) ≤ 281474976710656 := by omega
      rw [Int.natCast_mul,Int.toNat_of_nonneg h0,Int.mul_comm] at this;exact this) (by unfold maxLen at hmax;omega)
     unfold Oper.wp
     have hr' : (execOp a.eval ⟨some d,.makeSlice t x y,type,pos,after,guard⟩).run P w = .ok (.value (.slice (some ⟨w.heap.size,0,none⟩) z.toNat z.toNat)) (w.alloc (.cells (madeCells zv.cells (z.toNat * i.size)) e)) := by
      rw [← hxv] at hm
      have : (do pure (Next.value (← Instr.makeSlice t (a.eval x) (a.eval y))) : Sem Next).run P w = .ok (.value (.slice (some ⟨w.heap.size,0,none⟩) z.toNat z.toNat)) (w.alloc (.cells (madeCells zv.cells (z.toNat * i.size)) e)) := by
       rw [hyv,Sem.run_bind,hm]
       rfl
      simpa [execOp] using this
     rw [hr']
     have hmc := madeCells_list zv.cells z.toNat (by omega)
     rw [hzk] at hmc
     by_cases hz0 : z.toNat = 0
     ·rw [if_pos hz0] at hK
      refine hK _ _ ⟨_,(h.grow (S' := g.S) (G.alloc w _) (fun _ _ _ => Iff.rfl) (fun b i hs => by have := h.wf b i hs;simp;omega)).put hd ?_⟩
      rw [hz0];exact .empty _ _ _
     ·rw [if_neg hz0] at hK
      have hlv : (madeCells zv.cells (z.toNat * i.size)).toList.length = z.toNat * sizeL P e := by rw [Array.length_toList,size_madeCells,hsl]
      have := h.newArr (cs := repL z.toNat (zv.cells.toList.map toLV)) (vs := (madeCells zv.cells (z.toNat * i.size)).toList) (n := z.toNat) (e := e) (hd d rfl) (by rw [hsl];exact hk) hlv ?_ hmax (by omega)
      ·have e0 : (madeCells zv.cells (z.toNat * i.size)).toList.toArray = madeCells zv.cells (z.toNat * i.size) := by simp
       rw [e0] at this
       exact hK _ _ this
      ·rw [hmc]
       unfold repL
       have hmap : (List.replicate z.toNat (zv.cells.toList.map toLV)).flatten = ((List.replicate z.toNat zv.cells.toList).flatten).map toLV := by
        rw [List.map_flatten,List.map_replicate]
       rw [hmap]
       refine ⟨by simp,fun j c u hc hu => ?_⟩
       rw [List.getElem?_map,hu] at hc
       cases hc
       exact rep_toLV u
    ·cases hek
  ·cases he
 ·cases he
theorem lop_wp {st : LSt} {a : Act} {w : World} {o : Oper} {K' : LSt → Prop} {K : Act → World → Prop} {Q : Exit → Act → World → Prop} (h : Rel P N w0 S0 st a w) (hd : dstOk N o.dst = true) (he : lop P o st K')
  (hK : ∀ st' a' w',Rel P N w0 S0 st' a' w' → K' st' → K a' w') : o.wp P a w K Q := by
 obtain ⟨g,hg⟩ := h
 unfold lop at he
 cases hx : pv P (evL st.env) st.box st.arr o.op with
 | some x => rw [hx] at he;exact LVal.wp hg (.inl hx) (dstOk_spec hd) fun a' w' hr => hK _ _ _ hr he
 | none =>
  rw [hx,pvK_none] at he
  cases hc : callOf o.op with
  | some fa =>
   obtain ⟨f,args⟩ := fa
   rw [hc] at he
   obtain ⟨r,hr,hK'⟩ := he
   exact LVal.wp hg (.inr (.inl ⟨f,args,r,hc,hr,rfl⟩)) (dstOk_spec hd) fun a' w' hr => hK _ _ _ hr hK'
  | none =>
   rw [hc,callK_none] at he
   cases hs : effE P st o.dst o.op with
   | none => rw [hs] at he;exact he.elim
   | some cs =>
    obtain ⟨c,st'⟩ := cs
    rw [hs] at he
    exact effE_wp hg (dstOk_spec hd) hs he.1 fun a' w' hr => hK _ _ _ hr he.2
theorem lops_wp {ops : Array Oper} {Q' : Exit → Act → World → Prop} : ∀ (l : List Oper) (K : LSt → Prop) (st : LSt) (a : Act) (w : World),Rel P N w0 S0 st a w → lops P N ops l K st → (∀ st a w,Rel P N w0 S0 st a w → K st → Q' .normal a w) → wpList P ops Q' l a w
 | [],K,st,a,w,h,hl,hQ => hQ _ _ _ h hl
 | o :: rest,K,st,a,w,h,hl,hQ => by
  obtain ⟨hd,hl⟩ := hl
  unfold wpList
  obtain ⟨g,hg⟩ := h
  cases hgd : guardL ops o st.env with
  | some wb =>
   obtain ⟨want,b⟩ := wb
   rw [hgd] at hl
   have hw := guardL_want hgd
   cases hc : wantB b want
   ·rw [hc] at hw
    rw [wantL_run hg.env hw,if_neg (by simp)]
    exact lops_wp rest K _ _ _ ⟨g,hg.put (dstOk_spec hd) (.lit _ _)⟩ (hl.2 hc) hQ
   ·rw [hc] at hw
    rw [wantL_run hg.env hw,if_pos rfl]
    exact .inl (lop_wp ⟨g,hg⟩ hd (hl.1 hc) fun st' a' w' hr hk => lops_wp rest K st' a' w' hr hk hQ)
  | none => rw [hgd] at hl;exact hl.elim
end
end Go.Proofs.YteamlijbkldlhaaGreatDoor
end
