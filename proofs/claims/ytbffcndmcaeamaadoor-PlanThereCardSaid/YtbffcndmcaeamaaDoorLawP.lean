import Derived.Test.YtbffcndmcaeamaaDoorL26
import Derived.ProofKit
import Derived.OpenShut
import Derived.Deep.Slices
import Derived.Deep.DeepHandedRow
import Derived.Test.YtbffcndmcaeamaaDoorCards
import Derived.Test.YtbffcndmcaeamaaDoorTie
import Derived.Lib.LaidTab
import Derived.Shelf.Vars
section
set_option linter.unusedSimpArgs false
set_option linter.unusedVariables false
namespace Go.Proofs.YtbffcndmcaeamaaDoor
open Go.ChangeShapes Go.WideShapes Go.ChangeAt Go.RowKit

def allS (w : World) : Nat → Nat → Prop := fun b _ => b < w.heap.size

section
variable {H : Type} {enc : TypeId × Value → H} {P : Program} {w : World}
def Opens {H : Type} (enc : TypeId × Value → H) (P : Program) (w : World) (t : TypeId) {α : Type} (ok : α → Prop) (E : α → List LV) : Prop :=
  ∀ (fuel : Nat) (cs : List Value) (x : DataW H × List MemPlace),DataW.trod enc P w 0 (fun _ => true) true fuel t cs = some x → ∃ a,ok a ∧ Vals P w (bareGh (allS w)) (E a) cs
theorem vals_one {g : Gh} {x : LV} {v : Value} (h : Rep P w g.bare x v) : Vals P w g [x] [v] := by
  refine ⟨rfl,fun i c u hc hu => ?_⟩
  cases i with
  | zero => cases hc;cases hu;exact h
  | succ i => simp at hc
theorem opens_int {t : TypeId} {k : IntKind} (ht : P.underlying t = some (.int k)) : Opens enc P w t (fun n => (Lit.int k n).wf = true) (fun n => [.lit (.int k n)]) := by
  intro fuel cs x h
  obtain ⟨n,rfl,_,hw⟩ := DataW.trod_int ht h
  exact ⟨n,hw,vals_one (.lit _ _)⟩
theorem flatL_get {α : Type} {E : α → List LV} {k : Nat} (hk : 0 < k) (hE : ∀ a,(E a).length = k) {l : List α} {i : Nat} {c : LV} (h : (l.flatMap E)[i]? = some c) : ∃ a,l[i / k]? = some a ∧ (E a)[i % k]? = some c ∧ i / k < l.length := by
  have hlen := len_flat E k hE l
  have hi := (List.getElem?_eq_some_iff.1 h).1
  rw [hlen] at hi
  have hq : i / k < l.length := Nat.div_lt_of_lt_mul (by rw [Nat.mul_comm];exact hi)
  obtain ⟨a,ha⟩ := get_of_lt hq
  have hd := drop_flat E k hE ha
  have hi2 : i / k * k + i % k = i := by rw [Nat.mul_comm];exact Nat.div_add_mod i k
  have hg : (l.flatMap E)[i]? = ((l.flatMap E).drop (i / k * k))[i % k]? := by rw [List.getElem?_drop,hi2]
  rw [hg,hd,List.getElem?_append_left (by rw [hE];exact Nat.mod_lt _ hk)] at h
  exact ⟨a,ha,h,hq⟩
theorem opens_slice {t e : TypeId} {k : Nat} {α : Type} [Inhabited α] {ok : α → Prop} {E : α → List LV} (ht : P.underlying t = some (.slice e)) (hc : P.cellsOf e = k) (hk : 0 < k) (hE : ∀ a,(E a).length = k) (h : Opens enc P w e ok E) :
    Opens enc P w t (fun l : List α => l.length ≤ maxLen ∧ ∀ a ∈ l,ok a) (fun l => [rowL E l]) := by
  intro fuel cs x hx
  rcases Go.Deep.open_slice ht hx with ⟨rfl,_⟩ | ⟨a,len,cap,m,n,D,Pl,rfl,_,hl,hm,hmm,_,hel⟩
  · exact ⟨[],⟨by simp,by simp⟩,vals_one (.empty _ _ _)⟩
  · have hcap : m = cap := by simpa using hmm
    subst hcap
    rw [hc] at hel
    obtain ⟨V,hV⟩ := Go.Deep.choose_lt (n := len) (p := fun i b => ok b ∧ ∃ cs',w.cells? 0 (a.add (i * k)) k = some cs' ∧ Vals P w (bareGh (allS w)) (E b) cs') (fun i hi => by
      obtain ⟨cs',h1,h2⟩ := hel i (by omega)
      obtain ⟨b,hb,hv⟩ := h _ _ _ h2
      exact ⟨b,hb,cs',h1,hv⟩)
    refine ⟨(List.range len).map V,⟨by simp;omega,fun b hb => ?_⟩,vals_one ?_⟩
    · obtain ⟨i,hi,rfl⟩ := List.mem_map.1 hb
      exact (hV i (List.mem_range.1 hi)).1
    · have hlen : ((List.range len).map V).length = len := by simp
      unfold rowL
      rw [hlen]
      by_cases h0 : len = 0
      · subst h0;exact .empty _ _ _
      have hcell : ∀ q r,q < len → r < k → w.cell? (a.add (q * k + r)) = w.cell? ((a.add (q * k)).add r) := fun q r _ _ => by rw [Go.Deep.add_add]
      obtain ⟨b,off,spot⟩ := a
      have hsp : spot = none := by
        obtain ⟨_,cs',h1,h2⟩ := hV 0 (by omega)
        obtain ⟨_,h3,h4⟩ := World.cells?_some h1
        have h5 := h4 0 hk
        rw [List.getElem?_eq_getElem (by omega)] at h5
        simpa [Addr.add] using World.cell?_spot h5
      subst hsp
      have key : ∀ i (c : LV),(((List.range len).map V).flatMap E)[i]? = some c → ∃ v,w.cell? ⟨b,off + i,none⟩ = some v ∧ Rep P w (bareGh (allS w)) c v := by
        intro i c hi
        obtain ⟨a,h1,h2,h3⟩ := flatL_get hk hE hi
        rw [hlen] at h3
        obtain rfl : V (i / k) = a := by simpa [h3] using h1
        obtain ⟨_,cs',h4,h5⟩ := hV (i / k) h3
        obtain ⟨_,h6,h7⟩ := World.cells?_some h4
        have hr : i % k < k := Nat.mod_lt _ hk
        have h8 := h7 (i % k) hr
        rw [Go.Deep.add_add,List.getElem?_eq_getElem (by omega),Nat.mul_comm,Nat.div_add_mod,add_plain] at h8
        exact ⟨_,h8,h5.2 (i % k) c _ h2 (List.getElem?_eq_getElem (by omega))⟩
      refine .sl _ _ _ _ _ _ hl (fun i => (w.cell? ⟨b,off + i,none⟩).getD undef) (fun i hi => ?_) (fun i c hi => ?_)
      · obtain ⟨v,h1,_⟩ := key i _ (List.getElem?_eq_getElem hi)
        refine ⟨?_,by rw [h1];rfl⟩
        show b < w.heap.size
        by_cases hb : b < w.heap.size
        · exact hb
        · rw [World.cell?] at h1;simp [hb] at h1
      · obtain ⟨v,h1,h2⟩ := key i _ hi
        simp only [h1,Option.getD_some];exact h2
theorem arg_one {t : TypeId} {v : Value} {d : DataW H} {ps : List MemPlace} {α : Type} {ok : α → Prop} {E : α → LV} (hO : Opens enc P w t ok (fun a => [E a])) (hv : v.cells = #[v]) (hd : DataW.Trod enc P w 0 (fun _ => true) true t v d ps) :
    ∃ a,ok a ∧ Rep P w (bareGh (allS w)) (E a) v := by
  obtain ⟨fuel,hf⟩ := hd
  obtain ⟨a,ha,h⟩ := hO _ _ _ hf
  exact ⟨a,ha,h.2 0 _ _ rfl (by rw [hv];rfl)⟩
theorem arg_slice {t e : TypeId} {r : Reach} {b0 : Nat} {v : Value} {d : DataW H} {ps : List MemPlace} {α : Type} {ok : α → Prop} {E : α → LV} (ht : P.underlying t = some (.slice e)) (hO : Opens enc P w t ok (fun a => [E a])) (hval : Value.okWide P w r b0 t v) (hd : DataW.Trod enc P w 0 (fun _ => true) true t v d ps) :
    ∃ a,ok a ∧ Rep P w (bareGh (allS w)) (E a) v := by
  obtain ⟨a0,len,cap,rfl⟩ := okWide_slice ht hval
  exact arg_one hO rfl hd
theorem arg_int {t : TypeId} {k : IntKind} {r : Reach} {b0 : Nat} {v : Value} {d : DataW H} {ps : List MemPlace} (ht : P.underlying t = some (.int k)) (hval : Value.okWide P w r b0 t v) (hd : DataW.Trod enc P w 0 (fun _ => true) true t v d ps) :
    ∃ a : Int,(Lit.int k a).wf = true ∧ Rep P w (bareGh (allS w)) (.lit (.int k a)) v := by
  obtain ⟨n,rfl⟩ := okWide_int ht hval
  exact arg_one (opens_int ht) rfl hd
def RepAll (P : Program) (w : World) : List LV → List Value → Prop
  | [],[] => True
  | x :: xs,v :: vs => Rep P w (bareGh (allS w)) x v ∧ RepAll P w xs vs
  | _,_ => False
theorem RepAll.spec : ∀ {xs : List LV} {vs : List Value},RepAll P w xs vs → vs.length = xs.length ∧ ∀ (i : Nat) (c : LV) (u : Value),xs[i]? = some c → vs[i]? = some u → Rep P w (bareGh (allS w)) c u
  | [],[],_ => ⟨rfl,fun i c u h => by simp at h⟩
  | x :: xs,v :: vs,h => by
    obtain ⟨h1,h2⟩ := RepAll.spec h.2
    refine ⟨by simp [h1],fun i c u hc hu => ?_⟩
    cases i with
    | zero => cases hc;cases hu;exact h.1
    | succ i => exact h2 i c u (by simpa using hc) (by simpa using hu)
  | [],_ :: _,h => h.elim
  | _ :: _,[],h => h.elim
theorem callsTrue {f : FuncId} {args : List LV} {vs : List Value} (h : LCalls P f args (boolL true)) (hg : Glob P w) (hr : RepAll P w args vs) : Calls P f vs.toArray w fun e w' => e = .returned (.bool true) ∧ G w w' := by
  obtain ⟨h1,h2⟩ := hr.spec
  exact (h.calls w (allS w) vs.toArray hg (fun _ _ h => h) (by simpa using h1) (fun i c u hc hu => h2 i c u hc (by simpa using hu))).mono fun e w' ⟨v,S',h1,h2,h3,_⟩ => ⟨by rw [h1,h2.inv_lit],h3⟩
end

theorem trodAll_stays {H : Type} {enc : TypeId × Value → H} {P : Program} (hl : laidOutB P = true) {W W' : World} (hb : Below W.heap.size W W') :
    ∀ (ts : List TypeId) (vs : List Value) (ds : List (DataW H)) (ps : List MemPlace),(∀ t ∈ ts,P.readableRec t = true ∧ t < P.types.size) →
      (∀ x ∈ ps,x.block < W.heap.size) → DataW.TrodAll enc P W 0 (fun _ => true) true ts vs ds ps → DataW.TrodAll enc P W' 0 (fun b => decide (b < W.heap.size)) true ts vs ds ps
  | [],[],[],_,_,_,h => h
  | t :: ts,v :: vs,d :: ds,ps,ht,hlt,⟨p,q,h1,h2,e⟩ => by
    subst e
    exact ⟨p,q,Below.trod hl (ht t (by simp)).1 (ht t (by simp)).2 h1 hb (fun x hx => hlt x (List.mem_append_left _ hx)),
      trodAll_stays hl hb ts vs ds q (fun t' h' => ht t' (List.mem_cons_of_mem _ h')) (fun x hx => hlt x (List.mem_append_right _ hx)) h2,rfl⟩
  | [],_ :: _,_,_,_,_,h => h.elim
  | [],[],_ :: _,_,_,_,h => h.elim
  | _ :: _,[],_,_,_,_,h => h.elim
  | _ :: _,_ :: _,[],_,_,_,h => h.elim
end Go.Proofs.YtbffcndmcaeamaaDoor
end
section
set_option linter.unusedSimpArgs false
set_option linter.unusedVariables false
namespace Go.Proofs.YtbffcndmcaeamaaDoor
open Go.ChangeShapes Go.WideShapes Go.ChangeAt Go.RowKit

theorem own : ownKnob Tryd.prog.godebug = none := by kernel_rfl
theorem laidOut : laidOutB Tryd.prog = true := by kernel_rfl
theorem law_post {H : Type} {enc : TypeId × Value → H} {f : Func} {s : ChangeSpec} {W W' : World} {args : Array Value} {ds gs : List (DataW H)} {before : List MemPlace}
    (hvars : s.vars = []) (hs : s.fn H (ds ++ gs) = { results := [.lit (.bool true)],args := ds }) (hr : f.resultTypes = #[4])
    (ht : ∀ t ∈ f.params.toList,Tryd.prog.readableRec t = true ∧ t < Tryd.prog.types.size)
    (hW : DataW.Whole enc Tryd.prog f.params.toList s.vars false W args.toList ds gs before) (hg : G W W') :
    s.post enc Tryd.prog f false true false false W args (.bool true) W' := by
  have hlt := hW.lt
  obtain ⟨p,q,hA,hV,e,hfz,hnd⟩ := id hW
  rw [hvars] at hV
  obtain ⟨rfl,rfl⟩ := trodVars_none hV
  simp only [List.append_nil] at e
  subst e
  refine ⟨ds,[],before,[],before,[],hW,?_,?_,?_,Below.frame hg _,fun h => by cases h⟩
  · rw [hs,hr]
    exact trodAll_mk1 (shut_bool Tryd.underlying4 true)
  · rw [hs]
    exact trodAll_stays laidOut hg _ _ _ _ ht hlt hA
  · rw [hs,hvars]
    rfl
def lay (vs : Array Value) : Obj → Obj
  | .cells _ t frozen => .cells vs t frozen
  | o => o
noncomputable def laidWorld (os : Os) : World :=
  { World.holding Tryd.prog os ⟨#[],#[],[]⟩ with heap := ((World.holding Tryd.prog os ⟨#[],#[],[]⟩).heap.modify 1 (lay (Go.Pinned.utf8FirstZ.map (fun n : Nat => Value.int .u8 (n : Int))).toArray)).modify 2 (lay #[.int .u8 128,.int .u8 191,.int .u8 160,.int .u8 191,.int .u8 128,.int .u8 159,.int .u8 144,.int .u8 191,.int .u8 128,.int .u8 143,.int .u8 0,.int .u8 0,.int .u8 0,.int .u8 0,.int .u8 0,.int .u8 0,.int .u8 0,.int .u8 0,.int .u8 0,.int .u8 0,.int .u8 0,.int .u8 0,.int .u8 0,.int .u8 0,.int .u8 0,.int .u8 0,.int .u8 0,.int .u8 0,.int .u8 0,.int .u8 0,.int .u8 0,.int .u8 0]) }

theorem glob_shaped {W : World} (h : W.ShapedOpen Tryd.prog) : Glob Tryd.prog W := ⟨fun h => absurd h (by
  rw [show (Tryd.prog.globalNamed "internal/strconv.uint64pow10").isSome = false by kernel_rfl];exact Bool.false_ne_true),fun g hg => by
  rw [show Tryd.prog.globalNamed "internal/bytealg.MaxLen" = some 0 by kernel_rfl] at hg
  cases hg
  exact cell_of_shapedOpen_int h (t := 3) (zero := #[.int .i64 0]) (of_decide_eq_true (by kernel_rfl)) (by kernel_rfl) rfl (by kernel_rfl) (by kernel_rfl) Tryd.underlying3⟩
theorem glob_both {W : World} {L : List (String × DataW Unit)} (_ : laidMet Tryd.prog L W) (h : W.ShapedOpen Tryd.prog) : Glob Tryd.prog W := glob_shaped h
end Go.Proofs.YtbffcndmcaeamaaDoor
end
