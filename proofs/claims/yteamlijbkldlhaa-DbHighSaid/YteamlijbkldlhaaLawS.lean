import Derived.Test.YteamlijbkldlhaaL25
import Derived.ProofKit
import Derived.OpenShut
import Derived.Deep.Slices
import Derived.Deep.DeepHandedRow
import Derived.Test.YteamlijbkldlhaaRows
import Derived.Shelf.Vars
section
set_option linter.unusedSimpArgs false
set_option linter.unusedVariables false
namespace Go.Proofs.Yteamlijbkldlhaa
open Go.ChangeShapes Go.WideShapes Go.ChangeAt Go.RowKit

def allS (w : World) : Nat → Nat → Prop := fun b _ => b < w.heap.size

section
variable {H : Type} {enc : TypeId × Value → H} {P : Program} {w : World}
def Opens {H : Type} (enc : TypeId × Value → H) (P : Program) (w : World) (t : TypeId) {α : Type} (ok : α → Prop) (E : α → List LV) : Prop :=
  ∀ (fuel : Nat) (cs : List Value) (x : DataW H × List MemPlace),DataW.trod enc P w 0 (fun _ => true) true fuel t cs = some x → ∃ a,ok a ∧ Vals P w (bareGh (allS w)) (E a) cs
theorem vals_one {g : Gh} {x : LV} {v : Value} (h : Rep P w g.bare x v) : Vals P w g [x] [v] := by
  refine ⟨rfl,fun i c u hc hu => ?_⟩
  cases i with
  | zero => cases hc;cases hu;exact h
  | succ i => simp at hc
theorem opens_int {t : TypeId} {k : IntKind} (ht : P.underlying t = some (.int k)) : Opens enc P w t (fun n => (Lit.int k n).wf = true) (fun n => [.lit (.int k n)]) := by
  intro fuel cs x h
  obtain ⟨n,rfl,_,hw⟩ := DataW.trod_int ht h
  exact ⟨n,hw,vals_one (.lit _ _)⟩
theorem arg_one {t : TypeId} {v : Value} {d : DataW H} {ps : List MemPlace} {α : Type} {ok : α → Prop} {E : α → LV} (hO : Opens enc P w t ok (fun a => [E a])) (hv : v.cells = #[v]) (hd : DataW.Trod enc P w 0 (fun _ => true) true t v d ps) :
    ∃ a,ok a ∧ Rep P w (bareGh (allS w)) (E a) v := by
  obtain ⟨fuel,hf⟩ := hd
  obtain ⟨a,ha,h⟩ := hO _ _ _ hf
  exact ⟨a,ha,h.2 0 _ _ rfl (by rw [hv];rfl)⟩
theorem arg_int {t : TypeId} {k : IntKind} {r : Reach} {b0 : Nat} {v : Value} {d : DataW H} {ps : List MemPlace} (ht : P.underlying t = some (.int k)) (hval : Value.okWide P w r b0 t v) (hd : DataW.Trod enc P w 0 (fun _ => true) true t v d ps) :
    ∃ a : Int,(Lit.int k a).wf = true ∧ Rep P w (bareGh (allS w)) (.lit (.int k a)) v := by
  obtain ⟨n,rfl⟩ := okWide_int ht hval
  exact arg_one (opens_int ht) rfl hd
def RepAll (P : Program) (w : World) : List LV → List Value → Prop
  | [],[] => True
  | x :: xs,v :: vs => Rep P w (bareGh (allS w)) x v ∧ RepAll P w xs vs
  | _,_ => False
theorem RepAll.spec : ∀ {xs : List LV} {vs : List Value},RepAll P w xs vs → vs.length = xs.length ∧ ∀ (i : Nat) (c : LV) (u : Value),xs[i]? = some c → vs[i]? = some u → Rep P w (bareGh (allS w)) c u
  | [],[],_ => ⟨rfl,fun i c u h => by simp at h⟩
  | x :: xs,v :: vs,h => by
    obtain ⟨h1,h2⟩ := RepAll.spec h.2
    refine ⟨by simp [h1],fun i c u hc hu => ?_⟩
    cases i with
    | zero => cases hc;cases hu;exact h.1
    | succ i => exact h2 i c u (by simpa using hc) (by simpa using hu)
  | [],_ :: _,h => h.elim
  | _ :: _,[],h => h.elim
theorem callsTrue {f : FuncId} {args : List LV} {vs : List Value} (h : LCalls P f args (boolL true)) (hg : Glob P w) (hr : RepAll P w args vs) : Calls P f vs.toArray w fun e w' => e = .returned (.bool true) ∧ G w w' := by
  obtain ⟨h1,h2⟩ := hr.spec
  exact (h.calls w (allS w) vs.toArray hg (fun _ _ h => h) (by simpa using h1) (fun i c u hc hu => h2 i c u hc (by simpa using hu))).mono fun e w' ⟨v,S',h1,h2,h3,_⟩ => ⟨by rw [h1,h2.inv_lit],h3⟩
end

theorem trodAll_stays {H : Type} {enc : TypeId × Value → H} {P : Program} (hl : laidOutB P = true) {W W' : World} (hb : Below W.heap.size W W') :
    ∀ (ts : List TypeId) (vs : List Value) (ds : List (DataW H)) (ps : List MemPlace),(∀ t ∈ ts,P.readableRec t = true ∧ t < P.types.size) →
      (∀ x ∈ ps,x.block < W.heap.size) → DataW.TrodAll enc P W 0 (fun _ => true) true ts vs ds ps → DataW.TrodAll enc P W' 0 (fun b => decide (b < W.heap.size)) true ts vs ds ps
  | [],[],[],_,_,_,h => h
  | t :: ts,v :: vs,d :: ds,ps,ht,hlt,⟨p,q,h1,h2,e⟩ => by
    subst e
    exact ⟨p,q,Below.trod hl (ht t (by simp)).1 (ht t (by simp)).2 h1 hb (fun x hx => hlt x (List.mem_append_left _ hx)),
      trodAll_stays hl hb ts vs ds q (fun t' h' => ht t' (List.mem_cons_of_mem _ h')) (fun x hx => hlt x (List.mem_append_right _ hx)) h2,rfl⟩
  | [],_ :: _,_,_,_,_,h => h.elim
  | [],[],_ :: _,_,_,_,h => h.elim
  | _ :: _,[],_,_,_,_,h => h.elim
  | _ :: _,_ :: _,[],_,_,_,h => h.elim
end Go.Proofs.Yteamlijbkldlhaa
end
section
set_option linter.unusedSimpArgs false
set_option linter.unusedVariables false
namespace Go.Proofs.Yteamlijbkldlhaa
open Go.ChangeShapes Go.WideShapes Go.ChangeAt Go.RowKit

theorem own : ownKnob Try.prog.godebug = none := by kernel_rfl
theorem laidOut : laidOutB Try.prog = true := by kernel_rfl
theorem law_post {H : Type} {enc : TypeId × Value → H} {f : Func} {s : ChangeSpec} {W W' : World} {args : Array Value} {ds gs : List (DataW H)} {before : List MemPlace}
    (hvars : s.vars = []) (hs : s.fn H (ds ++ gs) = { results := [.lit (.bool true)],args := ds }) (hr : f.resultTypes = #[4])
    (ht : ∀ t ∈ f.params.toList,Try.prog.readableRec t = true ∧ t < Try.prog.types.size)
    (hW : DataW.Whole enc Try.prog f.params.toList s.vars false W args.toList ds gs before) (hg : G W W') :
    s.post enc Try.prog f false true false false W args (.bool true) W' := by
  have hlt := hW.lt
  obtain ⟨p,q,hA,hV,e,hfz,hnd⟩ := id hW
  rw [hvars] at hV
  obtain ⟨rfl,rfl⟩ := trodVars_none hV
  simp only [List.append_nil] at e
  subst e
  refine ⟨ds,[],before,[],before,[],hW,?_,?_,?_,Below.frame hg _,fun h => by cases h⟩
  · rw [hs,hr]
    exact trodAll_mk1 (shut_bool Try.underlying4 true)
  · rw [hs]
    exact trodAll_stays laidOut hg _ _ _ _ ht hlt hA
  · rw [hs,hvars]
    rfl
theorem glob_shaped {W : World} (h : W.ShapedOpen Try.prog) : Glob Try.prog W := ⟨fun h => absurd h (by
  rw [show (Try.prog.globalNamed "internal/strconv.uint64pow10").isSome = false by kernel_rfl];exact Bool.false_ne_true),fun g hg => by
  rw [show Try.prog.globalNamed "internal/bytealg.MaxLen" = some 0 by kernel_rfl] at hg
  cases hg
  exact cell_of_shapedOpen_int h (t := 3) (zero := #[.int .i64 0]) (of_decide_eq_true (by kernel_rfl)) (by kernel_rfl) rfl (by kernel_rfl) (by kernel_rfl) Try.underlying3⟩
end Go.Proofs.Yteamlijbkldlhaa
end
