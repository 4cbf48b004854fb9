import Derived.Test.YtpficpldemickaaL22
import Derived.ProofKit
import Derived.OpenShut
import Derived.Deep.Slices
import Derived.Deep.DeepHandedRow
set_option linter.unusedSimpArgs false
set_option linter.unusedVariables false
namespace Go.Proofs.Ytpficpldemickaa
open Go.ChangeShapes Go.WideShapes Go.ChangeAt Go.RowKit

def allS (w : World) : Nat → Nat → Prop := fun b _ => b < w.heap.size

section
variable {H : Type} {enc : TypeId × Value → H} {P : Program} {w : World}
def Opens {H : Type} (enc : TypeId × Value → H) (P : Program) (w : World) (t : TypeId) {α : Type} (ok : α → Prop) (E : α → List LV) : Prop :=
  ∀ (fuel : Nat) (cs : List Value) (x : DataW H × List MemPlace),DataW.trod enc P w 0 (fun _ => true) true fuel t cs = some x → ∃ a,ok a ∧ Vals P w (bareGh (allS w)) (E a) cs
theorem vals_one {g : Gh} {x : LV} {v : Value} (h : Rep P w g.bare x v) : Vals P w g [x] [v] := by
  refine ⟨rfl,fun i c u hc hu => ?_⟩
  cases i with
  | zero => cases hc;cases hu;exact h
  | succ i => simp at hc
theorem opens_int {t : TypeId} {k : IntKind} (ht : P.underlying t = some (.int k)) : Opens enc P w t (fun n => (Lit.int k n).wf = true) (fun n => [.lit (.int k n)]) := by
  intro fuel cs x h
  obtain ⟨n,rfl,_,hw⟩ := DataW.trod_int ht h
  exact ⟨n,hw,vals_one (.lit _ _)⟩
theorem opens_string {t : TypeId} (ht : P.underlying t = some .string) : Opens enc P w t (fun l : List UInt8 => l.length ≤ maxLen) (fun l => [strL l]) := by
  intro fuel cs x h
  obtain ⟨s,rfl,_,hl⟩ := DataW.trod_string ht h
  refine ⟨s.data.toList,by simpa using hl,vals_one ?_⟩
  unfold strL
  rw [← ba_eq s];exact .lit _ _
theorem arg_one {t : TypeId} {v : Value} {d : DataW H} {ps : List MemPlace} {α : Type} {ok : α → Prop} {E : α → LV} (hO : Opens enc P w t ok (fun a => [E a])) (hv : v.cells = #[v]) (hd : DataW.Trod enc P w 0 (fun _ => true) true t v d ps) :
    ∃ a,ok a ∧ Rep P w (bareGh (allS w)) (E a) v := by
  obtain ⟨fuel,hf⟩ := hd
  obtain ⟨a,ha,h⟩ := hO _ _ _ hf
  exact ⟨a,ha,h.2 0 _ _ rfl (by rw [hv];rfl)⟩
theorem arg_string {t : TypeId} {r : Reach} {b0 : Nat} {v : Value} {d : DataW H} {ps : List MemPlace} (ht : P.underlying t = some .string) (hval : Value.okWide P w r b0 t v) (hd : DataW.Trod enc P w 0 (fun _ => true) true t v d ps) :
    ∃ a : List UInt8,a.length ≤ maxLen ∧ Rep P w (bareGh (allS w)) (strL a) v := by
  obtain ⟨s,rfl⟩ := okWide_string ht hval
  exact arg_one (opens_string ht) rfl hd
theorem arg_int {t : TypeId} {k : IntKind} {r : Reach} {b0 : Nat} {v : Value} {d : DataW H} {ps : List MemPlace} (ht : P.underlying t = some (.int k)) (hval : Value.okWide P w r b0 t v) (hd : DataW.Trod enc P w 0 (fun _ => true) true t v d ps) :
    ∃ a : Int,(Lit.int k a).wf = true ∧ Rep P w (bareGh (allS w)) (.lit (.int k a)) v := by
  obtain ⟨n,rfl⟩ := okWide_int ht hval
  exact arg_one (opens_int ht) rfl hd
def RepAll (P : Program) (w : World) : List LV → List Value → Prop
  | [],[] => True
  | x :: xs,v :: vs => Rep P w (bareGh (allS w)) x v ∧ RepAll P w xs vs
  | _,_ => False
theorem RepAll.spec : ∀ {xs : List LV} {vs : List Value},RepAll P w xs vs → vs.length = xs.length ∧ ∀ (i : Nat) (c : LV) (u : Value),xs[i]? = some c → vs[i]? = some u → Rep P w (bareGh (allS w)) c u
  | [],[],_ => ⟨rfl,fun i c u h => by simp at h⟩
  | x :: xs,v :: vs,h => by
    obtain ⟨h1,h2⟩ := RepAll.spec h.2
    refine ⟨by simp [h1],fun i c u hc hu => ?_⟩
    cases i with
    | zero => cases hc;cases hu;exact h.1
    | succ i => exact h2 i c u (by simpa using hc) (by simpa using hu)
  | [],_ :: _,h => h.elim
  | _ :: _,[],h => h.elim
theorem callsTrue {f : FuncId} {args : List LV} {vs : List Value} (h : LCalls P f args (boolL true)) (hg : Glob P w) (hr : RepAll P w args vs) : Calls P f vs.toArray w fun e w' => e = .returned (.bool true) ∧ G w w' := by
  obtain ⟨h1,h2⟩ := hr.spec
  exact (h.calls w (allS w) vs.toArray hg (fun _ _ h => h) (by simpa using h1) (fun i c u hc hu => h2 i c u hc (by simpa using hu))).mono fun e w' ⟨v,S',h1,h2,h3,_⟩ => ⟨by rw [h1,h2.inv_lit],h3⟩
end

theorem trodAll_stays {H : Type} {enc : TypeId × Value → H} {P : Program} (hl : laidOutB P = true) {W W' : World} (hb : Below W.heap.size W W') :
    ∀ (ts : List TypeId) (vs : List Value) (ds : List (DataW H)) (ps : List MemPlace),(∀ t ∈ ts,P.readableRec t = true ∧ t < P.types.size) →
      (∀ x ∈ ps,x.block < W.heap.size) → DataW.TrodAll enc P W 0 (fun _ => true) true ts vs ds ps → DataW.TrodAll enc P W' 0 (fun b => decide (b < W.heap.size)) true ts vs ds ps
  | [],[],[],_,_,_,h => h
  | t :: ts,v :: vs,d :: ds,ps,ht,hlt,⟨p,q,h1,h2,e⟩ => by
    subst e
    exact ⟨p,q,Below.trod hl (ht t (by simp)).1 (ht t (by simp)).2 h1 hb (fun x hx => hlt x (List.mem_append_left _ hx)),
      trodAll_stays hl hb ts vs ds q (fun t' h' => ht t' (List.mem_cons_of_mem _ h')) (fun x hx => hlt x (List.mem_append_right _ hx)) h2,rfl⟩
  | [],_ :: _,_,_,_,_,h => h.elim
  | [],[],_ :: _,_,_,_,h => h.elim
  | _ :: _,[],_,_,_,_,h => h.elim
  | _ :: _,_ :: _,[],_,_,_,h => h.elim
end Go.Proofs.Ytpficpldemickaa
