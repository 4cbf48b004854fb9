import Derived.Test.YteamlijbkldlhaaGreatTEq
import Derived.Test.YteamlijbkldlhaaGreatPlain
set_option linter.unusedSimpArgs false
set_option linter.unusedVariables false
namespace Go.Proofs.YteamlijbkldlhaaGreat.TreeSpec
open AclSpec MetaSpec NodeSpec PathSpec

theorem join_names (l : List UInt8) : joinN (names l) = l := by
  induction hn : l.length using Nat.strongRecOn generalizing l with
  | _ n ih =>
    cases h : has l
    · rw [names_none h];rfl
    · have ht := tl_lt h
      rw [names_has h,joinN_cons (names_ne _),ih (tl l).length (by omega) (tl l) rfl]
      exact (cut_has h).symm
theorem parts_inj {a b : List UInt8} (ha : mayB a = true) (hb : mayB b = true) (h : partsB a = partsB b) : a = b := by
  unfold partsB at h
  rw [ha,hb] at h
  cases ea : a.isEmpty <;> cases eb : b.isEmpty <;> simp only [ea,eb,Bool.not_true,Bool.or_false,if_true,if_false,Bool.false_eq_true] at h
  · have := congrArg joinN h
    rwa [join_names,join_names] at this
  · exact absurd h (names_ne _)
  · exact absurd h.symm (names_ne _)
  · cases a <;> cases b <;> simp_all
theorem less_irr (a : List UInt8) : lessB a a = false := ll_irr _
theorem less_trans {a b c : List UInt8} (h : lessB a b = true) (k : lessB b c = true) : lessB a c = true := ll_trans h k
theorem less_tri {a b : List UInt8} (ha : mayB a = true) (hb : mayB b = true) : lessB a b = true ∨ a = b ∨ lessB b a = true := by
  rcases ll_tri (partsB a) (partsB b) with h | h | h
  · exact .inl h
  · exact .inr (.inl (parts_inj ha hb h))
  · exact .inr (.inr h)
def Rise (l : List TEnt) : Prop := l.Pairwise (fun x y => lessB x.path y.path = true) ∧ ∀ e ∈ l,mayB e.path = true
theorem Rise.tail {x : TEnt} {l : List TEnt} (h : Rise (x :: l)) : Rise l := ⟨(List.pairwise_cons.1 h.1).2,fun e he => h.2 e (by simp [he])⟩
theorem ordG_rise {ns : List FNode} : ∀ {r : List TEnt} {p : List UInt8} {used : Nat},ordG ns (some p) used r = true → Rise r ∧ ∀ e ∈ r,lessB p e.path = true
  | [],_,_,_ => ⟨⟨List.Pairwise.nil,by simp⟩,by simp⟩
  | x :: r,p,used,h => by
    have h0 := h
    unfold ordG entOk at h
    simp only [Bool.and_eq_true] at h
    obtain ⟨⟨⟨⟨⟨⟨⟨a,b⟩,_⟩,_⟩,_⟩,_⟩,_⟩,h2⟩ := h
    obtain ⟨i1,i2⟩ := ordG_rise h2
    refine ⟨⟨List.pairwise_cons.2 ⟨i2,i1.1⟩,fun e he => ?_⟩,fun e he => ?_⟩
    · rcases List.mem_cons.1 he with rfl | he
      · exact a
      · exact i1.2 e he
    · rcases List.mem_cons.1 he with rfl | he
      · exact b
      · exact less_trans b (i2 e he)
structure Valid (t : FTree) : Prop where
  head : ∃ e r,t.ents = e :: r ∧ e.path = [] ∧ Rise (e :: r) ∧ ∀ x ∈ r,x.path ≠ []
  range : ∀ e ∈ t.ents,0 ≤ e.node ∧ e.node < t.nodes.length
theorem mayT_valid {t : FTree} (h : mayT t = true) : Valid t := by
  unfold mayT at h
  simp only [Bool.and_eq_true,decide_eq_true_eq] at h
  obtain ⟨⟨⟨⟨h1,h2⟩,h3⟩,h4⟩,h5⟩ := h
  have hr := ordG_range h3
  cases ht : t.ents with
  | nil => rw [ht] at h1;simp at h1
  | cons e r =>
    rw [ht] at h3
    unfold ordG entOk at h3
    simp only [Bool.and_eq_true,decide_eq_true_eq] at h3
    obtain ⟨⟨⟨⟨⟨⟨⟨a,b⟩,_⟩,_⟩,_⟩,_⟩,_⟩,h6⟩ := h3
    obtain ⟨i1,i2⟩ := ordG_rise h6
    refine ⟨⟨e,r,ht,b,⟨List.pairwise_cons.2 ⟨i2,i1.1⟩,fun x hx => ?_⟩,fun x hx => (ordG_paths h6 x hx).1⟩,hr⟩
    rcases List.mem_cons.1 hx with rfl | hx
    · exact a
    · exact i1.2 x hx

def lone : List TEnt → List TEnt → List UInt8
  | [],_ => []
  | e :: r,b => if (findT b e.path).2 then lone r b else e.path
theorem less_ne {a b : List UInt8} (h : lessB a b = true) : ¬ a = b := by rintro rfl;rw [less_irr] at h;cases h
structure TPair where
  path : List UInt8
  a : Int
  b : Int
  deriving DecidableEq,Inhabited
def nodeG (ns : List FNode) (i : Int) : FNode := (ns[i.toNat]?).getD default
end Go.Proofs.YteamlijbkldlhaaGreat.TreeSpec
