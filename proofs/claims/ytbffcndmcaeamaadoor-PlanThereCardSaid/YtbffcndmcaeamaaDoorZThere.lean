import Derived.Test.YtbffcndmcaeamaaDoorZCount
set_option linter.unusedSimpArgs false
set_option linter.unusedVariables false
namespace Go.Proofs.YtbffcndmcaeamaaDoor.PlanSpec
open AclSpec MetaSpec NodeSpec PathSpec TreeSpec

def greedy : List PStep → List PStep → Bool
  | _,[] => true
  | [],_ :: _ => false
  | x :: a,y :: b => if x = y then greedy a b else if x.kind = 1 then greedy a (y :: b) else false
inductive Thin (S : List UInt8 → Prop) : List PStep → List PStep → Nat → Prop
  | nil : Thin S [] [] 0
  | keep (x : PStep) {a b : List PStep} {n : Nat} (h : x.kind = 1 → ¬ S x.path) (t : Thin S a b n) : Thin S (x :: a) (x :: b) n
  | skip (x : PStep) {a b : List PStep} {n : Nat} (h : x.kind = 1) (hs : S x.path) (t : Thin S a b n) : Thin S (x :: a) b (n + 1)
theorem Thin.kept {S : List UInt8 → Prop} {a b : List PStep} {n : Nat} (t : Thin S a b n) : ∀ y ∈ b,y.kind = 1 → ¬ S y.path := by
  induction t with
  | nil => intro y hy;cases hy
  | keep x h t ih =>
    intro y hy
    rcases List.mem_cons.1 hy with rfl | hy
    · exact h
    · exact ih y hy
  | skip x h hs t ih => exact ih
theorem Thin.greedy {S : List UInt8 → Prop} {a b : List PStep} {n : Nat} (t : Thin S a b n) : greedy a b = true := by
  induction t with
  | nil => rfl
  | keep x h t ih => rw [PlanSpec.greedy,if_pos rfl];exact ih
  | @skip x a b n h hs t ih =>
    cases b with
    | nil => rfl
    | cons y b =>
      have hy := t.kept y (by simp)
      rw [PlanSpec.greedy,if_neg,if_pos h]
      · exact ih
      · rintro rfl;exact hy h hs
theorem Thin.length {S : List UInt8 → Prop} {a b : List PStep} {n : Nat} (t : Thin S a b n) : a.length = b.length + n := by
  induction t with
  | nil => rfl
  | keep x h t ih => simp only [List.length_cons];omega
  | skip x h hs t ih => simp only [List.length_cons];omega
theorem Thin.same {S : List UInt8 → Prop} : ∀ {a : List PStep},(∀ x ∈ a,x.kind = 1 → ¬ S x.path) → Thin S a a 0
  | [],_ => .nil
  | x :: a,h => .keep x (h x (by simp)) (Thin.same fun y hy => h y (by simp [hy]))
theorem Thin.app {S : List UInt8 → Prop} {a b a' b' : List PStep} {n n' : Nat} (t : Thin S a b n) (t' : Thin S a' b' n') : Thin S (a ++ a') (b ++ b') (n + n') := by
  induction t with
  | nil => rw [List.nil_append,List.nil_append,Nat.zero_add];exact t'
  | keep x h t ih => exact .keep x h ih
  | @skip x a b n h hs t ih =>
    rw [Nat.add_right_comm]
    exact .skip x h hs ih
theorem Thin.upTo {S : List UInt8 → Prop} {f g : Nat → List PStep} {c : Nat → Nat} : ∀ {n : Nat},(∀ i,i < n → Thin S (f i) (g i) (c i)) → Thin S (upTo f n) (upTo g n) (sumTo c n)
  | 0,_ => .nil
  | n + 1,h => by
    rw [PlanSpec.upTo,PlanSpec.upTo,sumTo]
    exact (Thin.upTo fun i hi => h i (by omega)).app (h n (by omega))

def thereTo (t : FTree) (sel : Nat → Bool) : Nat → List (List UInt8)
  | 0 => []
  | i + 1 => thereTo t sel i ++ if i ≠ 0 ∧ sel i = true then [pathI t.ents i] else []
def isDirI (t : FTree) (i : Nat) : Bool := match t.ents[i]? with | none => false | some e => decide ((nodeG t.nodes e.node).kind = 1)
def dirsTo (t : FTree) (sel : Nat → Bool) : Nat → Nat := sumTo fun i => if i ≠ 0 ∧ sel i = true ∧ isDirI t i = true then 1 else 0
theorem thereTo_mem (t : FTree) (sel : Nat → Bool) (p : List UInt8) : ∀ n : Nat,p ∈ thereTo t sel n ↔ ∃ i,i < n ∧ i ≠ 0 ∧ sel i = true ∧ pathI t.ents i = p
  | 0 => ⟨fun h => (by cases h),fun ⟨_,h,_⟩ => by omega⟩
  | n + 1 => by
    rw [thereTo,List.mem_append,thereTo_mem t sel p n]
    constructor
    · rintro (⟨i,h1,h2⟩ | h)
      · exact ⟨i,by omega,h2⟩
      · split at h
        · rename_i hc
          exact ⟨n,by omega,hc.1,hc.2,(List.mem_singleton.1 h).symm⟩
        · cases h
    · rintro ⟨i,h1,h2,h3,h4⟩
      by_cases hi : i = n
      · subst hi
        right
        rw [if_pos ⟨h2,h3⟩,h4];simp
      · exact .inl ⟨i,by omega,h2,h3,h4⟩
theorem file_kinds {p : List UInt8} {n : FNode} : ∀ s ∈ fileS p n,s.kind ≠ 1 := by
  intro s hs
  unfold fileS at hs
  rcases List.mem_cons.1 hs with rfl | hs
  · simp
  · split at hs
    · rcases List.mem_append.1 hs with hs | hs
      · unfold writesP at hs
        obtain ⟨j,_,rfl⟩ := List.mem_map.1 hs
        simp
      · split at hs
        · cases hs
        · rw [List.mem_singleton.1 hs];simp
    · cases hs
theorem last_kinds {p : List UInt8} : ∀ s ∈ last5 p,s.kind ≠ 1 := by
  intro s hs
  unfold last5 at hs
  simp only [List.mem_cons,List.not_mem_nil,or_false] at hs
  rcases hs with rfl | rfl | rfl | rfl | rfl <;> simp
theorem upTo_kinds {f : Nat → List PStep} : ∀ {n : Nat},(∀ i,∀ s ∈ f i,s.kind ≠ 1) → ∀ s ∈ upTo f n,s.kind ≠ 1
  | 0,_,s,hs => by cases hs
  | n + 1,h,s,hs => by
    rw [upTo] at hs
    rcases List.mem_append.1 hs with hs | hs
    · exact upTo_kinds h s hs
    · exact h n s hs
theorem plan_thin {t : FTree} (h : mayT t = true) (sel : Nat → Bool) : ∃ S,Thin S (planS t []) (planS t (thereTo t sel t.ents.length)) (dirsTo t sel t.ents.length) := by
  refine ⟨fun p => p ∈ thereTo t sel t.ents.length,?_⟩
  have hr := (mayT_valid h).rise
  have hmem : ∀ (i : Nat) (e : TEnt),t.ents[i]? = some e → (e.path ∈ thereTo t sel t.ents.length ↔ i ≠ 0 ∧ sel i = true) := by
    intro i e he
    rw [thereTo_mem]
    constructor
    · rintro ⟨j,h1,h2,h3,h4⟩
      have hj := List.getElem?_eq_getElem h1
      have : j = i := rise_inj hr hj he (by
        unfold pathI at h4
        rw [hj] at h4;exact h4)
      subst this
      exact ⟨h2,h3⟩
    · rintro ⟨h1,h2⟩
      exact ⟨i,(List.getElem?_eq_some_iff.1 he).1,h1,h2,by unfold pathI;rw [he];rfl⟩
  have hk1 : ∀ {l : List PStep},(∀ s ∈ l,s.kind ≠ 1) → Thin (fun p => p ∈ thereTo t sel t.ents.length) l l 0 := fun hl => .same fun x hx hk => absurd hk (hl x hx)
  have key : Thin (fun p => p ∈ thereTo t sel t.ents.length) (upTo (entS t []) t.ents.length) (upTo (entS t (thereTo t sel t.ents.length)) t.ents.length) (dirsTo t sel t.ents.length) := by
    unfold dirsTo
    refine Thin.upTo fun i hi => ?_
    have he := List.getElem?_eq_getElem hi
    generalize t.ents[i] = e at he
    have hm := hmem i e he
    have hd : exP t (thereTo t sel t.ents.length) e.path = (decide (i ≠ 0 ∧ sel i = true) && decide ((nodeG t.nodes e.node).kind = 1)) := by
      rw [Bool.eq_iff_iff]
      unfold exP isDirT
      simp only [List.any_eq_true,Bool.and_eq_true,decide_eq_true_eq]
      constructor
      · rintro ⟨q,hq,rfl,h1,h2⟩
        rw [find_ent h he] at h2
        exact ⟨hm.1 hq,h2⟩
      · rintro ⟨hq,hk⟩
        exact ⟨e.path,hm.2 hq,rfl,by rw [find_ent h he],by rw [find_ent h he];exact hk⟩
    unfold entS isDirI
    rw [he]
    simp only
    rw [hd,exP_nil]
    by_cases h0 : i = 0
    · rw [if_pos h0,if_pos h0,if_neg (fun hx => hx.1 h0)];exact .nil
    rw [if_neg h0,if_neg h0,if_neg (by simp)]
    by_cases hk : (nodeG t.nodes e.node).kind = 1
    · have hmade : made1 t i e = [⟨1,e.path,[],0⟩] := by unfold made1;rw [if_pos hk]
      rw [hmade]
      by_cases hs : sel i = true
      · rw [if_pos (by simp [h0,hs,hk]),if_pos ⟨h0,hs,by simp [hk]⟩]
        exact .skip _ rfl (hm.2 ⟨h0,hs⟩) .nil
      · rw [if_neg (by simp [hs]),if_neg (fun hx => hs hx.2.1)]
        exact .keep _ (fun _ hx => hs (hm.1 hx).2) .nil
    · rw [if_neg (by simp [hk]),if_neg (by simp [hk])]
      refine hk1 fun s hs => ?_
      unfold made1 at hs
      rw [if_neg hk] at hs
      split at hs
      · rw [List.mem_singleton.1 hs];simp
      · exact file_kinds s hs
  unfold planS
  have := (key.app (hk1 (l := upTo (othS t) t.ents.length) ?_)).app (hk1 (l := upTo (levS t) 9) ?_)
  · exact this
  · refine upTo_kinds fun i s hs => ?_
    unfold othS at hs
    split at hs
    · cases hs
    · split at hs
      · exact last_kinds s hs
      · cases hs
  · refine upTo_kinds fun k s hs => ?_
    unfold levS at hs
    refine upTo_kinds (fun i s hs => ?_) s hs
    unfold dirS at hs
    split at hs
    · cases hs
    · split at hs
      · exact last_kinds s hs
      · cases hs
theorem plan_there {t : FTree} (h : mayT t = true) (sel : Nat → Bool) :
    (planS t []).length = (planS t (thereTo t sel t.ents.length)).length + dirsTo t sel t.ents.length ∧ greedy (planS t []) (planS t (thereTo t sel t.ents.length)) = true := by
  obtain ⟨S,ht⟩ := plan_thin h sel
  exact ⟨ht.length,ht.greedy⟩
end Go.Proofs.YtbffcndmcaeamaaDoor.PlanSpec
