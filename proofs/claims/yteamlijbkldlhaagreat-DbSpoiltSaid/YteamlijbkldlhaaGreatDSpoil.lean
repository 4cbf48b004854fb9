import Derived.Test.YteamlijbkldlhaaGreatDTab
section
set_option linter.unusedSimpArgs false
set_option linter.unusedVariables false
namespace Go.Proofs.YteamlijbkldlhaaGreat.DbSpec
open AclSpec MetaSpec NodeSpec RecSpec PathSpec PageSpec

def offP (p : List Pg) (i : Nat) : Nat := ((p.take i).map fun x => x.pages.length).sum
def oneP (p : List Pg) (i : Nat) (x : Pg) : Prop :=
  x.keys.length = x.pages.length ∧ ∀ k,k < x.pages.length → x.pages[k]? = some ((offP p i + k : Nat) : Int) ∧ x.keys[k]? = some (firstAt p (offP p i + k)) ∧ offP p i + k < i
structure Listed (p : List Pg) (a : Nat) : Prop where
  one : ∀ i x,p[i]? = some x → oneP p i x
  all : offP p p.length = a
theorem offP_succ {p : List Pg} {i : Nat} {x : Pg} (h : p[i]? = some x) : offP p (i + 1) = offP p i + x.pages.length := by
  obtain ⟨hi,rfl⟩ := List.getElem?_eq_some_iff.1 h
  unfold offP
  rw [List.take_succ_eq_append_getElem hi,List.map_append,List.sum_append_nat]
  simp
theorem offP_app {p q : List Pg} {i : Nat} (h : i ≤ p.length) : offP (p ++ q) i = offP p i := by
  unfold offP
  rw [List.take_append_of_le_length h]
theorem offP_past (p q : List Pg) (j : Nat) : offP (p ++ q) (p.length + j) = offP p p.length + offP q j := by
  unfold offP
  rw [List.take_length_add_append,List.map_append,List.sum_append_nat,List.take_length]
theorem innerP_plen (p : List Pg) (a k : Nat) : (innerP p a k).pages.length = k := by unfold innerP;simp
theorem offP_level (p : List Pg) (a b : Nat) : ∀ j,j ≤ (b - a + 3) / 4 → offP (levelP p a b) j = min (4 * j) (b - a)
  | 0,_ => by unfold offP;simp
  | j + 1,h => by
    rw [offP_succ (levelP_at (by omega)),offP_level p a b j (by omega),innerP_plen]
    omega
theorem firstAt_app {p q : List Pg} {i : Nat} (h : i < p.length) : firstAt (p ++ q) i = firstAt p i := by
  unfold firstAt;rw [getD_app h]
theorem leaves_listed (l : List Rec) : Listed (leavesP l) 0 := by
  have h0 : ∀ x ∈ leavesP l,x.pages = [] ∧ x.keys = [] := fun x hx => by
    obtain ⟨j,_,rfl⟩ := List.mem_map.1 hx
    exact ⟨rfl,rfl⟩
  refine ⟨fun i x hx => ?_,?_⟩
  · obtain ⟨h1,h2⟩ := h0 x (List.mem_of_getElem? hx)
    refine ⟨by rw [h1,h2];rfl,fun k hk => ?_⟩
    rw [h1] at hk;cases hk
  · unfold offP
    rw [List.take_length]
    have : ∀ (m : List Pg),(∀ x ∈ m,x.pages = [] ∧ x.keys = []) → (m.map fun x => x.pages.length).sum = 0 := by
      intro m
      induction m with
      | nil => intro _;rfl
      | cons x r ih =>
        intro h
        rw [List.map_cons,List.sum_cons,ih (fun y hy => h y (by simp [hy])),(h x (by simp)).1];rfl
    exact this _ h0
theorem level_listed {p : List Pg} {a : Nat} (h : Listed p a) (ha : a ≤ p.length) : Listed (p ++ levelP p a p.length) p.length := by
  have hll := levelP_len p a p.length
  refine ⟨fun i x hx => ?_,?_⟩
  · by_cases hi : i < p.length
    · rw [List.getElem?_append_left hi] at hx
      obtain ⟨h1,h2⟩ := h.one i x hx
      refine ⟨h1,fun k hk => ?_⟩
      obtain ⟨g1,g2,g3⟩ := h2 k hk
      rw [offP_app (by omega)]
      exact ⟨g1,by rw [g2,firstAt_app (by omega)],g3⟩
    · have hi' : i = p.length + (i - p.length) := by omega
      have hil := (List.getElem?_eq_some_iff.1 hx).1
      rw [List.length_append,hll] at hil
      obtain ⟨j,hj⟩ : ∃ j,j = i - p.length := ⟨_,rfl⟩
      rw [List.getElem?_append_right (by omega),levelP_at (by omega)] at hx
      cases hx
      rw [← hj] at hi' ⊢
      refine ⟨by unfold innerP;simp,fun k hk => ?_⟩
      rw [innerP_plen] at hk
      rw [hi',offP_past,h.all,offP_level p a p.length j (by omega),show a + min (4 * j) (p.length - a) + k = a + 4 * j + k by omega]
      have hk2 : a + 4 * j + k < p.length := by omega
      rw [firstAt_app hk2]
      refine ⟨?_,?_,by omega⟩
      · unfold innerP
        simp only [List.getElem?_map]
        rw [List.getElem?_range' (by omega)]
        simp
      · unfold innerP
        simp only [List.getElem?_map]
        rw [List.getElem?_range' (by omega)]
        simp [firstAt]
  · rw [List.length_append,offP_past,h.all,hll,offP_level p a p.length _ (by omega)]
    omega
theorem levels_listed : ∀ (n : Nat) {p : List Pg} {a h : Nat},Inv p a h → Listed p a → p.length - a ≤ 4 ^ n → Listed (levelsP n p a) ((levelsP n p a).length - 1)
  | 0,p,a,h,hI,hL,hn => by
    have := hI.le
    rw [Nat.pow_zero] at hn
    have ha : p.length - 1 = a := by omega
    show Listed p (p.length - 1)
    rw [ha];exact hL
  | n + 1,p,a,h,hI,hL,hn => by
    rw [levelsP]
    have hle := hI.le
    by_cases h1 : 1 < p.length - a
    · rw [if_pos h1]
      have hl := levelP_len p a p.length
      have hn4 : 4 ^ (n + 1) = 4 * 4 ^ n := by rw [Nat.pow_succ,Nat.mul_comm]
      exact levels_listed n (level_inv hI h1) (level_listed hL (by omega)) (by rw [List.length_append,hl];omega)
    · rw [if_neg h1]
      have ha : p.length - 1 = a := by omega
      rw [ha];exact hL
theorem build_listed {l : List Rec} (h : mayRecs l = true) : Listed (buildP l) ((buildP l).length - 1) := by
  have hl := leavesP_len l
  have h2 := (mayRecs_ok h).2.1
  exact levels_listed 4 (leaves_inv h) (leaves_listed l) (by rw [hl];have : 4 ^ 4 = 256 := rfl;omega)
end Go.Proofs.YteamlijbkldlhaaGreat.DbSpec
end
section
set_option linter.unusedSimpArgs false
set_option linter.unusedVariables false
namespace Go.Proofs.YteamlijbkldlhaaGreat.DbSpec
open AclSpec MetaSpec NodeSpec RecSpec PathSpec PageSpec

theorem open_some {ps : List Pg} (h : openB ps = true) : ∃ l,mayRecs l = true ∧ ps = buildP l := by
  unfold openB at h
  cases hg : gatherA ps [] with
  | none => rw [hg] at h;cases h
  | some l =>
    rw [hg] at h
    simp only [Bool.and_eq_true,decide_eq_true_eq] at h
    exact ⟨l,h.1,h.2.symm⟩
theorem open_not {ps : List Pg} (h : ∀ l,mayRecs l = true → ps = buildP l → False) : openB ps = false := by
  cases hc : openB ps
  · rfl
  · obtain ⟨l,h1,h2⟩ := open_some hc
    exact (h l h1 h2).elim
theorem open_may {ps : List Pg} {x : Pg} (hx : x ∈ ps) (hm : mayPg x = false) : openB ps = false := open_not fun l hl he => by
  obtain ⟨b,hI,_⟩ := build_inv hl
  have := hI.may x (by rw [← he];exact hx)
  rw [hm] at this;cases this
theorem levels_app : ∀ (n : Nat) (p : List Pg) (a : Nat),∃ q,(∀ x ∈ q,x.leaf = false) ∧ levelsP n p a = p ++ q
  | 0,p,_ => ⟨[],by simp,by rw [List.append_nil];rfl⟩
  | n + 1,p,a => by
    rw [levelsP]
    split
    · obtain ⟨q,h1,h2⟩ := levels_app n (p ++ levelP p a p.length) p.length
      refine ⟨levelP p a p.length ++ q,fun x hx => ?_,by rw [h2,List.append_assoc]⟩
      rcases List.mem_append.1 hx with hx | hx
      · obtain ⟨j,_,rfl⟩ := List.mem_map.1 hx
        rfl
      · exact h1 x hx
    · exact ⟨[],by simp,by rw [List.append_nil]⟩
theorem build_split (R : List Rec) : ∃ q,(∀ x ∈ q,x.leaf = false) ∧ buildP R = leavesP R ++ q := levels_app 4 _ 0
theorem sum_drop (p : List Pg) {k : Nat} {x : Pg} (hk : p[k]? = some x) : offP p p.length = ((p.take k ++ p.drop (k + 1)).map fun x => x.pages.length).sum + x.pages.length := by
  obtain ⟨hi,rfl⟩ := List.getElem?_eq_some_iff.1 hk
  unfold offP
  rw [List.take_length]
  conv => lhs;rw [← List.take_append_drop k p,List.drop_eq_getElem_cons hi]
  simp only [List.map_append,List.map_cons,List.sum_append_nat,List.sum_cons]
  omega
theorem spoil_out {R : List Rec} (h : mayRecs R = true) {k : Nat} {x : Pg} (hk : (buildP R)[k]? = some x) : openB ((buildP R).take k ++ (buildP R).drop (k + 1)) = false := open_not fun l hl he => by
  have hL := build_listed h
  have hL2 := build_listed hl
  have hki := (List.getElem?_eq_some_iff.1 hk).1
  have hlen : (buildP l).length + 1 = (buildP R).length := by
    rw [← he,List.length_append,List.length_take,List.length_drop];omega
  have hs := sum_drop (buildP R) hk
  have h2 : offP (buildP l) (buildP l).length = (((buildP R).take k ++ (buildP R).drop (k + 1)).map fun x => x.pages.length).sum := by
    rw [he];unfold offP;rw [List.take_length]
  rw [hL.all,← h2,hL2.all] at hs
  have hpos : 0 < (buildP l).length := by
    obtain ⟨b,_,hb⟩ := build_inv hl
    omega
  obtain ⟨q,hq,hsp⟩ := build_split R
  by_cases hkl : k < (leavesP R).length
  · rw [hsp,List.getElem?_append_left hkl] at hk
    obtain ⟨j,_,rfl⟩ := List.mem_map.1 (List.mem_of_getElem? hk)
    rw [show (leafP R j).pages.length = 0 from rfl] at hs
    omega
  · have hg : gatherP ((buildP R).take k ++ (buildP R).drop (k + 1)) = gatherP (buildP R) := by
      rw [hsp,List.take_append,List.drop_append,List.take_of_length_le (by omega),List.drop_of_length_le (by omega),List.nil_append,List.append_assoc,gather_inner _ hq,gather_inner]
      intro y hy
      rcases List.mem_append.1 hy with hy | hy
      · exact hq y (List.mem_of_mem_take hy)
      · exact hq y (List.mem_of_mem_drop hy)
    rw [he,gather_build,gather_build] at hg
    rw [hg] at hlen
    omega
theorem spoil_twice {R : List Rec} (h : mayRecs R = true) {k : Nat} {x : Pg} (hk : (buildP R)[k]? = some x) : openB ((buildP R).take (k + 1) ++ x :: (buildP R).drop (k + 1)) = false := open_not fun l hl he => by
  have hL := build_listed h
  have hL2 := build_listed hl
  have hki := (List.getElem?_eq_some_iff.1 hk).1
  have htk : (buildP R).take (k + 1) = (buildP R).take k ++ [x] := by
    obtain ⟨hi,hx⟩ := List.getElem?_eq_some_iff.1 hk
    rw [List.take_succ_eq_append_getElem hi,hx]
  have hlen : (buildP l).length = (buildP R).length + 1 := by
    rw [← he,List.length_append,List.length_take,List.length_cons,List.length_drop];omega
  have hs := sum_drop (buildP R) hk
  have h2 : offP (buildP l) (buildP l).length = (((buildP R).take k ++ (buildP R).drop (k + 1)).map fun x => x.pages.length).sum + x.pages.length + x.pages.length := by
    rw [← he,htk];unfold offP;rw [List.take_length]
    simp only [List.map_append,List.map_cons,List.map_nil,List.sum_append_nat,List.sum_cons,List.sum_nil]
    omega
  rw [hL2.all] at h2
  rw [hL.all] at hs
  have hx1 : x.pages.length = 1 := by omega
  have e1 : (buildP l)[k]? = some x := by
    rw [← he,htk,List.append_assoc,List.getElem?_append_right (by rw [List.length_take];omega),List.length_take,show k - min k (buildP R).length = 0 by omega];rfl
  have e2 : (buildP l)[k + 1]? = some x := by
    rw [← he,List.getElem?_append_right (by rw [List.length_take];omega),List.length_take,show k + 1 - min (k + 1) (buildP R).length = 0 by omega];rfl
  have f1 := ((hL2.one k x e1).2 0 (by omega)).1
  have f2 := ((hL2.one (k + 1) x e2).2 0 (by omega)).1
  rw [offP_succ e1,f1,hx1] at f2
  have := Option.some.inj f2
  omega
theorem mem_set {p : List Pg} {k : Nat} (hk : k < p.length) (y : Pg) : y ∈ p.set k y := List.mem_iff_getElem?.2 ⟨k,by rw [List.getElem?_set_self hk]⟩
theorem spoil_leaf {R : List Rec} (h : mayRecs R = true) {k : Nat} {x : Pg} (hk : (buildP R)[k]? = some x) : openB ((buildP R).set k { x with leaf := !x.leaf }) = false := by
  obtain ⟨b,hI,_⟩ := build_inv h
  have hm := hI.may x (List.mem_of_getElem? hk)
  refine open_may (mem_set (List.getElem?_eq_some_iff.1 hk).1 _) ?_
  unfold mayPg at hm ⊢
  cases hl : x.leaf
  · rw [hl,if_neg (by decide)] at hm
    simp only [Bool.not_false,if_true]
    unfold mayInner at hm
    unfold mayLeaf
    simp only [Bool.and_eq_true,Bool.not_eq_true',decide_eq_true_eq,decide_eq_false_iff_not] at hm
    have : x.recs.length = 0 := by omega
    rw [this]
    simp
  · rw [hl,if_pos rfl] at hm
    simp only [Bool.not_true]
    rw [if_neg (by decide)]
    unfold mayLeaf at hm
    unfold mayInner
    simp only [Bool.and_eq_true,Bool.not_eq_true',decide_eq_true_eq,decide_eq_false_iff_not] at hm
    have : x.pages.length = 0 := by omega
    rw [this]
    simp
theorem spoil_key {R : List Rec} (h : mayRecs R = true) {k : Nat} {x : Pg} (hk : (buildP R)[k]? = some x) (z : List UInt8) : openB ((buildP R).set k { x with keys := x.keys ++ [z] }) = false := by
  obtain ⟨b,hI,_⟩ := build_inv h
  have hm := hI.may x (List.mem_of_getElem? hk)
  refine open_may (mem_set (List.getElem?_eq_some_iff.1 hk).1 _) ?_
  unfold mayPg at hm ⊢
  cases hl : x.leaf
  · rw [hl,if_neg (by decide)] at hm
    rw [if_neg (by decide)]
    unfold mayInner at hm ⊢
    simp only [Bool.and_eq_true,Bool.not_eq_true',decide_eq_true_eq,decide_eq_false_iff_not] at hm
    have : ¬ ((x.keys ++ [z]).length = x.pages.length) := by rw [List.length_append,List.length_singleton];omega
    simp only [decide_eq_false this,Bool.and_false,Bool.false_and]
  · rw [hl,if_pos rfl] at hm
    rw [if_pos rfl]
    unfold mayLeaf at hm ⊢
    simp only [Bool.and_eq_true,Bool.not_eq_true',decide_eq_true_eq,decide_eq_false_iff_not] at hm
    have : 0 < (x.keys ++ [z]).length := by rw [List.length_append,List.length_singleton];omega
    simp only [decide_eq_true this,Bool.not_true,Bool.and_false,Bool.false_and]
theorem spoil_zero {R : List Rec} {k : Nat} {x : Pg} (hk : (buildP R)[k]? = some x) : openB ((buildP R).set k zeroPg) = false :=
  open_may (mem_set (List.getElem?_eq_some_iff.1 hk).1 _) (by decide)
end Go.Proofs.YteamlijbkldlhaaGreat.DbSpec
end
