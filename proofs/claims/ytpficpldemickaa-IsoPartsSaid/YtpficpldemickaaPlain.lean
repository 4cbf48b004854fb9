import Derived.Test.YtpficpldemickaaSpec
set_option linter.unusedSimpArgs false
set_option linter.unusedVariables false
namespace Go.Proofs.Ytpficpldemickaa.PathSpec

theorem okc_47 {l : List UInt8} (h : l.all okc = true) : has l = false := by
  unfold has
  rw [List.any_eq_false]
  intro c hc
  have := List.all_eq_true.1 h c hc
  simp [okc] at this
  simp [this.1]
theorem nameB_parts {s : List UInt8} (h : nameB s = true) : 1 ≤ s.length ∧ s.length ≤ 20 ∧ has s = false := by
  simp only [nameB,Bool.and_eq_true,decide_eq_true_eq] at h
  exact ⟨h.1.1.1.1,h.1.1.1.2,okc_47 h.2⟩

def joinN : List (List UInt8) → List UInt8
  | [] => []
  | [x] => x
  | x :: y :: r => x ++ 47 :: joinN (y :: r)
theorem joinN_cons {x : List UInt8} {r : List (List UInt8)} (h : r ≠ []) : joinN (x :: r) = x ++ 47 :: joinN r := by
  cases r with
  | nil => exact absurd rfl h
  | cons y t => rfl
theorem joinN_snoc {xs : List (List UInt8)} (h : xs ≠ []) (y : List UInt8) : joinN (xs ++ [y]) = joinN xs ++ 47 :: y := by
  induction xs with
  | nil => exact absurd rfl h
  | cons x r ih =>
    cases r with
    | nil => rfl
    | cons z t => rw [List.cons_append,joinN_cons (by simp),ih (by simp),joinN_cons (x := x) (r := z :: t) (by simp)];simp
theorem joinN_append {xs ys : List (List UInt8)} (hx : xs ≠ []) (hy : ys ≠ []) : joinN (xs ++ ys) = joinN xs ++ 47 :: joinN ys := by
  induction xs with
  | nil => exact absurd rfl hx
  | cons x r ih =>
    cases r with
    | nil => exact joinN_cons hy
    | cons z t => rw [List.cons_append,joinN_cons (by simp),ih (by simp),joinN_cons (x := x) (r := z :: t) (by simp)];simp
theorem names_append (x y : List UInt8) : names (x ++ 47 :: y) = names x ++ names y := by
  induction hn : x.length using Nat.strongRecOn generalizing x with
  | _ n ih =>
    cases hh : has x
    · have h1 : has (x ++ 47 :: y) = true := by rw [has_append];simp
      rw [names_has h1,(hd_append hh y).1,(hd_append hh y).2,names_none hh];rfl
    · have e := cut_has hh
      have h1 : has (x ++ 47 :: y) = true := by rw [has_append];simp
      have h2 : x ++ 47 :: y = hd x ++ 47 :: (tl x ++ 47 :: y) := by
        conv => lhs;rw [e]
        simp
      have h3 := hd_append (has_hd x) (tl x ++ 47 :: y)
      rw [names_has h1,names_has hh]
      rw [← h2] at h3
      rw [h3.1,h3.2,ih (tl x).length (by have := tl_lt hh;omega) (tl x) rfl];rfl
theorem names_joinN {xs : List (List UInt8)} (h : xs ≠ []) (hx : ∀ x ∈ xs,has x = false) : names (joinN xs) = xs := by
  induction xs with
  | nil => exact absurd rfl h
  | cons x r ih =>
    cases r with
    | nil => exact names_none (hx x (by simp))
    | cons y t =>
      rw [joinN_cons (by simp),names_append,names_none (hx x (by simp)),ih (by simp) (fun z hz => hx z (List.mem_cons_of_mem _ hz))];rfl
theorem joinN_ne {xs : List (List UInt8)} (h : xs ≠ []) (hx : ∀ x ∈ xs,x ≠ []) : joinN xs ≠ [] := by
  cases xs with
  | nil => exact absurd rfl h
  | cons x r =>
    cases r with
    | nil => exact hx x (by simp)
    | cons y t => rw [joinN_cons (by simp)];simp

def okN (xs : List (List UInt8)) : Prop := (∀ x ∈ xs,nameB x = true) ∧ xs.length ≤ 8 ∧ (joinN xs).length ≤ 100
theorem okN.may {xs : List (List UInt8)} (h : okN xs) : mayB (joinN xs) = true := by
  by_cases h0 : xs = []
  · subst h0;rfl
  · have hn := names_joinN h0 (fun x hx => (nameB_parts (h.1 x hx)).2.2)
    have hne := joinN_ne h0 (fun x hx => nameB_ne (h.1 x hx))
    rw [mayB_go hne h.2.2]
    unfold mayK
    rw [hn]
    simp only [Bool.and_eq_true,List.all_eq_true,decide_eq_true_eq]
    exact ⟨h.1,by have := h.2.1;omega⟩
theorem okN.parts {xs : List (List UInt8)} (h : okN xs) : partsB (joinN xs) = xs := by
  by_cases h0 : xs = []
  · subst h0;rfl
  · have hn := names_joinN h0 (fun x hx => (nameB_parts (h.1 x hx)).2.2)
    have hne := joinN_ne h0 (fun x hx => nameB_ne (h.1 x hx))
    unfold partsB
    rw [h.may,hn]
    simp [hne]
theorem okN.depth {xs : List (List UInt8)} (h : okN xs) : depthB (joinN xs) = (xs.length : Int) := by
  unfold depthB;rw [h.may,h.parts];rfl
theorem okN.last {xs : List (List UInt8)} {y : List UInt8} (h : okN (xs ++ [y])) : lastB (joinN (xs ++ [y])) = y := by
  unfold lastB;rw [h.parts];simp
theorem okN.less {xs ys : List (List UInt8)} (h : okN xs) (k : okN ys) : lessB (joinN xs) (joinN ys) = lessL xs ys := by
  unfold lessB;rw [h.parts,k.parts]
theorem okN.init {xs : List (List UInt8)} {y : List UInt8} (h : okN (xs ++ [y])) : okN xs := by
  refine ⟨fun x hx => h.1 x (by simp [hx]),by have := h.2.1;simp at this;omega,?_⟩
  by_cases h0 : xs = []
  · subst h0;simp [joinN]
  · have := h.2.2
    rw [joinN_snoc h0] at this
    simp at this;omega
theorem okN.parent {xs : List (List UInt8)} {y : List UInt8} (h : okN (xs ++ [y])) : parentB (joinN (xs ++ [y])) = (joinN xs,true) := by
  have hp := h.parts
  obtain ⟨h1,h2⟩ := parentB_snoc hp
  rw [h1]
  have : par (joinN (xs ++ [y])) = joinN xs := by
    by_cases h0 : xs = []
    · subst h0
      exact par_none ((nameB_parts (h.1 y (by simp))).2.2)
    · have hs := joinN_snoc h0 y
      have hh : has (joinN (xs ++ [y])) = true := by rw [hs,has_append];simp
      have e := par_split hh
      rw [h2] at e
      rw [hs] at e ⊢
      have := List.append_inj' e (by simp)
      exact this.1.symm
  rw [this]
theorem okN.inj {xs ys : List (List UInt8)} (h : okN xs) (k : okN ys) (e : joinN xs = joinN ys) : xs = ys := by
  have := h.parts
  rw [e,k.parts] at this;exact this.symm
theorem okN.under {xs ys : List (List UInt8)} (h : okN xs) (k : okN ys) : underB (joinN xs) (joinN ys) = ys.isPrefixOf xs := by
  unfold underB
  rw [h.may,k.may,Bool.true_and,Bool.true_and,Bool.eq_iff_iff]
  simp only [Bool.or_eq_true,List.isPrefixOf_iff_prefix,beq_iff_eq]
  constructor
  · rintro ((h1 | h1) | ⟨r,h1⟩)
    · have : joinN ys = [] := by simpa using h1
      have hy : ys = [] := by
        rcases ys with _ | ⟨y,t⟩
        · rfl
        · exact absurd this (joinN_ne (by simp) (fun x hx => nameB_ne (k.1 x hx)))
      subst hy;exact List.nil_prefix
    · have := h.inj k h1
      subst this;exact List.prefix_refl _
    · have hx0 : xs ≠ [] := by rintro rfl;simp [joinN] at h1
      have hn := names_joinN hx0 (fun x hx => (nameB_parts (h.1 x hx)).2.2)
      rw [← h1,List.append_assoc,List.singleton_append,names_append] at hn
      rcases ys with _ | ⟨y,t⟩
      · exact List.nil_prefix
      · rw [names_joinN (by simp) (fun x hx => (nameB_parts (k.1 x hx)).2.2)] at hn
        exact ⟨_,hn⟩
  · rintro ⟨r,rfl⟩
    by_cases hy : ys = []
    · subst hy;exact .inl (.inl rfl)
    · by_cases hr : r = []
      · subst hr;exact .inl (.inr (by simp))
      · exact .inr ⟨joinN r,by rw [joinN_append hy hr];simp⟩

theorem bl_irr (x : List UInt8) : Op.bytesLess x x = false := by
  induction x with
  | nil => rfl
  | cons a t ih => simp [Op.bytesLess,ih]
theorem bl_tri (x y : List UInt8) : Op.bytesLess x y = true ∨ x = y ∨ Op.bytesLess y x = true := by
  induction x generalizing y with
  | nil => cases y <;> simp [Op.bytesLess]
  | cons a t ih =>
    cases y with
    | nil => simp [Op.bytesLess]
    | cons b s =>
      rcases ih s with h | h | h
      · by_cases e : a = b
        · subst e;left;simp [Op.bytesLess,h]
        · rcases Nat.lt_or_gt_of_ne (fun q => e (UInt8.toNat_inj.1 q)) with q | q
          · left;simp [Op.bytesLess,UInt8.lt_iff_toNat_lt,q]
          · right;right;simp [Op.bytesLess,UInt8.lt_iff_toNat_lt,q]
      · subst h
        by_cases e : a = b
        · subst e;right;left;rfl
        · rcases Nat.lt_or_gt_of_ne (fun q => e (UInt8.toNat_inj.1 q)) with q | q
          · left;simp [Op.bytesLess,UInt8.lt_iff_toNat_lt,q]
          · right;right;simp [Op.bytesLess,UInt8.lt_iff_toNat_lt,q]
      · by_cases e : a = b
        · subst e;right;right;simp [Op.bytesLess,h]
        · rcases Nat.lt_or_gt_of_ne (fun q => e (UInt8.toNat_inj.1 q)) with q | q
          · left;simp [Op.bytesLess,UInt8.lt_iff_toNat_lt,q]
          · right;right;simp [Op.bytesLess,UInt8.lt_iff_toNat_lt,q]
theorem bl_trans {x y z : List UInt8} (h : Op.bytesLess x y = true) (k : Op.bytesLess y z = true) : Op.bytesLess x z = true := by
  induction x generalizing y z with
  | nil =>
    cases y with
    | nil => simp [Op.bytesLess] at h
    | cons b s => cases z with
      | nil => simp [Op.bytesLess] at k
      | cons c r => rfl
  | cons a t ih =>
    cases y with
    | nil => simp [Op.bytesLess] at h
    | cons b s =>
      cases z with
      | nil => simp [Op.bytesLess] at k
      | cons c r =>
        simp only [Op.bytesLess,Bool.or_eq_true,Bool.and_eq_true,decide_eq_true_eq,beq_iff_eq,UInt8.lt_iff_toNat_lt] at h k ⊢
        rcases h with h | ⟨rfl,h⟩
        · rcases k with k | ⟨rfl,k⟩
          · left;omega
          · left;exact h
        · rcases k with k | ⟨rfl,k⟩
          · left;exact k
          · right;exact ⟨rfl,ih h k⟩
theorem bl_asym {x y : List UInt8} (h : Op.bytesLess x y = true) : Op.bytesLess y x = false := by
  cases k : Op.bytesLess y x
  · rfl
  · have := bl_trans h k;rw [bl_irr] at this;cases this
theorem ll_irr (x : List (List UInt8)) : lessL x x = false := by
  induction x with
  | nil => rfl
  | cons a t ih => simp [lessL,ih]
theorem ll_tri (x y : List (List UInt8)) : lessL x y = true ∨ x = y ∨ lessL y x = true := by
  induction x generalizing y with
  | nil => cases y <;> simp [lessL]
  | cons a t ih =>
    cases y with
    | nil => simp [lessL]
    | cons b s =>
      by_cases e : a = b
      · subst e
        rcases ih s with h | h | h
        · left;simp [lessL,h]
        · subst h;right;left;rfl
        · right;right;simp [lessL,h]
      · have e' : ¬ b = a := fun q => e q.symm
        rcases bl_tri a b with h | h | h
        · left;simp [lessL,e,h]
        · exact absurd h e
        · right;right;simp [lessL,e',h]
theorem ll_trans {x y z : List (List UInt8)} (h : lessL x y = true) (k : lessL y z = true) : lessL x z = true := by
  induction x generalizing y z with
  | nil =>
    cases y with
    | nil => simp [lessL] at h
    | cons b s => cases z with
      | nil => simp [lessL] at k
      | cons c r => rfl
  | cons a t ih =>
    cases y with
    | nil => simp [lessL] at h
    | cons b s =>
      cases z with
      | nil => simp [lessL] at k
      | cons c r =>
        by_cases e1 : a = b
        · subst e1
          by_cases e2 : a = c
          · subst e2
            simp [lessL] at h k ⊢;exact ih h k
          · simp [lessL,e2] at k ⊢;exact k
        · by_cases e2 : b = c
          · subst e2
            simp [lessL,e1] at h ⊢;exact h
          · simp [lessL,e1,e2] at h k
            have h3 := bl_trans h k
            have e3 : ¬ a = c := by rintro rfl;rw [bl_irr] at h3;cases h3
            simp [lessL,e3,h3]
theorem ll_asym {x y : List (List UInt8)} (h : lessL x y = true) : lessL y x = false := by
  cases k : lessL y x
  · rfl
  · have := ll_trans h k;rw [ll_irr] at this;cases this
theorem okN.take {xs : List (List UInt8)} (h : okN xs) : ∀ k,okN (xs.take k) := by
  intro k
  induction hn : xs.length - k generalizing k with
  | zero => rw [List.take_of_length_le (by omega)];exact h
  | succ n ih =>
    have hk : k < xs.length := by omega
    have := ih (k + 1) (by omega)
    rw [List.take_succ_eq_append_getElem hk] at this
    exact this.init
structure Ups (m : Nat) (last p : List UInt8) (up : Nat → List UInt8) : Prop where
  small : m < 8
  len : p.length ≤ 100
  lens : ∀ k,(up k).length ≤ 100
  lastLen : last.length ≤ 20
  par : parentB p = (up m,true)
  lastIs : lastB p = last
  joined : joinB (up m) last = (p,0)
  depth : depthB p = (m : Int) + 1
  depthUp : depthB (up m) = (m : Int)
  less : lessB (up m) p = true
  some : (p == []) = false
  self : underB p p = true
  under : ∀ k,underB p (up k) = true
  notUnder : ∀ k,k ≤ m → underB (up k) p = false
  step : ∀ k,k < m → parentB (up (k + 1)) = (up k,true)
  top : up 0 = []
end Go.Proofs.Ytpficpldemickaa.PathSpec
