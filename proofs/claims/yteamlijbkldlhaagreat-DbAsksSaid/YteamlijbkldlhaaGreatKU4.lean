import Derived.Test.YteamlijbkldlhaaGreatKTA
import Derived.Test.YteamlijbkldlhaaGreatRBare
import Derived.Test.YteamlijbkldlhaaGreatL25
section
set_option linter.unusedSimpArgs false
set_option linter.unusedVariables false
namespace Go.Proofs.YteamlijbkldlhaaGreat
open Go.RowKit Go.Proofs RecSpec

def bytesL' (b : List UInt8) : LV := .sl b.length (bL b) .no
theorem wu8 {n : Nat} (h : n < 256) : IntKind.u8.wrap (n : Int) = (n : Int) := by
  have h2 : IntKind.u8.wrap (n : Int) = (n : Int) % 256 := by unfold IntKind.wrap;rfl
  rw [h2];omega
theorem wuN {n : Nat} (h : n < 18446744073709551616) : IntKind.u64.wrap (n : Int) = n := by
  have h2 : IntKind.u64.wrap (n : Int) = (n : Int) % 18446744073709551616 := by unfold IntKind.wrap;rfl
  rw [h2];omega
theorem nmod (a b : Nat) (x : Int) (h : x = b) : (a : Int).tmod x = ((a % b : Nat) : Int) := by
  rw [h,Int.tmod_eq_emod_of_nonneg (by omega)];rfl
theorem wb {c : UInt8} : IntKind.u64.wrap (c.toNat : Int) = (c.toNat : Int) := wuN (by have := c.toNat_lt;omega)
end Go.Proofs.YteamlijbkldlhaaGreat
end
section
set_option linter.unusedSimpArgs false
set_option linter.unusedVariables false
namespace Go.Proofs.YteamlijbkldlhaaGreat
open Go.RowKit Go.Proofs RecSpec

end Go.Proofs.YteamlijbkldlhaaGreat
end
section
set_option linter.unusedSimpArgs false
set_option linter.unusedVariables false
namespace Go.Proofs.YteamlijbkldlhaaGreat
open Go.RowKit Go.Proofs RecSpec

end Go.Proofs.YteamlijbkldlhaaGreat
end
section
set_option linter.unusedSimpArgs false
set_option linter.unusedVariables false
namespace Go.Proofs.YteamlijbkldlhaaGreat
open Go.RowKit Go.Proofs RecSpec

theorem hasp_L (s p : List UInt8) : LCalls Tryz.prog 76 [strL s,strL p] (boolL (p.isPrefixOf s)) := by
  refine LCalls.lit_of (enters_of Tryz.func76 (by kernel_rfl) rfl) fun w S vs _ hs hr => ?_
  obtain ⟨a,b,rfl⟩ := args2 hs
  have h0 := (hr 0 _ a rfl rfl).inv_lit
  have h1 := (hr 1 _ b rfl rfl).inv_lit
  subst h0;subst h1
  refine (Tryz.strings_HasPrefix ⟨s.toArray⟩ ⟨p.toArray⟩ w).mono ?_
  rintro e w' ⟨rfl,rfl⟩
  exact ⟨rfl,G.refl _⟩
theorem pre_one (c : UInt8) (s : List UInt8) : [c].isPrefixOf s = decide (s.head? = some c) := by
  cases s with
  | nil => simp
  | cons a r =>
    simp only [List.isPrefixOf,List.head?_cons,Option.some.injEq,Bool.and_true]
    by_cases h : c = a
    · subst h;simp
    · simp [h,Ne.symm h]
set_option maxRecDepth 100000 in
theorem rlen_L (s : List UInt8) (hs : s.length ≤ 1000000) : LCalls Tryz.prog 97 [strL s] (intL (lenS s)) := by
  have ch := hasp_L s [48]
  rw [pre_one] at ch
  refine LCalls.of (fun _ => false) Tryz.func97 rfl (by decide) Tryz.ntmps97 Tryz.results97 (by simp) ?_
  intro w0 S0 vs hgl hwf0 hsz hvs;clear hsz hvs hwf0 hgl
  generalize hR : lenS s = R
  unfold lenS at hR
  refine Yg0 ?_
  by_cases h4 : 4 < s.length
  · have h4i : ((4 : Int) < (s.length : Int)) = True := eq_true (by omega)
    refine LW_scope_straight ?_
    refine Yg1 @h4i ?_
    refine Yt0 ?_
    refine Yg0 ?_
    refine Ye0 ?_;try (with_reducible exact trivial)
    rw [← hR,if_pos (.inl h4)];rfl
  have h4i : ¬ ((4 : Int) < (s.length : Int)) := by omega
  by_cases h0 : s.head? = some 48
  · rw [decide_eq_true h0] at ch
    refine LW_scope_straight ?_
    refine Yr1 @h4i ?_;intro K hK
    refine Yc0 (ch) ?_
    refine hK _ ?_;clear hK K;try refine Wh0 ?_
    refine Yt0 ?_
    refine Yg0 ?_
    refine Ye0 ?_;try (with_reducible exact trivial)
    rw [← hR,if_pos (.inr h0)];rfl
  rw [decide_eq_false h0] at ch
  rw [if_neg (by rintro (h | h);exact h4 h;exact h0 h)] at hR
  refine LW_lab1 (fun m st => ∃ i n : Nat,m + i = s.length ∧ n < 10 ^ i ∧ numD (s.drop i) n = numD s 0 ∧ st.env 0 = strL s ∧ st.env 3 = intL n ∧ st.env 4 = intL i) rfl ?_ ?_
  · intro hJ
    refine Yr1 @h4i ?_;intro K hK
    refine Yc0 (ch) ?_
    refine hK _ ?_;clear hK K;try refine Wh0 ?_
    refine Yf0 ?_
    refine Yl0 ?_
    exact hJ.out s.length _ ⟨0,0,by omega,by decide,rfl,Yq0,Yq0,Yq0⟩
  · rintro m st ⟨i,n,hm,hn,hd,e0,e3,e4⟩
    have hn4 : n < 10000 := Nat.lt_of_lt_of_le hn (Nat.pow_le_pow_right (by decide) (show i ≤ 4 by omega))
    by_cases hlt : i < s.length
    rotate_left
    · have hei : ((i : Int) = (s.length : Int)) = True := eq_true (by omega)
      rw [List.drop_of_length_le (by omega)] at hd
      rw [← hd] at hR
      simp only [numD] at hR
      refine Yg1 (fa3 @e0 @e4 @hei) ?_
      refine Yt0 ?_
      by_cases hb : 4000 < n
      · have hbi : ((4000 : Int) < (n : Int)) = True := eq_true (by omega)
        refine Yg1 (fa2 @e3 @hbi) ?_
        refine Yt0 ?_
        refine Yg0 ?_
        refine Ye0 ?_;try (with_reducible exact trivial)
        rw [← hR,if_pos hb];rfl
      · have hbi : ¬ ((4000 : Int) < (n : Int)) := by omega
        refine Yg1 (fa2 @e3 @hbi) ?_
        refine Yf0 ?_
        refine Yg1 @e3 ?_
        refine Ye0 ?_;try (with_reducible exact trivial)
        rw [← hR,if_neg hb]
    · obtain ⟨c,hc⟩ := get_of_lt hlt
      have hcl : s[i] = c := by
        have := List.getElem?_eq_getElem hlt
        rw [hc] at this;exact (Option.some.inj this).symm
      have hei : ¬ ((i : Int) = (s.length : Int)) := by omega
      have hg : (i : Int) < s.length := by omega
      have hw := w64s (n := i) (by omega)
      have hcn := c.toNat_lt
      rw [List.drop_eq_getElem_cons hlt,hcl] at hd
      simp only [numD] at hd
      refine Yg1 (fa3 @e0 @e4 @hei) ?_
      refine Yf1 @hei ?_
      by_cases h1 : c.toNat < 48
      · have h1i : ((c.toNat : Int) < 48) = True := eq_true (by omega)
        refine Yg1 (fa5 @e0 @e4 @hg @hc @h1i) ?_
        refine Yt0 ?_
        refine Yg0 ?_
        refine Ye0 ?_;try (with_reducible exact trivial)
        rw [if_neg (by unfold digB;simp;omega)] at hd
        rw [← hR,← hd];rfl
      have h1i : ¬ ((c.toNat : Int) < 48) := by omega
      by_cases h2 : 57 < c.toNat
      · have h2i : ((57 : Int) < (c.toNat : Int)) = True := eq_true (by omega)
        refine Yg1 (fa6 @e0 @e4 @hg @hc @h1i @h2i) ?_
        refine Yt0 ?_
        refine Yg0 ?_
        refine Ye0 ?_;try (with_reducible exact trivial)
        rw [if_neg (by unfold digB;simp;omega)] at hd
        rw [← hR,← hd];rfl
      have h2i : ¬ ((57 : Int) < (c.toNat : Int)) := by omega
      rw [if_pos (by unfold digB;simp;omega)] at hd
      have f1 : IntKind.u8.wrap ((c.toNat : Int) - 48) = ((c.toNat - 48 : Nat) : Int) := by
        rw [show (c.toNat : Int) - 48 = ((c.toNat - 48 : Nat) : Int) by omega];exact wu8 (by omega)
      have f2 : IntKind.i64.wrap ((c.toNat - 48 : Nat) : Int) = ((c.toNat - 48 : Nat) : Int) := w64 (by omega)
      have f3 : IntKind.i64.wrap (10 * (n : Int)) = ((10 * n : Nat) : Int) := by
        rw [show 10 * (n : Int) = ((10 * n : Nat) : Int) by omega];exact w64 (by omega)
      have f4 : IntKind.i64.wrap (((10 * n : Nat) : Int) + ((c.toNat - 48 : Nat) : Int)) = ((10 * n + (c.toNat - 48) : Nat) : Int) := by
        rw [show ((10 * n : Nat) : Int) + ((c.toNat - 48 : Nat) : Int) = ((10 * n + (c.toNat - 48) : Nat) : Int) by omega];exact w64 (by omega)
      refine Yg1 (fa6 @e0 @e4 @hg @hc @h1i @h2i) ?_
      refine Yf0 ?_
      refine Yg1 (fa10 @e0 @e3 @e4 @hg @hc @f1 @f2 @f3 @f4 @hw) ?_
      refine LW_goto ?_;simp only [thenL,jumpsL,inBlockL,twoL,true_and]
      exact ⟨m - 1,by omega,i + 1,10 * n + (c.toNat - 48),by omega,by rw [Nat.pow_succ];omega,hd,(Yq1 @e0),(Yq1 (fa4 @f1 @f2 @f3 @f4)),(Yq1 @hw)⟩
end Go.Proofs.YteamlijbkldlhaaGreat
end
