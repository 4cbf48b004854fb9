import Derived.Test.YtbffcndmcaeamaaDoorKTB
import Derived.Test.YtbffcndmcaeamaaDoorTFile
import Derived.Test.YtbffcndmcaeamaaDoorL26
section
set_option linter.unusedSimpArgs false
set_option linter.unusedVariables false
namespace Go.Proofs.YtbffcndmcaeamaaDoor
open Go.RowKit Go.Proofs PathSpec

set_option maxRecDepth 100000 in
theorem rjoin_L (a b : List UInt8) (ha : a.length < 400000) (hb : b.length < 400000) : LCalls Tryd.prog 13 [strL a,strL b] (.tup [strL (joinB a b).1,intL (joinB a b).2]) := by
  have c1 := rpmay_L a (by omega)
  have c2 := rpname_L b (by omega)
  have hl1 : a.length + 1 ≤ 9223372036854775807 := by omega
  have hl2 : a.length + 1 + b.length ≤ 9223372036854775807 := by omega
  refine LCalls.of (fun _ => false) Tryd.func13 rfl (by decide) Tryd.ntmps13 Tryd.results13 (by simp) ?_
  intro w0 S0 vs hgl hwf0 hsz hvs;clear hsz hvs hwf0 hgl
  generalize hR : joinB a b = R
  unfold joinB at hR
  refine Yg0 ?_
  cases h1 : mayB a
  · rw [h1] at c1 hR
    refine Yr0 ?_;intro K hK
    refine Yc0 (c1) ?_
    refine hK _ ?_;clear hK K;try refine Wh0 ?_
    refine Yt0 ?_
    refine Yg0 ?_
    refine Ye0 ?_;try (with_reducible exact trivial)
    rw [← hR];exact ⟨rfl,rfl⟩
  rw [h1] at c1 hR
  cases h2 : nameB b
  · rw [h2] at c2 hR
    refine Yr0 ?_;intro K hK
    refine Yc0 (c1) ?_
    refine Yc0 (c2) ?_
    refine hK _ ?_;clear hK K;try refine Wh0 ?_
    refine Yt0 ?_
    refine Yg0 ?_
    refine Ye0 ?_;try (with_reducible exact trivial)
    rw [← hR];exact ⟨rfl,rfl⟩
  rw [h2] at c2 hR
  refine Yr0 ?_;intro K hK
  refine Yc0 (c1) ?_
  refine Yc0 (c2) ?_
  refine hK _ ?_;clear hK K;try refine Wh0 ?_
  refine Yf0 ?_
  simp only [Bool.not_true,Bool.or_self,Bool.false_eq_true,if_false] at hR
  by_cases h0 : a = []
  · have he : a.isEmpty = true := by rw [h0];rfl
    rw [he,if_pos rfl] at hR
    have c3 := rpmay_L b (by omega)
    refine Yg1 @h0 ?_
    refine Yf0 ?_
    cases h3 : mayB b
    · rw [h3] at c3 hR
      refine Yr0 ?_;intro K hK
      refine Yc0 (c3) ?_
      refine hK _ ?_;clear hK K;try refine Wh0 ?_
      refine Yt0 ?_
      refine Yg0 ?_
      refine Ye0 ?_;try (with_reducible exact trivial)
      rw [← hR];exact ⟨rfl,rfl⟩
    · rw [h3] at c3 hR
      refine Yr0 ?_;intro K hK
      refine Yc0 (c3) ?_
      refine hK _ ?_;clear hK K;try refine Wh0 ?_
      refine Yf0 ?_
      refine Yg0 ?_
      refine Ye0 ?_;try (with_reducible exact trivial)
      rw [← hR];exact ⟨rfl,rfl⟩
  · have he : a.isEmpty = false := by cases a <;> simp_all
    rw [he] at hR
    simp only [Bool.false_eq_true,if_false] at hR
    have c3 := rpmay_L (a ++ 47 :: b) (by simp;omega)
    have hcat : a ++ [47] ++ b = a ++ 47 :: b := by simp
    refine Yg1 @h0 ?_
    refine Yt0 ?_
    refine Yg1 (fa3 @hl1 @hl2 @hcat) ?_
    cases h3 : mayB (a ++ 47 :: b)
    · rw [h3] at c3 hR
      refine Yr1 (fa3 @hl1 @hl2 @hcat) ?_;intro K hK
      refine Yc0 (c3) ?_
      refine hK _ ?_;clear hK K;try refine Wh0 ?_
      refine Yt0 ?_
      refine Yg0 ?_
      refine Ye0 ?_;try (with_reducible exact trivial)
      rw [← hR];exact ⟨rfl,rfl⟩
    · rw [h3] at c3 hR
      refine Yr1 (fa3 @hl1 @hl2 @hcat) ?_;intro K hK
      refine Yc0 (c3) ?_
      refine hK _ ?_;clear hK K;try refine Wh0 ?_
      refine Yf0 ?_
      refine Yg0 ?_
      refine Ye0 ?_;try (with_reducible exact trivial)
      rw [← hR];exact ⟨rfl,rfl⟩
end Go.Proofs.YtbffcndmcaeamaaDoor
end
section
set_option linter.unusedSimpArgs false
set_option linter.unusedVariables false
namespace Go.Proofs.YtbffcndmcaeamaaDoor
open Go.RowKit Go.Proofs AclSpec MetaSpec NodeSpec PathSpec TreeSpec

theorem digit : ∀ k : Fin 10,List.drop k.1 (48 :: List.take k.1 ([49,50,51,52,53,54,55,56,57] : List UInt8)) = [48 + k.1.toUInt8] := by decide
set_option maxRecDepth 100000 in
theorem decimal_L (n : Nat) (hn : n ≤ 1000000) : LCalls Tryd.prog 15 [intL n] (strL (decB n)) := by
  refine LCalls.of (fun _ => false) Tryd.func15 rfl (by decide) Tryd.ntmps15 Tryd.results15 (by simp) ?_
  intro w0 S0 vs hgl hwf0 hsz hvs;clear hsz hvs hwf0 hgl
  generalize hR : decB n = R
  refine Yg0 ?_
  refine LW_joinB (fun st => ∃ (m : Nat) (s : List UInt8),m ≤ 9 ∧ s.length ≤ 1000000 ∧ st.env 0 = intL m ∧ st.env 3 = strL s ∧ decB m ++ s = R) ?_ ?_
  · refine LW_loop (fun k st => ∃ (m : Nat) (s : List UInt8),k = m ∧ m + s.length ≤ 1000000 ∧ st.env 0 = intL m ∧ st.env 3 = strL s ∧ decB m ++ s = R) n ⟨n,[],rfl,by simp;omega,Yq0,Yq0,by rw [List.append_nil];exact hR⟩ ?_
    rintro k st ⟨m,s,hk,hms,e0,e3,hr⟩
    by_cases hc : (9 : Int) < m
    · have hm : m % 10 < 10 := Nat.mod_lt _ (by decide)
      have t1 : (m : Int).tmod 10 = ((m % 10 : Nat) : Int) := by rw [Int.tmod_eq_emod_of_nonneg (by omega)];omega
      have t2 : (m : Int).tdiv 10 = ((m / 10 : Nat) : Int) := by rw [Int.tdiv_eq_ediv_of_nonneg (by omega)];omega
      have hw := w64s (n := m % 10) (by omega)
      have hq : IntKind.i64.wrap ((m / 10 : Nat) : Int) = ((m / 10 : Nat) : Int) := w64 (by omega)
      have hq2 : IntKind.i64.wrap ((m % 10 : Nat) : Int) = ((m % 10 : Nat) : Int) := w64 (by omega)
      refine Yg1 (fa2 @e0 @hc) ?_
      refine Yt0 ?_
      have hdg := digit ⟨m % 10,hm⟩
      have hin : (m % 10 ≤ m % 10 + 1 ∧ ((m % 10 + 1 : Nat) : Int) ≤ 10) = True := eq_true ⟨by omega,by omega⟩
      have hcat : 0 + 1 + s.length ≤ 9223372036854775807 := by omega
      have hcat2 : 1 + s.length ≤ 9223372036854775807 := by omega
      have hmd : ((m / 10 : Nat)) < m := by omega
      rw [decB,if_neg (by omega),List.append_assoc] at hr
      refine Yg1 (fa11 @e0 @e3 @t1 @t2 @hw @hq @hq2 @hdg @hin @hcat @hcat2) ?_
      exact ⟨m / 10,by omega,m / 10,[48 + (m % 10).toUInt8] ++ s,rfl,by simp;omega,(Yq1 (fa2 @t2 @hq)),Yq0,hr⟩
    · refine Yg1 (fa2 @e0 @hc) ?_
      refine Yf0 ?_
      refine LW_exit ?_;simp only [thenL,jumpsL,inBlockL,twoL,reduceIte,Nat.reduceEqDiff]
      exact ⟨m,s,by omega,by omega,(Yq1 @e0),(Yq1 @e3),hr⟩
  · rintro st ⟨m,s,hm,hs,e0,e3,hr⟩
    have hw := w64s (n := m) (by omega)
    have hdg := digit ⟨m,by omega⟩
    have hin : (m ≤ m + 1 ∧ ((m + 1 : Nat) : Int) ≤ 10) = True := eq_true ⟨by omega,by omega⟩
    have hcat : 0 + 1 + s.length ≤ 9223372036854775807 := by omega
    have hcat2 : 1 + s.length ≤ 9223372036854775807 := by omega
    rw [decB,if_pos hm] at hr
    refine Yg1 (fa7 @e0 @e3 @hw @hdg @hin @hcat @hcat2) ?_
    refine Ye0 ?_;try (with_reducible exact trivial)
    rw [← hr];rfl
end Go.Proofs.YtbffcndmcaeamaaDoor
end
