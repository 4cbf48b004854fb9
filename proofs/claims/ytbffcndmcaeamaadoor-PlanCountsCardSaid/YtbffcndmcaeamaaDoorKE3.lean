import Derived.Test.YtbffcndmcaeamaaDoorL14
import Derived.Test.YtbffcndmcaeamaaDoorFlo
import Derived.Test.YtbffcndmcaeamaaDoorShelf
import Derived.Shelf.SlSortCmp.NoneTotal
section
set_option linter.unusedSimpArgs false
set_option linter.unusedVariables false
namespace Go.Proofs.YtbffcndmcaeamaaDoor
open Go.RowKit Go.Sort Go.Proofs Flo

def eV (z : Nat × Nat) : Value := .complex .f64 (fI (min z.1 big)) (fI (min z.2 big))
end Go.Proofs.YtbffcndmcaeamaaDoor
end
section
set_option linter.unusedSimpArgs false
set_option linter.unusedVariables false
namespace Go.Proofs.YtbffcndmcaeamaaDoor
open Go.RowKit Go.Proofs Flo Ext

def eE (z : Nat × Nat) : List LV := [.lit (eV z)]
def eL (l : List (Nat × Nat)) : LV := rowL eE l
theorem eE_len (z : Nat × Nat) : (eE z).length = 1 := rfl
def limI (v : Int) : Nat := (min (max v 0) 1099511627776).toNat
theorem limI_le (v : Int) : limI v ≤ big := by unfold limI big;omega
def okE (z : Nat × Nat) : Prop := z.1 ≤ big ∧ z.2 ≤ big
set_option maxRecDepth 100000 in
theorem limit_L (v : Int) : LCalls Tryd.prog 91 [intL v] (intL (limI v)) := by
  refine LCalls.of (fun _ => false) Tryd.func91 rfl (by decide) Tryd.ntmps91 Tryd.results91 (by simp) ?_
  intro w0 S0 vs hgl hwf0 hsz hvs;clear hsz hvs hwf0 hgl
  have e : (limI v : Int) = if (1099511627776 : Int) < (if (0 : Int) > v then 0 else v) then 1099511627776 else (if (0 : Int) > v then 0 else v) := by
    unfold limI;split <;> split at * <;> omega
  rw [e]
  refine Wg1 @intL.eq_1 ?_
  refine We0 ?_;try (with_reducible exact trivial)
set_option maxRecDepth 100000 in
theorem part_L (b : Nat) : LCalls Tryd.prog 90 [.lit (.float .f64 b)] (intL (partI b)) := by
  refine LCalls.of (fun _ => false) Tryd.func90 rfl (by decide) Tryd.ntmps90 Tryd.results90 (by simp) ?_
  intro w0 S0 vs hgl hwf0 hsz hvs;clear hsz hvs hwf0 hgl
  have hb : ((big : Nat) : Int) = 1099511627776 := rfl
  have h0 : ((0 : Nat) : Int) = 0 := rfl
  rcases part_cases b with ⟨h1,h2⟩ | ⟨h1,h2,h3,h4⟩ | ⟨h1,h2,h3⟩ | ⟨h1,h2,h3,h4⟩ | ⟨h1,h2,h3⟩ | ⟨h1,h2,h3⟩
  · have g1 : (FloatKind.f64.format.order b 4787326403894837248 == some Ordering.gt) = true := by rw [show FloatKind.f64.format.order b 4787326403894837248 = some .gt from h1];rfl
    refine Wg1 @g1 ?_
    refine Wt0 ?_
    refine Wg0 ?_
    refine We1 (fa2 @h2 @hb) ?_;try (with_reducible exact trivial)
  · have g1 : (FloatKind.f64.format.order b 4787326403894837248 == some Ordering.gt) = false := by rw [show FloatKind.f64.format.order b 4787326403894837248 = some .eq from h1];rfl
    have g2 : (FloatKind.f64.format.order b 0 == some Ordering.gt) = true := by rw [show FloatKind.f64.format.order b 0 = some .gt from h2];rfl
    refine Wg1 @g1 ?_
    refine Wf0 ?_
    refine Wg1 @g2 ?_
    refine Wt0 ?_
    refine Wg1 @h4 ?_
    refine We1 @h3 ?_;try (with_reducible exact trivial)
  · have g1 : (FloatKind.f64.format.order b 4787326403894837248 == some Ordering.gt) = false := by rw [show FloatKind.f64.format.order b 4787326403894837248 = some .lt from h1];rfl
    have g2 : (FloatKind.f64.format.order b 0 == some Ordering.gt) = true := by rw [show FloatKind.f64.format.order b 0 = some .gt from h2];rfl
    refine Wg1 @g1 ?_
    refine Wf0 ?_
    refine Wg1 @g2 ?_
    refine Wt0 ?_
    refine Wg1 @h3 ?_
    refine We0 ?_;try (with_reducible exact trivial)
  · have g1 : (FloatKind.f64.format.order b 4787326403894837248 == some Ordering.gt) = false := by rw [show FloatKind.f64.format.order b 4787326403894837248 = some .lt from h1];rfl
    have g2 : (FloatKind.f64.format.order b 0 == some Ordering.gt) = false := by rw [show FloatKind.f64.format.order b 0 = some .eq from h2];rfl
    refine Wg1 @g1 ?_
    refine Wf0 ?_
    refine Wg1 @g2 ?_
    refine Wf0 ?_
    refine Wg0 ?_
    refine We1 (fa2 @h4 @h0) ?_;try (with_reducible exact trivial)
  · have g1 : (FloatKind.f64.format.order b 4787326403894837248 == some Ordering.gt) = false := by rw [show FloatKind.f64.format.order b 4787326403894837248 = some .lt from h1];rfl
    have g2 : (FloatKind.f64.format.order b 0 == some Ordering.gt) = false := by rw [show FloatKind.f64.format.order b 0 = some .lt from h2];rfl
    refine Wg1 @g1 ?_
    refine Wf0 ?_
    refine Wg1 @g2 ?_
    refine Wf0 ?_
    refine Wg0 ?_
    refine We1 (fa2 @h3 @h0) ?_;try (with_reducible exact trivial)
  · have g1 : (FloatKind.f64.format.order b 4787326403894837248 == some Ordering.gt) = false := by rw [show FloatKind.f64.format.order b 4787326403894837248 = none from h1];rfl
    have g2 : (FloatKind.f64.format.order b 0 == some Ordering.gt) = false := by rw [show FloatKind.f64.format.order b 0 = none from h2];rfl
    refine Wg1 @g1 ?_
    refine Wf0 ?_
    refine Wg1 @g2 ?_
    refine Wf0 ?_
    refine Wg0 ?_
    refine We1 (fa2 @h3 @h0) ?_;try (with_reducible exact trivial)
theorem partE {n : Nat} (h : n ≤ big) : partI (fI (min n big)) = n := by rw [Nat.min_eq_left h,partI_fI h]
set_option maxRecDepth 100000 in
theorem at_L {z : Nat × Nat} (h : okE z) : LCalls Tryd.prog 78 [.lit (eV z)] (intL z.1) := by
  have c := part_L (fI (min z.1 big))
  rw [partE h.1] at c
  unfold eV
  refine LCalls.of (fun _ => false) Tryd.func78 rfl (by decide) Tryd.ntmps78 Tryd.results78 (by simp) ?_
  intro w0 S0 vs hgl hwf0 hsz hvs;clear hsz hvs hwf0 hgl
  refine Wr0 ?_;intro K hK
  refine hK _ ?_;clear hK K;try refine Wh0 ?_
  refine Wr0 ?_;intro K hK
  refine Wc0 (c) ?_
  refine hK _ ?_;clear hK K;try refine Wh0 ?_
  refine We0 ?_;try (with_reducible exact trivial)
set_option maxRecDepth 100000 in
theorem long_L {z : Nat × Nat} (h : okE z) : LCalls Tryd.prog 77 [.lit (eV z)] (intL z.2) := by
  have c := part_L (fI (min z.2 big))
  rw [partE h.2] at c
  unfold eV
  refine LCalls.of (fun _ => false) Tryd.func77 rfl (by decide) Tryd.ntmps77 Tryd.results77 (by simp) ?_
  intro w0 S0 vs hgl hwf0 hsz hvs;clear hsz hvs hwf0 hgl
  refine Wr0 ?_;intro K hK
  refine hK _ ?_;clear hK K;try refine Wh0 ?_
  refine Wr0 ?_;intro K hK
  refine Wc0 (c) ?_
  refine hK _ ?_;clear hK K;try refine Wh0 ?_
  refine We0 ?_;try (with_reducible exact trivial)
set_option maxRecDepth 100000 in
theorem end_L {z : Nat × Nat} (h : okE z) : LCalls Tryd.prog 79 [.lit (eV z)] (intL (fin z)) := by
  have hw : IntKind.i64.wrap ((z.1 : Int) + (z.2 : Int)) = (fin z : Int) := by
    obtain ⟨h1,h2⟩ := h
    unfold big at h1 h2
    rw [w64 (by omega)];unfold fin;omega
  refine LCalls.of (fun _ => false) Tryd.func79 rfl (by decide) Tryd.ntmps79 Tryd.results79 (by simp) ?_
  intro w0 S0 vs hgl hwf0 hsz hvs;clear hsz hvs hwf0 hgl
  refine Wr0 ?_;intro K hK
  refine hK _ ?_;clear hK K;try refine Wh0 ?_
  refine Wr0 ?_;intro K hK
  refine Wc0 (at_L h) ?_
  refine Wc1 (long_L h) @hw ?_
  refine hK _ ?_;clear hK K;try refine Wh0 ?_
  refine We0 ?_;try (with_reducible exact trivial)
set_option maxRecDepth 100000 in
theorem of_L (a b : Int) : LCalls Tryd.prog 80 [intL a,intL b] (.lit (eV (limI a,limI b))) := by
  have e : eV (limI a,limI b) = .complex .f64 (floatOfInt .f64 (limI a : Int)) (floatOfInt .f64 (limI b : Int)) := by
    unfold eV fI;rw [Nat.min_eq_left (limI_le a),Nat.min_eq_left (limI_le b)]
  rw [e]
  refine LCalls.of (fun _ => false) Tryd.func80 rfl (by decide) Tryd.ntmps80 Tryd.results80 (by simp) ?_
  intro w0 S0 vs hgl hwf0 hsz hvs;clear hsz hvs hwf0 hgl
  refine Wr0 ?_;intro K hK
  refine hK _ ?_;clear hK K;try refine Wh0 ?_
  refine Wr0 ?_;intro K hK
  refine Wc0 (limit_L a) ?_
  refine Wc0 (limit_L b) ?_
  refine hK _ ?_;clear hK K;try refine Wh0 ?_
  refine We0 ?_;try (with_reducible exact trivial)
end Go.Proofs.YtbffcndmcaeamaaDoor
end
section
set_option linter.unusedSimpArgs false
set_option linter.unusedVariables false
namespace Go.Proofs.YtbffcndmcaeamaaDoor
open Go.RowKit Go.Proofs Flo Ext

theorem drop_e {l : List (Nat × Nat)} {i : Nat} {a : Nat × Nat} (h : l[i]? = some a) : (l.flatMap eE).drop i = .lit (eV a) :: (l.drop (i + 1)).flatMap eE := by
  have := drop_flat eE 1 eE_len h
  rwa [Nat.mul_one] at this
theorem kept_le (l : List (Nat × Nat)) : (keptE big l).length ≤ l.length := by
  unfold keptE
  exact Nat.le_trans (List.length_filter_le _ _) (by rw [List.length_map];exact Nat.le_refl _)
theorem step_len (out : List E) (z : E) : (stepE out z).length ≤ out.length + 1 := by
  unfold stepE
  split
  · simp
  · rename_i y hy
    have := snoc_of_last hy
    split
    · simp
    · split
      · rw [this];simp
      · omega
theorem fold_len : ∀ (l out : List E),(l.foldl stepE out).length ≤ out.length + l.length
  | [],out => by simp
  | z :: l,out => by
    have h1 := fold_len l (stepE out z)
    have h2 := step_len out z
    simp only [List.foldl_cons,List.length_cons];omega

end Go.Proofs.YtbffcndmcaeamaaDoor
end
section
set_option linter.unusedSimpArgs false
set_option linter.unusedVariables false
namespace Go.Proofs.YtbffcndmcaeamaaDoor
open Go.RowKit Go.Proofs Flo Ext

theorem norm_len (l : List E) : (normE big l).length ≤ l.length := by
  unfold normE normP mergeE
  have h1 := fold_len (sortE (keptE big l)) []
  have h2 := (sortE_perm (keptE big l)).length_eq
  have h3 := kept_le l
  rw [List.length_nil,Nat.zero_add] at h1
  omega
theorem drop_cons {α : Type} {l : List α} {i : Nat} {a : α} (h : l[i]? = some a) : l.drop i = a :: l.drop (i + 1) := by
  obtain ⟨hi,rfl⟩ := List.getElem?_eq_some_iff.1 h
  exact List.drop_eq_getElem_cons hi

set_option maxRecDepth 100000 in
set_option maxHeartbeats 2000000 in
theorem emay_L (l : List E) (hok : ∀ z ∈ l,okE z) (hl : l.length ≤ 1000000) (size : Int) : LCalls Tryd.prog 67 [eL l,intL size] (boolL (mayE big l size)) := by
  have hbig : ((big : Nat) : Int) = 1099511627776 := rfl
  refine LCalls.of (fun _ => false) Tryd.func67 rfl (by decide) Tryd.ntmps67 Tryd.results67 (by simp) ?_
  intro w0 S0 vs hgl hwf0 hsz hvs;clear hsz hvs hwf0 hgl
  unfold mayE
  by_cases b0 : size < 0
  · refine Wg1 (fa2 @eL.eq_1 @b0) ?_
    refine Wt0 ?_
    refine Wg0 ?_
    refine We0 ?_;try (with_reducible exact trivial)
    simp;omega
  by_cases b1 : (1099511627776 : Int) < size
  · refine Wg1 (fa3 @eL.eq_1 @b0 @b1) ?_
    refine Wt0 ?_
    refine Wg0 ?_
    refine We0 ?_;try (with_reducible exact trivial)
    simp;omega
  have e : (decide (0 ≤ size) && decide (size ≤ (big : Int)) && chkE (-1) l size) = chkE (-1) l size := by
    rw [decide_eq_true (by omega),decide_eq_true (by omega)];rfl
  rw [e]
  refine Wg1 (fa3 @eL.eq_1 @b0 @b1) ?_
  refine Wf0 ?_
  refine Wg0 ?_
  refine LW_loop (fun n st => ∃ (i : Nat) (la : Int),n + i = l.length ∧ st.env 14 = eL l ∧ st.env 15 = intL l.length ∧ st.env 16 = intL i ∧ st.env 1 = intL size ∧ st.env 5 = intL la ∧ chkE la (l.drop i) size = chkE (-1) l size) l.length ⟨0,-1,by omega,rfl,rfl,rfl,rfl,rfl,rfl⟩ ?_
  rintro n st ⟨i,la,hn,h14,h15,h16,h1,h5,hh⟩
  refine Wg1 (fa4 @h14 @h15 @h16 @eL.eq_1) ?_
  by_cases hlt : i < l.length
  · obtain ⟨z,hz⟩ := get_of_lt hlt
    have hzo := hok z (List.mem_of_getElem? hz)
    have hd := drop_e hz
    have hw := w64s (n := i) (by omega)
    rw [drop_cons hz,chkE] at hh
    refine Wt1 @hlt ?_
    refine Wg1 (fa5 @h14 @h16 @eL.eq_1 @hlt @hd) ?_
    by_cases g1 : ((z.2 : Nat) : Int) = 0
    · rw [if_pos (.inl (by omega))] at hh
      refine Wr0 ?_;intro K hK
      refine Wc1 (long_L hzo) @g1 ?_
      refine hK _ ?_;clear hK K;try refine Wh0 ?_
      refine Wt0 ?_
      refine Wg0 ?_
      refine We0 ?_;try (with_reducible exact trivial)
      exact hh
    · by_cases g2 : (z.1 : Int) ≤ la
      · rw [if_pos (.inr g2)] at hh
        refine Wr0 ?_;intro K hK
        refine Wc1 (long_L hzo) @g1 ?_
        refine Wc1 (at_L hzo) (fa2 @h5 @g2) ?_
        refine hK _ ?_;clear hK K;try refine Wh0 ?_
        refine Wt0 ?_
        refine Wg0 ?_
        refine We0 ?_;try (with_reducible exact trivial)
        exact hh
      · rw [if_neg (by omega)] at hh
        refine Wr0 ?_;intro K hK
        refine Wc1 (long_L hzo) @g1 ?_
        refine Wc1 (at_L hzo) (fa2 @h5 @g2) ?_
        refine hK _ ?_;clear hK K;try refine Wh0 ?_
        refine Wf0 ?_
        refine Wr0 ?_;intro K hK
        refine Wc0 (end_L hzo) ?_
        refine hK _ ?_;clear hK K;try refine Wh0 ?_
        refine Wg1 (fa2 @h16 @hw) ?_
        exact ⟨n - 1,by omega,i + 1,_,by omega,(Wq1 @h14),(Wq1 @h15),Wq0,(Wq1 @h1),Wq0,hh⟩
  · refine Wf1 @hlt ?_
    refine LW_exit ?_;simp only [thenL,jumpsL,inBlockL,twoL,reduceIte,Nat.reduceEqDiff]
    rw [List.drop_of_length_le (by omega),chkE] at hh
    refine Wg1 (fa2 @h5 @h1) ?_
    refine We0 ?_;try (with_reducible exact trivial)
    rw [← hh]
end Go.Proofs.YtbffcndmcaeamaaDoor
end
