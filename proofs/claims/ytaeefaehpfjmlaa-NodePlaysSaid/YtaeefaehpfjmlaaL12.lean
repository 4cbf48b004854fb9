import Derived.Test.YtaeefaehpfjmlaaLK
import Derived.Test.YtaeefaehpfjmlaaL11
import Derived.Shelf.SlSortCmp.WholeK
set_option linter.unusedSimpArgs false
set_option linter.unusedVariables false
namespace Go.Proofs.Ytaeefaehpfjmlaa
open Go.RowKit Go.Sort Go.Proofs

section
variable {α : Type} [Inhabited α] {enc : α → List Value} {k : Nat}
theorem flatK_list (hk : ∀ x, (enc x).length = k) (h1 : 0 < k) (d : Array α) : (flatK enc k d).toList = d.toList.flatMap enc := by
  apply List.ext_getElem?
  intro j
  by_cases hj : j < d.size * k
  · have hdiv : j / k < d.size := by rw [Nat.div_lt_iff_lt_mul h1]; exact hj
    have hmod : j % k < k := Nat.mod_lt _ h1
    have e := flat_get enc k hk d.toList (j / k) d[j / k] (j % k) (by simp [hdiv]) hmod
    rw [Nat.mul_comm, Nat.div_add_mod] at e
    have hs : j < (flatK enc k d).size := by simpa using hj
    rw [e, Array.getElem?_toList, Array.getElem?_eq_getElem hs, ← getElem!_pos (flatK enc k d) j hs, get_flatK enc k d j hj, getElem!_pos d (j / k) hdiv, getElem!_pos _ _ (by rw [hk]; exact hmod), List.getElem?_eq_getElem (by rw [hk]; exact hmod)]
  · rw [List.getElem?_eq_none (by simpa using hj), List.getElem?_eq_none (by rw [flat_len enc k hk]; simpa using hj)]
theorem putCells_flat (F vals : Array Value) (hF : F.size ≤ vals.size) : putCells id 0 F vals = (F.toList ++ vals.toList.drop F.size).toArray := by
  apply Array.ext'
  apply List.ext_getElem?
  intro i
  simp only [putCells, Array.toList_mapIdx, List.getElem?_mapIdx, Array.getElem?_toList]
  by_cases hi : i < F.size
  · rw [List.getElem?_append_left (by simpa using hi), Array.getElem?_toList, Array.getElem?_eq_getElem (by omega : i < vals.size), Array.getElem?_eq_getElem hi]
    simp only [Option.map_some, Nat.zero_le, Nat.zero_add, hi, true_and, if_true, Nat.sub_zero, id, getElem!_pos F i hi]
  · rw [List.getElem?_append_right (by simpa using hi)]
    simp only [Array.length_toList, List.getElem?_drop, Array.getElem?_toList, Nat.zero_add, hi, and_false, if_false]
    rw [show F.size + (i - F.size) = i by omega]
    cases vals[i]? <;> rfl
def litsL (l : List Value) : List LV := l.map .lit
theorem litsL_get {l : List Value} {i : Nat} {c : LV} (h : (litsL l)[i]? = some c) : ∃ v, l[i]? = some v ∧ c = .lit v := by
  unfold litsL at h
  rw [List.getElem?_map, Option.map_eq_some_iff] at h
  obtain ⟨v, h1, h2⟩ := h
  exact ⟨v, h1, h2.symm⟩
variable {P : Program} {N : Nat} {w0 : World} {S0 : Ent}
def SortsNone (P : Program) (F gf : FuncId) : Prop :=
  ∀ (w : World), Calls P F #[.slice none 0 0, .func (.func gf) #[] #[]] w fun e w' => e = .returned (.tuple #[]) ∧ w' = w
end
end Go.Proofs.Ytaeefaehpfjmlaa
