/-
  ROWS OF CELLS; a slice made of parts.
-/
import Derived.Test.YtmchdjpgceiloaaL4
set_option linter.unusedSimpArgs false
set_option linter.unusedVariables false
namespace Go.Proofs.Ytmchdjpgceiloaa
open Go.RowKit

def zeroOk (P : Program) (e : TypeId) : Bool :=
  match P.info? e with
  | some i => match i.zero with
    | some z => z.cells.size == i.size
    | none => false
  | none => false
/-- Each part a whole element, one behind the other. -/
def partsL (k : Nat) : Nat → List (Nat × LV) → Option (List LV)
  | _, [] => some []
  | i, (j, x) :: r => if i = j then match cellsL x, partsL k (i + 1) r with
      | some cs, some ds => if cs.length = k then some (cs.map strip1 ++ ds) else none
      | _, _ => none
    else none
section
variable {P : Program}
/-- Values of the machine, one by one. -/
def Vals (P : Program) (w : World) (g : Gh) (cs : List LV) (vs : List Value) : Prop := cs.length = vs.length ∧ ∀ (i : Nat) (c : LV) (u : Value), cs[i]? = some c → vs[i]? = some u → Rep P w g.bare c u
theorem Vals.append {w : World} {g : Gh} {cs ds : List LV} {us vs : List Value} (h : Vals P w g cs us) (k : Vals P w g ds vs) : Vals P w g (cs ++ ds) (us ++ vs) := by
  refine ⟨by simp [h.1, k.1], fun i c u hc hu => ?_⟩
  by_cases hi : i < cs.length
  · rw [List.getElem?_append_left hi] at hc
    rw [List.getElem?_append_left (by rw [← h.1]; exact hi)] at hu
    exact h.2 i c u hc hu
  · rw [List.getElem?_append_right (by omega)] at hc
    rw [List.getElem?_append_right (by rw [← h.1]; omega), ← h.1] at hu
    exact k.2 _ c u hc hu
theorem Vals.mono {w w' : World} {g g' : Gh} {cs : List LV} {vs : List Value} (h : Vals P w g cs vs) (m : ∀ b i v, g.S b i → w.cell? ⟨b, i, none⟩ = some v → g'.S b i ∧ w'.cell? ⟨b, i, none⟩ = some v) : Vals P w' g' cs vs :=
  ⟨h.1, fun i c u hc hu => (h.2 i c u hc hu).mono (.bare m)⟩
theorem Vals.cells {w : World} {g : Gh} {cs : List LV} {vs : List Value} {b off : Nat} (h : Vals P w g cs vs) (hc : ∀ (i : Nat) u, vs[i]? = some u → g.S b (off + i) ∧ w.cell? ⟨b, off + i, none⟩ = some u) : CellsAt P w g b off cs := by
  refine ⟨fun i => vs.getD i undef, fun i hi => ?_, fun i c hcs => ?_⟩
  · have hlt : i < vs.length := by rw [← h.1]; exact hi
    exact hc i _ (by simp [List.getD_eq_getElem?_getD, List.getElem?_eq_getElem hlt])
  · have hlt : i < vs.length := by rw [← h.1]; exact (List.getElem?_eq_some_iff.1 hcs).1
    exact h.2 i c _ hcs (by simp [List.getD_eq_getElem?_getD, List.getElem?_eq_getElem hlt])
theorem CellsAt.vals {w : World} {g : Gh} {cs : List LV} {b off : Nat} (h : CellsAt P w g b off cs) : ∃ vs, Vals P w g cs vs ∧ ∀ (i : Nat) u, vs[i]? = some u → w.cell? ⟨b, off + i, none⟩ = some u := by
  obtain ⟨val, h1, h2⟩ := h
  refine ⟨(List.range cs.length).map val, ⟨by simp, fun i c u hc hu => ?_⟩, fun i u hu => ?_⟩
  · have hi := (List.getElem?_eq_some_iff.1 hc).1
    have : u = val i := by simpa [List.getElem?_map, hi] using hu.symm
    rw [this]; exact h2 i c hc
  · have hi : i < cs.length := by have := (List.getElem?_eq_some_iff.1 hu).1; simpa using this
    have : u = val i := by simpa [List.getElem?_map, hi] using hu.symm
    rw [this]; exact (h1 i hi).2
theorem Vals.strip {w : World} {g : Gh} {cs : List LV} {vs : List Value} (h : Vals P w g cs vs) : Vals P w g (cs.map strip1) vs := by
  refine ⟨by simpa using h.1, fun i c u hc hu => ?_⟩
  obtain ⟨c', hc', rfl⟩ := map_get hc
  exact (h.2 i c' u hc' hu).strip1 rfl
theorem Vals.of_cells {w : World} {g : Gh} {x : LV} {v : Value} {cs : List LV} (h : Rep P w g x v) (hc : cellsL x = some cs) : Vals P w g (cs.map strip1) v.cells.toList := by
  obtain ⟨h1, h2⟩ := cellsL_rep h hc
  refine ⟨by simp [h1], fun i c u hc hu => ?_⟩
  obtain ⟨c', hc', rfl⟩ := map_get hc
  exact (h2 i c' u hc' (by rw [← Array.getElem?_toList]; exact hu)).strip1 rfl
/-- Parts, each a whole element, one behind the other. -/
theorem parts_run {w : World} {g : Gh} {k : Nat} {e : Operand → Value} {ρ : Operand → LV} : ∀ (parts : List (Nat × Operand)) (i : Nat) (cells : Array Value) (cs : List LV), (∀ p ∈ parts, Rep P w g (ρ p.2) (e p.2)) → partsL k i (parts.map fun q => (q.1, ρ q.2)) = some cs → (i + parts.length) * k ≤ cells.size →
    ∃ vs, Vals P w g cs vs ∧ vs.length = parts.length * k ∧ Instr.fill (fun i => some (i * k, k)) cells (parts.map fun q => (q.1, e q.2)) = some (cells.toList.take (i * k) ++ vs ++ cells.toList.drop ((i + parts.length) * k)).toArray
  | [], i, cells, cs, _, h, hle => by
    cases h
    exact ⟨[], ⟨rfl, fun i c u hc => by cases hc⟩, by simp, by simp [Instr.fill]⟩
  | (j, x) :: r, i, cells, cs, hp, h, hle => by
    simp only [List.map_cons, partsL] at h
    split at h
    · rename_i hij
      subst hij
      split at h
      · rename_i xs ds hx hds
        split at h
        · rename_i hxl
          cases h
          have hrep := hp (i, x) (by simp)
          obtain ⟨h1, h2⟩ := cellsL_rep hrep hx
          simp only at h1
          have hsz : (e x).cells.size = k := by rw [h1]; exact hxl
          rw [List.length_cons] at hle
          have hik : i * k + k ≤ cells.size := by
            have : (i + 1) * k ≤ (i + (r.length + 1)) * k := Nat.mul_le_mul_right _ (by omega)
            rw [Nat.add_mul, Nat.one_mul] at this; omega
          have hfold : ((e x).cells.zipIdx.foldl (fun cs (c, j) => cs.setIfInBounds (i * k + j) c) cells).toList = cells.toList.take (i * k) ++ (e x).cells.toList ++ cells.toList.drop (i * k + k) := by
            have := foldl_set (off := i * k) (e x).cells.toList 0 cells (by rw [Array.length_toList, hsz]; omega)
            rw [Nat.add_zero, Array.length_toList, hsz] at this
            rw [← this]
            congr 1
            rw [← Array.foldl_toList]
            simp
          generalize hc' : ((e x).cells.zipIdx.foldl (fun cs (c, j) => cs.setIfInBounds (i * k + j) c) cells) = cells' at hfold
          have hto : (cells.toList.take (i * k)).length = i * k := by rw [List.length_take, Array.length_toList]; omega
          have hcl : (e x).cells.toList.length = k := by rw [Array.length_toList, hsz]
          have hsz' : cells'.size = cells.size := by
            rw [← Array.length_toList, hfold]
            simp only [List.length_append, hto, hcl, List.length_drop, Array.length_toList]; omega
          obtain ⟨vs, hv, hvl, hf⟩ := parts_run r (i + 1) cells' ds (fun p hp' => hp p (by simp [hp'])) hds (by rw [hsz', show i + 1 + r.length = i + (r.length + 1) by omega]; exact hle)
          refine ⟨(e x).cells.toList ++ vs, (Vals.of_cells hrep hx).append hv, by rw [List.length_append, hcl, hvl, List.length_cons, Nat.add_mul]; omega, ?_⟩
          simp only [List.map_cons, Instr.fill]
          rw [if_neg (by simp [hsz]; omega), hc', hf]
          congr 1
          apply congrArg
          rw [hfold, List.length_cons, show i + 1 + r.length = i + (r.length + 1) by omega]
          have e1 : (cells.toList.take (i * k) ++ (e x).cells.toList ++ cells.toList.drop (i * k + k)).take ((i + 1) * k) = cells.toList.take (i * k) ++ (e x).cells.toList := by
            rw [Nat.add_mul, Nat.one_mul]
            exact List.take_left' (by rw [List.length_append, hto, hcl])
          have e2 : (cells.toList.take (i * k) ++ (e x).cells.toList ++ cells.toList.drop (i * k + k)).drop ((i + (r.length + 1)) * k) = cells.toList.drop ((i + (r.length + 1)) * k) := by
            rw [List.drop_append, List.length_append, hto, hcl, List.drop_eq_nil_of_le (by
              rw [List.length_append, hto, hcl]
              rw [show i + (r.length + 1) = i + 1 + r.length by omega, Nat.add_mul, Nat.add_mul, Nat.one_mul]; omega), List.nil_append, List.drop_drop]
            congr 1
            rw [show i + (r.length + 1) = i + 1 + r.length by omega, Nat.add_mul, Nat.add_mul, Nat.one_mul]; omega
          rw [e1, e2]
          simp
        · cases h
      · cases h
    · cases h
/-- What a slice made of parts is, and what is asked. -/
def buildV (P : Program) (ρ : Operand → LV) : Op → Option (Prop × LV)
  | .buildSlice t n parts => match elemL P t with
    | some (e, k) => (partsL k 0 (parts.toList.map fun q => (q.1, ρ q.2))).map fun cs => ((0 < k ∧ parts.toList.length = n ∧ n * k ≤ 16777216 ∧ zeroOk P e = true), .sl n cs .no)
    | none => none
  | _ => none
theorem buildV_congr {ρ ρ' : Operand → LV} {op : Op} (h : ∀ y ∈ op.operands, ρ y = ρ' y) : buildV P ρ op = buildV P ρ' op := by
  unfold buildV
  split
  · rename_i t n parts
    have : (parts.toList.map fun q => (q.1, ρ q.2)) = parts.toList.map fun q => (q.1, ρ' q.2) := List.map_congr_left fun q hq => by
      rw [h q.2 (by simp [Op.operands]; exact ⟨_, by simpa using hq⟩)]
    rw [this]
  · rfl
/-- A slice made of parts: the run. -/
theorem build_run {g : Gh} {w : World} {a : Act} {ρ : Operand → LV} {o : Oper} {c : Prop} {x : LV} (hr : ∀ y, Rep P w g (ρ y) (a.eval y)) (h : buildV P ρ o.op = some (c, x)) (hc : c) :
    ∃ (n : Nat) (cs : List LV) (vs : List Value) (e : TypeId), (∀ t m ps e2 k2, o.op = .buildSlice t m ps → elemL P t = some (e2, k2) → e = e2) ∧ x = .sl n cs .no ∧ Vals P w g cs vs ∧ vs.length = n * sizeL P e ∧ 0 < sizeL P e ∧ n * sizeL P e ≤ 16777216 ∧ (execOp a.eval o).run P w = .ok (.value (.slice (some ⟨w.heap.size, 0, none⟩) n n)) (w.alloc (.cells vs.toArray e)) := by
  obtain ⟨dst, op, type, pos, after, guard⟩ := o
  simp only at h
  unfold buildV at h
  split at h
  · rename_i t n parts
    cases hek : elemL P t with
    | none => rw [hek] at h; cases h
    | some ek =>
      obtain ⟨e, k⟩ := ek
      rw [hek] at h
      cases hcs : partsL k 0 (parts.toList.map fun q => (q.1, ρ q.2)) with
      | none => simp only [hcs] at h; cases h
      | some cs =>
        simp only [hcs, Option.map_some, Option.some.injEq, Prod.mk.injEq] at h
        obtain ⟨rfl, rfl⟩ := h
        obtain ⟨hk, hpn, hbig, hzo⟩ := hc
        have hek0 := hek
        unfold elemL at hek
        split at hek
        · rename_i e' hu
          obtain ⟨i, hi, heq⟩ := Option.map_eq_some_iff.1 hek
          cases heq
          obtain ⟨z, hz⟩ : ∃ z, i.zero = some z := by
            unfold zeroOk at hzo
            rw [hi] at hzo
            simp only at hzo
            split at hzo
            · rename_i z hz; exact ⟨z, hz⟩
            · cases hzo
          have hs : (Go.sizeOf e).run P w = .ok i.size w := by simp [Go.sizeOf, typeInfo, hi]
          have hzr : (zeroValue e).run P w = .ok z w := by simp [zeroValue, typeInfo, hi, hz]
          let zero : Array Value := if n * i.size = 0 then #[] else z.cells
          let cells0 : Array Value := (Array.range (n * i.size)).map (zero[· % zero.size]!)
          obtain ⟨vs, hv, hvl, hf⟩ := parts_run (e := a.eval) parts.toList 0 cells0 cs (fun p _ => hr p.2) hcs (by simp [cells0, ← hpn])
          have hf' : Instr.fill (fun i_1 => some (i_1 * i.size, i.size)) cells0 (parts.map fun (i, x) => (i, a.eval x)).toList = some vs.toArray := by
            rw [Array.toList_map]
            have : cells0.toList.take (0 * i.size) ++ vs ++ cells0.toList.drop ((0 + parts.toList.length) * i.size) = vs := by
              rw [Nat.zero_mul, List.take_zero, List.nil_append, Nat.zero_add, hpn, List.drop_eq_nil_of_le (by simp [cells0]), List.append_nil]
            rw [this] at hf
            exact hf
          have hrun : (execOp a.eval ⟨dst, .buildSlice t n parts, type, pos, after, guard⟩).run P w = .ok (.value (.slice (some ⟨w.heap.size, 0, none⟩) n n)) (w.alloc (.cells vs.toArray e)) := by
            refine (?_ : (do pure (Next.value (← Instr.buildSlice t n (parts.map fun (i, x) => (i, a.eval x)))) : Sem Next).run P w = _)
            have hnb : ¬ n * i.size > 2 ^ 24 := by omega
            by_cases h0 : n * i.size = 0
            · have hz0 : zero = #[] := by simp only [zero, h0, if_true]
              simp only [cells0, hz0] at hf'
              simp only [Instr.buildSlice, Sem.run_bind, run_underlying hu, Result.andThen, hs]
              rw [if_neg hnb]
              simp only [h0, if_true, Sem.run_bind, Sem.run_pure, Result.andThen]
              simp only [h0] at hf'
              simp only [hf']
              rfl
            · have hz0 : zero = z.cells := by simp only [zero, h0, if_false]
              simp only [cells0, hz0] at hf'
              simp only [Instr.buildSlice, Sem.run_bind, run_underlying hu, Result.andThen, hs]
              rw [if_neg hnb]
              simp only [h0, if_false, Sem.run_bind, Sem.run_pure, Result.andThen, hzr, hf']
              rfl
          have hsl : sizeL P e = i.size := by simp [sizeL, hi]
          exact ⟨n, cs, vs, e, (fun t' m' ps' e2 k2 h1 h2 => by
            cases h1
            rw [hek0] at h2; cases h2; rfl), rfl, hv, by rw [hsl, hvl, hpn], by rw [hsl]; exact hk, by rw [hsl]; exact hbig, hrun⟩
        · cases hek
  · cases h
end
end Go.Proofs.Ytmchdjpgceiloaa
