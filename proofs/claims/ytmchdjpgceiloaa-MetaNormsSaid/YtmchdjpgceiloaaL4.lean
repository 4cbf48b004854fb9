/-
  THAT THE OPERATIONS WHICH LEAVE THE WORLD ALONE YIELD WHAT 'pv' SAYS.
-/
import Derived.Test.YtmchdjpgceiloaaL3
set_option linter.unusedSimpArgs false
set_option linter.unusedVariables false
namespace Go.Proofs.Ytmchdjpgceiloaa
open Go.RowKit

section
variable {P : Program} {w : World} {g : Gh}
theorem run_v {s : Sem Value} {v : Value} (h : s.run P w = .ok v w) : (do pure (Next.value (← s)) : Sem Next).run P w = .ok (.value v) w := by
  rw [Sem.run_bind, h]; rfl
theorem unV_run {op : UnOp} {a v : Value} (h : unV op a = some v) : (Op.unary op a).run P w = .ok v w := by
  cases a <;> simp only [unV] at h <;> try (cases h; done)
  case bool b => cases op <;> simp only at h <;> first | (cases h; done) | (cases h; rfl)
  case int k n => cases op <;> simp only at h <;> first | (cases h; done) | (cases h; rfl)
theorem convV_run {s d : TypeId} {a v : Value} (h : convV P s d a = some v) : (convert s d a).run P w = .ok v w := by
  unfold convV at h
  split at h
  · cases h; rename_i u k _ n hu hd; cases u <;> simp [convert, run_underlying hu, run_underlying hd, Conv.intToInt]
  · cases h; rename_i u k _ n hu hd; exact run_convert_int_float _ _ _ _ _ _ (by simp [hu]) hd
  · rename_i u k q b hu hd
    obtain ⟨n, hn, rfl⟩ := Option.map_eq_some_iff.1 h
    exact run_convert_float_int _ _ _ _ _ _ _ (by simp [hu]) hd hn
  · cases h; rename_i hu hd; simp [convert, run_underlying hu, run_underlying hd]
  · cases h
theorem idxV_run {t : TypeId} {a b v : Value} (h : idxV P t a b = some v) : (Instr.index t a b).run P w = .ok v w := by
  unfold idxV at h
  split at h
  · rename_i s k z hu
    split at h
    · rename_i hz
      obtain ⟨c, hc, rfl⟩ := Option.map_eq_some_iff.1 h
      have e : s[z.toNat]? = some c := by
        rw [Array.getElem?_toList] at hc
        rw [← hc]; rfl
      simp [Instr.index, asIntOf, run_underlying hu, hz, e]
    · cases h
  · cases h
theorem ba_eq (s : ByteArray) : s = ⟨s.data.toList.toArray⟩ := by apply ByteArray.ext; simp
theorem rep_lit_inv {x : LV} {u v : Value} (hx : x = .lit u) (h : Rep P w g x v) : v = u := by subst hx; exact h.inv_lit
theorem bound_run {ρ : Operand → LV} {e : Operand → Value} {x : Operand} {k : IntKind} {z : Int} {y : Nat} (hr : Rep P w g (ρ x) (e x)) (h : ρ x = .lit (.int k z)) (h0 : 0 ≤ z) (h1 : z ≤ y) (c : BoundsCode) :
    (Instr.sliceBound (e x) y c).run P w = .ok z.toNat w := by
  rw [h] at hr
  rw [hr.inv_lit]
  simp [Instr.sliceBound, asIntOf, h0, h1]
theorem lowV_inv {ρ : Operand → LV} {x : Operand} {l : Int} (h : lowV (some (ρ x)) = some l) : ∃ k, ρ x = .lit (.int k l) := by
  unfold lowV at h
  split at h
  · rename_i he; cases he
  · cases h; rename_i k he; exact ⟨_, Option.some.inj he⟩
  · cases h
theorem highV_inv {n : Nat} {ρ : Operand → LV} {x : Operand} {l : Int} (h : highV n (some (ρ x)) = some l) : ∃ k, ρ x = .lit (.int k l) := by
  unfold highV at h
  split at h
  · rename_i he; cases he
  · cases h; rename_i k he; exact ⟨_, Option.some.inj he⟩
  · cases h
theorem sliceBounds_run {isS : Bool} {len cap : Nat} {lo hi : Option Operand} {ρ : Operand → LV} {e : Operand → Value} {l h : Int} (hrl : ∀ x, lo = some x → Rep P w g (ρ x) (e x)) (hrh : ∀ x, hi = some x → Rep P w g (ρ x) (e x))
    (hl : lowV (lo.map ρ) = some l) (hh : highV len (hi.map ρ) = some h) (h0 : 0 ≤ l) (h1 : l ≤ h) (h2 : h ≤ cap) :
    (Instr.sliceBounds isS len cap (lo.map e) (hi.map e) none).run P w = .ok (l.toNat, h.toNat, cap) w := by
  cases hi with
  | none =>
    have eh : h = len := by cases hh; rfl
    subst eh
    cases lo with
    | none => have el : l = 0 := by cases hl; rfl
              subst el; rfl
    | some x =>
      obtain ⟨k, hk⟩ := lowV_inv hl
      have := bound_run (hrl x rfl) hk h0 h1 .sliceB
      simp [Instr.sliceBounds, this]
  | some y =>
    obtain ⟨k', hk'⟩ := highV_inv hh
    have eh := bound_run (y := cap) (hrh y rfl) hk' (by omega) h2 (if isS then .sliceAcap else .sliceAlen)
    cases lo with
    | none => have el : l = 0 := by cases hl; rfl
              subst el
              simp [Instr.sliceBounds, eh]
    | some x =>
      obtain ⟨k, hk⟩ := lowV_inv hl
      have := bound_run (y := h.toNat) (hrl x rfl) hk h0 (by omega) .sliceB
      simp [Instr.sliceBounds, eh, this]
theorem sliceL_run {t : TypeId} {x : Operand} {lo hi : Option Operand} {ρ : Operand → LV} {e : Operand → Value} {r : LV} (hx : Rep P w g (ρ x) (e x)) (hrl : ∀ x, lo = some x → Rep P w g (ρ x) (e x)) (hrh : ∀ x, hi = some x → Rep P w g (ρ x) (e x))
    (h : sliceL P t (ρ x) (lo.map ρ) (hi.map ρ) = some r) : ∃ v, (Instr.sliceAt t (e x) (lo.map e) (hi.map e) none).run P w = .ok v w ∧ Rep P w g r v := by
  unfold sliceL at h
  split at h
  · rename_i s he
    rw [he] at hx
    have hv := hx.inv_lit
    split at h
    · rename_i l z hu hl hh
      split at h
      · rename_i hb
        cases h
        refine ⟨_, ?_, .lit _ _⟩
        have hlen : s.data.toList.length = s.size := by simp
        rw [hlen] at hh hb
        have := sliceBounds_run (P := P) (w := w) (g := g) (isS := false) (len := s.size) (cap := s.size) hrl hrh hl hh hb.1 hb.2.1 hb.2.2
        rw [hv]
        simp only [Instr.sliceAt, Instr.slice, Sem.run_bind, run_underlying hu, Result.andThen, this]
        simp only [Option.isSome, Bool.false_eq_true, if_false, Sem.run_bind, this, Result.andThen]
        have e1 : s.extract l.toNat z.toNat = ⟨((s.data.toList.take z.toNat).drop l.toNat).toArray⟩ := by
          have := ba_extract s.data.toList l.toNat z.toNat
          exact this
        rw [e1]; rfl
      · cases h
    · cases h
  · rename_i n cs tk he
    rw [he] at hx
    split at h
    · rename_i e' k l z hek hl hh
      split at h
      · rename_i hb
        cases h
        unfold elemL at hek
        split at hek
        · rename_i e2 hu
          obtain ⟨i, hi', heq⟩ := Option.map_eq_some_iff.1 hek
          cases heq
          have hsz : (Go.sizeOf e').run P w = .ok i.size w := by simp [Go.sizeOf, typeInfo, hi']
          rcases hx.inv_sl with ⟨p, cap, hv, rfl, rfl⟩ | ⟨b, off, cap, hv, hcap, hc⟩
          · have hz : z = 0 := by omega
            have hl0 : l = 0 := by omega
            subst hz; subst hl0
            have := sliceBounds_run (P := P) (w := w) (g := g) (isS := true) (len := 0) (cap := cap) hrl hrh hl hh (by omega) (by omega) (by omega)
            rw [hv]
            refine ⟨.slice (if cap = (0 : Int).toNat then p else p.map (·.add ((0 : Int).toNat * i.size))) 0 cap, ?_, ?_⟩
            · simp only [Instr.sliceAt, Instr.slice, Sem.run_bind, run_underlying hu, Result.andThen, this, hsz]
              rfl
            · simp only [Int.toNat_zero, Nat.zero_mul, List.take_nil, List.drop_nil, Nat.sub_self]; exact .empty _ _ _
          · have := sliceBounds_run (P := P) (w := w) (g := g) (isS := true) (len := n) (cap := cap) hrl hrh hl hh hb.1 hb.2.1 (by omega)
            rw [hv]
            by_cases hcl : cap = l.toNat
            · refine ⟨.slice (some ⟨b, off, none⟩) (z.toNat - l.toNat) (cap - l.toNat), ?_, ?_⟩
              · simp only [Instr.sliceAt, Instr.slice, Sem.run_bind, run_underlying hu, Result.andThen, this, hsz]
                simp [hcl]
              · have e0 : z.toNat - l.toNat = 0 := by omega
                have e1 : (cs.take (z.toNat * i.size)).drop (l.toNat * i.size) = [] := by
                  apply List.drop_eq_nil_of_le
                  have : z.toNat = l.toNat := by omega
                  rw [this]; exact List.length_take_le _ _
                rw [e0, e1]; exact .empty _ _ _
            · refine ⟨.slice (some ⟨b, off + l.toNat * i.size, none⟩) (z.toNat - l.toNat) (cap - l.toNat), ?_, ?_⟩
              · simp only [Instr.sliceAt, Instr.slice, Sem.run_bind, run_underlying hu, Result.andThen, this, hsz]
                simp [hcl, run_ok, Addr.add_lit]
              · exact ((hc.take _).drop _).rep_sl (by omega)
        · cases hek
      · cases h
    · cases h
  · cases h
theorem moveL_run {k : Nat} {x r : LV} {v : Value} (hx : Rep P w g x v) (h : moveL k x = some r) : ∃ b off, v = .pointer (some ⟨b, off, none⟩) ∧ Rep P w g r (.pointer (some ⟨b, off + k, none⟩)) := by
  unfold moveL at h
  split at h
  · cases h
    obtain ⟨b, off, rfl, hc⟩ := hx.inv_ref
    exact ⟨b, off, rfl, (hc.drop k).rep_ref⟩
  · cases h
    obtain ⟨b, rfl, hb⟩ := hx.inv_ptr
    exact ⟨b, _, rfl, .ptr _ _ _ _ hb⟩
  · cases h
    obtain ⟨b, rfl, hb⟩ := hx.inv_aptr
    exact ⟨b, _, rfl, .aptr _ _ _ _ hb⟩
  · cases h
theorem fieldAtL_run {s : TypeId} {f : Nat} {x r : LV} {v : Value} (hx : Rep P w g x v) (h : fieldAtL P s f x = some r) : ∃ u, (Instr.fieldAt s v f).run P w = .ok u w ∧ Rep P w g r u := by
  unfold fieldAtL at h
  split at h
  · rename_i o ft hf
    obtain ⟨b, off, rfl, hr⟩ := moveL_run hx h
    refine ⟨_, ?_, hr⟩
    unfold fieldL at hf
    split at hf
    · rename_i fs hu
      split at hf
      · rename_i fl hfl
        split at hf
        · rename_i i hi
          split at hf
          · cases hf
          · rename_i hz
            cases hf
            simp [Instr.fieldAt, run_underlying hu, hfl, Instr.sureAddr, fieldPlace, Go.sizeOf, typeInfo, hi, hz, Addr.add_lit]
        · cases hf
      · cases hf
    · cases hf
  · cases h
theorem indexL_run {t : TypeId} {x i r : LV} {v u : Value} (hx : Rep P w g x v) (hi : Rep P w g i u) (h : indexL P t x i = some r) : ∃ q, (Instr.indexAt t v u).run P w = .ok q w ∧ Rep P w g r q := by
  unfold indexL at h
  split at h
  · rename_i e k he
    unfold indexAtL at h
    split at h
    · rename_i n cs tk kk z
      split at h
      · rename_i hz
        cases h
        rw [hi.inv_lit]
        unfold elemL at he
        split at he
        · rename_i e' hu
          obtain ⟨inf, hinf, heq⟩ := Option.map_eq_some_iff.1 he
          cases heq
          rcases hx.inv_sl with ⟨p, cap, hv, rfl, rfl⟩ | ⟨b, off, cap, hv, hcap, hc⟩
          · omega
          · rw [hv]
            refine ⟨_, ?_, (hc.drop (z.toNat * inf.size)).rep_ref⟩
            simp [Instr.indexAt, asIntOf, run_underlying hu, hz.1, hz.2, Go.sizeOf, typeInfo, hinf, Addr.add_lit]
        · cases he
      · cases h
    · rename_i d n e2 kk z
      split at h
      · rename_i hz
        cases h
        rw [hi.inv_lit]
        unfold elemL at he
        split at he
        · rename_i e' hu
          obtain ⟨inf, hinf, heq⟩ := Option.map_eq_some_iff.1 he
          cases heq
          rcases hx.inv_bsl with ⟨hv, rfl⟩ | ⟨b, cap, cur, hb, hv, _⟩
          · omega
          · rw [hv]
            refine ⟨.pointer (some ⟨b, 0 + z.toNat * inf.size, none⟩), ?_, ?_⟩
            · simp [Instr.indexAt, asIntOf, run_underlying hu, hz.1, hz.2, Go.sizeOf, typeInfo, hinf, Addr.add_lit]
            · rw [Nat.zero_add]; exact .aptr _ _ _ _ hb
        · cases he
      · cases h
    · cases h
  · cases h
theorem cell_of_heap {b i : Nat} {vals : Array Value} {T : TypeId} {f : Nat × Nat} (h : w.heap[b]? = some (.cells vals T f)) : w.cell? ⟨b, i, none⟩ = vals[i]? := by
  simp [World.cell?, h]
theorem loadAtL_run {B A : Nat → Option (List LV)} {t : TypeId} {x r : LV} {v : Value} (hx : Rep P w g x v) (hB : ∀ d cs, B d = some cs → BoxAt P w g d cs) (hA : ∀ d cs, A d = some cs → ArrAt P w g d cs) (h : loadAtL P B A t x = some r) : ∃ u, (Instr.loadAt t v).run P w = .ok u w ∧ Rep P w g r u := by
  unfold loadAtL at h
  split at h
  · obtain ⟨b, off, rfl, val, h1, h2⟩ := hx.inv_ref
    obtain ⟨r', hr', rfl⟩ := Option.map_eq_some_iff.1 h
    obtain ⟨u, hu, hr⟩ := run_load_cells (g' := g.bare) (fun i hi => (h1 i hi).2) h2 hr'
    exact ⟨u, by simpa [Instr.loadAt, Instr.sureAddr] using hu, hr.strip2 rfl⟩
  · rename_i d o
    split at h
    · rename_i cs hcs
      obtain ⟨b, rfl, hb⟩ := hx.inv_ptr
      obtain ⟨b', vals, T, hb', hh, hl, hr, _⟩ := hB d cs hcs
      rw [hb] at hb'
      cases hb'
      obtain ⟨u, hu, hr'⟩ := run_load_cells (P := P) (w := w) (b := b) (off := o) (g' := g) (val := fun i => vals.getD (o + i) undef) (cs := cs.drop o) (fun i hi => by
          have : o + i < vals.size := by rw [List.length_drop] at hi; omega
          rw [cell_of_heap hh]; simp [this]) (fun i c hc => by
          rw [List.getElem?_drop] at hc
          have hi : o + i < vals.size := by rw [hl]; exact (List.getElem?_eq_some_iff.1 hc).1
          exact hr (o + i) c _ hc (by simp [hi])) h
      exact ⟨u, by simpa [Instr.loadAt, Instr.sureAddr] using hu, hr'⟩
    · cases h
  · rename_i d o
    split at h
    · rename_i cs hcs
      obtain ⟨r', hr', rfl⟩ := Option.map_eq_some_iff.1 h
      obtain ⟨b, rfl, hb⟩ := hx.inv_aptr
      rcases hA d cs hcs with rfl | ⟨b', vals, T, hb', hh, hl, hr, _⟩
      · obtain ⟨u, hu, hr2⟩ := run_load_cells (P := P) (w := w) (b := b) (off := o) (g' := g.bare) (val := fun _ => undef) (cs := ([] : List LV).drop o) (fun i hi => by simp at hi) (fun i c hc => by simp at hc) hr'
        exact ⟨u, by simpa [Instr.loadAt, Instr.sureAddr] using hu, hr2.strip2 rfl⟩
      · rw [hb] at hb'
        cases hb'
        obtain ⟨u, hu, hr2⟩ := run_load_cells (P := P) (w := w) (b := b) (off := o) (g' := g.bare) (val := fun i => vals.getD (o + i) undef) (cs := cs.drop o) (fun i hi => by
            have : o + i < vals.size := by rw [List.length_drop] at hi; omega
            rw [cell_of_heap hh]; simp [this]) (fun i c hc => by
            rw [List.getElem?_drop] at hc
            have hi : o + i < vals.size := by have := (List.getElem?_eq_some_iff.1 hc).1; omega
            exact hr (o + i) c _ hc (by simp [hi])) hr'
        exact ⟨u, by simpa [Instr.loadAt, Instr.sureAddr] using hu, hr2.strip2 rfl⟩
    · cases h
  · cases h
theorem fieldV_run {s : TypeId} {f : Nat} {x r : LV} {v : Value} (hx : Rep P w g x v) (h : fieldV P s f x = some r) : ∃ u, (Instr.field s v f).run P w = .ok u w ∧ Rep P w g r u := by
  unfold fieldV at h
  split at h
  · rename_i o t cs hf
    obtain ⟨vs, rfl, hl, hr⟩ := hx.inv_agg
    unfold fieldL at hf
    split at hf
    · rename_i fs hu
      split at hf
      · rename_i fl hfl
        split at hf
        · rename_i i hi
          split at hf
          · cases hf
          · cases hf
            unfold loadL at h
            split at h
            · rename_i ha
              rw [hi] at h
              simp only at h
              split at h
              · rename_i hle
                cases h
                have e1 : (isAgg fl.type).run P w = .ok true w := by
                  unfold aggL at ha
                  split at ha <;> cases ha <;> rename_i hu <;> simp [isAgg, run_underlying hu]
                have e2 : (Go.sizeOf fl.type).run P w = .ok i.size w := by simp [Go.sizeOf, typeInfo, hi]
                have hle' : fl.offset + i.size ≤ vs.size := by rw [List.length_drop] at hle; omega
                refine ⟨.agg (vs.extract fl.offset (fl.offset + i.size)), ?_, .agg _ _ _ (by simp; omega) fun j c u hc hu => ?_⟩
                · simp [Instr.field, run_underlying hu, hfl, asAgg, part, e1, e2]
                · rw [List.getElem?_take] at hc
                  split at hc
                  · rename_i hj
                    rw [List.getElem?_drop] at hc
                    refine hr (fl.offset + j) c u hc ?_
                    rw [Array.getElem?_extract] at hu
                    split at hu
                    · exact hu
                    · cases hu
                  · cases hc
              · cases h
            · rename_i ha
              have e1 : (isAgg fl.type).run P w = .ok false w := by
                unfold aggL at ha
                split at ha <;> cases ha
                rename_i d hd1 hd2 hu
                simp only [isAgg, Sem.run_bind, run_underlying hu, Result.andThen]
                cases d <;> first | rfl | (exact absurd rfl (hd1 _)) | (exact absurd rfl (hd2 _ _))
              have h0 : cs[fl.offset]? = some r := by
                rw [List.head?_eq_getElem?, List.getElem?_drop] at h; simpa using h
              have hlt : fl.offset < vs.size := by rw [hl]; exact (List.getElem?_eq_some_iff.1 h0).1
              refine ⟨vs[fl.offset], ?_, hr fl.offset r _ h0 (by simp [hlt])⟩
              simp [Instr.field, run_underlying hu, hfl, asAgg, part, e1, hlt]
            · cases h
        · cases hf
      · cases hf
    · cases hf
  · cases h
theorem lenL_run {t T : TypeId} {x r : LV} {v : Value} (hx : Rep P w g x v) (h : lenL P t x = some r) : ∃ u, (Builtin.len_ #[t] T #[v]).run P w = .ok u w ∧ Rep P w g r u := by
  unfold lenL at h
  split at h
  · split at h
    · rename_i e hu
      cases h
      rcases hx.inv_sl with ⟨p, cap, hv, rfl, rfl⟩ | ⟨b, off, cap, hv, _, _⟩ <;> rw [hv] <;> exact ⟨_, by simp [Builtin.len_, run_underlying hu, goInt], .lit _ _⟩
    · cases h
  · split at h
    · rename_i hu
      cases h
      rw [hx.inv_lit]
      exact ⟨_, by simp [Builtin.len_, run_underlying hu, goInt]; rfl, by simpa using .lit _ _⟩
    · cases h
  · split at h
    · rename_i e hu
      cases h
      rcases hx.inv_bsl with ⟨hv, rfl⟩ | ⟨b, cap, cur, hb, hv, _⟩ <;> rw [hv] <;> exact ⟨_, by simp [Builtin.len_, run_underlying hu, goInt], .lit _ _⟩
    · cases h
  · cases h
theorem minmaxV_run {big : Bool} {ts : Array TypeId} {T : TypeId} {x y v : Value} (h : minmaxV big x y = some v) : ((if big then Builtin.max_ else Builtin.min_) ts T #[x, y]).run P w = .ok v w := by
  unfold minmaxV at h
  split at h
  · cases h; cases big <;> rfl
  · cases h
theorem map1 {α β : Type} {f : α → β} {l : List α} {x : β} (h : l.map f = [x]) : ∃ y, l = [y] ∧ f y = x := by
  cases l with
  | nil => cases h
  | cons a r => cases r with
    | nil => cases h; exact ⟨a, rfl, rfl⟩
    | cons b r => cases h
theorem map2 {α β : Type} {f : α → β} {l : List α} {x z : β} (h : l.map f = [x, z]) : ∃ y u, l = [y, u] ∧ f y = x ∧ f u = z := by
  cases l with
  | nil => cases h
  | cons a r => cases r with
    | nil => cases h
    | cons b r => cases r with
      | nil => cases h; exact ⟨a, b, rfl, rfl, rfl⟩
      | cons c r => cases h
theorem builtinL_run {b : Builtin} {ts : Array TypeId} {T : TypeId} {args : Array Operand} {cb : Array Bool} {ρ : Operand → LV} {e : Operand → Value} {r : LV} (hr : ∀ x ∈ args, Rep P w g (ρ x) (e x)) (h : builtinL P b ts.toList (args.toList.map ρ) = some r) :
    ∃ u, (builtin b ts T cb (args.map e)).run P w = .ok (.value u) w ∧ Rep P w g r u := by
  obtain ⟨args⟩ := args
  obtain ⟨ts⟩ := ts
  unfold builtinL at h
  split at h
  · rename_i t x ht hx
    obtain ⟨y, rfl, rfl⟩ := map1 hx
    simp only at ht
    subst ht
    obtain ⟨u, hu, hr'⟩ := lenL_run (T := T) (hr y (by simp)) h
    exact ⟨u, run_v (by simpa using hu), hr'⟩
  · rename_i x y hx
    obtain ⟨p, q, rfl, hp, hq⟩ := map2 hx
    obtain ⟨v, hv, rfl⟩ := Option.map_eq_some_iff.1 h
    have h1 := rep_lit_inv hp (hr p (by simp))
    have h2 := rep_lit_inv hq (hr q (by simp))
    refine ⟨v, run_v ?_, .lit _ _⟩
    have := minmaxV_run (P := P) (w := w) (ts := ⟨ts⟩) (T := T) hv
    simpa [h1, h2] using this
  · rename_i x y hx
    obtain ⟨p, q, rfl, hp, hq⟩ := map2 hx
    obtain ⟨v, hv, rfl⟩ := Option.map_eq_some_iff.1 h
    have h1 := rep_lit_inv hp (hr p (by simp))
    have h2 := rep_lit_inv hq (hr q (by simp))
    refine ⟨v, run_v ?_, .lit _ _⟩
    have := minmaxV_run (P := P) (w := w) (ts := ⟨ts⟩) (T := T) hv
    simpa [h1, h2] using this
  · rename_i k x y hx
    obtain ⟨p, rfl, hp⟩ := map1 hx
    cases h
    have h1 := rep_lit_inv hp (hr p (by simp))
    exact ⟨_, run_v (by simpa [h1] using run_real (P := P) (w := w) ⟨ts⟩ T _ _ _), .lit _ _⟩
  · rename_i k x y hx
    obtain ⟨p, rfl, hp⟩ := map1 hx
    cases h
    have h1 := rep_lit_inv hp (hr p (by simp))
    exact ⟨_, run_v (by simpa [h1] using run_imag (P := P) (w := w) ⟨ts⟩ T _ _ _), .lit _ _⟩
  · rename_i k x k' y hx
    obtain ⟨p, q, rfl, hp, hq⟩ := map2 hx
    split at h
    · rename_i hk
      subst hk
      cases h
      have h1 := rep_lit_inv hp (hr p (by simp))
      have h2 := rep_lit_inv hq (hr q (by simp))
      exact ⟨_, run_v (by simpa [h1, h2] using run_complex (P := P) (w := w) ⟨ts⟩ T _ _ _), .lit _ _⟩
    · cases h
  · cases h

theorem cellsL_rep {w : World} {g : Gh} {x : LV} {v : Value} {cs : List LV} (h : Rep P w g x v) (hc : cellsL x = some cs) : v.cells.size = cs.length ∧ ∀ (i : Nat) (c : LV) (u : Value), cs[i]? = some c → v.cells[i]? = some u → Rep P w g c u := by
  have one : ∀ {y : LV} {u : Value}, Rep P w g y u → u.cells = #[u] → u.cells.size = [y].length ∧ ∀ (i : Nat) (c : LV) (z : Value), [y][i]? = some c → u.cells[i]? = some z → Rep P w g c z := by
    intro y u hr hu
    rw [hu]
    refine ⟨rfl, fun i c z hc hz => ?_⟩
    match i, hc, hz with
    | 0, hc, hz => cases hc; cases hz; exact hr
  cases x with
  | any => cases hc
  | tup => cases hc
  | agg ds =>
    cases hc
    obtain ⟨vs, rfl, hl, hr⟩ := h.inv_agg
    exact ⟨hl, hr⟩
  | lit u =>
    have := h.inv_lit
    subst this
    cases v <;> cases hc <;> exact one h rfl
  | sl n ds t =>
    cases hc
    rcases h.inv_sl with ⟨p, cap, rfl, _, _⟩ | ⟨b, off, cap, rfl, _, _⟩ <;> exact one h rfl
  | ref ds => cases hc; obtain ⟨b, off, rfl, _⟩ := h.inv_ref; exact one h rfl
  | ptr d o => cases hc; obtain ⟨b, rfl, _⟩ := h.inv_ptr; exact one h rfl
  | aptr d o => cases hc; obtain ⟨b, rfl, _⟩ := h.inv_aptr; exact one h rfl
  | bsl d n e =>
    cases hc
    rcases h.inv_bsl with ⟨rfl, _⟩ | ⟨b, cap, cur, _, rfl, _⟩ <;> exact one h rfl
theorem foldl_set {off : Nat} : ∀ (l : List Value) (j0 : Nat) (cells : Array Value), off + j0 + l.length ≤ cells.size →
    ((l.zipIdx j0).foldl (fun cs p => cs.setIfInBounds (off + p.2) p.1) cells).toList = cells.toList.take (off + j0) ++ l ++ cells.toList.drop (off + j0 + l.length)
  | [], j0, cells, _ => by simp
  | c :: r, j0, cells, h => by
    rw [List.length_cons] at h
    rw [List.zipIdx_cons, List.foldl_cons, foldl_set r (j0 + 1) _ (by simp; omega)]
    have hlt : off + j0 < cells.toList.length := by rw [Array.length_toList]; omega
    have e : (cells.setIfInBounds (off + j0) c).toList = cells.toList.take (off + j0) ++ c :: cells.toList.drop (off + j0 + 1) := by
      rw [Array.toList_setIfInBounds, List.set_eq_take_append_cons_drop, if_pos hlt]
    have hto : (cells.toList.take (off + j0)).length = off + j0 := by rw [List.length_take]; omega
    rw [e]
    rw [show off + (j0 + 1) = off + j0 + 1 by omega, List.length_cons]
    rw [List.take_append, hto, List.take_of_length_le (by omega), show off + j0 + 1 - (off + j0) = 1 by omega, List.take_succ_cons, List.take_zero]
    rw [List.drop_append, hto, List.drop_eq_nil_of_le (by omega), show off + j0 + 1 + r.length - (off + j0) = r.length + 1 by omega, List.drop_succ_cons, List.drop_drop, List.nil_append]
    simp [Nat.add_assoc, Nat.add_comm 1]
theorem fill_run {w : World} {g : Gh} {place : Nat → Option (Nat × Nat)} {e : Operand → Value} {ρ : Operand → LV} : ∀ (parts : List (Nat × Operand)) (cells : Array Value) (cs rs : List LV), (∀ p ∈ parts, Rep P w g (ρ p.2) (e p.2)) → cells.size = cs.length → (∀ (i : Nat) (c : LV) (u : Value), cs[i]? = some c → cells[i]? = some u → Rep P w g c u) →
    fillL place cs (parts.map fun q => (q.1, ρ q.2)) = some rs → ∃ out : Array Value, Instr.fill place cells (parts.map fun q => (q.1, e q.2)) = some out ∧ out.size = rs.length ∧ ∀ (i : Nat) (c : LV) (u : Value), rs[i]? = some c → out[i]? = some u → Rep P w g c u
  | [], cells, cs, rs, _, hl, hr, h => by cases h; exact ⟨cells, rfl, hl, hr⟩
  | (i, x) :: r, cells, cs, rs, hp, hl, hr, h => by
    simp only [List.map_cons, fillL] at h
    split at h
    · rename_i off size xs hpl hcx
      split at h
      · rename_i hb
        have hx := hp (i, x) (by simp)
        obtain ⟨h1, h2⟩ := cellsL_rep hx hcx
        simp only at h1 h2
        have hsz : (e x).cells.size = size := by rw [h1]; exact hb.1
        have hfit : off + 0 + (e x).cells.toList.length ≤ cells.size := by rw [Array.length_toList, hsz]; omega
        have hfold : ((e x).cells.zipIdx.foldl (fun cs (c, j) => cs.setIfInBounds (off + j) c) cells).toList = cells.toList.take off ++ (e x).cells.toList ++ cells.toList.drop (off + size) := by
          have := foldl_set (off := off) (e x).cells.toList 0 cells hfit
          rw [Nat.add_zero, Array.length_toList, hsz] at this
          rw [← this]
          congr 1
          rw [← Array.foldl_toList]
          simp
        generalize hc' : ((e x).cells.zipIdx.foldl (fun cs (c, j) => cs.setIfInBounds (off + j) c) cells) = cells' at hfold
        have hto : (cs.take off).length = off := by rw [List.length_take]; omega
        have hto' : (cells.toList.take off).length = off := by rw [List.length_take, Array.length_toList]; omega
        obtain ⟨out, ho, hol, hor⟩ := fill_run r cells' (cs.take off ++ xs ++ cs.drop (off + size)) rs (fun p hp' => hp p (by simp [hp'])) (by
          rw [← Array.length_toList, hfold]
          simp only [List.length_append, hto, hto', List.length_drop, Array.length_toList]; omega) (fun j c u hc hu => by
          rw [← Array.getElem?_toList, hfold] at hu
          have hxl : (e x).cells.toList.length = xs.length := by rw [Array.length_toList, h1]
          by_cases i1 : j < off
          · rw [List.append_assoc, List.getElem?_append_left (by omega), List.getElem?_take_of_lt i1] at hc hu
            exact hr j c u hc (by rw [← Array.getElem?_toList]; exact hu)
          · by_cases i2 : j < off + size
            · rw [List.append_assoc, List.getElem?_append_right (by omega), List.getElem?_append_left (by omega)] at hc hu
              rw [hto] at hc
              rw [hto'] at hu
              exact h2 (j - off) c u hc (by rw [← Array.getElem?_toList]; exact hu)
            · rw [List.append_assoc, List.getElem?_append_right (by omega), List.getElem?_append_right (by omega), List.getElem?_drop] at hc hu
              rw [hto] at hc
              rw [hto', hxl] at hu
              rw [show off + size + (j - off - xs.length) = j by omega] at hc hu
              exact hr j c u hc (by rw [← Array.getElem?_toList]; exact hu)) h
        refine ⟨out, ?_, hol, hor⟩
        simp only [List.map_cons, Instr.fill, hpl]
        rw [if_neg (by simp [hsz]; omega), hc']
        exact ho
      · cases h
    · cases h
theorem mapM_run {w : World} {α β : Type} {f : α → Sem β} {h : α → Option β} (hf : ∀ x y, h x = some y → (f x).run P w = .ok y w) : ∀ (l : List α) (r : List β), l.mapM h = some r → (l.mapM f).run P w = .ok r w
  | [], r, hr => by simp at hr; subst hr; rfl
  | x :: l, r, hr => by
    rw [List.mapM_cons] at hr
    cases hx : h x with
    | none => rw [hx] at hr; cases hr
    | some y =>
      rw [hx] at hr
      cases hl : l.mapM h with
      | none => rw [hl] at hr; cases hr
      | some r' =>
        rw [hl] at hr
        cases hr
        rw [List.mapM_cons, Sem.run_bind, hf x y hx]
        show ((l.mapM f) >>= fun ys => pure (y :: ys)).run P w = _
        rw [Sem.run_bind, mapM_run hf l r' hl]
        rfl
theorem buildL_run {w : World} {g : Gh} {t : TypeId} {parts : Array (Nat × Operand)} {e : Operand → Value} {ρ : Operand → LV} {x : LV} (hr : ∀ p ∈ parts, Rep P w g (ρ p.2) (e p.2)) (h : buildL P t (parts.toList.map fun q => (q.1, ρ q.2)) = some x) :
    ∃ v, (Instr.build t (parts.map fun (i, y) => (i, e y))).run P w = .ok v w ∧ Rep P w g x v := by
  unfold buildL at h
  split at h
  · rename_i i ps hi hps
    split at h
    · rename_i z hz
      obtain ⟨rs, hrs, rfl⟩ := Option.map_eq_some_iff.1 h
      unfold placesL at hps
      split at hps
      · rename_i fs hu
        obtain ⟨out, ho, hol, hor⟩ := fill_run parts.toList z.cells (z.cells.toList.map toLV) rs (fun p hp => hr p (by simpa using hp)) (by simp) (fun j c u hc hu => by
          rw [List.getElem?_map, Option.map_eq_some_iff] at hc
          obtain ⟨u', hu', rfl⟩ := hc
          rw [Array.getElem?_toList, hu] at hu'
          cases hu'
          exact rep_toLV u) hrs
        refine ⟨.agg out, ?_, .agg _ _ _ hol hor⟩
        have hm := mapM_run (P := P) (w := w) (f := fun f : Field => (do pure (f.offset, ← Go.sizeOf f.type) : Sem (Nat × Nat))) (h := fun f => (P.info? f.type).map fun i => (f.offset, i.size)) (fun f y hy => by
          obtain ⟨inf, hinf, rfl⟩ := Option.map_eq_some_iff.1 hy
          simp [Go.sizeOf, typeInfo, hinf]) fs.toList ps hps
        have hm' : (fs.mapM fun f : Field => (do pure (f.offset, ← Go.sizeOf f.type) : Sem (Nat × Nat))).run P w = .ok ps.toArray w := by
          rw [Array.mapM_eq_mapM_toList, Sem.run_map, hm]; rfl
        have hz' : (zeroValue t).run P w = .ok z w := by simp [zeroValue, typeInfo, hi, hz]
        have hfl : Instr.fill (ps.toArray[·]?) z.cells (parts.map fun (i, y) => (i, e y)).toList = some out := by
          rw [Array.toList_map, ← ho]
          congr 1
          funext j; simp
        simp only [Instr.build, Sem.run_bind, hz', Result.andThen, run_underlying hu, hm', hfl]
        rfl
      · cases hps
    · cases h
  · cases h
theorem eqOne_run {w : World} {g : Gh} {d o : Nat} {f : Field} {k : Nat} {x y : LV} {u v : Value} {xs ys : Array Value} {b : Bool} (hf : eqKind P f = some (o, k)) (hx : Rep P w g x u) (hy : Rep P w g y v) (hu : xs[o]? = some u) (hv : ys[o]? = some v) (h : eqOne k x y = some b) :
    f.name ≠ "_" ∧ (part f.type xs f.offset).run P w = .ok u w ∧ (part f.type ys f.offset).run P w = .ok v w ∧ (Op.equalIn (d + 1) f.type u v).run P w = .ok b w := by
  unfold eqKind at hf
  split at hf
  · cases hf
  · rename_i hn
    refine ⟨hn, ?_⟩
    have pt : ∀ {u : Value} {xs : Array Value}, xs[f.offset]? = some u → (isAgg f.type).run P w = .ok false w → (part f.type xs f.offset).run P w = .ok u w := by
      intro u xs hu ha
      simp [part, ha, hu]
    split at hf
    · rename_i kk ht
      cases hf
      have ha : (isAgg f.type).run P w = .ok false w := by simp [isAgg, run_underlying ht]
      unfold eqOne at h
      split at h
      · split at h
        · rename_i a p b' q hab
          subst hab
          cases h
          rw [hx.inv_lit] at hu
          rw [hy.inv_lit] at hv
          rw [hx.inv_lit, hy.inv_lit]
          refine ⟨pt hu ha, pt hv ha, ?_⟩
          rw [run_equalIn_int w d f.type _ _ _ _ ht]
          congr 1
        · cases h
      · rename_i h1; cases h1
      · rename_i h1; cases h1
      · cases h
    · rename_i ht
      cases hf
      have ha : (isAgg f.type).run P w = .ok false w := by simp [isAgg, run_underlying ht]
      unfold eqOne at h
      split at h
      · rename_i h1; cases h1
      · cases h
        rw [hx.inv_lit] at hu
        rw [hy.inv_lit] at hv
        rw [hx.inv_lit, hy.inv_lit]
        refine ⟨pt hu ha, pt hv ha, ?_⟩
        rw [run_equalIn_string w d f.type _ _ ht, toList_eq, toList_eq, dec_beq]
      · rename_i h1; cases h1
      · cases h
    · rename_i ht
      cases hf
      have ha : (isAgg f.type).run P w = .ok false w := by simp [isAgg, run_underlying ht]
      unfold eqOne at h
      split at h
      · rename_i h1; cases h1
      · rename_i h1; cases h1
      · cases h
        rw [hx.inv_lit] at hu
        rw [hy.inv_lit] at hv
        rw [hx.inv_lit, hy.inv_lit]
        exact ⟨pt hu ha, pt hv ha, run_equalIn_bool' w d f.type _ _ ht⟩
      · cases h
    · cases hf
theorem eqFields_run {w : World} {g : Gh} {d : Nat} {cs ds : List LV} {xs ys : Array Value} (hxl : xs.size = cs.length) (hyl : ys.size = ds.length) (hx : ∀ (i : Nat) (c : LV) (u : Value), cs[i]? = some c → xs[i]? = some u → Rep P w g c u) (hy : ∀ (i : Nat) (c : LV) (u : Value), ds[i]? = some c → ys[i]? = some u → Rep P w g c u) :
    ∀ (fs : List Field) (ks : List (Nat × Nat)) (b : Bool), fs.mapM (eqKind P) = some ks → eqListL cs ds ks = some b → (Op.eqFields (d + 1) xs ys fs).run P w = .ok b w
  | [], ks, b, hk, h => by simp at hk; subst hk; cases h; rfl
  | f :: fs, ks, b, hk, h => by
    rw [List.mapM_cons] at hk
    cases hf : eqKind P f with
    | none => rw [hf] at hk; cases hk
    | some ok =>
      rw [hf] at hk
      cases hfs : fs.mapM (eqKind P) with
      | none => rw [hfs] at hk; cases hk
      | some ks' =>
        rw [hfs] at hk
        cases hk
        obtain ⟨o, k⟩ := ok
        simp only [eqListL] at h
        split at h
        · rename_i x y hcx hdy
          split at h
          · rename_i b1 e1 h1 h2
            cases h
            have hol : o < xs.size := by rw [hxl]; exact (List.getElem?_eq_some_iff.1 hcx).1
            have hol' : o < ys.size := by rw [hyl]; exact (List.getElem?_eq_some_iff.1 hdy).1
            have ih := eqFields_run (d := d) hxl hyl hx hy fs ks' e1 hfs h2
            obtain ⟨hn, r1, r2, r3⟩ := eqOne_run (d := d) hf (hx o x _ hcx (Array.getElem?_eq_getElem hol)) (hy o y _ hdy (Array.getElem?_eq_getElem hol')) (Array.getElem?_eq_getElem hol) (Array.getElem?_eq_getElem hol') h1
            simp only [Op.eqFields, if_pos hn, Sem.run_bind, r1, r2, r3, Result.andThen]
            cases b1
            · simp
            · simpa using ih
          · cases h
        · cases h
theorem binL_run {w : World} {g : Gh} {op : BinOp} {t : TypeId} {p q : Operand} {x y r : LV} {u v : Value} (hx : Rep P w g x u) (hy : Rep P w g y v) (h : binL P op t x y = some r) : ∃ z, (do eqGuard op t p q u v; binOp op t u v : Sem Value).run P w = .ok z w ∧ Rep P w g r z := by
  unfold binL at h
  split at h
  · split at h
    · rename_i cs ds ks hks
      unfold eqKinds at hks
      split at hks
      · rename_i fs hu
        split at hks
        · rename_i hc
          obtain ⟨xs, rfl, hxl, hxr⟩ := hx.inv_agg
          obtain ⟨ys, rfl, hyl, hyr⟩ := hy.inv_agg
          have hfo : P.fieldsOf t = fs := by simp [Program.fieldsOf, hu]
          unfold eqAggL at h
          split at h
          · rename_i b hb
            have hrun := eqFields_run (P := P) (w := w) (g := g) (d := 9998) hxl hyl hxr hyr fs.toList ks b hks hb
            have he : (Op.equalIn 10000 t (.agg xs) (.agg ys)).run P w = .ok b w := by
              rw [show (10000 : Nat) = 9999 + 1 from rfl, run_equalIn_agg w 9999 t xs ys (by rw [hfo]; exact hu) hc.1, hfo]
              exact hrun
            split at h
            · cases h
              exact ⟨_, by rw [Sem.run_bind, run_eqGuard_agg w _ _ _ _ _ _ hc.2]; show (binOp _ _ _ _).run P w = _; rw [run_eql_struct, he]; rfl, .lit _ _⟩
            · cases h
              exact ⟨_, by rw [Sem.run_bind, run_eqGuard_agg w _ _ _ _ _ _ hc.2]; show (binOp _ _ _ _).run P w = _; rw [run_neq_struct, he]; rfl, .lit _ _⟩
            · cases h
          · cases h
        · cases hks
      · cases hks
    · cases h
  · unfold lit2 at h
    split at h
    · obtain ⟨z, hz, rfl⟩ := Option.map_eq_some_iff.1 h
      rw [hx.inv_lit, hy.inv_lit]
      exact ⟨z, by rw [Sem.run_bind, eqGuard_lit hz]; exact binV_run hz, .lit _ _⟩
    · cases h
/-- WHAT 'pv' SAYS, THE OPERATION DOES. -/
theorem pv_sound {ρ : Operand → LV} {B A : Nat → Option (List LV)} {a : Act} {o : Oper} {x : LV} (hr : ∀ y ∈ o.op.operands, Rep P w g (ρ y) (a.eval y)) (hB : ∀ d cs, B d = some cs → BoxAt P w g d cs) (hA : ∀ d cs, A d = some cs → ArrAt P w g d cs) (h : pv P ρ B A o.op = some x) :
    ∃ v, (execOp a.eval o).run P w = .ok (.value v) w ∧ Rep P w g x v := by
  obtain ⟨dst, op, type, pos, after, guard⟩ := o
  simp only at hr h
  cases op <;> simp only [Op.operands] at hr <;> simp only [pv] at h <;> try (cases h; done)
  case move y => cases h; exact ⟨_, rfl, hr y (by simp)⟩
  case assign y => cases h; exact ⟨_, rfl, hr y (by simp)⟩
  case pick c y z =>
    have h1 := hr c (by simp)
    unfold pickL at h
    split at h
    · rename_i t he
      cases h
      have h2 := rep_lit_inv he h1
      refine ⟨if t then a.eval y else a.eval z, by simp [execOp, h2, asBool], ?_⟩
      cases t
      · exact hr z (by simp)
      · exact hr y (by simp)
    · cases h
  case extract t i =>
    have h1 := hr t (by simp)
    unfold extractL at h
    split at h
    · rename_i cs he
      rw [he] at h1
      obtain ⟨vs, hv, hl, h2⟩ := h1.inv_tup
      have hi : i < vs.size := by rw [hl]; exact (List.getElem?_eq_some_iff.1 h).1
      refine ⟨vs[i], run_v (by simp [hv, Instr.extract, hi]), h2 i x _ h (by simp [hi])⟩
    · cases h
  case fieldAddr s y f =>
    obtain ⟨u, hu, h2⟩ := fieldAtL_run (hr y (by simp)) h
    exact ⟨u, run_v hu, h2⟩
  case indexAddr t y i =>
    obtain ⟨u, hu, h2⟩ := indexL_run (hr y (by simp)) (hr i (by simp)) h
    exact ⟨u, run_v hu, h2⟩
  case load t p =>
    obtain ⟨u, hu, h2⟩ := loadAtL_run (hr p (by simp)) hB hA h
    exact ⟨u, run_v hu, h2⟩
  case field s y f =>
    obtain ⟨u, hu, h2⟩ := fieldV_run (hr y (by simp)) h
    exact ⟨u, run_v hu, h2⟩
  case binOp op t y z t' =>
    obtain ⟨u, hu, h2⟩ := binL_run (p := y) (q := z) (hr y (by simp)) (hr z (by simp)) h
    exact ⟨u, run_v hu, h2⟩
  case unOp op t y =>
    unfold lit1 at h
    split at h
    · rename_i p he1
      obtain ⟨v, hv, rfl⟩ := Option.map_eq_some_iff.1 h
      have h1 := rep_lit_inv he1 (hr y (by simp))
      exact ⟨v, run_v (by rw [h1]; exact unV_run hv), .lit _ _⟩
    · cases h
  case convert s d y =>
    unfold lit1 at h
    split at h
    · rename_i p he1
      obtain ⟨v, hv, rfl⟩ := Option.map_eq_some_iff.1 h
      have h1 := rep_lit_inv he1 (hr y (by simp))
      exact ⟨v, run_v (by rw [h1]; exact convV_run hv), .lit _ _⟩
    · cases h
  case index t y i =>
    unfold lit2 at h
    split at h
    · rename_i p q he1 he2
      obtain ⟨v, hv, rfl⟩ := Option.map_eq_some_iff.1 h
      have h1 := rep_lit_inv he1 (hr y (by simp))
      have h2 := rep_lit_inv he2 (hr i (by simp))
      exact ⟨v, run_v (by rw [h1, h2]; exact idxV_run hv), .lit _ _⟩
    · cases h
  case slice t y lo hi mx =>
    cases mx with
    | some _ => simp only [pv] at h; cases h
    | none =>
      simp only [pv] at h
      obtain ⟨u, hu, h2⟩ := sliceL_run (e := a.eval) (hr y (by simp)) (fun z hz => hr z (by simp [hz])) (fun z hz => hr z (by simp [hz])) h
      exact ⟨u, run_v hu, h2⟩
  case build t parts =>
    obtain ⟨u, hu, h2⟩ := buildL_run (e := a.eval) (fun p hp => hr p.2 (by simpa using ⟨p.1, by simpa using hp⟩)) h
    exact ⟨u, run_v hu, h2⟩
  case call c =>
    obtain ⟨callee, args, ts⟩ := c
    cases callee <;> simp only [pv] at h <;> try (cases h; done)
    rename_i b
    obtain ⟨u, hu, h2⟩ := builtinL_run (T := type) (cb := args.map fun | .const _ => true | _ => false) (e := a.eval) (fun z hz => hr z (by simp [Call.operands, hz])) h
    refine ⟨u, ?_, h2⟩
    rw [← hu]; rfl

/-- It looks at its operands alone. -/
theorem pv_congr {ρ ρ' : Operand → LV} {B A : Nat → Option (List LV)} {op : Op} (h : ∀ y ∈ op.operands, ρ y = ρ' y) : pv P ρ B A op = pv P ρ' B A op := by
  cases op <;> simp only [Op.operands] at h <;> try rfl
  case call c =>
    obtain ⟨callee, args, ts⟩ := c
    cases callee <;> try rfl
    simp only [pv]
    congr 1
    apply List.map_congr_left
    intro x hx
    exact h x (by simp [Call.operands]; simpa using hx)
  case build t parts =>
    simp only [pv]
    congr 1
    apply List.map_congr_left
    intro q hq
    rw [h q.2 (by simpa using ⟨q.1, by simpa using hq⟩)]
  case slice t x lo hi mx =>
    cases mx with
    | some _ => rfl
    | none => cases lo <;> cases hi <;> simp_all [pv]
  all_goals (simp only [pv]; simp_all; done)
end
end Go.Proofs.Ytmchdjpgceiloaa
