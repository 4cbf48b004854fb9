/-
  PLAIN: 'acl.Norm' at a turned list, at its own answer.
-/
import Derived.Test.YtmchdjpgceiloaaDoorANSpec
set_option linter.unusedSimpArgs false
set_option linter.unusedVariables false
namespace Go.Proofs.YtmchdjpgceiloaaDoor.AclSpec

theorem normA_perm {l l' : List Ace} (hp : l'.Perm l) : normA l' = normA l := by
  have h1 : l'.all goodB = l.all goodB := by
    rw [Bool.eq_iff_iff, List.all_eq_true, List.all_eq_true]
    exact ⟨fun h x hx => h x (hp.mem_iff.2 hx), fun h x hx => h x (hp.mem_iff.1 hx)⟩
  have h2 : (l'.map key).Nodup ↔ (l.map key).Nodup := (hp.map key).nodup_iff
  have h3 : l'.length = l.length := hp.length_eq
  have h4 : l'.isEmpty = l.isEmpty := by rw [Bool.eq_iff_iff, List.isEmpty_iff_length_eq_zero, List.isEmpty_iff_length_eq_zero, h3]
  unfold normA
  rw [h1, h3, h4]
  by_cases hn : (l.map key).Nodup
  · have hn' := h2.2 hn
    have e : sortA l' = sortA l := sorted_unique ((sortA_perm l').trans hp) (sortA_sorted l') hn
    rw [e]; simp [hn, hn']
  · have hn' : ¬ (l'.map key).Nodup := fun h => hn (h2.1 h)
    simp [hn, hn']
theorem normA_reverse (l : List Ace) : normA l.reverse = normA l := normA_perm (List.reverse_perm l)
theorem normA_err {l : List Ace} (h : ¬ (normA l).2 = 0) : (normA l).1 = [] := by
  revert h
  unfold normA
  repeat' split
  all_goals first | (intro _; rfl) | (intro h; exact absurd rfl h)
theorem chk_sorted : ∀ {l : List Ace} (o : Option Ace), SortedA l → (l.map key).Nodup → l.all goodB = true → (∀ b, o = some b → ∀ a, l.head? = some a → cmpA b a < 0) → chk o l = true
  | [], o, _, _, _, _ => by cases o <;> rfl
  | a :: r, o, hs, hn, hg, ho => by
    have hs' := List.pairwise_cons.1 hs
    rw [List.map_cons, List.nodup_cons] at hn
    simp only [List.all_cons, Bool.and_eq_true] at hg
    have ih := chk_sorted (some a) hs'.2 hn.2 hg.2 (fun b hb c hc => by
      obtain rfl := Option.some.inj hb
      have hm : c ∈ r := List.mem_of_mem_head? hc
      have h1 := hs'.1 c hm
      have h2 : key c ≠ key a := fun e => hn.1 (List.mem_map.2 ⟨c, hm, e⟩)
      simp only [key, ne_eq, Prod.mk.injEq] at h2
      rw [cmpA_lt] at *
      omega)
    cases o with
    | none => simp [chk, hg.1, ih]
    | some b => simp [chk, hg.1, ih, ho b rfl a rfl]
theorem normA_ok {l : List Ace} (h : (normA l).2 = 0) : (normA l).1 = sortA l ∧ mayA (sortA l) = true ∧ l.length ≤ 16 := by
  unfold normA at *
  by_cases h1 : l.all goodB = true
  · by_cases h2 : (l.map key).Nodup
    · by_cases h3 : 16 < l.length
      · simp [h1, h2, h3] at h
      · by_cases h4 : (!(maskB (sortA l)).2 && !l.isEmpty) = true
        · rw [h4] at h; simp [h1, h2, h3] at h
        · have hp := sortA_perm l
          have hlen : (sortA l).length = l.length := hp.length_eq
          have he : (sortA l).isEmpty = l.isEmpty := by rw [Bool.eq_iff_iff, List.isEmpty_iff_length_eq_zero, List.isEmpty_iff_length_eq_zero, hlen]
          have h4' := Bool.eq_false_iff.2 h4
          rw [h4']
          simp only [h1, h2, h3]
          refine ⟨by simp, ?_, by omega⟩
          have hc : chkAt (sortA l) 0 = true := by
            unfold chkAt
            refine chk_sorted _ (sortA_sorted l) ((hp.map key).nodup_iff.2 h2) ?_ (fun b hb => by simp [prev] at hb)
            rw [List.all_eq_true] at *; exact fun x hx => h1 x (hp.mem_iff.1 hx)
          rw [mayA_end (by omega) hc, he]
          cases h5 : (maskB (sortA l)).2 <;> cases h6 : l.isEmpty <;> simp_all
    · simp [h1, h2] at h
  · simp [h1] at h
theorem normA_again {l : List Ace} (h : (normA l).2 = 0) : normA (normA l).1 = normA l := by
  rw [(normA_ok h).1, normA_perm (sortA_perm l)]
theorem normA_len {l : List Ace} (h : (normA l).2 = 0) : (normA l).1.length = l.length := by
  rw [(normA_ok h).1]; exact (sortA_perm l).length_eq
end Go.Proofs.YtmchdjpgceiloaaDoor.AclSpec
