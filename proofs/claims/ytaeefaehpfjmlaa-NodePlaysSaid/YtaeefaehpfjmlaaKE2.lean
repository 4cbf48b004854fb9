import Derived.Test.YtaeefaehpfjmlaaKE1
set_option linter.unusedSimpArgs false
set_option linter.unusedVariables false
namespace Go.Proofs.Ytaeefaehpfjmlaa
open Nat renaming reduceAdd → zz1, reduceMul → zz2, reduceSub → zz3, reduceLT → zz4, reduceLeDiff → zz5, reduceEqDiff → zz6, reduceBEq → zzf
open Int renaming reduceAdd → zz7, reduceSub → zz8, reduceMul → zz9, reduceLT → zza, reduceLE → zzb, reduceEq → zzc, reduceNeg → zzd, reduceToNat → zze
open Go.RowKit Go.Proofs Flo Ext

theorem eE_lits (l : List (Nat × Nat)) : litsL (l.flatMap fun x => [eV x]) = l.flatMap eE := by
  unfold litsL
  rw [List.map_flatMap]; rfl
theorem eE_flen (l : List (Nat × Nat)) : (l.flatMap eE).length = l.length := by rw [len_flat eE 1 eE_len, Nat.mul_one]
theorem eE_one (l : List (Nat × Nat)) : (l.flatMap eE).all oneL = true := by
  rw [List.all_eq_true]; intro x hx
  obtain ⟨a, _, ha⟩ := List.mem_flatMap.1 hx
  simp [eE, eV] at ha
  subst ha; rfl
theorem eE_strip (l : List (Nat × Nat)) : (l.flatMap eE).map strip1 = l.flatMap eE := strip1_enc (fun _ => rfl) l
theorem drop_e {l : List (Nat × Nat)} {i : Nat} {a : Nat × Nat} (h : l[i]? = some a) : (l.flatMap eE).drop i = .lit (eV a) :: (l.drop (i + 1)).flatMap eE := by
  have := drop_flat eE 1 eE_len h
  rwa [Nat.mul_one] at this
theorem eE_snoc (l : List (Nat × Nat)) (z : Nat × Nat) : (l ++ [z]).flatMap eE = l.flatMap eE ++ [.lit (eV z)] := by rw [List.flatMap_append]; rfl
theorem kept_succ {l : List (Nat × Nat)} {i : Nat} {z : Nat × Nat} (h : l[i]? = some z) : keptE big (l.take (i + 1)) = keptE big (l.take i) ++ (if 0 < min z.2 (big - z.1) then [(z.1, min z.2 (big - z.1))] else []) := by
  obtain ⟨hi, rfl⟩ := List.getElem?_eq_some_iff.1 h
  unfold keptE
  rw [List.take_succ_eq_append_getElem hi, List.map_append, List.filter_append]
  congr 1
  simp only [List.map_cons, List.map_nil, List.filter_cons, List.filter_nil, decide_eq_true_eq]
theorem kept_le (l : List (Nat × Nat)) : (keptE big l).length ≤ l.length := by
  unfold keptE
  exact Nat.le_trans (List.length_filter_le _ _) (by rw [List.length_map]; exact Nat.le_refl _)
theorem ok_of_fin {z : Nat × Nat} (h : fin z ≤ big) : okE z := by unfold fin at h; exact ⟨by omega, by omega⟩
theorem sorted_of {l : List (Nat × Nat)} (hl : ∀ z ∈ l, okE z) (h : l.Pairwise fun a b => ¬ cmpE b a < 0) : SortedE l := by
  refine h.imp_of_mem fun {a b} ha hb hab => ?_
  rw [cmpE_lt] at hab
  have := (hl a ha).1; have := (hl b hb).1
  omega
theorem take_fold {l : List (Nat × Nat)} {i : Nat} {z : Nat × Nat} (h : l[i]? = some z) : (l.take (i + 1)).foldl stepE [] = stepE ((l.take i).foldl stepE []) z := by
  obtain ⟨hi, rfl⟩ := List.getElem?_eq_some_iff.1 h
  rw [List.take_succ_eq_append_getElem hi, List.foldl_append]; rfl

theorem step_len (out : List E) (z : E) : (stepE out z).length ≤ out.length + 1 := by
  unfold stepE
  split
  · simp
  · rename_i y hy
    have := snoc_of_last hy
    split
    · simp
    · split
      · rw [this]; simp
      · omega
theorem fold_len : ∀ (l out : List E), (l.foldl stepE out).length ≤ out.length + l.length
  | [], out => by simp
  | z :: l, out => by
    have h1 := fold_len l (stepE out z)
    have h2 := step_len out z
    simp only [List.foldl_cons, List.length_cons]; omega

set_option maxRecDepth 100000 in
set_option maxHeartbeats 2000000 in
theorem norm_L (l : List (Nat × Nat)) (hok : ∀ z ∈ l, okE z) (hl : l.length ≤ 1000000) : LCalls Try.prog 31 [eL l] (eL (normE big l)) := by
  have hbig : ((big : Nat) : Int) = 1099511627776 := rfl
  refine LCalls.of (fun _ => false) Try.func31 rfl (by decide) Try.ntmps31 Try.results31 (by simp) ?_
  intro w0 S0 vs hgl hwf0 hsz hvs; clear hsz hvs hwf0 hgl
  (repeat (first | refine LW_seq ?_ | ((first | (refine LW_region ?_; intro K hK; simp only [LY, reduceCtorEq, reduceIte, zz1, zz2, zz3, zz4, zz5, zz6, zz7, zz8, zz9, zza, zzb, zzc, zzd, zze, zzf, eL]; refine hK _ ?_; clear hK K) | refine LW_label ?_ | refine LW_skip ?_); try simp only [LSj, reduceIte, zze]) | refine LW_block ?_))
  refine LW_nilB (k := 3) (q := 3) (e := 61) rfl ?_
  refine LW_loop (fun n st => ∃ i : Nat, n + i = l.length ∧ st.env 11 = eL l ∧ st.env 12 = intL l.length ∧ st.env 13 = intL i ∧ st.env 3 = .bsl 3 (keptE big (l.take i)).length 61 ∧ st.arr 3 = some ((keptE big (l.take i)).flatMap eE) ∧ st.mode = (fun _ => false)) l.length ⟨0, by omega, rfl, rfl, rfl, rfl, rfl, rfl⟩ ?_
  rintro n st ⟨i, hn, h11, h12, h13, h3, ha, hmd⟩
  (repeat (first | refine LW_seq ?_ | ((first | (refine LW_region ?_; intro K hK; simp only [LY, reduceCtorEq, reduceIte, zz1, zz2, zz3, zz4, zz5, zz6, zz7, zz8, zz9, zza, zzb, zzc, zzd, zze, zzf, h11, h12, h13, eL]; refine hK _ ?_; clear hK K) | refine LW_label ?_ | refine LW_skip ?_); try simp only [LSj, reduceIte, zze]) | refine LW_block ?_))
  by_cases hlt : i < l.length
  · obtain ⟨z, hz⟩ := get_of_lt hlt
    have hzk := hok z (List.mem_of_getElem? hz)
    have hd := drop_e hz
    have hw := w64s (n := i) (by omega)
    have hks := kept_succ hz
    have hkl := kept_le (l.take i)
    rw [List.length_take] at hkl
    have hfl := eE_flen (keptE big (l.take i))
    have hsub : IntKind.i64.wrap ((1099511627776 : Int) - (z.1 : Int)) = ((big - z.1 : Nat) : Int) := by
      have := hzk.1; unfold big at *; rw [w64 (by omega)]; omega
    have hmin : (if big - z.1 < z.2 then ((big - z.1 : Nat) : Int) else (z.2 : Int)) = ((min z.2 (big - z.1) : Nat) : Int) := by split <;> omega
    generalize hk : min z.2 (big - z.1) = k at *
    have hkb : k ≤ big := by omega
    have c := of_L z.1 k
    rw [limI_nat hzk.1, limI_nat hkb] at c
    generalize hK0 : keptE big (l.take i) = kp at *
    refine LW_if ?_; intro X Y hX hY; simp only [LY, reduceCtorEq, reduceIte, zz1, zz2, zz3, zz4, zz5, zz6, zz7, zz8, zz9, zza, zzb, zzc, zzd, zze, zzf, hlt]; refine hX ?_; clear hX hY X Y; try simp only [LSj, reduceIte, zze]
    (repeat (first | refine LW_seq ?_ | ((first | (refine LW_region ?_; intro K hK; simp only [LY, reduceCtorEq, reduceIte, zz1, zz2, zz3, zz4, zz5, zz6, zz7, zz8, zz9, zza, zzb, zzc, zzd, zze, zzf, h11, h13, eL, hlt, hd]; refine hK _ ?_; clear hK K) | refine LW_label ?_ | refine LW_skip ?_); try simp only [LSj, reduceIte, zze]) | refine LW_block ?_))
    (repeat (first | refine LW_seq ?_ | (refine LW_skip ?_; simp only [LSj, reduceIte, zze]) | refine LW_block ?_)); refine LW_region ?_; intro K hK; simp only [LY, reduceCtorEq, reduceIte, zz1, zz2, zz3, zz4, zz5, zz6, zz7, zz8, zz9, zza, zzb, zzc, zzd, zze, zzf]
    refine cop_intro ?ha (long_L hzk) ?_; (case ha => (simp only [LY, reduceCtorEq, reduceIte, zz1, zz2, zz3, zz4, zz5, zz6, zz7, zz8, zz9, zza, zzb, zzc, zzd, zze, zzf]) <;> rfl); simp only [LY, reduceCtorEq, reduceIte, zz1, zz2, zz3, zz4, zz5, zz6, zz7, zz8, zz9, zza, zzb, zzc, zzd, zze, zzf]
    refine cop_intro ?ha (at_L hzk) ?_; (case ha => (simp only [LY, reduceCtorEq, reduceIte, zz1, zz2, zz3, zz4, zz5, zz6, zz7, zz8, zz9, zza, zzb, zzc, zzd, zze, zzf, hsub, hmin]) <;> rfl); simp only [LY, reduceCtorEq, reduceIte, zz1, zz2, zz3, zz4, zz5, zz6, zz7, zz8, zz9, zza, zzb, zzc, zzd, zze, zzf, hsub, hmin]
    refine hK _ ?_; clear hK K; try simp only [LSj, reduceIte, zze]
    (repeat (first | refine LW_seq ?_ | ((first | (refine LW_region ?_; intro K hK; simp only [LY, reduceCtorEq, reduceIte, zz1, zz2, zz3, zz4, zz5, zz6, zz7, zz8, zz9, zza, zzb, zzc, zzd, zze, zzf]; refine hK _ ?_; clear hK K) | refine LW_label ?_ | refine LW_skip ?_); try simp only [LSj, reduceIte, zze]) | refine LW_block ?_))
    by_cases hk0 : (0 : Int) < k
    · rw [if_pos (by omega)] at hks
      refine LW_if ?_; intro X Y hX hY; simp only [LY, reduceCtorEq, reduceIte, zz1, zz2, zz3, zz4, zz5, zz6, zz7, zz8, zz9, zza, zzb, zzc, zzd, zze, zzf, hk0]; refine hX ?_; clear hX hY X Y; try simp only [LSj, reduceIte, zze]
      (repeat (first | refine LW_seq ?_ | (refine LW_skip ?_; simp only [LSj, reduceIte, zze]) | refine LW_block ?_)); refine LW_region ?_; intro K hK; simp only [LY, reduceCtorEq, reduceIte, zz1, zz2, zz3, zz4, zz5, zz6, zz7, zz8, zz9, zza, zzb, zzc, zzd, zze, zzf, h3, ha, hmd]
      refine cop_intro ?ha (at_L hzk) ?_; (case ha => (simp only [LY, reduceCtorEq, reduceIte, zz1, zz2, zz3, zz4, zz5, zz6, zz7, zz8, zz9, zza, zzb, zzc, zzd, zze, zzf, h3, ha, hmd]) <;> rfl); simp only [LY, reduceCtorEq, reduceIte, zz1, zz2, zz3, zz4, zz5, zz6, zz7, zz8, zz9, zza, zzb, zzc, zzd, zze, zzf, h3, ha, hmd]
      refine cop_intro ?ha (c) ?_; (case ha => (simp only [LY, reduceCtorEq, reduceIte, zz1, zz2, zz3, zz4, zz5, zz6, zz7, zz8, zz9, zza, zzb, zzc, zzd, zze, zzf, h3, ha, hmd, eV, hfl]) <;> rfl); simp only [LY, reduceCtorEq, reduceIte, zz1, zz2, zz3, zz4, zz5, zz6, zz7, zz8, zz9, zza, zzb, zzc, zzd, zze, zzf, h3, ha, hmd, eV, hfl]
      refine ⟨by (repeat' apply And.intro) <;> first | omega | (unfold maxLen; omega) | (intro _; omega) | decide, ?_⟩
      refine hK _ ?_; clear hK K; try simp only [LSj, reduceIte, zze]
      (repeat (first | refine LW_seq ?_ | ((first | (refine LW_region ?_; intro K hK; simp only [LY, reduceCtorEq, reduceIte, zz1, zz2, zz3, zz4, zz5, zz6, zz7, zz8, zz9, zza, zzb, zzc, zzd, zze, zzf, h13, hw]; refine hK _ ?_; clear hK K) | refine LW_label ?_ | refine LW_skip ?_); try simp only [LSj, reduceIte, zze]) | refine LW_block ?_))
      refine ⟨n - 1, by omega, i + 1, by omega, (by first | exact rfl | assumption | (simp only [LY, reduceCtorEq, reduceIte, zz1, zz2, zz3, zz4, zz5, zz6, zz7, zz8, zz9, zza, zzb, zzc, zzd, zze, zzf, h11, eL] <;> exact rfl)), (by first | exact rfl | assumption | (simp only [LY, reduceCtorEq, reduceIte, zz1, zz2, zz3, zz4, zz5, zz6, zz7, zz8, zz9, zza, zzb, zzc, zzd, zze, zzf, h12] <;> exact rfl)), (by first | exact rfl | assumption | (simp only [LY, reduceCtorEq, reduceIte, zz1, zz2, zz3, zz4, zz5, zz6, zz7, zz8, zz9, zza, zzb, zzc, zzd, zze, zzf] <;> exact rfl)), ?_, ?_, (by first | exact rfl | assumption | (simp only [LY, reduceCtorEq, reduceIte, zz1, zz2, zz3, zz4, zz5, zz6, zz7, zz8, zz9, zza, zzb, zzc, zzd, zze, zzf, hmd] <;> exact rfl))⟩
      · rw [hks, List.length_append]; exact rfl
      · rw [hks, eE_snoc]; exact rfl
    · rw [if_neg (by omega), List.append_nil] at hks
      refine LW_if ?_; intro X Y hX hY; simp only [LY, reduceCtorEq, reduceIte, zz1, zz2, zz3, zz4, zz5, zz6, zz7, zz8, zz9, zza, zzb, zzc, zzd, zze, zzf, hk0]; refine hY ?_; clear hX hY X Y; (try simp only [LSj, reduceIte, zze]); (try (refine LW_skip ?_; simp only [LSj, reduceIte, zze]))
      (repeat (first | refine LW_seq ?_ | ((first | (refine LW_region ?_; intro K hK; simp only [LY, reduceCtorEq, reduceIte, zz1, zz2, zz3, zz4, zz5, zz6, zz7, zz8, zz9, zza, zzb, zzc, zzd, zze, zzf, h13, hw]; refine hK _ ?_; clear hK K) | refine LW_label ?_ | refine LW_skip ?_); try simp only [LSj, reduceIte, zze]) | refine LW_block ?_))
      exact ⟨n - 1, by omega, i + 1, by omega, h11, h12, rfl, by rw [hks]; exact h3, by rw [hks]; exact ha, hmd⟩
  · refine LW_if ?_; intro X Y hX hY; simp only [LY, reduceCtorEq, reduceIte, zz1, zz2, zz3, zz4, zz5, zz6, zz7, zz8, zz9, zza, zzb, zzc, zzd, zze, zzf, hlt]; refine hY ?_; clear hX hY X Y; (try simp only [LSj, reduceIte, zze]); (try (refine LW_skip ?_; simp only [LSj, reduceIte, zze]))
    refine LW_exit ?_; simp only [thenL, jumpsL, inBlockL, twoL, reduceIte, Nat.reduceEqDiff]
    rw [List.take_of_length_le (by omega)] at h3 ha
    generalize hK0 : keptE big l = kp at *
    have hkl : kp.length ≤ l.length := by rw [← hK0]; exact kept_le l
    (repeat (first | refine LW_seq ?_ | (refine LW_skip ?_; simp only [LSj, reduceIte, zze]) | refine LW_block ?_)); refine LW_mid 1 rfl rfl ?_; intro K hK; simp only [LY, reduceCtorEq, reduceIte, zz1, zz2, zz3, zz4, zz5, zz6, zz7, zz8, zz9, zza, zzb, zzc, zzd, zze, zzf, h3]; refine hK _ ?_; clear hK K
    refine sort_at (enc := fun x => [eV x]) (k := 1) (l := kp) (d := 3) (e := 61) (cf := cmpE) (fun _ => rfl) (by decide) sortE_enters sortE_at sortE_none rfl ?_ rfl (by omega) (by decide) ?_
    · rw [eE_lits]; simp only [LY, reduceCtorEq, reduceIte, zz1, zz2, zz3, zz4, zz5, zz6, zz7, zz8, zz9, zza, zzb, zzc, zzd, zze, zzf, ha]
    intro s hp hs K hK
    have hll := hp.length_eq
    rw [eE_lits]
    simp only [LY, reduceCtorEq, reduceIte, zz1, zz2, zz3, zz4, zz5, zz6, zz7, zz8, zz9, zza, zzb, zzc, zzd, zze, zzf]
    refine hK _ ?_; clear hK K; try simp only [LSj, reduceIte, zze]
    have hkok : ∀ z ∈ s, 0 < z.2 ∧ fin z ≤ big := fun z hz => keptE_ok z (by rw [hK0]; exact hp.mem_iff.1 hz)
    have hso : SortedE s := sorted_of (fun z hz => ok_of_fin (hkok z hz).2) hs
    have hres : mergeE s = normE big l := normE_of (by rw [hK0]; exact hp) hso
    refine LW_publish 3 (d := 3) (n := kp.length) (e := 61) (cs := s.flatMap eE) (by simp only [LY, reduceCtorEq, reduceIte, zz1, zz2, zz3, zz4, zz5, zz6, zz7, zz8, zz9, zza, zzb, zzc, zzd, zze, zzf, h3]) (by simp only [LY, reduceCtorEq, reduceIte, zz1, zz2, zz3, zz4, zz5, zz6, zz7, zz8, zz9, zza, zzb, zzc, zzd, zze, zzf]) (by rw [eE_flen, hll, show sizeL Try.prog 61 = 1 by kernel_rfl, Nat.mul_one]) ?_
    (repeat (first | refine LW_seq ?_ | ((first | (refine LW_region ?_; intro K hK; simp only [LY, reduceCtorEq, reduceIte, zz1, zz2, zz3, zz4, zz5, zz6, zz7, zz8, zz9, zza, zzb, zzc, zzd, zze, zzf]; refine hK _ ?_; clear hK K) | refine LW_label ?_ | refine LW_skip ?_); try simp only [LSj, reduceIte, zze]) | refine LW_block ?_))
    refine LW_nilB (k := 7) (q := 7) (e := 61) rfl ?_
    rw [← hres]
    refine LW_loop (fun n st => ∃ i : Nat, n + i = s.length ∧ st.env 35 = eL s ∧ st.env 36 = intL s.length ∧ st.env 37 = intL i ∧ st.env 7 = .bsl 7 ((s.take i).foldl stepE []).length 61 ∧ st.arr 7 = some (((s.take i).foldl stepE []).flatMap eE) ∧ st.mode = (fun _ => false)) s.length ⟨0, by omega, by unfold eL rowL; rw [hll]; rfl, by rw [hll]; rfl, rfl, rfl, rfl, (by first | exact rfl | assumption | (simp only [LY, reduceCtorEq, reduceIte, zz1, zz2, zz3, zz4, zz5, zz6, zz7, zz8, zz9, zza, zzb, zzc, zzd, zze, zzf, hmd] <;> exact rfl))⟩ ?_
    clear h11 h12 h13 h3 ha hn hlt hmd
    rintro n st ⟨i, hn, h35, h36, h37, h7, ha, hmd⟩
    (repeat (first | refine LW_seq ?_ | ((first | (refine LW_region ?_; intro K hK; simp only [LY, reduceCtorEq, reduceIte, zz1, zz2, zz3, zz4, zz5, zz6, zz7, zz8, zz9, zza, zzb, zzc, zzd, zze, zzf, h35, h36, h37, eL]; refine hK _ ?_; clear hK K) | refine LW_label ?_ | refine LW_skip ?_); try simp only [LSj, reduceIte, zze]) | refine LW_block ?_))
    have hgood : Ext.Good big (s.take i) ((s.take i).foldl stepE []) := by
      have := Ext.Good.fold (B := big) (s.take i) [] [] (Ext.Good.nil big) (fun e he => hkok e (List.mem_of_mem_take he)) (by rw [List.nil_append]; exact List.Pairwise.take hso)
      simpa using this
    have hol := fold_len (s.take i) []
    rw [List.length_nil, Nat.zero_add] at hol
    by_cases hlt : i < s.length
    · obtain ⟨z, hz⟩ := get_of_lt hlt
      have hzo : okE z := ok_of_fin (hkok z (List.mem_of_getElem? hz)).2
      have hzf := (hkok z (List.mem_of_getElem? hz)).2
      have hd := drop_e hz
      have hw := w64s (n := i) (by omega)
      have htf := take_fold hz
      generalize (s.take i).foldl stepE [] = out at *
      refine LW_if ?_; intro X Y hX hY; simp only [LY, reduceCtorEq, reduceIte, zz1, zz2, zz3, zz4, zz5, zz6, zz7, zz8, zz9, zza, zzb, zzc, zzd, zze, zzf, hlt]; refine hX ?_; clear hX hY X Y; try simp only [LSj, reduceIte, zze]
      (repeat (first | refine LW_seq ?_ | ((first | (refine LW_region ?_; intro K hK; simp only [LY, reduceCtorEq, reduceIte, zz1, zz2, zz3, zz4, zz5, zz6, zz7, zz8, zz9, zza, zzb, zzc, zzd, zze, zzf, h35, h37, eL, hlt, hd]; refine hK _ ?_; clear hK K) | refine LW_label ?_ | refine LW_skip ?_); try simp only [LSj, reduceIte, zze]) | refine LW_block ?_))
      rcases List.eq_nil_or_concat out with rfl | ⟨r, y, rfl⟩
      · simp only [List.flatMap_nil, List.length_nil] at h7 ha
        (repeat (first | refine LW_seq ?_ | (refine LW_skip ?_; simp only [LSj, reduceIte, zze]) | refine LW_block ?_)); refine LW_any (by kernel_rfl) (by kernel_rfl) (by kernel_rfl) (by first | exact rfl | (rw [hmd]; exact rfl)) ?_; intro K hK; simp only [LY, reduceCtorEq, reduceIte, zz1, zz2, zz3, zz4, zz5, zz6, zz7, zz8, zz9, zza, zzb, zzc, zzd, zze, zzf, h7, ha]
        refine hK _ ?_; clear hK K; try simp only [LSj, reduceIte, zze]
        refine LW_if ?_; intro X Y hX hY; simp only [LY, reduceCtorEq, reduceIte, zz1, zz2, zz3, zz4, zz5, zz6, zz7, zz8, zz9, zza, zzb, zzc, zzd, zze, zzf]; refine hX ?_; clear hX hY X Y; try simp only [LSj, reduceIte, zze]
        (repeat (first | refine LW_seq ?_ | (refine LW_skip ?_; simp only [LSj, reduceIte, zze]) | refine LW_block ?_)); refine LW_region ?_; intro K hK; simp only [LY, reduceCtorEq, reduceIte, zz1, zz2, zz3, zz4, zz5, zz6, zz7, zz8, zz9, zza, zzb, zzc, zzd, zze, zzf, h7, ha, hmd, eV]
        refine ⟨by (repeat' apply And.intro) <;> first | omega | (unfold maxLen; omega) | (intro _; omega) | decide, ?_⟩
        refine hK _ ?_; clear hK K; try simp only [LSj, reduceIte, zze]
        refine LW_exit ?_; simp only [thenL, jumpsL, inBlockL, twoL, reduceIte, Nat.reduceEqDiff]
        (repeat (first | refine LW_seq ?_ | ((first | (refine LW_region ?_; intro K hK; simp only [LY, reduceCtorEq, reduceIte, zz1, zz2, zz3, zz4, zz5, zz6, zz7, zz8, zz9, zza, zzb, zzc, zzd, zze, zzf, h37, hw]; refine hK _ ?_; clear hK K) | refine LW_label ?_ | refine LW_skip ?_); try simp only [LSj, reduceIte, zze]) | refine LW_block ?_))
        refine ⟨n - 1, by omega, i + 1, by omega, (by first | exact rfl | assumption | (simp only [LY, reduceCtorEq, reduceIte, zz1, zz2, zz3, zz4, zz5, zz6, zz7, zz8, zz9, zza, zzb, zzc, zzd, zze, zzf, h35, eL] <;> exact rfl)), (by first | exact rfl | assumption | (simp only [LY, reduceCtorEq, reduceIte, zz1, zz2, zz3, zz4, zz5, zz6, zz7, zz8, zz9, zza, zzb, zzc, zzd, zze, zzf, h36] <;> exact rfl)), (by first | exact rfl | assumption | (simp only [LY, reduceCtorEq, reduceIte, zz1, zz2, zz3, zz4, zz5, zz6, zz7, zz8, zz9, zza, zzb, zzc, zzd, zze, zzf] <;> exact rfl)), ?_, ?_, (by first | exact rfl | assumption | (simp only [LY, reduceCtorEq, reduceIte, zz1, zz2, zz3, zz4, zz5, zz6, zz7, zz8, zz9, zza, zzb, zzc, zzd, zze, zzf, hmd] <;> exact rfl))⟩
        · rw [htf]; exact rfl
        · rw [htf]; exact rfl
      · rw [List.concat_eq_append] at *
        have hyo : okE y := ok_of_fin (hgood.le y (by simp))
        have hyf : Ext.fin y ≤ big := hgood.le y (by simp)
        have hly : (r ++ [y]).length = r.length + 1 := by simp
        rw [hly] at h7 hol
        rw [eE_snoc] at ha
        rw [List.length_take] at hol
        have hrl : r.length < r.length + 1 := Nat.lt_succ_self _
        have hdr : List.drop r.length (r.flatMap eE ++ [LV.lit (eV y)]) = [LV.lit (eV y)] := List.drop_left' (eE_flen r)
        have hwp := w64p (n := r.length + 1) (by omega) (by omega)
        rw [Nat.add_sub_cancel] at hwp
        have hne : ¬ ((r.length + 1 : Nat) : Int) = 0 := by omega
        have hfr := eE_flen r
        have hss := stepE_snoc r y z
        rw [← htf] at hss
        (repeat (first | refine LW_seq ?_ | (refine LW_skip ?_; simp only [LSj, reduceIte, zze]) | refine LW_block ?_)); refine LW_any (by kernel_rfl) (by kernel_rfl) (by kernel_rfl) (by first | exact rfl | (rw [hmd]; exact rfl)) ?_; intro K hK; simp only [LY, reduceCtorEq, reduceIte, zz1, zz2, zz3, zz4, zz5, zz6, zz7, zz8, zz9, zza, zzb, zzc, zzd, zze, zzf, h7, ha, hne, hwp, hrl, hdr]
        refine cop_intro ?ha (at_L hzo) ?_; (case ha => (simp only [LY, reduceCtorEq, reduceIte, zz1, zz2, zz3, zz4, zz5, zz6, zz7, zz8, zz9, zza, zzb, zzc, zzd, zze, zzf, h7, ha, hwp, hrl, hdr]) <;> rfl); simp only [LY, reduceCtorEq, reduceIte, zz1, zz2, zz3, zz4, zz5, zz6, zz7, zz8, zz9, zza, zzb, zzc, zzd, zze, zzf, h7, ha, hwp, hrl, hdr]
        refine cop_intro ?ha (end_L hyo) ?_; (case ha => (simp only [LY, reduceCtorEq, reduceIte, zz1, zz2, zz3, zz4, zz5, zz6, zz7, zz8, zz9, zza, zzb, zzc, zzd, zze, zzf, h7, ha]) <;> rfl); simp only [LY, reduceCtorEq, reduceIte, zz1, zz2, zz3, zz4, zz5, zz6, zz7, zz8, zz9, zza, zzb, zzc, zzd, zze, zzf, h7, ha]
        refine hK _ ?_; clear hK K; try simp only [LSj, reduceIte, zze]
        by_cases hc : Ext.fin y < z.1
        · rw [if_pos hc] at hss
          refine LW_if ?_; intro X Y hX hY; simp only [LY, reduceCtorEq, reduceIte, zz1, zz2, zz3, zz4, zz5, zz6, zz7, zz8, zz9, zza, zzb, zzc, zzd, zze, zzf, hc]; refine hX ?_; clear hX hY X Y; try simp only [LSj, reduceIte, zze]
          (repeat (first | refine LW_seq ?_ | (refine LW_skip ?_; simp only [LSj, reduceIte, zze]) | refine LW_block ?_)); refine LW_region ?_; intro K hK; simp only [LY, reduceCtorEq, reduceIte, zz1, zz2, zz3, zz4, zz5, zz6, zz7, zz8, zz9, zza, zzb, zzc, zzd, zze, zzf, h7, ha, hmd, eV, hfr]
          refine ⟨by (repeat' apply And.intro) <;> first | omega | (unfold maxLen; omega) | (intro _; omega) | decide, ?_⟩
          refine hK _ ?_; clear hK K; try simp only [LSj, reduceIte, zze]
          refine LW_exit ?_; simp only [thenL, jumpsL, inBlockL, twoL, reduceIte, Nat.reduceEqDiff]
          (repeat (first | refine LW_seq ?_ | ((first | (refine LW_region ?_; intro K hK; simp only [LY, reduceCtorEq, reduceIte, zz1, zz2, zz3, zz4, zz5, zz6, zz7, zz8, zz9, zza, zzb, zzc, zzd, zze, zzf, h37, hw]; refine hK _ ?_; clear hK K) | refine LW_label ?_ | refine LW_skip ?_); try simp only [LSj, reduceIte, zze]) | refine LW_block ?_))
          refine ⟨n - 1, by omega, i + 1, by omega, (by first | exact rfl | assumption | (simp only [LY, reduceCtorEq, reduceIte, zz1, zz2, zz3, zz4, zz5, zz6, zz7, zz8, zz9, zza, zzb, zzc, zzd, zze, zzf, h35, eL] <;> exact rfl)), (by first | exact rfl | assumption | (simp only [LY, reduceCtorEq, reduceIte, zz1, zz2, zz3, zz4, zz5, zz6, zz7, zz8, zz9, zza, zzb, zzc, zzd, zze, zzf, h36] <;> exact rfl)), (by first | exact rfl | assumption | (simp only [LY, reduceCtorEq, reduceIte, zz1, zz2, zz3, zz4, zz5, zz6, zz7, zz8, zz9, zza, zzb, zzc, zzd, zze, zzf] <;> exact rfl)), ?_, ?_, (by first | exact rfl | assumption | (simp only [LY, reduceCtorEq, reduceIte, zz1, zz2, zz3, zz4, zz5, zz6, zz7, zz8, zz9, zza, zzb, zzc, zzd, zze, zzf, hmd] <;> exact rfl))⟩
          · rw [hss]; simp only [List.length_append]; exact rfl
          · rw [hss, eE_snoc, eE_snoc]; exact rfl
        · rw [if_neg hc] at hss
          refine LW_if ?_; intro X Y hX hY; simp only [LY, reduceCtorEq, reduceIte, zz1, zz2, zz3, zz4, zz5, zz6, zz7, zz8, zz9, zza, zzb, zzc, zzd, zze, zzf, hc]; refine hY ?_; clear hX hY X Y; (try simp only [LSj, reduceIte, zze]); (try (refine LW_skip ?_; simp only [LSj, reduceIte, zze]))
          (repeat (first | refine LW_seq ?_ | ((first | (refine LW_region ?_; intro K hK; simp only [LY, reduceCtorEq, reduceIte, zz1, zz2, zz3, zz4, zz5, zz6, zz7, zz8, zz9, zza, zzb, zzc, zzd, zze, zzf, h7, ha, hwp, hrl, hdr]; refine hK _ ?_; clear hK K) | refine LW_label ?_ | refine LW_skip ?_); try simp only [LSj, reduceIte, zze]) | refine LW_block ?_))
          (repeat (first | refine LW_seq ?_ | (refine LW_skip ?_; simp only [LSj, reduceIte, zze]) | refine LW_block ?_)); refine LW_region ?_; intro K hK; simp only [LY, reduceCtorEq, reduceIte, zz1, zz2, zz3, zz4, zz5, zz6, zz7, zz8, zz9, zza, zzb, zzc, zzd, zze, zzf]
          refine cop_intro ?ha (end_L hzo) ?_; (case ha => (simp only [LY, reduceCtorEq, reduceIte, zz1, zz2, zz3, zz4, zz5, zz6, zz7, zz8, zz9, zza, zzb, zzc, zzd, zze, zzf]) <;> rfl); simp only [LY, reduceCtorEq, reduceIte, zz1, zz2, zz3, zz4, zz5, zz6, zz7, zz8, zz9, zza, zzb, zzc, zzd, zze, zzf]
          refine cop_intro ?ha (end_L hyo) ?_; (case ha => (simp only [LY, reduceCtorEq, reduceIte, zz1, zz2, zz3, zz4, zz5, zz6, zz7, zz8, zz9, zza, zzb, zzc, zzd, zze, zzf]) <;> rfl); simp only [LY, reduceCtorEq, reduceIte, zz1, zz2, zz3, zz4, zz5, zz6, zz7, zz8, zz9, zza, zzb, zzc, zzd, zze, zzf]
          refine hK _ ?_; clear hK K; try simp only [LSj, reduceIte, zze]
          by_cases hc2 : Ext.fin y < Ext.fin z
          · rw [if_pos hc2] at hss
            have hsub : IntKind.i64.wrap ((Ext.fin z : Int) - (y.1 : Int)) = ((Ext.fin z - y.1 : Nat) : Int) := by
              unfold Ext.fin big at *; rw [w64 (by omega)]; omega
            have c := of_L y.1 (Ext.fin z - y.1 : Nat)
            rw [limI_nat hyo.1, limI_nat (by omega)] at c
            have htk : List.take r.length (r.flatMap eE ++ [LV.lit (eV y)]) = r.flatMap eE := List.take_left' (eE_flen r)
            have hd1 : List.drop (r.length + 1) (r.flatMap eE ++ [LV.lit (eV y)]) = [] := by
              apply List.drop_eq_nil_of_le; rw [List.length_append, eE_flen]; exact Nat.le_refl _
            simp only [eV] at htk hd1
            refine LW_if ?_; intro X Y hX hY; simp only [LY, reduceCtorEq, reduceIte, zz1, zz2, zz3, zz4, zz5, zz6, zz7, zz8, zz9, zza, zzb, zzc, zzd, zze, zzf, hc2]; refine hX ?_; clear hX hY X Y; try simp only [LSj, reduceIte, zze]
            (repeat (first | refine LW_seq ?_ | (refine LW_skip ?_; simp only [LSj, reduceIte, zze]) | refine LW_block ?_)); refine LW_region ?_; intro K hK; simp only [LY, reduceCtorEq, reduceIte, zz1, zz2, zz3, zz4, zz5, zz6, zz7, zz8, zz9, zza, zzb, zzc, zzd, zze, zzf, h7, ha, hwp]
            refine cop_intro ?ha (at_L hyo) ?_; (case ha => (simp only [LY, reduceCtorEq, reduceIte, zz1, zz2, zz3, zz4, zz5, zz6, zz7, zz8, zz9, zza, zzb, zzc, zzd, zze, zzf, h7, ha, hwp]) <;> rfl); simp only [LY, reduceCtorEq, reduceIte, zz1, zz2, zz3, zz4, zz5, zz6, zz7, zz8, zz9, zza, zzb, zzc, zzd, zze, zzf, h7, ha, hwp]
            refine cop_intro ?ha (end_L hzo) ?_; (case ha => (simp only [LY, reduceCtorEq, reduceIte, zz1, zz2, zz3, zz4, zz5, zz6, zz7, zz8, zz9, zza, zzb, zzc, zzd, zze, zzf, h7, ha, hwp]) <;> rfl); simp only [LY, reduceCtorEq, reduceIte, zz1, zz2, zz3, zz4, zz5, zz6, zz7, zz8, zz9, zza, zzb, zzc, zzd, zze, zzf, h7, ha, hwp]
            refine cop_intro ?ha (at_L hyo) ?_; (case ha => (simp only [LY, reduceCtorEq, reduceIte, zz1, zz2, zz3, zz4, zz5, zz6, zz7, zz8, zz9, zza, zzb, zzc, zzd, zze, zzf, h7, ha, hwp, hsub]) <;> rfl); simp only [LY, reduceCtorEq, reduceIte, zz1, zz2, zz3, zz4, zz5, zz6, zz7, zz8, zz9, zza, zzb, zzc, zzd, zze, zzf, h7, ha, hwp, hsub]
            refine cop_intro ?ha (c) ?_; (case ha => (simp only [LY, reduceCtorEq, reduceIte, zz1, zz2, zz3, zz4, zz5, zz6, zz7, zz8, zz9, zza, zzb, zzc, zzd, zze, zzf, h7, ha, hwp, hrl, htk, hd1, eV, hfr]) <;> rfl); simp only [LY, reduceCtorEq, reduceIte, zz1, zz2, zz3, zz4, zz5, zz6, zz7, zz8, zz9, zza, zzb, zzc, zzd, zze, zzf, h7, ha, hwp, hrl, htk, hd1, eV, hfr]
            refine ⟨by (repeat' apply And.intro) <;> first | omega | (unfold maxLen; omega) | (intro _; omega) | decide, ?_⟩
            refine hK _ ?_; clear hK K; try simp only [LSj, reduceIte, zze]
            (repeat (first | refine LW_seq ?_ | ((first | (refine LW_region ?_; intro K hK; simp only [LY, reduceCtorEq, reduceIte, zz1, zz2, zz3, zz4, zz5, zz6, zz7, zz8, zz9, zza, zzb, zzc, zzd, zze, zzf, h37, hw]; refine hK _ ?_; clear hK K) | refine LW_label ?_ | refine LW_skip ?_); try simp only [LSj, reduceIte, zze]) | refine LW_block ?_))
            refine ⟨n - 1, by omega, i + 1, by omega, (by first | exact rfl | assumption | (simp only [LY, reduceCtorEq, reduceIte, zz1, zz2, zz3, zz4, zz5, zz6, zz7, zz8, zz9, zza, zzb, zzc, zzd, zze, zzf, h35, eL] <;> exact rfl)), (by first | exact rfl | assumption | (simp only [LY, reduceCtorEq, reduceIte, zz1, zz2, zz3, zz4, zz5, zz6, zz7, zz8, zz9, zza, zzb, zzc, zzd, zze, zzf, h36] <;> exact rfl)), (by first | exact rfl | assumption | (simp only [LY, reduceCtorEq, reduceIte, zz1, zz2, zz3, zz4, zz5, zz6, zz7, zz8, zz9, zza, zzb, zzc, zzd, zze, zzf] <;> exact rfl)), ?_, ?_, (by first | exact rfl | assumption | (simp only [LY, reduceCtorEq, reduceIte, zz1, zz2, zz3, zz4, zz5, zz6, zz7, zz8, zz9, zza, zzb, zzc, zzd, zze, zzf, hmd] <;> exact rfl))⟩
            · rw [hss]; simp only [List.length_append]; exact h7
            · rw [hss, eE_snoc]; exact rfl
          · rw [if_neg hc2] at hss
            refine LW_if ?_; intro X Y hX hY; simp only [LY, reduceCtorEq, reduceIte, zz1, zz2, zz3, zz4, zz5, zz6, zz7, zz8, zz9, zza, zzb, zzc, zzd, zze, zzf, hc2]; refine hY ?_; clear hX hY X Y; (try simp only [LSj, reduceIte, zze]); (try (refine LW_skip ?_; simp only [LSj, reduceIte, zze]))
            (repeat (first | refine LW_seq ?_ | ((first | (refine LW_region ?_; intro K hK; simp only [LY, reduceCtorEq, reduceIte, zz1, zz2, zz3, zz4, zz5, zz6, zz7, zz8, zz9, zza, zzb, zzc, zzd, zze, zzf, h37, hw]; refine hK _ ?_; clear hK K) | refine LW_label ?_ | refine LW_skip ?_); try simp only [LSj, reduceIte, zze]) | refine LW_block ?_))
            refine ⟨n - 1, by omega, i + 1, by omega, (by first | exact rfl | assumption | (simp only [LY, reduceCtorEq, reduceIte, zz1, zz2, zz3, zz4, zz5, zz6, zz7, zz8, zz9, zza, zzb, zzc, zzd, zze, zzf, h35, eL] <;> exact rfl)), (by first | exact rfl | assumption | (simp only [LY, reduceCtorEq, reduceIte, zz1, zz2, zz3, zz4, zz5, zz6, zz7, zz8, zz9, zza, zzb, zzc, zzd, zze, zzf, h36] <;> exact rfl)), (by first | exact rfl | assumption | (simp only [LY, reduceCtorEq, reduceIte, zz1, zz2, zz3, zz4, zz5, zz6, zz7, zz8, zz9, zza, zzb, zzc, zzd, zze, zzf] <;> exact rfl)), ?_, ?_, (by first | exact rfl | assumption | (simp only [LY, reduceCtorEq, reduceIte, zz1, zz2, zz3, zz4, zz5, zz6, zz7, zz8, zz9, zza, zzb, zzc, zzd, zze, zzf, hmd] <;> exact rfl))⟩
            · rw [hss]; simp only [List.length_append]; exact h7
            · rw [hss, eE_snoc]; exact ha
    · refine LW_if ?_; intro X Y hX hY; simp only [LY, reduceCtorEq, reduceIte, zz1, zz2, zz3, zz4, zz5, zz6, zz7, zz8, zz9, zza, zzb, zzc, zzd, zze, zzf, hlt]; refine hY ?_; clear hX hY X Y; (try simp only [LSj, reduceIte, zze]); (try (refine LW_skip ?_; simp only [LSj, reduceIte, zze]))
      refine LW_exit ?_; simp only [thenL, jumpsL, inBlockL, twoL, reduceIte, Nat.reduceEqDiff]
      rw [List.take_of_length_le (by omega)] at h7 ha
      refine LW_publish 7 (d := 7) (n := (s.foldl stepE []).length) (e := 61) (cs := (s.foldl stepE []).flatMap eE) h7 ha (by rw [eE_flen, show sizeL Try.prog 61 = 1 by kernel_rfl, Nat.mul_one]) ?_
      (repeat (first | refine LW_seq ?_ | ((first | (refine LW_region ?_; intro K hK; simp only [LY, reduceCtorEq, reduceIte, zz1, zz2, zz3, zz4, zz5, zz6, zz7, zz8, zz9, zza, zzb, zzc, zzd, zze, zzf]; refine hK _ ?_; clear hK K) | refine LW_label ?_ | refine LW_skip ?_); try simp only [LSj, reduceIte, zze]) | refine LW_block ?_))
      refine LW_ret ?_; simp only [thenL, jumpsL, inBlockL, twoL, bodyQ, LV.lit.injEq, LV.tup.injEq, LV.agg.injEq, LV.sl.injEq, List.cons.injEq, Value.int.injEq, Value.bool.injEq, Value.string.injEq, ByteArray.mk.injEq, exists_eq_left', exists_eq_left, exists_eq_right, LY, reduceCtorEq, reduceIte, zz1, zz2, zz3, zz4, zz5, zz6, zz7, zz8, zz9, zza, zzb, zzc, zzd, zze, zzf, eL, mergeE]
end Go.Proofs.Ytaeefaehpfjmlaa
