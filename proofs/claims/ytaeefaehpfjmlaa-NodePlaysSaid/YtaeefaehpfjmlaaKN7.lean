import Derived.Test.YtaeefaehpfjmlaaKN6
import Derived.Test.YtaeefaehpfjmlaaNRead
set_option linter.unusedSimpArgs false
set_option linter.unusedVariables false
namespace Go.Proofs.Ytaeefaehpfjmlaa
open Nat renaming reduceAdd → zz1, reduceMul → zz2, reduceSub → zz3, reduceLT → zz4, reduceLeDiff → zz5, reduceEqDiff → zz6, reduceBEq → zzf
open Int renaming reduceAdd → zz7, reduceSub → zz8, reduceMul → zz9, reduceLT → zza, reduceLE → zzb, reduceEq → zzc, reduceNeg → zzd, reduceToNat → zze
open Op renaming operands → zo
open Call renaming operands → zc
open Go.RowKit Go.Proofs AclSpec MetaSpec NodeSpec GSort Flo Ext

def cut1 (s : Int) (p : Piece) : Piece := ⟨p.pos, p.dat.take (min (p.dat.length : Int) (s - p.pos)).toNat⟩
theorem cutP_upto {l : List Piece} {s : Int} {i : Nat} {p : Piece} (hp : l[i]? = some p) (h : ∀ q ∈ l.take i, q.pos < s) (hs : s ≤ p.pos) : cutP l s = (l.take i).map (cut1 s) := by
  unfold cutP
  rw [takeWhile_upto hp (fun b hb => decide_eq_true (h b hb)) (decide_eq_false (by omega))]; rfl
theorem cutP_all {l : List Piece} {s : Int} (h : ∀ q ∈ l, q.pos < s) : cutP l s = l.map (cut1 s) := by
  unfold cutP
  rw [takeWhile_all fun b hb => decide_eq_true (h b hb)]; rfl
theorem map_snoc {α β : Type} {f : α → β} {l : List α} {i : Nat} {a : α} (h : l[i]? = some a) : (l.take (i + 1)).map f = (l.take i).map f ++ [f a] := by
  obtain ⟨hi, rfl⟩ := List.getElem?_eq_some_iff.1 h
  rw [List.take_succ_eq_append_getElem hi, List.map_append]; rfl
theorem mem_take_succ {α : Type} {l : List α} {i : Nat} {a : α} (h : l[i]? = some a) {P : α → Prop} (h1 : ∀ b ∈ l.take i, P b) (h2 : P a) : ∀ b ∈ l.take (i + 1), P b := by
  obtain ⟨hi, rfl⟩ := List.getElem?_eq_some_iff.1 h
  rw [List.take_succ_eq_append_getElem hi]
  intro b hb
  rcases List.mem_append.1 hb with hb | hb
  · exact h1 b hb
  · simp at hb; subst hb; exact h2

def zeroNode : List LV := [intL 0, intL 0, intL 0, intL 0, intL 0, .sl 0 [] .nil, .sl 0 [] .nil, intL 0, .sl 0 [] .nil, strL [], intL 0, intL 0]
set_option maxRecDepth 100000 in
set_option maxHeartbeats 4000000 in
theorem ncut_L (n : FNode) (h : small n) (s : Int) : LCalls Try.prog 12 [.agg (nodeL n), intL s] (.tup [.agg (nodeL (cutN n s).1), intL (cutN n s).2]) := by
  have cm := isFile_L n h
  have cc := copyOf_L n h
  simp only [nodeL, attrsL, acesL, piecesL, rowL] at cm cc
  refine LCalls.of (fun _ => false) Try.func12 rfl (by decide) Try.ntmps12 Try.results12 (by simp) ?_
  intro w0 S0 vs hgl hwf0 hsz hvs; clear hsz hvs hwf0 hgl
  generalize hR : cutN n s = R
  unfold cutN at hR
  (repeat (first | refine LW_seq ?_ | ((first | (refine LW_region ?_; intro K hK; simp only [LZ, zo, zc, reduceCtorEq, reduceIte, zz1, zz2, zz3, zz4, zz5, zz6, zz7, zz8, zz9, zza, zzb, zzc, zzd, zze, zzf, nodeL, piecesL, attrsL, acesL]; refine hK _ ?_; clear hK K) | refine LW_label ?_ | refine LW_skip ?_); try simp only [LSj, reduceIte, zze]) | refine LW_block ?_))
  cases g1 : isFileN n
  · rw [g1] at cm hR
    (repeat (first | refine LW_seq ?_ | (refine LW_skip ?_; simp only [LSj, reduceIte, zze]) | refine LW_block ?_)); refine LW_region ?_; intro K hK; simp only [LZ, zo, zc, reduceCtorEq, reduceIte, zz1, zz2, zz3, zz4, zz5, zz6, zz7, zz8, zz9, zza, zzb, zzc, zzd, zze, zzf]
    refine cop_intro ?ha (cm) ?_; (case ha => (simp only [LZ, zo, zc, reduceCtorEq, reduceIte, zz1, zz2, zz3, zz4, zz5, zz6, zz7, zz8, zz9, zza, zzb, zzc, zzd, zze, zzf]) <;> rfl); simp only [LZ, zo, zc, reduceCtorEq, reduceIte, zz1, zz2, zz3, zz4, zz5, zz6, zz7, zz8, zz9, zza, zzb, zzc, zzd, zze, zzf]
    refine hK _ ?_; clear hK K; try simp only [LSj, reduceIte, zze]
    refine LW_if ?_; intro X Y hX hY; simp only [LZ, zo, zc, reduceCtorEq, reduceIte, zz1, zz2, zz3, zz4, zz5, zz6, zz7, zz8, zz9, zza, zzb, zzc, zzd, zze, zzf]; refine hX ?_; clear hX hY X Y; try simp only [LSj, reduceIte, zze]
    (repeat (first | refine LW_seq ?_ | ((first | (refine LW_region ?_; intro K hK; simp only [LZ, zo, zc, reduceCtorEq, reduceIte, zz1, zz2, zz3, zz4, zz5, zz6, zz7, zz8, zz9, zza, zzb, zzc, zzd, zze, zzf]; refine hK _ ?_; clear hK K) | refine LW_label ?_ | refine LW_skip ?_); try simp only [LSj, reduceIte, zze]) | refine LW_block ?_))
    refine LW_ret ?_; simp only [thenL, jumpsL, inBlockL, twoL, bodyQ, LV.lit.injEq, LV.tup.injEq, LV.agg.injEq, LV.sl.injEq, List.cons.injEq, Value.int.injEq, Value.bool.injEq, Value.string.injEq, ByteArray.mk.injEq, exists_eq_left', exists_eq_left, exists_eq_right, LZ, zo, zc, reduceCtorEq, reduceIte, zz1, zz2, zz3, zz4, zz5, zz6, zz7, zz8, zz9, zza, zzb, zzc, zzd, zze, zzf, nodeL, piecesL, attrsL, acesL]
    rw [← hR]; simp
  rw [g1] at cm hR
  by_cases g2 : s < 0
  · (repeat (first | refine LW_seq ?_ | (refine LW_skip ?_; simp only [LSj, reduceIte, zze]) | refine LW_block ?_)); refine LW_region ?_; intro K hK; simp only [LZ, zo, zc, reduceCtorEq, reduceIte, zz1, zz2, zz3, zz4, zz5, zz6, zz7, zz8, zz9, zza, zzb, zzc, zzd, zze, zzf]
    refine cop_intro ?ha (cm) ?_; (case ha => (simp only [LZ, zo, zc, reduceCtorEq, reduceIte, zz1, zz2, zz3, zz4, zz5, zz6, zz7, zz8, zz9, zza, zzb, zzc, zzd, zze, zzf, g2]) <;> rfl); simp only [LZ, zo, zc, reduceCtorEq, reduceIte, zz1, zz2, zz3, zz4, zz5, zz6, zz7, zz8, zz9, zza, zzb, zzc, zzd, zze, zzf, g2]
    refine hK _ ?_; clear hK K; try simp only [LSj, reduceIte, zze]
    refine LW_if ?_; intro X Y hX hY; simp only [LZ, zo, zc, reduceCtorEq, reduceIte, zz1, zz2, zz3, zz4, zz5, zz6, zz7, zz8, zz9, zza, zzb, zzc, zzd, zze, zzf]; refine hX ?_; clear hX hY X Y; try simp only [LSj, reduceIte, zze]
    (repeat (first | refine LW_seq ?_ | ((first | (refine LW_region ?_; intro K hK; simp only [LZ, zo, zc, reduceCtorEq, reduceIte, zz1, zz2, zz3, zz4, zz5, zz6, zz7, zz8, zz9, zza, zzb, zzc, zzd, zze, zzf]; refine hK _ ?_; clear hK K) | refine LW_label ?_ | refine LW_skip ?_); try simp only [LSj, reduceIte, zze]) | refine LW_block ?_))
    refine LW_ret ?_; simp only [thenL, jumpsL, inBlockL, twoL, bodyQ, LV.lit.injEq, LV.tup.injEq, LV.agg.injEq, LV.sl.injEq, List.cons.injEq, Value.int.injEq, Value.bool.injEq, Value.string.injEq, ByteArray.mk.injEq, exists_eq_left', exists_eq_left, exists_eq_right, LZ, zo, zc, reduceCtorEq, reduceIte, zz1, zz2, zz3, zz4, zz5, zz6, zz7, zz8, zz9, zza, zzb, zzc, zzd, zze, zzf, nodeL, piecesL, attrsL, acesL]
    rw [← hR]; simp [g2]
  by_cases g3 : 1099511627776 < s
  · (repeat (first | refine LW_seq ?_ | (refine LW_skip ?_; simp only [LSj, reduceIte, zze]) | refine LW_block ?_)); refine LW_region ?_; intro K hK; simp only [LZ, zo, zc, reduceCtorEq, reduceIte, zz1, zz2, zz3, zz4, zz5, zz6, zz7, zz8, zz9, zza, zzb, zzc, zzd, zze, zzf]
    refine cop_intro ?ha (cm) ?_; (case ha => (simp only [LZ, zo, zc, reduceCtorEq, reduceIte, zz1, zz2, zz3, zz4, zz5, zz6, zz7, zz8, zz9, zza, zzb, zzc, zzd, zze, zzf, g2, g3]) <;> rfl); simp only [LZ, zo, zc, reduceCtorEq, reduceIte, zz1, zz2, zz3, zz4, zz5, zz6, zz7, zz8, zz9, zza, zzb, zzc, zzd, zze, zzf, g2, g3]
    refine hK _ ?_; clear hK K; try simp only [LSj, reduceIte, zze]
    refine LW_if ?_; intro X Y hX hY; simp only [LZ, zo, zc, reduceCtorEq, reduceIte, zz1, zz2, zz3, zz4, zz5, zz6, zz7, zz8, zz9, zza, zzb, zzc, zzd, zze, zzf]; refine hX ?_; clear hX hY X Y; try simp only [LSj, reduceIte, zze]
    (repeat (first | refine LW_seq ?_ | ((first | (refine LW_region ?_; intro K hK; simp only [LZ, zo, zc, reduceCtorEq, reduceIte, zz1, zz2, zz3, zz4, zz5, zz6, zz7, zz8, zz9, zza, zzb, zzc, zzd, zze, zzf]; refine hK _ ?_; clear hK K) | refine LW_label ?_ | refine LW_skip ?_); try simp only [LSj, reduceIte, zze]) | refine LW_block ?_))
    refine LW_ret ?_; simp only [thenL, jumpsL, inBlockL, twoL, bodyQ, LV.lit.injEq, LV.tup.injEq, LV.agg.injEq, LV.sl.injEq, List.cons.injEq, Value.int.injEq, Value.bool.injEq, Value.string.injEq, ByteArray.mk.injEq, exists_eq_left', exists_eq_left, exists_eq_right, LZ, zo, zc, reduceCtorEq, reduceIte, zz1, zz2, zz3, zz4, zz5, zz6, zz7, zz8, zz9, zza, zzb, zzc, zzd, zze, zzf, nodeL, piecesL, attrsL, acesL]
    rw [← hR]; simp [g3]
  rw [if_neg (by simp [g2, g3])] at hR
  (repeat (first | refine LW_seq ?_ | (refine LW_skip ?_; simp only [LSj, reduceIte, zze]) | refine LW_block ?_)); refine LW_region ?_; intro K hK; simp only [LZ, zo, zc, reduceCtorEq, reduceIte, zz1, zz2, zz3, zz4, zz5, zz6, zz7, zz8, zz9, zza, zzb, zzc, zzd, zze, zzf]
  refine cop_intro ?ha (cm) ?_; (case ha => (simp only [LZ, zo, zc, reduceCtorEq, reduceIte, zz1, zz2, zz3, zz4, zz5, zz6, zz7, zz8, zz9, zza, zzb, zzc, zzd, zze, zzf, g2, g3]) <;> rfl); simp only [LZ, zo, zc, reduceCtorEq, reduceIte, zz1, zz2, zz3, zz4, zz5, zz6, zz7, zz8, zz9, zza, zzb, zzc, zzd, zze, zzf, g2, g3]
  refine hK _ ?_; clear hK K; try simp only [LSj, reduceIte, zze]
  refine LW_if ?_; intro X Y hX hY; simp only [LZ, zo, zc, reduceCtorEq, reduceIte, zz1, zz2, zz3, zz4, zz5, zz6, zz7, zz8, zz9, zza, zzb, zzc, zzd, zze, zzf]; refine hY ?_; clear hX hY X Y; (try simp only [LSj, reduceIte, zze]); (try (refine LW_skip ?_; simp only [LSj, reduceIte, zze]))
  (repeat (first | refine LW_seq ?_ | (refine LW_skip ?_; simp only [LSj, reduceIte, zze]) | refine LW_block ?_)); refine LW_region ?_; intro K hK; simp only [LZ, zo, zc, reduceCtorEq, reduceIte, zz1, zz2, zz3, zz4, zz5, zz6, zz7, zz8, zz9, zza, zzb, zzc, zzd, zze, zzf]
  refine cop_intro ?ha (cc) ?_; (case ha => (simp only [LZ, zo, zc, reduceCtorEq, reduceIte, zz1, zz2, zz3, zz4, zz5, zz6, zz7, zz8, zz9, zza, zzb, zzc, zzd, zze, zzf]) <;> rfl); simp only [LZ, zo, zc, reduceCtorEq, reduceIte, zz1, zz2, zz3, zz4, zz5, zz6, zz7, zz8, zz9, zza, zzb, zzc, zzd, zze, zzf]
  refine hK _ ?_; clear hK K; try simp only [LSj, reduceIte, zze]
  (repeat (first | refine LW_seq ?_ | ((first | (refine LW_region ?_; intro K hK; simp only [LZ, zo, zc, reduceCtorEq, reduceIte, zz1, zz2, zz3, zz4, zz5, zz6, zz7, zz8, zz9, zza, zzb, zzc, zzd, zze, zzf]; refine hK _ ?_; clear hK K) | refine LW_label ?_ | refine LW_skip ?_); try simp only [LSj, reduceIte, zze]) | refine LW_block ?_))
  obtain ⟨_, z1, z2, z3, zp, _⟩ := isFile_ok g1
  clear cm cc
  refine LW_slim (fun st => st.env 1 = intL s ∧ st.env 4 = .ptr 4 0 ∧ st.box 4 = some zeroNode ∧ st.env 6 = .ptr 6 0 ∧ st.box 6 = some [intL n.kind, intL n.mt.mode, intL n.mt.uid, intL n.mt.gid, intL n.mt.time, .sl n.mt.attrs.length (n.mt.attrs.flatMap attrL) .no, .sl n.mt.acl.length (n.mt.acl.flatMap aceL) .no, intL s, .sl 0 [] .nil, strL n.target, intL n.major, intL n.minor] ∧ st.env 28 = piecesL n.dat ∧ st.env 29 = intL n.dat.length ∧ st.env 30 = intL 0 ∧ st.mode = fun _ => false) ⟨(by first | exact rfl | assumption | (simp only [LZ, zo, zc, reduceCtorEq, reduceIte, zz1, zz2, zz3, zz4, zz5, zz6, zz7, zz8, zz9, zza, zzb, zzc, zzd, zze, zzf] <;> exact rfl)), (by first | exact rfl | assumption | (simp only [LZ, zo, zc, reduceCtorEq, reduceIte, zz1, zz2, zz3, zz4, zz5, zz6, zz7, zz8, zz9, zza, zzb, zzc, zzd, zze, zzf] <;> exact rfl)), (by first | exact rfl | assumption | (simp only [LZ, zo, zc, reduceCtorEq, reduceIte, zz1, zz2, zz3, zz4, zz5, zz6, zz7, zz8, zz9, zza, zzb, zzc, zzd, zze, zzf] <;> exact rfl)), (by first | exact rfl | assumption | (simp only [LZ, zo, zc, reduceCtorEq, reduceIte, zz1, zz2, zz3, zz4, zz5, zz6, zz7, zz8, zz9, zza, zzb, zzc, zzd, zze, zzf] <;> exact rfl)), (by first | exact rfl | assumption | (simp only [LZ, zo, zc, reduceCtorEq, reduceIte, zz1, zz2, zz3, zz4, zz5, zz6, zz7, zz8, zz9, zza, zzb, zzc, zzd, zze, zzf] <;> exact rfl)), (by first | exact rfl | assumption | (simp only [LZ, zo, zc, reduceCtorEq, reduceIte, zz1, zz2, zz3, zz4, zz5, zz6, zz7, zz8, zz9, zza, zzb, zzc, zzd, zze, zzf] <;> exact rfl)), (by first | exact rfl | assumption | (simp only [LZ, zo, zc, reduceCtorEq, reduceIte, zz1, zz2, zz3, zz4, zz5, zz6, zz7, zz8, zz9, zza, zzb, zzc, zzd, zze, zzf] <;> exact rfl)), (by first | exact rfl | assumption | (simp only [LZ, zo, zc, reduceCtorEq, reduceIte, zz1, zz2, zz3, zz4, zz5, zz6, zz7, zz8, zz9, zza, zzb, zzc, zzd, zze, zzf] <;> exact rfl)), (by first | exact rfl | assumption | (simp only [LZ, zo, zc, reduceCtorEq, reduceIte, zz1, zz2, zz3, zz4, zz5, zz6, zz7, zz8, zz9, zza, zzb, zzc, zzd, zze, zzf] <;> exact rfl))⟩ ?_
  rintro st ⟨e1, e4, b4, e6, b6, e28, e29, e30, hmd⟩
  refine LW_joinB (fun st => st.env 4 = .ptr 4 0 ∧ st.box 4 = some zeroNode ∧ st.env 6 = .ptr 6 0 ∧ ∃ tok, st.box 6 = some [intL n.kind, intL n.mt.mode, intL n.mt.uid, intL n.mt.gid, intL n.mt.time, .sl n.mt.attrs.length (n.mt.attrs.flatMap attrL) .no, .sl n.mt.acl.length (n.mt.acl.flatMap aceL) .no, intL s, .sl (cutP n.dat s).length ((cutP n.dat s).flatMap pieceL) tok, strL n.target, intL n.major, intL n.minor]) ?_ ?_
  · refine LW_loop (fun m st => ∃ (i : Nat) (tok : Tok), m + i = n.dat.length ∧ (∀ q ∈ n.dat.take i, q.pos < s) ∧ st.env 1 = intL s ∧ st.env 4 = .ptr 4 0 ∧ st.box 4 = some zeroNode ∧ st.env 6 = .ptr 6 0 ∧ st.box 6 = some [intL n.kind, intL n.mt.mode, intL n.mt.uid, intL n.mt.gid, intL n.mt.time, .sl n.mt.attrs.length (n.mt.attrs.flatMap attrL) .no, .sl n.mt.acl.length (n.mt.acl.flatMap aceL) .no, intL s, .sl i (((n.dat.take i).map (cut1 s)).flatMap pieceL) tok, strL n.target, intL n.major, intL n.minor] ∧ ((tok = .nil ∧ i = 0) ∨ (tok = .row 56 ∧ st.row 56 = some (55, i))) ∧ st.env 28 = piecesL n.dat ∧ st.env 29 = intL n.dat.length ∧ st.env 30 = intL i ∧ st.mode = fun _ => false) n.dat.length ⟨0, .nil, by omega, by simp, e1, e4, b4, e6, b6, .inl ⟨rfl, rfl⟩, e28, e29, e30, hmd⟩ ?_
    clear e1 e4 b4 e6 b6 e28 e29 e30 hmd st
    rintro m st ⟨i, tok, hm, hq, e1, e4, b4, e6, b6, htok, e28, e29, e30, hmd⟩
    (repeat (first | refine LW_seq ?_ | ((first | (refine LW_region ?_; intro K hK; simp only [LZ, zo, zc, reduceCtorEq, reduceIte, zz1, zz2, zz3, zz4, zz5, zz6, zz7, zz8, zz9, zza, zzb, zzc, zzd, zze, zzf, e29, e30]; refine hK _ ?_; clear hK K) | refine LW_label ?_ | refine LW_skip ?_); try simp only [LSj, reduceIte, zze]) | refine LW_block ?_))
    by_cases hlt : i < n.dat.length
    · obtain ⟨p, hp⟩ := get_of_lt hlt
      obtain ⟨hp0, hp1, hp2⟩ := zp p (List.mem_of_getElem? hp)
      have hpl := h.2.2.2 p (List.mem_of_getElem? hp)
      have hd := drop_piece hp
      have hw := w64s (n := i) (by omega)
      have hms := map_snoc (f := cut1 s) hp
      have hcl : (((n.dat.take i).map (cut1 s)).flatMap pieceL).length = i * 2 := by rw [pieceL_flen, List.length_map, List.length_take, Nat.min_eq_left (by omega)]
      refine LW_if ?_; intro X Y hX hY; simp only [LZ, zo, zc, reduceCtorEq, reduceIte, zz1, zz2, zz3, zz4, zz5, zz6, zz7, zz8, zz9, zza, zzb, zzc, zzd, zze, zzf, hlt]; refine hX ?_; clear hX hY X Y; try simp only [LSj, reduceIte, zze]
      (repeat (first | refine LW_seq ?_ | ((first | (refine LW_region ?_; intro K hK; simp only [LZ, zo, zc, reduceCtorEq, reduceIte, zz1, zz2, zz3, zz4, zz5, zz6, zz7, zz8, zz9, zza, zzb, zzc, zzd, zze, zzf, e1, e28, e30, piecesL, hlt, hd]; refine hK _ ?_; clear hK K) | refine LW_label ?_ | refine LW_skip ?_); try simp only [LSj, reduceIte, zze]) | refine LW_block ?_))
      by_cases hps : s ≤ p.pos
      · refine LW_if ?_; intro X Y hX hY; simp only [LZ, zo, zc, reduceCtorEq, reduceIte, zz1, zz2, zz3, zz4, zz5, zz6, zz7, zz8, zz9, zza, zzb, zzc, zzd, zze, zzf, hps]; refine hX ?_; clear hX hY X Y; try simp only [LSj, reduceIte, zze]
        refine LW_exit ?_; simp only [thenL, jumpsL, inBlockL, twoL, reduceIte, Nat.reduceEqDiff]
        have hcu := cutP_upto hp hq hps
        have hcu2 : (cutP n.dat s).length = i := by rw [hcu, List.length_map, List.length_take, Nat.min_eq_left (by omega)]
        rw [hcu2, hcu]
        rcases htok with ⟨rfl, _⟩ | ⟨rfl, _⟩
        · exact ⟨(by first | exact rfl | assumption | (simp only [LZ, zo, zc, reduceCtorEq, reduceIte, zz1, zz2, zz3, zz4, zz5, zz6, zz7, zz8, zz9, zza, zzb, zzc, zzd, zze, zzf, e4] <;> exact rfl)), by simp only [LZ, zo, zc, reduceCtorEq, reduceIte, zz1, zz2, zz3, zz4, zz5, zz6, zz7, zz8, zz9, zza, zzb, zzc, zzd, zze, zzf, b4, zeroNode], (by first | exact rfl | assumption | (simp only [LZ, zo, zc, reduceCtorEq, reduceIte, zz1, zz2, zz3, zz4, zz5, zz6, zz7, zz8, zz9, zza, zzb, zzc, zzd, zze, zzf, e6] <;> exact rfl)), .nil, (by first | exact rfl | assumption | (simp only [LZ, zo, zc, reduceCtorEq, reduceIte, zz1, zz2, zz3, zz4, zz5, zz6, zz7, zz8, zz9, zza, zzb, zzc, zzd, zze, zzf, b6] <;> exact rfl))⟩
        · exact ⟨(by first | exact rfl | assumption | (simp only [LZ, zo, zc, reduceCtorEq, reduceIte, zz1, zz2, zz3, zz4, zz5, zz6, zz7, zz8, zz9, zza, zzb, zzc, zzd, zze, zzf, e4] <;> exact rfl)), by simp only [LZ, zo, zc, reduceCtorEq, reduceIte, zz1, zz2, zz3, zz4, zz5, zz6, zz7, zz8, zz9, zza, zzb, zzc, zzd, zze, zzf, b4, zeroNode], (by first | exact rfl | assumption | (simp only [LZ, zo, zc, reduceCtorEq, reduceIte, zz1, zz2, zz3, zz4, zz5, zz6, zz7, zz8, zz9, zza, zzb, zzc, zzd, zze, zzf, e6] <;> exact rfl)), .row 56, (by first | exact rfl | assumption | (simp only [LZ, zo, zc, reduceCtorEq, reduceIte, zz1, zz2, zz3, zz4, zz5, zz6, zz7, zz8, zz9, zza, zzb, zzc, zzd, zze, zzf, b6] <;> exact rfl))⟩
      · refine LW_if ?_; intro X Y hX hY; simp only [LZ, zo, zc, reduceCtorEq, reduceIte, zz1, zz2, zz3, zz4, zz5, zz6, zz7, zz8, zz9, zza, zzb, zzc, zzd, zze, zzf, hps]; refine hY ?_; clear hX hY X Y; (try simp only [LSj, reduceIte, zze]); (try (refine LW_skip ?_; simp only [LSj, reduceIte, zze]))
        have hw4 : IntKind.i64.wrap (s - p.pos) = s - p.pos := w64 (by omega)
        obtain ⟨mi, hmin, hmi2⟩ : ∃ mi : Int, (if (s - p.pos) < (p.dat.length : Int) then (s - p.pos) else (p.dat.length : Int)) = mi ∧ mi = min (p.dat.length : Int) (s - p.pos) := ⟨_, rfl, by split <;> omega⟩
        have hmi3 : (min (p.dat.length : Int) (s - p.pos)).toNat = mi.toNat := by rw [hmi2]
        have c0 : 0 ≤ mi ∧ mi ≤ (p.dat.length : Int) := by omega
        (repeat (first | refine LW_seq ?_ | ((first | (refine LW_region ?_; intro K hK; simp only [LZ, zo, zc, reduceCtorEq, reduceIte, zz1, zz2, zz3, zz4, zz5, zz6, zz7, zz8, zz9, zza, zzb, zzc, zzd, zze, zzf, e1, hw4, hmin]; refine hK _ ?_; clear hK K) | refine LW_label ?_ | refine LW_skip ?_); try simp only [LSj, reduceIte, zze]) | refine LW_block ?_))
        rcases htok with ⟨rfl, hi0⟩ | ⟨rfl, r56⟩
        · subst hi0
          have r56 : True := trivial
          (repeat (first | refine LW_seq ?_ | (refine LW_skip ?_; simp only [LSj, reduceIte, zze]) | refine LW_block ?_)); refine LW_tail 10 (by kernel_rfl) (by kernel_rfl) (by kernel_rfl) (by first | exact rfl | (rw [hmd]; exact rfl)) ?_; intro K hK; simp only [LZ, zo, zc, reduceCtorEq, reduceIte, zz1, zz2, zz3, zz4, zz5, zz6, zz7, zz8, zz9, zza, zzb, zzc, zzd, zze, zzf, e1, e6, b6, hmin, c0, hcl, hmd, Nat.zero_add]
          refine ⟨by (repeat' apply And.intro) <;> first | omega | (unfold maxLen; omega) | rfl | exact r56, ?_⟩
          refine hK _ ?_; clear hK K; try simp only [LSj, reduceIte, zze]
          (repeat (first | refine LW_seq ?_ | ((first | (refine LW_region ?_; intro K hK; simp only [LZ, zo, zc, reduceCtorEq, reduceIte, zz1, zz2, zz3, zz4, zz5, zz6, zz7, zz8, zz9, zza, zzb, zzc, zzd, zze, zzf, e30, hw]; refine hK _ ?_; clear hK K) | refine LW_label ?_ | refine LW_skip ?_); try simp only [LSj, reduceIte, zze]) | refine LW_block ?_))
          refine ⟨m - 1, by omega, 0 + 1, .row 56, by omega, mem_take_succ hp hq (by omega), (by first | exact rfl | assumption | (simp only [LZ, zo, zc, reduceCtorEq, reduceIte, zz1, zz2, zz3, zz4, zz5, zz6, zz7, zz8, zz9, zza, zzb, zzc, zzd, zze, zzf, e1] <;> exact rfl)), (by first | exact rfl | assumption | (simp only [LZ, zo, zc, reduceCtorEq, reduceIte, zz1, zz2, zz3, zz4, zz5, zz6, zz7, zz8, zz9, zza, zzb, zzc, zzd, zze, zzf, e4] <;> exact rfl)), by simp only [LZ, zo, zc, reduceCtorEq, reduceIte, zz1, zz2, zz3, zz4, zz5, zz6, zz7, zz8, zz9, zza, zzb, zzc, zzd, zze, zzf, b4, zeroNode], (by first | exact rfl | assumption | (simp only [LZ, zo, zc, reduceCtorEq, reduceIte, zz1, zz2, zz3, zz4, zz5, zz6, zz7, zz8, zz9, zza, zzb, zzc, zzd, zze, zzf, e6] <;> exact rfl)), ?_, .inr ⟨rfl, (by first | exact rfl | assumption | (simp only [LZ, zo, zc, reduceCtorEq, reduceIte, zz1, zz2, zz3, zz4, zz5, zz6, zz7, zz8, zz9, zza, zzb, zzc, zzd, zze, zzf] <;> exact rfl))⟩, (by first | exact rfl | assumption | (simp only [LZ, zo, zc, reduceCtorEq, reduceIte, zz1, zz2, zz3, zz4, zz5, zz6, zz7, zz8, zz9, zza, zzb, zzc, zzd, zze, zzf, e28] <;> exact rfl)), (by first | exact rfl | assumption | (simp only [LZ, zo, zc, reduceCtorEq, reduceIte, zz1, zz2, zz3, zz4, zz5, zz6, zz7, zz8, zz9, zza, zzb, zzc, zzd, zze, zzf, e29] <;> exact rfl)), (by first | exact rfl | assumption | (simp only [LZ, zo, zc, reduceCtorEq, reduceIte, zz1, zz2, zz3, zz4, zz5, zz6, zz7, zz8, zz9, zza, zzb, zzc, zzd, zze, zzf] <;> exact rfl)), (by first | exact rfl | assumption | (simp only [LZ, zo, zc, reduceCtorEq, reduceIte, zz1, zz2, zz3, zz4, zz5, zz6, zz7, zz8, zz9, zza, zzb, zzc, zzd, zze, zzf, hmd] <;> exact rfl))⟩
          simp only [LZ, zo, zc, reduceCtorEq, reduceIte, zz1, zz2, zz3, zz4, zz5, zz6, zz7, zz8, zz9, zza, zzb, zzc, zzd, zze, zzf, b6, hms, List.flatMap_append, List.flatMap_cons, List.flatMap_nil, pieceL, cut1, hmi3]
        · (repeat (first | refine LW_seq ?_ | (refine LW_skip ?_; simp only [LSj, reduceIte, zze]) | refine LW_block ?_)); refine LW_tail 10 (by kernel_rfl) (by kernel_rfl) (by kernel_rfl) (by first | exact rfl | (rw [hmd]; exact rfl)) ?_; intro K hK; simp only [LZ, zo, zc, reduceCtorEq, reduceIte, zz1, zz2, zz3, zz4, zz5, zz6, zz7, zz8, zz9, zza, zzb, zzc, zzd, zze, zzf, e1, e6, b6, hmin, c0, hcl, hmd, r56]
          refine ⟨by (repeat' apply And.intro) <;> first | omega | (unfold maxLen; omega) | rfl | exact r56, ?_⟩
          refine hK _ ?_; clear hK K; try simp only [LSj, reduceIte, zze]
          (repeat (first | refine LW_seq ?_ | ((first | (refine LW_region ?_; intro K hK; simp only [LZ, zo, zc, reduceCtorEq, reduceIte, zz1, zz2, zz3, zz4, zz5, zz6, zz7, zz8, zz9, zza, zzb, zzc, zzd, zze, zzf, e30, hw]; refine hK _ ?_; clear hK K) | refine LW_label ?_ | refine LW_skip ?_); try simp only [LSj, reduceIte, zze]) | refine LW_block ?_))
          refine ⟨m - 1, by omega, i + 1, .row 56, by omega, mem_take_succ hp hq (by omega), (by first | exact rfl | assumption | (simp only [LZ, zo, zc, reduceCtorEq, reduceIte, zz1, zz2, zz3, zz4, zz5, zz6, zz7, zz8, zz9, zza, zzb, zzc, zzd, zze, zzf, e1] <;> exact rfl)), (by first | exact rfl | assumption | (simp only [LZ, zo, zc, reduceCtorEq, reduceIte, zz1, zz2, zz3, zz4, zz5, zz6, zz7, zz8, zz9, zza, zzb, zzc, zzd, zze, zzf, e4] <;> exact rfl)), by simp only [LZ, zo, zc, reduceCtorEq, reduceIte, zz1, zz2, zz3, zz4, zz5, zz6, zz7, zz8, zz9, zza, zzb, zzc, zzd, zze, zzf, b4, zeroNode], (by first | exact rfl | assumption | (simp only [LZ, zo, zc, reduceCtorEq, reduceIte, zz1, zz2, zz3, zz4, zz5, zz6, zz7, zz8, zz9, zza, zzb, zzc, zzd, zze, zzf, e6] <;> exact rfl)), ?_, .inr ⟨rfl, (by first | exact rfl | assumption | (simp only [LZ, zo, zc, reduceCtorEq, reduceIte, zz1, zz2, zz3, zz4, zz5, zz6, zz7, zz8, zz9, zza, zzb, zzc, zzd, zze, zzf] <;> exact rfl))⟩, (by first | exact rfl | assumption | (simp only [LZ, zo, zc, reduceCtorEq, reduceIte, zz1, zz2, zz3, zz4, zz5, zz6, zz7, zz8, zz9, zza, zzb, zzc, zzd, zze, zzf, e28] <;> exact rfl)), (by first | exact rfl | assumption | (simp only [LZ, zo, zc, reduceCtorEq, reduceIte, zz1, zz2, zz3, zz4, zz5, zz6, zz7, zz8, zz9, zza, zzb, zzc, zzd, zze, zzf, e29] <;> exact rfl)), (by first | exact rfl | assumption | (simp only [LZ, zo, zc, reduceCtorEq, reduceIte, zz1, zz2, zz3, zz4, zz5, zz6, zz7, zz8, zz9, zza, zzb, zzc, zzd, zze, zzf] <;> exact rfl)), (by first | exact rfl | assumption | (simp only [LZ, zo, zc, reduceCtorEq, reduceIte, zz1, zz2, zz3, zz4, zz5, zz6, zz7, zz8, zz9, zza, zzb, zzc, zzd, zze, zzf, hmd] <;> exact rfl))⟩
          simp only [LZ, zo, zc, reduceCtorEq, reduceIte, zz1, zz2, zz3, zz4, zz5, zz6, zz7, zz8, zz9, zza, zzb, zzc, zzd, zze, zzf, b6, hms, List.flatMap_append, List.flatMap_cons, List.flatMap_nil, pieceL, cut1, hmi3]
    · refine LW_if ?_; intro X Y hX hY; simp only [LZ, zo, zc, reduceCtorEq, reduceIte, zz1, zz2, zz3, zz4, zz5, zz6, zz7, zz8, zz9, zza, zzb, zzc, zzd, zze, zzf, hlt]; refine hY ?_; clear hX hY X Y; (try simp only [LSj, reduceIte, zze]); (try (refine LW_skip ?_; simp only [LSj, reduceIte, zze]))
      refine LW_exit ?_; simp only [thenL, jumpsL, inBlockL, twoL, reduceIte, Nat.reduceEqDiff]
      have hi : i = n.dat.length := by omega
      rw [List.take_of_length_le (by omega)] at hq b6
      have hcu := cutP_all hq
      have hcu2 : (cutP n.dat s).length = i := by rw [hcu, List.length_map, hi]
      rw [hcu2, hcu]
      exact ⟨(by first | exact rfl | assumption | (simp only [LZ, zo, zc, reduceCtorEq, reduceIte, zz1, zz2, zz3, zz4, zz5, zz6, zz7, zz8, zz9, zza, zzb, zzc, zzd, zze, zzf, e4] <;> exact rfl)), (by first | exact rfl | assumption | (simp only [LZ, zo, zc, reduceCtorEq, reduceIte, zz1, zz2, zz3, zz4, zz5, zz6, zz7, zz8, zz9, zza, zzb, zzc, zzd, zze, zzf, b4] <;> exact rfl)), (by first | exact rfl | assumption | (simp only [LZ, zo, zc, reduceCtorEq, reduceIte, zz1, zz2, zz3, zz4, zz5, zz6, zz7, zz8, zz9, zza, zzb, zzc, zzd, zze, zzf, e6] <;> exact rfl)), tok, (by first | exact rfl | assumption | (simp only [LZ, zo, zc, reduceCtorEq, reduceIte, zz1, zz2, zz3, zz4, zz5, zz6, zz7, zz8, zz9, zza, zzb, zzc, zzd, zze, zzf, b6] <;> exact rfl))⟩
  clear e1 e4 b4 e6 b6 e28 e29 e30 hmd st
  rintro st ⟨e4, b4, e6, tok, b6⟩
  (repeat (first | refine LW_seq ?_ | ((first | (refine LW_region ?_; intro K hK; simp only [LZ, zo, zc, reduceCtorEq, reduceIte, zz1, zz2, zz3, zz4, zz5, zz6, zz7, zz8, zz9, zza, zzb, zzc, zzd, zze, zzf, e4, b4, e6, b6, zeroNode]; refine hK _ ?_; clear hK K) | refine LW_label ?_ | refine LW_skip ?_); try simp only [LSj, reduceIte, zze]) | refine LW_block ?_))
  refine LW_ret ?_; simp only [thenL, jumpsL, inBlockL, twoL, bodyQ, LV.lit.injEq, LV.tup.injEq, LV.agg.injEq, LV.sl.injEq, List.cons.injEq, Value.int.injEq, Value.bool.injEq, Value.string.injEq, ByteArray.mk.injEq, exists_eq_left', exists_eq_left, exists_eq_right, LZ, zo, zc, reduceCtorEq, reduceIte, zz1, zz2, zz3, zz4, zz5, zz6, zz7, zz8, zz9, zza, zzb, zzc, zzd, zze, zzf, nodeL, piecesL, attrsL, acesL, e4, b4, e6, b6]
  rw [← hR]; simp
end Go.Proofs.Ytaeefaehpfjmlaa
