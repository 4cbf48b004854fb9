import Derived.Test.YtpficpldemickaaKN1
import Derived.Test.YtpficpldemickaaShelf
set_option linter.unusedSimpArgs false
set_option linter.unusedVariables false
namespace Go.Proofs.Ytpficpldemickaa
open Nat renaming reduceAdd → zz1,reduceMul → zz2,reduceSub → zz3,reduceLT → zz4,reduceLeDiff → zz5,reduceEqDiff → zz6,reduceBEq → zzf
open Int renaming reduceAdd → zz7,reduceSub → zz8,reduceMul → zz9,reduceLT → zza,reduceLE → zzb,reduceEq → zzc,reduceNeg → zzd,reduceToNat → zze
open Op renaming operands → zo
open Call renaming operands → zc
open Go.RowKit Go.Proofs AclSpec MetaSpec NodeSpec GSort Flo Ext

theorem nextents_L (n : FNode) (h : small n) : LCalls Try.prog 98 [.agg (nodeL n)] (eL (extN n)) := (nextents_O n h).toL

set_option maxRecDepth 100000 in
theorem equalPiece_L (l m : List Piece) (hl : l.length ≤ maxLen) (hm : m.length ≤ maxLen) : LCalls Try.prog 49 [piecesL l,piecesL m] (boolL (decide (l = m))) := by
  unfold maxLen at hl hm
  refine LCalls.of (fun _ => false) Try.func49 rfl (by decide) Try.ntmps49 Try.results49 (by simp) ?_
  intro w0 S0 vs hgl hwf0 hsz hvs;clear hsz hvs hwf0 hgl
  (repeat (first | refine LW_seq ?_ | ((first | (refine LW_region ?_;intro K hK;simp only [LZ,zo,zc,reduceCtorEq,reduceIte,zz1,zz2,zz3,zz4,zz5,zz6,zz7,zz8,zz9,zza,zzb,zzc,zzd,zze,zzf,piecesL];refine hK _ ?_;clear hK K) | refine LW_label ?_ | refine LW_skip ?_);try simp only [LSj,reduceIte,zze]) | refine LW_block ?_))
  by_cases hlen : (l.length : Int) = m.length
  · refine LW_if ?_;intro X Y hX hY;simp only [LZ,zo,zc,reduceCtorEq,reduceIte,zz1,zz2,zz3,zz4,zz5,zz6,zz7,zz8,zz9,zza,zzb,zzc,zzd,zze,zzf,hlen];refine hY ?_;clear hX hY X Y;(try simp only [LSj,reduceIte,zze]);(try (refine LW_skip ?_;simp only [LSj,reduceIte,zze]))
    (repeat (first | refine LW_seq ?_ | ((first | (refine LW_region ?_;intro K hK;simp only [LZ,zo,zc,reduceCtorEq,reduceIte,zz1,zz2,zz3,zz4,zz5,zz6,zz7,zz8,zz9,zza,zzb,zzc,zzd,zze,zzf,piecesL];refine hK _ ?_;clear hK K) | refine LW_label ?_ | refine LW_skip ?_);try simp only [LSj,reduceIte,zze]) | refine LW_block ?_))
    refine LW_loop (fun n st => ∃ i : Nat,n + i = l.length ∧ st.env 0 = piecesL l ∧ st.env 1 = piecesL m ∧ st.env 12 = intL l.length ∧ st.env 13 = intL i ∧ l.take i = m.take i) l.length ⟨0,by omega,rfl,rfl,rfl,rfl,rfl⟩ ?_
    rintro n st ⟨i,hn,h0,h1,h12,h13,ht⟩
    (repeat (first | refine LW_seq ?_ | ((first | (refine LW_region ?_;intro K hK;simp only [LZ,zo,zc,reduceCtorEq,reduceIte,zz1,zz2,zz3,zz4,zz5,zz6,zz7,zz8,zz9,zza,zzb,zzc,zzd,zze,zzf,h0,h1,h12,h13];refine hK _ ?_;clear hK K) | refine LW_label ?_ | refine LW_skip ?_);try simp only [LSj,reduceIte,zze]) | refine LW_block ?_))
    by_cases hlt : i < l.length
    · obtain ⟨a,ha⟩ := get_of_lt hlt
      obtain ⟨b,hb⟩ := get_of_lt (l := m) (i := i) (by omega)
      have hda := drop_piece ha
      have hdb := drop_piece hb
      have hltm : i < m.length := by omega
      have hw := w64s (n := i) (by omega)
      refine LW_if ?_;intro X Y hX hY;simp only [LZ,zo,zc,reduceCtorEq,reduceIte,zz1,zz2,zz3,zz4,zz5,zz6,zz7,zz8,zz9,zza,zzb,zzc,zzd,zze,zzf,hlt];refine hX ?_;clear hX hY X Y;try simp only [LSj,reduceIte,zze]
      (repeat (first | refine LW_seq ?_ | ((first | (refine LW_region ?_;intro K hK;simp only [LZ,zo,zc,reduceCtorEq,reduceIte,zz1,zz2,zz3,zz4,zz5,zz6,zz7,zz8,zz9,zza,zzb,zzc,zzd,zze,zzf,h0,h1,h12,h13,piecesL];refine hK _ ?_;clear hK K) | refine LW_label ?_ | refine LW_skip ?_);try simp only [LSj,reduceIte,zze]) | refine LW_block ?_))
      (repeat (first | refine LW_seq ?_ | (refine LW_skip ?_;simp only [LSj,reduceIte,zze]) | refine LW_block ?_));refine LW_any (by kernel_rfl) (by kernel_rfl) (by kernel_rfl) (by first | exact rfl | (rw [hmd];exact rfl)) ?_;intro K hK;simp only [LZ,zo,zc,reduceCtorEq,reduceIte,zz1,zz2,zz3,zz4,zz5,zz6,zz7,zz8,zz9,zza,zzb,zzc,zzd,zze,zzf,h0,h1,h12,h13,piecesL,hlt,hltm,hda,hdb]
      refine hK _ ?_;clear hK K;try simp only [LSj,reduceIte,zze]
      by_cases he : a = b
      · have e1 : a.pos = b.pos := by rw [he]
        have e2 : a.dat = b.dat := by rw [he]
        refine LW_if ?_;intro X Y hX hY;simp only [LZ,zo,zc,reduceCtorEq,reduceIte,zz1,zz2,zz3,zz4,zz5,zz6,zz7,zz8,zz9,zza,zzb,zzc,zzd,zze,zzf,e1,e2];refine hY ?_;clear hX hY X Y;(try simp only [LSj,reduceIte,zze]);(try (refine LW_skip ?_;simp only [LSj,reduceIte,zze]))
        (repeat (first | refine LW_seq ?_ | ((first | (refine LW_region ?_;intro K hK;simp only [LZ,zo,zc,reduceCtorEq,reduceIte,zz1,zz2,zz3,zz4,zz5,zz6,zz7,zz8,zz9,zza,zzb,zzc,zzd,zze,zzf,h0,h1,h12,h13,hw];refine hK _ ?_;clear hK K) | refine LW_label ?_ | refine LW_skip ?_);try simp only [LSj,reduceIte,zze]) | refine LW_block ?_))
        exact ⟨n - 1,by omega,i + 1,by omega,h0,h1,h12,rfl,take_succ_eq ht ha hb he⟩
      · have hne : (decide (a.pos = b.pos) && decide (a.dat = b.dat)) = false := by
          rw [Bool.eq_false_iff];intro h;simp at h;exact he (by cases a;cases b;simp_all)
        refine LW_if ?_;intro X Y hX hY;simp only [LZ,zo,zc,reduceCtorEq,reduceIte,zz1,zz2,zz3,zz4,zz5,zz6,zz7,zz8,zz9,zza,zzb,zzc,zzd,zze,zzf,hne];refine hX ?_;clear hX hY X Y;try simp only [LSj,reduceIte,zze]
        (repeat (first | refine LW_seq ?_ | ((first | (refine LW_region ?_;intro K hK;simp only [LZ,zo,zc,reduceCtorEq,reduceIte,zz1,zz2,zz3,zz4,zz5,zz6,zz7,zz8,zz9,zza,zzb,zzc,zzd,zze,zzf];refine hK _ ?_;clear hK K) | refine LW_label ?_ | refine LW_skip ?_);try simp only [LSj,reduceIte,zze]) | refine LW_block ?_))
        refine LW_ret ?_;simp only [thenL,jumpsL,inBlockL,twoL,bodyQ,LV.lit.injEq,LV.tup.injEq,LV.agg.injEq,LV.sl.injEq,List.cons.injEq,Value.int.injEq,Value.bool.injEq,Value.string.injEq,ByteArray.mk.injEq,exists_eq_left',exists_eq_left,exists_eq_right,LZ,zo,zc,reduceCtorEq,reduceIte,zz1,zz2,zz3,zz4,zz5,zz6,zz7,zz8,zz9,zza,zzb,zzc,zzd,zze,zzf]
        simp [ne_of_get ha hb he]
    · refine LW_if ?_;intro X Y hX hY;simp only [LZ,zo,zc,reduceCtorEq,reduceIte,zz1,zz2,zz3,zz4,zz5,zz6,zz7,zz8,zz9,zza,zzb,zzc,zzd,zze,zzf,hlt];refine hY ?_;clear hX hY X Y;(try simp only [LSj,reduceIte,zze]);(try (refine LW_skip ?_;simp only [LSj,reduceIte,zze]))
      refine LW_exit ?_;simp only [thenL,jumpsL,inBlockL,twoL,reduceIte,Nat.reduceEqDiff]
      (repeat (first | refine LW_seq ?_ | ((first | (refine LW_region ?_;intro K hK;simp only [LZ,zo,zc,reduceCtorEq,reduceIte,zz1,zz2,zz3,zz4,zz5,zz6,zz7,zz8,zz9,zza,zzb,zzc,zzd,zze,zzf];refine hK _ ?_;clear hK K) | refine LW_label ?_ | refine LW_skip ?_);try simp only [LSj,reduceIte,zze]) | refine LW_block ?_))
      refine LW_ret ?_;simp only [thenL,jumpsL,inBlockL,twoL,bodyQ,LV.lit.injEq,LV.tup.injEq,LV.agg.injEq,LV.sl.injEq,List.cons.injEq,Value.int.injEq,Value.bool.injEq,Value.string.injEq,ByteArray.mk.injEq,exists_eq_left',exists_eq_left,exists_eq_right,LZ,zo,zc,reduceCtorEq,reduceIte,zz1,zz2,zz3,zz4,zz5,zz6,zz7,zz8,zz9,zza,zzb,zzc,zzd,zze,zzf]
      rw [List.take_of_length_le (by omega),List.take_of_length_le (by omega)] at ht
      simp [ht]
  · refine LW_if ?_;intro X Y hX hY;simp only [LZ,zo,zc,reduceCtorEq,reduceIte,zz1,zz2,zz3,zz4,zz5,zz6,zz7,zz8,zz9,zza,zzb,zzc,zzd,zze,zzf,hlen];refine hX ?_;clear hX hY X Y;try simp only [LSj,reduceIte,zze]
    (repeat (first | refine LW_seq ?_ | ((first | (refine LW_region ?_;intro K hK;simp only [LZ,zo,zc,reduceCtorEq,reduceIte,zz1,zz2,zz3,zz4,zz5,zz6,zz7,zz8,zz9,zza,zzb,zzc,zzd,zze,zzf];refine hK _ ?_;clear hK K) | refine LW_label ?_ | refine LW_skip ?_);try simp only [LSj,reduceIte,zze]) | refine LW_block ?_))
    refine LW_ret ?_;simp only [thenL,jumpsL,inBlockL,twoL,bodyQ,LV.lit.injEq,LV.tup.injEq,LV.agg.injEq,LV.sl.injEq,List.cons.injEq,Value.int.injEq,Value.bool.injEq,Value.string.injEq,ByteArray.mk.injEq,exists_eq_left',exists_eq_left,exists_eq_right,LZ,zo,zc,reduceCtorEq,reduceIte,zz1,zz2,zz3,zz4,zz5,zz6,zz7,zz8,zz9,zza,zzb,zzc,zzd,zze,zzf]
    simp;rintro rfl;exact hlen rfl

def okLen (n : FNode) : Prop := n.mt.attrs.length ≤ maxLen ∧ n.mt.acl.length ≤ maxLen ∧ n.dat.length ≤ maxLen
theorem small.len {n : FNode} (h : small n) : okLen n := by
  obtain ⟨h1,h2,h3,_⟩ := h
  unfold okLen maxLen
  omega
set_option maxRecDepth 100000 in
set_option maxHeartbeats 2000000 in
theorem ndiff_L (a b : FNode) (ha : okLen a) (hb : okLen b) : LCalls Try.prog 28 [.agg (nodeL a),.agg (nodeL b)] (strL (diffN a b)) := by
  have c1 := diff_L a.mt b.mt ha.1 hb.1 ha.2.1 hb.2.1
  have c2 := equalPiece_L a.dat b.dat ha.2.2 hb.2.2
  simp only [metaL] at c1
  refine LCalls.of (fun _ => false) Try.func28 rfl (by decide) Try.ntmps28 Try.results28 (by simp) ?_
  intro w0 S0 vs hgl hwf0 hsz hvs;clear hsz hvs hwf0 hgl
  generalize hR : diffN a b = R
  unfold diffN at hR
  (repeat (first | refine LW_seq ?_ | ((first | (refine LW_region ?_;intro K hK;simp only [LZ,zo,zc,reduceCtorEq,reduceIte,zz1,zz2,zz3,zz4,zz5,zz6,zz7,zz8,zz9,zza,zzb,zzc,zzd,zze,zzf,nodeL,piecesL];refine hK _ ?_;clear hK K) | refine LW_label ?_ | refine LW_skip ?_);try simp only [LSj,reduceIte,zze]) | refine LW_block ?_))
  by_cases g1 : a.kind = b.kind
  · rw [if_neg (not_not_intro g1)] at hR
    refine LW_if ?_;intro X Y hX hY;simp only [LZ,zo,zc,reduceCtorEq,reduceIte,zz1,zz2,zz3,zz4,zz5,zz6,zz7,zz8,zz9,zza,zzb,zzc,zzd,zze,zzf,g1];refine hY ?_;clear hX hY X Y;(try simp only [LSj,reduceIte,zze]);(try (refine LW_skip ?_;simp only [LSj,reduceIte,zze]))
    (repeat (first | refine LW_seq ?_ | (refine LW_skip ?_;simp only [LSj,reduceIte,zze]) | refine LW_block ?_));refine LW_region ?_;intro K hK;simp only [LZ,zo,zc,reduceCtorEq,reduceIte,zz1,zz2,zz3,zz4,zz5,zz6,zz7,zz8,zz9,zza,zzb,zzc,zzd,zze,zzf,nodeL]
    refine cop_intro ?ha (c1) ?_;(case ha => (simp only [LZ,zo,zc,reduceCtorEq,reduceIte,zz1,zz2,zz3,zz4,zz5,zz6,zz7,zz8,zz9,zza,zzb,zzc,zzd,zze,zzf]) <;> rfl);simp only [LZ,zo,zc,reduceCtorEq,reduceIte,zz1,zz2,zz3,zz4,zz5,zz6,zz7,zz8,zz9,zza,zzb,zzc,zzd,zze,zzf]
    refine hK _ ?_;clear hK K;try simp only [LSj,reduceIte,zze]
    by_cases g2 : diffM a.mt b.mt = []
    · rw [if_neg (not_not_intro g2)] at hR
      (repeat (first | refine LW_seq ?_ | ((first | (refine LW_region ?_;intro K hK;simp only [LZ,zo,zc,reduceCtorEq,reduceIte,zz1,zz2,zz3,zz4,zz5,zz6,zz7,zz8,zz9,zza,zzb,zzc,zzd,zze,zzf,g2];refine hK _ ?_;clear hK K) | refine LW_label ?_ | refine LW_skip ?_);try simp only [LSj,reduceIte,zze]) | refine LW_block ?_))
      refine LW_if ?_;intro X Y hX hY;simp only [LZ,zo,zc,reduceCtorEq,reduceIte,zz1,zz2,zz3,zz4,zz5,zz6,zz7,zz8,zz9,zza,zzb,zzc,zzd,zze,zzf];refine hY ?_;clear hX hY X Y;(try simp only [LSj,reduceIte,zze]);(try (refine LW_skip ?_;simp only [LSj,reduceIte,zze]))
      (repeat (first | refine LW_seq ?_ | ((first | (refine LW_region ?_;intro K hK;simp only [LZ,zo,zc,reduceCtorEq,reduceIte,zz1,zz2,zz3,zz4,zz5,zz6,zz7,zz8,zz9,zza,zzb,zzc,zzd,zze,zzf];refine hK _ ?_;clear hK K) | refine LW_label ?_ | refine LW_skip ?_);try simp only [LSj,reduceIte,zze]) | refine LW_block ?_))
      by_cases g3 : a.size = b.size
      · rw [if_neg (not_not_intro g3)] at hR
        refine LW_if ?_;intro X Y hX hY;simp only [LZ,zo,zc,reduceCtorEq,reduceIte,zz1,zz2,zz3,zz4,zz5,zz6,zz7,zz8,zz9,zza,zzb,zzc,zzd,zze,zzf,g3];refine hY ?_;clear hX hY X Y;(try simp only [LSj,reduceIte,zze]);(try (refine LW_skip ?_;simp only [LSj,reduceIte,zze]))
        (repeat (first | refine LW_seq ?_ | (refine LW_skip ?_;simp only [LSj,reduceIte,zze]) | refine LW_block ?_));refine LW_region ?_;intro K hK;simp only [LZ,zo,zc,reduceCtorEq,reduceIte,zz1,zz2,zz3,zz4,zz5,zz6,zz7,zz8,zz9,zza,zzb,zzc,zzd,zze,zzf]
        refine cop_intro ?ha (c2) ?_;(case ha => (simp only [LZ,zo,zc,reduceCtorEq,reduceIte,zz1,zz2,zz3,zz4,zz5,zz6,zz7,zz8,zz9,zza,zzb,zzc,zzd,zze,zzf]) <;> rfl);simp only [LZ,zo,zc,reduceCtorEq,reduceIte,zz1,zz2,zz3,zz4,zz5,zz6,zz7,zz8,zz9,zza,zzb,zzc,zzd,zze,zzf]
        refine hK _ ?_;clear hK K;try simp only [LSj,reduceIte,zze]
        by_cases g4 : a.dat = b.dat
        · rw [if_neg (not_not_intro g4)] at hR
          refine LW_if ?_;intro X Y hX hY;simp only [LZ,zo,zc,reduceCtorEq,reduceIte,zz1,zz2,zz3,zz4,zz5,zz6,zz7,zz8,zz9,zza,zzb,zzc,zzd,zze,zzf,g4];refine hY ?_;clear hX hY X Y;(try simp only [LSj,reduceIte,zze]);(try (refine LW_skip ?_;simp only [LSj,reduceIte,zze]))
          (repeat (first | refine LW_seq ?_ | ((first | (refine LW_region ?_;intro K hK;simp only [LZ,zo,zc,reduceCtorEq,reduceIte,zz1,zz2,zz3,zz4,zz5,zz6,zz7,zz8,zz9,zza,zzb,zzc,zzd,zze,zzf];refine hK _ ?_;clear hK K) | refine LW_label ?_ | refine LW_skip ?_);try simp only [LSj,reduceIte,zze]) | refine LW_block ?_))
          by_cases g5 : a.target = b.target
          · rw [if_neg (not_not_intro g5)] at hR
            refine LW_if ?_;intro X Y hX hY;simp only [LZ,zo,zc,reduceCtorEq,reduceIte,zz1,zz2,zz3,zz4,zz5,zz6,zz7,zz8,zz9,zza,zzb,zzc,zzd,zze,zzf,g5];refine hY ?_;clear hX hY X Y;(try simp only [LSj,reduceIte,zze]);(try (refine LW_skip ?_;simp only [LSj,reduceIte,zze]))
            by_cases g6 : a.major = b.major
            · rw [if_neg (not_not_intro g6)] at hR
              by_cases g7 : a.minor = b.minor
              · rw [if_neg (not_not_intro g7)] at hR
                (repeat (first | refine LW_seq ?_ | ((first | (refine LW_region ?_;intro K hK;simp only [LZ,zo,zc,reduceCtorEq,reduceIte,zz1,zz2,zz3,zz4,zz5,zz6,zz7,zz8,zz9,zza,zzb,zzc,zzd,zze,zzf,g6,g7];refine hK _ ?_;clear hK K) | refine LW_label ?_ | refine LW_skip ?_);try simp only [LSj,reduceIte,zze]) | refine LW_block ?_))
                refine LW_if ?_;intro X Y hX hY;simp only [LZ,zo,zc,reduceCtorEq,reduceIte,zz1,zz2,zz3,zz4,zz5,zz6,zz7,zz8,zz9,zza,zzb,zzc,zzd,zze,zzf];refine hY ?_;clear hX hY X Y;(try simp only [LSj,reduceIte,zze]);(try (refine LW_skip ?_;simp only [LSj,reduceIte,zze]))
                (repeat (first | refine LW_seq ?_ | ((first | (refine LW_region ?_;intro K hK;simp only [LZ,zo,zc,reduceCtorEq,reduceIte,zz1,zz2,zz3,zz4,zz5,zz6,zz7,zz8,zz9,zza,zzb,zzc,zzd,zze,zzf];refine hK _ ?_;clear hK K) | refine LW_label ?_ | refine LW_skip ?_);try simp only [LSj,reduceIte,zze]) | refine LW_block ?_))
                refine LW_ret ?_;simp only [thenL,jumpsL,inBlockL,twoL,bodyQ,LV.lit.injEq,LV.tup.injEq,LV.agg.injEq,LV.sl.injEq,List.cons.injEq,Value.int.injEq,Value.bool.injEq,Value.string.injEq,ByteArray.mk.injEq,exists_eq_left',exists_eq_left,exists_eq_right,LZ,zo,zc,reduceCtorEq,reduceIte,zz1,zz2,zz3,zz4,zz5,zz6,zz7,zz8,zz9,zza,zzb,zzc,zzd,zze,zzf]
                rw [← hR]
              · rw [if_pos g7] at hR
                (repeat (first | refine LW_seq ?_ | ((first | (refine LW_region ?_;intro K hK;simp only [LZ,zo,zc,reduceCtorEq,reduceIte,zz1,zz2,zz3,zz4,zz5,zz6,zz7,zz8,zz9,zza,zzb,zzc,zzd,zze,zzf,g6,g7];refine hK _ ?_;clear hK K) | refine LW_label ?_ | refine LW_skip ?_);try simp only [LSj,reduceIte,zze]) | refine LW_block ?_))
                refine LW_if ?_;intro X Y hX hY;simp only [LZ,zo,zc,reduceCtorEq,reduceIte,zz1,zz2,zz3,zz4,zz5,zz6,zz7,zz8,zz9,zza,zzb,zzc,zzd,zze,zzf];refine hX ?_;clear hX hY X Y;try simp only [LSj,reduceIte,zze]
                (repeat (first | refine LW_seq ?_ | ((first | (refine LW_region ?_;intro K hK;simp only [LZ,zo,zc,reduceCtorEq,reduceIte,zz1,zz2,zz3,zz4,zz5,zz6,zz7,zz8,zz9,zza,zzb,zzc,zzd,zze,zzf];refine hK _ ?_;clear hK K) | refine LW_label ?_ | refine LW_skip ?_);try simp only [LSj,reduceIte,zze]) | refine LW_block ?_))
                refine LW_ret ?_;simp only [thenL,jumpsL,inBlockL,twoL,bodyQ,LV.lit.injEq,LV.tup.injEq,LV.agg.injEq,LV.sl.injEq,List.cons.injEq,Value.int.injEq,Value.bool.injEq,Value.string.injEq,ByteArray.mk.injEq,exists_eq_left',exists_eq_left,exists_eq_right,LZ,zo,zc,reduceCtorEq,reduceIte,zz1,zz2,zz3,zz4,zz5,zz6,zz7,zz8,zz9,zza,zzb,zzc,zzd,zze,zzf]
                rw [← hR]
            · rw [if_pos g6] at hR
              (repeat (first | refine LW_seq ?_ | ((first | (refine LW_region ?_;intro K hK;simp only [LZ,zo,zc,reduceCtorEq,reduceIte,zz1,zz2,zz3,zz4,zz5,zz6,zz7,zz8,zz9,zza,zzb,zzc,zzd,zze,zzf,g6];refine hK _ ?_;clear hK K) | refine LW_label ?_ | refine LW_skip ?_);try simp only [LSj,reduceIte,zze]) | refine LW_block ?_))
              refine LW_if ?_;intro X Y hX hY;simp only [LZ,zo,zc,reduceCtorEq,reduceIte,zz1,zz2,zz3,zz4,zz5,zz6,zz7,zz8,zz9,zza,zzb,zzc,zzd,zze,zzf];refine hX ?_;clear hX hY X Y;try simp only [LSj,reduceIte,zze]
              (repeat (first | refine LW_seq ?_ | ((first | (refine LW_region ?_;intro K hK;simp only [LZ,zo,zc,reduceCtorEq,reduceIte,zz1,zz2,zz3,zz4,zz5,zz6,zz7,zz8,zz9,zza,zzb,zzc,zzd,zze,zzf];refine hK _ ?_;clear hK K) | refine LW_label ?_ | refine LW_skip ?_);try simp only [LSj,reduceIte,zze]) | refine LW_block ?_))
              refine LW_ret ?_;simp only [thenL,jumpsL,inBlockL,twoL,bodyQ,LV.lit.injEq,LV.tup.injEq,LV.agg.injEq,LV.sl.injEq,List.cons.injEq,Value.int.injEq,Value.bool.injEq,Value.string.injEq,ByteArray.mk.injEq,exists_eq_left',exists_eq_left,exists_eq_right,LZ,zo,zc,reduceCtorEq,reduceIte,zz1,zz2,zz3,zz4,zz5,zz6,zz7,zz8,zz9,zza,zzb,zzc,zzd,zze,zzf]
              rw [← hR]
          · rw [if_pos g5] at hR
            refine LW_if ?_;intro X Y hX hY;simp only [LZ,zo,zc,reduceCtorEq,reduceIte,zz1,zz2,zz3,zz4,zz5,zz6,zz7,zz8,zz9,zza,zzb,zzc,zzd,zze,zzf,g5];refine hX ?_;clear hX hY X Y;try simp only [LSj,reduceIte,zze]
            (repeat (first | refine LW_seq ?_ | ((first | (refine LW_region ?_;intro K hK;simp only [LZ,zo,zc,reduceCtorEq,reduceIte,zz1,zz2,zz3,zz4,zz5,zz6,zz7,zz8,zz9,zza,zzb,zzc,zzd,zze,zzf];refine hK _ ?_;clear hK K) | refine LW_label ?_ | refine LW_skip ?_);try simp only [LSj,reduceIte,zze]) | refine LW_block ?_))
            refine LW_ret ?_;simp only [thenL,jumpsL,inBlockL,twoL,bodyQ,LV.lit.injEq,LV.tup.injEq,LV.agg.injEq,LV.sl.injEq,List.cons.injEq,Value.int.injEq,Value.bool.injEq,Value.string.injEq,ByteArray.mk.injEq,exists_eq_left',exists_eq_left,exists_eq_right,LZ,zo,zc,reduceCtorEq,reduceIte,zz1,zz2,zz3,zz4,zz5,zz6,zz7,zz8,zz9,zza,zzb,zzc,zzd,zze,zzf]
            rw [← hR]
        · rw [if_pos g4] at hR
          refine LW_if ?_;intro X Y hX hY;simp only [LZ,zo,zc,reduceCtorEq,reduceIte,zz1,zz2,zz3,zz4,zz5,zz6,zz7,zz8,zz9,zza,zzb,zzc,zzd,zze,zzf,g4];refine hX ?_;clear hX hY X Y;try simp only [LSj,reduceIte,zze]
          (repeat (first | refine LW_seq ?_ | ((first | (refine LW_region ?_;intro K hK;simp only [LZ,zo,zc,reduceCtorEq,reduceIte,zz1,zz2,zz3,zz4,zz5,zz6,zz7,zz8,zz9,zza,zzb,zzc,zzd,zze,zzf];refine hK _ ?_;clear hK K) | refine LW_label ?_ | refine LW_skip ?_);try simp only [LSj,reduceIte,zze]) | refine LW_block ?_))
          refine LW_ret ?_;simp only [thenL,jumpsL,inBlockL,twoL,bodyQ,LV.lit.injEq,LV.tup.injEq,LV.agg.injEq,LV.sl.injEq,List.cons.injEq,Value.int.injEq,Value.bool.injEq,Value.string.injEq,ByteArray.mk.injEq,exists_eq_left',exists_eq_left,exists_eq_right,LZ,zo,zc,reduceCtorEq,reduceIte,zz1,zz2,zz3,zz4,zz5,zz6,zz7,zz8,zz9,zza,zzb,zzc,zzd,zze,zzf]
          rw [← hR]
      · rw [if_pos g3] at hR
        refine LW_if ?_;intro X Y hX hY;simp only [LZ,zo,zc,reduceCtorEq,reduceIte,zz1,zz2,zz3,zz4,zz5,zz6,zz7,zz8,zz9,zza,zzb,zzc,zzd,zze,zzf,g3];refine hX ?_;clear hX hY X Y;try simp only [LSj,reduceIte,zze]
        (repeat (first | refine LW_seq ?_ | ((first | (refine LW_region ?_;intro K hK;simp only [LZ,zo,zc,reduceCtorEq,reduceIte,zz1,zz2,zz3,zz4,zz5,zz6,zz7,zz8,zz9,zza,zzb,zzc,zzd,zze,zzf];refine hK _ ?_;clear hK K) | refine LW_label ?_ | refine LW_skip ?_);try simp only [LSj,reduceIte,zze]) | refine LW_block ?_))
        refine LW_ret ?_;simp only [thenL,jumpsL,inBlockL,twoL,bodyQ,LV.lit.injEq,LV.tup.injEq,LV.agg.injEq,LV.sl.injEq,List.cons.injEq,Value.int.injEq,Value.bool.injEq,Value.string.injEq,ByteArray.mk.injEq,exists_eq_left',exists_eq_left,exists_eq_right,LZ,zo,zc,reduceCtorEq,reduceIte,zz1,zz2,zz3,zz4,zz5,zz6,zz7,zz8,zz9,zza,zzb,zzc,zzd,zze,zzf]
        rw [← hR]
    · rw [if_pos g2] at hR
      (repeat (first | refine LW_seq ?_ | ((first | (refine LW_region ?_;intro K hK;simp only [LZ,zo,zc,reduceCtorEq,reduceIte,zz1,zz2,zz3,zz4,zz5,zz6,zz7,zz8,zz9,zza,zzb,zzc,zzd,zze,zzf,g2];refine hK _ ?_;clear hK K) | refine LW_label ?_ | refine LW_skip ?_);try simp only [LSj,reduceIte,zze]) | refine LW_block ?_))
      refine LW_if ?_;intro X Y hX hY;simp only [LZ,zo,zc,reduceCtorEq,reduceIte,zz1,zz2,zz3,zz4,zz5,zz6,zz7,zz8,zz9,zza,zzb,zzc,zzd,zze,zzf,g2];refine hX ?_;clear hX hY X Y;try simp only [LSj,reduceIte,zze]
      (repeat (first | refine LW_seq ?_ | ((first | (refine LW_region ?_;intro K hK;simp only [LZ,zo,zc,reduceCtorEq,reduceIte,zz1,zz2,zz3,zz4,zz5,zz6,zz7,zz8,zz9,zza,zzb,zzc,zzd,zze,zzf];refine hK _ ?_;clear hK K) | refine LW_label ?_ | refine LW_skip ?_);try simp only [LSj,reduceIte,zze]) | refine LW_block ?_))
      refine LW_ret ?_;simp only [thenL,jumpsL,inBlockL,twoL,bodyQ,LV.lit.injEq,LV.tup.injEq,LV.agg.injEq,LV.sl.injEq,List.cons.injEq,Value.int.injEq,Value.bool.injEq,Value.string.injEq,ByteArray.mk.injEq,exists_eq_left',exists_eq_left,exists_eq_right,LZ,zo,zc,reduceCtorEq,reduceIte,zz1,zz2,zz3,zz4,zz5,zz6,zz7,zz8,zz9,zza,zzb,zzc,zzd,zze,zzf]
      rw [← hR]
  · rw [if_pos g1] at hR
    refine LW_if ?_;intro X Y hX hY;simp only [LZ,zo,zc,reduceCtorEq,reduceIte,zz1,zz2,zz3,zz4,zz5,zz6,zz7,zz8,zz9,zza,zzb,zzc,zzd,zze,zzf,g1];refine hX ?_;clear hX hY X Y;try simp only [LSj,reduceIte,zze]
    (repeat (first | refine LW_seq ?_ | ((first | (refine LW_region ?_;intro K hK;simp only [LZ,zo,zc,reduceCtorEq,reduceIte,zz1,zz2,zz3,zz4,zz5,zz6,zz7,zz8,zz9,zza,zzb,zzc,zzd,zze,zzf];refine hK _ ?_;clear hK K) | refine LW_label ?_ | refine LW_skip ?_);try simp only [LSj,reduceIte,zze]) | refine LW_block ?_))
    refine LW_ret ?_;simp only [thenL,jumpsL,inBlockL,twoL,bodyQ,LV.lit.injEq,LV.tup.injEq,LV.agg.injEq,LV.sl.injEq,List.cons.injEq,Value.int.injEq,Value.bool.injEq,Value.string.injEq,ByteArray.mk.injEq,exists_eq_left',exists_eq_left,exists_eq_right,LZ,zo,zc,reduceCtorEq,reduceIte,zz1,zz2,zz3,zz4,zz5,zz6,zz7,zz8,zz9,zza,zzb,zzc,zzd,zze,zzf]
    rw [← hR]
end Go.Proofs.Ytpficpldemickaa
