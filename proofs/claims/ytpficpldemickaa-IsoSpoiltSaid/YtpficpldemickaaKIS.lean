import Derived.Test.YtpficpldemickaaKTQ
import Derived.Test.YtpficpldemickaaKIT
import Derived.Test.YtpficpldemickaaISpoil
set_option linter.unusedSimpArgs false
set_option linter.unusedVariables false
namespace Go.Proofs.Ytpficpldemickaa
open Nat renaming reduceAdd → zz1,reduceMul → zz2,reduceSub → zz3,reduceLT → zz4,reduceLeDiff → zz5,reduceEqDiff → zz6,reduceBEq → zzf
open Int renaming reduceAdd → zz7,reduceSub → zz8,reduceMul → zz9,reduceLT → zza,reduceLE → zzb,reduceEq → zzc,reduceNeg → zzd,reduceToNat → zze
open Op renaming operands → zo
open Call renaming operands → zc
open Go.RowKit Go.Proofs AclSpec MetaSpec NodeSpec PathSpec TreeSpec

theorem xor_nat (n : Nat) (h : n < 4096) : bits .xor .i64 (n : Int) 1 = xor1 (n : Int) := by
  have e : bits .xor .i64 (n : Int) 1 = IntKind.i64.wrap (((BitVec.ofInt 64 (n : Int)) ^^^ (BitVec.ofInt 64 1)).toNat : Int) := rfl
  have h1 : (BitVec.ofInt 64 (n : Int)).toNat = n := by rw [BitVec.ofInt_natCast,BitVec.toNat_ofNat];omega
  have h2 : (BitVec.ofInt 64 1).toNat = 1 := by decide
  rw [e,BitVec.toNat_xor,h1,h2]
  have d := Nat.xor_div_two (a := n) (b := 1)
  have m := @Nat.xor_mod_two_eq_one n 1
  rw [show 1 / 2 = 0 from rfl,Nat.xor_zero] at d
  rw [w64 (by omega)]
  unfold xor1
  split <;> omega
theorem xor_int {m : Int} (h0 : 0 ≤ m) (h1 : m ≤ 4095) : bits .xor .i64 m 1 = xor1 m := by
  have := xor_nat m.toNat (by omega)
  rw [Int.toNat_of_nonneg h0] at this
  exact this
theorem flat_put {α : Type} {enc : α → List LV} {k : Nat} (hk : ∀ x,(enc x).length = k) {y : α} : ∀ {l : List α} {i : Nat},i < l.length → (l.flatMap enc).take (i * k) ++ (enc y ++ (l.flatMap enc).drop (i * k + k)) = (l.set i y).flatMap enc
  | x :: r,0,_ => by
    have hd : (enc x ++ r.flatMap enc).drop k = r.flatMap enc := by rw [← hk x];exact List.drop_left
    simp only [List.flatMap_cons,List.set_cons_zero,Nat.zero_mul,List.take_zero,List.nil_append,Nat.zero_add,hd]
  | x :: r,i + 1,h => by
    have ih := flat_put hk (y := y) (l := r) (i := i) (by rw [List.length_cons] at h;omega)
    have e1 : (i + 1) * k = (enc x).length + i * k := by rw [hk,Nat.add_mul];omega
    have e2 : (i + 1) * k + k = (enc x).length + (i * k + k) := by rw [hk,Nat.add_mul];omega
    rw [List.flatMap_cons,e1,Nat.add_assoc,List.take_length_add_append,List.drop_length_add_append,List.append_assoc,ih,List.set_cons_succ,List.flatMap_cons]
theorem pathK_step {l : List TEnt} {i k : Nat} {e : TEnt} (h : l[i]? = some e) : pathK k (l.drop i) = if e.node = (k : Int) then e.path else pathK k (l.drop (i + 1)) := by
  obtain ⟨hi,rfl⟩ := List.getElem?_eq_some_iff.1 h
  rw [List.drop_eq_getElem_cons hi];rfl
set_option maxRecDepth 100000 in
set_option maxHeartbeats 4000000 in
theorem isoSpoilt_L (l : List Int) (which part : Int) : LCalls Try.prog 5 [intsL l,intL which,intL part] (boolL true) := by
  have t0 := itold_L
  simp only [boolL] at t0
  have cm := make_L l
  have hm := make_may (l.map uN)
  have hmm := make_meta (l.map uN)
  generalize makeT fileU (l.map uN) = a at *
  obtain ⟨hsa,l1,l2,n1,n2⟩ := mayT_small hm
  obtain ⟨hw1,_⟩ := uN_eq which
  obtain ⟨hp1,_⟩ := uN_eq part
  generalize uN which = wu0 at *
  generalize uN part = pu at *
  have hnn : ¬ ((a.nodes.length : Int) = 0) := by omega
  have f1 := wu (n := a.nodes.length) (by omega)
  have f2 := umod wu0 a.nodes.length _ rfl
  have hk : wu0 % a.nodes.length < a.nodes.length := Nat.mod_lt _ (by omega)
  have f3 : IntKind.i64.wrap ((wu0 % a.nodes.length : Nat) : Int) = ((wu0 % a.nodes.length : Nat) : Int) := w64 (by omega)
  have f4 := umod pu 4 4 rfl
  have hc : pu % 4 < 4 := Nat.mod_lt _ (by decide)
  generalize hk0 : wu0 % a.nodes.length = k at *
  obtain ⟨n,hn⟩ := get_of_lt hk
  obtain ⟨g1,g2,g3,g4,g5⟩ := spoil_law (c := pu % 4) hm hmm hn
  have hmn := hmm n (List.mem_of_getElem? hn)
  have hnb : 0 ≤ n.mt.mode ∧ n.mt.mode ≤ 4095 ∧ 0 ≤ n.mt.gid ∧ n.mt.gid ≤ 10 ∧ 0 ≤ n.mt.time ∧ n.mt.time ≤ 1000000 ∧ n.mt.attrs.length ≤ 1 := by
    rcases hmn with e | ⟨u,e⟩
    · rw [e];decide
    · have h1 : u / 5 % 4096 < 4096 := Nat.mod_lt _ (by decide)
      have h3 : u % 4 < 4 := Nat.mod_lt _ (by decide)
      have h6 : u % 1000000 < 1000000 := Nat.mod_lt _ (by decide)
      rw [e]
      refine ⟨?_,?_,?_,?_,?_,?_,?_⟩
      · show (0 : Int) ≤ ((u / 5 % 4096 : Nat) : Int);omega
      · show ((u / 5 % 4096 : Nat) : Int) ≤ 4095;omega
      · show (0 : Int) ≤ ((u % 4 : Nat) : Int);omega
      · show ((u % 4 : Nat) : Int) ≤ 10;omega
      · show (0 : Int) ≤ ((u % 1000000 : Nat) : Int);omega
      · show ((u % 1000000 : Nat) : Int) ≤ 1000000;omega
      · show (if u % 11 = 0 then _ else _ : List Attr).length ≤ 1;split <;> simp
  obtain ⟨b1,b2,b3,b4,b5,b6,b7⟩ := hnb
  obtain ⟨hsb,_⟩ := mayT_small g1
  have cN := inodes_L a _ hsa hsb
  have cP := ipaths_L a _ hsa hsb
  have cL := ilinks_L a _ hsa hsb
  have cS := isame_L a _ hsa hsb
  rw [g2] at cN
  rw [g3] at cP
  rw [g4] at cL
  rw [g5] at cS
  have hdn := drop_node hn
  have hfn := nodeL_flen a.nodes
  have hput := flat_put nodeL_len (y := ({ n with mt := spoilM (pu % 4) n.mt } : FNode)) hk
  have hsl : (a.nodes.set k { n with mt := spoilM (pu % 4) n.mt }).length = a.nodes.length := List.length_set
  have hsf := nodeL_flen (a.nodes.set k { n with mt := spoilM (pu % 4) n.mt })
  rw [hsl] at hsf
  simp only [treeL] at cm cN cP cL cS
  rw [hsl] at cN cP cL cS
  have hkp : (0 : Int) ≤ (k : Int) := by omega
  have hkm : k * 12 + 12 ≤ a.nodes.length * 12 := by omega
  refine LCalls.of (fun d => d == 28 || d == 31 || d == 41) Try.func5 rfl (by decide) Try.ntmps5 Try.results5 (by simp) ?_
  intro w0 S0 vs hgl hwf0 hsz hvs;clear hsz hvs hwf0 hgl
  refine Yg0 ?_
  refine Yr1 @intsL.eq_1 ?_;intro K hK
  refine Yc1 (cm) @intsL.eq_1 ?_
  refine hK _ ?_;clear hK K;try refine Wh0 ?_
  refine Yg1 (fa5 @hw1 @f1 @f2 @f3 @hnn) ?_
  refine LW_slim (fun st => st.env 2 = intL part ∧ st.env 7 = .ptr 7 0 ∧ st.box 7 = some (treeL a) ∧ st.env 8 = intL k ∧ st.mode = fun d => d == 28 || d == 31 || d == 41) ⟨Yq0,Yq0,(Yq1 @treeL.eq_1),(Yq1 (fa4 @hw1 @f1 @f2 @f3)),rfl⟩ ?_
  rintro st ⟨e2,e7,b7',e8,hmd⟩
  simp only [treeL] at b7'
  (repeat refine LW_seq ?_)
  refine LW_join (fun st => st.env 2 = intL part ∧ st.env 7 = .ptr 7 0 ∧ st.box 7 = some (treeL a) ∧ st.env 8 = intL k ∧ st.env 9 = .ptr 9 0 ∧ st.box 9 = some [.sl a.ents.length (a.ents.flatMap tentL) .no,.bsl 28 a.nodes.length 42] ∧ st.arr 28 = some (a.nodes.flatMap nodeL) ∧ st.mode = fun d => d == 28 || d == 31 || d == 41) ?_ ?_
  · have hn0 : ¬ a.nodes.length = 0 := by omega
    have hone : (a.nodes.flatMap nodeL).all oneL = true := by
      rw [List.all_eq_true]
      intro x hx
      obtain ⟨m,_,hx⟩ := List.mem_flatMap.1 hx
      simp only [nodeL,List.mem_cons,List.not_mem_nil,or_false] at hx
      rcases hx with rfl | rfl | rfl | rfl | rfl | rfl | rfl | rfl | rfl | rfl | rfl | rfl <;> rfl
    have hst : (a.nodes.flatMap nodeL).map strip1 = a.nodes.flatMap nodeL := strip1_enc (fun x => rfl) a.nodes
    (repeat (first | refine LW_seq ?_ | (refine LW_skip ?_;simp only [LSj,reduceIte,zze]) | refine LW_block ?_));refine LW_mix2 [] [] (fun d => d == 28 || d == 31 || d == 41) [(0,[7]),(1,[7]),(3,[7]),(4,[7]),(2,[7]),(5,[7]),(7,[7])] [0,1,3,4] [[2,5,6,7,8],[2,5,7,6,8],[2,7,5,6,8],[7,2,5,6,8]] rfl (by kernel_rfl) (by kernel_rfl) (by kernel_rfl) (by first | exact rfl | exact hmd | simp only [LZ,zo,zc,reduceCtorEq,reduceIte,zz1,zz2,zz3,zz4,zz5,zz6,zz7,zz8,zz9,zza,zzb,zzc,zzd,zze,zzf,e7,b7',hmd,hn0,hfn,hone,hst]) ?_;intro K hK;simp only [LZ,zo,zc,reduceCtorEq,reduceIte,zz1,zz2,zz3,zz4,zz5,zz6,zz7,zz8,zz9,zza,zzb,zzc,zzd,zze,zzf,e7,b7',hmd,hn0,hfn,hone,hst]
    refine ⟨?_,?_,?_,?_⟩ <;> (refine ⟨by (repeat' apply And.intro) <;> first | omega | (unfold maxLen;omega) | (intro _;omega) | decide,?_⟩) <;> (refine hK _ ?_;clear hK K;try refine Wh0 ?_) <;> exact ⟨(Yq1 @e2),(Yq1 @e7),(Yq1 (fa2 @b7' @treeL.eq_1)),(Yq1 @e8),Yq0,Yq0,Yq0,(Yq1 @hmd)⟩
  clear e2 e7 b7' e8 hmd st
  rintro st ⟨e2,e7,b7',e8,e9,b9,a28,hmd⟩
  simp only [nodeL,attrsL,acesL,piecesL,rowL,List.cons_append,List.nil_append] at hdn
  refine Yg1 (fa11 @e2 @e8 @e9 @b9 @a28 @hkp @hk @hdn @hp1 @f4 @hmd) ?_
  generalize hc0 : pu % 4 = c at *
  refine LW_joinB (fun st => ∃ tk,st.env 7 = .ptr 7 0 ∧ st.box 7 = some (treeL a) ∧ st.env 8 = intL k ∧ st.env 9 = .ptr 9 0 ∧ st.box 9 = some [.sl a.ents.length (a.ents.flatMap tentL) .no,.bsl 28 a.nodes.length 42] ∧ st.arr 28 = some (a.nodes.flatMap nodeL) ∧ st.env 10 = .ptr 10 0 ∧ st.box 10 = some [intL n.kind,intL (spoilM c n.mt).mode,intL (spoilM c n.mt).uid,intL (spoilM c n.mt).gid,intL (spoilM c n.mt).time,.sl (spoilM c n.mt).attrs.length ((spoilM c n.mt).attrs.flatMap attrL) tk,acesL (spoilM c n.mt).acl,intL n.size,piecesL n.dat,strL n.target,intL n.major,intL n.minor] ∧ st.env 11 = strL (TreeSpec.wantB c) ∧ st.mode = fun d => d == 28 || d == 31 || d == 41) ?_ ?_
  · rcases (show c = 0 ∨ c = 1 ∨ c = 2 ∨ c = 3 by omega) with h | h | h | h
    · subst h
      have hx := xor_int b1 b2
      refine Yt0 ?_
      refine Yg1 (fa2 @hx @hmd) ?_
      exact ⟨.no,(Yq1 @e7),(Yq1 (fa2 @b7' @treeL.eq_1)),(Yq1 @e8),(Yq1 @e9),(Yq1 @b9),(Yq1 @a28),Yq0,(Yq1 (fa2 @acesL.eq_1 @piecesL.eq_1)),Yq0,(Yq1 @hmd)⟩
    · subst h
      have hx : IntKind.i64.wrap (n.mt.gid + 1) = n.mt.gid + 1 := w64 (by omega)
      refine Yf0 ?_
      refine Yg0 ?_
      refine Yt0 ?_
      refine Yg1 (fa2 @hx @hmd) ?_
      exact ⟨.no,(Yq1 @e7),(Yq1 (fa2 @b7' @treeL.eq_1)),(Yq1 @e8),(Yq1 @e9),(Yq1 @b9),(Yq1 @a28),Yq0,(Yq1 (fa2 @acesL.eq_1 @piecesL.eq_1)),Yq0,(Yq1 @hmd)⟩
    · subst h
      have hx : IntKind.i64.wrap (n.mt.time + 1) = n.mt.time + 1 := w64 (by omega)
      refine Yf0 ?_
      refine Yg0 ?_
      refine Yf0 ?_
      refine Yg0 ?_
      refine Yt0 ?_
      refine Yg1 (fa2 @hx @hmd) ?_
      exact ⟨.no,(Yq1 @e7),(Yq1 (fa2 @b7' @treeL.eq_1)),(Yq1 @e8),(Yq1 @e9),(Yq1 @b9),(Yq1 @a28),Yq0,(Yq1 (fa2 @acesL.eq_1 @piecesL.eq_1)),Yq0,(Yq1 @hmd)⟩
    · subst h
      have hal : (n.mt.attrs.flatMap attrL).length = n.mt.attrs.length * 2 := len_flat attrL 2 (fun x => rfl) n.mt.attrs
      have hao : (n.mt.attrs.flatMap attrL).all oneL = true := by
        rw [List.all_eq_true]
        intro x hx
        obtain ⟨m,_,hx⟩ := List.mem_flatMap.1 hx
        simp only [attrL,List.mem_cons,List.not_mem_nil,or_false] at hx
        rcases hx with rfl | rfl <;> rfl
      have hst2 : (n.mt.attrs.flatMap attrL).map strip1 = n.mt.attrs.flatMap attrL := strip1_enc (fun x => rfl) n.mt.attrs
      have hsp : (spoilM 3 n.mt).attrs = n.mt.attrs ++ [⟨[122,122],[]⟩] := rfl
      refine Yf0 ?_
      refine Yg0 ?_
      refine Yf0 ?_
      refine Yg0 ?_
      refine Yf0 ?_
      refine Yr1 (fa4 @hmd @hal @hao @hst2) ?_;intro K hK
      refine ⟨by (repeat' apply And.intro) <;> first | omega | (unfold maxLen;omega) | rfl,?_⟩
      refine ⟨by (repeat' apply And.intro) <;> first | omega | (unfold maxLen;omega) | rfl,?_⟩
      refine hK _ ?_;clear hK K;try refine Wh0 ?_
      refine ⟨.row 41,(Yq1 @e7),(Yq1 (fa2 @b7' @treeL.eq_1)),(Yq1 @e8),(Yq1 @e9),(Yq1 @b9),(Yq1 @a28),Yq0,?_,Yq0,(Yq1 @hmd)⟩
      rw [hsp,List.length_append,List.length_singleton,List.flatMap_append]
      exact (Yq1 (fa2 @acesL.eq_1 @piecesL.eq_1))
  clear e2 e7 b7' e8 e9 b9 a28 hmd st
  rintro st ⟨tk,e7,b7',e8,e9,b9,a28,e10,b10,e11,hmd⟩
  simp only [treeL] at b7'
  simp only [acesL,piecesL,rowL] at b10
  simp only [nodeL,attrsL,acesL,piecesL,rowL,List.cons_append,List.nil_append] at hput
  refine Yr1 (fa10 @e8 @e9 @b9 @a28 @e10 @b10 @hkp @hk @hfn @hmd) ?_;intro K hK
  refine ⟨by omega,?_⟩
  refine hK _ ?_;clear hK K;try refine Wh0 ?_
  refine LW_slim (fun st => st.env 7 = .ptr 7 0 ∧ st.box 7 = some (treeL a) ∧ st.env 8 = intL k ∧ st.env 9 = .ptr 9 0 ∧ st.box 9 = some [.sl a.ents.length (a.ents.flatMap tentL) .no,.bsl 28 a.nodes.length 42] ∧ st.arr 28 = some ((a.nodes.set k { n with mt := spoilM c n.mt }).flatMap nodeL) ∧ st.env 11 = strL (TreeSpec.wantB c) ∧ st.mode = fun d => d == 28 || d == 31 || d == 41) ⟨(Yq1 @e7),(Yq1 (fa2 @b7' @treeL.eq_1)),(Yq1 @e8),(Yq1 @e9),(Yq1 @b9),?_,(Yq1 @e11),(Yq1 @hmd)⟩ ?_
  · simp only [LZ,zo,zc,reduceCtorEq,reduceIte,zz1,zz2,zz3,zz4,zz5,zz6,zz7,zz8,zz9,zza,zzb,zzc,zzd,zze,zzf]
    rw [List.append_assoc]
    exact hput
  clear e7 b7' e8 e9 b9 a28 e10 b10 e11 hmd st
  rintro st ⟨e7,b7',e8,e9,b9,a28,e11,hmd⟩
  refine LW_pub [(28,(a.nodes.set k { n with mt := spoilM c n.mt }).flatMap nodeL)] ⟨a28,trivial⟩ ?_
  refine LW_slim (fun st => st.env 7 = .ptr 7 0 ∧ st.box 7 = some (treeL a) ∧ st.env 8 = intL k ∧ st.env 9 = .ptr 9 0 ∧ st.box 9 = some [.sl a.ents.length (a.ents.flatMap tentL) .no,.sl a.nodes.length ((a.nodes.set k { n with mt := spoilM c n.mt }).flatMap nodeL) .no] ∧ st.env 11 = strL (TreeSpec.wantB c)) ⟨(Yq1 @e7),(Yq1 (fa2 @b7' @treeL.eq_1)),(Yq1 @e8),(Yq1 @e9),(Yq1 (fa2 @b9 @hsf)),(Yq1 @e11)⟩ ?_
  clear e7 b7' e8 e9 b9 a28 e11 hmd st
  rintro st ⟨e7,b7',e8,e9,b9,e11⟩
  simp only [treeL] at b7'
  refine Yr1 (fa4 @e7 @b7' @e9 @b9) ?_;intro K hK
  refine Yc1 (cN) (fa4 @e7 @b7' @e9 @b9) ?_
  refine hK _ ?_;clear hK K;try refine Wh0 ?_
  have hlp : IntKind.i64.wrap ((a.ents.length : Int) - 1) = (a.ents.length : Int) - 1 := w64 (by omega)
  refine Yg1 (fa3 @e7 @b7' @hlp) ?_
  refine LW_joinB (fun st => st.env 7 = .ptr 7 0 ∧ st.box 7 = some (treeL a) ∧ st.env 9 = .ptr 9 0 ∧ st.box 9 = some [.sl a.ents.length (a.ents.flatMap tentL) .no,.sl a.nodes.length ((a.nodes.set k { n with mt := spoilM c n.mt }).flatMap nodeL) .no] ∧ st.env 11 = strL (TreeSpec.wantB c) ∧ st.env 12 = strL (pathK k (a.ents.drop 1)) ∧ st.env 13 = strL (TreeSpec.wantB c) ∧ st.env 14 = strL (pathK k (a.ents.drop 1))) ?_ ?_
  · refine LW_loop (fun m st => m < a.ents.length ∧ st.env 7 = .ptr 7 0 ∧ st.box 7 = some (treeL a) ∧ st.env 8 = intL k ∧ st.env 9 = .ptr 9 0 ∧ st.box 9 = some [.sl a.ents.length (a.ents.flatMap tentL) .no,.sl a.nodes.length ((a.nodes.set k { n with mt := spoilM c n.mt }).flatMap nodeL) .no] ∧ st.env 11 = strL (TreeSpec.wantB c) ∧ st.env 12 = strL (pathK k (a.ents.drop 1)) ∧ st.env 13 = strL (TreeSpec.wantB c) ∧ st.env 14 = strL (pathK k (a.ents.drop (m + 1))) ∧ st.env 15 = intL m) (a.ents.length - 1) ⟨by omega,(Yq1 @e7),(Yq1 (fa2 @b7' @treeL.eq_1)),(Yq1 @e8),(Yq1 @e9),(Yq1 @b9),(Yq1 @e11),Yq0,Yq0,?_,?_⟩ ?_
    · rw [show a.ents.length - 1 + 1 = a.ents.length by omega,List.drop_length];exact Yq0
    · rw [show (((a.ents.length - 1 : Nat)) : Int) = (a.ents.length : Int) - 1 by omega];exact (Yq1 (fa3 @e7 @b7' @hlp))
    clear e7 b7' e8 e9 b9 e11 st
    rintro m st ⟨hml,e7,b7',e8,e9,b9,e11,e12,e13,e14,e15⟩
    simp only [treeL] at b7'
    cases m with
    | zero =>
      refine Yg1 @e15 ?_
      refine Yf0 ?_
      refine LW_exit ?_;simp only [thenL,jumpsL,inBlockL,twoL,reduceIte,Nat.reduceEqDiff]
      exact ⟨(Yq1 @e7),(Yq1 (fa2 @b7' @treeL.eq_1)),(Yq1 @e9),(Yq1 @b9),(Yq1 @e11),(Yq1 @e12),(Yq1 @e13),(Yq1 @e14)⟩
    | succ m =>
      have hm0 : (0 : Int) < ((m + 1 : Nat) : Int) := by omega
      obtain ⟨e,he⟩ := get_of_lt hml
      have hd := drop_tent he
      have hps := pathK_step (k := k) he
      have hmp : (0 : Int) ≤ ((m + 1 : Nat) : Int) := by omega
      have hml2 : m + 1 < a.ents.length := hml
      have hwp := w64p (n := m + 1) (by omega) (by omega)
      rw [Nat.add_sub_cancel] at hwp
      refine Yg1 (fa2 @e15 @hm0) ?_
      refine Yt0 ?_
      refine LW_skip ?_
      simp only [LSj,reduceIte,zze]
      refine LW_seq ?_
      refine LW_block ?_
      refine LW_joinB (fun st => st.env 7 = .ptr 7 0 ∧ st.box 7 = some (treeL a) ∧ st.env 8 = intL k ∧ st.env 9 = .ptr 9 0 ∧ st.box 9 = some [.sl a.ents.length (a.ents.flatMap tentL) .no,.sl a.nodes.length ((a.nodes.set k { n with mt := spoilM c n.mt }).flatMap nodeL) .no] ∧ st.env 11 = strL (TreeSpec.wantB c) ∧ st.env 12 = strL (pathK k (a.ents.drop 1)) ∧ st.env 13 = strL (TreeSpec.wantB c) ∧ st.env 14 = strL (pathK k (a.ents.drop (m + 1))) ∧ st.env 15 = intL ((m + 1 : Nat) : Int)) ?_ ?_
      · by_cases hnk : e.node = (k : Int)
        · rw [if_pos hnk] at hps
          have hnk2 : (e.node = (k : Int)) = True := eq_true hnk
          refine Yg1 (fa8 @e7 @b7' @e8 @e15 @hmp @hml2 @hd @hnk2) ?_
          refine Yt0 ?_
          refine Yg1 (fa6 @e7 @b7' @e15 @hmp @hml2 @hd) ?_
          exact ⟨(Yq1 @e7),(Yq1 (fa2 @b7' @treeL.eq_1)),(Yq1 @e8),(Yq1 @e9),(Yq1 @b9),(Yq1 @e11),(Yq1 @e12),(Yq1 @e13),(Yq1 @hps),(Yq1 @e15)⟩
        · rw [if_neg hnk] at hps
          refine Yg1 (fa8 @e7 @b7' @e8 @e15 @hmp @hml2 @hd @hnk) ?_
          refine Yf0 ?_
          exact ⟨(Yq1 @e7),(Yq1 (fa2 @b7' @treeL.eq_1)),(Yq1 @e8),(Yq1 @e9),(Yq1 @b9),(Yq1 @e11),(Yq1 @e12),(Yq1 @e13),(Yq1 (fa2 @e14 @hps)),(Yq1 @e15)⟩
      · clear e7 b7' e8 e9 b9 e11 e12 e13 e14 e15 st
        rintro st ⟨e7,b7',e8,e9,b9,e11,e12,e13,e14,e15⟩
        refine Yg1 (fa2 @e15 @hwp) ?_
        exact ⟨m,by omega,by omega,(Yq1 @e7),(Yq1 @b7'),(Yq1 @e8),(Yq1 @e9),(Yq1 @b9),(Yq1 @e11),(Yq1 @e12),(Yq1 @e13),(Yq1 @e14),Yq0⟩
  clear e7 b7' e8 e9 b9 e11 st
  rintro st ⟨e7,b7',e9,b9,e11,e12,e13,e14⟩
  simp only [treeL] at b7'
  refine Yr1 (fa8 @e7 @b7' @e9 @b9 @e11 @e12 @e13 @e14) ?_;intro K hK
  refine Yc1 (t0) (fa8 @e7 @b7' @e9 @b9 @e11 @e12 @e13 @e14) ?_
  refine Yc1 (cP) (fa8 @e7 @b7' @e9 @b9 @e11 @e12 @e13 @e14) ?_
  refine Yc1 (cL) (fa8 @e7 @b7' @e9 @b9 @e11 @e12 @e13 @e14) ?_
  refine Yc1 (cS) (fa8 @e7 @b7' @e9 @b9 @e11 @e12 @e13 @e14) ?_
  refine hK _ ?_;clear hK K;try refine Wh0 ?_
  refine Ye0 ?_;try (with_reducible exact trivial)
end Go.Proofs.Ytpficpldemickaa
