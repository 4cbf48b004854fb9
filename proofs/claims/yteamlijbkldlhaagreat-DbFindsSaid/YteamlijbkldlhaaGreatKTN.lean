import Derived.Test.YteamlijbkldlhaaGreatKTE
import Derived.Test.YteamlijbkldlhaaGreatTNorm
import Derived.Test.YteamlijbkldlhaaGreatL25
set_option linter.unusedSimpArgs false
set_option linter.unusedVariables false
namespace Go.Proofs.YteamlijbkldlhaaGreat
open Nat renaming reduceAdd → zz1,reduceMul → zz2,reduceSub → zz3,reduceLT → zz4,reduceLeDiff → zz5,reduceEqDiff → zz6,reduceBEq → zzf
open Int renaming reduceAdd → zz7,reduceSub → zz8,reduceMul → zz9,reduceLT → zza,reduceLE → zzb,reduceEq → zzc,reduceNeg → zzd,reduceToNat → zze
open Op renaming operands → zo
open Call renaming operands → zc
open Go.RowKit Go.Proofs AclSpec MetaSpec NodeSpec PathSpec TreeSpec

theorem badE_norm {t : FTree} {i : Nat} {e : TEnt} (he : t.ents[i]? = some e) (hb : badE t e = true) : normTree t = (⟨[],[]⟩,1) := by
  unfold normTree
  rw [if_pos]
  exact List.any_eq_true.2 ⟨e,List.mem_of_getElem? he,hb⟩
theorem posT_less {l : List TEnt} {p : List UInt8} {k : Nat} {y : TEnt} (h : l[k]? = some y) (hy : lessB p y.path = true) : posT (l.take (k + 1)) p = posT (l.take k) p := by
  obtain ⟨hi,rfl⟩ := List.getElem?_eq_some_iff.1 h
  unfold posT
  rw [List.take_succ_eq_append_getElem hi,List.reverse_append,List.reverse_singleton,List.singleton_append,List.dropWhile_cons,if_pos hy]
theorem posT_stop {l : List TEnt} {p : List UInt8} {k : Nat} {y : TEnt} (h : l[k]? = some y) (hy : lessB p y.path = false) : posT (l.take (k + 1)) p = k + 1 := by
  obtain ⟨hi,rfl⟩ := List.getElem?_eq_some_iff.1 h
  unfold posT
  rw [List.take_succ_eq_append_getElem hi,List.reverse_append,List.reverse_singleton,List.singleton_append,List.dropWhile_cons,if_neg (by rw [hy];exact Bool.false_ne_true)]
  simp;omega
theorem sortT_succ {l : List TEnt} {i : Nat} {e : TEnt} (h : l[i]? = some e) : sortT (l.take (i + 1)) = insT (sortT (l.take i)) e := by
  obtain ⟨hi,rfl⟩ := List.getElem?_eq_some_iff.1 h
  unfold sortT
  rw [List.take_succ_eq_append_getElem hi,List.foldl_append];rfl
theorem sort_len : ∀ (l a : List TEnt),(l.foldl insT a).length = a.length + l.length
  | [],a => by simp
  | e :: l,a => by rw [List.foldl_cons,sort_len l,insT_len,List.length_cons];omega
theorem sortT_len (l : List TEnt) : (sortT l).length = l.length := by unfold sortT;rw [sort_len];simp
theorem sort_mem : ∀ (l a : List TEnt) (x : TEnt),x ∈ l.foldl insT a → x ∈ a ∨ x ∈ l
  | [],a,x,h => .inl h
  | e :: l,a,x,h => by
    rcases sort_mem l _ x h with h | h
    · rcases List.mem_cons.1 ((insT_perm a e).mem_iff.1 h) with h | h
      · exact .inr (by rw [h];simp)
      · exact .inl h
    · exact .inr (by simp [h])
theorem sortT_mem {l : List TEnt} {x : TEnt} (h : x ∈ sortT l) : x ∈ l := by
  rcases sort_mem l [] x h with h | h
  · cases h
  · exact h
theorem tentL_flen (l : List TEnt) : (l.flatMap tentL).length = l.length * 2 := len_flat tentL 2 tentL_len l
theorem take_tent (l : List TEnt) (k : Nat) : (l.flatMap tentL).take (k * 2) = (l.take k).flatMap tentL := take_flat' tentL 2 tentL_len l k
theorem drop_tents (l : List TEnt) (k : Nat) : (l.flatMap tentL).drop (k * 2) = (l.drop k).flatMap tentL := drop_flat' tentL 2 tentL_len l k
theorem tentL_one (l : List TEnt) : (l.flatMap tentL).all oneL = true := by
  rw [List.all_eq_true]
  intro x hx
  obtain ⟨e,_,hx⟩ := List.mem_flatMap.1 hx
  simp only [tentL,List.mem_cons,List.not_mem_nil,or_false] at hx
  rcases hx with rfl | rfl <;> rfl
theorem tentL_strip (l : List TEnt) : (l.flatMap tentL).map strip1 = l.flatMap tentL := strip1_enc (fun x => rfl) l
theorem renT_succ (ns : List FNode) {l : List TEnt} {i : Nat} {e : TEnt} (h : l[i]? = some e) : renT ns (l.take (i + 1)) = renStep ns (renT ns (l.take i)) e := by
  obtain ⟨hi,rfl⟩ := List.getElem?_eq_some_iff.1 h
  unfold renT
  rw [List.take_succ_eq_append_getElem hi,List.foldl_append];rfl
theorem renT_inv {ns : List FNode} {l : List TEnt} (h : ∀ e ∈ l,0 ≤ e.node ∧ e.node < ns.length) : RenInv ns l (renT ns l) := by
  have := ren_inv (ren_start ns) h
  rw [List.nil_append] at this;exact this
theorem ren_len (ns : List FNode) : ∀ (l : List TEnt) (r : TreeSpec.Ren),(l.foldl (renStep ns) r).ents.length = r.ents.length + l.length ∧ (l.foldl (renStep ns) r).nodes.length ≤ r.nodes.length + l.length
  | [],r => ⟨rfl,Nat.le_refl _⟩
  | e :: l,r => by
    obtain ⟨i1,i2⟩ := ren_len ns l (renStep ns r e)
    rw [List.foldl_cons,List.length_cons]
    have h : (renStep ns r e).ents.length = r.ents.length + 1 ∧ (renStep ns r e).nodes.length ≤ r.nodes.length + 1 := by
      unfold renStep
      split <;> simp
    omega
theorem renT_len (ns : List FNode) (l : List TEnt) : (renT ns l).ents.length = l.length ∧ (renT ns l).nodes.length ≤ l.length := by
  have := ren_len ns l ⟨List.replicate ns.length 0,[],[]⟩
  simp only [List.length_nil,Nat.zero_add] at this
  exact this
theorem renT_small {t : FTree} {l : List TEnt} (h : SmallT t) (hr : ∀ e ∈ l,0 ≤ e.node ∧ e.node < t.nodes.length) (hp : ∀ e ∈ l,e.path.length < 1000000) (hl : l.length ≤ 1000000) : SmallT ⟨(renT t.nodes l).ents,(renT t.nodes l).nodes⟩ := by
  obtain ⟨h1,h2⟩ := renT_len t.nodes l
  refine ⟨by show (renT t.nodes l).ents.length ≤ _;omega,by show (renT t.nodes l).nodes.length ≤ _;omega,fun e he => ?_,fun n hn => ?_⟩
  · have := ren_ents (ren_start t.nodes) hr
    rw [List.nil_append] at this
    have he2 : e ∈ (renT t.nodes l).ents := he
    unfold renT at he2
    rw [this] at he2
    obtain ⟨x,hx,rfl⟩ := List.mem_map.1 he2
    exact hp x hx
  · refine ren_nodes l _ (fun n => small n ∧ n.target.length ≤ maxLen) (fun m hm => by cases hm) (fun e he => ?_) n hn
    obtain ⟨h0,h1⟩ := hr e he
    refine h.node _ ?_
    unfold nodeG
    rw [List.getElem?_eq_getElem (by omega)]
    exact List.getElem_mem _
theorem seenAt_get {l : List Int} {j : Nat} {v : Int} (h : l[j]? = some v) : seenAt l (j : Int) = v := by unfold seenAt;rw [Int.toNat_natCast,h];rfl
theorem set_seen {u : List Int} {k : Nat} {x y : Int} (h : u[k]? = some x) : (usesL u).take k ++ intL y :: (usesL u).drop (k + 1) = usesL (u.set k y) := by
  have hk := (List.getElem?_eq_some_iff.1 h).1
  unfold usesL
  rw [List.map_set,List.set_eq_take_append_cons_drop,if_pos (by rw [List.length_map];exact hk)]
theorem nodeL_flen (l : List FNode) : (l.flatMap nodeL).length = l.length * 12 := len_flat nodeL 12 nodeL_len l
theorem renStep_ents {ns : List FNode} {pre : List TEnt} {r : TreeSpec.Ren} {e : TEnt} (h : RenInv ns pre r) (h0 : 0 ≤ e.node) (h1 : e.node < ns.length) : (renStep ns r e).ents = r.ents ++ [⟨e.path,seenAt (renStep ns r e).seen e.node - 1⟩] := by
  unfold renStep
  by_cases hz : seenAt r.seen e.node = 0
  · have hlt : e.node.toNat < r.seen.length := by rw [h.len];omega
    rw [if_pos hz]
    simp only [seenAt_set hlt,if_true]
    congr 3
    omega
  · rw [if_neg hz]

set_option maxRecDepth 100000 in
set_option maxHeartbeats 4000000 in
theorem rnormTree_L (t : FTree) (h : SmallT t) : LCalls Tryz.prog 36 [.agg (treeL t)] (.tup [.agg (treeL (normTree t).1),intL (normTree t).2]) := by
  have hl := h.ents
  have hln := h.nodes
  refine LCalls.of (fun d => d == 60) Tryz.func36 rfl (by decide) Tryz.ntmps36 Tryz.results36 (by simp) ?_
  intro w0 S0 vs hgl hwf0 hsz hvs;clear hsz hvs hwf0 hgl
  generalize hR : normTree t = R
  refine Yg1 @treeL.eq_1 ?_
  refine LW_plain 4 (n := 0) (cs := []) (t := .nil) Yq0 ?_
  refine LW_joinB (fun st => (∀ e ∈ t.ents,badE t e = false) ∧ st.env 1 = .ptr 1 0 ∧ st.box 1 = some (treeL t) ∧ st.env 2 = .ptr 2 0 ∧ st.box 2 = some [.sl 0 [] .nil,.sl 0 [] .nil] ∧ st.env 4 = .sl (sortT t.ents).length ((sortT t.ents).flatMap tentL) .no ∧ st.mode = fun d => d == 60) ?_ ?_
  · refine LW_loop (fun n st => ∃ i : Nat,n + i = t.ents.length ∧ (∀ e ∈ t.ents.take i,badE t e = false) ∧ st.env 1 = .ptr 1 0 ∧ st.box 1 = some (treeL t) ∧ st.env 2 = .ptr 2 0 ∧ st.box 2 = some [.sl 0 [] .nil,.sl 0 [] .nil] ∧ st.env 4 = .sl (sortT (t.ents.take i)).length ((sortT (t.ents.take i)).flatMap tentL) .no ∧ st.env 5 = intL i ∧ st.mode = fun d => d == 60) t.ents.length ⟨0,by omega,fun e he => absurd he (by simp),Yq0,(Yq1 @treeL.eq_1),Yq0,Yq0,Yq0,Yq0,Yq0⟩ ?_
    rintro n st ⟨i,hn,hbad,e1,b1,e2,b2,e4,e5,hmd⟩
    simp only [treeL] at b1
    by_cases hlt : i < t.ents.length
    rotate_left
    · rw [List.take_of_length_le (by omega)] at e4 hbad
      refine Yg1 (fa4 @e1 @b1 @e5 @hlt) ?_
      refine Yf1 @hlt ?_
      refine LW_exit ?_;simp only [thenL,jumpsL,inBlockL,twoL,reduceIte,Nat.reduceEqDiff]
      exact ⟨hbad,(Yq1 @e1),(Yq1 (fa2 @b1 @treeL.eq_1)),(Yq1 @e2),(Yq1 @b2),(Yq1 @e4),(Yq1 @hmd)⟩
    obtain ⟨e,he⟩ := get_of_lt hlt
    have hem := List.mem_of_getElem? he
    have hd := drop_tent he
    have hw := w64s (n := i) (by omega)
    have hpl := h.path e hem
    have cm := rpmay_L e.path hpl
    have hss := sortT_succ he
    have hsl := sortT_len (t.ents.take i)
    rw [List.length_take] at hsl
    have hlp : ∀ x ∈ sortT (t.ents.take i),x.path.length < 1000000 := fun x hx => h.path x (List.mem_of_mem_take (sortT_mem hx))
    generalize sortT (t.ents.take i) = l at *
    refine Yg1 (fa4 @e1 @b1 @e5 @hlt) ?_
    refine Yt1 @hlt ?_
    refine Yg1 (fa5 @e1 @b1 @e5 @hlt @hd) ?_
    refine LW_slim (fun st => st.env 1 = .ptr 1 0 ∧ st.box 1 = some (treeL t) ∧ st.env 2 = .ptr 2 0 ∧ st.box 2 = some [.sl 0 [] .nil,.sl 0 [] .nil] ∧ st.env 4 = .sl l.length (l.flatMap tentL) .no ∧ st.env 5 = intL i ∧ st.env 6 = .ptr 6 0 ∧ st.box 6 = some (tentL e) ∧ st.mode = fun d => d == 60) ⟨(Yq1 @e1),(Yq1 (fa2 @b1 @treeL.eq_1)),(Yq1 @e2),(Yq1 @b2),(Yq1 @e4),(Yq1 @e5),Yq0,(Yq1 @tentL.eq_1),(Yq1 @hmd)⟩ ?_
    clear e1 b1 e2 b2 e4 e5 hmd st
    rintro st ⟨e1,b1,e2,b2,e4,e5,e6,b6,hmd⟩
    simp only [treeL] at b1
    simp only [tentL] at b6
    have hb := badE_norm he
    unfold badE at hb
    cases h1 : mayB e.path
    · rw [h1] at cm hb
      rw [hb rfl] at hR
      refine Yr1 (fa4 @e1 @b1 @e6 @b6) ?_;intro K hK
      refine Yc1 (cm) (fa4 @e1 @b1 @e6 @b6) ?_
      refine hK _ ?_;clear hK K;try refine Wh0 ?_
      refine Yt0 ?_
      refine Yg1 (fa2 @e2 @b2) ?_
      refine Ye1 (fa2 @e2 @b2) ?_;try (with_reducible exact trivial)
      rw [← hR];exact ⟨rfl,rfl⟩
    rw [h1] at cm hb
    by_cases n0 : e.node < 0
    · rw [hb (by simp [n0])] at hR
      refine Yr1 (fa5 @e1 @b1 @e6 @b6 @n0) ?_;intro K hK
      refine Yc1 (cm) (fa5 @e1 @b1 @e6 @b6 @n0) ?_
      refine hK _ ?_;clear hK K;try refine Wh0 ?_
      refine Yt0 ?_
      refine Yg1 (fa2 @e2 @b2) ?_
      refine Ye1 (fa2 @e2 @b2) ?_;try (with_reducible exact trivial)
      rw [← hR];exact ⟨rfl,rfl⟩
    by_cases n1 : (t.nodes.length : Int) ≤ e.node
    · rw [hb (by simp [n1])] at hR
      refine Yr1 (fa6 @e1 @b1 @e6 @b6 @n0 @n1) ?_;intro K hK
      refine Yc1 (cm) (fa6 @e1 @b1 @e6 @b6 @n0 @n1) ?_
      refine hK _ ?_;clear hK K;try refine Wh0 ?_
      refine Yt0 ?_
      refine Yg1 (fa2 @e2 @b2) ?_
      refine Ye1 (fa2 @e2 @b2) ?_;try (with_reducible exact trivial)
      rw [← hR];exact ⟨rfl,rfl⟩
    clear hb
    have hgood : badE t e = false := by unfold badE;rw [h1,decide_eq_false n0,decide_eq_false n1];rfl
    refine Yr1 (fa6 @e1 @b1 @e6 @b6 @n0 @n1) ?_;intro K hK
    refine Yc1 (cm) (fa6 @e1 @b1 @e6 @b6 @n0 @n1) ?_
    refine hK _ ?_;clear hK K;try refine Wh0 ?_
    refine Yf0 ?_
    have hll : l.length ≤ 1000000 := by omega
    refine Yg1 @e4 ?_
    refine LW_joinB (fun st => st.env 1 = .ptr 1 0 ∧ st.box 1 = some (treeL t) ∧ st.env 2 = .ptr 2 0 ∧ st.box 2 = some [.sl 0 [] .nil,.sl 0 [] .nil] ∧ st.env 4 = .sl l.length (l.flatMap tentL) .no ∧ st.env 5 = intL i ∧ st.env 6 = .ptr 6 0 ∧ st.box 6 = some (tentL e) ∧ st.env 7 = intL (posT l e.path) ∧ st.mode = fun d => d == 60) ?_ ?_
    · refine LW_loop (fun n st => n ≤ l.length ∧ posT (l.take n) e.path = posT l e.path ∧ st.env 1 = .ptr 1 0 ∧ st.box 1 = some (treeL t) ∧ st.env 2 = .ptr 2 0 ∧ st.box 2 = some [.sl 0 [] .nil,.sl 0 [] .nil] ∧ st.env 4 = .sl l.length (l.flatMap tentL) .no ∧ st.env 5 = intL i ∧ st.env 6 = .ptr 6 0 ∧ st.box 6 = some (tentL e) ∧ st.env 7 = intL n ∧ st.mode = fun d => d == 60) l.length ⟨by omega,by rw [List.take_length],(Yq1 @e1),(Yq1 (fa2 @b1 @treeL.eq_1)),(Yq1 @e2),(Yq1 @b2),(Yq1 @e4),(Yq1 @e5),(Yq1 @e6),(Yq1 (fa2 @b6 @tentL.eq_1)),Yq0,(Yq1 @hmd)⟩ ?_
      clear e1 b1 e2 b2 e4 e5 e6 b6 hmd st
      rintro k st ⟨hk,hpk,e1,b1,e2,b2,e4,e5,e6,b6,e7,hmd⟩
      simp only [treeL] at b1
      simp only [tentL] at b6
      cases k with
      | zero =>
        have hk0 : ¬ (0 : Int) < ((0 : Nat) : Int) := by omega
        refine Yn1 (fa6 @e4 @e6 @b6 @e7 @hk0 @hmd) ?_;intro K hK
        refine hK _ ?_;clear hK K;try refine Wh0 ?_
        refine Yf0 ?_
        refine LW_exit ?_;simp only [thenL,jumpsL,inBlockL,twoL,reduceIte,Nat.reduceEqDiff]
        exact ⟨(Yq1 @e1),(Yq1 (fa2 @b1 @treeL.eq_1)),(Yq1 @e2),(Yq1 @b2),(Yq1 @e4),(Yq1 @e5),(Yq1 @e6),(Yq1 (fa2 @b6 @tentL.eq_1)),by rw [← hpk];exact (Yq1 @e7),(Yq1 @hmd)⟩
      | succ k =>
        have hk0 : (0 : Int) < ((k + 1 : Nat) : Int) := by omega
        obtain ⟨y,hy⟩ := get_of_lt (l := l) (i := k) (by omega)
        have hdy := drop_tent hy
        have hwp := w64p (n := k + 1) (by omega) (by omega)
        rw [Nat.add_sub_cancel] at hwp
        have hkp : (0 : Int) ≤ (k : Int) := by omega
        have hkl : k < l.length := by omega
        have cl := rpless_L e.path y.path hpl (hlp y (List.mem_of_getElem? hy))
        cases hc : lessB e.path y.path
        · rw [hc] at cl
          refine Yn1 (fa10 @e4 @e6 @b6 @e7 @hk0 @hwp @hkp @hkl @hdy @hmd) ?_;intro K hK
          refine Yc1 (cl) (fa10 @e4 @e6 @b6 @e7 @hk0 @hwp @hkp @hkl @hdy @hmd) ?_
          refine hK _ ?_;clear hK K;try refine Wh0 ?_
          refine Yf0 ?_
          refine LW_exit ?_;simp only [thenL,jumpsL,inBlockL,twoL,reduceIte,Nat.reduceEqDiff]
          rw [posT_stop hy hc] at hpk
          exact ⟨(Yq1 @e1),(Yq1 (fa2 @b1 @treeL.eq_1)),(Yq1 @e2),(Yq1 @b2),(Yq1 @e4),(Yq1 @e5),(Yq1 @e6),(Yq1 (fa2 @b6 @tentL.eq_1)),by rw [← hpk];exact (Yq1 @e7),(Yq1 @hmd)⟩
        · rw [hc] at cl
          refine Yn1 (fa10 @e4 @e6 @b6 @e7 @hk0 @hwp @hkp @hkl @hdy @hmd) ?_;intro K hK
          refine Yc1 (cl) (fa10 @e4 @e6 @b6 @e7 @hk0 @hwp @hkp @hkl @hdy @hmd) ?_
          refine hK _ ?_;clear hK K;try refine Wh0 ?_
          refine Yt0 ?_
          refine Yg1 (fa2 @e7 @hwp) ?_
          rw [posT_less hy hc] at hpk
          exact ⟨k,by omega,by omega,hpk,(Yq1 @e1),(Yq1 (fa2 @b1 @treeL.eq_1)),(Yq1 @e2),(Yq1 @b2),(Yq1 @e4),(Yq1 @e5),(Yq1 @e6),(Yq1 (fa2 @b6 @tentL.eq_1)),Yq0,(Yq1 @hmd)⟩
    clear e1 b1 e2 b2 e4 e5 e6 b6 hmd st
    rintro st ⟨e1,b1,e2,b2,e4,e5,e6,b6,e7,hmd⟩
    have hple := posT_le l e.path
    have hins : insT l e = l.take (posT l e.path) ++ e :: l.drop (posT l e.path) := rfl
    generalize posT l e.path = k at *
    simp only [tentL] at b6
    have hkp : (0 : Int) ≤ (k : Int) := by omega
    have hfl := tentL_flen l
    have htk := take_tent l k
    have hdk := drop_tents l k
    have hft := tentL_flen (l.take k)
    have hon := tentL_one (l.take k)
    have hst := tentL_strip (l.take k)
    have htl : (l.take k).length = k := by rw [List.length_take];omega
    rw [htl] at hft
    (repeat refine LW_seq ?_)
    refine LW_join (fun st => st.env 1 = .ptr 1 0 ∧ st.box 1 = some (treeL t) ∧ st.env 2 = .ptr 2 0 ∧ st.box 2 = some [.sl 0 [] .nil,.sl 0 [] .nil] ∧ st.env 4 = .sl l.length (l.flatMap tentL) .no ∧ st.env 5 = intL i ∧ st.env 6 = .ptr 6 0 ∧ st.box 6 = some (tentL e) ∧ st.env 7 = intL k ∧ st.env 8 = .sl k ((l.take k).flatMap tentL) (.row 60) ∧ st.row 60 = some (74,k) ∧ st.mode = fun d => d == 60) ?_ ?_
    · refine Yr1 (fa10 @e4 @e7 @hkp @hple @htk @hft @hon @hst @hmd @Nat.sub_zero) ?_;intro K hK
      refine ⟨by (repeat' apply And.intro) <;> first | omega | (unfold maxLen;omega) | rfl,?_⟩
      refine hK _ ?_;clear hK K;try refine Wh0 ?_
      exact ⟨(Yq1 @e1),(Yq1 (fa2 @b1 @treeL.eq_1)),(Yq1 @e2),(Yq1 @b2),(Yq1 @e4),(Yq1 @e5),(Yq1 @e6),(Yq1 (fa2 @b6 @tentL.eq_1)),(Yq1 @e7),Yq0,Yq0,(Yq1 @hmd)⟩
    clear e1 b1 e2 b2 e4 e5 e6 b6 e7 hmd st
    rintro st ⟨e1,b1,e2,b2,e4,e5,e6,b6,e7,e8,r60,hmd⟩
    simp only [treeL] at b1
    simp only [tentL] at b6
    have hfd := tentL_flen (l.drop k)
    have hod := tentL_one (l.drop k)
    have hsd := tentL_strip (l.drop k)
    have hdl : (l.drop k).length = l.length - k := List.length_drop
    rw [hdl] at hfd
    (repeat refine LW_seq ?_)
    have htd : (l.flatMap tentL).take (l.length * 2) = l.flatMap tentL := by rw [← hfl,List.take_length]
    have hil := insT_len l e
    refine LW_joinB (fun st => st.env 1 = .ptr 1 0 ∧ st.box 1 = some (treeL t) ∧ st.env 2 = .ptr 2 0 ∧ st.box 2 = some [.sl 0 [] .nil,.sl 0 [] .nil] ∧ st.env 4 = .sl (insT l e).length ((insT l e).flatMap tentL) (.row 60) ∧ st.env 5 = intL i ∧ st.mode = fun d => d == 60) ?_ ?_
    · (repeat (first | refine LW_seq ?_ | (refine LW_skip ?_;simp only [LSj,reduceIte,zze]) | refine LW_block ?_));refine LW_mix2 [] [] (fun d => d == 60) [(0,[60]),(1,[6]),(4,[]),(5,[]),(6,[]),(2,[60,6]),(3,[6]),(7,[6])] [0,1,4,5,6] [[2,3,7,8]] rfl (by kernel_rfl) (by kernel_rfl) (by kernel_rfl) (by first | exact rfl | exact hmd | simp only [LZ,zo,zc,reduceCtorEq,reduceIte,zz1,zz2,zz3,zz4,zz5,zz6,zz7,zz8,zz9,zza,zzb,zzc,zzd,zze,zzf,e4,e6,b6,e7,e8,r60,hmd,hkp,hple,htd,hdk,hfd,hod,hsd,hft,Nat.le_refl]) ?_;intro K hK;simp only [LZ,zo,zc,reduceCtorEq,reduceIte,zz1,zz2,zz3,zz4,zz5,zz6,zz7,zz8,zz9,zza,zzb,zzc,zzd,zze,zzf,e4,e6,b6,e7,e8,r60,hmd,hkp,hple,htd,hdk,hfd,hod,hsd,hft,Nat.le_refl]
      refine ⟨by first | rfl | kernel_rfl,by (repeat' apply And.intro) <;> first | omega | (unfold maxLen;omega),?_⟩
      refine ⟨by (repeat' apply And.intro) <;> first | omega | (unfold maxLen;omega),?_⟩
      refine hK _ ?_;clear hK K;try refine Wh0 ?_
      refine ⟨(Yq1 @e1),(Yq1 (fa2 @b1 @treeL.eq_1)),(Yq1 @e2),(Yq1 @b2),?_,(Yq1 @e5),(Yq1 @hmd)⟩
      have hk2 : k + 1 + (l.length - k) = l.length + 1 := by omega
      simp only [LZ,zo,zc,reduceCtorEq,reduceIte,zz1,zz2,zz3,zz4,zz5,zz6,zz7,zz8,zz9,zza,zzb,zzc,zzd,zze,zzf,hk2]
      rw [hil,hins,List.flatMap_append,List.flatMap_cons]
      simp only [tentL,List.append_assoc,List.cons_append,List.nil_append]
      rfl
    clear e1 b1 e2 b2 e4 e5 e6 b6 e7 e8 r60 hmd st
    rintro st ⟨e1,b1,e2,b2,e4,e5,hmd⟩
    simp only [treeL] at b1
    refine LW_plain 4 e4 ?_
    refine Yg1 (fa2 @e5 @hw) ?_
    refine ⟨n - 1,by omega,i + 1,by omega,?_,(Yq1 @e1),(Yq1 (fa2 @b1 @treeL.eq_1)),(Yq1 @e2),(Yq1 @b2),?_,Yq0,(Yq1 @hmd)⟩
    · intro x hx
      rw [List.take_succ_eq_append_getElem hlt] at hx
      rcases List.mem_append.1 hx with hx | hx
      · exact hbad x hx
      · rw [List.mem_singleton] at hx
        rw [hx,(List.getElem?_eq_some_iff.1 he).2];exact hgood
    · rw [hss];exact Yq0
  · rintro st ⟨hbad,e1,b1,e2,b2,e4,hmd⟩
    have hno : t.ents.any (badE t) = false := by
      rw [List.any_eq_false]
      intro e he
      rw [hbad e he];exact Bool.false_ne_true
    unfold normTree at hR
    rw [hno] at hR
    simp only [Bool.false_eq_true,if_false] at hR
    have hrg : ∀ e ∈ sortT t.ents,0 ≤ e.node ∧ e.node < t.nodes.length := by
      intro e he
      have := hbad e (sortT_mem he)
      unfold badE at this
      simp only [Bool.or_eq_false_iff,decide_eq_false_iff_not] at this
      omega
    have hpth : ∀ e ∈ sortT t.ents,e.path.length < 1000000 := fun e he => h.path e (sortT_mem he)
    have hsl := sortT_len t.ents
    simp only [treeL] at b1
    generalize hsort : sortT t.ents = l at *
    have hll : l.length ≤ 1000000 := by omega
    (repeat refine LW_seq ?_)
    refine LW_join (fun st => st.env 1 = .ptr 1 0 ∧ st.box 1 = some (treeL t) ∧ st.env 2 = .ptr 2 0 ∧ st.box 2 = some [.sl 0 [] .nil,.sl 0 [] .nil] ∧ st.env 4 = .sl l.length (l.flatMap tentL) .no ∧ st.env 9 = .ptr 9 0 ∧ st.box 9 = some [.sl 0 [] .nil,.sl 0 [] .nil] ∧ st.mode = fun d => d == 60) ?_ ?_
    · refine Yg0 ?_
      exact ⟨(Yq1 @e1),(Yq1 (fa2 @b1 @treeL.eq_1)),(Yq1 @e2),(Yq1 @b2),(Yq1 @e4),Yq0,Yq0,(Yq1 @hmd)⟩
    clear e1 b1 e2 b2 e4 hmd st
    rintro st ⟨e1,b1,e2,b2,e4,e9,b9,hmd⟩
    simp only [treeL] at b1
    (repeat refine LW_seq ?_)
    refine LW_join (fun st => st.env 1 = .ptr 1 0 ∧ st.box 1 = some (treeL t) ∧ st.env 2 = .ptr 2 0 ∧ st.box 2 = some [.sl 0 [] .nil,.sl 0 [] .nil] ∧ st.env 4 = .sl l.length (l.flatMap tentL) .no ∧ st.env 9 = .ptr 9 0 ∧ st.box 9 = some [.sl 0 [] .nil,.sl 0 [] .nil] ∧ (0 < t.nodes.length → st.env 10 = .bsl 76 t.nodes.length 3 ∧ st.arr 76 = some (usesL (List.replicate t.nodes.length 0))) ∧ st.mode = fun d => d == 60) ?_ ?_
    · have hmx : t.nodes.length ≤ maxLen := by unfold maxLen;omega
      by_cases hz : t.nodes.length = 0
      · refine Yr1 (fa3 @e1 @b1 @hz) ?_;intro K hK
        refine ⟨by (repeat' apply And.intro) <;> first | omega | exact hmx | rfl,?_⟩
        refine hK _ ?_;clear hK K;try refine Wh0 ?_
        exact ⟨(Yq1 @e1),(Yq1 (fa3 @b1 @treeL.eq_1 @hz)),(Yq1 @e2),(Yq1 @b2),(Yq1 @e4),(Yq1 @e9),(Yq1 @b9),fun hh => absurd hh (by omega),(Yq1 @hmd)⟩
      · refine Yr1 (fa4 @e1 @b1 @hz @rep_uses) ?_;intro K hK
        refine ⟨by (repeat' apply And.intro) <;> first | omega | exact hmx | rfl,?_⟩
        refine hK _ ?_;clear hK K;try refine Wh0 ?_
        exact ⟨(Yq1 @e1),(Yq1 (fa3 @b1 @treeL.eq_1 @hz)),(Yq1 @e2),(Yq1 @b2),(Yq1 @e4),(Yq1 @e9),(Yq1 @b9),fun _ => ⟨Yq0,Yq0⟩,(Yq1 @hmd)⟩
    clear e1 b1 e2 b2 e4 e9 b9 hmd st
    rintro st ⟨e1,b1,e2,b2,e4,e9,b9,e10,hmd⟩
    refine LW_nilBox (cs := [.sl 0 [] .nil,.sl 0 [] .nil]) 9 0 1000 74 (Yq1 @b9) rfl ?_
    refine LW_nilBox (cs := [.sl 0 [] (.row 1000),.sl 0 [] .nil]) 9 1 1001 46 (Yq1 @b9) rfl ?_
    refine LW_slim (fun st => st.env 1 = .ptr 1 0 ∧ st.box 1 = some (treeL t) ∧ st.env 2 = .ptr 2 0 ∧ st.box 2 = some [.sl 0 [] .nil,.sl 0 [] .nil] ∧ st.env 4 = .sl l.length (l.flatMap tentL) .no ∧ st.env 9 = .ptr 9 0 ∧ st.box 9 = some [.sl 0 [] (.row 1000),.sl 0 [] (.row 1001)] ∧ st.row 1000 = some (74,0) ∧ st.row 1001 = some (46,0) ∧ (0 < t.nodes.length → st.env 10 = .bsl 76 t.nodes.length 3 ∧ st.arr 76 = some (usesL (List.replicate t.nodes.length 0))) ∧ st.mode = fun d => d == 60) ⟨(Yq1 @e1),(Yq1 (fa2 @b1 @treeL.eq_1)),(Yq1 @e2),(Yq1 @b2),(Yq1 @e4),(Yq1 @e9),(Yq1 @b9),Yq0,Yq0,fun hh => ⟨(Yq1 (e10 hh).1),(Yq1 (e10 hh).2)⟩,(Yq1 @hmd)⟩ ?_
    clear e1 b1 e2 b2 e4 e9 b9 e10 hmd st
    rintro st ⟨e1,b1,e2,b2,e4,e9,b9,r0,r1,e10,hmd⟩
    refine Yg0 ?_
    refine LW_joinB (fun st => st.env 2 = .ptr 2 0 ∧ st.box 2 = some [.sl 0 [] .nil,.sl 0 [] .nil] ∧ st.env 9 = .ptr 9 0 ∧ st.box 9 = some [.sl (renT t.nodes l).ents.length ((renT t.nodes l).ents.flatMap tentL) (.row 1000),.sl (renT t.nodes l).nodes.length ((renT t.nodes l).nodes.flatMap nodeL) (.row 1001)] ∧ st.mode = fun d => d == 60) ?_ ?_
    · refine LW_loop (fun n st => ∃ i : Nat,n + i = l.length ∧ st.env 1 = .ptr 1 0 ∧ st.box 1 = some (treeL t) ∧ st.env 2 = .ptr 2 0 ∧ st.box 2 = some [.sl 0 [] .nil,.sl 0 [] .nil] ∧ st.env 4 = .sl l.length (l.flatMap tentL) .no ∧ st.env 9 = .ptr 9 0 ∧ st.box 9 = some [.sl (renT t.nodes (l.take i)).ents.length ((renT t.nodes (l.take i)).ents.flatMap tentL) (.row 1000),.sl (renT t.nodes (l.take i)).nodes.length ((renT t.nodes (l.take i)).nodes.flatMap nodeL) (.row 1001)] ∧ st.row 1000 = some (74,(renT t.nodes (l.take i)).ents.length) ∧ st.row 1001 = some (46,(renT t.nodes (l.take i)).nodes.length) ∧ (0 < t.nodes.length → st.env 10 = .bsl 76 t.nodes.length 3 ∧ st.arr 76 = some (usesL (renT t.nodes (l.take i)).seen)) ∧ st.env 11 = intL i ∧ st.mode = fun d => d == 60) l.length ⟨0,by omega,(Yq1 @e1),(Yq1 @b1),(Yq1 @e2),(Yq1 @b2),(Yq1 @e4),(Yq1 @e9),(Yq1 @b9),(Yq1 @r0),(Yq1 @r1),fun hh => ⟨(Yq1 (e10 hh).1),(Yq1 (e10 hh).2)⟩,Yq0,(Yq1 @hmd)⟩ ?_
      clear e1 b1 e2 b2 e4 e9 b9 r0 r1 e10 hmd st
      rintro n st ⟨i,hn,e1,b1,e2,b2,e4,e9,b9,r0,r1,e10,e11,hmd⟩
      simp only [treeL] at b1
      by_cases hlt : i < l.length
      rotate_left
      · rw [List.take_of_length_le (by omega)] at b9
        refine Yg1 (fa3 @e4 @e11 @hlt) ?_
        refine Yf1 @hlt ?_
        refine LW_exit ?_;simp only [thenL,jumpsL,inBlockL,twoL,reduceIte,Nat.reduceEqDiff]
        exact ⟨(Yq1 @e2),(Yq1 @b2),(Yq1 @e9),(Yq1 @b9),(Yq1 @hmd)⟩
      obtain ⟨e,he⟩ := get_of_lt hlt
      have hem := List.mem_of_getElem? he
      have hd := drop_tent he
      have hw := w64s (n := i) (by omega)
      have hrs := renT_succ t.nodes he
      have hinv := renT_inv (ns := t.nodes) (l := l.take i) fun x hx => hrg x (List.mem_of_mem_take hx)
      have hrl := renT_len t.nodes (l.take i)
      rw [List.length_take] at hrl
      obtain ⟨hr0,hr1⟩ := hrg e hem
      generalize hr : renT t.nodes (l.take i) = r at *
      obtain ⟨j,hj⟩ : ∃ j : Nat,e.node = j := ⟨e.node.toNat,by omega⟩
      have hjl : j < t.nodes.length := by omega
      have hjp : (0 : Int) ≤ (j : Int) := by omega
      have hsl2 := hinv.len
      obtain ⟨v,hv⟩ := get_of_lt (l := r.seen) (i := j) (by omega)
      have hdv := drop_uses hv
      obtain ⟨f10,a76⟩ := e10 (by omega)
      have hip : (0 : Int) ≤ (i : Int) := by omega
      refine Yg1 (fa3 @e4 @e11 @hlt) ?_
      refine Yt1 @hlt ?_
      refine Yr1 (fa6 @e4 @e11 @hlt @hd @hip @hj) ?_;intro K hK
      refine hK _ ?_;clear hK K;try refine Wh0 ?_
      refine LW_slim (fun st => st.env 1 = .ptr 1 0 ∧ st.box 1 = some (treeL t) ∧ st.env 2 = .ptr 2 0 ∧ st.box 2 = some [.sl 0 [] .nil,.sl 0 [] .nil] ∧ st.env 4 = .sl l.length (l.flatMap tentL) .no ∧ st.env 9 = .ptr 9 0 ∧ st.box 9 = some [.sl r.ents.length (r.ents.flatMap tentL) (.row 1000),.sl r.nodes.length (r.nodes.flatMap nodeL) (.row 1001)] ∧ st.row 1000 = some (74,r.ents.length) ∧ st.row 1001 = some (46,r.nodes.length) ∧ st.env 10 = .bsl 76 t.nodes.length 3 ∧ st.arr 76 = some (usesL r.seen) ∧ st.env 11 = intL i ∧ st.env 12 = intL j ∧ st.mode = fun d => d == 60) ⟨(Yq1 @e1),(Yq1 (fa2 @b1 @treeL.eq_1)),(Yq1 @e2),(Yq1 @b2),(Yq1 @e4),(Yq1 @e9),(Yq1 @b9),(Yq1 @r0),(Yq1 @r1),(Yq1 @f10),(Yq1 @a76),(Yq1 @e11),Yq0,(Yq1 @hmd)⟩ ?_
      clear e1 b1 e2 b2 e4 e9 b9 r0 r1 e10 f10 a76 e11 hmd st
      rintro st ⟨e1,b1,e2,b2,e4,e9,b9,r0,r1,f10,a76,e11,e12,hmd⟩
      simp only [treeL] at b1
      have hse := seenAt_get hv
      have hre := renStep_ents hinv hr0 hr1
      have hri := ren_step hinv hr0 hr1
      have hrn : (renStep t.nodes r e).nodes.length ≤ r.nodes.length + 1 := by unfold renStep;split <;> simp
      (repeat refine LW_seq ?_)
      refine LW_joinC (fun st => st.env 1 = .ptr 1 0 ∧ st.box 1 = some (treeL t) ∧ st.env 2 = .ptr 2 0 ∧ st.box 2 = some [.sl 0 [] .nil,.sl 0 [] .nil] ∧ st.env 4 = .sl l.length (l.flatMap tentL) .no ∧ st.env 9 = .ptr 9 0 ∧ st.box 9 = some [.sl r.ents.length (r.ents.flatMap tentL) (.row 1000),.sl (renStep t.nodes r e).nodes.length ((renStep t.nodes r e).nodes.flatMap nodeL) (.row 1001)] ∧ st.row 1000 = some (74,r.ents.length) ∧ st.row 1001 = some (46,(renStep t.nodes r e).nodes.length) ∧ st.env 10 = .bsl 76 t.nodes.length 3 ∧ st.arr 76 = some (usesL (renStep t.nodes r e).seen) ∧ st.env 11 = intL i ∧ st.env 12 = intL j ∧ st.mode = fun d => d == 60) ?_ ?_
      · by_cases hz : v = 0
        · obtain ⟨nd,hnd⟩ := get_of_lt hjl
          have hdn := drop_node hnd
          simp only [nodeL,attrsL,acesL,piecesL,rowL,List.cons_append,List.nil_append] at hdn
          have hfn := nodeL_flen r.nodes
          have hst : renStep t.nodes r e = ⟨r.seen.set j (r.nodes.length + 1),r.ents ++ [⟨e.path,r.nodes.length⟩],r.nodes ++ [nd]⟩ := by
            unfold renStep
            rw [if_pos (by rw [hj,hse,hz]),hj,Int.toNat_natCast]
            have : nodeG t.nodes j = nd := by unfold nodeG;rw [Int.toNat_natCast,hnd];rfl
            rw [this]
          rw [hst]
          have hss := set_seen (y := (r.nodes.length : Int) + 1) hv
          simp only [intL] at hss
          rw [← List.singleton_append,← List.append_assoc] at hss
          have hju : j + 1 ≤ r.seen.length := by omega
          refine Yg1 (fa7 @f10 @a76 @e12 @hjp @hjl @hdv @hz) ?_
          refine Yt0 ?_
          (repeat refine LW_seq ?_)
          refine LW_join (fun st => st.env 1 = .ptr 1 0 ∧ st.box 1 = some (treeL t) ∧ st.env 2 = .ptr 2 0 ∧ st.box 2 = some [.sl 0 [] .nil,.sl 0 [] .nil] ∧ st.env 4 = .sl l.length (l.flatMap tentL) .no ∧ st.env 9 = .ptr 9 0 ∧ st.box 9 = some [.sl r.ents.length (r.ents.flatMap tentL) (.row 1000),.sl (r.nodes.length + 1) ((r.nodes ++ [nd]).flatMap nodeL) (.row 1001)] ∧ st.row 1000 = some (74,r.ents.length) ∧ st.row 1001 = some (46,r.nodes.length + 1) ∧ st.env 10 = .bsl 76 t.nodes.length 3 ∧ st.arr 76 = some (usesL r.seen) ∧ st.env 11 = intL i ∧ st.env 12 = intL j ∧ st.mode = fun d => d == 60) ?_ ?_
          · (repeat (first | refine LW_seq ?_ | (refine LW_skip ?_;simp only [LSj,reduceIte,zze]) | refine LW_block ?_));refine LW_mix2 [] [] (fun d => d == 60) [(0,[9,1000,1001]),(1,[9,1000,1001]),(2,[1]),(3,[1]),(4,[]),(5,[]),(6,[]),(7,[9,1000,1001,1]),(8,[9,1000,1]),(9,[9,1000]),(10,[1])] [0,1,2,3,4,5,6] [[7,8,9,10]] rfl (by kernel_rfl) (by kernel_rfl) (by kernel_rfl) (by first | exact rfl | exact hmd | simp only [LZ,zo,zc,reduceCtorEq,reduceIte,zz1,zz2,zz3,zz4,zz5,zz6,zz7,zz8,zz9,zza,zzb,zzc,zzd,zze,zzf,e1,b1,e9,b9,e12,r1,hmd,hjp,hjl,hdn,hfn]) ?_;intro K hK;simp only [LZ,zo,zc,reduceCtorEq,reduceIte,zz1,zz2,zz3,zz4,zz5,zz6,zz7,zz8,zz9,zza,zzb,zzc,zzd,zze,zzf,e1,b1,e9,b9,e12,r1,hmd,hjp,hjl,hdn,hfn]
            refine ⟨by (repeat' apply And.intro) <;> first | omega | (unfold maxLen;omega),?_⟩
            refine hK _ ?_;clear hK K;try refine Wh0 ?_
            refine ⟨(Yq1 @e1),(Yq1 (fa2 @b1 @treeL.eq_1)),(Yq1 @e2),(Yq1 @b2),(Yq1 @e4),(Yq1 @e9),?_,(Yq1 @r0),Yq0,(Yq1 @f10),(Yq1 @a76),(Yq1 @e11),(Yq1 @e12),(Yq1 @hmd)⟩
            simp only [LZ,zo,zc,reduceCtorEq,reduceIte,zz1,zz2,zz3,zz4,zz5,zz6,zz7,zz8,zz9,zza,zzb,zzc,zzd,zze,zzf]
            rw [List.flatMap_append]
            simp only [nodeL,attrsL,acesL,piecesL,rowL,List.flatMap_cons,List.flatMap_nil,List.append_nil]
            rfl
          clear e1 b1 e2 b2 e4 e9 b9 r0 r1 f10 a76 e11 e12 hmd st
          rintro st ⟨e1,b1,e2,b2,e4,e9,b9,r0,r1,f10,a76,e11,e12,hmd⟩
          simp only [treeL] at b1
          have hwn : IntKind.i64.wrap ((r.nodes.length : Int) + 1) = (r.nodes.length : Int) + 1 := w64 (by omega)
          refine Yr1 (fa10 @e9 @b9 @e12 @f10 @a76 @hjp @hjl @hju @hdv @uses_len) ?_;intro K hK
          refine hK _ ?_;clear hK K;try refine Wh0 ?_
          refine ⟨(Yq1 @e1),(Yq1 (fa2 @b1 @treeL.eq_1)),(Yq1 @e2),(Yq1 @b2),(Yq1 @e4),(Yq1 @e9),?_,(Yq1 @r0),?_,(Yq1 @f10),?_,(Yq1 @e11),(Yq1 @e12),(Yq1 @hmd)⟩
          · rw [List.length_append,List.length_singleton];exact (Yq1 @b9)
          · rw [List.length_append,List.length_singleton];exact (Yq1 @r1)
          · have hc : (((r.nodes.length + 1 : Nat) : Int)) = (r.nodes.length : Int) + 1 := by omega
            simp only [LZ,zo,zc,reduceCtorEq,reduceIte,zz1,zz2,zz3,zz4,zz5,zz6,zz7,zz8,zz9,zza,zzb,zzc,zzd,zze,zzf,hc]
            rw [hss]
        · have hst : renStep t.nodes r e = ⟨r.seen,r.ents ++ [⟨e.path,seenAt r.seen e.node - 1⟩],r.nodes⟩ := by
            unfold renStep
            rw [if_neg (by rw [hj,hse];exact hz)]
          rw [hst]
          refine Yg1 (fa7 @f10 @a76 @e12 @hjp @hjl @hdv @hz) ?_
          refine Yf0 ?_
          exact ⟨(Yq1 @e1),(Yq1 (fa2 @b1 @treeL.eq_1)),(Yq1 @e2),(Yq1 @b2),(Yq1 @e4),(Yq1 @e9),(Yq1 @b9),(Yq1 @r0),(Yq1 @r1),(Yq1 @f10),(Yq1 @a76),(Yq1 @e11),(Yq1 @e12),(Yq1 @hmd)⟩
      clear e1 b1 e2 b2 e4 e9 b9 r0 r1 f10 a76 e11 e12 hmd hse hv hdv st
      rintro st ⟨e1,b1,e2,b2,e4,e9,b9,r0,r1,f10,a76,e11,e12,hmd⟩
      simp only [treeL] at b1
      obtain ⟨kk,hk1,hk2⟩ := hri.old e (by simp)
      have hkk := (List.getElem?_eq_some_iff.1 hk2).1
      have hsl3 := hri.len
      generalize hs : renStep t.nodes r e = s at *
      obtain ⟨v,hv⟩ := get_of_lt (l := s.seen) (i := j) (by omega)
      have hdv := drop_uses hv
      have hse := seenAt_get hv
      rw [hj,hse] at hk1
      rw [hj,hse] at hre
      have hwv : IntKind.i64.wrap (v - 1) = v - 1 := w64 (by omega)
      have hfe := tentL_flen r.ents
      (repeat refine LW_seq ?_)
      refine LW_joinB (fun st => st.env 1 = .ptr 1 0 ∧ st.box 1 = some (treeL t) ∧ st.env 2 = .ptr 2 0 ∧ st.box 2 = some [.sl 0 [] .nil,.sl 0 [] .nil] ∧ st.env 4 = .sl l.length (l.flatMap tentL) .no ∧ st.env 9 = .ptr 9 0 ∧ st.box 9 = some [.sl s.ents.length (s.ents.flatMap tentL) (.row 1000),.sl s.nodes.length (s.nodes.flatMap nodeL) (.row 1001)] ∧ st.row 1000 = some (74,s.ents.length) ∧ st.row 1001 = some (46,s.nodes.length) ∧ st.env 10 = .bsl 76 t.nodes.length 3 ∧ st.arr 76 = some (usesL s.seen) ∧ st.env 11 = intL i ∧ st.mode = fun d => d == 60) ?_ ?_
      · (repeat (first | refine LW_seq ?_ | (refine LW_skip ?_;simp only [LSj,reduceIte,zze]) | refine LW_block ?_));refine LW_mix2 [] [] (fun d => d == 60) [(0,[9,1000,1001]),(1,[9,1000,1001]),(2,[]),(3,[]),(4,[]),(5,[]),(6,[]),(7,[76]),(8,[]),(9,[76]),(10,[76]),(11,[]),(12,[]),(13,[9,1000,1001,76]),(14,[9,1001,76]),(15,[9,1001]),(16,[76])] [0,1,2,3,4,5,6,7,8,9,10,11,12] [[13,14,15,16]] rfl (by kernel_rfl) (by kernel_rfl) (by kernel_rfl) (by first | exact rfl | exact hmd | simp only [LZ,zo,zc,reduceCtorEq,reduceIte,zz1,zz2,zz3,zz4,zz5,zz6,zz7,zz8,zz9,zza,zzb,zzc,zzd,zze,zzf,e4,e9,b9,e11,e12,r0,f10,a76,hmd,hip,hlt,hd,hjp,hjl,hdv,hwv,hfe]) ?_;intro K hK;simp only [LZ,zo,zc,reduceCtorEq,reduceIte,zz1,zz2,zz3,zz4,zz5,zz6,zz7,zz8,zz9,zza,zzb,zzc,zzd,zze,zzf,e4,e9,b9,e11,e12,r0,f10,a76,hmd,hip,hlt,hd,hjp,hjl,hdv,hwv,hfe]
        refine ⟨by (repeat' apply And.intro) <;> first | omega | (unfold maxLen;omega),?_⟩
        refine hK _ ?_;clear hK K;try refine Wh0 ?_
        refine ⟨(Yq1 @e1),(Yq1 (fa2 @b1 @treeL.eq_1)),(Yq1 @e2),(Yq1 @b2),(Yq1 @e4),(Yq1 @e9),?_,?_,(Yq1 @r1),(Yq1 @f10),(Yq1 @a76),(Yq1 @e11),(Yq1 @hmd)⟩
        · rw [hre,List.length_append,List.length_singleton,List.flatMap_append]
          simp only [LZ,zo,zc,reduceCtorEq,reduceIte,zz1,zz2,zz3,zz4,zz5,zz6,zz7,zz8,zz9,zza,zzb,zzc,zzd,zze,zzf]
          simp only [tentL,List.flatMap_cons,List.flatMap_nil,List.append_nil]
          rfl
        · rw [hre,List.length_append,List.length_singleton]
          exact Yq0
      clear e1 b1 e2 b2 e4 e9 b9 r0 r1 f10 a76 e11 e12 hmd st
      rintro st ⟨e1,b1,e2,b2,e4,e9,b9,r0,r1,f10,a76,e11,hmd⟩
      refine Yg1 (fa2 @e11 @hw) ?_
      refine ⟨n - 1,by omega,i + 1,by omega,(Yq1 @e1),(Yq1 @b1),(Yq1 @e2),(Yq1 @b2),(Yq1 @e4),(Yq1 @e9),?_,?_,?_,fun _ => ⟨(Yq1 @f10),?_⟩,Yq0,(Yq1 @hmd)⟩
      · rw [hrs];exact (Yq1 @b9)
      · rw [hrs];exact (Yq1 @r0)
      · rw [hrs];exact (Yq1 @r1)
      · rw [hrs];exact (Yq1 @a76)
    rintro st ⟨e2,b2,e9,b9,hmd⟩
    have hrl := renT_len t.nodes l
    have hsu := renT_small (h := h) hrg hpth hll
    generalize renT t.nodes l = r at *
    have cM := rmayTree_L ⟨r.ents,r.nodes⟩ hsu
    rw [may_eq] at cM
    simp only [treeL] at cM
    cases hM : mayT ⟨r.ents,r.nodes⟩
    · rw [hM] at cM hR
      refine Yr1 (fa2 @e9 @b9) ?_;intro K hK
      refine Yc1 (cM) (fa2 @e9 @b9) ?_
      refine hK _ ?_;clear hK K;try refine Wh0 ?_
      refine Yt0 ?_
      refine Yg1 (fa2 @e2 @b2) ?_
      refine Ye1 (fa2 @e2 @b2) ?_;try (with_reducible exact trivial)
      rw [← hR];exact ⟨rfl,rfl⟩
    · rw [hM] at cM hR
      refine Yr1 (fa2 @e9 @b9) ?_;intro K hK
      refine Yc1 (cM) (fa2 @e9 @b9) ?_
      refine hK _ ?_;clear hK K;try refine Wh0 ?_
      refine Yf0 ?_
      refine Yg1 (fa4 @e2 @b2 @e9 @b9) ?_
      refine Ye1 (fa4 @e2 @b2 @e9 @b9) ?_;try (with_reducible exact trivial)
      rw [← hR];exact ⟨rfl,rfl⟩
end Go.Proofs.YteamlijbkldlhaaGreat
