import Derived.Test.YtbffcndmcaeamaaDoorKTD
import Derived.Test.YtbffcndmcaeamaaDoorKTB
import Derived.Test.YtbffcndmcaeamaaDoorZCount
import Derived.MapKept
section
set_option linter.unusedSimpArgs false
set_option linter.unusedVariables false
namespace Go.Proofs.YtbffcndmcaeamaaDoor
open Nat renaming reduceAdd → zz1,reduceMul → zz2,reduceSub → zz3,reduceLT → zz4,reduceLeDiff → zz5,reduceEqDiff → zz6,reduceBEq → zzf
open Int renaming reduceAdd → zz7,reduceSub → zz8,reduceMul → zz9,reduceLT → zza,reduceLE → zzb,reduceEq → zzc,reduceNeg → zzd,reduceToNat → zze
open Op renaming operands → zo
open Call renaming operands → zc
open Go.RowKit Go.Proofs AclSpec MetaSpec NodeSpec PathSpec TreeSpec PlanSpec

theorem psplit_L (l : List UInt8) (hl : l.length < 1000000) : LCalls Tryd.prog 55 [strL l,strL [47]] (strsL (names l)) := by
  refine ⟨enters_of Tryd.func55 (by kernel_rfl) rfl,fun w S vs hgl hwf hs hr => ?_⟩
  obtain ⟨a,b,rfl⟩ := args2 hs
  have h0 := (hr 0 _ a rfl rfl).inv_lit
  have h1 := (hr 1 _ b rfl rfl).inv_lit
  subst h0;subst h1
  obtain ⟨m,hm⟩ := maxOk hgl
  refine (Tryd.strings_Split ⟨l.toArray⟩ ⟨#[47]⟩ m w (by show l.toArray.size < _;simp;omega) hm (by decide)).mono ?_
  rintro e w' ⟨rfl,rfl⟩
  rw [lib_split,lib_count]
  have hnew := fun o => (Go.MapKept.heap_alloc w o).1
  refine ⟨_,fun b i => S b i ∨ b = w.heap.size,rfl,?_,G.alloc _ _,fun b i hb => ⟨fun h => h.elim id (fun h => by omega),.inl⟩,fun b i h => ?_⟩
  · refine .sl _ _ _ _ _ _ (Nat.le_refl _) (fun i => ((names l).map fun n => Value.string ⟨n.toArray⟩)[i]?.getD undef) (fun i hi => ⟨.inr rfl,?_⟩) fun i c hc => ?_
    · rw [strE_flen] at hi
      rw [Nat.zero_add,World.cell?]
      simp only [hnew]
      rw [List.map_map]
      simp [hi]
    · have hi := (List.getElem?_eq_some_iff.1 hc).1
      rw [strE_flen] at hi
      have hd := drop_str (List.getElem?_eq_getElem hi)
      have hc2 : ((names l).flatMap strE)[i]? = some (strL (names l)[i]) := by
        have := congrArg List.head? hd
        rw [List.head?_drop] at this
        exact this
      rw [hc2] at hc
      cases hc
      rw [List.getElem?_map,List.getElem?_eq_getElem hi]
      exact .lit _ _
  · rcases h with h | h
    · have := hwf b i h
      simp;omega
    · simp [h]
set_option maxRecDepth 100000 in
theorem pparts_L (l : List UInt8) (hl : l.length < 1000000) : LCalls Tryd.prog 44 [strL l] (strsL (partsB l)) := by
  have cm := pmay_L l hl
  have cc := psplit_L l hl
  simp only [strsL,rowL] at cc
  refine LCalls.of (fun _ => false) Tryd.func44 rfl (by decide) Tryd.ntmps44 Tryd.results44 (by simp) ?_
  intro w0 S0 vs hgl hwf0 hsz hvs;clear hsz hvs hwf0 hgl
  generalize hR : partsB l = R
  unfold partsB at hR
  refine Yg0 ?_
  by_cases h0 : l = []
  · subst h0
    refine Yg0 ?_
    refine Yt0 ?_
    refine Yg0 ?_
    refine Ye1 @strsL.eq_1 ?_;try (with_reducible exact trivial)
    rw [← hR];exact ⟨rfl,rfl⟩
  have h1 : l.isEmpty = false := by cases l <;> simp_all
  rw [h1,Bool.false_or] at hR
  cases hm : mayB l
  · rw [hm] at cm hR
    refine Yr1 @h0 ?_;intro K hK
    refine Yc0 (cm) ?_
    refine hK _ ?_;clear hK K;try refine Wh0 ?_
    refine Yt0 ?_
    refine Yg0 ?_
    refine Ye1 @strsL.eq_1 ?_;try (with_reducible exact trivial)
    rw [← hR];exact ⟨rfl,rfl⟩
  rw [hm] at cm hR
  refine Yr1 @h0 ?_;intro K hK
  refine Yc0 (cm) ?_
  refine hK _ ?_;clear hK K;try refine Wh0 ?_
  refine Yf0 ?_
  refine Yr0 ?_;intro K hK
  refine Yc0 (cc) ?_
  refine hK _ ?_;clear hK K;try refine Wh0 ?_
  refine Ye1 @strsL.eq_1 ?_;try (with_reducible exact trivial)
  rw [← hR];exact ⟨rfl,rfl⟩
set_option maxRecDepth 100000 in
theorem pdepth_L (l : List UInt8) (hl : l.length < 1000000) : LCalls Tryd.prog 36 [strL l] (intL (depthB l)) := by
  have cm := pmay_L l hl
  have cc := pparts_L l hl
  simp only [strsL,rowL] at cc
  refine LCalls.of (fun _ => false) Tryd.func36 rfl (by decide) Tryd.ntmps36 Tryd.results36 (by simp) ?_
  intro w0 S0 vs hgl hwf0 hsz hvs;clear hsz hvs hwf0 hgl
  generalize hR : depthB l = R
  unfold depthB at hR
  cases hm : mayB l
  · rw [hm] at cm hR
    refine Yg0 ?_
    refine Yr0 ?_;intro K hK
    refine Yc0 (cm) ?_
    refine hK _ ?_;clear hK K;try refine Wh0 ?_
    refine Yt0 ?_
    refine Yg0 ?_
    refine Ye0 ?_;try (with_reducible exact trivial)
    exact hR
  rw [hm] at cm hR
  refine Yg0 ?_
  refine Yr0 ?_;intro K hK
  refine Yc0 (cm) ?_
  refine hK _ ?_;clear hK K;try refine Wh0 ?_
  refine Yf0 ?_
  refine Yr0 ?_;intro K hK
  refine Yc0 (cc) ?_
  refine hK _ ?_;clear hK K;try refine Wh0 ?_
  refine Ye0 ?_;try (with_reducible exact trivial)
  exact hR
def stepL (s : PStep) : List LV := [intL s.kind,strL s.path,strL s.other,intL s.n]
theorem stepL_len (s : PStep) : (stepL s).length = 4 := rfl
theorem drop_step {l : List PStep} {i : Nat} {a : PStep} (h : l[i]? = some a) : (l.flatMap stepL).drop (i * 4) = intL a.kind :: strL a.path :: strL a.other :: intL a.n :: (l.drop (i + 1)).flatMap stepL := drop_flat stepL 4 stepL_len h
theorem stepL_flen (l : List PStep) : (l.flatMap stepL).length = l.length * 4 := len_flat stepL 4 stepL_len l
theorem step_snoc (l : List PStep) (s : PStep) : (l ++ [s]).flatMap stepL = l.flatMap stepL ++ stepL s ∧ (l ++ [s]).length = l.length + 1 := ⟨by rw [List.flatMap_append];simp,by simp⟩
theorem stepL_strip (l : List PStep) : (l.flatMap stepL).map strip1 = l.flatMap stepL := strip1_enc (fun _ => rfl) l
theorem five_drop : ∀ k : Fin 5,List.drop k.1 [intL 6,intL 7,intL 8,intL 9,intL 10] = intL ((6 + k.1 : Nat) : Int) :: List.drop (k.1 + 1) [intL 6,intL 7,intL 8,intL 9,intL 10]
  | 0 => rfl
  | 1 => rfl
  | 2 => rfl
  | 3 => rfl
  | 4 => rfl
theorem five_take (p : List UInt8) : ∀ k : Fin 5,(last5 p).take (k.1 + 1) = (last5 p).take k.1 ++ [⟨((6 + k.1 : Nat) : Int),p,[],0⟩]
  | 0 => rfl
  | 1 => rfl
  | 2 => rfl
  | 3 => rfl
  | 4 => rfl
set_option maxRecDepth 100000 in
set_option maxHeartbeats 4000000 in
theorem plast_O (l : List PStep) (p : List UInt8) (hl : l.length ≤ 1000000) :
    OCalls Tryd.prog 35 [.sl l.length (l.flatMap stepL) (.row 1000),strL p] ⟨[(1000,(33,l.length))],[],[]⟩ (.sl (l ++ last5 p).length ((l ++ last5 p).flatMap stepL) (.row 2000)) ⟨[(2000,(33,(l ++ last5 p).length))],[],[]⟩ := by
  refine OCalls.of (fun _ => false) Tryd.func35 rfl (by decide) Tryd.ntmps35 Tryd.results35 (by simp) ?_
  intro w0 S0 vs
  generalize hR : l ++ last5 p = R
  refine Yg0 ?_
  refine LW_lab1 (fun n st => ∃ (i : Nat) (q : List PStep),n + i = 5 ∧ q = l ++ (last5 p).take i ∧ st.env 0 = .sl q.length (q.flatMap stepL) (.row 1000) ∧ st.row 1000 = some (33,q.length) ∧ st.env 1 = strL p ∧ st.env 5 = .ptr 5 0 ∧ st.box 5 = some [intL 6,intL 7,intL 8,intL 9,intL 10] ∧ st.env 6 = intL i ∧ st.mode = fun _ => false) rfl ?_ ?_
  · intro hJ
    refine Yl0 ?_
    exact hJ.out 5 _ ⟨0,l,by omega,by simp,Yq0,Yq0,Yq0,Yq0,Yq0,Yq0,Yq0⟩
  · rintro n st ⟨i,q,hn,hq,e0,r1000,e1,e5,b5,e6,hmd⟩
    by_cases hlt : i < 5
    rotate_left
    · have hi : i = 5 := by omega
      subst hi
      have hqR : q = R := by rw [hq,← hR];rfl
      subst hqR
      have hlti : ¬ (((5 : Nat) : Int) < 5) := by omega
      refine Yg1 (fa2 @e6 @hlti) ?_
      refine Yf0 ?_
      refine Yg1 @e0 ?_
      refine LW_ret ?_;simp only [thenL,jumpsL,inBlockL,twoL,bodyO];refine ⟨[(1000,2000)],rfl,?_⟩;simp only [thenL,jumpsL,inBlockL,twoL,bodyQ,LV.lit.injEq,LV.tup.injEq,LV.agg.injEq,LV.sl.injEq,List.cons.injEq,Value.int.injEq,Value.bool.injEq,Value.string.injEq,ByteArray.mk.injEq,exists_eq_left',exists_eq_left,exists_eq_right,LZ,zo,zc,reduceCtorEq,reduceIte,zz1,zz2,zz3,zz4,zz5,zz6,zz7,zz8,zz9,zza,zzb,zzc,zzd,zze,zzf,e0,r1000]
    have hlti : ((i : Int) < 5) = True := eq_true (by omega)
    have hd := five_drop ⟨i,hlt⟩
    have ht := five_take p ⟨i,hlt⟩
    simp only at ht
    simp only [intL] at hd
    have hip : (0 : Int) ≤ (i : Int) := by omega
    have hw := w64s (n := i) (by omega)
    have hql : q.length ≤ 1000005 := by rw [hq,List.length_append,List.length_take];omega
    have hfl := stepL_flen q
    obtain ⟨s1,s2⟩ := step_snoc q ⟨((6 + i : Nat) : Int),p,[],0⟩
    have hq1 : q ++ [⟨((6 + i : Nat) : Int),p,[],0⟩] = l ++ (last5 p).take (i + 1) := by rw [ht,hq,List.append_assoc]
    simp only [stepL] at s1
    refine Yg1 (fa2 @e6 @hlti) ?_
    refine Yt0 ?_
    refine Yr1 (fa12 @e0 @r1000 @e1 @e5 @b5 @e6 @hmd @hip @hlti @hlt @hd @hfl) ?_;intro K hK
    refine ⟨by (repeat' apply And.intro) <;> first | omega | (unfold maxLen;omega) | (intro _;omega) | decide,?_⟩
    refine hK _ ?_;clear hK K;try refine Wh0 ?_
    refine Yg1 (fa2 @e6 @hw) ?_
    refine LW_goto ?_;simp only [thenL,jumpsL,inBlockL,twoL,true_and]
    exact ⟨n - 1,by omega,i + 1,_,by omega,hq1,by rw [s1,s2];exact Yq0,by rw [s2];exact Yq0,(Yq1 @e1),(Yq1 @e5),(Yq1 @b5),(Yq1 @hw),(Yq1 @hmd)⟩
end Go.Proofs.YtbffcndmcaeamaaDoor
end
section
set_option linter.unusedSimpArgs false
set_option linter.unusedVariables false
namespace Go.Proofs.YtbffcndmcaeamaaDoor
open Nat renaming reduceAdd → zz1,reduceMul → zz2,reduceSub → zz3,reduceLT → zz4,reduceLeDiff → zz5,reduceEqDiff → zz6,reduceBEq → zzf
open Int renaming reduceAdd → zz7,reduceSub → zz8,reduceMul → zz9,reduceLT → zza,reduceLE → zzb,reduceEq → zzc,reduceNeg → zzd,reduceToNat → zze
open Op renaming operands → zo
open Call renaming operands → zc
open Go.RowKit Go.Proofs AclSpec MetaSpec NodeSpec PathSpec TreeSpec PlanSpec

def firstsF (n : Nat) : List TEnt → Nat → List Int
  | [],_ => List.replicate n 0
  | e :: r,i => (firstsF n r (i + 1)).set e.node.toNat (i : Int)
theorem set_usesY {u : List Int} {k : Nat} {x : Int} (y : Int) (h : u[k]? = some x) : (usesL u).take k ++ intL y :: (usesL u).drop (k + 1) = usesL (u.set k y) := by
  obtain ⟨hk,rfl⟩ := List.getElem?_eq_some_iff.1 h
  unfold usesL
  rw [List.map_set,List.set_eq_take_append_cons_drop,if_pos (by simpa using hk)]
theorem firstsF_drop (n : Nat) {l : List TEnt} {i : Nat} {e : TEnt} (h : l[i]? = some e) : firstsF n (l.drop i) i = (firstsF n (l.drop (i + 1)) (i + 1)).set e.node.toNat (i : Int) := by
  obtain ⟨hi,rfl⟩ := List.getElem?_eq_some_iff.1 h
  rw [List.drop_eq_getElem_cons hi,firstsF]
theorem firstsF_len (n : Nat) : ∀ (l : List TEnt) (i : Nat),(firstsF n l i).length = n
  | [],_ => by simp [firstsF]
  | e :: r,i => by rw [firstsF,List.length_set,firstsF_len n r (i + 1)]
theorem firstsF_get (n : Nat) : ∀ (l : List TEnt) (i : Nat) (k : Int),(∀ e ∈ l,0 ≤ e.node) → 0 ≤ k → k < n → (∃ e ∈ l,e.node = k) → (firstsF n l i)[k.toNat]? = some ((i + firstI l k : Nat) : Int)
  | [],_,_,_,_,_,⟨_,h,_⟩ => by cases h
  | e :: r,i,k,h0,hk0,hk,hx => by
    have hl := firstsF_len n r (i + 1)
    have he := h0 e (by simp)
    rw [firstsF,firstI]
    by_cases hek : e.node = k
    · rw [if_pos hek,hek,List.getElem?_set_self (by omega)];rfl
    · have hne : e.node.toNat ≠ k.toNat := by omega
      rw [if_neg hek,List.getElem?_set_ne hne,firstsF_get n r (i + 1) k (fun x hm => h0 x (by simp [hm])) hk0 hk ?_]
      · congr 2;omega
      · obtain ⟨x,hm,hxk⟩ := hx
        rcases List.mem_cons.1 hm with rfl | hm
        · exact absurd hxk hek
        · exact ⟨x,hm,hxk⟩
def firstsT (t : FTree) : List Int := firstsF t.nodes.length t.ents 0
def firstsL (t : FTree) : LV := .sl t.nodes.length (usesL (firstsT t)) .no
theorem firstsT_get {t : FTree} (h : mayT t = true) {i : Nat} {e : TEnt} (he : t.ents[i]? = some e) : ∃ k : Nat,e.node = (k : Int) ∧ k < t.nodes.length ∧ (firstsT t)[k]? = some ((firstI t.ents e.node : Nat) : Int) := by
  have hr := (mayT_valid h).range
  have := hr e (List.mem_of_getElem? he)
  refine ⟨e.node.toNat,by omega,by omega,?_⟩
  unfold firstsT
  rw [firstsF_get _ _ _ _ (fun x hx => (hr x hx).1) this.1 this.2 ⟨e,List.mem_of_getElem? he,rfl⟩,Nat.zero_add]
theorem mayT_pos {t : FTree} (h : mayT t = true) : 0 < t.nodes.length ∧ 0 < t.ents.length := by
  obtain ⟨x,r,h1,h2,h3,h4⟩ := root_alone h
  have := (mayT_valid h).range x (by rw [h1];simp)
  exact ⟨by omega,by rw [h1];simp⟩
set_option maxRecDepth 100000 in
set_option maxHeartbeats 4000000 in
theorem pfirsts_L (t : FTree) (h : SmallT t) (hm : mayT t = true) : LCalls Tryd.prog 21 [.agg (treeL t)] (firstsL t) := by
  have hl := h.ents
  have hln := h.nodes
  have hpos := (mayT_pos hm).1
  have hrange := (mayT_valid hm).range
  refine LCalls.of (fun d => d == 8) Tryd.func21 rfl (by decide) Tryd.ntmps21 Tryd.results21 (by simp) ?_
  intro w0 S0 vs hgl hwf0 hsz hvs;clear hsz hvs hwf0 hgl
  have hmx : t.nodes.length ≤ maxLen := by unfold maxLen;omega
  have hz : ¬ t.nodes.length = 0 := by omega
  have hz2 : ¬ (t.nodes.length : Int) = 0 := by omega
  generalize hR : firstsL t = R
  refine Yg1 @treeL.eq_1 ?_
  refine LW_lab1 (fun n st => ∃ i : Nat,n = i ∧ i ≤ t.ents.length ∧ st.env 1 = .ptr 1 0 ∧ st.box 1 = some (treeL t) ∧ st.env 3 = .bsl 8 t.nodes.length 3 ∧ st.arr 8 = some (usesL (firstsF t.nodes.length (t.ents.drop i) i)) ∧ st.env 4 = intL i ∧ st.mode = fun d => d == 8) rfl ?_ ?_
  · intro hJ
    have hend : firstsF t.nodes.length (t.ents.drop t.ents.length) t.ents.length = List.replicate t.nodes.length 0 := by rw [List.drop_of_length_le (Nat.le_refl _),firstsF]
    refine Yr1 (fa3 @hz @hz2 @rep_uses) ?_;intro K hK
    refine ⟨by (repeat' apply And.intro) <;> first | omega | exact hmx | rfl,?_⟩
    refine hK _ ?_;clear hK K;try refine Wh0 ?_
    refine Yl0 ?_
    exact hJ.out t.ents.length _ ⟨t.ents.length,rfl,by omega,Yq0,(Yq1 @treeL.eq_1),Yq0,by rw [hend];exact Yq0,Yq0,Yq0⟩
  · rintro n st ⟨i,hn,hi,e1,b1,e3,a8,e4,hmd⟩
    simp only [treeL] at b1
    by_cases hlt : 0 < i
    rotate_left
    · have hi0 : i = 0 := by omega
      subst hi0
      have hlti : ¬ ((0 : Int) < ((0 : Nat) : Int)) := by omega
      refine Yg1 (fa2 @e4 @hlti) ?_
      refine Yf0 ?_
      refine LW_publish 3 e3 a8 (by rw [uses_len,firstsF_len,show sizeL Tryd.prog 3 = 1 by kernel_rfl,Nat.mul_one]) ?_
      refine Yg0 ?_
      refine Ye0 ?_;try (with_reducible exact trivial)
      rw [← hR];rfl
    obtain ⟨j,rfl⟩ : ∃ j,i = j + 1 := ⟨i - 1,by omega⟩
    have hlti : ((0 : Int) < ((j + 1 : Nat) : Int)) = True := eq_true (by omega)
    obtain ⟨e,he⟩ := get_of_lt (l := t.ents) (i := j) (by omega)
    have hr := hrange e (List.mem_of_getElem? he)
    obtain ⟨k,hk⟩ : ∃ k : Nat,e.node = (k : Int) := ⟨e.node.toNat,by omega⟩
    have hd := drop_tent he
    rw [hk] at hd
    have hwp := w64p (n := j + 1) (by omega) (by omega)
    rw [Nat.add_sub_cancel] at hwp
    have hjl : j < t.ents.length := by omega
    have hj0 : (0 : Int) ≤ (j : Int) := by omega
    have hk0 : (0 : Int) ≤ (k : Int) := by omega
    have hkn : k < t.nodes.length := by omega
    have hF := firstsF_drop t.nodes.length he
    rw [hk,Int.toNat_natCast] at hF
    have hFl := firstsF_len t.nodes.length (t.ents.drop (j + 1)) (j + 1)
    generalize firstsF t.nodes.length (t.ents.drop (j + 1)) (j + 1) = F at *
    obtain ⟨x,hx⟩ := get_of_lt (l := F) (i := k) (by omega)
    have hset := set_usesY (j : Int) hx
    have hul := uses_len F
    refine Yg1 (fa2 @e4 @hlti) ?_
    refine Yt0 ?_
    refine Yg1 (fa2 @e4 @hwp) ?_
    refine Yr1 (fa14 @e1 @b1 @e3 @a8 @e4 @hmd @hwp @hd @hjl @hj0 @hk0 @hkn @hul @hFl) ?_;intro K hK
    refine ⟨by (repeat' apply And.intro) <;> first | omega | (unfold maxLen;omega) | (intro _;omega) | decide,?_⟩
    refine hK _ ?_;clear hK K;try refine Wh0 ?_
    refine LW_goto ?_;simp only [thenL,jumpsL,inBlockL,twoL,true_and]
    refine ⟨j,by omega,j,rfl,by omega,(Yq1 @e1),(Yq1 (fa2 @b1 @treeL.eq_1)),(Yq1 @e3),?_,(Yq1 @hwp),(Yq1 @hmd)⟩
    rw [hF,← hset];exact (by first | exact rfl | assumption | (simp only [LZ,zo,zc,reduceCtorEq,reduceIte,zz1,zz2,zz3,zz4,zz5,zz6,zz7,zz8,zz9,zza,zzb,zzc,zzd,zze,zzf,List.append_assoc] <;> exact rfl))
end Go.Proofs.YtbffcndmcaeamaaDoor
end
section
set_option linter.unusedSimpArgs false
set_option linter.unusedVariables false
namespace Go.Proofs.YtbffcndmcaeamaaDoor
open Nat renaming reduceAdd → zz1,reduceMul → zz2,reduceSub → zz3,reduceLT → zz4,reduceLeDiff → zz5,reduceEqDiff → zz6,reduceBEq → zzf
open Int renaming reduceAdd → zz7,reduceSub → zz8,reduceMul → zz9,reduceLT → zza,reduceLE → zzb,reduceEq → zzc,reduceNeg → zzd,reduceToNat → zze
open Op renaming operands → zo
open Call renaming operands → zc
open Go.RowKit Go.Proofs AclSpec MetaSpec NodeSpec PathSpec TreeSpec PlanSpec

theorem piece_end {n : FNode} (h : mayN n = true) (hk : n.kind = 2) (hs : small n) {p : Piece} (hp : p ∈ n.dat) : IntKind.i64.wrap (p.pos + p.dat.length) = p.pos + p.dat.length ∧ p.dat.length ≤ 1000000 := by
  have hf : isFileN n = true := by unfold isFileN;simp [hk,h]
  have := (isFile_ok hf).2.2.2.2.1 p hp
  have hl := hs.2.2.2 p hp
  exact ⟨w64 (by omega),hl⟩
set_option maxRecDepth 100000 in
set_option maxHeartbeats 8000000 in
theorem pmade_O (t : FTree) (h : SmallT t) (hm : mayT t = true) (l : List PStep) (hl : l.length ≤ 1000000) {i : Nat} {e : TEnt} (he : t.ents[i]? = some e) :
    OCalls Tryd.prog 22 [.sl l.length (l.flatMap stepL) (.row 1000),.agg (treeL t),firstsL t,intL i] ⟨[(1000,(33,l.length))],[],[]⟩ (.sl (l ++ made1 t i e).length ((l ++ made1 t i e).flatMap stepL) (.row 2000)) ⟨[(2000,(33,(l ++ made1 t i e).length))],[],[]⟩ := by
  have hll := h.ents
  have hln := h.nodes
  obtain ⟨k,hk,hkn,hF⟩ := firstsT_get hm he
  have hFl := firstsF_len t.nodes.length t.ents 0
  have hlt : i < t.ents.length := (List.getElem?_eq_some_iff.1 he).1
  have hip : (0 : Int) ≤ (i : Int) := by omega
  have hk0 : (0 : Int) ≤ (k : Int) := by omega
  obtain ⟨nd,hnd⟩ := get_of_lt hkn
  have hG : nodeG t.nodes e.node = nd := by unfold nodeG;rw [hk,Int.toNat_natCast,hnd];rfl
  have hmn : mayN nd = true := (mayT_num hm).may nd (List.mem_of_getElem? hnd)
  have hdl : nd.dat.length ≤ 1000000 := (h.node nd (List.mem_of_getElem? hnd)).1.2.2.1
  have hd := drop_tent he
  have hdn := drop_node hnd
  have hdf := drop_uses hF
  have hfl := stepL_flen l
  simp only [nodeL,attrsL,acesL,piecesL,rowL,List.cons_append,List.nil_append] at hdn
  rw [hk] at hd
  have hfle : firstI t.ents e.node ≤ i := firstI_le he rfl
  obtain ⟨fe,hfe⟩ := get_of_lt (l := t.ents) (i := firstI t.ents e.node) (by omega)
  have hdfe := drop_tent hfe
  have hpI : pathI t.ents (firstI t.ents e.node) = fe.path := by unfold pathI;rw [hfe];rfl
  have hu : (usesL (firstsT t)).length = t.nodes.length := by rw [uses_len];exact hFl
  refine OCalls.of (fun _ => false) Tryd.func22 rfl (by decide) Tryd.ntmps22 Tryd.results22 (by simp) ?_
  intro w0 S0 vs
  generalize hR : l ++ made1 t i e = R
  unfold made1 at hR
  rw [hG,hpI] at hR
  generalize firstI t.ents e.node = f at *
  have hf0 : (0 : Int) ≤ (f : Int) := by omega
  have hfl2 : f < t.ents.length := by omega
  unfold firstsL
  refine Yg0 ?_
  refine LW_lab1 (fun n st => ∃ (j : Nat) (q : List PStep),nd.kind = 2 ∧ (l ++ [(⟨2,e.path,[],0⟩ : PStep)]) ++ (writesP e.path nd.dat.length ++ (if nd.size = endP nd.dat then [] else [⟨4,e.path,[],0⟩])) = R ∧ n + j = nd.dat.length ∧ q = (l ++ [(⟨2,e.path,[],0⟩ : PStep)]) ++ writesP e.path j ∧ st.env 0 = .sl q.length (q.flatMap stepL) (.row 1000) ∧ st.row 1000 = some (33,q.length) ∧ st.env 9 = .ptr 9 0 ∧ st.box 9 = some [strL e.path,intL k] ∧ st.env 10 = .ptr 10 0 ∧ st.box 10 = some (nodeL nd) ∧ st.env 11 = .lit (.int .i64 (endP (nd.dat.take j))) ∧ st.env 12 = intL j ∧ st.mode = fun _ => false) rfl ?_ ?_
  · intro hJ
    refine Yg1 (fa4 @treeL.eq_1 @hlt @hip @hd) ?_
    refine Yg1 (fa5 @treeL.eq_1 @hk0 @hkn @hdn @hk) ?_
    refine LW_slim (fun st => st.env 0 = .sl l.length (l.flatMap stepL) (.row 1000) ∧ st.row 1000 = some (33,l.length) ∧ st.env 2 = firstsL t ∧ st.env 3 = intL i ∧ st.env 5 = .ptr 5 0 ∧ st.box 5 = some (treeL t) ∧ st.env 9 = .ptr 9 0 ∧ st.box 9 = some [strL e.path,intL k] ∧ st.env 10 = .ptr 10 0 ∧ st.box 10 = some (nodeL nd) ∧ st.env 26 = boolL (decide (nd.kind = 1)) ∧ st.mode = fun _ => false) ⟨Yq0,Yq0,(Yq1 @firstsL.eq_1),Yq0,Yq0,(Yq1 @treeL.eq_1),Yq0,Yq0,Yq0,(Yq1 (fa5 @nodeL.eq_1 @attrsL.eq_1 @acesL.eq_1 @piecesL.eq_1 @rowL.eq_1)),Yq0,Yq0⟩ ?_
    rintro st ⟨e0,r1000,e2,e3,e5,b5,e9,b9,e10,b10,e26,hmd⟩
    simp only [firstsL] at e2
    simp only [treeL] at b5
    simp only [nodeL,attrsL,acesL,piecesL,rowL] at b10
    by_cases k1 : nd.kind = 1
    · rw [if_pos k1] at hR
      obtain ⟨s1,s2⟩ := step_snoc l ⟨1,e.path,[],0⟩
      simp only [stepL] at s1
      refine Yt1 (fa2 @e26 @k1) ?_
      refine Yr1 (fa6 @e0 @r1000 @e9 @b9 @hmd @hfl) ?_;intro K hK
      refine ⟨by (repeat' apply And.intro) <;> first | omega | (unfold maxLen;omega) | (intro _;omega) | decide,?_⟩
      refine hK _ ?_;clear hK K;try refine Wh0 ?_
      subst hR
      refine LW_ret ?_;simp only [thenL,jumpsL,inBlockL,twoL,bodyO];refine ⟨[(1000,2000)],rfl,?_⟩;simp only [thenL,jumpsL,inBlockL,twoL,bodyQ,LV.lit.injEq,LV.tup.injEq,LV.agg.injEq,LV.sl.injEq,List.cons.injEq,Value.int.injEq,Value.bool.injEq,Value.string.injEq,ByteArray.mk.injEq,exists_eq_left',exists_eq_left,exists_eq_right,LZ,zo,zc,reduceCtorEq,reduceIte,zz1,zz2,zz3,zz4,zz5,zz6,zz7,zz8,zz9,zza,zzb,zzc,zzd,zze,zzf,e0,r1000]
      (repeat' apply And.intro) <;> first | rfl | (rw [s1];rfl) | (rw [s2];rfl) | exact (Yq1 @s2)
    rw [if_neg k1] at hR
    refine Yf1 (fa2 @e26 @k1) ?_
    refine Yg1 (fa8 @e2 @e3 @e9 @b9 @hk0 @hkn @hdf @hu) ?_
    by_cases hfi : f < i
    · have hfi3 : f < i := hfi
      rw [if_pos hfi] at hR
      obtain ⟨s1,s2⟩ := step_snoc l ⟨5,e.path,fe.path,0⟩
      simp only [stepL] at s1
      refine Yt1 @hfi ?_
      (repeat (first | refine LW_seq ?_ | (refine LW_skip ?_;simp only [LSj,reduceIte,zze]) | refine LW_block ?_));refine LW_tail 15 (by kernel_rfl) (by kernel_rfl) (by kernel_rfl) (by first | exact rfl | (rw [hmd];exact rfl)) ?_;intro K hK;simp only [LZ,zo,zc,reduceCtorEq,reduceIte,zz1,zz2,zz3,zz4,zz5,zz6,zz7,zz8,zz9,zza,zzb,zzc,zzd,zze,zzf,e0,r1000,e2,e5,b5,e9,b9,hmd,hfl,hk0,hkn,hdf,hu,hf0,hfl2,hdfe]
      refine ⟨by (repeat' apply And.intro) <;> first | omega | (unfold maxLen;omega) | (intro _;omega) | decide,?_⟩
      refine hK _ ?_;clear hK K;try refine Wh0 ?_
      subst hR
      refine LW_ret ?_;simp only [thenL,jumpsL,inBlockL,twoL,bodyO];refine ⟨[(1000,2000)],rfl,?_⟩;simp only [thenL,jumpsL,inBlockL,twoL,bodyQ,LV.lit.injEq,LV.tup.injEq,LV.agg.injEq,LV.sl.injEq,List.cons.injEq,Value.int.injEq,Value.bool.injEq,Value.string.injEq,ByteArray.mk.injEq,exists_eq_left',exists_eq_left,exists_eq_right,LZ,zo,zc,reduceCtorEq,reduceIte,zz1,zz2,zz3,zz4,zz5,zz6,zz7,zz8,zz9,zza,zzb,zzc,zzd,zze,zzf,e0,r1000]
      (repeat' apply And.intro) <;> first | rfl | (rw [s1];rfl) | (rw [s2];rfl) | exact (Yq1 @s2)
    have hge : i ≤ f := by omega
    rw [if_neg hfi] at hR
    unfold fileS at hR
    refine Yf1 (fa2 @hfi @hge) ?_
    obtain ⟨s1,s2⟩ := step_snoc l ⟨2,e.path,[],0⟩
    simp only [stepL] at s1
    refine Yr1 (fa6 @e0 @r1000 @e9 @b9 @hmd @hfl) ?_;intro K hK
    refine ⟨by (repeat' apply And.intro) <;> first | omega | (unfold maxLen;omega) | (intro _;omega) | decide,?_⟩
    refine hK _ ?_;clear hK K;try refine Wh0 ?_
    refine LW_slim (fun st => st.env 0 = .sl (l ++ [(⟨2,e.path,[],0⟩ : PStep)]).length ((l ++ [(⟨2,e.path,[],0⟩ : PStep)]).flatMap stepL) (.row 1000) ∧ st.row 1000 = some (33,(l ++ [(⟨2,e.path,[],0⟩ : PStep)]).length) ∧ st.env 9 = .ptr 9 0 ∧ st.box 9 = some [strL e.path,intL k] ∧ st.env 10 = .ptr 10 0 ∧ st.box 10 = some (nodeL nd) ∧ st.mode = fun _ => false) ⟨by rw [s1,s2];exact Yq0,by rw [s2];exact Yq0,(Yq1 @e9),(Yq1 @b9),(Yq1 @e10),(Yq1 (fa6 @b10 @nodeL.eq_1 @attrsL.eq_1 @acesL.eq_1 @piecesL.eq_1 @rowL.eq_1)),(Yq1 @hmd)⟩ ?_
    clear e0 r1000 e2 e3 e5 b5 e9 b9 e10 b10 e26 hmd st
    rintro st ⟨e0,r1000,e9,b9,e10,b10,hmd⟩
    simp only [nodeL,attrsL,acesL,piecesL,rowL] at b10
    by_cases k2 : nd.kind = 2
    rotate_left
    · rw [if_neg k2] at hR
      refine Yg1 (fa3 @e10 @b10 @k2) ?_
      refine Yt0 ?_
      refine Yg1 @e0 ?_
      subst hR
      refine LW_ret ?_;simp only [thenL,jumpsL,inBlockL,twoL,bodyO];refine ⟨[(1000,2000)],rfl,?_⟩;simp only [thenL,jumpsL,inBlockL,twoL,bodyQ,LV.lit.injEq,LV.tup.injEq,LV.agg.injEq,LV.sl.injEq,List.cons.injEq,Value.int.injEq,Value.bool.injEq,Value.string.injEq,ByteArray.mk.injEq,exists_eq_left',exists_eq_left,exists_eq_right,LZ,zo,zc,reduceCtorEq,reduceIte,zz1,zz2,zz3,zz4,zz5,zz6,zz7,zz8,zz9,zza,zzb,zzc,zzd,zze,zzf,e0,r1000]
    rw [if_pos k2] at hR
    refine Yg1 (fa3 @e10 @b10 @k2) ?_
    refine Yf0 ?_
    refine Yl0 ?_
    exact hJ.out nd.dat.length _ ⟨0,l ++ [(⟨2,e.path,[],0⟩ : PStep)],k2,by rw [← hR];simp only [List.append_assoc,List.cons_append,List.nil_append],by omega,by simp [writesP],(Yq1 @e0),(Yq1 @r1000),(Yq1 @e9),(Yq1 @b9),(Yq1 @e10),(Yq1 (fa6 @b10 @nodeL.eq_1 @attrsL.eq_1 @acesL.eq_1 @piecesL.eq_1 @rowL.eq_1)),Yq0,Yq0,(Yq1 @hmd)⟩
  · rintro n st ⟨j,q,k2,hR,hn,hq,e0,r1000,e9,b9,e10,b10,e11,e12,hmd⟩
    simp only [nodeL,attrsL,acesL,piecesL,rowL] at b10
    have hql : q.length = l.length + 1 + j := by rw [hq];simp [writesP];omega
    have hfl := stepL_flen q
    by_cases hjt : j < nd.dat.length
    · obtain ⟨p,hp⟩ := get_of_lt hjt
      have hdp := drop_piece hp
      have hj0 : (0 : Int) ≤ (j : Int) := by omega
      have hw := w64s (n := j) (by omega)
      have hpe := piece_end hmn k2 (h.node nd (List.mem_of_getElem? hnd)).1 (List.mem_of_getElem? hp)
      have hend := endP_take hp
      have hdp1 : (nd.dat.flatMap pieceL).drop (j * 2 + 1) = strL p.dat :: (nd.dat.drop (j + 1)).flatMap pieceL := by
        have hd := congrArg (List.drop 1) hdp
        rw [List.drop_drop] at hd
        exact hd
      obtain ⟨hpe1,hpe2⟩ := hpe
      obtain ⟨s1,s2⟩ := step_snoc q ⟨3,e.path,[],(j : Int)⟩
      simp only [stepL] at s1
      have hq1 : q ++ [⟨3,e.path,[],(j : Int)⟩] = (l ++ [(⟨2,e.path,[],0⟩ : PStep)]) ++ writesP e.path (j + 1) := by rw [writesP_succ,hq];simp only [List.append_assoc]
      refine Yg1 (fa4 @e10 @b10 @e12 @hjt) ?_
      refine Yt1 @hjt ?_
      refine Yr1 (fa7 @e0 @r1000 @e9 @b9 @e12 @hmd @hfl) ?_;intro K hK
      refine ⟨by (repeat' apply And.intro) <;> first | omega | (unfold maxLen;omega) | (intro _;omega) | decide,?_⟩
      refine hK _ ?_;clear hK K;try refine Wh0 ?_
      refine Yn1 (fa9 @e10 @b10 @e12 @hmd @hjt @hj0 @hdp @hdp1 @hpe1) ?_;intro K hK
      refine hK _ ?_;clear hK K;try refine Wh0 ?_
      refine Yg1 (fa2 @e12 @hw) ?_
      refine LW_goto ?_;simp only [thenL,jumpsL,inBlockL,twoL,true_and]
      exact ⟨n - 1,by omega,j + 1,_,k2,hR,by omega,hq1,by rw [s1,s2];exact Yq0,by rw [s2];exact Yq0,(Yq1 @e9),(Yq1 @b9),(Yq1 @e10),(Yq1 (fa6 @b10 @nodeL.eq_1 @attrsL.eq_1 @acesL.eq_1 @piecesL.eq_1 @rowL.eq_1)),by rw [hend];exact Yq0,(Yq1 @hw),(Yq1 @hmd)⟩
    · have hjl : j = nd.dat.length := by omega
      rw [hjl,List.take_length] at e11
      refine Yg1 (fa4 @e10 @b10 @e12 @hjt) ?_
      refine Yf1 @hjt ?_
      have hq1 : q = (l ++ [(⟨2,e.path,[],0⟩ : PStep)]) ++ writesP e.path nd.dat.length := by rw [hq,hjl]
      by_cases hsz : nd.size = endP nd.dat
      · rw [if_pos hsz,List.append_nil] at hR
        have hqR : q = R := by rw [hq1,← hR];(try simp only [List.append_assoc,List.cons_append,List.nil_append])
        refine Yg1 (fa4 @e10 @b10 @e11 @hsz) ?_
        refine Yf0 ?_
        refine Yg1 @e0 ?_
        subst hqR
        refine LW_ret ?_;simp only [thenL,jumpsL,inBlockL,twoL,bodyO];refine ⟨[(1000,2000)],rfl,?_⟩;simp only [thenL,jumpsL,inBlockL,twoL,bodyQ,LV.lit.injEq,LV.tup.injEq,LV.agg.injEq,LV.sl.injEq,List.cons.injEq,Value.int.injEq,Value.bool.injEq,Value.string.injEq,ByteArray.mk.injEq,exists_eq_left',exists_eq_left,exists_eq_right,LZ,zo,zc,reduceCtorEq,reduceIte,zz1,zz2,zz3,zz4,zz5,zz6,zz7,zz8,zz9,zza,zzb,zzc,zzd,zze,zzf,e0,r1000]
      · rw [if_neg hsz] at hR
        obtain ⟨s1,s2⟩ := step_snoc q ⟨4,e.path,[],0⟩
        simp only [stepL] at s1
        have hqR : q ++ [⟨4,e.path,[],0⟩] = R := by rw [hq1,← hR];(try simp only [List.append_assoc,List.cons_append,List.nil_append])
        refine Yg1 (fa4 @e10 @b10 @e11 @hsz) ?_
        refine Yt0 ?_
        refine Yr1 (fa6 @e0 @r1000 @e9 @b9 @hmd @hfl) ?_;intro K hK
        refine ⟨by (repeat' apply And.intro) <;> first | omega | (unfold maxLen;omega) | (intro _;omega) | decide,?_⟩
        refine hK _ ?_;clear hK K;try refine Wh0 ?_
        refine Yg0 ?_
        rw [← hqR]
        refine LW_ret ?_;simp only [thenL,jumpsL,inBlockL,twoL,bodyO];refine ⟨[(1000,2000)],rfl,?_⟩;simp only [thenL,jumpsL,inBlockL,twoL,bodyQ,LV.lit.injEq,LV.tup.injEq,LV.agg.injEq,LV.sl.injEq,List.cons.injEq,Value.int.injEq,Value.bool.injEq,Value.string.injEq,ByteArray.mk.injEq,exists_eq_left',exists_eq_left,exists_eq_right,LZ,zo,zc,reduceCtorEq,reduceIte,zz1,zz2,zz3,zz4,zz5,zz6,zz7,zz8,zz9,zza,zzb,zzc,zzd,zze,zzf,e0,r1000]
        (repeat' apply And.intro) <;> first | rfl | (rw [s1];rfl) | (rw [s2];rfl) | exact (Yq1 @s2)
end Go.Proofs.YtbffcndmcaeamaaDoor
end
