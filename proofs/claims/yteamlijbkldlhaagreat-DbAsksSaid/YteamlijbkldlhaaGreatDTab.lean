import Derived.Test.YteamlijbkldlhaaGreatRBare
import Derived.Test.YteamlijbkldlhaaGreatKU4
import Derived.Test.YteamlijbkldlhaaGreatISpec
section
set_option linter.unusedSimpArgs false
set_option linter.unusedVariables false
namespace Go.Proofs.YteamlijbkldlhaaGreat.PageSpec
open AclSpec MetaSpec NodeSpec RecSpec PathSpec

structure Pg where
  leaf : Bool
  recs : List Rec
  keys : List (List UInt8)
  pages : List Int
  deriving DecidableEq,Inhabited
def zeroPg : Pg := ⟨false,[],[],[]⟩
def risesR : Option (List UInt8) → List Rec → Bool
  | _,[] => true
  | o,r :: l => mayRec r && (match o with | none => true | some p => lessB p r.path) && risesR (some r.path) l
def risesK : Option (List UInt8 × Int) → List (List UInt8) → List Int → Bool
  | o,k :: ks,n :: ns => (!decide (n < 0) && !decide (10000 < n) && mayB k) && (match o with | none => true | some q => !decide (n ≤ q.2) && lessB q.1 k) && risesK (some (k,n)) ks ns
  | _,_,_ => true
def mayLeaf (p : Pg) : Bool := !decide (p.recs.length < 1) && !decide (4 < p.recs.length) && !decide (0 < p.keys.length) && !decide (0 < p.pages.length) && risesR none p.recs
def mayInner (p : Pg) : Bool := !decide (p.pages.length < 1) && !decide (4 < p.pages.length) && decide (p.keys.length = p.pages.length) && !decide (0 < p.recs.length) && risesK none p.keys p.pages
def mayPg (p : Pg) : Bool := if p.leaf = true then mayLeaf p else mayInner p
def firstPg (p : Pg) : List UInt8 := if mayPg p = true then (if p.leaf = true then (p.recs.head?.map (·.path)).getD [] else p.keys.head?.getD []) else []

theorem risesR_all : ∀ {l : List Rec} {o : Option (List UInt8)},risesR o l = true → ∀ r ∈ l,mayRec r = true
  | [],_,_,r,h => by cases h
  | a :: l,o,h,r,hr => by
    rw [risesR.eq_def] at h
    simp only [Bool.and_eq_true] at h
    rcases List.mem_cons.1 hr with rfl | hr
    · exact h.1.1
    · exact risesR_all h.2 r hr
end Go.Proofs.YteamlijbkldlhaaGreat.PageSpec
end
section
set_option linter.unusedSimpArgs false
set_option linter.unusedVariables false
namespace Go.Proofs.YteamlijbkldlhaaGreat.PageSpec
open AclSpec MetaSpec NodeSpec RecSpec PathSpec

theorem numD_bad {c : UInt8} (h : digB c = false) (l r : List UInt8) (a : Nat) : numD (l ++ c :: r) a = none := by
  rw [numD_app]
  cases numD l a with
  | none => rfl
  | some b =>
    show numD (c :: r) b = none
    rw [numD,h];rfl
theorem split_at {s : List UInt8} {i : Nat} {c : UInt8} (hc : s[i]? = some c) : s = s.take i ++ c :: s.drop (i + 1) := by
  obtain ⟨hi,rfl⟩ := List.getElem?_eq_some_iff.1 hc
  rw [← List.drop_eq_getElem_cons hi,List.take_append_drop]
theorem lenS_bad {s : List UInt8} {i : Nat} {c : UInt8} (hc : s[i]? = some c) (h : digB c = false) : lenS s = 0 := by
  have e : numD s 0 = none := by rw [split_at hc];exact numD_bad h _ _ _
  unfold lenS
  rw [e]
  split <;> rfl
theorem lenS_head {s : List UInt8} (h : s.head? = some 48) : lenS s = 0 := by unfold lenS;rw [if_pos (.inr h)]
theorem lenS_long {s : List UInt8} (h : 4 < s.length) : lenS s = 0 := by unfold lenS;rw [if_pos (.inl h)]
theorem numD_take {s : List UInt8} {i n : Nat} {c : UInt8} (hc : s[i]? = some c) (h : numD (s.take i) 0 = some n) (hd : digB c = true) : numD (s.take (i + 1)) 0 = some (10 * n + (c.toNat - 48)) := by
  obtain ⟨hi,rfl⟩ := List.getElem?_eq_some_iff.1 hc
  rw [List.take_succ_eq_append_getElem hi,numD_app,h]
  show numD [s[i]] n = _
  rw [numD,hd,if_pos rfl,numD]
def fullZ : List Piece → Option (List Piece)
  | [] => some []
  | p :: r => if lenS p.dat = 0 then none else (fullZ r).map (⟨p.pos,List.replicate (lenS p.dat) 0⟩ :: ·)
def fullR (n : FNode) : FNode × Bool := match fullZ n.dat with
  | none => (zeroN,false)
  | some l => ({ n with dat := l },mayN { n with dat := l })
def mayRecR (r : Rec) : Bool := mayB r.path && !decide (r.lead < 0) && !decide (100 ≤ r.lead) && !decide (r.pos < 0) && !decide (400000 < r.pos) &&
  (if r.node = zeroN then decide (r.pos = 0) else (fullR r.node).2 && (decide (r.pos = 0) || !r.node.dat.isEmpty))
theorem fullZ_P : ∀ l : List Piece,(fullP l = none ∧ fullZ l = none) ∨ ∃ m k,fullP l = some m ∧ fullZ l = some k ∧ shapeP m = shapeP k ∧ k.length = l.length
  | [] => .inr ⟨[],[],rfl,rfl,rfl,rfl⟩
  | p :: l => by
    rw [fullP,fullZ]
    split
    · exact .inl ⟨rfl,rfl⟩
    · rcases fullZ_P l with ⟨h1,h2⟩ | ⟨m,k,h1,h2,h3,h4⟩
      · rw [h1,h2];exact .inl ⟨rfl,rfl⟩
      · rw [h1,h2]
        refine .inr ⟨_,_,rfl,rfl,?_,by simp [h4]⟩
        unfold shapeP at h3 ⊢
        rw [List.map_cons,List.map_cons,h3]
        simp
theorem fullZ_small : ∀ {l k : List Piece},fullZ l = some k → k.length = l.length ∧ ∀ p ∈ k,p.dat.length ≤ 4000
  | [],k,h => by cases h;exact ⟨rfl,fun p hp => by cases hp⟩
  | p :: l,k,h => by
    rw [fullZ] at h
    split at h
    · cases h
    · obtain ⟨k',hk,rfl⟩ := Option.map_eq_some_iff.1 h
      obtain ⟨i1,i2⟩ := fullZ_small hk
      refine ⟨by simp [i1],fun q hq => ?_⟩
      rcases List.mem_cons.1 hq with rfl | hq
      · show (List.replicate (lenS p.dat) (0 : UInt8)).length ≤ 4000
        rw [List.length_replicate]
        unfold lenS
        split
        · omega
        · split
          · split <;> omega
          · omega
      · exact i2 q hq
theorem may_other {n : FNode} (h2 : ¬ n.kind = 2) (hd : n.dat ≠ []) : mayN n = false := by
  unfold mayN
  rw [decide_eq_false h2,decide_eq_false hd]
  simp
theorem may_many {n : FNode} (h2 : n.kind = 2) (hd : 16 < n.dat.length) : mayN n = false := by
  unfold mayN
  rw [if_pos h2]
  unfold mayFileN
  rw [decide_eq_true hd]
  simp
theorem mayRecR_eq (r : Rec) : mayRecR r = mayRec r := by
  unfold mayRecR mayRec
  congr 1
  split
  · rfl
  obtain ⟨path,lead,n,pos⟩ := r
  simp only
  unfold fullR fullN
  rcases fullZ_P n.dat with ⟨h1,h2⟩ | ⟨m,k,h1,h2,h3,h4⟩
  · rw [h1,h2]
    by_cases hk : n.kind = 2
    · rw [if_pos hk]
      by_cases h16 : 16 < n.dat.length
      · rw [if_pos h16];rfl
      · rw [if_neg h16];rfl
    · rw [if_neg hk]
      have hd : n.dat ≠ [] := by rintro c;rw [c] at h1;cases h1
      simp only
      unfold mayNR
      rw [may_other hk hd];rfl
  · rw [h1,h2]
    simp only
    have hs := may_shape (n := { n with dat := m }) (l := k) h3.symm
    simp only at hs
    by_cases hk : n.kind = 2
    · rw [if_pos hk]
      by_cases h16 : 16 < n.dat.length
      · rw [if_pos h16,may_many (n := { n with dat := k }) hk (by show 16 < k.length;omega)];rfl
      · rw [if_neg h16]
        simp only [Option.map_some]
        unfold mayNR
        have hml := shape_len h3
        have he : m.isEmpty = n.dat.isEmpty := by
          rw [Bool.eq_iff_iff,List.isEmpty_iff,List.isEmpty_iff]
          constructor <;> intro c
          · exact List.eq_nil_of_length_eq_zero (by rw [c] at hml;simp at hml;omega)
          · exact List.eq_nil_of_length_eq_zero (by rw [c] at h4;simp at h4;rw [hml,h4];rfl)
        show (mayN _ && _) = (mayN _ && (decide (pos = 0) || (decide (n.kind = 2) && !m.isEmpty)))
        rw [hs,he,decide_eq_true hk,Bool.true_and]
    · rw [if_neg hk]
      simp only
      unfold mayNR
      rw [decide_eq_false hk]
      by_cases hd : n.dat = []
      · rw [hd] at h2 h4
        have hk0 : k = [] := List.eq_nil_of_length_eq_zero (by simpa using h4)
        subst hk0
        have : ({ n with dat := [] } : FNode) = n := by rw [← hd]
        rw [this,hd];rfl
      · rw [may_other (n := { n with dat := k }) hk (by intro c;have c : k = [] := c;rw [c] at h4;exact hd (List.eq_nil_of_length_eq_zero (by simpa using h4.symm))),may_other hk hd]
        rfl
theorem mayPg_leaf {p : Pg} (h : p.leaf = true) : mayPg p = (risesR none p.recs && (decide (1 ≤ p.recs.length) && (decide (p.recs.length ≤ 4) && (decide (p.keys.length = 0) && decide (p.pages.length = 0))))) := by
  unfold mayPg mayLeaf
  rw [if_pos h,Bool.eq_iff_iff]
  simp only [Bool.and_eq_true,Bool.not_eq_true',decide_eq_true_eq,decide_eq_false_iff_not]
  constructor
  · rintro ⟨⟨⟨⟨a,b⟩,c⟩,d⟩,e⟩;exact ⟨e,by omega,by omega,by omega,by omega⟩
  · rintro ⟨e,a,b,c,d⟩;exact ⟨⟨⟨⟨by omega,by omega⟩,by omega⟩,by omega⟩,e⟩
end Go.Proofs.YteamlijbkldlhaaGreat.PageSpec
end
section
set_option linter.unusedSimpArgs false
set_option linter.unusedVariables false
namespace Go.Proofs.YteamlijbkldlhaaGreat.DbSpec
open AclSpec MetaSpec NodeSpec RecSpec PathSpec PageSpec

def leafP (l : List Rec) (j : Nat) : Pg := ⟨true,(l.drop (4 * j)).take 4,[],[]⟩
def leavesP (l : List Rec) : List Pg := (List.range ((l.length + 3) / 4)).map (leafP l)
def innerP (p : List Pg) (a k : Nat) : Pg := ⟨false,[],(List.range' a k).map fun i => firstPg (p.getD i zeroPg),(List.range' a k).map fun i : Nat => (i : Int)⟩
def levelP (p : List Pg) (a b : Nat) : List Pg := (List.range ((b - a + 3) / 4)).map fun j => innerP p (a + 4 * j) (min 4 (b - (a + 4 * j)))
def levelsP : Nat → List Pg → Nat → List Pg
  | 0,p,_ => p
  | n + 1,p,a => if 1 < p.length - a then levelsP n (p ++ levelP p a p.length) p.length else p
def mayRecs (l : List Rec) : Bool := !decide (l.length < 1) && !decide (100 < l.length) && risesR none l
def buildP (l : List Rec) : List Pg := levelsP 4 (leavesP l) 0
def buildA (l : List Rec) : List Pg × Int := if mayRecs l = true then (buildP l,0) else ([],1)
def gatherA : List Pg → List Rec → Option (List Rec)
  | [],acc => some acc
  | p :: r,acc => if p.leaf = true then (if 4 < p.recs.length ∨ 100 < acc.length then none else gatherA r (acc ++ p.recs)) else some acc
def openB (ps : List Pg) : Bool := match gatherA ps [] with
  | none => false
  | some l => mayRecs l && decide (buildP l = ps)
def gatherP : List Pg → List Rec
  | [] => []
  | p :: r => if p.leaf = true then p.recs ++ gatherP r else []
def childP : List (List UInt8) → List UInt8 → Nat
  | _ :: k :: r,p => if lessB p k = true then 0 else childP (k :: r) p + 1
  | _,_ => 0
def amongP (l : List Rec) (p : List UInt8) : Rec × Bool := match l.find? (fun r => decide (r.path = p)) with
  | some r => (r,true)
  | none => (zeroRec,false)
def descP (ps : List Pg) (p : List UInt8) : Nat → Nat → Nat × (Rec × Bool)
  | 0,_ => (0,(zeroRec,false))
  | f + 1,i => if (ps.getD i zeroPg).leaf = true then (1,amongP (ps.getD i zeroPg).recs p)
    else ((descP ps p f ((ps.getD i zeroPg).pages.getD (childP (ps.getD i zeroPg).keys p) 0).toNat).1 + 1,(descP ps p f ((ps.getD i zeroPg).pages.getD (childP (ps.getD i zeroPg).keys p) 0).toNat).2)
def findP (ps : List Pg) (p : List UInt8) : Nat × (Rec × Bool) := if mayB p = true ∧ ps ≠ [] then descP ps p ps.length (ps.length - 1) else (0,(zeroRec,false))
def highF (ps : List Pg) : Nat → Nat → Nat
  | 0,_ => 0
  | f + 1,i => if (ps.getD i zeroPg).leaf = true then 1 else highF ps f ((ps.getD i zeroPg).pages.getD 0 0).toNat + 1
def highP (ps : List Pg) : Nat := highF ps ps.length (ps.length - 1)
structure TableP (ps : List Pg) : Prop where
  keys : ∀ p ∈ ps,p.leaf = false → p.keys.length = p.pages.length ∧ 1 ≤ p.pages.length
  down : ∀ i,(h : i < ps.length) → ps[i].leaf = false → ∀ n ∈ ps[i].pages,0 ≤ n ∧ n < (i : Int)
theorem childP_lt : ∀ (ks : List (List UInt8)) (p : List UInt8),1 ≤ ks.length → childP ks p < ks.length
  | [],_,h => by simp at h
  | [_],_,_ => by simp [childP]
  | _ :: k :: r,p,_ => by
    rw [childP]
    split
    · simp
    · have := childP_lt (k :: r) p (by simp)
      simp only [List.length_cons] at this ⊢
      omega
theorem leavesP_len (l : List Rec) : (leavesP l).length = (l.length + 3) / 4 := by unfold leavesP;simp
theorem levelP_len (p : List Pg) (a b : Nat) : (levelP p a b).length = (b - a + 3) / 4 := by unfold levelP;simp
end Go.Proofs.YteamlijbkldlhaaGreat.DbSpec
end
section
set_option linter.unusedSimpArgs false
set_option linter.unusedVariables false
namespace Go.Proofs.YteamlijbkldlhaaGreat.DbSpec
open AclSpec MetaSpec NodeSpec RecSpec PathSpec PageSpec TreeSpec

theorem risesR_some : ∀ {l : List Rec} {p : List UInt8},risesR (some p) l = true → ∀ r ∈ l,lessB p r.path = true
  | [],_,_,r,h => by cases h
  | a :: l,p,h,r,hr => by
    rw [risesR.eq_def] at h
    simp only [Bool.and_eq_true] at h
    rcases List.mem_cons.1 hr with rfl | hr
    · exact h.1.2
    · exact less_trans h.1.2 (risesR_some h.2 r hr)
theorem risesR_pair : ∀ {l : List Rec} {o : Option (List UInt8)},risesR o l = true → l.Pairwise fun a b => lessB a.path b.path = true
  | [],_,_ => .nil
  | a :: l,o,h => by
    rw [risesR.eq_def] at h
    simp only [Bool.and_eq_true] at h
    exact .cons (fun b hb => risesR_some h.2 b hb) (risesR_pair h.2)
theorem rises_of : ∀ {l : List Rec},(∀ r ∈ l,mayRec r = true) → l.Pairwise (fun a b => lessB a.path b.path = true) → ∀ {o : Option (List UInt8)},(∀ p,o = some p → ∀ r ∈ l,lessB p r.path = true) → risesR o l = true
  | [],_,_,o,_ => by cases o <;> rfl
  | a :: l,hm,hp,o,ho => by
    rw [risesR.eq_def]
    rw [List.pairwise_cons] at hp
    have h1 := hm a (List.mem_cons_self ..)
    have h2 := rises_of (o := some a.path) (fun r hr => hm r (List.mem_cons_of_mem _ hr)) hp.2 (fun p he r hr => by cases he;exact hp.1 r hr)
    simp only [h1,h2,Bool.true_and,Bool.and_true]
    cases o with
    | none => rfl
    | some p => exact ho p rfl a (List.mem_cons_self ..)
theorem mayRecs_ok {l : List Rec} (h : mayRecs l = true) : 1 ≤ l.length ∧ l.length ≤ 100 ∧ (∀ r ∈ l,mayRec r = true) ∧ l.Pairwise (fun a b => lessB a.path b.path = true) := by
  unfold mayRecs at h
  simp only [Bool.and_eq_true,Bool.not_eq_true',decide_eq_false_iff_not] at h
  exact ⟨by omega,by omega,risesR_all h.2,risesR_pair h.2⟩
theorem mayRec_path {r : Rec} (h : mayRec r = true) : mayB r.path = true := by
  unfold mayRec at h
  simp only [Bool.and_eq_true] at h
  exact h.1.1.1.1.1
def firstAt (p : List Pg) (i : Nat) : List UInt8 := firstPg (p.getD i zeroPg)
structure Inv (p : List Pg) (a h : Nat) : Prop where
  le : a < p.length
  len : p.length + 2 * (p.length - a) ≤ 200
  may : ∀ x ∈ p,mayPg x = true
  down : ∀ i,(h : i < p.length) → p[i].leaf = false → ∀ n ∈ p[i].pages,0 ≤ n ∧ n < (i : Int)
  rise : ∀ i j,a ≤ i → i < j → j < p.length → lessB (firstAt p i) (firstAt p j) = true
  path : ∀ i,a ≤ i → i < p.length → mayB (firstAt p i) = true
  high : ∀ i,a ≤ i → i < p.length → ∀ f,i < f → highF p f i = h
theorem getD_at {p : List Pg} {i : Nat} (h : i < p.length) : p.getD i zeroPg = p[i] := by rw [List.getD_eq_getElem?_getD,List.getElem?_eq_getElem h];rfl
theorem getD_app {p q : List Pg} {i : Nat} (h : i < p.length) : (p ++ q).getD i zeroPg = p.getD i zeroPg := by
  rw [List.getD_eq_getElem?_getD,List.getD_eq_getElem?_getD,List.getElem?_append_left h]
theorem highF_app {p : List Pg} (q : List Pg) (hm : ∀ x ∈ p,mayPg x = true) (hd : ∀ i,(h : i < p.length) → p[i].leaf = false → ∀ n ∈ p[i].pages,0 ≤ n ∧ n < (i : Int)) : ∀ (f i : Nat),i < p.length → highF (p ++ q) f i = highF p f i := by
  intro f
  induction f with
  | zero => intro i _;rfl
  | succ f ih =>
    intro i hi
    rw [highF,highF,getD_app hi]
    cases hl : (p.getD i zeroPg).leaf
    · rw [if_neg (by decide),if_neg (by decide)]
      congr 1
      rw [getD_at hi] at hl ⊢
      have hmi := hm p[i] (List.getElem_mem ..)
      unfold mayPg at hmi
      rw [if_neg (by rw [hl];decide)] at hmi
      unfold mayInner at hmi
      simp only [Bool.and_eq_true,Bool.not_eq_true',decide_eq_true_eq,decide_eq_false_iff_not] at hmi
      have h1 : 0 < p[i].pages.length := by omega
      have hx : p[i].pages.getD 0 0 = p[i].pages[0] := by rw [List.getD_eq_getElem?_getD,List.getElem?_eq_getElem h1];rfl
      have hdn := hd i hi hl p[i].pages[0] (List.getElem_mem ..)
      rw [hx]
      exact ih _ (by omega)
    · rw [if_pos rfl,if_pos rfl]
theorem tableP_of {p : List Pg} (hm : ∀ x ∈ p,mayPg x = true) (hd : ∀ i,(h : i < p.length) → p[i].leaf = false → ∀ n ∈ p[i].pages,0 ≤ n ∧ n < (i : Int)) : TableP p := by
  refine ⟨fun x hx hl => ?_,hd⟩
  have hmi := hm x hx
  unfold mayPg at hmi
  rw [if_neg (by rw [hl];decide)] at hmi
  unfold mayInner at hmi
  simp only [Bool.and_eq_true,Bool.not_eq_true',decide_eq_true_eq,decide_eq_false_iff_not] at hmi
  exact ⟨hmi.1.1.2,by omega⟩
theorem leafP_at {l : List Rec} {j : Nat} (h : j < (l.length + 3) / 4) : (leavesP l).getD j zeroPg = leafP l j := by
  unfold leavesP
  rw [List.getD_eq_getElem?_getD,List.getElem?_map,List.getElem?_range h];rfl
theorem pair_take {l : List Rec} (h : l.Pairwise fun a b => lessB a.path b.path = true) (a b : Nat) : ((l.drop a).take b).Pairwise fun a b => lessB a.path b.path = true :=
  (h.sublist (List.drop_sublist _ _)).sublist (List.take_sublist _ _)
theorem leaf_may {l : List Rec} (h : mayRecs l = true) {j : Nat} (hj : j < (l.length + 3) / 4) : mayPg (leafP l j) = true ∧ ∃ r,l[4 * j]? = some r ∧ firstPg (leafP l j) = r.path := by
  obtain ⟨h1,h2,h3,h4⟩ := mayRecs_ok h
  have hlt : 4 * j < l.length := by omega
  have hm : mayPg (leafP l j) = true := by
    unfold mayPg leafP
    rw [if_pos rfl]
    unfold mayLeaf
    have hr : risesR none ((l.drop (4 * j)).take 4) = true := rises_of (fun r hr => h3 r (List.mem_of_mem_drop (List.mem_of_mem_take hr))) (pair_take h4 _ _) (fun p hp => by cases hp)
    rw [hr]
    have hl : ((l.drop (4 * j)).take 4).length = min 4 (l.length - 4 * j) := by rw [List.length_take,List.length_drop]
    simp only [Bool.and_eq_true,Bool.not_eq_true',decide_eq_false_iff_not,List.length_nil,hl]
    refine ⟨⟨⟨⟨?_,?_⟩,?_⟩,?_⟩,trivial⟩ <;> omega
  refine ⟨hm,l[4 * j],List.getElem?_eq_getElem hlt,?_⟩
  unfold firstPg
  rw [if_pos hm]
  unfold leafP
  rw [if_pos rfl]
  simp only
  rw [List.drop_eq_getElem_cons hlt,List.take_succ_cons];rfl
theorem leaves_inv {l : List Rec} (h : mayRecs l = true) : Inv (leavesP l) 0 1 := by
  obtain ⟨h1,h2,h3,h4⟩ := mayRecs_ok h
  have hl := leavesP_len l
  refine ⟨by omega,by omega,fun x hx => ?_,fun i hi hlf => ?_,fun i j _ hij hj => ?_,fun i _ hi => ?_,fun i _ hi f hf => ?_⟩
  · obtain ⟨j,hj,rfl⟩ := List.mem_map.1 hx
    exact (leaf_may h (List.mem_range.1 hj)).1
  · have : (leavesP l)[i] = leafP l i := by rw [← getD_at hi,leafP_at (by omega)]
    rw [this] at hlf;cases hlf
  · unfold firstAt
    rw [leafP_at (by omega),leafP_at (by omega)]
    obtain ⟨_,r,hr,e1⟩ := leaf_may h (j := i) (by omega)
    obtain ⟨_,s,hs,e2⟩ := leaf_may h (j := j) (by omega)
    rw [e1,e2]
    obtain ⟨ha,rfl⟩ := List.getElem?_eq_some_iff.1 hr
    obtain ⟨hb,rfl⟩ := List.getElem?_eq_some_iff.1 hs
    exact List.pairwise_iff_getElem.1 h4 _ _ ha hb (by omega)
  · unfold firstAt
    rw [leafP_at (by omega)]
    obtain ⟨_,r,hr,e1⟩ := leaf_may h (j := i) (by omega)
    rw [e1]
    exact mayRec_path (h3 r (List.mem_of_getElem? hr))
  · obtain ⟨f,rfl⟩ : ∃ g,f = g + 1 := ⟨f - 1,by omega⟩
    rw [highF,leafP_at (by omega)]
    rfl
theorem levelP_at {p : List Pg} {a b j : Nat} (h : j < (b - a + 3) / 4) : (levelP p a b)[j]? = some (innerP p (a + 4 * j) (min 4 (b - (a + 4 * j)))) := by
  unfold levelP
  rw [List.getElem?_map,List.getElem?_range h];rfl
theorem risesK_of (p : List Pg) : ∀ (k a : Nat) (o : Option (List UInt8 × Int)),(∀ i,a ≤ i → i < a + k → mayB (firstAt p i) = true) → (∀ i j,a ≤ i → i < j → j < a + k → lessB (firstAt p i) (firstAt p j) = true) → a + k ≤ 10000 →
    (∀ q,o = some q → (q.2 < (a : Int)) ∧ (0 < k → lessB q.1 (firstAt p a) = true)) → risesK o ((List.range' a k).map fun i => firstPg (p.getD i zeroPg)) ((List.range' a k).map fun i : Nat => (i : Int)) = true
  | 0,a,o,_,_,_,_ => by cases o <;> rfl
  | k + 1,a,o,hm,hr,hb,ho => by
    rw [List.range'_succ,List.map_cons,List.map_cons,risesK.eq_def]
    have h1 := risesK_of p k (a + 1) (some (firstAt p a,(a : Int))) (fun i h1 h2 => hm i (by omega) (by omega)) (fun i j h1 h2 h3 => hr i j (by omega) h2 (by omega)) (by omega) (fun q hq => by cases hq;exact ⟨by simp only [];omega,fun hk => hr a (a + 1) (by omega) (by omega) (by omega)⟩)
    have h2 := hm a (by omega) (by omega)
    unfold firstAt at h1 h2
    simp only [h1,h2,Bool.and_true]
    rw [decide_eq_false (by omega),decide_eq_false (by omega)]
    cases o with
    | none => rfl
    | some q =>
      obtain ⟨g1,g2⟩ := ho q rfl
      have g2 := g2 (by omega)
      unfold firstAt at g2
      simp only [g2,Bool.and_true,Bool.not_false,Bool.true_and]
      rw [decide_eq_false (by omega)];rfl
theorem inner_may {p : List Pg} {a h : Nat} (hI : Inv p a h) {i k : Nat} (hi : a ≤ i) (hk : 1 ≤ k) (hk4 : k ≤ 4) (hb : i + k ≤ p.length) : mayPg (innerP p i k) = true ∧ firstPg (innerP p i k) = firstAt p i := by
  have hl := hI.len
  have hm : mayPg (innerP p i k) = true := by
    unfold mayPg innerP
    rw [if_neg (fun h => Bool.noConfusion h)]
    unfold mayInner
    rw [risesK_of p k i none (fun j h1 h2 => hI.path j (by omega) (by omega)) (fun x y h1 h2 h3 => hI.rise x y (by omega) h2 (by omega)) (by omega) (fun q hq => by cases hq)]
    simp only [List.length_map,List.length_range',List.length_nil,Bool.and_true,Bool.and_eq_true,Bool.not_eq_true',decide_eq_true_eq,decide_eq_false_iff_not]
    refine ⟨⟨⟨by omega,by omega⟩,trivial⟩,by omega⟩
  refine ⟨hm,?_⟩
  unfold firstPg
  rw [if_pos hm]
  unfold innerP
  rw [if_neg (fun h => Bool.noConfusion h)]
  obtain ⟨k,rfl⟩ : ∃ j,k = j + 1 := ⟨k - 1,by omega⟩
  rw [List.range'_succ];rfl
theorem level_inv {p : List Pg} {a h : Nat} (hI : Inv p a h) (h1 : 1 < p.length - a) : Inv (p ++ levelP p a p.length) p.length (h + 1) := by
  have hl := levelP_len p a p.length
  have hle := hI.le
  have hlen := hI.len
  have hpl : (p ++ levelP p a p.length).length = p.length + (p.length - a + 3) / 4 := by rw [List.length_append,hl]
  have hat : ∀ i,(hi : p.length ≤ i) → i < (p ++ levelP p a p.length).length → (p ++ levelP p a p.length)[i]? = some (innerP p (a + 4 * (i - p.length)) (min 4 (p.length - (a + 4 * (i - p.length))))) := fun i h1 h2 => by
    rw [List.getElem?_append_right h1]
    exact levelP_at (by omega)
  have hgd : ∀ i,p.length ≤ i → i < (p ++ levelP p a p.length).length → (p ++ levelP p a p.length).getD i zeroPg = innerP p (a + 4 * (i - p.length)) (min 4 (p.length - (a + 4 * (i - p.length)))) := fun i h1 h2 => by
    rw [List.getD_eq_getElem?_getD,hat i h1 h2];rfl
  have hin : ∀ i,p.length ≤ i → i < (p ++ levelP p a p.length).length → mayPg (innerP p (a + 4 * (i - p.length)) (min 4 (p.length - (a + 4 * (i - p.length))))) = true ∧ firstPg (innerP p (a + 4 * (i - p.length)) (min 4 (p.length - (a + 4 * (i - p.length))))) = firstAt p (a + 4 * (i - p.length)) := fun i h1 h2 =>
    inner_may hI (by omega) (by omega) (by omega) (by omega)
  refine ⟨by omega,by omega,fun x hx => ?_,fun i hi hlf n hn => ?_,fun i j hi hij hj => ?_,fun i hi hi2 => ?_,fun i hi hi2 f hf => ?_⟩
  · rcases List.mem_append.1 hx with hx | hx
    · exact hI.may x hx
    · obtain ⟨j,hj,rfl⟩ := List.mem_map.1 hx
      have hj := List.mem_range.1 hj
      exact (inner_may hI (by omega) (by omega) (by omega) (by omega)).1
  · by_cases hip : i < p.length
    · have he : (p ++ levelP p a p.length)[i] = p[i] := List.getElem_append_left hip
      rw [he] at hlf hn
      exact hI.down i hip hlf n hn
    · have he := (List.getElem?_eq_some_iff.1 (hat i (by omega) hi)).2
      rw [he] at hn
      obtain ⟨m,hm,rfl⟩ := List.mem_map.1 hn
      rw [List.mem_range'] at hm
      obtain ⟨q,hq,rfl⟩ := hm
      omega
  · unfold firstAt
    rw [hgd i hi (by omega),hgd j (by omega) hj,(hin i hi (by omega)).2,(hin j (by omega) hj).2]
    exact hI.rise _ _ (by omega) (by omega) (by omega)
  · unfold firstAt
    rw [hgd i hi hi2,(hin i hi hi2).2]
    exact hI.path _ (by omega) (by omega)
  · obtain ⟨f,rfl⟩ : ∃ g,f = g + 1 := ⟨f - 1,by omega⟩
    rw [highF,hgd i hi hi2]
    have hk : 1 ≤ min 4 (p.length - (a + 4 * (i - p.length))) := by omega
    obtain ⟨k,hk⟩ : ∃ k,min 4 (p.length - (a + 4 * (i - p.length))) = k + 1 := ⟨_,(Nat.succ_pred_eq_of_pos hk).symm⟩
    rw [hk]
    have hg : (innerP p (a + 4 * (i - p.length)) (k + 1)).pages.getD 0 0 = ((a + 4 * (i - p.length) : Nat) : Int) := by
      unfold innerP
      simp only [List.range'_succ,List.map_cons];rfl
    rw [show (innerP p (a + 4 * (i - p.length)) (k + 1)).leaf = false from rfl,if_neg (by decide),hg,Int.toNat_natCast,highF_app _ hI.may hI.down _ _ (by omega),hI.high _ (by omega) (by omega) _ (by omega)]
def upP : Nat → Nat → Nat
  | 0,_ => 0
  | n + 1,m => if 1 < m then upP n ((m + 3) / 4) + 1 else 0
theorem levels_inv : ∀ (n : Nat) {p : List Pg} {a h : Nat},Inv p a h → p.length - a ≤ 4 ^ n → ∃ b,Inv (levelsP n p a) b (h + upP n (p.length - a)) ∧ b + 1 = (levelsP n p a).length
  | 0,p,a,h,hI,hn => ⟨a,hI,by have := hI.le;rw [Nat.pow_zero] at hn;show a + 1 = p.length;omega⟩
  | n + 1,p,a,h,hI,hn => by
    rw [levelsP,upP]
    by_cases h1 : 1 < p.length - a
    · rw [if_pos h1,if_pos h1]
      have hl := levelP_len p a p.length
      have hpl : (p ++ levelP p a p.length).length - p.length = (p.length - a + 3) / 4 := by rw [List.length_append,hl];omega
      have hn4 : 4 ^ (n + 1) = 4 * 4 ^ n := by rw [Nat.pow_succ,Nat.mul_comm]
      obtain ⟨b,h2,h3⟩ := levels_inv n (level_inv hI h1) (by rw [hpl];omega)
      refine ⟨b,?_,h3⟩
      rw [hpl] at h2
      rwa [show h + (upP n ((p.length - a + 3) / 4) + 1) = h + 1 + upP n ((p.length - a + 3) / 4) by omega]
    · rw [if_neg h1,if_neg h1]
      exact ⟨a,hI,by have := hI.le;omega⟩
theorem build_inv {l : List Rec} (h : mayRecs l = true) : ∃ b,Inv (buildP l) b (1 + upP 4 ((l.length + 3) / 4)) ∧ b + 1 = (buildP l).length := by
  have hI := leaves_inv h
  have hl := leavesP_len l
  have h2 := (mayRecs_ok h).2.1
  have := levels_inv 4 hI (by rw [hl];have : 4 ^ 4 = 256 := rfl;omega)
  rw [hl] at this
  exact this
theorem build_table {l : List Rec} (h : mayRecs l = true) : TableP (buildP l) := by
  obtain ⟨b,hI,_⟩ := build_inv h
  exact tableP_of hI.may hI.down
theorem build_high {l : List Rec} (h : mayRecs l = true) : highP (buildP l) = 1 + upP 4 ((l.length + 3) / 4) := by
  obtain ⟨b,hI,hb⟩ := build_inv h
  unfold highP
  exact hI.high _ (by omega) (by omega) _ (by omega)
theorem gather_inner (p : List Pg) : ∀ {q : List Pg},(∀ x ∈ q,x.leaf = false) → gatherP (p ++ q) = gatherP p := by
  induction p with
  | nil =>
    intro q hq
    cases q with
    | nil => rfl
    | cons x r =>
      show gatherP (x :: r) = []
      rw [gatherP,if_neg (by rw [hq x (List.mem_cons_self ..)];decide)]
  | cons x p ih =>
    intro q hq
    rw [List.cons_append,gatherP,gatherP,ih hq]
theorem gather_levels : ∀ (n : Nat) (p : List Pg) (a : Nat),gatherP (levelsP n p a) = gatherP p
  | 0,_,_ => rfl
  | n + 1,p,a => by
    rw [levelsP]
    split
    · rw [gather_levels n,gather_inner]
      intro x hx
      obtain ⟨j,_,rfl⟩ := List.mem_map.1 hx
      rfl
    · rfl
theorem gather_leafs (l : List Rec) : ∀ (n j : Nat),l.length ≤ 4 * (j + n) → gatherP ((List.range' j n).map (leafP l)) = l.drop (4 * j)
  | 0,j,h => by rw [List.drop_of_length_le (by omega)];rfl
  | n + 1,j,h => by
    rw [List.range'_succ,List.map_cons,gatherP,gather_leafs l n (j + 1) (by omega)]
    show (if (leafP l j).leaf = true then (l.drop (4 * j)).take 4 ++ l.drop (4 * (j + 1)) else []) = _
    rw [if_pos (show (leafP l j).leaf = true from rfl),show 4 * (j + 1) = 4 * j + 4 by omega,← List.drop_drop,List.take_append_drop]
theorem gather_build (l : List Rec) : gatherP (buildP l) = l := by
  unfold buildP
  rw [gather_levels]
  unfold leavesP
  rw [List.range_eq_range',gather_leafs l _ 0 (by omega)];rfl
theorem gatherA_eq : ∀ {ps : List Pg} {acc : List Rec},(∀ x ∈ ps,x.leaf = true → x.recs.length ≤ 4) → acc.length + (gatherP ps).length ≤ 100 → gatherA ps acc = some (acc ++ gatherP ps)
  | [],acc,_,_ => by rw [gatherA,gatherP,List.append_nil]
  | x :: r,acc,h1,h2 => by
    rw [gatherA,gatherP]
    by_cases hl : x.leaf = true
    · rw [if_pos hl,if_pos hl]
      rw [gatherP,if_pos hl,List.length_append] at h2
      have := h1 x (List.mem_cons_self ..) hl
      rw [if_neg (by omega),gatherA_eq (fun y hy => h1 y (List.mem_cons_of_mem _ hy)) (by rw [List.length_append];omega),List.append_assoc]
    · rw [if_neg hl,if_neg hl,List.append_nil]
theorem open_build {l : List Rec} (h : mayRecs l = true) : openB (buildP l) = true := by
  obtain ⟨b,hI,_⟩ := build_inv h
  have h2 := (mayRecs_ok h).2.1
  have hg := gatherA_eq (ps := buildP l) (acc := []) (fun x hx hl => by
    have := hI.may x hx
    unfold mayPg at this
    rw [if_pos hl] at this
    unfold mayLeaf at this
    simp only [Bool.and_eq_true,Bool.not_eq_true',decide_eq_false_iff_not] at this
    omega) (by rw [gather_build,List.length_nil];omega)
  unfold openB
  rw [hg,gather_build]
  simp only [List.nil_append]
  rw [h];simp
end Go.Proofs.YteamlijbkldlhaaGreat.DbSpec
end
