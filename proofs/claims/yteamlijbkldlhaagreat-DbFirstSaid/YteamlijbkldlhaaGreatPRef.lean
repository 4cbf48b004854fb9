import Derived.Test.YteamlijbkldlhaaGreatRBare
import Derived.Test.YteamlijbkldlhaaGreatKU4
section
set_option linter.unusedSimpArgs false
set_option linter.unusedVariables false
namespace Go.Proofs.YteamlijbkldlhaaGreat.PageSpec
open AclSpec MetaSpec NodeSpec RecSpec PathSpec

structure Pg where
  leaf : Bool
  recs : List Rec
  keys : List (List UInt8)
  pages : List Int
  deriving DecidableEq,Inhabited
def zeroPg : Pg := ⟨false,[],[],[]⟩
def risesR : Option (List UInt8) → List Rec → Bool
  | _,[] => true
  | o,r :: l => mayRec r && (match o with | none => true | some p => lessB p r.path) && risesR (some r.path) l
def risesK : Option (List UInt8 × Int) → List (List UInt8) → List Int → Bool
  | o,k :: ks,n :: ns => (!decide (n < 0) && !decide (10000 < n) && mayB k) && (match o with | none => true | some q => !decide (n ≤ q.2) && lessB q.1 k) && risesK (some (k,n)) ks ns
  | _,_,_ => true
def mayLeaf (p : Pg) : Bool := !decide (p.recs.length < 1) && !decide (4 < p.recs.length) && !decide (0 < p.keys.length) && !decide (0 < p.pages.length) && risesR none p.recs
def mayInner (p : Pg) : Bool := !decide (p.pages.length < 1) && !decide (4 < p.pages.length) && decide (p.keys.length = p.pages.length) && !decide (0 < p.recs.length) && risesK none p.keys p.pages
def mayPg (p : Pg) : Bool := if p.leaf = true then mayLeaf p else mayInner p
def firstPg (p : Pg) : List UInt8 := if mayPg p = true then (if p.leaf = true then (p.recs.head?.map (·.path)).getD [] else p.keys.head?.getD []) else []

theorem risesR_all : ∀ {l : List Rec} {o : Option (List UInt8)},risesR o l = true → ∀ r ∈ l,mayRec r = true
  | [],_,_,r,h => by cases h
  | a :: l,o,h,r,hr => by
    rw [risesR.eq_def] at h
    simp only [Bool.and_eq_true] at h
    rcases List.mem_cons.1 hr with rfl | hr
    · exact h.1.1
    · exact risesR_all h.2 r hr
end Go.Proofs.YteamlijbkldlhaaGreat.PageSpec
end
section
set_option linter.unusedSimpArgs false
set_option linter.unusedVariables false
namespace Go.Proofs.YteamlijbkldlhaaGreat.PageSpec
open AclSpec MetaSpec NodeSpec RecSpec PathSpec

theorem numD_bad {c : UInt8} (h : digB c = false) (l r : List UInt8) (a : Nat) : numD (l ++ c :: r) a = none := by
  rw [numD_app]
  cases numD l a with
  | none => rfl
  | some b =>
    show numD (c :: r) b = none
    rw [numD,h];rfl
theorem split_at {s : List UInt8} {i : Nat} {c : UInt8} (hc : s[i]? = some c) : s = s.take i ++ c :: s.drop (i + 1) := by
  obtain ⟨hi,rfl⟩ := List.getElem?_eq_some_iff.1 hc
  rw [← List.drop_eq_getElem_cons hi,List.take_append_drop]
theorem lenS_bad {s : List UInt8} {i : Nat} {c : UInt8} (hc : s[i]? = some c) (h : digB c = false) : lenS s = 0 := by
  have e : numD s 0 = none := by rw [split_at hc];exact numD_bad h _ _ _
  unfold lenS
  rw [e]
  split <;> rfl
theorem lenS_head {s : List UInt8} (h : s.head? = some 48) : lenS s = 0 := by unfold lenS;rw [if_pos (.inr h)]
theorem lenS_long {s : List UInt8} (h : 4 < s.length) : lenS s = 0 := by unfold lenS;rw [if_pos (.inl h)]
theorem numD_take {s : List UInt8} {i n : Nat} {c : UInt8} (hc : s[i]? = some c) (h : numD (s.take i) 0 = some n) (hd : digB c = true) : numD (s.take (i + 1)) 0 = some (10 * n + (c.toNat - 48)) := by
  obtain ⟨hi,rfl⟩ := List.getElem?_eq_some_iff.1 hc
  rw [List.take_succ_eq_append_getElem hi,numD_app,h]
  show numD [s[i]] n = _
  rw [numD,hd,if_pos rfl,numD]
def fullZ : List Piece → Option (List Piece)
  | [] => some []
  | p :: r => if lenS p.dat = 0 then none else (fullZ r).map (⟨p.pos,List.replicate (lenS p.dat) 0⟩ :: ·)
def fullR (n : FNode) : FNode × Bool := match fullZ n.dat with
  | none => (zeroN,false)
  | some l => ({ n with dat := l },mayN { n with dat := l })
def mayRecR (r : Rec) : Bool := mayB r.path && !decide (r.lead < 0) && !decide (100 ≤ r.lead) && !decide (r.pos < 0) && !decide (400000 < r.pos) &&
  (if r.node = zeroN then decide (r.pos = 0) else (fullR r.node).2 && (decide (r.pos = 0) || !r.node.dat.isEmpty))
theorem fullZ_P : ∀ l : List Piece,(fullP l = none ∧ fullZ l = none) ∨ ∃ m k,fullP l = some m ∧ fullZ l = some k ∧ shapeP m = shapeP k ∧ k.length = l.length
  | [] => .inr ⟨[],[],rfl,rfl,rfl,rfl⟩
  | p :: l => by
    rw [fullP,fullZ]
    split
    · exact .inl ⟨rfl,rfl⟩
    · rcases fullZ_P l with ⟨h1,h2⟩ | ⟨m,k,h1,h2,h3,h4⟩
      · rw [h1,h2];exact .inl ⟨rfl,rfl⟩
      · rw [h1,h2]
        refine .inr ⟨_,_,rfl,rfl,?_,by simp [h4]⟩
        unfold shapeP at h3 ⊢
        rw [List.map_cons,List.map_cons,h3]
        simp
theorem fullZ_small : ∀ {l k : List Piece},fullZ l = some k → k.length = l.length ∧ ∀ p ∈ k,p.dat.length ≤ 4000
  | [],k,h => by cases h;exact ⟨rfl,fun p hp => by cases hp⟩
  | p :: l,k,h => by
    rw [fullZ] at h
    split at h
    · cases h
    · obtain ⟨k',hk,rfl⟩ := Option.map_eq_some_iff.1 h
      obtain ⟨i1,i2⟩ := fullZ_small hk
      refine ⟨by simp [i1],fun q hq => ?_⟩
      rcases List.mem_cons.1 hq with rfl | hq
      · show (List.replicate (lenS p.dat) (0 : UInt8)).length ≤ 4000
        rw [List.length_replicate]
        unfold lenS
        split
        · omega
        · split
          · split <;> omega
          · omega
      · exact i2 q hq
theorem may_other {n : FNode} (h2 : ¬ n.kind = 2) (hd : n.dat ≠ []) : mayN n = false := by
  unfold mayN
  rw [decide_eq_false h2,decide_eq_false hd]
  simp
theorem may_many {n : FNode} (h2 : n.kind = 2) (hd : 16 < n.dat.length) : mayN n = false := by
  unfold mayN
  rw [if_pos h2]
  unfold mayFileN
  rw [decide_eq_true hd]
  simp
theorem mayRecR_eq (r : Rec) : mayRecR r = mayRec r := by
  unfold mayRecR mayRec
  congr 1
  split
  · rfl
  obtain ⟨path,lead,n,pos⟩ := r
  simp only
  unfold fullR fullN
  rcases fullZ_P n.dat with ⟨h1,h2⟩ | ⟨m,k,h1,h2,h3,h4⟩
  · rw [h1,h2]
    by_cases hk : n.kind = 2
    · rw [if_pos hk]
      by_cases h16 : 16 < n.dat.length
      · rw [if_pos h16];rfl
      · rw [if_neg h16];rfl
    · rw [if_neg hk]
      have hd : n.dat ≠ [] := by rintro c;rw [c] at h1;cases h1
      simp only
      unfold mayNR
      rw [may_other hk hd];rfl
  · rw [h1,h2]
    simp only
    have hs := may_shape (n := { n with dat := m }) (l := k) h3.symm
    simp only at hs
    by_cases hk : n.kind = 2
    · rw [if_pos hk]
      by_cases h16 : 16 < n.dat.length
      · rw [if_pos h16,may_many (n := { n with dat := k }) hk (by show 16 < k.length;omega)];rfl
      · rw [if_neg h16]
        simp only [Option.map_some]
        unfold mayNR
        have hml := shape_len h3
        have he : m.isEmpty = n.dat.isEmpty := by
          rw [Bool.eq_iff_iff,List.isEmpty_iff,List.isEmpty_iff]
          constructor <;> intro c
          · exact List.eq_nil_of_length_eq_zero (by rw [c] at hml;simp at hml;omega)
          · exact List.eq_nil_of_length_eq_zero (by rw [c] at h4;simp at h4;rw [hml,h4];rfl)
        show (mayN _ && _) = (mayN _ && (decide (pos = 0) || (decide (n.kind = 2) && !m.isEmpty)))
        rw [hs,he,decide_eq_true hk,Bool.true_and]
    · rw [if_neg hk]
      simp only
      unfold mayNR
      rw [decide_eq_false hk]
      by_cases hd : n.dat = []
      · rw [hd] at h2 h4
        have hk0 : k = [] := List.eq_nil_of_length_eq_zero (by simpa using h4)
        subst hk0
        have : ({ n with dat := [] } : FNode) = n := by rw [← hd]
        rw [this,hd];rfl
      · rw [may_other (n := { n with dat := k }) hk (by intro c;have c : k = [] := c;rw [c] at h4;exact hd (List.eq_nil_of_length_eq_zero (by simpa using h4.symm))),may_other hk hd]
        rfl
theorem mayN_target {n : FNode} (h : mayN n = true) : n.target.length ≤ 200 := by
  unfold mayN at h
  simp only [Bool.and_eq_true] at h
  obtain ⟨⟨⟨_,h1⟩,_⟩,h2⟩ := h
  by_cases hk : n.kind = 3
  · rw [if_neg (by omega),if_pos hk] at h2
    simp only [Bool.and_eq_true,decide_eq_true_eq] at h2
    exact h2.1.2
  · rw [decide_eq_false hk,Bool.false_or,decide_eq_true_eq] at h1
    rw [h1];simp
theorem mayRec_target {r : Rec} (h : mayRec r = true) : r.node.target.length ≤ 200 := by
  unfold mayRec at h
  rw [Bool.and_eq_true] at h
  have h := h.2
  split at h
  · rename_i hz;rw [hz];decide
  · split at h
    · cases h
    · rename_i n hn
      unfold mayNR at h
      rw [Bool.and_eq_true] at h
      have ht := mayN_target h.1
      have : n.target = r.node.target := by
        unfold fullN at hn
        split at hn
        · split at hn
          · cases hn
          · obtain ⟨k,_,rfl⟩ := Option.map_eq_some_iff.1 hn
            rfl
        · cases hn;rfl
      rwa [this] at ht
theorem mayPg_leaf {p : Pg} (h : p.leaf = true) : mayPg p = (risesR none p.recs && (decide (1 ≤ p.recs.length) && (decide (p.recs.length ≤ 4) && (decide (p.keys.length = 0) && decide (p.pages.length = 0))))) := by
  unfold mayPg mayLeaf
  rw [if_pos h,Bool.eq_iff_iff]
  simp only [Bool.and_eq_true,Bool.not_eq_true',decide_eq_true_eq,decide_eq_false_iff_not]
  constructor
  · rintro ⟨⟨⟨⟨a,b⟩,c⟩,d⟩,e⟩;exact ⟨e,by omega,by omega,by omega,by omega⟩
  · rintro ⟨e,a,b,c,d⟩;exact ⟨⟨⟨⟨by omega,by omega⟩,by omega⟩,by omega⟩,e⟩
end Go.Proofs.YteamlijbkldlhaaGreat.PageSpec
end
