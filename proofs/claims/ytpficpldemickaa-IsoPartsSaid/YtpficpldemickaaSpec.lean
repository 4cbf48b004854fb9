import GoSem.Op.String
import Derived.Lib.Split
import Derived.Lib.LastIndexByte
set_option linter.unusedSimpArgs false
set_option linter.unusedVariables false
namespace Go.Proofs.Ytpficpldemickaa.PathSpec

def okc (c : UInt8) : Bool := !(c == 47) && !(c == 0)

def nameB (l : List UInt8) : Bool :=
  decide (1 ≤ l.length) && decide (l.length ≤ 20) && !(l == [46]) && !(l == [46,46]) && l.all okc

theorem nameB_lo {l : List UInt8} (h : (l.length : Int) < 1) : nameB l = false := by
  have : ¬ 1 ≤ l.length := by omega
  simp only [nameB,decide_eq_false this,Bool.false_and]
theorem nameB_hi {l : List UInt8} (h : 20 < (l.length : Int)) : nameB l = false := by
  have : ¬ l.length ≤ 20 := by omega
  simp only [nameB,decide_eq_false this,Bool.false_and,Bool.and_false]
theorem nameB_dot : nameB [46] = false := by decide
theorem nameB_dots : nameB [46,46] = false := by decide
theorem nameB_all {l : List UInt8} (h1 : 1 ≤ (l.length : Int)) (h2 : (l.length : Int) ≤ 20) (h3 : ¬ l = [46]) (h4 : ¬ l = [46,46]) : nameB l = (l.drop 0).all okc := by
  have a : 1 ≤ l.length := by omega
  have b : l.length ≤ 20 := by omega
  simp [nameB,a,b,h3,h4]
theorem all_drop_succ {l : List UInt8} {i : Nat} (h : i < l.length) : (l.drop i).all okc = (okc l[i] && (l.drop (i + 1)).all okc) := by
  rw [List.drop_eq_getElem_cons h,List.all_cons]
theorem all_take_succ {l : List UInt8} {i : Nat} (h : i < l.length) : (l.take (i + 1)).all okc = ((l.take i).all okc && okc l[i]) := by
  rw [List.take_succ_eq_append_getElem h,List.all_append];simp
theorem nameB_bad {l : List UInt8} {i : Nat} (h : i < l.length) (hb : okc l[i] = false) : nameB l = false := by
  have : l.all okc = false := by
    rw [List.all_eq_false];exact ⟨l[i],List.getElem_mem _,by simp [hb]⟩
  simp [nameB,this]
theorem nameB_rest {l : List UInt8} (h : (l.take l.length).all okc = true) :
    nameB l = (decide (1 ≤ l.length) && decide (l.length ≤ 20) && !(l == [46]) && !(l == [46,46])) := by
  rw [List.take_of_length_le (Nat.le_refl _)] at h
  simp [nameB,h]
def names : List UInt8 → List (List UInt8)
  | [] => [[]]
  | c :: t => if c = 47 then [] :: names t else
      match names t with
      | [] => [[c]]
      | h :: r => (c :: h) :: r
def hd (l : List UInt8) : List UInt8 := l.takeWhile (fun c => !(c == 47))
def tl (l : List UInt8) : List UInt8 := (l.dropWhile (fun c => !(c == 47))).drop 1
def has (l : List UInt8) : Bool := l.any (fun c => c == 47)

@[simp] theorem hd_slash (t : List UInt8) : hd (47 :: t) = [] := by simp [hd]
@[simp] theorem tl_slash (t : List UInt8) : tl (47 :: t) = t := by simp [tl]
@[simp] theorem has_slash (t : List UInt8) : has (47 :: t) = true := by simp [has]
theorem hd_other {c : UInt8} (t : List UInt8) (h : c ≠ 47) : hd (c :: t) = c :: hd t := by simp [hd,h]
theorem tl_other {c : UInt8} (t : List UInt8) (h : c ≠ 47) : tl (c :: t) = tl t := by simp [tl,h]
theorem has_other {c : UInt8} (t : List UInt8) (h : c ≠ 47) : has (c :: t) = has t := by simp [has,h]
theorem cut_has {l : List UInt8} (h : has l = true) : l = hd l ++ 47 :: tl l := by
  induction l with
  | nil => cases h
  | cons c t ih =>
    by_cases e : c = 47
    · subst e;simp
    · rw [hd_other t e,tl_other t e,List.cons_append,← ih (by rwa [has_other t e] at h)]
theorem cut_none {l : List UInt8} (h : has l = false) : hd l = l ∧ tl l = [] := by
  induction l with
  | nil => exact ⟨rfl,rfl⟩
  | cons c t ih =>
    by_cases e : c = 47
    · subst e;simp at h
    · rw [has_other t e] at h
      rw [hd_other t e,tl_other t e,(ih h).1,(ih h).2];exact ⟨rfl,rfl⟩
theorem has_hd (l : List UInt8) : has (hd l) = false := by
  induction l with
  | nil => rfl
  | cons c t ih =>
    by_cases e : c = 47
    · subst e;rfl
    · rw [hd_other t e,has_other _ e,ih]
theorem names_cut (l : List UInt8) : names l = hd l :: (if has l then names (tl l) else []) := by
  induction l with
  | nil => rfl
  | cons c t ih =>
    by_cases h : c = 47
    · subst h;simp [names]
    · rw [hd_other t h,tl_other t h,has_other t h]
      simp only [names,if_neg h]
      rw [ih]
theorem names_ne (l : List UInt8) : names l ≠ [] := by rw [names_cut];simp
theorem names_pos (l : List UInt8) : 1 ≤ (names l).length := by rw [names_cut];simp
theorem names_has {l : List UInt8} (h : has l = true) : names l = hd l :: names (tl l) := by rw [names_cut,if_pos h]
theorem names_none {l : List UInt8} (h : has l = false) : names l = [l] := by
  rw [names_cut,h,(cut_none h).1];rfl
def cutInv (l : List UInt8) (cs : List (List UInt8)) (f k : Nat) : Prop :=
  cs.length ≤ k ∧ k ≤ l.length + 1 ∧ f ≤ k ∧ ((k ≤ l.length ∧ names l = cs ++ names (l.drop f) ∧ has ((l.drop f).take (k - f)) = false) ∨ (k = l.length + 1 ∧ cs = names l))
theorem cutInv_start (l : List UInt8) : cutInv l [] 0 0 := ⟨by simp,by simp,by simp,.inl ⟨by simp,by simp,by simp [has]⟩⟩
theorem cutInv_done {l : List UInt8} {cs : List (List UInt8)} {f k : Nat} (h : cutInv l cs f k) (hk : ¬ k ≤ l.length) : cs = names l := by
  obtain ⟨_,_,_,h | h⟩ := h
  · omega
  · exact h.2
theorem has_append (a b : List UInt8) : has (a ++ b) = (has a || has b) := by simp [has]
theorem hd_append {a : List UInt8} (h : has a = false) (b : List UInt8) : hd (a ++ 47 :: b) = a ∧ tl (a ++ 47 :: b) = b := by
  induction a with
  | nil => simp
  | cons c t ih =>
    by_cases e : c = 47
    · subst e;simp at h
    · rw [has_other t e] at h
      rw [List.cons_append,hd_other _ e,tl_other _ e,(ih h).1,(ih h).2];exact ⟨rfl,rfl⟩
theorem cutInv_end {l : List UInt8} {cs : List (List UInt8)} {f k : Nat} (h : cutInv l cs f k) (hk : k = l.length) : cutInv l (cs ++ [(l.take k).drop f]) (k + 1) (k + 1) := by
  subst hk
  obtain ⟨h1,h2,h3,h | h⟩ := h
  · refine ⟨by simp;omega,by omega,by omega,.inr ⟨rfl,?_⟩⟩
    rw [List.take_of_length_le (by simp)] at h
    rw [h.2.1,names_none h.2.2,List.take_of_length_le (by simp)]
  · omega
theorem cutInv_sep {l : List UInt8} {cs : List (List UInt8)} {f k : Nat} (h : cutInv l cs f k) (hk : k < l.length) (hc : l[k] = 47) : cutInv l (cs ++ [(l.take k).drop f]) (k + 1) (k + 1) := by
  obtain ⟨h1,h2,h3,h | h⟩ := h
  · refine ⟨by simp;omega,by omega,by omega,.inl ⟨by omega,?_,by simp [has]⟩⟩
    have e : l.drop f = (l.take k).drop f ++ 47 :: l.drop (k + 1) := by
      rw [← hc,← List.drop_eq_getElem_cons hk]
      conv => lhs;rw [← List.take_append_drop k l]
      rw [List.drop_append]
      have : f - (l.take k).length = 0 := by simp;omega
      rw [this,List.drop_zero]
    have hn : has ((l.take k).drop f) = false := by
      have := h.2.2
      rw [List.take_drop] at this
      rwa [show f + (k - f) = k by omega] at this
    have hh : has (l.drop f) = true := by rw [e,has_append];simp
    rw [h.2.1,names_has hh,e,(hd_append hn _).1,(hd_append hn _).2];simp
  · omega
theorem cutInv_skip {l : List UInt8} {cs : List (List UInt8)} {f k : Nat} (h : cutInv l cs f k) (hk : k < l.length) (hc : l[k] ≠ 47) : cutInv l cs f (k + 1) := by
  obtain ⟨h1,h2,h3,h | h⟩ := h
  · refine ⟨by omega,by omega,by omega,.inl ⟨by omega,h.2.1,?_⟩⟩
    have e : (l.drop f).take (k + 1 - f) = (l.drop f).take (k - f) ++ [l[k]] := by
      rw [show k + 1 - f = (k - f) + 1 by omega,List.take_succ_eq_append_getElem (by simp;omega)]
      congr 2
      rw [List.getElem_drop]
      congr 1;omega
    rw [e,has_append,h.2.2]
    simp [has,hc]
  · omega
theorem tl_lt {l : List UInt8} (h : has l = true) : (hd l).length + (tl l).length + 1 = l.length := by
  have := congrArg List.length (cut_has h)
  simp at this;omega
theorem hd_le (l : List UInt8) : (hd l).length ≤ l.length := by
  cases h : has l
  · rw [(cut_none h).1];exact Nat.le_refl _
  · have := tl_lt h;omega
theorem tl_le (l : List UInt8) : (tl l).length ≤ l.length := by
  cases h : has l
  · rw [(cut_none h).2];exact Nat.zero_le _
  · have := tl_lt h;omega
theorem lib_index (l : List UInt8) : Lib.index l [47] = if has l then ((hd l).length : Int) else -1 := by
  induction l with
  | nil => rfl
  | cons c t ih =>
    by_cases e : c = 47
    · subst e;simp [Lib.index]
    · have : ([47] : List UInt8).isPrefixOf (c :: t) = false := by simp [List.isPrefixOf,Ne.symm e]
      rw [hd_other t e,has_other t e,Lib.index,this,ih]
      cases has t
      · rfl
      · have h0 : (((hd t).length : Int) == -1) = false := by rw [beq_eq_false_iff_ne];omega
        simp [h0]
theorem lib_cut (l : List UInt8) : Lib.cut l [47] = (hd l,tl l,has l) := by
  unfold Lib.cut
  rw [lib_index]
  cases h : has l
  · simp [(cut_none h).1,(cut_none h).2]
  · have e := cut_has h
    simp only [if_true,Int.natCast_nonneg,Int.toNat_natCast,List.length_cons,List.length_nil,Nat.zero_add]
    have ab : ∀ x y : List UInt8,l = x ++ 47 :: y → l.take x.length = x ∧ l.drop (x.length + 1) = y := by
      rintro x y rfl
      simp
    rw [(ab _ _ e).1,(ab _ _ e).2]

theorem names_mem {l x : List UInt8} (h : x ∈ names l) : x.length ≤ l.length := by
  induction hn : l.length using Nat.strongRecOn generalizing l with
  | _ n ih =>
    cases hh : has l
    · rw [names_none hh] at h
      simp at h;subst h;omega
    · rw [names_has hh] at h
      have := tl_lt hh
      rcases List.mem_cons.1 h with rfl | h
      · omega
      · have := ih (tl l).length (by omega) h rfl
        omega
theorem names_len (l : List UInt8) : (names l).length ≤ l.length + 1 := by
  induction hn : l.length using Nat.strongRecOn generalizing l with
  | _ n ih =>
    cases hh : has l
    · rw [names_none hh];simp
    · rw [names_has hh]
      have := tl_lt hh
      have := ih (tl l).length (by omega) (tl l) rfl
      simp;omega
def mayK (k : Nat) (l : List UInt8) : Bool := (names l).all nameB && decide (k + (names l).length ≤ 8)
def mayB (l : List UInt8) : Bool := l.isEmpty || (decide (l.length ≤ 100) && mayK 0 l)
theorem mayK_name {k : Nat} {l : List UInt8} (h : nameB (hd l) = false) : mayK k l = false := by
  unfold mayK;rw [names_cut];simp [h]
theorem mayK_full (l : List UInt8) : mayK 8 l = false := by
  unfold mayK
  have := names_pos l
  have : ¬ 8 + (names l).length ≤ 8 := by omega
  simp [this]
theorem mayK_more {k : Nat} {l : List UInt8} (h : nameB (hd l) = true) (hh : has l = true) : mayK k l = mayK (k + 1) (tl l) := by
  unfold mayK;rw [names_has hh]
  simp only [List.all_cons,h,Bool.true_and,List.length_cons]
  congr 2
  simp;omega
theorem mayK_last {k : Nat} {l : List UInt8} (h : nameB (hd l) = true) (hh : has l = false) (hk : k < 8) : mayK k l = true := by
  unfold mayK;rw [names_none hh]
  rw [(cut_none hh).1] at h
  simp [h];omega
theorem mayB_bad {l : List UInt8} {k : Nat} {x : List UInt8} (h0 : l ≠ []) (h : (names l)[k]? = some x) (hx : nameB x = false) : mayB l = false := by
  have he : l.isEmpty = false := by simp [h0]
  have : (names l).all nameB = false := by
    rw [List.all_eq_false];exact ⟨x,List.mem_of_getElem? h,by simp [hx]⟩
  simp [mayB,he,mayK,this]
theorem mayB_all {l : List UInt8} (h0 : l ≠ []) (h : ((names l).take (names l).length).all nameB = true) : mayB l = (decide (l.length ≤ 100) && decide ((names l).length ≤ 8)) := by
  have he : l.isEmpty = false := by simp [h0]
  rw [List.take_of_length_le (Nat.le_refl _)] at h
  simp [mayB,he,mayK,h]
theorem allN_succ {xs : List (List UInt8)} {k : Nat} {x : List UInt8} (h : xs[k]? = some x) (hx : nameB x = true) (ha : (xs.take k).all nameB = true) : (xs.take (k + 1)).all nameB = true := by
  obtain ⟨hk,rfl⟩ := List.getElem?_eq_some_iff.1 h
  rw [List.take_succ_eq_append_getElem hk,List.all_append,ha];simp [hx]
theorem mayB_long {l : List UInt8} (h : 100 < l.length) : mayB l = false := by
  have : l.isEmpty = false := by cases l <;> simp_all
  have : ¬ l.length ≤ 100 := by omega
  simp_all [mayB];omega
theorem mayB_go {l : List UInt8} (h0 : l ≠ []) (h : l.length ≤ 100) : mayB l = mayK 0 l := by
  have : l.isEmpty = false := by cases l <;> simp_all
  simp [mayB,this,h]

def partsB (l : List UInt8) : List (List UInt8) := if l.isEmpty || !mayB l then [] else names l
def lst (l : List UInt8) : List UInt8 := (names l).getLastD []
def par (l : List UInt8) : List UInt8 := l.take (l.length - (lst l).length - 1)
def lastB (l : List UInt8) : List UInt8 := (partsB l).getLastD []
def depthB (l : List UInt8) : Int := if mayB l then ((partsB l).length : Int) else -1
def parentB (l : List UInt8) : List UInt8 × Bool := if l.isEmpty || !mayB l then ([],false) else (par l,true)
def joinB (a b : List UInt8) : List UInt8 × Int :=
  if !mayB a || !nameB b then ([],1) else
    let s := if a.isEmpty then b else a ++ 47 :: b
    if !mayB s then ([],2) else (s,0)
def underB (s t : List UInt8) : Bool := mayB s && mayB t && (t.isEmpty || s == t || (t ++ [47]).isPrefixOf s)
def lessL : List (List UInt8) → List (List UInt8) → Bool
  | [],[] => false
  | [],_ :: _ => true
  | _ :: _,[] => false
  | x :: xs,y :: ys => if x == y then lessL xs ys else Op.bytesLess x y
def lessB (a b : List UInt8) : Bool := lessL (partsB a) (partsB b)

theorem partsB_len (l : List UInt8) : (partsB l).length ≤ 8 := by
  unfold partsB
  split
  · simp
  · rename_i h
    simp only [Bool.or_eq_true,Bool.not_eq_true',not_or,Bool.not_eq_false] at h
    have hm := h.2
    simp only [mayB,h.1,mayK,Bool.or_eq_true,Bool.and_eq_true,decide_eq_true_eq] at hm
    rcases hm with hm | hm
    · exact absurd hm (by simp)
    · omega
def P (a : List UInt8) : List (List UInt8) := if a.isEmpty then [] else names a
def good (a : List UInt8) : Prop := a.length ≤ 100 ∧ ∀ x ∈ P a,x ≠ []
def nrm (a : List UInt8) : List UInt8 := if mayB a then a else []
theorem nrm_yes {a : List UInt8} (h : mayB a = true) : nrm a = a := by simp [nrm,h]
theorem nrm_no {a : List UInt8} (h : mayB a = false) : nrm a = [] := by simp [nrm,h]
theorem partsB_nrm (a : List UInt8) : partsB a = P (nrm a) := by
  unfold partsB P nrm
  cases mayB a <;> simp
theorem good_nil : good [] := ⟨by simp,by simp [P]⟩
theorem nameB_ne {x : List UInt8} (h : nameB x = true) : x ≠ [] := by rintro rfl;simp [nameB] at h
theorem good_nrm (a : List UInt8) : good (nrm a) := by
  unfold nrm
  cases h : mayB a
  · exact good_nil
  · simp only [if_true]
    cases he : a.isEmpty
    · simp only [mayB,he,mayK,Bool.false_or,Bool.and_eq_true,decide_eq_true_eq,List.all_eq_true] at h
      refine ⟨h.1,?_⟩
      simp only [P,he,Bool.false_eq_true,if_false]
      exact fun x hx => nameB_ne (h.2.1 x hx)
    · have : a = [] := by simpa using he
      subst this;exact good_nil
theorem P_step {a : List UInt8} (h0 : a ≠ []) (hg : good a) : P a = hd a :: P (tl a) ∧ good (tl a) := by
  have he : a.isEmpty = false := by simp [h0]
  obtain ⟨hl,hg⟩ := hg
  have htl := tl_le a
  simp only [P,he,Bool.false_eq_true,if_false] at hg ⊢
  cases hh : has a
  · rw [names_none hh,(cut_none hh).1,(cut_none hh).2]
    exact ⟨rfl,good_nil⟩
  · rw [names_has hh] at hg ⊢
    have ht : (tl a).isEmpty = false := by
      cases ht : tl a
      · exfalso;rw [ht] at hg;exact hg [] (by simp [names]) rfl
      · rfl
    simp only [ht,Bool.false_eq_true,if_false,true_and]
    refine ⟨by omega,fun x hx => hg x ?_⟩
    simp only [P,ht,Bool.false_eq_true,if_false] at hx
    exact List.mem_cons_of_mem _ hx
theorem P_ne {a : List UInt8} (h0 : a ≠ []) : P a ≠ [] := by
  have he : a.isEmpty = false := by simp [h0]
  simp only [P,he,Bool.false_eq_true,if_false];exact names_ne a
theorem lessP_nil (b : List UInt8) : lessL (P []) (P b) = !b.isEmpty := by
  by_cases h : b = []
  · subst h;rfl
  · have := P_ne h
    have e : b.isEmpty = false := by simp [h]
    rw [e]
    cases hp : P b with
    | nil => exact absurd hp this
    | cons x xs => rfl
theorem lessP_end {a : List UInt8} (h0 : a ≠ []) : lessL (P a) (P []) = false := by
  have := P_ne h0
  cases hp : P a with
  | nil => exact absurd hp this
  | cons x xs => rfl
theorem lst_none {l : List UInt8} (h : has l = false) : lst l = l := by simp [lst,names_none h]
theorem names_cons2 {c : UInt8} {t : List UInt8} (h : c ≠ 47) : names (c :: t) = (c :: hd t) :: (names t).tail := by
  rw [names_cut,hd_other t h,has_other t h,tl_other t h,names_cut t];rfl
theorem lst_slash (t : List UInt8) : lst (47 :: t) = lst t := by
  unfold lst
  simp only [names,if_true]
  cases h : names t with
  | nil => exact absurd h (names_ne t)
  | cons a r => rfl
theorem lst_other {c : UInt8} {t : List UInt8} (h : c ≠ 47) (ht : has t = true) : lst (c :: t) = lst t := by
  unfold lst
  rw [names_cons2 h,names_has ht]
  cases hr : names (tl t) with
  | nil => exact absurd hr (names_ne _)
  | cons a r => rfl
theorem lst_split {l : List UInt8} (h : has l = true) : (∃ p,l = p ++ 47 :: lst l) ∧ has (lst l) = false := by
  induction l with
  | nil => cases h
  | cons c t ih =>
    by_cases e : c = 47
    · subst e
      rw [lst_slash]
      cases ht : has t
      · rw [lst_none ht];exact ⟨⟨[],rfl⟩,ht⟩
      · obtain ⟨⟨p,hp⟩,h2⟩ := ih ht
        exact ⟨⟨47 :: p,by rw [List.cons_append,← hp]⟩,h2⟩
    · rw [has_other t e] at h
      obtain ⟨⟨p,hp⟩,h2⟩ := ih h
      rw [lst_other e h]
      exact ⟨⟨c :: p,by rw [List.cons_append,← hp]⟩,h2⟩
theorem par_split {l : List UInt8} (h : has l = true) : l = par l ++ 47 :: lst l := by
  obtain ⟨p,hp⟩ := (lst_split h).1
  have e : par l = p := by
    have hl := congrArg List.length hp
    simp at hl
    have : l.length - (lst l).length - 1 = p.length := by omega
    have ht : ∀ y,l = p ++ y → l.take p.length = p := by rintro y rfl;simp
    unfold par;rw [this];exact ht _ hp
  rw [e];exact hp
theorem par_none {l : List UInt8} (h : has l = false) : par l = [] := by
  unfold par;rw [lst_none h]
  have : l.length - l.length - 1 = 0 := by omega
  rw [this];rfl
theorem has_false {l : List UInt8} (h : has l = false) : ∀ c ∈ l,c ≠ 47 := by
  intro c hc e
  subst e
  have : has l = true := by unfold has;rw [List.any_eq_true];exact ⟨47,hc,rfl⟩
  rw [h] at this;cases this
theorem lib_last {l : List UInt8} : Lib.lastIndexByte ⟨l.toArray⟩ 47 = if has l then ((par l).length : Int) else -1 := by
  have gd : ∀ (x : List UInt8) (j : Nat) (hj : j < x.length),(x.toArray[j]! : UInt8) = x[j] := by
    intro x j hj;simp [hj]
  rcases Lib.lastIndexByte_spec ⟨l.toArray⟩ 47 with ⟨e,hn⟩ | ⟨i,hi,e,hc,hn⟩
  · rw [e]
    cases h : has l
    · rfl
    · exfalso
      have hp := par_split h
      have hl := congrArg List.length hp
      simp at hl
      have hj : (par l).length < l.length := by omega
      have := hn (par l).length (by show _ < l.toArray.size;simpa using hj)
      apply this
      show ((l.toArray[(par l).length]! : UInt8).toNat : Int) = 47
      rw [gd l _ hj]
      have : ∀ (p y : List UInt8) (hlt : p.length < l.length),l = p ++ 47 :: y → l[p.length] = 47 := by rintro p y hlt rfl;simp
      rw [this _ _ hj hp];rfl
  · rw [e]
    have hi' : i < l.length := by simpa [ByteArray.size] using hi
    have hc' : l[i] = 47 := by
      have h1 : ((l.toArray[i]! : UInt8).toNat : Int) = 47 := hc
      rw [gd l i hi'] at h1
      rw [← UInt8.toNat_inj];show _ = 47;omega
    have hh : has l = true := by
      unfold has;rw [List.any_eq_true];exact ⟨l[i],List.getElem_mem _,by rw [hc'];rfl⟩
    rw [hh]
    have hp := par_split hh
    have hl := congrArg List.length hp
    simp at hl
    have key : i = (par l).length := by
      rcases Nat.lt_trichotomy i (par l).length with h | h | h
      · exfalso
        have hj : (par l).length < l.length := by omega
        apply hn (par l).length h (by show _ < l.toArray.size;simpa using hj)
        show ((l.toArray[(par l).length]! : UInt8).toNat : Int) = 47
        rw [gd l _ hj]
        have : ∀ (p y : List UInt8) (hlt : p.length < l.length),l = p ++ 47 :: y → l[p.length] = 47 := by rintro p y hlt rfl;simp
        rw [this _ _ hj hp];rfl
      · exact h
      · exfalso
        have : ∀ (p y : List UInt8) (q : l = p ++ 47 :: y),p.length < i → ∃ c ∈ y,c = 47 := by
          rintro p y q hlt
          refine ⟨l[i],?_,hc'⟩
          have e1 : l[i]? = y[i - p.length - 1]? := by
            conv => lhs;rw [q]
            rw [List.getElem?_append_right (by omega)]
            obtain ⟨d,hd⟩ : ∃ d,i - p.length = d + 1 := ⟨i - p.length - 1,by omega⟩
            rw [hd,List.getElem?_cons_succ];rfl
          rw [List.getElem?_eq_getElem hi'] at e1
          exact List.mem_of_getElem? e1.symm
        obtain ⟨c,hm,rfl⟩ := this _ _ hp h
        exact has_false (lst_split hh).2 _ hm rfl
    simp [key]

theorem parentB_nil {l : List UInt8} (h : partsB l = []) : parentB l = ([],false) := by
  unfold partsB at h;unfold parentB
  split
  · rfl
  · rename_i hc;rw [if_neg hc] at h;exact absurd h (names_ne l)
theorem parentB_snoc {l : List UInt8} {ys : List (List UInt8)} {y : List UInt8} (h : partsB l = ys ++ [y]) : parentB l = (par l,true) ∧ lst l = y := by
  unfold partsB at h;unfold parentB
  split
  · rename_i hc;rw [if_pos hc] at h;simp at h
  · rename_i hc;rw [if_neg hc] at h
    exact ⟨rfl,by simp [lst,h]⟩
theorem under_pre (s t : List UInt8) (h : t.length < s.length) : (t ++ [47]).isPrefixOf s = ((s.take t.length == t) && (s[t.length] == 47)) := by
  rw [Bool.eq_iff_iff]
  simp only [List.isPrefixOf_iff_prefix,Bool.and_eq_true,beq_iff_eq]
  constructor
  · rintro ⟨r,hr⟩
    have : ∀ (h : t.length < (t ++ [47] ++ r).length),(t ++ [47] ++ r).take t.length = t ∧ (t ++ [47] ++ r)[t.length] = 47 := by
      intro h;simp
    subst hr;exact this h
  · rintro ⟨h1,h2⟩
    refine ⟨s.drop (t.length + 1),?_⟩
    have : s = s.take t.length ++ s.drop t.length := (List.take_append_drop _ _).symm
    rw [List.drop_eq_getElem_cons h,h1,h2] at this
    rw [this];simp
theorem under_short (s t : List UInt8) (h : ¬ t.length < s.length) : (t ++ [47]).isPrefixOf s = false := by
  rw [Bool.eq_false_iff]
  intro hp
  have := (List.isPrefixOf_iff_prefix.1 hp).length_le
  simp at this;omega
theorem lessL_step {xs ys : List (List UInt8)} {k : Nat} {x y : List UInt8} (hx : xs[k]? = some x) (hy : ys[k]? = some y) :
    lessL (xs.drop k) (ys.drop k) = if x == y then lessL (xs.drop (k + 1)) (ys.drop (k + 1)) else Op.bytesLess x y := by
  obtain ⟨h1,rfl⟩ := List.getElem?_eq_some_iff.1 hx
  obtain ⟨h2,rfl⟩ := List.getElem?_eq_some_iff.1 hy
  rw [List.drop_eq_getElem_cons h1,List.drop_eq_getElem_cons h2,lessL]
theorem lessL_end {xs ys : List (List UInt8)} {k : Nat} (hx : k ≤ xs.length) (hy : k ≤ ys.length) (h : ¬ (k < xs.length ∧ k < ys.length)) :
    lessL (xs.drop k) (ys.drop k) = decide (xs.length < ys.length) := by
  by_cases h1 : k < xs.length
  · have : ys.drop k = [] := List.drop_of_length_le (by omega)
    rw [this,List.drop_eq_getElem_cons h1,lessL]
    rw [eq_comm,decide_eq_false_iff_not];omega
  · have : xs.drop k = [] := List.drop_of_length_le (by omega)
    rw [this]
    by_cases h2 : k < ys.length
    · rw [List.drop_eq_getElem_cons h2,lessL]
      rw [eq_comm,decide_eq_true_iff];omega
    · rw [List.drop_of_length_le (by omega),lessL]
      rw [eq_comm,decide_eq_false_iff_not];omega
theorem take_eq_succ {xs ys : List (List UInt8)} {k : Nat} {x : List UInt8} (hx : xs[k]? = some x) (hy : ys[k]? = some x) (h : xs.take k = ys.take k) : xs.take (k + 1) = ys.take (k + 1) := by
  rw [List.take_add_one,List.take_add_one,hx,hy,h]
end Go.Proofs.Ytpficpldemickaa.PathSpec
