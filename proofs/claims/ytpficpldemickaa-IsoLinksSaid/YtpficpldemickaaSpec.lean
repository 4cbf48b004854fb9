import GoSem.Op.String
import Derived.Lib.Split
import Derived.Lib.LastIndexByte
set_option linter.unusedSimpArgs false
set_option linter.unusedVariables false
namespace Go.Proofs.Ytpficpldemickaa.PathSpec

def okc (c : UInt8) : Bool := !(c == 47) && !(c == 0)

def nameB (l : List UInt8) : Bool :=
  decide (1 ≤ l.length) && decide (l.length ≤ 20) && !(l == [46]) && !(l == [46,46]) && l.all okc

theorem nameB_lo {l : List UInt8} (h : (l.length : Int) < 1) : nameB l = false := by
  have : ¬ 1 ≤ l.length := by omega
  simp only [nameB,decide_eq_false this,Bool.false_and]
theorem nameB_hi {l : List UInt8} (h : 20 < (l.length : Int)) : nameB l = false := by
  have : ¬ l.length ≤ 20 := by omega
  simp only [nameB,decide_eq_false this,Bool.false_and,Bool.and_false]
theorem nameB_dot : nameB [46] = false := by decide
theorem nameB_dots : nameB [46,46] = false := by decide
theorem nameB_all {l : List UInt8} (h1 : 1 ≤ (l.length : Int)) (h2 : (l.length : Int) ≤ 20) (h3 : ¬ l = [46]) (h4 : ¬ l = [46,46]) : nameB l = (l.drop 0).all okc := by
  have a : 1 ≤ l.length := by omega
  have b : l.length ≤ 20 := by omega
  simp [nameB,a,b,h3,h4]
theorem all_drop_succ {l : List UInt8} {i : Nat} (h : i < l.length) : (l.drop i).all okc = (okc l[i] && (l.drop (i + 1)).all okc) := by
  rw [List.drop_eq_getElem_cons h,List.all_cons]
def names : List UInt8 → List (List UInt8)
  | [] => [[]]
  | c :: t => if c = 47 then [] :: names t else
      match names t with
      | [] => [[c]]
      | h :: r => (c :: h) :: r
def hd (l : List UInt8) : List UInt8 := l.takeWhile (fun c => !(c == 47))
def tl (l : List UInt8) : List UInt8 := (l.dropWhile (fun c => !(c == 47))).drop 1
def has (l : List UInt8) : Bool := l.any (fun c => c == 47)

@[simp] theorem hd_slash (t : List UInt8) : hd (47 :: t) = [] := by simp [hd]
@[simp] theorem tl_slash (t : List UInt8) : tl (47 :: t) = t := by simp [tl]
@[simp] theorem has_slash (t : List UInt8) : has (47 :: t) = true := by simp [has]
theorem hd_other {c : UInt8} (t : List UInt8) (h : c ≠ 47) : hd (c :: t) = c :: hd t := by simp [hd,h]
theorem tl_other {c : UInt8} (t : List UInt8) (h : c ≠ 47) : tl (c :: t) = tl t := by simp [tl,h]
theorem has_other {c : UInt8} (t : List UInt8) (h : c ≠ 47) : has (c :: t) = has t := by simp [has,h]
theorem cut_has {l : List UInt8} (h : has l = true) : l = hd l ++ 47 :: tl l := by
  induction l with
  | nil => cases h
  | cons c t ih =>
    by_cases e : c = 47
    · subst e;simp
    · rw [hd_other t e,tl_other t e,List.cons_append,← ih (by rwa [has_other t e] at h)]
theorem cut_none {l : List UInt8} (h : has l = false) : hd l = l ∧ tl l = [] := by
  induction l with
  | nil => exact ⟨rfl,rfl⟩
  | cons c t ih =>
    by_cases e : c = 47
    · subst e;simp at h
    · rw [has_other t e] at h
      rw [hd_other t e,tl_other t e,(ih h).1,(ih h).2];exact ⟨rfl,rfl⟩
theorem has_hd (l : List UInt8) : has (hd l) = false := by
  induction l with
  | nil => rfl
  | cons c t ih =>
    by_cases e : c = 47
    · subst e;rfl
    · rw [hd_other t e,has_other _ e,ih]
theorem names_cut (l : List UInt8) : names l = hd l :: (if has l then names (tl l) else []) := by
  induction l with
  | nil => rfl
  | cons c t ih =>
    by_cases h : c = 47
    · subst h;simp [names]
    · rw [hd_other t h,tl_other t h,has_other t h]
      simp only [names,if_neg h]
      rw [ih]
theorem names_ne (l : List UInt8) : names l ≠ [] := by rw [names_cut];simp
theorem names_pos (l : List UInt8) : 1 ≤ (names l).length := by rw [names_cut];simp
theorem names_has {l : List UInt8} (h : has l = true) : names l = hd l :: names (tl l) := by rw [names_cut,if_pos h]
theorem names_none {l : List UInt8} (h : has l = false) : names l = [l] := by
  rw [names_cut,h,(cut_none h).1];rfl
theorem has_append (a b : List UInt8) : has (a ++ b) = (has a || has b) := by simp [has]
theorem hd_append {a : List UInt8} (h : has a = false) (b : List UInt8) : hd (a ++ 47 :: b) = a ∧ tl (a ++ 47 :: b) = b := by
  induction a with
  | nil => simp
  | cons c t ih =>
    by_cases e : c = 47
    · subst e;simp at h
    · rw [has_other t e] at h
      rw [List.cons_append,hd_other _ e,tl_other _ e,(ih h).1,(ih h).2];exact ⟨rfl,rfl⟩
theorem tl_lt {l : List UInt8} (h : has l = true) : (hd l).length + (tl l).length + 1 = l.length := by
  have := congrArg List.length (cut_has h)
  simp at this;omega
theorem hd_le (l : List UInt8) : (hd l).length ≤ l.length := by
  cases h : has l
  · rw [(cut_none h).1];exact Nat.le_refl _
  · have := tl_lt h;omega
theorem tl_le (l : List UInt8) : (tl l).length ≤ l.length := by
  cases h : has l
  · rw [(cut_none h).2];exact Nat.zero_le _
  · have := tl_lt h;omega
theorem lib_index (l : List UInt8) : Lib.index l [47] = if has l then ((hd l).length : Int) else -1 := by
  induction l with
  | nil => rfl
  | cons c t ih =>
    by_cases e : c = 47
    · subst e;simp [Lib.index]
    · have : ([47] : List UInt8).isPrefixOf (c :: t) = false := by simp [List.isPrefixOf,Ne.symm e]
      rw [hd_other t e,has_other t e,Lib.index,this,ih]
      cases has t
      · rfl
      · have h0 : (((hd t).length : Int) == -1) = false := by rw [beq_eq_false_iff_ne];omega
        simp [h0]
theorem lib_cut (l : List UInt8) : Lib.cut l [47] = (hd l,tl l,has l) := by
  unfold Lib.cut
  rw [lib_index]
  cases h : has l
  · simp [(cut_none h).1,(cut_none h).2]
  · have e := cut_has h
    simp only [if_true,Int.natCast_nonneg,Int.toNat_natCast,List.length_cons,List.length_nil,Nat.zero_add]
    have ab : ∀ x y : List UInt8,l = x ++ 47 :: y → l.take x.length = x ∧ l.drop (x.length + 1) = y := by
      rintro x y rfl
      simp
    rw [(ab _ _ e).1,(ab _ _ e).2]

def mayK (k : Nat) (l : List UInt8) : Bool := (names l).all nameB && decide (k + (names l).length ≤ 8)
def mayB (l : List UInt8) : Bool := l.isEmpty || (decide (l.length ≤ 100) && mayK 0 l)
theorem mayK_name {k : Nat} {l : List UInt8} (h : nameB (hd l) = false) : mayK k l = false := by
  unfold mayK;rw [names_cut];simp [h]
theorem mayK_full (l : List UInt8) : mayK 8 l = false := by
  unfold mayK
  have := names_pos l
  have : ¬ 8 + (names l).length ≤ 8 := by omega
  simp [this]
theorem mayK_more {k : Nat} {l : List UInt8} (h : nameB (hd l) = true) (hh : has l = true) : mayK k l = mayK (k + 1) (tl l) := by
  unfold mayK;rw [names_has hh]
  simp only [List.all_cons,h,Bool.true_and,List.length_cons]
  congr 2
  simp;omega
theorem mayK_last {k : Nat} {l : List UInt8} (h : nameB (hd l) = true) (hh : has l = false) (hk : k < 8) : mayK k l = true := by
  unfold mayK;rw [names_none hh]
  rw [(cut_none hh).1] at h
  simp [h];omega
theorem mayB_long {l : List UInt8} (h : 100 < l.length) : mayB l = false := by
  have : l.isEmpty = false := by cases l <;> simp_all
  have : ¬ l.length ≤ 100 := by omega
  simp_all [mayB];omega
theorem mayB_go {l : List UInt8} (h0 : l ≠ []) (h : l.length ≤ 100) : mayB l = mayK 0 l := by
  have : l.isEmpty = false := by cases l <;> simp_all
  simp [mayB,this,h]

def partsB (l : List UInt8) : List (List UInt8) := if l.isEmpty || !mayB l then [] else names l
def lst (l : List UInt8) : List UInt8 := (names l).getLastD []
def par (l : List UInt8) : List UInt8 := l.take (l.length - (lst l).length - 1)
def lastB (l : List UInt8) : List UInt8 := (partsB l).getLastD []
def depthB (l : List UInt8) : Int := if mayB l then ((partsB l).length : Int) else -1
def parentB (l : List UInt8) : List UInt8 × Bool := if l.isEmpty || !mayB l then ([],false) else (par l,true)
def joinB (a b : List UInt8) : List UInt8 × Int :=
  if !mayB a || !nameB b then ([],1) else
    let s := if a.isEmpty then b else a ++ 47 :: b
    if !mayB s then ([],2) else (s,0)
def underB (s t : List UInt8) : Bool := mayB s && mayB t && (t.isEmpty || s == t || (t ++ [47]).isPrefixOf s)
def lessL : List (List UInt8) → List (List UInt8) → Bool
  | [],[] => false
  | [],_ :: _ => true
  | _ :: _,[] => false
  | x :: xs,y :: ys => if x == y then lessL xs ys else Op.bytesLess x y
def lessB (a b : List UInt8) : Bool := lessL (partsB a) (partsB b)

def P (a : List UInt8) : List (List UInt8) := if a.isEmpty then [] else names a
def good (a : List UInt8) : Prop := a.length ≤ 100 ∧ ∀ x ∈ P a,x ≠ []
def nrm (a : List UInt8) : List UInt8 := if mayB a then a else []
theorem nrm_yes {a : List UInt8} (h : mayB a = true) : nrm a = a := by simp [nrm,h]
theorem nrm_no {a : List UInt8} (h : mayB a = false) : nrm a = [] := by simp [nrm,h]
theorem partsB_nrm (a : List UInt8) : partsB a = P (nrm a) := by
  unfold partsB P nrm
  cases mayB a <;> simp
theorem good_nil : good [] := ⟨by simp,by simp [P]⟩
theorem nameB_ne {x : List UInt8} (h : nameB x = true) : x ≠ [] := by rintro rfl;simp [nameB] at h
theorem good_nrm (a : List UInt8) : good (nrm a) := by
  unfold nrm
  cases h : mayB a
  · exact good_nil
  · simp only [if_true]
    cases he : a.isEmpty
    · simp only [mayB,he,mayK,Bool.false_or,Bool.and_eq_true,decide_eq_true_eq,List.all_eq_true] at h
      refine ⟨h.1,?_⟩
      simp only [P,he,Bool.false_eq_true,if_false]
      exact fun x hx => nameB_ne (h.2.1 x hx)
    · have : a = [] := by simpa using he
      subst this;exact good_nil
theorem P_step {a : List UInt8} (h0 : a ≠ []) (hg : good a) : P a = hd a :: P (tl a) ∧ good (tl a) := by
  have he : a.isEmpty = false := by simp [h0]
  obtain ⟨hl,hg⟩ := hg
  have htl := tl_le a
  simp only [P,he,Bool.false_eq_true,if_false] at hg ⊢
  cases hh : has a
  · rw [names_none hh,(cut_none hh).1,(cut_none hh).2]
    exact ⟨rfl,good_nil⟩
  · rw [names_has hh] at hg ⊢
    have ht : (tl a).isEmpty = false := by
      cases ht : tl a
      · exfalso;rw [ht] at hg;exact hg [] (by simp [names]) rfl
      · rfl
    simp only [ht,Bool.false_eq_true,if_false,true_and]
    refine ⟨by omega,fun x hx => hg x ?_⟩
    simp only [P,ht,Bool.false_eq_true,if_false] at hx
    exact List.mem_cons_of_mem _ hx
theorem P_ne {a : List UInt8} (h0 : a ≠ []) : P a ≠ [] := by
  have he : a.isEmpty = false := by simp [h0]
  simp only [P,he,Bool.false_eq_true,if_false];exact names_ne a
theorem lessP_nil (b : List UInt8) : lessL (P []) (P b) = !b.isEmpty := by
  by_cases h : b = []
  · subst h;rfl
  · have := P_ne h
    have e : b.isEmpty = false := by simp [h]
    rw [e]
    cases hp : P b with
    | nil => exact absurd hp this
    | cons x xs => rfl
theorem lessP_end {a : List UInt8} (h0 : a ≠ []) : lessL (P a) (P []) = false := by
  have := P_ne h0
  cases hp : P a with
  | nil => exact absurd hp this
  | cons x xs => rfl
theorem lst_none {l : List UInt8} (h : has l = false) : lst l = l := by simp [lst,names_none h]
theorem names_cons2 {c : UInt8} {t : List UInt8} (h : c ≠ 47) : names (c :: t) = (c :: hd t) :: (names t).tail := by
  rw [names_cut,hd_other t h,has_other t h,tl_other t h,names_cut t];rfl
theorem lst_slash (t : List UInt8) : lst (47 :: t) = lst t := by
  unfold lst
  simp only [names,if_true]
  cases h : names t with
  | nil => exact absurd h (names_ne t)
  | cons a r => rfl
theorem lst_other {c : UInt8} {t : List UInt8} (h : c ≠ 47) (ht : has t = true) : lst (c :: t) = lst t := by
  unfold lst
  rw [names_cons2 h,names_has ht]
  cases hr : names (tl t) with
  | nil => exact absurd hr (names_ne _)
  | cons a r => rfl
theorem lst_split {l : List UInt8} (h : has l = true) : (∃ p,l = p ++ 47 :: lst l) ∧ has (lst l) = false := by
  induction l with
  | nil => cases h
  | cons c t ih =>
    by_cases e : c = 47
    · subst e
      rw [lst_slash]
      cases ht : has t
      · rw [lst_none ht];exact ⟨⟨[],rfl⟩,ht⟩
      · obtain ⟨⟨p,hp⟩,h2⟩ := ih ht
        exact ⟨⟨47 :: p,by rw [List.cons_append,← hp]⟩,h2⟩
    · rw [has_other t e] at h
      obtain ⟨⟨p,hp⟩,h2⟩ := ih h
      rw [lst_other e h]
      exact ⟨⟨c :: p,by rw [List.cons_append,← hp]⟩,h2⟩
theorem par_split {l : List UInt8} (h : has l = true) : l = par l ++ 47 :: lst l := by
  obtain ⟨p,hp⟩ := (lst_split h).1
  have e : par l = p := by
    have hl := congrArg List.length hp
    simp at hl
    have : l.length - (lst l).length - 1 = p.length := by omega
    have ht : ∀ y,l = p ++ y → l.take p.length = p := by rintro y rfl;simp
    unfold par;rw [this];exact ht _ hp
  rw [e];exact hp
theorem par_none {l : List UInt8} (h : has l = false) : par l = [] := by
  unfold par;rw [lst_none h]
  have : l.length - l.length - 1 = 0 := by omega
  rw [this];rfl
theorem has_false {l : List UInt8} (h : has l = false) : ∀ c ∈ l,c ≠ 47 := by
  intro c hc e
  subst e
  have : has l = true := by unfold has;rw [List.any_eq_true];exact ⟨47,hc,rfl⟩
  rw [h] at this;cases this
theorem lib_last {l : List UInt8} : Lib.lastIndexByte ⟨l.toArray⟩ 47 = if has l then ((par l).length : Int) else -1 := by
  have gd : ∀ (x : List UInt8) (j : Nat) (hj : j < x.length),(x.toArray[j]! : UInt8) = x[j] := by
    intro x j hj;simp [hj]
  rcases Lib.lastIndexByte_spec ⟨l.toArray⟩ 47 with ⟨e,hn⟩ | ⟨i,hi,e,hc,hn⟩
  · rw [e]
    cases h : has l
    · rfl
    · exfalso
      have hp := par_split h
      have hl := congrArg List.length hp
      simp at hl
      have hj : (par l).length < l.length := by omega
      have := hn (par l).length (by show _ < l.toArray.size;simpa using hj)
      apply this
      show ((l.toArray[(par l).length]! : UInt8).toNat : Int) = 47
      rw [gd l _ hj]
      have : ∀ (p y : List UInt8) (hlt : p.length < l.length),l = p ++ 47 :: y → l[p.length] = 47 := by rintro p y hlt rfl;simp
      rw [this _ _ hj hp];rfl
  · rw [e]
    have hi' : i < l.length := by simpa [ByteArray.size] using hi
    have hc' : l[i] = 47 := by
      have h1 : ((l.toArray[i]! : UInt8).toNat : Int) = 47 := hc
      rw [gd l i hi'] at h1
      rw [← UInt8.toNat_inj];show _ = 47;omega
    have hh : has l = true := by
      unfold has;rw [List.any_eq_true];exact ⟨l[i],List.getElem_mem _,by rw [hc'];rfl⟩
    rw [hh]
    have hp := par_split hh
    have hl := congrArg List.length hp
    simp at hl
    have key : i = (par l).length := by
      rcases Nat.lt_trichotomy i (par l).length with h | h | h
      · exfalso
        have hj : (par l).length < l.length := by omega
        apply hn (par l).length h (by show _ < l.toArray.size;simpa using hj)
        show ((l.toArray[(par l).length]! : UInt8).toNat : Int) = 47
        rw [gd l _ hj]
        have : ∀ (p y : List UInt8) (hlt : p.length < l.length),l = p ++ 47 :: y → l[p.length] = 47 := by rintro p y hlt rfl;simp
        rw [this _ _ hj hp];rfl
      · exact h
      · exfalso
        have : ∀ (p y : List UInt8) (q : l = p ++ 47 :: y),p.length < i → ∃ c ∈ y,c = 47 := by
          rintro p y q hlt
          refine ⟨l[i],?_,hc'⟩
          have e1 : l[i]? = y[i - p.length - 1]? := by
            conv => lhs;rw [q]
            rw [List.getElem?_append_right (by omega)]
            obtain ⟨d,hd⟩ : ∃ d,i - p.length = d + 1 := ⟨i - p.length - 1,by omega⟩
            rw [hd,List.getElem?_cons_succ];rfl
          rw [List.getElem?_eq_getElem hi'] at e1
          exact List.mem_of_getElem? e1.symm
        obtain ⟨c,hm,rfl⟩ := this _ _ hp h
        exact has_false (lst_split hh).2 _ hm rfl
    simp [key]

end Go.Proofs.Ytpficpldemickaa.PathSpec
