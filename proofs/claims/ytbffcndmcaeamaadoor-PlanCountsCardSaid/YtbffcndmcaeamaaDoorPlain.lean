import GoSem.Op.String
import Derived.Lib.Split
import Derived.Lib.LastIndexByte
section
set_option linter.unusedSimpArgs false
set_option linter.unusedVariables false
namespace Go.Proofs.YtbffcndmcaeamaaDoor.PathSpec

def okc (c : UInt8) : Bool := !(c == 47) && !(c == 0)

def nameB (l : List UInt8) : Bool :=
  decide (1 ≤ l.length) && decide (l.length ≤ 20) && !(l == [46]) && !(l == [46,46]) && l.all okc

theorem nameB_lo {l : List UInt8} (h : (l.length : Int) < 1) : nameB l = false := by
  have : ¬ 1 ≤ l.length := by omega
  simp only [nameB,decide_eq_false this,Bool.false_and]
theorem nameB_hi {l : List UInt8} (h : 20 < (l.length : Int)) : nameB l = false := by
  have : ¬ l.length ≤ 20 := by omega
  simp only [nameB,decide_eq_false this,Bool.false_and,Bool.and_false]
theorem nameB_dot : nameB [46] = false := by decide
theorem nameB_dots : nameB [46,46] = false := by decide
theorem nameB_all {l : List UInt8} (h1 : 1 ≤ (l.length : Int)) (h2 : (l.length : Int) ≤ 20) (h3 : ¬ l = [46]) (h4 : ¬ l = [46,46]) : nameB l = (l.drop 0).all okc := by
  have a : 1 ≤ l.length := by omega
  have b : l.length ≤ 20 := by omega
  simp [nameB,a,b,h3,h4]
theorem all_drop_succ {l : List UInt8} {i : Nat} (h : i < l.length) : (l.drop i).all okc = (okc l[i] && (l.drop (i + 1)).all okc) := by
  rw [List.drop_eq_getElem_cons h,List.all_cons]
theorem all_take_succ {l : List UInt8} {i : Nat} (h : i < l.length) : (l.take (i + 1)).all okc = ((l.take i).all okc && okc l[i]) := by
  rw [List.take_succ_eq_append_getElem h,List.all_append];simp
theorem nameB_bad {l : List UInt8} {i : Nat} (h : i < l.length) (hb : okc l[i] = false) : nameB l = false := by
  have : l.all okc = false := by
    rw [List.all_eq_false];exact ⟨l[i],List.getElem_mem _,by simp [hb]⟩
  simp [nameB,this]
theorem nameB_rest {l : List UInt8} (h : (l.take l.length).all okc = true) :
    nameB l = (decide (1 ≤ l.length) && decide (l.length ≤ 20) && !(l == [46]) && !(l == [46,46])) := by
  rw [List.take_of_length_le (Nat.le_refl _)] at h
  simp [nameB,h]
def names : List UInt8 → List (List UInt8)
  | [] => [[]]
  | c :: t => if c = 47 then [] :: names t else
      match names t with
      | [] => [[c]]
      | h :: r => (c :: h) :: r
def hd (l : List UInt8) : List UInt8 := l.takeWhile (fun c => !(c == 47))
def tl (l : List UInt8) : List UInt8 := (l.dropWhile (fun c => !(c == 47))).drop 1
def has (l : List UInt8) : Bool := l.any (fun c => c == 47)

@[simp] theorem hd_slash (t : List UInt8) : hd (47 :: t) = [] := by simp [hd]
@[simp] theorem tl_slash (t : List UInt8) : tl (47 :: t) = t := by simp [tl]
@[simp] theorem has_slash (t : List UInt8) : has (47 :: t) = true := by simp [has]
theorem hd_other {c : UInt8} (t : List UInt8) (h : c ≠ 47) : hd (c :: t) = c :: hd t := by simp [hd,h]
theorem tl_other {c : UInt8} (t : List UInt8) (h : c ≠ 47) : tl (c :: t) = tl t := by simp [tl,h]
theorem has_other {c : UInt8} (t : List UInt8) (h : c ≠ 47) : has (c :: t) = has t := by simp [has,h]
theorem cut_has {l : List UInt8} (h : has l = true) : l = hd l ++ 47 :: tl l := by
  induction l with
  | nil => cases h
  | cons c t ih =>
    by_cases e : c = 47
    · subst e;simp
    · rw [hd_other t e,tl_other t e,List.cons_append,← ih (by rwa [has_other t e] at h)]
theorem cut_none {l : List UInt8} (h : has l = false) : hd l = l ∧ tl l = [] := by
  induction l with
  | nil => exact ⟨rfl,rfl⟩
  | cons c t ih =>
    by_cases e : c = 47
    · subst e;simp at h
    · rw [has_other t e] at h
      rw [hd_other t e,tl_other t e,(ih h).1,(ih h).2];exact ⟨rfl,rfl⟩
theorem has_hd (l : List UInt8) : has (hd l) = false := by
  induction l with
  | nil => rfl
  | cons c t ih =>
    by_cases e : c = 47
    · subst e;rfl
    · rw [hd_other t e,has_other _ e,ih]
theorem names_cut (l : List UInt8) : names l = hd l :: (if has l then names (tl l) else []) := by
  induction l with
  | nil => rfl
  | cons c t ih =>
    by_cases h : c = 47
    · subst h;simp [names]
    · rw [hd_other t h,tl_other t h,has_other t h]
      simp only [names,if_neg h]
      rw [ih]
theorem names_ne (l : List UInt8) : names l ≠ [] := by rw [names_cut];simp
theorem names_pos (l : List UInt8) : 1 ≤ (names l).length := by rw [names_cut];simp
theorem names_has {l : List UInt8} (h : has l = true) : names l = hd l :: names (tl l) := by rw [names_cut,if_pos h]
theorem names_none {l : List UInt8} (h : has l = false) : names l = [l] := by
  rw [names_cut,h,(cut_none h).1];rfl
def cutInv (l : List UInt8) (cs : List (List UInt8)) (f k : Nat) : Prop :=
  cs.length ≤ k ∧ k ≤ l.length + 1 ∧ f ≤ k ∧ ((k ≤ l.length ∧ names l = cs ++ names (l.drop f) ∧ has ((l.drop f).take (k - f)) = false) ∨ (k = l.length + 1 ∧ cs = names l))
theorem cutInv_start (l : List UInt8) : cutInv l [] 0 0 := ⟨by simp,by simp,by simp,.inl ⟨by simp,by simp,by simp [has]⟩⟩
theorem cutInv_done {l : List UInt8} {cs : List (List UInt8)} {f k : Nat} (h : cutInv l cs f k) (hk : ¬ k ≤ l.length) : cs = names l := by
  obtain ⟨_,_,_,h | h⟩ := h
  · omega
  · exact h.2
theorem has_append (a b : List UInt8) : has (a ++ b) = (has a || has b) := by simp [has]
theorem hd_append {a : List UInt8} (h : has a = false) (b : List UInt8) : hd (a ++ 47 :: b) = a ∧ tl (a ++ 47 :: b) = b := by
  induction a with
  | nil => simp
  | cons c t ih =>
    by_cases e : c = 47
    · subst e;simp at h
    · rw [has_other t e] at h
      rw [List.cons_append,hd_other _ e,tl_other _ e,(ih h).1,(ih h).2];exact ⟨rfl,rfl⟩
theorem cutInv_end {l : List UInt8} {cs : List (List UInt8)} {f k : Nat} (h : cutInv l cs f k) (hk : k = l.length) : cutInv l (cs ++ [(l.take k).drop f]) (k + 1) (k + 1) := by
  subst hk
  obtain ⟨h1,h2,h3,h | h⟩ := h
  · refine ⟨by simp;omega,by omega,by omega,.inr ⟨rfl,?_⟩⟩
    rw [List.take_of_length_le (by simp)] at h
    rw [h.2.1,names_none h.2.2,List.take_of_length_le (by simp)]
  · omega
theorem cutInv_sep {l : List UInt8} {cs : List (List UInt8)} {f k : Nat} (h : cutInv l cs f k) (hk : k < l.length) (hc : l[k] = 47) : cutInv l (cs ++ [(l.take k).drop f]) (k + 1) (k + 1) := by
  obtain ⟨h1,h2,h3,h | h⟩ := h
  · refine ⟨by simp;omega,by omega,by omega,.inl ⟨by omega,?_,by simp [has]⟩⟩
    have e : l.drop f = (l.take k).drop f ++ 47 :: l.drop (k + 1) := by
      rw [← hc,← List.drop_eq_getElem_cons hk]
      conv => lhs;rw [← List.take_append_drop k l]
      rw [List.drop_append]
      have : f - (l.take k).length = 0 := by simp;omega
      rw [this,List.drop_zero]
    have hn : has ((l.take k).drop f) = false := by
      have := h.2.2
      rw [List.take_drop] at this
      rwa [show f + (k - f) = k by omega] at this
    have hh : has (l.drop f) = true := by rw [e,has_append];simp
    rw [h.2.1,names_has hh,e,(hd_append hn _).1,(hd_append hn _).2];simp
  · omega
theorem cutInv_skip {l : List UInt8} {cs : List (List UInt8)} {f k : Nat} (h : cutInv l cs f k) (hk : k < l.length) (hc : l[k] ≠ 47) : cutInv l cs f (k + 1) := by
  obtain ⟨h1,h2,h3,h | h⟩ := h
  · refine ⟨by omega,by omega,by omega,.inl ⟨by omega,h.2.1,?_⟩⟩
    have e : (l.drop f).take (k + 1 - f) = (l.drop f).take (k - f) ++ [l[k]] := by
      rw [show k + 1 - f = (k - f) + 1 by omega,List.take_succ_eq_append_getElem (by simp;omega)]
      congr 2
      rw [List.getElem_drop]
      congr 1;omega
    rw [e,has_append,h.2.2]
    simp [has,hc]
  · omega
theorem tl_lt {l : List UInt8} (h : has l = true) : (hd l).length + (tl l).length + 1 = l.length := by
  have := congrArg List.length (cut_has h)
  simp at this;omega
theorem hd_le (l : List UInt8) : (hd l).length ≤ l.length := by
  cases h : has l
  · rw [(cut_none h).1];exact Nat.le_refl _
  · have := tl_lt h;omega
theorem tl_le (l : List UInt8) : (tl l).length ≤ l.length := by
  cases h : has l
  · rw [(cut_none h).2];exact Nat.zero_le _
  · have := tl_lt h;omega
theorem lib_index (l : List UInt8) : Lib.index l [47] = if has l then ((hd l).length : Int) else -1 := by
  induction l with
  | nil => rfl
  | cons c t ih =>
    by_cases e : c = 47
    · subst e;simp [Lib.index]
    · have : ([47] : List UInt8).isPrefixOf (c :: t) = false := by simp [List.isPrefixOf,Ne.symm e]
      rw [hd_other t e,has_other t e,Lib.index,this,ih]
      cases has t
      · rfl
      · have h0 : (((hd t).length : Int) == -1) = false := by rw [beq_eq_false_iff_ne];omega
        simp [h0]
theorem lib_cut (l : List UInt8) : Lib.cut l [47] = (hd l,tl l,has l) := by
  unfold Lib.cut
  rw [lib_index]
  cases h : has l
  · simp [(cut_none h).1,(cut_none h).2]
  · have e := cut_has h
    simp only [if_true,Int.natCast_nonneg,Int.toNat_natCast,List.length_cons,List.length_nil,Nat.zero_add]
    have ab : ∀ x y : List UInt8,l = x ++ 47 :: y → l.take x.length = x ∧ l.drop (x.length + 1) = y := by
      rintro x y rfl
      simp
    rw [(ab _ _ e).1,(ab _ _ e).2]

theorem names_mem {l x : List UInt8} (h : x ∈ names l) : x.length ≤ l.length := by
  induction hn : l.length using Nat.strongRecOn generalizing l with
  | _ n ih =>
    cases hh : has l
    · rw [names_none hh] at h
      simp at h;subst h;omega
    · rw [names_has hh] at h
      have := tl_lt hh
      rcases List.mem_cons.1 h with rfl | h
      · omega
      · have := ih (tl l).length (by omega) h rfl
        omega
theorem names_len (l : List UInt8) : (names l).length ≤ l.length + 1 := by
  induction hn : l.length using Nat.strongRecOn generalizing l with
  | _ n ih =>
    cases hh : has l
    · rw [names_none hh];simp
    · rw [names_has hh]
      have := tl_lt hh
      have := ih (tl l).length (by omega) (tl l) rfl
      simp;omega
def mayK (k : Nat) (l : List UInt8) : Bool := (names l).all nameB && decide (k + (names l).length ≤ 8)
def mayB (l : List UInt8) : Bool := l.isEmpty || (decide (l.length ≤ 100) && mayK 0 l)
theorem mayK_name {k : Nat} {l : List UInt8} (h : nameB (hd l) = false) : mayK k l = false := by
  unfold mayK;rw [names_cut];simp [h]
theorem mayK_full (l : List UInt8) : mayK 8 l = false := by
  unfold mayK
  have := names_pos l
  have : ¬ 8 + (names l).length ≤ 8 := by omega
  simp [this]
theorem mayK_more {k : Nat} {l : List UInt8} (h : nameB (hd l) = true) (hh : has l = true) : mayK k l = mayK (k + 1) (tl l) := by
  unfold mayK;rw [names_has hh]
  simp only [List.all_cons,h,Bool.true_and,List.length_cons]
  congr 2
  simp;omega
theorem mayK_last {k : Nat} {l : List UInt8} (h : nameB (hd l) = true) (hh : has l = false) (hk : k < 8) : mayK k l = true := by
  unfold mayK;rw [names_none hh]
  rw [(cut_none hh).1] at h
  simp [h];omega
theorem mayB_bad {l : List UInt8} {k : Nat} {x : List UInt8} (h0 : l ≠ []) (h : (names l)[k]? = some x) (hx : nameB x = false) : mayB l = false := by
  have he : l.isEmpty = false := by simp [h0]
  have : (names l).all nameB = false := by
    rw [List.all_eq_false];exact ⟨x,List.mem_of_getElem? h,by simp [hx]⟩
  simp [mayB,he,mayK,this]
theorem mayB_all {l : List UInt8} (h0 : l ≠ []) (h : ((names l).take (names l).length).all nameB = true) : mayB l = (decide (l.length ≤ 100) && decide ((names l).length ≤ 8)) := by
  have he : l.isEmpty = false := by simp [h0]
  rw [List.take_of_length_le (Nat.le_refl _)] at h
  simp [mayB,he,mayK,h]
theorem allN_succ {xs : List (List UInt8)} {k : Nat} {x : List UInt8} (h : xs[k]? = some x) (hx : nameB x = true) (ha : (xs.take k).all nameB = true) : (xs.take (k + 1)).all nameB = true := by
  obtain ⟨hk,rfl⟩ := List.getElem?_eq_some_iff.1 h
  rw [List.take_succ_eq_append_getElem hk,List.all_append,ha];simp [hx]
theorem mayB_long {l : List UInt8} (h : 100 < l.length) : mayB l = false := by
  have : l.isEmpty = false := by cases l <;> simp_all
  have : ¬ l.length ≤ 100 := by omega
  simp_all [mayB];omega
theorem mayB_go {l : List UInt8} (h0 : l ≠ []) (h : l.length ≤ 100) : mayB l = mayK 0 l := by
  have : l.isEmpty = false := by cases l <;> simp_all
  simp [mayB,this,h]

theorem lib_splitK : ∀ (fuel : Nat) (l : List UInt8),l.length < fuel → Lib.splitK [47] 0 (Lib.countFrom [47] fuel l) l = names l := by
  intro fuel
  induction fuel with
  | zero => intro l h;omega
  | succ fuel ih =>
    intro l hl
    have hc := lib_cut l
    cases h : has l
    · have e : Lib.index l [47] = -1 := by rw [lib_index,h];rfl
      simp [Lib.countFrom,e,Lib.splitK,names_none h]
    · have e : Lib.index l [47] = ((hd l).length : Int) := by rw [lib_index,h];rfl
      have hm : (((hd l).length : Int) == -1) = false := by rw [beq_eq_false_iff_ne];omega
      have ht := tl_lt h
      simp only [Lib.cut,e] at hc
      simp only [Int.natCast_nonneg,if_true,Int.toNat_natCast,Prod.mk.injEq] at hc
      simp only [Lib.countFrom,e,hm,Bool.false_eq_true,if_false,Int.toNat_natCast]
      rw [Nat.add_comm 1,Lib.splitK,e,hm]
      simp only [Bool.false_eq_true,if_false,Int.toNat_natCast,Nat.add_zero]
      rw [hc.1,hc.2.1,ih (tl l) (by omega),names_has h]
theorem lib_split (l : List UInt8) : Lib.splitB ⟨#[47]⟩ 0 (Lib.countB ⟨l.toArray⟩ ⟨#[47]⟩) ⟨l.toArray⟩ = (names l).map (fun n => ⟨n.toArray⟩) := by
  have h := Lib.splitB_data ⟨#[47]⟩ 0 (Lib.countB ⟨l.toArray⟩ ⟨#[47]⟩) ⟨l.toArray⟩
  have e : Lib.splitK [47] 0 (Lib.countB ⟨l.toArray⟩ ⟨#[47]⟩) l = names l := lib_splitK _ l (Nat.lt_succ_self l.length)
  simp only [] at h
  rw [e] at h
  have inj : ∀ (x : List ByteArray),(x.map (fun b => b.data.toList)).map (fun n => (⟨n.toArray⟩ : ByteArray)) = x := by
    intro x;rw [List.map_map];exact List.map_id x
  rw [← inj (Lib.splitB _ _ _ _),h]
theorem lib_count (l : List UInt8) : Lib.countB ⟨l.toArray⟩ ⟨#[47]⟩ + 1 = (names l).length := by
  have h : ∀ (fuel : Nat) (l : List UInt8),l.length < fuel → Lib.countFrom [47] fuel l + 1 = (names l).length := by
    intro fuel
    induction fuel with
    | zero => intro l h;omega
    | succ fuel ih =>
      intro l hl
      have hc := lib_cut l
      cases h : has l
      · have e : Lib.index l [47] = -1 := by rw [lib_index,h];rfl
        simp [Lib.countFrom,e,names_none h]
      · have e : Lib.index l [47] = ((hd l).length : Int) := by rw [lib_index,h];rfl
        have hm : (((hd l).length : Int) == -1) = false := by rw [beq_eq_false_iff_ne];omega
        have ht := tl_lt h
        simp only [Lib.cut,e] at hc
        simp only [Int.natCast_nonneg,if_true,Int.toNat_natCast,Prod.mk.injEq] at hc
        simp only [Lib.countFrom,e,hm,Bool.false_eq_true,if_false,Int.toNat_natCast]
        rw [hc.2.1,names_has h,List.length_cons]
        have := ih (tl l) (by omega)
        omega
  exact h _ l (Nat.lt_succ_self l.length)

def partsB (l : List UInt8) : List (List UInt8) := if l.isEmpty || !mayB l then [] else names l
def lst (l : List UInt8) : List UInt8 := (names l).getLastD []
def par (l : List UInt8) : List UInt8 := l.take (l.length - (lst l).length - 1)
def lastB (l : List UInt8) : List UInt8 := (partsB l).getLastD []
def depthB (l : List UInt8) : Int := if mayB l then ((partsB l).length : Int) else -1
def parentB (l : List UInt8) : List UInt8 × Bool := if l.isEmpty || !mayB l then ([],false) else (par l,true)
def joinB (a b : List UInt8) : List UInt8 × Int :=
  if !mayB a || !nameB b then ([],1) else
    let s := if a.isEmpty then b else a ++ 47 :: b
    if !mayB s then ([],2) else (s,0)
def underB (s t : List UInt8) : Bool := mayB s && mayB t && (t.isEmpty || s == t || (t ++ [47]).isPrefixOf s)
def lessL : List (List UInt8) → List (List UInt8) → Bool
  | [],[] => false
  | [],_ :: _ => true
  | _ :: _,[] => false
  | x :: xs,y :: ys => if x == y then lessL xs ys else Op.bytesLess x y
def lessB (a b : List UInt8) : Bool := lessL (partsB a) (partsB b)

theorem partsB_len (l : List UInt8) : (partsB l).length ≤ 8 := by
  unfold partsB
  split
  · simp
  · rename_i h
    simp only [Bool.or_eq_true,Bool.not_eq_true',not_or,Bool.not_eq_false] at h
    have hm := h.2
    simp only [mayB,h.1,mayK,Bool.or_eq_true,Bool.and_eq_true,decide_eq_true_eq] at hm
    rcases hm with hm | hm
    · exact absurd hm (by simp)
    · omega
def P (a : List UInt8) : List (List UInt8) := if a.isEmpty then [] else names a
def good (a : List UInt8) : Prop := a.length ≤ 100 ∧ ∀ x ∈ P a,x ≠ []
def nrm (a : List UInt8) : List UInt8 := if mayB a then a else []
theorem nrm_yes {a : List UInt8} (h : mayB a = true) : nrm a = a := by simp [nrm,h]
theorem nrm_no {a : List UInt8} (h : mayB a = false) : nrm a = [] := by simp [nrm,h]
theorem partsB_nrm (a : List UInt8) : partsB a = P (nrm a) := by
  unfold partsB P nrm
  cases mayB a <;> simp
theorem good_nil : good [] := ⟨by simp,by simp [P]⟩
theorem nameB_ne {x : List UInt8} (h : nameB x = true) : x ≠ [] := by rintro rfl;simp [nameB] at h
theorem good_nrm (a : List UInt8) : good (nrm a) := by
  unfold nrm
  cases h : mayB a
  · exact good_nil
  · simp only [if_true]
    cases he : a.isEmpty
    · simp only [mayB,he,mayK,Bool.false_or,Bool.and_eq_true,decide_eq_true_eq,List.all_eq_true] at h
      refine ⟨h.1,?_⟩
      simp only [P,he,Bool.false_eq_true,if_false]
      exact fun x hx => nameB_ne (h.2.1 x hx)
    · have : a = [] := by simpa using he
      subst this;exact good_nil
theorem P_step {a : List UInt8} (h0 : a ≠ []) (hg : good a) : P a = hd a :: P (tl a) ∧ good (tl a) := by
  have he : a.isEmpty = false := by simp [h0]
  obtain ⟨hl,hg⟩ := hg
  have htl := tl_le a
  simp only [P,he,Bool.false_eq_true,if_false] at hg ⊢
  cases hh : has a
  · rw [names_none hh,(cut_none hh).1,(cut_none hh).2]
    exact ⟨rfl,good_nil⟩
  · rw [names_has hh] at hg ⊢
    have ht : (tl a).isEmpty = false := by
      cases ht : tl a
      · exfalso;rw [ht] at hg;exact hg [] (by simp [names]) rfl
      · rfl
    simp only [ht,Bool.false_eq_true,if_false,true_and]
    refine ⟨by omega,fun x hx => hg x ?_⟩
    simp only [P,ht,Bool.false_eq_true,if_false] at hx
    exact List.mem_cons_of_mem _ hx
theorem P_ne {a : List UInt8} (h0 : a ≠ []) : P a ≠ [] := by
  have he : a.isEmpty = false := by simp [h0]
  simp only [P,he,Bool.false_eq_true,if_false];exact names_ne a
theorem lessP_nil (b : List UInt8) : lessL (P []) (P b) = !b.isEmpty := by
  by_cases h : b = []
  · subst h;rfl
  · have := P_ne h
    have e : b.isEmpty = false := by simp [h]
    rw [e]
    cases hp : P b with
    | nil => exact absurd hp this
    | cons x xs => rfl
theorem lessP_end {a : List UInt8} (h0 : a ≠ []) : lessL (P a) (P []) = false := by
  have := P_ne h0
  cases hp : P a with
  | nil => exact absurd hp this
  | cons x xs => rfl
theorem lst_none {l : List UInt8} (h : has l = false) : lst l = l := by simp [lst,names_none h]
theorem names_cons2 {c : UInt8} {t : List UInt8} (h : c ≠ 47) : names (c :: t) = (c :: hd t) :: (names t).tail := by
  rw [names_cut,hd_other t h,has_other t h,tl_other t h,names_cut t];rfl
theorem lst_slash (t : List UInt8) : lst (47 :: t) = lst t := by
  unfold lst
  simp only [names,if_true]
  cases h : names t with
  | nil => exact absurd h (names_ne t)
  | cons a r => rfl
theorem lst_other {c : UInt8} {t : List UInt8} (h : c ≠ 47) (ht : has t = true) : lst (c :: t) = lst t := by
  unfold lst
  rw [names_cons2 h,names_has ht]
  cases hr : names (tl t) with
  | nil => exact absurd hr (names_ne _)
  | cons a r => rfl
theorem lst_split {l : List UInt8} (h : has l = true) : (∃ p,l = p ++ 47 :: lst l) ∧ has (lst l) = false := by
  induction l with
  | nil => cases h
  | cons c t ih =>
    by_cases e : c = 47
    · subst e
      rw [lst_slash]
      cases ht : has t
      · rw [lst_none ht];exact ⟨⟨[],rfl⟩,ht⟩
      · obtain ⟨⟨p,hp⟩,h2⟩ := ih ht
        exact ⟨⟨47 :: p,by rw [List.cons_append,← hp]⟩,h2⟩
    · rw [has_other t e] at h
      obtain ⟨⟨p,hp⟩,h2⟩ := ih h
      rw [lst_other e h]
      exact ⟨⟨c :: p,by rw [List.cons_append,← hp]⟩,h2⟩
theorem par_split {l : List UInt8} (h : has l = true) : l = par l ++ 47 :: lst l := by
  obtain ⟨p,hp⟩ := (lst_split h).1
  have e : par l = p := by
    have hl := congrArg List.length hp
    simp at hl
    have : l.length - (lst l).length - 1 = p.length := by omega
    have ht : ∀ y,l = p ++ y → l.take p.length = p := by rintro y rfl;simp
    unfold par;rw [this];exact ht _ hp
  rw [e];exact hp
theorem par_none {l : List UInt8} (h : has l = false) : par l = [] := by
  unfold par;rw [lst_none h]
  have : l.length - l.length - 1 = 0 := by omega
  rw [this];rfl
theorem has_false {l : List UInt8} (h : has l = false) : ∀ c ∈ l,c ≠ 47 := by
  intro c hc e
  subst e
  have : has l = true := by unfold has;rw [List.any_eq_true];exact ⟨47,hc,rfl⟩
  rw [h] at this;cases this
theorem lib_last {l : List UInt8} : Lib.lastIndexByte ⟨l.toArray⟩ 47 = if has l then ((par l).length : Int) else -1 := by
  have gd : ∀ (x : List UInt8) (j : Nat) (hj : j < x.length),(x.toArray[j]! : UInt8) = x[j] := by
    intro x j hj;simp [hj]
  rcases Lib.lastIndexByte_spec ⟨l.toArray⟩ 47 with ⟨e,hn⟩ | ⟨i,hi,e,hc,hn⟩
  · rw [e]
    cases h : has l
    · rfl
    · exfalso
      have hp := par_split h
      have hl := congrArg List.length hp
      simp at hl
      have hj : (par l).length < l.length := by omega
      have := hn (par l).length (by show _ < l.toArray.size;simpa using hj)
      apply this
      show ((l.toArray[(par l).length]! : UInt8).toNat : Int) = 47
      rw [gd l _ hj]
      have : ∀ (p y : List UInt8) (hlt : p.length < l.length),l = p ++ 47 :: y → l[p.length] = 47 := by rintro p y hlt rfl;simp
      rw [this _ _ hj hp];rfl
  · rw [e]
    have hi' : i < l.length := by simpa [ByteArray.size] using hi
    have hc' : l[i] = 47 := by
      have h1 : ((l.toArray[i]! : UInt8).toNat : Int) = 47 := hc
      rw [gd l i hi'] at h1
      rw [← UInt8.toNat_inj];show _ = 47;omega
    have hh : has l = true := by
      unfold has;rw [List.any_eq_true];exact ⟨l[i],List.getElem_mem _,by rw [hc'];rfl⟩
    rw [hh]
    have hp := par_split hh
    have hl := congrArg List.length hp
    simp at hl
    have key : i = (par l).length := by
      rcases Nat.lt_trichotomy i (par l).length with h | h | h
      · exfalso
        have hj : (par l).length < l.length := by omega
        apply hn (par l).length h (by show _ < l.toArray.size;simpa using hj)
        show ((l.toArray[(par l).length]! : UInt8).toNat : Int) = 47
        rw [gd l _ hj]
        have : ∀ (p y : List UInt8) (hlt : p.length < l.length),l = p ++ 47 :: y → l[p.length] = 47 := by rintro p y hlt rfl;simp
        rw [this _ _ hj hp];rfl
      · exact h
      · exfalso
        have : ∀ (p y : List UInt8) (q : l = p ++ 47 :: y),p.length < i → ∃ c ∈ y,c = 47 := by
          rintro p y q hlt
          refine ⟨l[i],?_,hc'⟩
          have e1 : l[i]? = y[i - p.length - 1]? := by
            conv => lhs;rw [q]
            rw [List.getElem?_append_right (by omega)]
            obtain ⟨d,hd⟩ : ∃ d,i - p.length = d + 1 := ⟨i - p.length - 1,by omega⟩
            rw [hd,List.getElem?_cons_succ];rfl
          rw [List.getElem?_eq_getElem hi'] at e1
          exact List.mem_of_getElem? e1.symm
        obtain ⟨c,hm,rfl⟩ := this _ _ hp h
        exact has_false (lst_split hh).2 _ hm rfl
    simp [key]

theorem parentB_nil {l : List UInt8} (h : partsB l = []) : parentB l = ([],false) := by
  unfold partsB at h;unfold parentB
  split
  · rfl
  · rename_i hc;rw [if_neg hc] at h;exact absurd h (names_ne l)
theorem parentB_snoc {l : List UInt8} {ys : List (List UInt8)} {y : List UInt8} (h : partsB l = ys ++ [y]) : parentB l = (par l,true) ∧ lst l = y := by
  unfold partsB at h;unfold parentB
  split
  · rename_i hc;rw [if_pos hc] at h;simp at h
  · rename_i hc;rw [if_neg hc] at h
    exact ⟨rfl,by simp [lst,h]⟩
theorem lessL_step {xs ys : List (List UInt8)} {k : Nat} {x y : List UInt8} (hx : xs[k]? = some x) (hy : ys[k]? = some y) :
    lessL (xs.drop k) (ys.drop k) = if x == y then lessL (xs.drop (k + 1)) (ys.drop (k + 1)) else Op.bytesLess x y := by
  obtain ⟨h1,rfl⟩ := List.getElem?_eq_some_iff.1 hx
  obtain ⟨h2,rfl⟩ := List.getElem?_eq_some_iff.1 hy
  rw [List.drop_eq_getElem_cons h1,List.drop_eq_getElem_cons h2,lessL]
theorem lessL_end {xs ys : List (List UInt8)} {k : Nat} (hx : k ≤ xs.length) (hy : k ≤ ys.length) (h : ¬ (k < xs.length ∧ k < ys.length)) :
    lessL (xs.drop k) (ys.drop k) = decide (xs.length < ys.length) := by
  by_cases h1 : k < xs.length
  · have : ys.drop k = [] := List.drop_of_length_le (by omega)
    rw [this,List.drop_eq_getElem_cons h1,lessL]
    rw [eq_comm,decide_eq_false_iff_not];omega
  · have : xs.drop k = [] := List.drop_of_length_le (by omega)
    rw [this]
    by_cases h2 : k < ys.length
    · rw [List.drop_eq_getElem_cons h2,lessL]
      rw [eq_comm,decide_eq_true_iff];omega
    · rw [List.drop_of_length_le (by omega),lessL]
      rw [eq_comm,decide_eq_false_iff_not];omega
end Go.Proofs.YtbffcndmcaeamaaDoor.PathSpec
end
section
set_option linter.unusedSimpArgs false
set_option linter.unusedVariables false
namespace Go.Proofs.YtbffcndmcaeamaaDoor.PathSpec

theorem okc_47 {l : List UInt8} (h : l.all okc = true) : has l = false := by
  unfold has
  rw [List.any_eq_false]
  intro c hc
  have := List.all_eq_true.1 h c hc
  simp [okc] at this
  simp [this.1]
theorem nameB_parts {s : List UInt8} (h : nameB s = true) : 1 ≤ s.length ∧ s.length ≤ 20 ∧ has s = false := by
  simp only [nameB,Bool.and_eq_true,decide_eq_true_eq] at h
  exact ⟨h.1.1.1.1,h.1.1.1.2,okc_47 h.2⟩

def joinN : List (List UInt8) → List UInt8
  | [] => []
  | [x] => x
  | x :: y :: r => x ++ 47 :: joinN (y :: r)
theorem joinN_cons {x : List UInt8} {r : List (List UInt8)} (h : r ≠ []) : joinN (x :: r) = x ++ 47 :: joinN r := by
  cases r with
  | nil => exact absurd rfl h
  | cons y t => rfl
theorem joinN_snoc {xs : List (List UInt8)} (h : xs ≠ []) (y : List UInt8) : joinN (xs ++ [y]) = joinN xs ++ 47 :: y := by
  induction xs with
  | nil => exact absurd rfl h
  | cons x r ih =>
    cases r with
    | nil => rfl
    | cons z t => rw [List.cons_append,joinN_cons (by simp),ih (by simp),joinN_cons (x := x) (r := z :: t) (by simp)];simp
theorem joinN_append {xs ys : List (List UInt8)} (hx : xs ≠ []) (hy : ys ≠ []) : joinN (xs ++ ys) = joinN xs ++ 47 :: joinN ys := by
  induction xs with
  | nil => exact absurd rfl hx
  | cons x r ih =>
    cases r with
    | nil => exact joinN_cons hy
    | cons z t => rw [List.cons_append,joinN_cons (by simp),ih (by simp),joinN_cons (x := x) (r := z :: t) (by simp)];simp
theorem names_append (x y : List UInt8) : names (x ++ 47 :: y) = names x ++ names y := by
  induction hn : x.length using Nat.strongRecOn generalizing x with
  | _ n ih =>
    cases hh : has x
    · have h1 : has (x ++ 47 :: y) = true := by rw [has_append];simp
      rw [names_has h1,(hd_append hh y).1,(hd_append hh y).2,names_none hh];rfl
    · have e := cut_has hh
      have h1 : has (x ++ 47 :: y) = true := by rw [has_append];simp
      have h2 : x ++ 47 :: y = hd x ++ 47 :: (tl x ++ 47 :: y) := by
        conv => lhs;rw [e]
        simp
      have h3 := hd_append (has_hd x) (tl x ++ 47 :: y)
      rw [names_has h1,names_has hh]
      rw [← h2] at h3
      rw [h3.1,h3.2,ih (tl x).length (by have := tl_lt hh;omega) (tl x) rfl];rfl
theorem names_joinN {xs : List (List UInt8)} (h : xs ≠ []) (hx : ∀ x ∈ xs,has x = false) : names (joinN xs) = xs := by
  induction xs with
  | nil => exact absurd rfl h
  | cons x r ih =>
    cases r with
    | nil => exact names_none (hx x (by simp))
    | cons y t =>
      rw [joinN_cons (by simp),names_append,names_none (hx x (by simp)),ih (by simp) (fun z hz => hx z (List.mem_cons_of_mem _ hz))];rfl
theorem joinN_ne {xs : List (List UInt8)} (h : xs ≠ []) (hx : ∀ x ∈ xs,x ≠ []) : joinN xs ≠ [] := by
  cases xs with
  | nil => exact absurd rfl h
  | cons x r =>
    cases r with
    | nil => exact hx x (by simp)
    | cons y t => rw [joinN_cons (by simp)];simp

def okN (xs : List (List UInt8)) : Prop := (∀ x ∈ xs,nameB x = true) ∧ xs.length ≤ 8 ∧ (joinN xs).length ≤ 100
theorem okN.may {xs : List (List UInt8)} (h : okN xs) : mayB (joinN xs) = true := by
  by_cases h0 : xs = []
  · subst h0;rfl
  · have hn := names_joinN h0 (fun x hx => (nameB_parts (h.1 x hx)).2.2)
    have hne := joinN_ne h0 (fun x hx => nameB_ne (h.1 x hx))
    rw [mayB_go hne h.2.2]
    unfold mayK
    rw [hn]
    simp only [Bool.and_eq_true,List.all_eq_true,decide_eq_true_eq]
    exact ⟨h.1,by have := h.2.1;omega⟩
theorem okN.parts {xs : List (List UInt8)} (h : okN xs) : partsB (joinN xs) = xs := by
  by_cases h0 : xs = []
  · subst h0;rfl
  · have hn := names_joinN h0 (fun x hx => (nameB_parts (h.1 x hx)).2.2)
    have hne := joinN_ne h0 (fun x hx => nameB_ne (h.1 x hx))
    unfold partsB
    rw [h.may,hn]
    simp [hne]
theorem okN.depth {xs : List (List UInt8)} (h : okN xs) : depthB (joinN xs) = (xs.length : Int) := by
  unfold depthB;rw [h.may,h.parts];rfl
theorem okN.last {xs : List (List UInt8)} {y : List UInt8} (h : okN (xs ++ [y])) : lastB (joinN (xs ++ [y])) = y := by
  unfold lastB;rw [h.parts];simp
theorem okN.less {xs ys : List (List UInt8)} (h : okN xs) (k : okN ys) : lessB (joinN xs) (joinN ys) = lessL xs ys := by
  unfold lessB;rw [h.parts,k.parts]
theorem okN.init {xs : List (List UInt8)} {y : List UInt8} (h : okN (xs ++ [y])) : okN xs := by
  refine ⟨fun x hx => h.1 x (by simp [hx]),by have := h.2.1;simp at this;omega,?_⟩
  by_cases h0 : xs = []
  · subst h0;simp [joinN]
  · have := h.2.2
    rw [joinN_snoc h0] at this
    simp at this;omega
theorem okN.parent {xs : List (List UInt8)} {y : List UInt8} (h : okN (xs ++ [y])) : parentB (joinN (xs ++ [y])) = (joinN xs,true) := by
  have hp := h.parts
  obtain ⟨h1,h2⟩ := parentB_snoc hp
  rw [h1]
  have : par (joinN (xs ++ [y])) = joinN xs := by
    by_cases h0 : xs = []
    · subst h0
      exact par_none ((nameB_parts (h.1 y (by simp))).2.2)
    · have hs := joinN_snoc h0 y
      have hh : has (joinN (xs ++ [y])) = true := by rw [hs,has_append];simp
      have e := par_split hh
      rw [h2] at e
      rw [hs] at e ⊢
      have := List.append_inj' e (by simp)
      exact this.1.symm
  rw [this]
theorem okN.inj {xs ys : List (List UInt8)} (h : okN xs) (k : okN ys) (e : joinN xs = joinN ys) : xs = ys := by
  have := h.parts
  rw [e,k.parts] at this;exact this.symm
theorem okN.under {xs ys : List (List UInt8)} (h : okN xs) (k : okN ys) : underB (joinN xs) (joinN ys) = ys.isPrefixOf xs := by
  unfold underB
  rw [h.may,k.may,Bool.true_and,Bool.true_and,Bool.eq_iff_iff]
  simp only [Bool.or_eq_true,List.isPrefixOf_iff_prefix,beq_iff_eq]
  constructor
  · rintro ((h1 | h1) | ⟨r,h1⟩)
    · have : joinN ys = [] := by simpa using h1
      have hy : ys = [] := by
        rcases ys with _ | ⟨y,t⟩
        · rfl
        · exact absurd this (joinN_ne (by simp) (fun x hx => nameB_ne (k.1 x hx)))
      subst hy;exact List.nil_prefix
    · have := h.inj k h1
      subst this;exact List.prefix_refl _
    · have hx0 : xs ≠ [] := by rintro rfl;simp [joinN] at h1
      have hn := names_joinN hx0 (fun x hx => (nameB_parts (h.1 x hx)).2.2)
      rw [← h1,List.append_assoc,List.singleton_append,names_append] at hn
      rcases ys with _ | ⟨y,t⟩
      · exact List.nil_prefix
      · rw [names_joinN (by simp) (fun x hx => (nameB_parts (k.1 x hx)).2.2)] at hn
        exact ⟨_,hn⟩
  · rintro ⟨r,rfl⟩
    by_cases hy : ys = []
    · subst hy;exact .inl (.inl rfl)
    · by_cases hr : r = []
      · subst hr;exact .inl (.inr (by simp))
      · exact .inr ⟨joinN r,by rw [joinN_append hy hr];simp⟩

theorem bl_irr (x : List UInt8) : Op.bytesLess x x = false := by
  induction x with
  | nil => rfl
  | cons a t ih => simp [Op.bytesLess,ih]
theorem bl_tri (x y : List UInt8) : Op.bytesLess x y = true ∨ x = y ∨ Op.bytesLess y x = true := by
  induction x generalizing y with
  | nil => cases y <;> simp [Op.bytesLess]
  | cons a t ih =>
    cases y with
    | nil => simp [Op.bytesLess]
    | cons b s =>
      rcases ih s with h | h | h
      · by_cases e : a = b
        · subst e;left;simp [Op.bytesLess,h]
        · rcases Nat.lt_or_gt_of_ne (fun q => e (UInt8.toNat_inj.1 q)) with q | q
          · left;simp [Op.bytesLess,UInt8.lt_iff_toNat_lt,q]
          · right;right;simp [Op.bytesLess,UInt8.lt_iff_toNat_lt,q]
      · subst h
        by_cases e : a = b
        · subst e;right;left;rfl
        · rcases Nat.lt_or_gt_of_ne (fun q => e (UInt8.toNat_inj.1 q)) with q | q
          · left;simp [Op.bytesLess,UInt8.lt_iff_toNat_lt,q]
          · right;right;simp [Op.bytesLess,UInt8.lt_iff_toNat_lt,q]
      · by_cases e : a = b
        · subst e;right;right;simp [Op.bytesLess,h]
        · rcases Nat.lt_or_gt_of_ne (fun q => e (UInt8.toNat_inj.1 q)) with q | q
          · left;simp [Op.bytesLess,UInt8.lt_iff_toNat_lt,q]
          · right;right;simp [Op.bytesLess,UInt8.lt_iff_toNat_lt,q]
theorem bl_trans {x y z : List UInt8} (h : Op.bytesLess x y = true) (k : Op.bytesLess y z = true) : Op.bytesLess x z = true := by
  induction x generalizing y z with
  | nil =>
    cases y with
    | nil => simp [Op.bytesLess] at h
    | cons b s => cases z with
      | nil => simp [Op.bytesLess] at k
      | cons c r => rfl
  | cons a t ih =>
    cases y with
    | nil => simp [Op.bytesLess] at h
    | cons b s =>
      cases z with
      | nil => simp [Op.bytesLess] at k
      | cons c r =>
        simp only [Op.bytesLess,Bool.or_eq_true,Bool.and_eq_true,decide_eq_true_eq,beq_iff_eq,UInt8.lt_iff_toNat_lt] at h k ⊢
        rcases h with h | ⟨rfl,h⟩
        · rcases k with k | ⟨rfl,k⟩
          · left;omega
          · left;exact h
        · rcases k with k | ⟨rfl,k⟩
          · left;exact k
          · right;exact ⟨rfl,ih h k⟩
theorem bl_asym {x y : List UInt8} (h : Op.bytesLess x y = true) : Op.bytesLess y x = false := by
  cases k : Op.bytesLess y x
  · rfl
  · have := bl_trans h k;rw [bl_irr] at this;cases this
theorem ll_irr (x : List (List UInt8)) : lessL x x = false := by
  induction x with
  | nil => rfl
  | cons a t ih => simp [lessL,ih]
theorem ll_tri (x y : List (List UInt8)) : lessL x y = true ∨ x = y ∨ lessL y x = true := by
  induction x generalizing y with
  | nil => cases y <;> simp [lessL]
  | cons a t ih =>
    cases y with
    | nil => simp [lessL]
    | cons b s =>
      by_cases e : a = b
      · subst e
        rcases ih s with h | h | h
        · left;simp [lessL,h]
        · subst h;right;left;rfl
        · right;right;simp [lessL,h]
      · have e' : ¬ b = a := fun q => e q.symm
        rcases bl_tri a b with h | h | h
        · left;simp [lessL,e,h]
        · exact absurd h e
        · right;right;simp [lessL,e',h]
theorem ll_trans {x y z : List (List UInt8)} (h : lessL x y = true) (k : lessL y z = true) : lessL x z = true := by
  induction x generalizing y z with
  | nil =>
    cases y with
    | nil => simp [lessL] at h
    | cons b s => cases z with
      | nil => simp [lessL] at k
      | cons c r => rfl
  | cons a t ih =>
    cases y with
    | nil => simp [lessL] at h
    | cons b s =>
      cases z with
      | nil => simp [lessL] at k
      | cons c r =>
        by_cases e1 : a = b
        · subst e1
          by_cases e2 : a = c
          · subst e2
            simp [lessL] at h k ⊢;exact ih h k
          · simp [lessL,e2] at k ⊢;exact k
        · by_cases e2 : b = c
          · subst e2
            simp [lessL,e1] at h ⊢;exact h
          · simp [lessL,e1,e2] at h k
            have h3 := bl_trans h k
            have e3 : ¬ a = c := by rintro rfl;rw [bl_irr] at h3;cases h3
            simp [lessL,e3,h3]
theorem ll_asym {x y : List (List UInt8)} (h : lessL x y = true) : lessL y x = false := by
  cases k : lessL y x
  · rfl
  · have := ll_trans h k;rw [ll_irr] at this;cases this
theorem ll_snoc (x : List (List UInt8)) (y : List UInt8) : lessL x (x ++ [y]) = true := by
  induction x with
  | nil => rfl
  | cons a t ih => simp [lessL,ih]

theorem okN.take {xs : List (List UInt8)} (h : okN xs) : ∀ k,okN (xs.take k) := by
  intro k
  induction hn : xs.length - k generalizing k with
  | zero => rw [List.take_of_length_le (by omega)];exact h
  | succ n ih =>
    have hk : k < xs.length := by omega
    have := ih (k + 1) (by omega)
    rw [List.take_succ_eq_append_getElem hk] at this
    exact this.init
structure Ups (m : Nat) (last p : List UInt8) (up : Nat → List UInt8) : Prop where
  small : m < 8
  len : p.length ≤ 100
  lens : ∀ k,(up k).length ≤ 100
  lastLen : last.length ≤ 20
  par : parentB p = (up m,true)
  lastIs : lastB p = last
  joined : joinB (up m) last = (p,0)
  depth : depthB p = (m : Int) + 1
  depthUp : depthB (up m) = (m : Int)
  less : lessB (up m) p = true
  some : (p == []) = false
  self : underB p p = true
  under : ∀ k,underB p (up k) = true
  notUnder : ∀ k,k ≤ m → underB (up k) p = false
  step : ∀ k,k < m → parentB (up (k + 1)) = (up k,true)
  top : up 0 = []
end Go.Proofs.YtbffcndmcaeamaaDoor.PathSpec
end
