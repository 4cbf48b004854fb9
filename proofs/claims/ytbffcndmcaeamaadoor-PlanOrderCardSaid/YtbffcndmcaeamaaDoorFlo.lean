import GoSem.Core.Value
import Derived.Laws.FloatArith
section
set_option linter.unusedSimpArgs false
set_option linter.unusedVariables false
namespace Go.Proofs.YtbffcndmcaeamaaDoor.Ext

abbrev E := Nat × Nat
def fin (e : E) : Nat := e.1 + e.2
def Mem (l : List E) (p : Nat) : Prop := ∃ e ∈ l,e.1 ≤ p ∧ p < fin e
def Sep (l : List E) : Prop := l.Pairwise (fun x y => fin x < y.1) ∧ ∀ e ∈ l,0 < e.2
theorem mem_nil {p : Nat} : ¬ Mem [] p := fun ⟨_,h,_⟩ => by cases h
theorem mem_cons {e : E} {l : List E} {p : Nat} : Mem (e :: l) p ↔ (e.1 ≤ p ∧ p < fin e) ∨ Mem l p := by
  unfold Mem;simp
theorem mem_append {l m : List E} {p : Nat} : Mem (l ++ m) p ↔ Mem l p ∨ Mem m p := by
  unfold Mem;simp [or_and_right,exists_or]
theorem Sep.tail {e : E} {l : List E} (h : Sep (e :: l)) : Sep l := ⟨(List.pairwise_cons.1 h.1).2,fun x hx => h.2 x (List.mem_cons_of_mem _ hx)⟩
theorem Sep.head {e : E} {l : List E} (h : Sep (e :: l)) {p : Nat} (hp : Mem l p) : fin e < p := by
  obtain ⟨x,hx,h1,h2⟩ := hp
  have := (List.pairwise_cons.1 h.1).1 x hx
  omega
theorem Sep.unique : ∀ {l m : List E},Sep l → Sep m → (∀ p,Mem l p ↔ Mem m p) → l = m
  | [],[],_,_,_ => rfl
  | [],y :: m,_,h2,h => by
    have := (h y.1).2 (mem_cons.2 (.inl ⟨by omega,by have := h2.2 y (by simp);unfold fin;omega⟩))
    exact absurd this mem_nil
  | x :: l,[],h1,_,h => by
    have := (h x.1).1 (mem_cons.2 (.inl ⟨by omega,by have := h1.2 x (by simp);unfold fin;omega⟩))
    exact absurd this mem_nil
  | x :: l,y :: m,h1,h2,h => by
    have hx0 := h1.2 x (by simp)
    have hy0 := h2.2 y (by simp)
    have hxy : x.1 = y.1 := by
      have a := (h x.1).1 (mem_cons.2 (.inl ⟨by omega,by unfold fin;omega⟩))
      have b := (h y.1).2 (mem_cons.2 (.inl ⟨by omega,by unfold fin;omega⟩))
      rcases mem_cons.1 a with a | a
      · rcases mem_cons.1 b with b | b
        · omega
        · have := h1.head b;unfold fin at *;omega
      · have c := h2.head a
        rcases mem_cons.1 b with b | b
        · unfold fin at *;omega
        · have := h1.head b;unfold fin at *;omega
    have hfin : fin x = fin y := by
      have nx : ¬ Mem (x :: l) (fin x) := fun hm => by
        rcases mem_cons.1 hm with a | a
        · omega
        · have := h1.head a;omega
      have ny : ¬ Mem (y :: m) (fin y) := fun hm => by
        rcases mem_cons.1 hm with a | a
        · omega
        · have := h2.head a;omega
      rcases Nat.lt_trichotomy (fin x) (fin y) with c | c | c
      · exact absurd ((h _).2 (mem_cons.2 (.inl ⟨by unfold fin at *;omega,c⟩))) nx
      · exact c
      · exact absurd ((h _).1 (mem_cons.2 (.inl ⟨by unfold fin at *;omega,c⟩))) ny
    have e : x = y := by
      refine Prod.ext hxy ?_
      unfold fin at hfin;omega
    subst e
    have ht := Sep.unique h1.tail h2.tail (fun p => ⟨fun hp => by
      rcases mem_cons.1 ((h p).1 (mem_cons.2 (.inr hp))) with a | a
      · have := h1.head hp;omega
      · exact a,fun hp => by
      rcases mem_cons.1 ((h p).2 (mem_cons.2 (.inr hp))) with a | a
      · have := h2.head hp;omega
      · exact a⟩)
    rw [ht]

def stepE (out : List E) (z : E) : List E :=
  match out.getLast? with
  | none => [z]
  | some y => if fin y < z.1 then out ++ [z] else if fin y < fin z then out.dropLast ++ [(y.1,fin z - y.1)] else out
def mergeE (l : List E) : List E := l.foldl stepE []
def SortedE (l : List E) : Prop := l.Pairwise (fun x y => x.1 ≤ y.1)
theorem snoc_of_last {α : Type} {l : List α} {y : α} (h : l.getLast? = some y) : l = l.dropLast ++ [y] := by
  obtain ⟨r,rfl⟩ := List.getLast?_eq_some_iff.1 h
  simp
theorem stepE_nil (z : E) : stepE [] z = [z] := rfl
theorem stepE_snoc (r : List E) (y z : E) : stepE (r ++ [y]) z = if fin y < z.1 then r ++ [y] ++ [z] else if fin y < fin z then r ++ [(y.1,fin z - y.1)] else r ++ [y] := by
  unfold stepE;simp
structure Good (B : Nat) (s out : List E) : Prop where
  sep : Sep out
  mem : ∀ p,Mem out p ↔ Mem s p
  le : ∀ e ∈ out,fin e ≤ B
  last : ∀ y,out.getLast? = some y → ∃ x ∈ s,y.1 = x.1
theorem Good.step {B : Nat} {s out : List E} {z : E} (h : Good B s out) (hz : 0 < z.2) (hB : fin z ≤ B) (hs : ∀ x ∈ s,x.1 ≤ z.1) : Good B (s ++ [z]) (stepE out z) := by
  have hm1 : ∀ p,Mem (s ++ [z]) p ↔ Mem s p ∨ (z.1 ≤ p ∧ p < fin z) := fun p => by rw [mem_append,mem_cons];simp [mem_nil]
  cases hl : out.getLast? with
  | none =>
    have : out = [] := List.getLast?_eq_none_iff.1 hl
    subst this
    rw [stepE_nil]
    refine ⟨⟨List.pairwise_singleton _ _,by simpa using hz⟩,fun p => ?_,by simpa using hB,fun y hy => ?_⟩
    · rw [hm1,← h.mem,mem_cons];exact or_comm
    · simp at hy;subst hy;exact ⟨z,by simp,rfl⟩
  | some y =>
    obtain ⟨r,rfl⟩ : ∃ r,out = r ++ [y] := ⟨_,snoc_of_last hl⟩
    obtain ⟨x,hx,hyx⟩ := h.last y hl
    have hyz : y.1 ≤ z.1 := by rw [hyx];exact hs x hx
    have hy0 : 0 < y.2 := h.sep.2 y (by simp)
    obtain ⟨hp1,hp2,hp3⟩ := List.pairwise_append.1 h.sep.1
    have hry : ∀ e ∈ r,fin e < y.1 := fun e he => hp3 e he y (by simp)
    have hmem : ∀ p,Mem s p ↔ Mem r p ∨ (y.1 ≤ p ∧ p < fin y) := fun p => by rw [← h.mem,mem_append,mem_cons];simp [mem_nil]
    rw [stepE_snoc]
    by_cases c1 : fin y < z.1
    · rw [if_pos c1]
      refine ⟨⟨List.pairwise_append.2 ⟨h.sep.1,List.pairwise_singleton _ _,fun a ha b hb => ?_⟩,fun e he => ?_⟩,fun p => ?_,fun e he => ?_,fun q hq => ?_⟩
      · simp only [List.mem_singleton] at hb;subst hb
        rcases List.mem_append.1 ha with ha | ha
        · have := hry a ha;unfold fin at *;omega
        · simp only [List.mem_singleton] at ha;subst ha;exact c1
      · rcases List.mem_append.1 he with he | he
        · exact h.sep.2 e he
        · simp only [List.mem_singleton] at he;subst he;exact hz
      · rw [hm1,hmem,mem_append,mem_append,mem_cons,mem_cons];simp [mem_nil]
      · rcases List.mem_append.1 he with he | he
        · exact h.le e he
        · simp only [List.mem_singleton] at he;subst he;exact hB
      · rw [List.getLast?_concat] at hq;cases hq;exact ⟨z,by simp,rfl⟩
    · rw [if_neg c1]
      by_cases c2 : fin y < fin z
      · rw [if_pos c2]
        have hf : fin (y.1,fin z - y.1) = fin z := by unfold fin at *;simp only;omega
        refine ⟨⟨List.pairwise_append.2 ⟨hp1,List.pairwise_singleton _ _,fun a ha b hb => ?_⟩,fun e he => ?_⟩,fun p => ?_,fun e he => ?_,fun q hq => ?_⟩
        · simp only [List.mem_singleton] at hb;subst hb;exact hry a ha
        · rcases List.mem_append.1 he with he | he
          · exact h.sep.2 e (by simp [he])
          · simp only [List.mem_singleton] at he;subst he;simp only;unfold fin at *;omega
        · rw [hm1,hmem,mem_append,mem_cons,hf];simp only [mem_nil,or_false]
          constructor
          · rintro (a | a)
            · exact .inl (.inl a)
            · by_cases d : p < fin y
              · exact .inl (.inr ⟨a.1,d⟩)
              · exact .inr ⟨by omega,a.2⟩
          · rintro ((a | a) | a)
            · exact .inl a
            · exact .inr ⟨a.1,by omega⟩
            · exact .inr ⟨by omega,a.2⟩
        · rcases List.mem_append.1 he with he | he
          · exact h.le e (by simp [he])
          · simp only [List.mem_singleton] at he;subst he;rw [hf];exact hB
        · rw [List.getLast?_concat] at hq;cases hq;exact ⟨x,by simp [hx],hyx⟩
      · rw [if_neg c2]
        refine ⟨h.sep,fun p => ?_,h.le,fun q hq => ?_⟩
        · rw [hm1,h.mem]
          constructor
          · exact .inl
          · rintro (a | a)
            · exact a
            · rw [hmem];exact .inr ⟨by omega,by omega⟩
        · obtain ⟨x,hx,hy⟩ := h.last q hq;exact ⟨x,by simp [hx],hy⟩
theorem Good.nil (B : Nat) : Good B [] [] := ⟨⟨List.Pairwise.nil,by simp⟩,fun _ => Iff.rfl,by simp,by simp⟩
theorem Good.fold {B : Nat} : ∀ (r s out : List E),Good B s out → (∀ e ∈ r,0 < e.2 ∧ fin e ≤ B) → SortedE (s ++ r) → Good B (s ++ r) (r.foldl stepE out)
  | [],s,out,h,_,_ => by simpa using h
  | z :: r,s,out,h,hz,hs => by
    have hp := List.pairwise_append.1 hs
    have := Good.fold r (s ++ [z]) (stepE out z) (h.step (hz z (by simp)).1 (hz z (by simp)).2 (fun x hx => hp.2.2 x hx z (by simp))) (fun e he => hz e (by simp [he])) (by simpa using hs)
    simpa using this
theorem Good.merge {B : Nat} {l : List E} (h : ∀ e ∈ l,0 < e.2 ∧ fin e ≤ B) (hs : SortedE l) : Good B l (mergeE l) := by
  unfold mergeE;simpa using Good.fold l [] [] (Good.nil B) h (by simpa using hs)

def leE (x y : E) : Bool := decide (x.1 ≤ y.1)
def sortE (l : List E) : List E := l.mergeSort leE
theorem sortE_sorted (l : List E) : SortedE (sortE l) :=
  (List.pairwise_mergeSort (le := leE) (fun a b c h1 h2 => by simp [leE] at *;omega) (fun a b => by simp [leE];omega) l).imp (fun h => by simpa [leE] using h)
theorem sortE_perm (l : List E) : (sortE l).Perm l := List.mergeSort_perm l leE
def normP (l : List E) : List E := mergeE (sortE l)
theorem mem_perm {l m : List E} (h : l.Perm m) (p : Nat) : Mem l p ↔ Mem m p :=
  ⟨fun ⟨e,he,x⟩ => ⟨e,h.mem_iff.1 he,x⟩,fun ⟨e,he,x⟩ => ⟨e,h.mem_iff.2 he,x⟩⟩
structure Normed (B : Nat) (l out : List E) : Prop where
  sep : Sep out
  mem : ∀ p,Mem out p ↔ Mem l p
  le : ∀ e ∈ out,fin e ≤ B
theorem normed {B : Nat} {l s : List E} (h : ∀ e ∈ l,0 < e.2 ∧ fin e ≤ B) (hp : s.Perm l) (hs : SortedE s) : Normed B l (mergeE s) := by
  have g := Good.merge (B := B) (l := s) (fun e he => h e (hp.mem_iff.1 he)) hs
  exact ⟨g.sep,fun p => (g.mem p).trans (mem_perm hp p),g.le⟩
def keptE (B : Nat) (l : List E) : List E := (l.map fun e => (e.1,min e.2 (B - e.1))).filter (fun e => decide (0 < e.2))
theorem keptE_ok {B : Nat} {l : List E} : ∀ e ∈ keptE B l,0 < e.2 ∧ fin e ≤ B := by
  intro e he
  unfold keptE at he
  obtain ⟨h1,h2⟩ := List.mem_filter.1 he
  obtain ⟨x,_,rfl⟩ := List.mem_map.1 h1
  simp only [decide_eq_true_eq] at h2
  unfold fin
  simp only at *
  omega
def normE (B : Nat) (l : List E) : List E := normP (keptE B l)
theorem normE_ok (B : Nat) (l : List E) : Normed B (keptE B l) (normE B l) := normed keptE_ok (sortE_perm _) (sortE_sorted _)
theorem mem_kept {B : Nat} {l : List E} {p : Nat} : Mem (keptE B l) p ↔ Mem l p ∧ p < B := by
  unfold Mem keptE
  constructor
  · rintro ⟨e,he,h1,h2⟩
    obtain ⟨h3,h4⟩ := List.mem_filter.1 he
    obtain ⟨x,hx,rfl⟩ := List.mem_map.1 h3
    simp only [decide_eq_true_eq] at h4
    unfold fin at *
    simp only at *
    exact ⟨⟨x,hx,h1,by omega⟩,by omega⟩
  · rintro ⟨⟨e,he,h1,h2⟩,h3⟩
    refine ⟨(e.1,min e.2 (B - e.1)),List.mem_filter.2 ⟨List.mem_map.2 ⟨e,he,rfl⟩,?_⟩,h1,?_⟩
    · simp only [decide_eq_true_eq];unfold fin at *;omega
    · unfold fin at *;simp only;omega
theorem mem_norm {B : Nat} {l : List E} {p : Nat} : Mem (normE B l) p ↔ Mem l p ∧ p < B := ((normE_ok B l).mem p).trans mem_kept
end Go.Proofs.YtbffcndmcaeamaaDoor.Ext
end
section
set_option linter.unusedSimpArgs false
set_option linter.unusedVariables false
namespace Go.Proofs.YtbffcndmcaeamaaDoor.Ext

def chkE : Int → List E → Int → Bool
  | last,[],size => decide (last ≤ size)
  | last,e :: r,size => if e.2 = 0 ∨ (e.1 : Int) ≤ last then false else chkE (fin e) r size
def mayE (B : Nat) (l : List E) (size : Int) : Bool := decide (0 ≤ size) && decide (size ≤ B) && chkE (-1) l size
theorem chkE_sep : ∀ {l : List E} {last size : Int},Sep l → (∀ e ∈ l,last < e.1 ∧ (fin e : Int) ≤ size) → last ≤ size → chkE last l size = true
  | [],last,size,_,_,h => by simp [chkE,h]
  | e :: r,last,size,hs,h,_ => by
    have h0 := hs.2 e (by simp)
    have h1 := h e (by simp)
    rw [chkE,if_neg (by omega)]
    exact chkE_sep hs.tail (fun x hx => ⟨by have := (List.pairwise_cons.1 hs.1).1 x hx;omega,(h x (by simp [hx])).2⟩) h1.2
theorem mayE_sep {B : Nat} {l : List E} {size : Int} (h0 : 0 ≤ size) (hB : size ≤ B) (hs : Sep l) (hl : ∀ e ∈ l,(fin e : Int) ≤ size) : mayE B l size = true := by
  unfold mayE
  rw [chkE_sep hs (fun e he => ⟨by omega,hl e he⟩) (by omega)]
  simp [h0,hB]

end Go.Proofs.YtbffcndmcaeamaaDoor.Ext
end
section
set_option linter.unusedSimpArgs false
set_option linter.unusedVariables false
namespace Go.Proofs.YtbffcndmcaeamaaDoor.Flo
open Ieee

theorem cmp_mul {a b c : Int} (hc : 0 < c) : compare (a * c) (b * c) = compare a b := by
  simp only [compare,compareOfLessAndEq]
  by_cases h1 : a < b
  · have : a * c < b * c := Int.mul_lt_mul_of_pos_right h1 hc
    simp [h1,this]
  · by_cases h2 : a = b
    · simp [h2]
    · have : ¬ a * c < b * c := Int.not_lt.2 (Int.mul_le_mul_of_nonneg_right (by omega) (by omega))
      have h3 : ¬ a * c = b * c := fun h => h2 (Int.eq_of_mul_eq_mul_right (by omega) h)
      simp [h1,h2,this,h3]
theorem shl (m k : Nat) : m <<< k = m * 2 ^ k := Nat.shiftLeft_eq m k
theorem sgn (neg : Bool) (m k : Nat) : signed neg m k = if neg then -((m * 2 ^ k : Nat) : Int) else ((m * 2 ^ k : Nat) : Int) := by
  unfold signed;rw [shl]
def sg (neg : Bool) (x : Int) : Int := if neg then -x else x
theorem ord_num (neg : Bool) (m : Nat) (i : Int) (y s : Nat) : Datum.order (.number neg m i) (.number false (y * 2 ^ s) (-(s : Int))) = some (compare (sg neg ((m * 2 ^ i.toNat : Nat) : Int)) ((y * 2 ^ (-i).toNat : Nat) : Int)) := by
  simp only [Datum.order,sgn]
  congr 1
  generalize hu : (i - min i (-(s : Int))).toNat = u
  generalize hv : (-(s : Int) - min i (-(s : Int))).toNat = v
  generalize hp : i.toNat = p
  generalize he : (-i).toNat = e
  have h1 : u + e = v + p + s := by omega
  rw [← cmp_mul (c := ((2 ^ e : Nat) : Int)) (by exact_mod_cast Nat.pos_of_ne_zero (by simp))]
  rw [← cmp_mul (a := sg neg _) (c := ((2 ^ (v + s) : Nat) : Int)) (by exact_mod_cast Nat.pos_of_ne_zero (by simp))]
  have e1 : m * 2 ^ u * 2 ^ e = m * 2 ^ p * 2 ^ (v + s) := by
    rw [Nat.mul_assoc,Nat.mul_assoc,← Nat.pow_add,← Nat.pow_add,h1];congr 2;omega
  have e2 : y * 2 ^ s * 2 ^ v * 2 ^ e = y * 2 ^ e * 2 ^ (v + s) := by
    rw [Nat.mul_assoc,Nat.mul_assoc,Nat.mul_assoc,← Nat.pow_add,← Nat.pow_add,← Nat.pow_add];congr 2;omega
  cases neg
  · simp only [sg]
    simp only [Bool.false_eq_true,if_false]
    rw [← Int.natCast_mul,← Int.natCast_mul,← Int.natCast_mul,← Int.natCast_mul,e1,e2]
  · simp only [sg]
    simp only [if_true,Bool.false_eq_true,if_false]
    rw [Int.neg_mul,Int.neg_mul,← Int.natCast_mul,← Int.natCast_mul,← Int.natCast_mul,← Int.natCast_mul,e1,e2]

def fI (n : Nat) : Nat := floatOfInt .f64 n
theorem read_fI {n : Nat} (h : n < 2 ^ 53) : ∃ s : Nat,double.read (fI n) = .number false (n * 2 ^ s) (-(s : Int)) := by
  by_cases h0 : n = 0
  · subst h0;exact ⟨1074,by decide +kernel⟩
  have hl : n.log2 ≤ 52 := by
    have := (Nat.log2_lt h0 (k := 53)).2 h
    omega
  have hlo : 2 ^ n.log2 ≤ n := Nat.log2_self_le h0
  have hhi : n < 2 ^ (n.log2 + 1) := Nat.lt_log2_self
  refine ⟨52 - n.log2,?_⟩
  have hb1 : 2 ^ 52 ≤ n * 2 ^ (52 - n.log2) := by
    calc 2 ^ 52 = 2 ^ n.log2 * 2 ^ (52 - n.log2) := by rw [← Nat.pow_add];congr 1;omega
      _ ≤ _ := Nat.mul_le_mul_right _ hlo
  have hb2 : n * 2 ^ (52 - n.log2) < 2 ^ 53 := by
    calc n * 2 ^ (52 - n.log2) < 2 ^ (n.log2 + 1) * 2 ^ (52 - n.log2) := Nat.mul_lt_mul_of_pos_right hhi (Nat.pos_of_ne_zero (by simp))
      _ = 2 ^ 53 := by rw [← Nat.pow_add];congr 1;omega
  generalize hk : n * 2 ^ (52 - n.log2) = k at *
  have hw : fI n = (n.log2 + 1022) * 2 ^ 52 + k := by
    show double.nearest (decide (((n : Nat) : Int) < 0)) ((n : Int)).natAbs 0 = _
    have hneg : decide (((n : Nat) : Int) < 0) = false := by simp
    rw [hneg]
    unfold Format.nearest
    rw [show ((n : Int)).natAbs = n by simp,if_neg h0]
    have hlast : max ((0 : Int) + (n.log2 : Nat) - (double.fractionBits : Nat)) double.leastPlace = (n.log2 : Int) - 52 := by
      have h1 : (double.fractionBits : Nat) = 52 := rfl
      have h2 : double.leastPlace = -1074 := by decide
      rw [h1,h2];omega
    simp only [hlast]
    have h2 : double.leastPlace = -1074 := by decide
    have h3 : double.binade = 2 ^ 52 := rfl
    have hsh : n <<< (0 - ((n.log2 : Int) - 52)).toNat = k := by
      rw [shl,← hk];congr 2;omega
    have hdr : ((n.log2 : Int) - 52 - 0).toNat = 0 := by omega
    rw [hsh,hdr,h2,h3]
    have hcut : Toward.even.cut false k 0 = k := by
      simp [Toward.cut,Nat.mod_one]
    rw [hcut]
    have hinf : double.infRung = 2047 * 2 ^ 52 := by decide
    rw [hinf]
    unfold Format.word
    simp only [Bool.false_eq_true,if_false]
    rw [Nat.min_eq_left (by omega)]
    congr 2
    omega
  rw [hw]
  unfold Format.read
  have h3 : double.binade = 2 ^ 52 := rfl
  have h4 : double.signWeight = 2 ^ 63 := rfl
  have hinf : double.infRung = 2047 * 2 ^ 52 := by decide
  have h2 : double.leastPlace = -1074 := by decide
  simp only [h3,h4,hinf,h2]
  have hlt : (n.log2 + 1022) * 2 ^ 52 + k < 2 ^ 63 := by omega
  rw [Nat.mod_eq_of_lt hlt,Nat.div_eq_of_lt hlt]
  rw [if_neg (by omega),if_pos (by omega)]
  have hm : ((n.log2 + 1022) * 2 ^ 52 + k) % 2 ^ 52 = k - 2 ^ 52 := by omega
  have hd : ((n.log2 + 1022) * 2 ^ 52 + k) / 2 ^ 52 = n.log2 + 1023 := by omega
  rw [hm,hd]
  have e1 : (2 ^ 52 + (k - 2 ^ 52)) = k := by omega
  have e2 : (-1074 : Int) + ((n.log2 + 1023 - 1 : Nat) : Int) = -((52 - n.log2 : Nat) : Int) := by omega
  have e3 : ((0 : Nat) % 2 == 1) = false := rfl
  rw [e1,e2,e3]

def big : Nat := 1099511627776
theorem cut_zero (neg : Bool) (n d : Nat) : Toward.zero.cut neg n d = n / 2 ^ d := by
  simp only [Toward.cut,Bool.toNat_false,Nat.add_zero,shl,Nat.one_mul]
  by_cases h : d ≤ n.log2 + 2
  · rw [Nat.min_eq_left h]
  · rw [Nat.min_eq_right (by omega)]
    have h1 : n < 2 ^ (n.log2 + 2) := Nat.lt_trans Nat.lt_log2_self (Nat.pow_lt_pow_right (by decide) (by omega))
    rw [Nat.div_eq_of_lt h1,Nat.div_eq_of_lt (Nat.lt_trans h1 (Nat.pow_lt_pow_right (by decide) (by omega)))]
theorem toInt_num (neg : Bool) (m : Nat) (i : Int) : Datum.toInt .zero (.number neg m i) = some (sg neg ((m * 2 ^ i.toNat / 2 ^ (-i).toNat : Nat) : Int)) := by
  simp only [Datum.toInt,Datum.integral,cut_zero,sgn,shl,Nat.pow_zero,Nat.mul_one,sg]

def partD : Datum → Nat
  | .number false m i => min (m * 2 ^ i.toNat / 2 ^ (-i).toNat) big
  | .infinity false => big
  | _ => 0
def partI (b : Nat) : Nat := partD (double.read b)
theorem partI_fI {n : Nat} (h : n ≤ big) : partI (fI n) = n := by
  obtain ⟨s,hs⟩ := read_fI (n := n) (by unfold big at h;omega)
  unfold partI
  rw [hs,partD]
  have e1 : (-(s : Int)).toNat = 0 := by omega
  have e2 : (- -(s : Int)).toNat = s := by omega
  simp only [e1,e2,Nat.pow_zero,Nat.mul_one]
  rw [Nat.mul_div_cancel _ (Nat.pos_of_ne_zero (by simp))]
  exact Nat.min_eq_left h
theorem readB : double.read 4787326403894837248 = .number false (big * 2 ^ 12) (-((12 : Nat) : Int)) := by decide +kernel
theorem read0 : double.read 0 = .number false 0 (-((1074 : Nat) : Int)) := by decide +kernel
theorem ord_zero (neg : Bool) (m : Nat) (i : Int) (s : Nat) : Datum.order (.number neg m i) (.number false 0 (-(s : Int))) = some (compare (sg neg ((m * 2 ^ i.toNat : Nat) : Int)) 0) := by
  have := ord_num neg m i 0 s
  rwa [Nat.zero_mul,Nat.zero_mul] at this
theorem cmp_gt {a b : Int} : compare a b = .gt ↔ b < a := by
  simp only [compare,compareOfLessAndEq]
  by_cases h1 : a < b
  · simp [h1];omega
  · by_cases h2 : a = b
    · simp [h2]
    · simp [h1,h2];omega
theorem cmp_eq {a b : Int} : compare a b = .eq ↔ a = b := by
  simp only [compare,compareOfLessAndEq]
  by_cases h1 : a < b
  · simp [h1];omega
  · by_cases h2 : a = b <;> simp [h1,h2]
theorem cmp_lt {a b : Int} : compare a b = .lt ↔ a < b := by
  simp only [compare,compareOfLessAndEq]
  by_cases h1 : a < b
  · simp [h1]
  · by_cases h2 : a = b <;> simp [h1,h2]
theorem part_cases (b : Nat) :
    (double.order b 4787326403894837248 = some .gt ∧ partI b = big) ∨
    (double.order b 4787326403894837248 = some .eq ∧ double.order b 0 = some .gt ∧ partI b = big ∧ floatToIntVal .f64 b .i64 = some (big : Int)) ∨
    (double.order b 4787326403894837248 = some .lt ∧ double.order b 0 = some .gt ∧ floatToIntVal .f64 b .i64 = some (partI b : Int)) ∨
    (double.order b 4787326403894837248 = some .lt ∧ double.order b 0 = some .eq ∧ floatToIntVal .f64 b .i64 = some (partI b : Int) ∧ partI b = 0) ∨
    (double.order b 4787326403894837248 = some .lt ∧ double.order b 0 = some .lt ∧ partI b = 0) ∨
    (double.order b 4787326403894837248 = none ∧ double.order b 0 = none ∧ partI b = 0) := by
  unfold Format.order floatToIntVal partI
  show _
  rw [readB,read0]
  have hdec : FloatKind.f64.decode b = double.read b := rfl
  rw [hdec]
  generalize double.read b = d
  have hmin : IntKind.i64.min = -9223372036854775808 := by decide
  have hmax : IntKind.i64.max = 9223372036854775807 := by decide
  cases d with
  | nan s f => right;right;right;right;right;exact ⟨rfl,rfl,rfl⟩
  | infinity s =>
    cases s
    · left;exact ⟨rfl,rfl⟩
    · right;right;right;right;left;exact ⟨rfl,rfl,rfl⟩
  | number s m i =>
    rw [ord_num,ord_zero,toInt_num]
    have hpd : partD (.number s m i) = if s then 0 else min (m * 2 ^ i.toNat / 2 ^ (-i).toNat) big := by cases s <;> rfl
    rw [hpd]
    simp only [Option.some.injEq,cmp_gt,cmp_eq,cmp_lt,reduceCtorEq,false_and,or_false]
    generalize hp : i.toNat = p
    generalize he : (-i).toNat = e
    generalize hx : m * 2 ^ p = x
    have hq : 0 < 2 ^ e := Nat.pos_of_ne_zero (by simp)
    generalize hy : 2 ^ e = q at hq
    have hdiv : x / q * q ≤ x := Nat.div_mul_le_self x q
    cases s
    · simp only [sg,Bool.false_eq_true,if_false]
      rcases Nat.lt_trichotomy x (big * q) with h | h | h
      · have h1 : x / q < big := (Nat.div_lt_iff_lt_mul hq).2 h
        have h2 : min (x / q) big = x / q := Nat.min_eq_left (by omega)
        have h3 : ((x : Nat) : Int) < ((big * q : Nat) : Int) := by exact_mod_cast h
        have hr : IntKind.i64.min ≤ ((x / q : Nat) : Int) ∧ ((x / q : Nat) : Int) ≤ IntKind.i64.max := by
          have h4 : x / q < 1099511627776 := h1
          rw [hmin,hmax];clear hpd h2 h1;generalize x / q = z at *;exact ⟨by omega,by omega⟩
        rw [h2,if_pos hr]
        by_cases h0 : x = 0
        · right;right;right;left
          refine ⟨h3,by simp [h0],rfl,by simp [h0]⟩
        · right;right;left
          refine ⟨h3,by simp;omega,rfl⟩
      · have h1 : x / q = big := by rw [h];exact Nat.mul_div_cancel _ hq
        right;left
        rw [h1]
        have hr : IntKind.i64.min ≤ ((big : Nat) : Int) ∧ ((big : Nat) : Int) ≤ IntKind.i64.max := by
          rw [hmin,hmax];unfold big;omega
        refine ⟨by exact_mod_cast h,?_,by simp,by rw [if_pos hr]⟩
        have : 0 < big * q := Nat.mul_pos (by decide) hq
        simp;omega
      · left
        have h1 : big ≤ x / q := (Nat.le_div_iff_mul_le hq).2 (Nat.le_of_lt h)
        exact ⟨by exact_mod_cast h,Nat.min_eq_right h1⟩
    · simp only [sg,if_true]
      have hb : 0 < big * q := Nat.mul_pos (by decide) hq
      have h3 : -((x : Nat) : Int) < ((big * q : Nat) : Int) := by omega
      by_cases h0 : x = 0
      · right;right;right;left
        refine ⟨h3,by simp [h0],?_,trivial⟩
        rw [if_pos (by rw [hmin,hmax];simp [h0])];simp [h0]
      · right;right;right;right
        refine ⟨h3,by simp;omega,trivial⟩
end Go.Proofs.YtbffcndmcaeamaaDoor.Flo
end
