import Derived.Test.YteamlijbkldlhaaGreatMSpec
import Derived.Test.YteamlijbkldlhaaGreatFlo
import Derived.Test.YteamlijbkldlhaaGreatPlain
section
set_option linter.unusedSimpArgs false
set_option linter.unusedVariables false
namespace Go.Proofs.YteamlijbkldlhaaGreat.NodeSpec
open GSort AclSpec MetaSpec Ext

structure Piece where
  pos : Int
  dat : List UInt8
  deriving DecidableEq,Inhabited
structure FNode where
  kind : Int
  mt : Meta
  size : Int
  dat : List Piece
  target : List UInt8
  major : Int
  minor : Int
  deriving DecidableEq,Inhabited
def small (n : FNode) : Prop := n.mt.attrs.length ≤ 1000000 ∧ n.mt.acl.length ≤ 1000000 ∧ n.dat.length ≤ 1000000 ∧ ∀ p ∈ n.dat,p.dat.length ≤ 1000000
def bytesP (l : List Piece) : Nat := (l.map fun p => p.dat.length).sum
def bytesN (n : FNode) : Nat := bytesP n.dat
theorem bytesP_le {l : List Piece} (h : ∀ p ∈ l,p.dat.length ≤ 1000000) : bytesP l ≤ l.length * 1000000 := by
  induction l with
  | nil => simp [bytesP]
  | cons p r ih =>
    have h1 := h p (by simp)
    have h2 := ih fun q hq => h q (by simp [hq])
    simp only [bytesP,List.map_cons,List.sum_cons,List.length_cons] at *
    omega
theorem bytesP_take {l : List Piece} {i : Nat} {p : Piece} (h : l[i]? = some p) : bytesP (l.take (i + 1)) = bytesP (l.take i) + p.dat.length := by
  obtain ⟨hi,rfl⟩ := List.getElem?_eq_some_iff.1 h
  unfold bytesP
  rw [List.take_succ_eq_append_getElem hi,List.map_append,List.sum_append_nat]
  simp
theorem bytesP_mono {l : List Piece} (i : Nat) : bytesP (l.take i) ≤ bytesP l := by
  induction l generalizing i with
  | nil => simp
  | cons p r ih =>
    cases i with
    | zero => simp [bytesP]
    | succ i =>
      have := ih i
      simp only [bytesP,List.take_succ_cons,List.map_cons,List.sum_cons] at *
      omega
def limN (v : Int) : Nat := (min (max v 0) 1099511627776).toNat
def extN (n : FNode) : List E := n.dat.map fun p => (limN p.pos,limN p.dat.length)
def okPiece (p : Piece) : Bool := !decide (p.dat = []) && !decide (p.pos < 0) && !decide (1099511627776 < p.pos)
def mayFileN (n : FNode) : Bool := !decide (n.size < 0) && !decide (1099511627776 < n.size) && !decide (16 < n.dat.length) && n.dat.all okPiece && decide (bytesN n ≤ 4000) && mayE Flo.big (extN n) n.size
def noDev (n : FNode) : Bool := decide (n.major = 0) && decide (n.minor = 0)
def mayN (n : FNode) : Bool :=
  !decide (n.kind < 1) && !decide (6 < n.kind) && mayM n.mt &&
  (decide (n.kind = 2) || decide (n.size = 0) && decide (n.dat = [])) &&
  (decide (n.kind = 3) || decide (n.target = [])) &&
  (decide (n.kind = 4) || decide (n.kind = 5) || noDev n) &&
  (if n.kind = 2 then mayFileN n
   else if n.kind = 3 then decide (1 ≤ n.target.length) && decide (n.target.length ≤ 200) && !n.target.contains 0
   else if n.kind = 4 ∨ n.kind = 5 then decide (0 ≤ n.major) && decide (n.major ≤ 65535) && decide (0 ≤ n.minor) && decide (n.minor ≤ 65535)
   else true)
def diffN (a b : FNode) : List UInt8 :=
  if ¬ a.kind = b.kind then [107,105,110,100]
  else if ¬ diffM a.mt b.mt = [] then diffM a.mt b.mt
  else if ¬ a.size = b.size then [115,105,122,101]
  else if ¬ a.dat = b.dat then [100,97,116,97]
  else if ¬ a.target = b.target then [116,97,114,103,101,116]
  else if ¬ a.major = b.major then [100,101,118,105,99,101]
  else if ¬ a.minor = b.minor then [100,101,118,105,99,101]
  else []
theorem diffN_nil {a b : FNode} : diffN a b = [] ↔ a = b := by
  unfold diffN
  constructor
  · intro h
    repeat' split at h
    all_goals first | (cases h;done) | skip
    · rename_i h1 h2;exact absurd h h2
    · rename_i h1 h2 h3 h4 h5 h6 h7
      have := diffM_nil.1 (Classical.not_not.1 h2)
      cases a;cases b;simp_all
  · rintro rfl
    have := (diffM_nil (a := a.mt) (b := a.mt)).2 rfl
    simp [this]
def overlay (room : List UInt8) (o : Nat) (s : List UInt8) : List UInt8 := room.take o ++ s ++ room.drop (o + s.length)
def readStep (a : Int) (k : Nat) (room : List UInt8) (p : Piece) : List UInt8 :=
  if max p.pos a < min (p.pos + p.dat.length) (a + k) then overlay room (max p.pos a - a).toNat ((p.dat.take (min (p.pos + p.dat.length) (a + k) - p.pos).toNat).drop (max p.pos a - p.pos).toNat) else room
def readB (l : List Piece) (a : Int) (k : Nat) : List UInt8 := l.foldl (readStep a k) (List.replicate k 0)
end Go.Proofs.YteamlijbkldlhaaGreat.NodeSpec
end
section
set_option linter.unusedSimpArgs false
set_option linter.unusedVariables false
namespace Go.Proofs.YteamlijbkldlhaaGreat.RecSpec

def big : Nat := 18446744073709551616
theorem toU8 {n : Nat} (h : n < 250) : (n.toUInt8).toNat = n := by
  rw [Nat.toUInt8,UInt8.toNat_ofNat'];omega
end Go.Proofs.YteamlijbkldlhaaGreat.RecSpec
end
section
set_option linter.unusedSimpArgs false
set_option linter.unusedVariables false
namespace Go.Proofs.YteamlijbkldlhaaGreat.RecSpec
open AclSpec MetaSpec NodeSpec

structure Rd where
  pos : Nat
  bad : Bool
def Rdr (α : Type) := Rd → α × Rd
def pureR {α : Type} (a : α) : Rdr α := fun s => (a,s)
def bindR {α β : Type} (f : Rdr α) (g : α → Rdr β) : Rdr β := fun s => g (f s).1 (f s).2
structure Rok (b : List UInt8) {α : Type} (f : Rdr α) (P : α → List UInt8 → Prop) : Prop where
  back : ∀ a w p tail,P a w → p ≤ b.length → b.drop p = w ++ tail → f ⟨p,false⟩ = (a,⟨p + w.length,false⟩)
  pos : ∀ s,s.pos ≤ b.length → (f s).2.pos ≤ b.length
  stick : ∀ s,s.pos ≤ b.length → (f s).2.bad = false → s.bad = false
  inv : ∀ s,s.pos ≤ b.length → (f s).2.bad = false → ∃ w,P (f s).1 w ∧ b.drop s.pos = w ++ b.drop (f s).2.pos
section
variable {b : List UInt8} {α β : Type}
theorem Rok.pure (a : α) : Rok b (pureR a) (fun c w => c = a ∧ w = []) :=
  ⟨fun c w p tail h hp hb => by rw [h.1,h.2];rfl,fun s h => h,fun s _ h => h,fun s _ _ => ⟨[],⟨rfl,rfl⟩,rfl⟩⟩
theorem drop_app {b w tail : List UInt8} {p : Nat} (h : b.drop p = w ++ tail) : b.drop (p + w.length) = tail := by
  rw [← List.drop_drop,h,List.drop_left]
theorem le_app {b w tail : List UInt8} {p : Nat} (hp : p ≤ b.length) (h : b.drop p = w ++ tail) : p + w.length ≤ b.length := by
  have := congrArg List.length h
  rw [List.length_drop,List.length_append] at this;omega
theorem Rok.bind {f : Rdr α} {g : α → Rdr β} {P : α → List UInt8 → Prop} {Q : α → β → List UInt8 → Prop} (hf : Rok b f P) (hg : ∀ a,Rok b (g a) (Q a)) :
    Rok b (bindR f g) (fun c w => ∃ a w1 w2,P a w1 ∧ Q a c w2 ∧ w = w1 ++ w2) := by
  refine ⟨?_,fun s h => (hg _).pos _ (hf.pos s h),fun s h hb => hf.stick s h ((hg _).stick _ (hf.pos s h) hb),?_⟩
  · rintro c w p tail ⟨a,w1,w2,h1,h2,rfl⟩ hp hb
    rw [List.append_assoc] at hb
    have e1 := hf.back a w1 p _ h1 hp hb
    have e2 := (hg a).back c w2 (p + w1.length) tail h2 (le_app hp hb) (drop_app hb)
    unfold bindR
    rw [e1]
    simp only [e2,List.length_append,Nat.add_assoc]
  · intro s h hb
    have hs := (hg (f s).1).stick _ (hf.pos s h) hb
    obtain ⟨w1,p1,d1⟩ := hf.inv s h hs
    obtain ⟨w2,p2,d2⟩ := (hg (f s).1).inv _ (hf.pos s h) hb
    exact ⟨w1 ++ w2,⟨_,w1,w2,p1,p2,rfl⟩,by rw [d1,d2,List.append_assoc];rfl⟩
theorem Rok.imp {f : Rdr α} {P Q : α → List UInt8 → Prop} (h : Rok b f P) (hpq : ∀ a w,P a w ↔ Q a w) : Rok b f Q :=
  ⟨fun a w p tail hq => h.back a w p tail ((hpq a w).2 hq),h.pos,h.stick,fun s hs hb => (h.inv s hs hb).imp fun w hw => ⟨(hpq _ w).1 hw.1,hw.2⟩⟩
def rRep (f : Rdr α) : Nat → Rdr (List α)
  | 0 => pureR []
  | k + 1 => bindR f fun a => bindR (rRep f k) fun l => pureR (a :: l)
inductive Encs (P : α → List UInt8 → Prop) : List α → List UInt8 → Prop
  | nil : Encs P [] []
  | cons {a : α} {l : List α} {w1 w2 : List UInt8} : P a w1 → Encs P l w2 → Encs P (a :: l) (w1 ++ w2)
theorem Rok.rep {f : Rdr α} {P : α → List UInt8 → Prop} (h : Rok b f P) : ∀ k : Nat,Rok b (rRep f k) (fun l w => l.length = k ∧ Encs P l w)
  | 0 => (Rok.pure ([] : List α)).imp fun l w => ⟨fun ⟨h1,h2⟩ => by rw [h1,h2];exact ⟨rfl,.nil⟩,fun ⟨h1,h2⟩ => by
      have : l = [] := List.eq_nil_of_length_eq_zero h1
      subst this
      cases h2;exact ⟨rfl,rfl⟩⟩
  | k + 1 => (h.bind fun a => (Rok.rep h k).bind fun l => Rok.pure (a :: l)).imp fun l w => by
      constructor
      · rintro ⟨a,w1,w2,h1,⟨m,w3,w4,⟨h2,h3⟩,⟨h4,h5⟩,h6⟩,h7⟩
        subst h4;subst h5;subst h6;subst h7
        rw [List.append_nil]
        exact ⟨by rw [List.length_cons,h2],.cons h1 h3⟩
      · rintro ⟨h1,h2⟩
        cases h2 with
        | nil => simp at h1
        | cons h3 h4 => exact ⟨_,_,_,h3,⟨_,_,_,⟨by simpa using h1,h4⟩,⟨rfl,rfl⟩,rfl⟩,by rw [List.append_nil]⟩
end
end Go.Proofs.YteamlijbkldlhaaGreat.RecSpec
end
section
set_option linter.unusedSimpArgs false
set_option linter.unusedVariables false
namespace Go.Proofs.YteamlijbkldlhaaGreat.RecSpec
open AclSpec MetaSpec NodeSpec PathSpec

def itoB (n : Nat) : List UInt8 := if n ≤ 9 then [48 + n.toUInt8] else itoB (n / 10) ++ [48 + (n % 10).toUInt8]
termination_by n
theorem itoB_lo {n : Nat} (h : n ≤ 9) : itoB n = [48 + n.toUInt8] := by rw [itoB,if_pos h]
theorem itoB_hi {n : Nat} (h : ¬ n ≤ 9) : itoB n = itoB (n / 10) ++ [48 + (n % 10).toUInt8] := by rw [itoB,if_neg h]
def digB (c : UInt8) : Bool := decide (48 ≤ c.toNat) && decide (c.toNat ≤ 57)
def numD : List UInt8 → Nat → Option Nat
  | [],n => some n
  | c :: r,n => if digB c then numD r (10 * n + (c.toNat - 48)) else none
def lenS (s : List UInt8) : Nat := if 4 < s.length ∨ s.head? = some 48 then 0 else match numD s 0 with
  | some n => if 4000 < n then 0 else n
  | none => 0
theorem numD_app (l m : List UInt8) (a : Nat) : numD (l ++ m) a = (numD l a).bind (numD m) := by
  induction l generalizing a with
  | nil => rfl
  | cons c r ih =>
    rw [List.cons_append,numD,numD]
    split
    · exact ih _
    · rfl
theorem dig_of {d : Nat} (h : d ≤ 9) : (48 + d.toUInt8).toNat = 48 + d := by
  rw [UInt8.toNat_add,toU8 (by omega)]
  show (48 + d) % 256 = _
  omega
theorem ito_num : ∀ (k : Nat) (s : List UInt8) (n : Nat),s.length = k → s ≠ [] → s.head? ≠ some 48 → numD s 0 = some n → 1 ≤ n ∧ s = itoB n := by
  intro k
  induction k with
  | zero => intro s n hl h0;exact absurd (List.eq_nil_of_length_eq_zero hl) h0
  | succ k ih =>
    intro s n hl h0 hh hn
    rcases List.eq_nil_or_concat s with h | ⟨t,c,hs⟩
    · exact absurd h h0
    rw [List.concat_eq_append] at hs
    subst hs
    rw [List.length_append,List.length_singleton] at hl
    rw [numD_app] at hn
    cases ht : numD t 0 with
    | none => rw [ht] at hn;cases hn
    | some a =>
      rw [ht] at hn
      have hn : numD [c] a = some n := hn
      rw [numD] at hn
      split at hn
      · rename_i hd
        unfold digB at hd
        rw [Bool.and_eq_true,decide_eq_true_eq,decide_eq_true_eq] at hd
        rw [numD] at hn
        have hn := Option.some.inj hn
        have hc : c = 48 + (c.toNat - 48).toUInt8 := by
          apply UInt8.toNat_inj.1
          rw [dig_of (by omega)];omega
        by_cases htn : t = []
        · subst htn
          rw [numD] at ht
          have ha := Option.some.inj ht
          have hne : c.toNat ≠ 48 := by
            intro e
            apply hh
            have : c = 48 := UInt8.toNat_inj.1 e
            rw [this];rfl
          refine ⟨by omega,?_⟩
          rw [itoB_lo (by omega),List.nil_append]
          rw [show n = c.toNat - 48 by omega,← hc]
        · have hh2 : t.head? ≠ some 48 := by
            cases t with
            | nil => exact absurd rfl htn
            | cons x r => simpa using hh
          obtain ⟨i1,i2⟩ := ih t a (by omega) htn hh2 ht
          refine ⟨by omega,?_⟩
          rw [itoB_hi (by omega),show n / 10 = a by omega,show n % 10 = c.toNat - 48 by omega,← hc,← i2]
      · cases hn
theorem ito_lenS {s : List UInt8} (h : lenS s ≠ 0) : s = itoB (lenS s) ∧ lenS s ≤ 4000 := by
  unfold lenS at h ⊢
  split at h
  · exact absurd rfl h
  · rename_i hc
    rw [if_neg hc]
    cases hn : numD s 0 with
    | none => rw [hn] at h;exact absurd rfl h
    | some n =>
      rw [hn] at h
      simp only at h ⊢
      split at h
      · exact absurd rfl h
      · rename_i h4
        rw [if_neg h4]
        have h0 : s ≠ [] := by
          rintro rfl
          rw [numD] at hn
          exact h (Option.some.inj hn).symm
        exact ⟨(ito_num _ s n rfl h0 (fun c => hc (.inr c)) hn).2,by omega⟩

structure Rec where
  path : List UInt8
  lead : Int
  node : FNode
  pos : Int
  deriving DecidableEq,Inhabited
def zeroN : FNode := ⟨0,⟨0,0,0,0,[],[]⟩,0,[],[],0,0⟩
def zeroRec : Rec := ⟨[],0,zeroN,0⟩
def fullP : List Piece → Option (List Piece)
  | [] => some []
  | p :: r => if lenS p.dat = 0 then none else (fullP r).map (⟨p.pos,List.replicate (lenS p.dat) 120⟩ :: ·)
def fullN (n : FNode) : Option FNode := if n.kind = 2 then (if 16 < n.dat.length then none else (fullP n.dat).map fun l => { n with dat := l }) else some n
def mayNR (n : FNode) (pos : Int) : Bool := mayN n && (decide (pos = 0) || (decide (n.kind = 2) && !n.dat.isEmpty))
def mayRec (r : Rec) : Bool := mayB r.path && !decide (r.lead < 0) && !decide (100 ≤ r.lead) && !decide (r.pos < 0) && !decide (400000 < r.pos) &&
  (if r.node = zeroN then decide (r.pos = 0) else match fullN r.node with | none => false | some n => mayNR n r.pos)
def okI (x : Int) : Prop := 0 ≤ x ∧ x < 9223372036854775808
def okAt (a : Attr) : Prop := a.name.length ≤ 20 ∧ a.value.length ≤ 200
def okAc (a : Ace) : Prop := okI a.kind ∧ okI a.id ∧ okI a.perm
def okPcR (p : Piece) : Prop := okI p.pos ∧ ∃ n : Nat,n ≤ 4000 ∧ p.dat = itoB n
structure OkM (m : Meta) : Prop where
  mode : okI m.mode
  uid : okI m.uid
  gid : okI m.gid
  time : okI m.time
  attrs : m.attrs.length ≤ 8
  attr : ∀ a ∈ m.attrs,okAt a
  acl : m.acl.length ≤ 16
  ace : ∀ a ∈ m.acl,okAc a
end Go.Proofs.YteamlijbkldlhaaGreat.RecSpec
end
section
set_option linter.unusedSimpArgs false
set_option linter.unusedVariables false
namespace Go.Proofs.YteamlijbkldlhaaGreat.RecSpec
open AclSpec MetaSpec NodeSpec PathSpec

structure OkB (n : FNode) (pos : Int) : Prop where
  size : okI n.size
  len : n.dat.length ≤ 16
  pcs : ∀ p ∈ n.dat,okPcR p
  target : n.target.length ≤ 200
  major : okI n.major
  minor : okI n.minor
  ppos : okI pos
  notFile : n.kind ≠ 2 → n.size = 0 ∧ n.dat = []
  none : n.dat = [] → pos = 0
  notLink : n.kind ≠ 3 → n.target = []
  notDev : n.kind ≠ 4 → n.kind ≠ 5 → n.major = 0 ∧ n.minor = 0
section
variable {b : List UInt8} {α : Type}
end
end Go.Proofs.YteamlijbkldlhaaGreat.RecSpec
end
section
set_option linter.unusedSimpArgs false
set_option linter.unusedVariables false
namespace Go.Proofs.YteamlijbkldlhaaGreat.RecSpec
open AclSpec MetaSpec NodeSpec PathSpec

end Go.Proofs.YteamlijbkldlhaaGreat.RecSpec
end
section
set_option linter.unusedSimpArgs false
set_option linter.unusedVariables false
namespace Go.Proofs.YteamlijbkldlhaaGreat.RecSpec
open AclSpec MetaSpec NodeSpec PathSpec

def shapeP (l : List Piece) : List (Int × Nat) := l.map fun p => (p.pos,p.dat.length)
theorem shape_len {l m : List Piece} (h : shapeP l = shapeP m) : l.length = m.length := by
  have := congrArg List.length h
  unfold shapeP at this
  rwa [List.length_map,List.length_map] at this
theorem okPiece_eq (p : Piece) : okPiece p = (!decide (p.dat.length = 0) && !decide (p.pos < 0) && !decide (1099511627776 < p.pos)) := by
  unfold okPiece
  congr 3
  exact decide_eq_decide.2 ⟨fun h => by rw [h];rfl,List.eq_nil_of_length_eq_zero⟩
theorem shape_ok {l m : List Piece} (h : shapeP l = shapeP m) : l.all okPiece = m.all okPiece := by
  have e : ∀ l : List Piece,l.all okPiece = (shapeP l).all fun q => !decide (q.2 = 0) && !decide (q.1 < 0) && !decide (1099511627776 < q.1) := by
    intro l
    unfold shapeP
    rw [List.all_map]
    congr 1
    funext p
    exact okPiece_eq p
  rw [e,e,h]
theorem shape_bytes {l m : List Piece} (h : shapeP l = shapeP m) : bytesP l = bytesP m := by
  have e : ∀ l : List Piece,bytesP l = ((shapeP l).map (·.2)).sum := by
    intro l;unfold bytesP shapeP;rw [List.map_map];rfl
  rw [e,e,h]
theorem shape_ext {n : FNode} {l m : List Piece} (h : shapeP l = shapeP m) : extN { n with dat := l } = extN { n with dat := m } := by
  have e : ∀ l : List Piece,extN { n with dat := l } = (shapeP l).map fun q => (limN q.1,limN q.2) := by
    intro l;unfold extN shapeP;rw [List.map_map];rfl
  rw [e,e,h]
theorem may_shape {n : FNode} {l : List Piece} (h : shapeP l = shapeP n.dat) : mayN { n with dat := l } = mayN n := by
  have hl := shape_len h
  have h0 : decide (l = []) = decide (n.dat = []) := by
    refine decide_eq_decide.2 ⟨fun c => ?_,fun c => ?_⟩
    · rw [c] at hl;exact List.eq_nil_of_length_eq_zero hl.symm
    · rw [c] at hl;exact List.eq_nil_of_length_eq_zero hl
  have hf : mayFileN { n with dat := l } = mayFileN n := by
    have e := shape_ext (n := n) h
    unfold mayFileN bytesN
    rw [e]
    simp only [hl,shape_ok h,shape_bytes h]
  unfold mayN
  rw [hf]
  simp only [h0]
  rfl
end Go.Proofs.YteamlijbkldlhaaGreat.RecSpec
end
