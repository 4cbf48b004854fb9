import Derived.Test.YteamlijbkldlhaaDoorMSpec
import Derived.Test.YteamlijbkldlhaaDoorFlo
import Derived.Test.YteamlijbkldlhaaDoorPlain
section
set_option linter.unusedSimpArgs false
set_option linter.unusedVariables false
namespace Go.Proofs.YteamlijbkldlhaaDoor.NodeSpec
open GSort AclSpec MetaSpec Ext

structure Piece where
  pos : Int
  dat : List UInt8
  deriving DecidableEq,Inhabited
structure FNode where
  kind : Int
  mt : FMeta
  size : Int
  dat : List Piece
  target : List UInt8
  major : Int
  minor : Int
  deriving DecidableEq,Inhabited
def small (n : FNode) : Prop := n.mt.attrs.length ≤ 1000000 ∧ n.mt.acl.length ≤ 1000000 ∧ n.dat.length ≤ 1000000 ∧ ∀ p ∈ n.dat,p.dat.length ≤ 1000000
def bytesP (l : List Piece) : Nat := (l.map fun p => p.dat.length).sum
def bytesN (n : FNode) : Nat := bytesP n.dat
theorem bytesP_le {l : List Piece} (h : ∀ p ∈ l,p.dat.length ≤ 1000000) : bytesP l ≤ l.length * 1000000 := by
  induction l with
  | nil => simp [bytesP]
  | cons p r ih =>
    have h1 := h p (by simp)
    have h2 := ih fun q hq => h q (by simp [hq])
    simp only [bytesP,List.map_cons,List.sum_cons,List.length_cons] at *
    omega
theorem bytesP_take {l : List Piece} {i : Nat} {p : Piece} (h : l[i]? = some p) : bytesP (l.take (i + 1)) = bytesP (l.take i) + p.dat.length := by
  obtain ⟨hi,rfl⟩ := List.getElem?_eq_some_iff.1 h
  unfold bytesP
  rw [List.take_succ_eq_append_getElem hi,List.map_append,List.sum_append_nat]
  simp
theorem bytesP_mono {l : List Piece} (i : Nat) : bytesP (l.take i) ≤ bytesP l := by
  induction l generalizing i with
  | nil => simp
  | cons p r ih =>
    cases i with
    | zero => simp [bytesP]
    | succ i =>
      have := ih i
      simp only [bytesP,List.take_succ_cons,List.map_cons,List.sum_cons] at *
      omega
def limN (v : Int) : Nat := (min (max v 0) 1099511627776).toNat
def extN (n : FNode) : List E := n.dat.map fun p => (limN p.pos,limN p.dat.length)
def okPiece (p : Piece) : Bool := !decide (p.dat = []) && !decide (p.pos < 0) && !decide (1099511627776 < p.pos)
def mayFileN (n : FNode) : Bool := !decide (n.size < 0) && !decide (1099511627776 < n.size) && !decide (16 < n.dat.length) && n.dat.all okPiece && decide (bytesN n ≤ 4000) && mayE Flo.big (extN n) n.size
def noDev (n : FNode) : Bool := decide (n.major = 0) && decide (n.minor = 0)
def mayN (n : FNode) : Bool :=
  !decide (n.kind < 1) && !decide (6 < n.kind) && mayM n.mt &&
  (decide (n.kind = 2) || decide (n.size = 0) && decide (n.dat = [])) &&
  (decide (n.kind = 3) || decide (n.target = [])) &&
  (decide (n.kind = 4) || decide (n.kind = 5) || noDev n) &&
  (if n.kind = 2 then mayFileN n
   else if n.kind = 3 then decide (1 ≤ n.target.length) && decide (n.target.length ≤ 200) && !n.target.contains 0
   else if n.kind = 4 ∨ n.kind = 5 then decide (0 ≤ n.major) && decide (n.major ≤ 65535) && decide (0 ≤ n.minor) && decide (n.minor ≤ 65535)
   else true)
def isFileN (n : FNode) : Bool := decide (n.kind = 2) && mayN n
def diffN (a b : FNode) : List UInt8 :=
  if ¬ a.kind = b.kind then [107,105,110,100]
  else if ¬ diffM a.mt b.mt = [] then diffM a.mt b.mt
  else if ¬ a.size = b.size then [115,105,122,101]
  else if ¬ a.dat = b.dat then [100,97,116,97]
  else if ¬ a.target = b.target then [116,97,114,103,101,116]
  else if ¬ a.major = b.major then [100,101,118,105,99,101]
  else if ¬ a.minor = b.minor then [100,101,118,105,99,101]
  else []
theorem diffN_nil {a b : FNode} : diffN a b = [] ↔ a = b := by
  unfold diffN
  constructor
  · intro h
    repeat' split at h
    all_goals first | (cases h;done) | skip
    · rename_i h1 h2;exact absurd h h2
    · rename_i h1 h2 h3 h4 h5 h6 h7
      have := diffM_nil.1 (Classical.not_not.1 h2)
      cases a;cases b;simp_all
  · rintro rfl
    have := (diffM_nil (a := a.mt) (b := a.mt)).2 rfl
    simp [this]
def overlay (room : List UInt8) (o : Nat) (s : List UInt8) : List UInt8 := room.take o ++ s ++ room.drop (o + s.length)
def readStep (a : Int) (k : Nat) (room : List UInt8) (p : Piece) : List UInt8 :=
  if max p.pos a < min (p.pos + p.dat.length) (a + k) then overlay room (max p.pos a - a).toNat ((p.dat.take (min (p.pos + p.dat.length) (a + k) - p.pos).toNat).drop (max p.pos a - p.pos).toNat) else room
def readB (l : List Piece) (a : Int) (k : Nat) : List UInt8 := l.foldl (readStep a k) (List.replicate k 0)
theorem isFile_ok {n : FNode} (h : isFileN n = true) : n.kind = 2 ∧ 0 ≤ n.size ∧ n.size ≤ 1099511627776 ∧ n.dat.length ≤ 16 ∧ (∀ p ∈ n.dat,p.dat ≠ [] ∧ 0 ≤ p.pos ∧ p.pos ≤ 1099511627776) ∧ bytesN n ≤ 4000 ∧ mayE Flo.big (extN n) n.size = true ∧ n.target = [] ∧ n.major = 0 ∧ n.minor = 0 ∧ mayM n.mt = true := by
  unfold isFileN mayN at h
  simp only [Bool.and_eq_true,decide_eq_true_eq] at h
  obtain ⟨hk,⟨⟨⟨⟨⟨h1,h2⟩,h3⟩,h4⟩,h5⟩,h6⟩,h7⟩ := h
  rw [if_pos hk] at h7
  unfold mayFileN at h7
  simp only [Bool.and_eq_true,Bool.not_eq_true',decide_eq_true_eq,decide_eq_false_iff_not,List.all_eq_true] at h7
  obtain ⟨⟨⟨⟨⟨a1,a2⟩,a3⟩,a4⟩,a5⟩,a6⟩ := h7
  simp only [hk,noDev,Bool.and_eq_true,Bool.or_eq_true,decide_eq_true_eq] at h5 h6
  refine ⟨hk,by omega,by omega,by omega,fun p hp => ?_,a5,a6,?_,?_,?_,h3⟩
  · have := a4 p hp
    unfold okPiece at this
    simp only [Bool.and_eq_true,Bool.not_eq_true',decide_eq_false_iff_not] at this
    exact ⟨this.1.1,by omega,by omega⟩
  · rcases h5 with h | h
    · omega
    · exact h
  · rcases h6 with (h | h) | h
    · omega
    · omega
    · exact h.1
  · rcases h6 with (h | h) | h
    · omega
    · omega
    · exact h.2
end Go.Proofs.YteamlijbkldlhaaDoor.NodeSpec
end
section
set_option linter.unusedSimpArgs false
set_option linter.unusedVariables false
namespace Go.Proofs.YteamlijbkldlhaaDoor.RecSpec

def big : Nat := 18446744073709551616
def putU (n : Nat) : List UInt8 := if n < 250 then [n.toUInt8] else 250 :: (n % 250).toUInt8 :: putU (n / 250)
termination_by n
theorem putU_lo {n : Nat} (h : n < 250) : putU n = [n.toUInt8] := by rw [putU,if_pos h]
theorem putU_hi {n : Nat} (h : ¬ n < 250) : putU n = 250 :: (n % 250).toUInt8 :: putU (n / 250) := by rw [putU,if_neg h]
theorem toU8 {n : Nat} (h : n < 250) : (n.toUInt8).toNat = n := by
  rw [Nat.toUInt8,UInt8.toNat_ofNat'];omega
def getU : List UInt8 → Nat → Nat → Bool → Option (Nat × List UInt8)
  | [],_,_,_ => none
  | c :: r,n,u,f =>
    if c.toNat < 250 then
      if u = 0 ∨ big ≤ c.toNat * u ∨ big ≤ n + c.toNat * u ∨ (c.toNat = 0 ∧ f = false) then none else some (n + c.toNat * u,r)
    else if c.toNat = 250 then
      match r with
      | [] => none
      | d :: s => if d.toNat < 250 then
          if u = 0 ∨ big ≤ d.toNat * u ∨ big ≤ n + d.toNat * u then none else getU s (n + d.toNat * u) (if big ≤ u * 250 then 0 else u * 250) false
        else none
    else none
theorem getU_lo {c : UInt8} {r : List UInt8} {n u : Nat} {f : Bool} (h : c.toNat < 250) : getU (c :: r) n u f = if u = 0 ∨ big ≤ c.toNat * u ∨ big ≤ n + c.toNat * u ∨ (c.toNat = 0 ∧ f = false) then none else some (n + c.toNat * u,r) := by
  rw [getU.eq_def];simp only [if_pos h]
theorem getU_hi {c d : UInt8} {s : List UInt8} {n u : Nat} {f : Bool} (h : c.toNat = 250) : getU (c :: d :: s) n u f = if d.toNat < 250 then if u = 0 ∨ big ≤ d.toNat * u ∨ big ≤ n + d.toNat * u then none else getU s (n + d.toNat * u) (if big ≤ u * 250 then 0 else u * 250) false else none := by
  rw [getU.eq_def];simp only [if_neg (show ¬ c.toNat < 250 by omega),if_pos h]
theorem getU_end {c : UInt8} {n u : Nat} {f : Bool} (h : c.toNat = 250) : getU [c] n u f = none := by
  rw [getU.eq_def];simp only [if_neg (show ¬ c.toNat < 250 by omega),if_pos h]
theorem getU_bad {c : UInt8} {r : List UInt8} {n u : Nat} {f : Bool} (h : ¬ c.toNat < 250) (h2 : ¬ c.toNat = 250) : getU (c :: r) n u f = none := by
  rw [getU.eq_def];simp only [if_neg h,if_neg h2]
theorem getU_nil {n u : Nat} {f : Bool} : getU [] n u f = none := by rw [getU.eq_def]
theorem getU_put (v n u : Nat) (f : Bool) (rest : List UInt8) (hu : 0 < u) (h : n + v * u < big) (hf : f = false → v ≠ 0) : getU (putU v ++ rest) n u f = some (n + v * u,rest) := by
  induction v using Nat.strongRecOn generalizing n u f with
  | _ v ih =>
    by_cases hv : v < 250
    · rw [putU_lo hv,List.singleton_append,getU_lo (by rw [toU8 hv];exact hv),toU8 hv,if_neg]
      rintro (c | c | c | ⟨c,d⟩)
      · omega
      · omega
      · omega
      · exact hf d c
    · have hm : v % 250 < 250 := Nat.mod_lt _ (by decide)
      have hdm := Nat.div_add_mod v 250
      have hsplit : v * u = (v % 250) * u + (v / 250) * (u * 250) := by
        conv => lhs;rw [← hdm]
        rw [Nat.add_mul,Nat.add_comm,Nat.mul_comm 250,Nat.mul_assoc,Nat.mul_comm 250 u]
      have h1 : 1 ≤ v / 250 := by omega
      have hle : u * 250 ≤ (v / 250) * (u * 250) := Nat.le_mul_of_pos_left _ h1
      rw [putU_hi hv,List.cons_append,List.cons_append,getU_hi (by decide),toU8 hm,if_pos hm,if_neg,if_neg (by omega),ih (v / 250) (by omega) _ _ _ (by omega) (by omega) (fun _ => by omega)]
      · congr 2;omega
      · rintro (c | c | c) <;> omega
theorem getU_inv (l : List UInt8) (n u : Nat) (f : Bool) (m : Nat) (rest : List UInt8) (h : getU l n u f = some (m,rest)) : 0 < u ∧ ∃ v,l = putU v ++ rest ∧ m = n + v * u ∧ m < big ∧ (f = false → v ≠ 0) := by
  induction hl : l.length using Nat.strongRecOn generalizing l n u f with
  | _ k ih =>
    match l with
    | [] => rw [getU_nil] at h;cases h
    | c :: r =>
      by_cases hc : c.toNat < 250
      · rw [getU_lo hc] at h
        split at h
        · cases h
        · rename_i hn
          cases h
          refine ⟨by omega,c.toNat,?_,rfl,by omega,fun hf => by intro c0;exact hn (.inr (.inr (.inr ⟨c0,hf⟩)))⟩
          rw [putU_lo hc];simp
      by_cases hc2 : c.toNat = 250
      rotate_left
      · rw [getU_bad hc hc2] at h;cases h
      match r with
      | [] => rw [getU_end hc2] at h;cases h
      | d :: s =>
        rw [getU_hi hc2] at h
        split at h
        · rename_i hd
          split at h
          · cases h
          · rename_i hn
            obtain ⟨i1,v,i2,i3,i4,i5⟩ := ih s.length (by rw [← hl];simp;omega) s _ _ _ h rfl
            have hb : ¬ big ≤ u * 250 := by intro c;rw [if_pos c] at i1;omega
            rw [if_neg hb] at i1 i3
            have hv := i5 rfl
            refine ⟨by omega,250 * v + d.toNat,?_,?_,i4,fun _ => by omega⟩
            · rw [putU_hi (by omega),i2]
              have e1 : (250 * v + d.toNat) % 250 = d.toNat := by omega
              have e2 : (250 * v + d.toNat) / 250 = v := by omega
              have e3 : c = 250 := by apply UInt8.toNat_inj.1;rw [hc2];rfl
              rw [e1,e2,e3];simp
            · rw [i3,Nat.add_mul,Nat.mul_comm 250 v,Nat.mul_assoc,Nat.mul_comm 250 u];omega
        · cases h
theorem putU_ne (n : Nat) : putU n ≠ [] := by
  by_cases h : n < 250
  · rw [putU_lo h];simp
  · rw [putU_hi h];simp
def putT (s : List UInt8) : List UInt8 := putU s.length ++ s
def getT (l : List UInt8) (most : Nat) : Option (List UInt8 × List UInt8) :=
  match getU l 0 1 true with
  | some (n,r) => if most < n ∨ r.length < n then none else some (r.take n,r.drop n)
  | none => none
theorem getT_put {s rest : List UInt8} {most : Nat} (h : s.length ≤ most) (hb : s.length < big) : getT (putT s ++ rest) most = some (s,rest) := by
  unfold getT putT
  rw [List.append_assoc,getU_put _ 0 1 true _ (by decide) (by omega) (by intro c;cases c)]
  simp only [Nat.zero_add,Nat.mul_one]
  rw [if_neg (by rw [List.length_append];omega),List.take_left',List.drop_left'] <;> rfl
theorem getT_inv {l s rest : List UInt8} {most : Nat} (h : getT l most = some (s,rest)) : l = putT s ++ rest ∧ s.length ≤ most := by
  unfold getT at h
  split at h
  · rename_i n r hg
    obtain ⟨_,v,h2,h3,_,_⟩ := getU_inv _ _ _ _ _ _ hg
    split at h
    · cases h
    · rename_i hn
      cases h
      have hv : n = v := by omega
      subst hv
      have hl : (r.take n).length = n := by rw [List.length_take];omega
      unfold putT
      rw [hl,h2,List.append_assoc,List.take_append_drop]
      exact ⟨rfl,by omega⟩
  · cases h
end Go.Proofs.YteamlijbkldlhaaDoor.RecSpec
end
section
set_option linter.unusedSimpArgs false
set_option linter.unusedVariables false
namespace Go.Proofs.YteamlijbkldlhaaDoor.RecSpec
open AclSpec MetaSpec NodeSpec

structure Rd where
  pos : Nat
  bad : Bool
def Rdr (α : Type) := Rd → α × Rd
def pureR {α : Type} (a : α) : Rdr α := fun s => (a,s)
def bindR {α β : Type} (f : Rdr α) (g : α → Rdr β) : Rdr β := fun s => g (f s).1 (f s).2
structure Rok (b : List UInt8) {α : Type} (f : Rdr α) (P : α → List UInt8 → Prop) : Prop where
  back : ∀ a w p tail,P a w → p ≤ b.length → b.drop p = w ++ tail → f ⟨p,false⟩ = (a,⟨p + w.length,false⟩)
  pos : ∀ s,s.pos ≤ b.length → (f s).2.pos ≤ b.length
  stick : ∀ s,s.pos ≤ b.length → (f s).2.bad = false → s.bad = false
  inv : ∀ s,s.pos ≤ b.length → (f s).2.bad = false → ∃ w,P (f s).1 w ∧ b.drop s.pos = w ++ b.drop (f s).2.pos
section
variable {b : List UInt8} {α β : Type}
theorem Rok.pure (a : α) : Rok b (pureR a) (fun c w => c = a ∧ w = []) :=
  ⟨fun c w p tail h hp hb => by rw [h.1,h.2];rfl,fun s h => h,fun s _ h => h,fun s _ _ => ⟨[],⟨rfl,rfl⟩,rfl⟩⟩
theorem drop_app {b w tail : List UInt8} {p : Nat} (h : b.drop p = w ++ tail) : b.drop (p + w.length) = tail := by
  rw [← List.drop_drop,h,List.drop_left]
theorem le_app {b w tail : List UInt8} {p : Nat} (hp : p ≤ b.length) (h : b.drop p = w ++ tail) : p + w.length ≤ b.length := by
  have := congrArg List.length h
  rw [List.length_drop,List.length_append] at this;omega
theorem Rok.bind {f : Rdr α} {g : α → Rdr β} {P : α → List UInt8 → Prop} {Q : α → β → List UInt8 → Prop} (hf : Rok b f P) (hg : ∀ a,Rok b (g a) (Q a)) :
    Rok b (bindR f g) (fun c w => ∃ a w1 w2,P a w1 ∧ Q a c w2 ∧ w = w1 ++ w2) := by
  refine ⟨?_,fun s h => (hg _).pos _ (hf.pos s h),fun s h hb => hf.stick s h ((hg _).stick _ (hf.pos s h) hb),?_⟩
  · rintro c w p tail ⟨a,w1,w2,h1,h2,rfl⟩ hp hb
    rw [List.append_assoc] at hb
    have e1 := hf.back a w1 p _ h1 hp hb
    have e2 := (hg a).back c w2 (p + w1.length) tail h2 (le_app hp hb) (drop_app hb)
    unfold bindR
    rw [e1]
    simp only [e2,List.length_append,Nat.add_assoc]
  · intro s h hb
    have hs := (hg (f s).1).stick _ (hf.pos s h) hb
    obtain ⟨w1,p1,d1⟩ := hf.inv s h hs
    obtain ⟨w2,p2,d2⟩ := (hg (f s).1).inv _ (hf.pos s h) hb
    exact ⟨w1 ++ w2,⟨_,w1,w2,p1,p2,rfl⟩,by rw [d1,d2,List.append_assoc];rfl⟩
theorem Rok.imp {f : Rdr α} {P Q : α → List UInt8 → Prop} (h : Rok b f P) (hpq : ∀ a w,P a w ↔ Q a w) : Rok b f Q :=
  ⟨fun a w p tail hq => h.back a w p tail ((hpq a w).2 hq),h.pos,h.stick,fun s hs hb => (h.inv s hs hb).imp fun w hw => ⟨(hpq _ w).1 hw.1,hw.2⟩⟩
def rRep (f : Rdr α) : Nat → Rdr (List α)
  | 0 => pureR []
  | k + 1 => bindR f fun a => bindR (rRep f k) fun l => pureR (a :: l)
inductive Encs (P : α → List UInt8 → Prop) : List α → List UInt8 → Prop
  | nil : Encs P [] []
  | cons {a : α} {l : List α} {w1 w2 : List UInt8} : P a w1 → Encs P l w2 → Encs P (a :: l) (w1 ++ w2)
theorem Rok.rep {f : Rdr α} {P : α → List UInt8 → Prop} (h : Rok b f P) : ∀ k : Nat,Rok b (rRep f k) (fun l w => l.length = k ∧ Encs P l w)
  | 0 => (Rok.pure ([] : List α)).imp fun l w => ⟨fun ⟨h1,h2⟩ => by rw [h1,h2];exact ⟨rfl,.nil⟩,fun ⟨h1,h2⟩ => by
      have : l = [] := List.eq_nil_of_length_eq_zero h1
      subst this
      cases h2;exact ⟨rfl,rfl⟩⟩
  | k + 1 => (h.bind fun a => (Rok.rep h k).bind fun l => Rok.pure (a :: l)).imp fun l w => by
      constructor
      · rintro ⟨a,w1,w2,h1,⟨m,w3,w4,⟨h2,h3⟩,⟨h4,h5⟩,h6⟩,h7⟩
        subst h4;subst h5;subst h6;subst h7
        rw [List.append_nil]
        exact ⟨by rw [List.length_cons,h2],.cons h1 h3⟩
      · rintro ⟨h1,h2⟩
        cases h2 with
        | nil => simp at h1
        | cons h3 h4 => exact ⟨_,_,_,h3,⟨_,_,_,⟨by simpa using h1,h4⟩,⟨rfl,rfl⟩,rfl⟩,by rw [List.append_nil]⟩
theorem Encs.flat {P : α → List UInt8 → Prop} {p : α → List UInt8} {ok : α → Prop} (h : ∀ a w,P a w ↔ w = p a ∧ ok a) : ∀ {l : List α} {w : List UInt8},Encs P l w ↔ w = l.flatMap p ∧ ∀ a ∈ l,ok a
  | [],w => ⟨fun h => by cases h;exact ⟨rfl,fun a ha => by cases ha⟩,fun h => by rw [h.1];exact .nil⟩
  | a :: l,w => by
    have ih := fun w => Encs.flat (l := l) (w := w) h
    constructor
    · intro e
      cases e with
      | cons h1 h2 =>
        obtain ⟨i1,i2⟩ := (ih _).1 h2
        obtain ⟨k1,k2⟩ := (h a _).1 h1
        refine ⟨by rw [k1,i1,List.flatMap_cons],fun x hx => ?_⟩
        rcases List.mem_cons.1 hx with rfl | hx
        · exact k2
        · exact i2 x hx
    · rintro ⟨rfl,h2⟩
      rw [List.flatMap_cons]
      exact .cons ((h a _).2 ⟨rfl,h2 a (by simp)⟩) ((ih _).2 ⟨rfl,fun x hx => h2 x (by simp [hx])⟩)

def half : Nat := 9223372036854775808
def rLong (b : List UInt8) : Rdr Nat := fun s => match getU (b.drop s.pos) 0 1 true with
  | some (n,r) => if s.bad = true ∨ half ≤ n then (0,⟨s.pos,true⟩) else (n,⟨b.length - r.length,false⟩)
  | none => (0,⟨s.pos,true⟩)
def rNum (b : List UInt8) (most : Nat) : Rdr Nat := fun s => if most < (rLong b s).1 then (0,⟨(rLong b s).2.pos,true⟩) else rLong b s
def rText (b : List UInt8) (most : Nat) : Rdr (List UInt8) := fun s => match getT (b.drop s.pos) most with
  | some (t,r) => if s.bad = true then ([],⟨s.pos,true⟩) else (t,⟨b.length - r.length,false⟩)
  | none => ([],⟨s.pos,true⟩)
def rKind (b : List UInt8) : Rdr Nat := fun s => match b[s.pos]? with
  | some c => if s.bad = true ∨ 6 < c.toNat then (0,⟨s.pos,true⟩) else (c.toNat,⟨s.pos + 1,false⟩)
  | none => (0,⟨s.pos,true⟩)
theorem rest_len {b w r : List UInt8} {p : Nat} (hp : p ≤ b.length) (h : b.drop p = w ++ r) : b.length - r.length = p + w.length := by
  have := congrArg List.length h
  rw [List.length_drop,List.length_append] at this;omega
theorem rLong_ok (b : List UInt8) : Rok b (rLong b) (fun n w => w = putU n ∧ n < half) := by
  refine ⟨?_,fun s h => ?_,fun s h hb => ?_,fun s h hb => ?_⟩
  · rintro n w p tail ⟨rfl,hn⟩ hp hb
    unfold rLong
    simp only []
    have hg := getU_put n 0 1 true tail (by decide) (by unfold big;unfold half at hn;omega) (by intro c;cases c)
    rw [Nat.zero_add,Nat.mul_one] at hg
    rw [hb,hg]
    simp only [Bool.false_eq_true,false_or]
    rw [if_neg (by omega),rest_len hp hb]
  · unfold rLong
    split
    · split
      · exact h
      · rename_i n r hg hc
        have := getU_inv _ _ _ _ _ _ hg
        show b.length - r.length ≤ _;omega
    · exact h
  · unfold rLong at hb
    split at hb
    · split at hb
      · cases hb
      · rename_i hc;cases hs : s.bad
        · rfl
        · exact absurd (.inl hs) hc
    · cases hb
  · unfold rLong at hb ⊢
    split at hb
    · rename_i n r hg
      split at hb
      · cases hb
      · rename_i hc
        obtain ⟨_,v,h2,h3,_,_⟩ := getU_inv _ _ _ _ _ _ hg
        have hv : n = v := by omega
        subst hv
        simp only [if_neg hc]
        refine ⟨_,⟨rfl,by omega⟩,?_⟩
        rw [rest_len h h2,drop_app h2,h2]
    · cases hb
theorem rNum_ok (b : List UInt8) (most : Nat) : Rok b (rNum b most) (fun n w => w = putU n ∧ n ≤ most ∧ n < half) := by
  have hl := rLong_ok b
  refine ⟨?_,fun s h => ?_,fun s h hb => ?_,fun s h hb => ?_⟩
  · rintro n w p tail ⟨h1,h2,h3⟩ hp hb
    unfold rNum
    rw [hl.back n w p tail ⟨h1,h3⟩ hp hb]
    simp only []
    rw [if_neg (by omega)]
  · unfold rNum
    split
    · exact hl.pos s h
    · exact hl.pos s h
  · unfold rNum at hb
    split at hb
    · cases hb
    · exact hl.stick s h hb
  · unfold rNum at hb ⊢
    split at hb
    · cases hb
    · rename_i hm
      rw [if_neg hm]
      obtain ⟨w,⟨h1,h2⟩,h3⟩ := hl.inv s h hb
      exact ⟨w,⟨h1,by omega,h2⟩,h3⟩
theorem rText_ok (b : List UInt8) (most : Nat) (hm : most < half) : Rok b (rText b most) (fun t w => w = putT t ∧ t.length ≤ most) := by
  refine ⟨?_,fun s h => ?_,fun s h hb => ?_,fun s h hb => ?_⟩
  · rintro t w p tail ⟨rfl,ht⟩ hp hb
    unfold rText
    simp only []
    rw [hb,getT_put ht (by unfold half at hm;unfold big;omega)]
    simp only [Bool.false_eq_true,if_false]
    rw [rest_len hp hb]
  · unfold rText
    split
    · split
      · exact h
      · rename_i t r hg hc
        show b.length - r.length ≤ _;omega
    · exact h
  · unfold rText at hb
    split at hb
    · split at hb
      · cases hb
      · rename_i hc;simpa using hc
    · cases hb
  · unfold rText at hb ⊢
    split at hb
    · rename_i t r hg
      split at hb
      · cases hb
      · rename_i hc
        obtain ⟨h1,h2⟩ := getT_inv hg
        simp only [if_neg hc]
        refine ⟨_,⟨rfl,h2⟩,?_⟩
        rw [rest_len h h1,drop_app h1,h1]
    · cases hb
theorem rKind_ok (b : List UInt8) : Rok b (rKind b) (fun n w => w = [n.toUInt8] ∧ n ≤ 6) := by
  refine ⟨?_,fun s h => ?_,fun s h hb => ?_,fun s h hb => ?_⟩
  · rintro n w p tail ⟨rfl,hn⟩ hp hb
    have hg : b[p]? = some n.toUInt8 := by
      have := congrArg (fun l => l[0]?) hb
      simpa [List.getElem?_drop] using this
    unfold rKind
    simp only [hg,toU8 (show n < 250 by omega),Bool.false_eq_true,false_or]
    rw [if_neg (by omega)];rfl
  · unfold rKind
    split
    · rename_i c hc
      have := (List.getElem?_eq_some_iff.1 hc).1
      split
      · exact h
      · show s.pos + 1 ≤ _;omega
    · exact h
  · unfold rKind at hb
    split at hb
    · split at hb
      · cases hb
      · rename_i hc;cases hs : s.bad
        · rfl
        · exact absurd (.inl hs) hc
    · cases hb
  · unfold rKind at hb ⊢
    split at hb
    · rename_i c hc
      split at hb
      · cases hb
      · rename_i hn
        simp only [hc,if_neg hn]
        obtain ⟨hl,he⟩ := List.getElem?_eq_some_iff.1 hc
        refine ⟨[c],⟨by simp,by omega⟩,?_⟩
        rw [List.drop_eq_getElem_cons hl,he];rfl
    · cases hb
end
end Go.Proofs.YteamlijbkldlhaaDoor.RecSpec
end
section
set_option linter.unusedSimpArgs false
set_option linter.unusedVariables false
namespace Go.Proofs.YteamlijbkldlhaaDoor.RecSpec
open AclSpec MetaSpec NodeSpec PathSpec

def itoB (n : Nat) : List UInt8 := if n ≤ 9 then [48 + n.toUInt8] else itoB (n / 10) ++ [48 + (n % 10).toUInt8]
termination_by n
theorem itoB_lo {n : Nat} (h : n ≤ 9) : itoB n = [48 + n.toUInt8] := by rw [itoB,if_pos h]
theorem itoB_hi {n : Nat} (h : ¬ n ≤ 9) : itoB n = itoB (n / 10) ++ [48 + (n % 10).toUInt8] := by rw [itoB,if_neg h]
def digB (c : UInt8) : Bool := decide (48 ≤ c.toNat) && decide (c.toNat ≤ 57)
def numD : List UInt8 → Nat → Option Nat
  | [],n => some n
  | c :: r,n => if digB c then numD r (10 * n + (c.toNat - 48)) else none
def lenS (s : List UInt8) : Nat := if 4 < s.length ∨ s.head? = some 48 then 0 else match numD s 0 with
  | some n => if 4000 < n then 0 else n
  | none => 0
theorem numD_app (l m : List UInt8) (a : Nat) : numD (l ++ m) a = (numD l a).bind (numD m) := by
  induction l generalizing a with
  | nil => rfl
  | cons c r ih =>
    rw [List.cons_append,numD,numD]
    split
    · exact ih _
    · rfl
theorem dig_of {d : Nat} (h : d ≤ 9) : (48 + d.toUInt8).toNat = 48 + d := by
  rw [UInt8.toNat_add,toU8 (by omega)]
  show (48 + d) % 256 = _
  omega
theorem num_one {d a : Nat} (h : d ≤ 9) : numD [48 + d.toUInt8] a = some (10 * a + d) := by
  rw [numD,digB,dig_of h,decide_eq_true (by omega),decide_eq_true (by omega)]
  simp only [Bool.and_self,if_true,numD]
  congr 1;omega
theorem num_ito (n : Nat) : numD (itoB n) 0 = some n := by
  induction n using Nat.strongRecOn with
  | _ n ih =>
    by_cases h : n ≤ 9
    · rw [itoB_lo h,num_one h];congr 1;omega
    · rw [itoB_hi h,numD_app,ih (n / 10) (by omega)]
      show numD _ _ = _
      rw [num_one (by omega)];congr 1;omega
theorem ito_len (k : Nat) : ∀ n : Nat,n < 10 ^ (k + 1) → (itoB n).length ≤ k + 1 := by
  induction k with
  | zero => intro n h;rw [itoB_lo (by omega)];simp
  | succ k ih =>
    intro n h
    by_cases h9 : n ≤ 9
    · rw [itoB_lo h9];simp
    · rw [itoB_hi h9,List.length_append,List.length_singleton]
      have := ih (n / 10) (by rw [Nat.pow_succ] at h;omega)
      omega
theorem ito_ne (n : Nat) : itoB n ≠ [] := by
  by_cases h : n ≤ 9
  · rw [itoB_lo h];simp
  · rw [itoB_hi h];simp
theorem ito_head (n : Nat) (h : 1 ≤ n) : (itoB n).head? ≠ some 48 := by
  induction n using Nat.strongRecOn with
  | _ n ih =>
    by_cases h9 : n ≤ 9
    · rw [itoB_lo h9]
      intro c
      have := congrArg (fun o => (o.map UInt8.toNat)) c
      simp only [List.head?_cons,Option.map_some,dig_of h9,Option.some.injEq] at this
      rw [show (48 : UInt8).toNat = 48 from rfl] at this;omega
    · rw [itoB_hi h9,List.head?_append]
      have := ih (n / 10) (by omega) (by omega)
      cases hh : (itoB (n / 10)).head? with
      | none => exact absurd (List.head?_eq_none_iff.1 hh) (ito_ne _)
      | some c => rw [hh] at this;exact this
theorem len_ito {n : Nat} (h : n ≤ 4000) : lenS (itoB n) = n := by
  unfold lenS
  have hl := ito_len 3 n (by omega)
  by_cases h0 : n = 0
  · subst h0
    rw [itoB_lo (by omega)]
    rfl
  · rw [if_neg,num_ito]
    · simp only []
      rw [if_neg (by omega)]
    · rintro (c | c)
      · omega
      · exact ito_head n (by omega) c
theorem ito_num : ∀ (k : Nat) (s : List UInt8) (n : Nat),s.length = k → s ≠ [] → s.head? ≠ some 48 → numD s 0 = some n → 1 ≤ n ∧ s = itoB n := by
  intro k
  induction k with
  | zero => intro s n hl h0;exact absurd (List.eq_nil_of_length_eq_zero hl) h0
  | succ k ih =>
    intro s n hl h0 hh hn
    rcases List.eq_nil_or_concat s with h | ⟨t,c,hs⟩
    · exact absurd h h0
    rw [List.concat_eq_append] at hs
    subst hs
    rw [List.length_append,List.length_singleton] at hl
    rw [numD_app] at hn
    cases ht : numD t 0 with
    | none => rw [ht] at hn;cases hn
    | some a =>
      rw [ht] at hn
      have hn : numD [c] a = some n := hn
      rw [numD] at hn
      split at hn
      · rename_i hd
        unfold digB at hd
        rw [Bool.and_eq_true,decide_eq_true_eq,decide_eq_true_eq] at hd
        rw [numD] at hn
        have hn := Option.some.inj hn
        have hc : c = 48 + (c.toNat - 48).toUInt8 := by
          apply UInt8.toNat_inj.1
          rw [dig_of (by omega)];omega
        by_cases htn : t = []
        · subst htn
          rw [numD] at ht
          have ha := Option.some.inj ht
          have hne : c.toNat ≠ 48 := by
            intro e
            apply hh
            have : c = 48 := UInt8.toNat_inj.1 e
            rw [this];rfl
          refine ⟨by omega,?_⟩
          rw [itoB_lo (by omega),List.nil_append]
          rw [show n = c.toNat - 48 by omega,← hc]
        · have hh2 : t.head? ≠ some 48 := by
            cases t with
            | nil => exact absurd rfl htn
            | cons x r => simpa using hh
          obtain ⟨i1,i2⟩ := ih t a (by omega) htn hh2 ht
          refine ⟨by omega,?_⟩
          rw [itoB_hi (by omega),show n / 10 = a by omega,show n % 10 = c.toNat - 48 by omega,← hc,← i2]
      · cases hn
theorem ito_lenS {s : List UInt8} (h : lenS s ≠ 0) : s = itoB (lenS s) ∧ lenS s ≤ 4000 := by
  unfold lenS at h ⊢
  split at h
  · exact absurd rfl h
  · rename_i hc
    rw [if_neg hc]
    cases hn : numD s 0 with
    | none => rw [hn] at h;exact absurd rfl h
    | some n =>
      rw [hn] at h
      simp only at h ⊢
      split at h
      · exact absurd rfl h
      · rename_i h4
        rw [if_neg h4]
        have h0 : s ≠ [] := by
          rintro rfl
          rw [numD] at hn
          exact h (Option.some.inj hn).symm
        exact ⟨(ito_num _ s n rfl h0 (fun c => hc (.inr c)) hn).2,by omega⟩

structure Rec where
  path : List UInt8
  lead : Int
  node : FNode
  pos : Int
  deriving DecidableEq,Inhabited
def zeroN : FNode := ⟨0,⟨0,0,0,0,[],[]⟩,0,[],[],0,0⟩
def zeroRec : Rec := ⟨[],0,zeroN,0⟩
def fullP : List Piece → Option (List Piece)
  | [] => some []
  | p :: r => if lenS p.dat = 0 then none else (fullP r).map (⟨p.pos,List.replicate (lenS p.dat) 120⟩ :: ·)
def fullN (n : FNode) : Option FNode := if n.kind = 2 then (if 16 < n.dat.length then none else (fullP n.dat).map fun l => { n with dat := l }) else some n
def mayNR (n : FNode) (pos : Int) : Bool := mayN n && (decide (pos = 0) || (decide (n.kind = 2) && !n.dat.isEmpty))
def mayRec (r : Rec) : Bool := mayB r.path && !decide (r.lead < 0) && !decide (100 ≤ r.lead) && !decide (r.pos < 0) && !decide (400000 < r.pos) &&
  (if r.node = zeroN then decide (r.pos = 0) else match fullN r.node with | none => false | some n => mayNR n r.pos)
def bareN (n : FNode) : FNode := if mayN n then { n with dat := n.dat.map fun p => ⟨p.pos,itoB p.dat.length⟩ } else zeroN
def uI (x : Int) : Nat := (x % 18446744073709551616).toNat
def putI (x : Int) : List UInt8 := putU (uI x)
def putAt (a : Attr) : List UInt8 := putT a.name ++ putT a.value
def putAc (a : Ace) : List UInt8 := putI a.kind ++ putI a.id ++ putI a.perm
def putPc (p : Piece) : List UInt8 := putI p.pos ++ putU (lenS p.dat)
def putM (m : FMeta) : List UInt8 := putI m.mode ++ putI m.uid ++ putI m.gid ++ putI m.time ++ putU m.attrs.length ++ m.attrs.flatMap putAt ++ putU m.acl.length ++ m.acl.flatMap putAc
def restR (n : FNode) (pos : Int) : List UInt8 :=
  if n.kind = 2 then putI n.size ++ putU n.dat.length ++ n.dat.flatMap putPc ++ (if n.dat = [] then [] else putI pos)
  else if n.kind = 3 then putT n.target
  else if n.kind = 4 ∨ n.kind = 5 then putI n.major ++ putI n.minor
  else []
def kindB (k : Int) : UInt8 := (k % 256).toNat.toUInt8
def putN (n : FNode) (pos : Int) : List UInt8 := if n = zeroN then [0] else kindB n.kind :: (putM n.mt ++ restR n pos)
def putRec (r : Rec) : List UInt8 := putT r.path ++ putI r.lead ++ putN r.node r.pos
def mxI : Nat := 9223372036854775807
def rInt (b : List UInt8) (most : Nat) : Rdr Int := bindR (rNum b most) fun n => pureR (n : Int)
def rBig (b : List UInt8) : Rdr Int := bindR (rLong b) fun n => pureR (n : Int)
def rAttr (b : List UInt8) : Rdr Attr := bindR (rText b 20) fun n => bindR (rText b 200) fun v => pureR ⟨n,v⟩
def rAce (b : List UInt8) : Rdr Ace := bindR (rInt b mxI) fun k => bindR (rInt b mxI) fun i => bindR (rInt b mxI) fun p => pureR ⟨k,i,p⟩
def rPc (b : List UInt8) : Rdr Piece := bindR (rBig b) fun a => bindR (rNum b 4000) fun n => pureR ⟨a,itoB n⟩
def rMeta (b : List UInt8) : Rdr FMeta := bindR (rInt b mxI) fun mo => bindR (rInt b mxI) fun u => bindR (rInt b mxI) fun g => bindR (rBig b) fun t =>
  bindR (rNum b 8) fun na => bindR (rRep (rAttr b) na) fun ats => bindR (rNum b 16) fun nc => bindR (rRep (rAce b) nc) fun acs => pureR ⟨mo,u,g,t,ats,acs⟩
def rFile (b : List UInt8) (m : FMeta) : Rdr (FNode × Int) := bindR (rBig b) fun sz => bindR (rNum b 16) fun np => bindR (rRep (rPc b) np) fun ps =>
  if ps = [] then pureR (⟨2,m,sz,[],[],0,0⟩,0) else bindR (rInt b mxI) fun p => pureR (⟨2,m,sz,ps,[],0,0⟩,p)
def rBody (b : List UInt8) (k : Nat) (m : FMeta) : Rdr (FNode × Int) :=
  if k = 2 then rFile b m
  else if k = 3 then bindR (rText b 200) fun t => pureR (⟨k,m,0,[],t,0,0⟩,0)
  else if k = 4 ∨ k = 5 then bindR (rInt b mxI) fun a => bindR (rInt b mxI) fun c => pureR (⟨k,m,0,[],[],a,c⟩,0)
  else pureR (⟨k,m,0,[],[],0,0⟩,0)
def rNode (b : List UInt8) : Rdr (FNode × Int) := bindR (rKind b) fun k => if k = 0 then pureR (zeroN,0) else bindR (rMeta b) fun m => rBody b k m
def rRec (b : List UInt8) : Rdr Rec := bindR (rText b 100) fun p => bindR (rInt b mxI) fun l => bindR (rNode b) fun q => pureR ⟨p,l,q.1,q.2⟩
def getRec (b : List UInt8) (i : Int) : Rec × Int × Int :=
  if i < 0 ∨ (b.length : Int) < i then (zeroRec,i,1)
  else if (rRec b ⟨i.toNat,false⟩).2.bad = true ∨ mayRec (rRec b ⟨i.toNat,false⟩).1 = false then (zeroRec,i,3)
  else ((rRec b ⟨i.toNat,false⟩).1,(rRec b ⟨i.toNat,false⟩).2.pos,0)

def okI (x : Int) : Prop := 0 ≤ x ∧ x < 9223372036854775808
theorem uI_nat {n : Nat} (h : n < half) : uI (n : Int) = n := by unfold uI;unfold half at h;omega
theorem putI_nat {n : Nat} (h : n < half) : putI (n : Int) = putU n := by unfold putI;rw [uI_nat h]
theorem rInt_ok (b : List UInt8) (most : Nat) : Rok b (rInt b most) (fun x w => w = putI x ∧ okI x ∧ x ≤ most) :=
  ((rNum_ok b most).bind fun n => Rok.pure (n : Int)).imp fun x w => by
    constructor
    · rintro ⟨n,w1,w2,⟨rfl,h2,h3⟩,⟨rfl,rfl⟩,rfl⟩
      have h3' := h3;unfold half at h3'
      exact ⟨by rw [putI_nat h3,List.append_nil],⟨by omega,by omega⟩,by omega⟩
    · rintro ⟨rfl,⟨h1,h2⟩,h3⟩
      have hh : x.toNat < half := by unfold half;omega
      refine ⟨x.toNat,putI x,[],⟨?_,by omega,hh⟩,⟨by omega,rfl⟩,by rw [List.append_nil]⟩
      rw [← putI_nat hh,Int.toNat_of_nonneg h1]
theorem rBig_ok (b : List UInt8) : Rok b (rBig b) (fun x w => w = putI x ∧ okI x) :=
  ((rLong_ok b).bind fun n => Rok.pure (n : Int)).imp fun x w => by
    constructor
    · rintro ⟨n,w1,w2,⟨rfl,h3⟩,⟨rfl,rfl⟩,rfl⟩
      have h3' := h3;unfold half at h3'
      exact ⟨by rw [putI_nat h3,List.append_nil],⟨by omega,by omega⟩⟩
    · rintro ⟨rfl,⟨h1,h2⟩⟩
      have hh : x.toNat < half := by unfold half;omega
      refine ⟨x.toNat,putI x,[],⟨?_,hh⟩,⟨by omega,rfl⟩,by rw [List.append_nil]⟩
      rw [← putI_nat hh,Int.toNat_of_nonneg h1]
def okAt (a : Attr) : Prop := a.name.length ≤ 20 ∧ a.value.length ≤ 200
theorem rAttr_ok (b : List UInt8) : Rok b (rAttr b) (fun a w => w = putAt a ∧ okAt a) :=
  ((rText_ok b 20 (by decide)).bind fun n => (rText_ok b 200 (by decide)).bind fun v => Rok.pure (⟨n,v⟩ : Attr)).imp fun a w => by
    constructor
    · rintro ⟨n,w1,w2,⟨rfl,h1⟩,⟨v,w3,w4,⟨rfl,h2⟩,⟨rfl,rfl⟩,rfl⟩,rfl⟩
      rw [List.append_nil];exact ⟨rfl,h1,h2⟩
    · rintro ⟨rfl,h1,h2⟩
      exact ⟨_,_,_,⟨rfl,h1⟩,⟨_,_,_,⟨rfl,h2⟩,⟨rfl,rfl⟩,rfl⟩,by rw [List.append_nil];rfl⟩
def okAc (a : Ace) : Prop := okI a.kind ∧ okI a.id ∧ okI a.perm
theorem okI_mx {x : Int} (h : okI x) : x ≤ (mxI : Nat) := by unfold mxI;have := h.2;omega
theorem rAce_ok (b : List UInt8) : Rok b (rAce b) (fun a w => w = putAc a ∧ okAc a) :=
  ((rInt_ok b mxI).bind fun k => (rInt_ok b mxI).bind fun i => (rInt_ok b mxI).bind fun p => Rok.pure (⟨k,i,p⟩ : Ace)).imp fun a w => by
    constructor
    · rintro ⟨n,w1,w2,⟨rfl,h1,_⟩,⟨v,w3,w4,⟨rfl,h2,_⟩,⟨u,w5,w6,⟨rfl,h3,_⟩,⟨rfl,rfl⟩,rfl⟩,rfl⟩,rfl⟩
      rw [List.append_nil,← List.append_assoc];exact ⟨rfl,h1,h2,h3⟩
    · rintro ⟨rfl,h1,h2,h3⟩
      exact ⟨_,_,_,⟨rfl,h1,okI_mx h1⟩,⟨_,_,_,⟨rfl,h2,okI_mx h2⟩,⟨_,_,_,⟨rfl,h3,okI_mx h3⟩,⟨rfl,rfl⟩,rfl⟩,rfl⟩,by rw [List.append_nil,← List.append_assoc];rfl⟩
def okPcR (p : Piece) : Prop := okI p.pos ∧ ∃ n : Nat,n ≤ 4000 ∧ p.dat = itoB n
theorem rPc_ok (b : List UInt8) : Rok b (rPc b) (fun p w => w = putPc p ∧ okPcR p) :=
  ((rBig_ok b).bind fun a => (rNum_ok b 4000).bind fun n => Rok.pure (⟨a,itoB n⟩ : Piece)).imp fun p w => by
    constructor
    · rintro ⟨a,w1,w2,⟨rfl,h1⟩,⟨n,w3,w4,⟨rfl,h2,_⟩,⟨rfl,rfl⟩,rfl⟩,rfl⟩
      refine ⟨?_,h1,n,h2,rfl⟩
      unfold putPc
      rw [List.append_nil]
      simp only [len_ito h2]
    · rintro ⟨rfl,h1,n,h2,h3⟩
      refine ⟨p.pos,_,_,⟨rfl,h1⟩,⟨n,_,_,⟨rfl,h2,by unfold half;omega⟩,⟨?_,rfl⟩,rfl⟩,?_⟩
      · rw [← h3]
      · unfold putPc
        rw [h3,len_ito h2,List.append_nil]
structure OkM (m : FMeta) : Prop where
  mode : okI m.mode
  uid : okI m.uid
  gid : okI m.gid
  time : okI m.time
  attrs : m.attrs.length ≤ 8
  attr : ∀ a ∈ m.attrs,okAt a
  acl : m.acl.length ≤ 16
  ace : ∀ a ∈ m.acl,okAc a
theorem rMeta_ok (b : List UInt8) : Rok b (rMeta b) (fun m w => w = putM m ∧ OkM m) :=
  ((rInt_ok b mxI).bind fun mo => (rInt_ok b mxI).bind fun u => (rInt_ok b mxI).bind fun g => (rBig_ok b).bind fun t =>
    (rNum_ok b 8).bind fun na => ((rAttr_ok b).rep na).bind fun ats => (rNum_ok b 16).bind fun nc => ((rAce_ok b).rep nc).bind fun acs => Rok.pure (⟨mo,u,g,t,ats,acs⟩ : FMeta)).imp fun m w => by
    constructor
    · rintro ⟨mo,w1,w2,⟨rfl,h1,_⟩,⟨u,w3,w4,⟨rfl,h2,_⟩,⟨g,w5,w6,⟨rfl,h3,_⟩,⟨t,w7,w8,⟨rfl,h4⟩,⟨na,w9,w10,⟨rfl,h5,_⟩,⟨ats,w11,w12,⟨h6,h7⟩,⟨nc,w13,w14,⟨rfl,h8,_⟩,⟨acs,w15,w16,⟨h9,h10⟩,⟨rfl,rfl⟩,rfl⟩,rfl⟩,rfl⟩,rfl⟩,rfl⟩,rfl⟩,rfl⟩,rfl⟩
      obtain ⟨rfl,k7⟩ := (Encs.flat (p := putAt) (ok := okAt) (fun _ _ => Iff.rfl)).1 h7
      obtain ⟨rfl,k10⟩ := (Encs.flat (p := putAc) (ok := okAc) (fun _ _ => Iff.rfl)).1 h10
      subst h6;subst h9
      refine ⟨?_,h1,h2,h3,h4,h5,k7,h8,k10⟩
      unfold putM
      simp only [List.append_assoc,List.append_nil]
    · rintro ⟨rfl,h⟩
      refine ⟨_,_,_,⟨rfl,h.mode,okI_mx h.mode⟩,⟨_,_,_,⟨rfl,h.uid,okI_mx h.uid⟩,⟨_,_,_,⟨rfl,h.gid,okI_mx h.gid⟩,⟨_,_,_,⟨rfl,h.time⟩,⟨m.attrs.length,_,_,⟨rfl,h.attrs,by have := h.attrs;unfold half;omega⟩,⟨m.attrs,m.attrs.flatMap putAt,_,⟨rfl,(Encs.flat (p := putAt) (ok := okAt) (fun _ _ => Iff.rfl)).2 ⟨rfl,h.attr⟩⟩,
        ⟨m.acl.length,_,_,⟨rfl,h.acl,by have := h.acl;unfold half;omega⟩,⟨m.acl,m.acl.flatMap putAc,_,⟨rfl,(Encs.flat (p := putAc) (ok := okAc) (fun _ _ => Iff.rfl)).2 ⟨rfl,h.ace⟩⟩,⟨rfl,rfl⟩,rfl⟩,rfl⟩,rfl⟩,rfl⟩,rfl⟩,rfl⟩,rfl⟩,?_⟩
      unfold putM
      simp only [List.append_assoc,List.append_nil]
end Go.Proofs.YteamlijbkldlhaaDoor.RecSpec
end
section
set_option linter.unusedSimpArgs false
set_option linter.unusedVariables false
namespace Go.Proofs.YteamlijbkldlhaaDoor.RecSpec
open AclSpec MetaSpec NodeSpec PathSpec

structure OkB (n : FNode) (pos : Int) : Prop where
  size : okI n.size
  len : n.dat.length ≤ 16
  pcs : ∀ p ∈ n.dat,okPcR p
  target : n.target.length ≤ 200
  major : okI n.major
  minor : okI n.minor
  ppos : okI pos
  notFile : n.kind ≠ 2 → n.size = 0 ∧ n.dat = []
  none : n.dat = [] → pos = 0
  notLink : n.kind ≠ 3 → n.target = []
  notDev : n.kind ≠ 4 → n.kind ≠ 5 → n.major = 0 ∧ n.minor = 0
theorem ok0 : okI 0 := ⟨by decide,by decide⟩
section
variable {b : List UInt8} {α : Type}
theorem Rok.ite {c : Prop} [Decidable c] {f g : Rdr α} {P Q : α → List UInt8 → Prop} (hf : c → Rok b f P) (hg : ¬c → Rok b g Q) : Rok b (if c then f else g) (fun a w => (c ∧ P a w) ∨ (¬c ∧ Q a w)) := by
  by_cases h : c
  · rw [if_pos h]
    exact (hf h).imp fun a w => ⟨fun x => .inl ⟨h,x⟩,fun x => x.elim (fun y => y.2) (fun y => absurd h y.1)⟩
  · rw [if_neg h]
    exact (hg h).imp fun a w => ⟨fun x => .inr ⟨h,x⟩,fun x => x.elim (fun y => absurd y.1 h) (fun y => y.2)⟩
end
theorem rFile_ok (b : List UInt8) (m : FMeta) : Rok b (rFile b m) (fun q w => w = restR q.1 q.2 ∧ q.1.kind = 2 ∧ q.1.mt = m ∧ OkB q.1 q.2) :=
  ((rBig_ok b).bind fun sz => (rNum_ok b 16).bind fun np => ((rPc_ok b).rep np).bind fun ps =>
    Rok.ite (c := ps = []) (fun _ => Rok.pure ((⟨2,m,sz,[],[],0,0⟩,0) : FNode × Int)) (fun _ => (rInt_ok b mxI).bind fun p => Rok.pure ((⟨2,m,sz,ps,[],0,0⟩,p) : FNode × Int))).imp fun q w => by
    constructor
    · rintro ⟨sz,w1,w2,⟨rfl,h1⟩,⟨np,w3,w4,⟨rfl,h2,_⟩,⟨ps,w5,w6,⟨h3,h4⟩,h5,rfl⟩,rfl⟩,rfl⟩
      obtain ⟨rfl,k4⟩ := (Encs.flat (p := putPc) (ok := okPcR) (fun _ _ => Iff.rfl)).1 h4
      subst h3
      rcases h5 with ⟨rfl,rfl,rfl⟩ | ⟨h6,p,w7,w8,⟨rfl,h7,_⟩,⟨rfl,rfl⟩,rfl⟩
      · refine ⟨?_,rfl,rfl,⟨h1,by simp,(fun p hp => by cases hp),by simp,ok0,ok0,ok0,fun c => absurd rfl c,fun _ => rfl,fun _ => rfl,fun _ _ => ⟨rfl,rfl⟩⟩⟩
        unfold restR
        simp only [if_true,List.append_assoc,List.append_nil,List.flatMap_nil,List.length_nil]
      · refine ⟨?_,rfl,rfl,⟨h1,h2,k4,by simp,ok0,ok0,h7,fun c => absurd rfl c,fun c => absurd c h6,fun _ => rfl,fun _ _ => ⟨rfl,rfl⟩⟩⟩
        unfold restR
        simp only [if_true,if_neg h6,List.append_assoc,List.append_nil]
    · rintro ⟨rfl,hk,rfl,h⟩
      obtain ⟨⟨kind,mt,size,dat,target,major,minor⟩,pos⟩ := q
      simp only at hk h ⊢
      subst hk
      have h1 := h.notLink (by simp)
      have h2 := h.notDev (by simp) (by simp)
      simp only at h1 h2
      obtain ⟨h2,h3⟩ := h2
      subst h1;subst h2;subst h3
      refine ⟨size,_,_,⟨rfl,h.size⟩,⟨dat.length,_,_,⟨rfl,h.len,by have := h.len;simp only at this;unfold half;omega⟩,⟨dat,dat.flatMap putPc,if dat = [] then [] else putI pos,⟨rfl,(Encs.flat (p := putPc) (ok := okPcR) (fun _ _ => Iff.rfl)).2 ⟨rfl,h.pcs⟩⟩,?_,rfl⟩,rfl⟩,?_⟩
      · by_cases hd : dat = []
        · refine .inl ⟨hd,?_,if_pos hd⟩
          have this : pos = 0 := h.none hd
          rw [hd,this]
        · rw [if_neg hd]
          exact .inr ⟨hd,pos,_,_,⟨rfl,h.ppos,okI_mx h.ppos⟩,⟨rfl,rfl⟩,by rw [List.append_nil]⟩
      · unfold restR
        simp only [if_true,List.append_assoc]
theorem rBody_ok (b : List UInt8) (k : Nat) (hk0 : k ≠ 0) (m : FMeta) : Rok b (rBody b k m) (fun q w => w = restR q.1 q.2 ∧ q.1.kind = k ∧ q.1.mt = m ∧ OkB q.1 q.2) := by
  unfold rBody
  by_cases h2 : k = 2
  · rw [if_pos h2]
    subst h2
    exact rFile_ok b m
  have h2i : ¬ ((k : Int) = 2) := by omega
  rw [if_neg h2]
  by_cases h3 : k = 3
  · rw [if_pos h3]
    subst h3
    refine ((rText_ok b 200 (by decide)).bind fun t => Rok.pure ((⟨(3 : Nat),m,0,[],t,0,0⟩,0) : FNode × Int)).imp fun q w => ?_
    constructor
    · rintro ⟨t,w1,w2,⟨rfl,h1⟩,⟨rfl,rfl⟩,rfl⟩
      refine ⟨?_,rfl,rfl,⟨ok0,by simp,(fun p hp => by cases hp),h1,ok0,ok0,ok0,fun _ => ⟨rfl,rfl⟩,fun _ => rfl,fun c => absurd rfl c,fun _ _ => ⟨rfl,rfl⟩⟩⟩
      rw [List.append_nil];rfl
    · rintro ⟨rfl,hk,rfl,h⟩
      obtain ⟨⟨kind,mt,size,dat,target,major,minor⟩,pos⟩ := q
      simp only at hk h ⊢
      subst hk
      have e1 := h.notFile (by simp)
      have e2 := h.notDev (by simp) (by simp)
      simp only at e1 e2
      obtain ⟨e1,e3⟩ := e1
      obtain ⟨e2,e4⟩ := e2
      have e5 : pos = 0 := h.none e3
      subst e1;subst e2;subst e3;subst e4;subst e5
      exact ⟨target,_,_,⟨rfl,h.target⟩,⟨rfl,rfl⟩,by rw [List.append_nil];rfl⟩
  have h3i : ¬ ((k : Int) = 3) := by omega
  rw [if_neg h3]
  by_cases h4 : k = 4 ∨ k = 5
  · rw [if_pos h4]
    have h4i : (k : Int) = 4 ∨ (k : Int) = 5 := by omega
    refine ((rInt_ok b mxI).bind fun x => (rInt_ok b mxI).bind fun y => Rok.pure ((⟨k,m,0,[],[],x,y⟩,0) : FNode × Int)).imp fun q w => ?_
    constructor
    · rintro ⟨x,w1,w2,⟨rfl,h1,_⟩,⟨y,w3,w4,⟨rfl,h5,_⟩,⟨rfl,rfl⟩,rfl⟩,rfl⟩
      refine ⟨?_,rfl,rfl,⟨ok0,by simp,(fun p hp => by cases hp),by simp,h1,h5,ok0,fun _ => ⟨rfl,rfl⟩,fun _ => rfl,fun _ => rfl,fun c d => absurd h4i (by simp only at c d;omega)⟩⟩
      unfold restR
      simp only [if_neg h2i,if_neg h3i,if_pos h4i,List.append_nil]
    · rintro ⟨rfl,hk,rfl,h⟩
      obtain ⟨⟨kind,mt,size,dat,target,major,minor⟩,pos⟩ := q
      simp only at hk h ⊢
      subst hk
      have e1 := h.notFile h2i
      have e2 := h.notLink h3i
      simp only at e1 e2
      obtain ⟨e1,e3⟩ := e1
      have e5 : pos = 0 := h.none e3
      subst e1;subst e2;subst e3;subst e5
      refine ⟨major,_,_,⟨rfl,h.major,okI_mx h.major⟩,⟨minor,_,_,⟨rfl,h.minor,okI_mx h.minor⟩,⟨rfl,rfl⟩,rfl⟩,?_⟩
      unfold restR
      simp only [if_neg h2i,if_neg h3i,if_pos h4i,List.append_nil]
  · rw [if_neg h4]
    have h4i : ¬ ((k : Int) = 4 ∨ (k : Int) = 5) := by omega
    refine (Rok.pure ((⟨k,m,0,[],[],0,0⟩,0) : FNode × Int)).imp fun q w => ?_
    constructor
    · rintro ⟨rfl,rfl⟩
      refine ⟨?_,rfl,rfl,⟨ok0,by simp,(fun p hp => by cases hp),by simp,ok0,ok0,ok0,fun _ => ⟨rfl,rfl⟩,fun _ => rfl,fun _ => rfl,fun _ _ => ⟨rfl,rfl⟩⟩⟩
      unfold restR
      simp only [if_neg h2i,if_neg h3i,if_neg h4i]
    · rintro ⟨rfl,hk,rfl,h⟩
      obtain ⟨⟨kind,mt,size,dat,target,major,minor⟩,pos⟩ := q
      simp only at hk h ⊢
      subst hk
      have e1 := h.notFile h2i
      have e2 := h.notLink h3i
      have e4 := h.notDev (fun c => h4i (.inl c)) (fun c => h4i (.inr c))
      simp only at e1 e2 e4
      obtain ⟨e1,e3⟩ := e1
      obtain ⟨e4,e6⟩ := e4
      have e5 : pos = 0 := h.none e3
      subst e1;subst e2;subst e3;subst e5;subst e4;subst e6
      refine ⟨rfl,?_⟩
      unfold restR
      simp only [if_neg h2i,if_neg h3i,if_neg h4i]
def OkN (n : FNode) (pos : Int) : Prop := (n = zeroN ∧ pos = 0) ∨ (1 ≤ n.kind ∧ n.kind ≤ 6 ∧ OkM n.mt ∧ OkB n pos)
theorem kindB_nat {k : Nat} (h : k ≤ 6) : kindB (k : Int) = k.toUInt8 := by
  unfold kindB
  congr 1;omega
theorem rNode_ok (b : List UInt8) : Rok b (rNode b) (fun q w => w = putN q.1 q.2 ∧ OkN q.1 q.2) :=
  ((rKind_ok b).bind fun k => Rok.ite (c := k = 0) (fun _ => Rok.pure ((zeroN,0) : FNode × Int)) (fun hk => (rMeta_ok b).bind fun m => rBody_ok b k hk m)).imp fun q w => by
    constructor
    · rintro ⟨k,w1,w2,⟨rfl,h1⟩,h2,rfl⟩
      rcases h2 with ⟨rfl,rfl,rfl⟩ | ⟨hk,m,w3,w4,⟨rfl,hm⟩,⟨rfl,h3,h4,h5⟩,rfl⟩
      · exact ⟨rfl,.inl ⟨rfl,rfl⟩⟩
      · have hz : q.1 ≠ zeroN := by
          intro c
          rw [c] at h3
          have : (0 : Int) = k := h3
          omega
        refine ⟨?_,.inr ⟨by omega,by omega,by rw [h4];exact hm,h5⟩⟩
        unfold putN
        rw [if_neg hz,h3,h4,kindB_nat h1];rfl
    · rintro ⟨rfl,h⟩
      rcases h with ⟨h1,h2⟩ | ⟨h1,h2,h3,h4⟩
      · refine ⟨0,[(0 : Nat).toUInt8],[],⟨rfl,by omega⟩,.inl ⟨rfl,?_,rfl⟩,?_⟩
        · rw [← h1,← h2]
        · unfold putN
          rw [if_pos h1];rfl
      · have hz : q.1 ≠ zeroN := by
          intro c
          rw [c] at h1
          exact absurd h1 (by decide)
        have hk : q.1.kind = (q.1.kind.toNat : Int) := by omega
        refine ⟨q.1.kind.toNat,_,_,⟨rfl,by omega⟩,.inr ⟨by omega,q.1.mt,_,_,⟨rfl,h3⟩,⟨rfl,hk,rfl,h4⟩,rfl⟩,?_⟩
        unfold putN
        rw [if_neg hz]
        conv => lhs;rw [hk]
        rw [kindB_nat (by omega)];rfl
def OkR (r : Rec) : Prop := r.path.length ≤ 100 ∧ okI r.lead ∧ OkN r.node r.pos
theorem rRec_ok (b : List UInt8) : Rok b (rRec b) (fun r w => w = putRec r ∧ OkR r) :=
  ((rText_ok b 100 (by decide)).bind fun p => (rInt_ok b mxI).bind fun l => (rNode_ok b).bind fun q => Rok.pure (⟨p,l,q.1,q.2⟩ : Rec)).imp fun r w => by
    constructor
    · rintro ⟨p,w1,w2,⟨rfl,h1⟩,⟨l,w3,w4,⟨rfl,h2,_⟩,⟨q,w5,w6,⟨rfl,h3⟩,⟨rfl,rfl⟩,rfl⟩,rfl⟩,rfl⟩
      refine ⟨?_,h1,h2,h3⟩
      unfold putRec
      rw [List.append_nil,List.append_assoc]
    · rintro ⟨rfl,h1,h2,h3⟩
      refine ⟨_,_,_,⟨rfl,h1⟩,⟨_,_,_,⟨rfl,h2,okI_mx h2⟩,⟨(r.node,r.pos),_,_,⟨rfl,h3⟩,⟨rfl,rfl⟩,rfl⟩,rfl⟩,?_⟩
      unfold putRec
      rw [List.append_nil,List.append_assoc]

theorem chkG_all {α β : Type} {key : α → β} {lt : β → β → Bool} {good : α → Bool} : ∀ {l : List α} {o : Option α},GSort.chkG key lt good o l = true → ∀ a ∈ l,good a = true
  | [],_,_,a,ha => by cases ha
  | x :: l,o,h,a,ha => by
    have h2 : good x = true ∧ GSort.chkG key lt good (some x) l = true := by
      cases o <;> simp only [GSort.chkG,Bool.and_eq_true] at h
      · exact h
      · exact ⟨h.1.1,h.2⟩
    rcases List.mem_cons.1 ha with rfl | ha
    · exact h2.1
    · exact chkG_all h2.2 a ha
theorem chk_all : ∀ {l : List Ace} {o : Option Ace},chk o l = true → ∀ a ∈ l,goodB a = true
  | [],_,_,a,ha => by cases ha
  | x :: l,o,h,a,ha => by
    have h2 : goodB x = true ∧ chk (some x) l = true := by
      cases o <;> simp only [chk,Bool.and_eq_true] at h
      · exact h
      · exact ⟨h.1.1,h.2⟩
    rcases List.mem_cons.1 ha with rfl | ha
    · exact h2.1
    · exact chk_all h2.2 a ha
theorem okM_of {m : FMeta} (h : mayM m = true) (ht : m.time < 9223372036854775808) : OkM m := by
  unfold mayM idB at h
  simp only [Bool.and_eq_true,decide_eq_true_eq] at h
  obtain ⟨⟨⟨⟨⟨⟨⟨a1,a2⟩,⟨a3,a4⟩⟩,⟨a5,a6⟩⟩,a7⟩,a8⟩,a9⟩,a10⟩ := h
  unfold mayA chkAt at a10
  simp only [Bool.and_eq_true,decide_eq_true_eq] at a10
  obtain ⟨⟨b1,b2⟩,_⟩ := a10
  refine ⟨⟨a1,by omega⟩,⟨a3,by omega⟩,⟨a5,by omega⟩,⟨a7,ht⟩,a8,fun a ha => ?_,b1,fun a ha => ?_⟩
  · unfold chkT GSort.chkGAt at a9
    have := chkG_all a9 a ha
    unfold goodT at this
    simp only [Bool.and_eq_true,decide_eq_true_eq] at this
    exact ⟨this.1.2,this.2⟩
  · have := chk_all b2 a ha
    unfold goodB at this
    simp only [Bool.and_eq_true,decide_eq_true_eq] at this
    obtain ⟨⟨⟨⟨⟨⟨c1,c2⟩,c3⟩,c4⟩,c5⟩,c6⟩,_⟩ := this
    exact ⟨⟨by omega,by omega⟩,⟨by omega,by omega⟩,⟨by omega,by omega⟩⟩
theorem fullP_some : ∀ {l m : List Piece},fullP l = some m → m.length = l.length ∧ ∀ p ∈ l,lenS p.dat ≠ 0 ∧ ∃ q ∈ m,q.pos = p.pos
  | [],m,h => by cases h;exact ⟨rfl,fun p hp => by cases hp⟩
  | p :: l,m,h => by
    unfold fullP at h
    split at h
    · cases h
    · rename_i hp
      obtain ⟨m',hm,rfl⟩ := Option.map_eq_some_iff.1 h
      obtain ⟨i1,i2⟩ := fullP_some hm
      refine ⟨by rw [List.length_cons,List.length_cons,i1],fun q hq => ?_⟩
      rcases List.mem_cons.1 hq with rfl | hq
      · exact ⟨hp,_,List.mem_cons_self,rfl⟩
      · obtain ⟨k1,x,k2,k3⟩ := i2 q hq
        exact ⟨k1,x,by simp [k2],k3⟩
theorem mayRec_ok {r : Rec} (h : mayRec r = true) (ht : r.node.mt.time < 9223372036854775808) : OkR r := by
  unfold mayRec at h
  simp only [Bool.and_eq_true,Bool.not_eq_true',decide_eq_false_iff_not] at h
  obtain ⟨⟨⟨⟨⟨h1,h2⟩,h3⟩,h4⟩,h5⟩,h6⟩ := h
  have hpl : r.path.length ≤ 100 := by
    unfold mayB at h1
    cases hp : r.path with
    | nil => simp
    | cons x l => rw [hp] at h1;simp only [List.isEmpty_cons,Bool.false_or,Bool.and_eq_true,decide_eq_true_eq] at h1;exact h1.1
  have hpos : okI r.pos := ⟨by omega,by omega⟩
  refine ⟨hpl,⟨by omega,by omega⟩,?_⟩
  by_cases hz : r.node = zeroN
  · rw [if_pos hz] at h6
    exact .inl ⟨hz,of_decide_eq_true h6⟩
  rw [if_neg hz] at h6
  split at h6
  · cases h6
  rename_i n hn
  right
  unfold mayNR at h6
  rw [Bool.and_eq_true,Bool.or_eq_true,decide_eq_true_eq,Bool.and_eq_true,decide_eq_true_eq] at h6
  obtain ⟨hm,h7⟩ := h6
  unfold fullN at hn
  by_cases hk : r.node.kind = 2
  · rw [if_pos hk] at hn
    split at hn
    · cases hn
    obtain ⟨l,hl,rfl⟩ := Option.map_eq_some_iff.1 hn
    obtain ⟨i1,i2⟩ := fullP_some hl
    have hf : isFileN { r.node with dat := l } = true := by
      unfold isFileN
      rw [decide_eq_true (show ({ r.node with dat := l } : FNode).kind = 2 from hk),hm];rfl
    obtain ⟨_,k1,k2,k3,k4,k5,_,k7,k8,k9,k10⟩ := isFile_ok hf
    simp only at k1 k2 k3 k4 k7 k8 k9 k10
    refine ⟨by omega,by omega,okM_of k10 ht,⟨⟨k1,by omega⟩,by omega,fun p hp => ?_,by rw [k7];simp,by rw [k8];exact ok0,by rw [k9];exact ok0,hpos,fun c => absurd hk c,fun c => ?_,fun _ => k7,fun _ _ => ⟨k8,k9⟩⟩⟩
    · obtain ⟨j1,q,j2,j3⟩ := i2 p hp
      have := k4 q j2
      obtain ⟨e1,e2⟩ := ito_lenS j1
      exact ⟨⟨by omega,by omega⟩,_,e2,e1⟩
    · rcases h7 with h7 | h7
      · exact h7
      · have : l = [] := List.eq_nil_of_length_eq_zero (by rw [i1,c];rfl)
        rw [this] at h7;exact absurd h7.2 (by simp)
  · rw [if_neg hk] at hn
    cases hn
    have hp0 : r.pos = 0 := by
      rcases h7 with h7 | h7
      · exact h7
      · exact absurd h7.1 hk
    unfold mayN at hm
    simp only [Bool.and_eq_true,Bool.or_eq_true,Bool.not_eq_true',decide_eq_true_eq,decide_eq_false_iff_not] at hm
    obtain ⟨⟨⟨⟨⟨⟨a1,a2⟩,a3⟩,a4⟩,a5⟩,a6⟩,a7⟩ := hm
    have a4 := a4.resolve_left hk
    rw [if_neg hk] at a7
    refine ⟨by omega,by omega,okM_of a3 ht,⟨by rw [a4.1];exact ok0,by rw [a4.2];simp,(fun p hp => by rw [a4.2] at hp;cases hp),?_,?_,?_,by rw [hp0];exact ok0,fun _ => a4,fun _ => hp0,fun c => a5.resolve_left c,fun c d => ?_⟩⟩
    · by_cases k3 : r.node.kind = 3
      · rw [if_pos k3] at a7
        simp only [Bool.and_eq_true,decide_eq_true_eq] at a7
        exact a7.1.2
      · rw [a5.resolve_left k3];simp
    all_goals
      by_cases k4 : r.node.kind = 4 ∨ r.node.kind = 5
      · by_cases k3 : r.node.kind = 3
        · omega
        · rw [if_neg k3,if_pos k4] at a7
          simp only [Bool.and_eq_true,decide_eq_true_eq] at a7
          first | exact ⟨by omega,by omega⟩ | omega
      · have := a6.resolve_left k4
        unfold noDev at this
        rw [Bool.and_eq_true,decide_eq_true_eq,decide_eq_true_eq] at this
        first | exact this | (rw [this.1];exact ok0) | (rw [this.2];exact ok0)

theorem putRec_ne (r : Rec) : 0 < (putRec r).length := by
  unfold putRec putT
  have := putU_ne r.path.length
  have := List.length_pos_iff.2 this
  simp only [List.length_append];omega
theorem get_put {b : List UInt8} {r : Rec} {p : Nat} {tail : List UInt8} (h : mayRec r = true) (ht : r.node.mt.time < 9223372036854775808) (hp : p ≤ b.length) (hb : b.drop p = putRec r ++ tail) : getRec b p = (r,((p + (putRec r).length : Nat) : Int),0) := by
  have := (rRec_ok b).back r (putRec r) p tail ⟨rfl,mayRec_ok h ht⟩ hp hb
  unfold getRec
  rw [if_neg (by omega),Int.toNat_natCast,this]
  simp only [Bool.false_eq_true,false_or]
  rw [if_neg (by rw [h];exact Bool.noConfusion)]
theorem put_get {b : List UInt8} {r : Rec} {i to : Int} (h : getRec b i = (r,to,0)) : ∃ p q : Nat,i = p ∧ to = q ∧ q = p + (putRec r).length ∧ q ≤ b.length ∧ mayRec r = true ∧ b.drop p = putRec r ++ b.drop q ∧ r.node.mt.time < 9223372036854775808 := by
  unfold getRec at h
  split at h
  · exact absurd (congrArg (fun x => x.2.2) h) (by show ¬ (1 : Int) = 0;decide)
  rename_i hc
  split at h
  · exact absurd (congrArg (fun x => x.2.2) h) (by show ¬ (3 : Int) = 0;decide)
  rename_i hd
  have hbad : (rRec b ⟨i.toNat,false⟩).2.bad = false := by
    cases hx : (rRec b ⟨i.toNat,false⟩).2.bad
    · rfl
    · exact absurd (.inl hx) hd
  have hmay : mayRec (rRec b ⟨i.toNat,false⟩).1 = true := by
    cases hx : mayRec (rRec b ⟨i.toNat,false⟩).1
    · exact absurd (.inr hx) hd
    · rfl
  have hle : i.toNat ≤ b.length := by omega
  obtain ⟨w,⟨h1,h2⟩,h3⟩ := (rRec_ok b).inv ⟨i.toNat,false⟩ hle hbad
  have hpos := (rRec_ok b).pos ⟨i.toNat,false⟩ hle
  have hr : (rRec b ⟨i.toNat,false⟩).1 = r := congrArg (fun x => x.1) h
  have hto : ((rRec b ⟨i.toNat,false⟩).2.pos : Int) = to := congrArg (fun x => x.2.1) h
  rw [hr] at h1 h2 hmay
  subst h1
  have hl := congrArg List.length h3
  rw [List.length_drop,List.length_append,List.length_drop] at hl
  refine ⟨i.toNat,_,by omega,hto.symm,?_,hpos,hmay,h3,?_⟩
  · simp only at hl;omega
  · rcases h2.2.2 with ⟨k,_⟩ | k
    · rw [k];decide
    · exact k.2.2.1.time.2
theorem getRec_code (b : List UInt8) (i : Int) : (getRec b i).2.2 = 0 ∨ getRec b i = (zeroRec,i,if i < 0 ∨ (b.length : Int) < i then 1 else 3) := by
  unfold getRec
  split
  · exact .inr rfl
  · split
    · exact .inr rfl
    · exact .inl rfl
end Go.Proofs.YteamlijbkldlhaaDoor.RecSpec
end
section
set_option linter.unusedSimpArgs false
set_option linter.unusedVariables false
namespace Go.Proofs.YteamlijbkldlhaaDoor.RecSpec
open AclSpec MetaSpec NodeSpec PathSpec

theorem back_same {r : Rec} (hm : mayRec r = true) (ht : r.node.mt.time < 9223372036854775808) (a : List UInt8) : getRec (a ++ putRec r) a.length = (r,(((a ++ putRec r).length : Nat) : Int),0) := by
  have := get_put (b := a ++ putRec r) (p := a.length) (tail := []) hm ht (by rw [List.length_append];omega) (by rw [List.drop_left,List.append_nil])
  rw [this,List.length_append]
theorem back_cut {r : Rec} (hm : mayRec r = true) (ht : r.node.mt.time < 9223372036854775808) (a : List UInt8) {k : Nat} (hk : k < (putRec r).length) : getRec ((a ++ putRec r).take (a.length + k)) a.length = (zeroRec,(a.length : Int),3) := by
  have hl : ((a ++ putRec r).take (a.length + k)).length = a.length + k := by rw [List.length_take,List.length_append];omega
  rcases getRec_code ((a ++ putRec r).take (a.length + k)) a.length with h | h
  · exfalso
    obtain ⟨s,to,c,hs⟩ : ∃ s to c,getRec ((a ++ putRec r).take (a.length + k)) a.length = (s,to,c) := ⟨_,_,_,rfl⟩
    rw [hs] at h
    have h : c = 0 := h
    subst h
    obtain ⟨p,q,h1,h2,h3,h4,h5,h6,h7⟩ := put_get hs
    obtain rfl : p = a.length := by omega
    rw [hl] at h4
    have e := back_same hm ht a
    have hd : (a ++ putRec r).drop a.length = putRec s ++ (((a ++ putRec r).take (a.length + k)).drop q ++ (a ++ putRec r).drop (a.length + k)) := by
      rw [← List.append_assoc,← h6]
      conv => lhs;rw [← List.take_append_drop (a.length + k) (a ++ putRec r)]
      rw [List.drop_append_of_le_length (by omega)]
    have e2 := get_put (b := a ++ putRec r) (p := a.length) h5 h7 (by rw [List.length_append];omega) hd
    rw [e] at e2
    have e3 := congrArg (fun x => x.2.1) e2
    have e3 : (((a ++ putRec r).length : Nat) : Int) = ((a.length + (putRec s).length : Nat) : Int) := e3
    rw [List.length_append] at e3
    omega
  · rw [h,if_neg (by omega)]
theorem rows_at {l : List Rec} (hm : ∀ r ∈ l,mayRec r = true ∧ r.node.mt.time < 9223372036854775808) {i : Nat} {r : Rec} (h : l[i]? = some r) : getRec (l.flatMap putRec) ((((l.take i).flatMap putRec).length : Nat) : Int) = (r,((((l.take (i + 1)).flatMap putRec).length : Nat) : Int),0) ∧ ((l.take i).flatMap putRec).length < ((l.take (i + 1)).flatMap putRec).length := by
  obtain ⟨hi,rfl⟩ := List.getElem?_eq_some_iff.1 h
  have hs : l.flatMap putRec = (l.take i).flatMap putRec ++ (putRec l[i] ++ (l.drop (i + 1)).flatMap putRec) := by
    conv => lhs;rw [← List.take_append_drop i l,List.drop_eq_getElem_cons hi]
    rw [List.flatMap_append,List.flatMap_cons]
  have hl : ((l.take (i + 1)).flatMap putRec).length = ((l.take i).flatMap putRec).length + (putRec l[i]).length := by
    rw [List.take_succ_eq_append_getElem hi,List.flatMap_append,List.length_append];simp
  obtain ⟨m1,m2⟩ := hm l[i] (List.getElem_mem hi)
  refine ⟨?_,by have := putRec_ne l[i];omega⟩
  rw [hl]
  refine get_put m1 m2 ?_ (tail := (l.drop (i + 1)).flatMap putRec) ?_
  · rw [hs,List.length_append];omega
  · rw [hs,List.drop_left]
end Go.Proofs.YteamlijbkldlhaaDoor.RecSpec
end
section
set_option linter.unusedSimpArgs false
set_option linter.unusedVariables false
namespace Go.Proofs.YteamlijbkldlhaaDoor.RecSpec
open AclSpec MetaSpec NodeSpec PathSpec

end Go.Proofs.YteamlijbkldlhaaDoor.RecSpec
end
