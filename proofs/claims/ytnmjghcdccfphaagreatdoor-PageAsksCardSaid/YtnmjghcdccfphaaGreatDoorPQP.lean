import Derived.Test.YtnmjghcdccfphaaGreatDoorRBare
import Derived.Test.YtnmjghcdccfphaaGreatDoorPRef
section
set_option linter.unusedSimpArgs false
set_option linter.unusedVariables false
namespace Go.Proofs.YtnmjghcdccfphaaGreatDoor.RecSpec
open AclSpec MetaSpec NodeSpec PathSpec

section
variable {b : List UInt8} {α β : Type}
def guardR (d : α) (f : Rdr α) : Rdr α := fun s => if s.bad = true then (d,s) else f s
theorem Rok.guardOf {f : Rdr α} {P : α → List UInt8 → Prop} (d : α) (back : ∀ a w p tail,P a w → p ≤ b.length → b.drop p = w ++ tail → f ⟨p,false⟩ = (a,⟨p + w.length,false⟩)) (pos : ∀ s,s.pos ≤ b.length → (f s).2.pos ≤ b.length)
  (inv : ∀ s,s.pos ≤ b.length → (f s).2.bad = false → ∃ w,P (f s).1 w ∧ b.drop s.pos = w ++ b.drop (f s).2.pos) : Rok b (guardR d f) P := by
 refine ⟨fun a w p tail hp hl hb => ?_,fun s hs => ?_,fun s hs hb => ?_,fun s hs hb => ?_⟩
 ·unfold guardR
  rw [if_neg (by simp)]
  exact back a w p tail hp hl hb
 ·unfold guardR
  split
  ·exact hs
  ·exact pos s hs
 ·unfold guardR at hb
  split at hb
  ·rename_i hc
   rw [hc] at hb;cases hb
  ·rename_i hc
   simpa using hc
 ·unfold guardR at hb ⊢
  split at hb
  ·rename_i hc
   rw [hc] at hb;cases hb
  ·rename_i hc
   rw [if_neg hc]
   exact inv s hs hb
theorem Rok.guard {f : Rdr α} {P : α → List UInt8 → Prop} (h : Rok b f P) (d : α) : Rok b (guardR d f) P := Rok.guardOf d h.back h.pos h.inv
def qRep (f : Rdr α) : Nat → Rdr (List α)
 | 0 => pureR []
 | k + 1 => guardR [] (bindR f fun a => bindR (qRep f k) fun l => pureR (a :: l))
theorem Rok.qrep {f : Rdr α} {P : α → List UInt8 → Prop} (h : Rok b f P) : ∀ k : Nat,Rok b (qRep f k) (fun l w => l.length = k ∧ Encs P l w)
 | 0 => (Rok.pure ([] : List α)).imp fun l w => ⟨fun ⟨h1,h2⟩ => by rw [h1,h2];exact ⟨rfl,.nil⟩,fun ⟨h1,h2⟩ => by
   have : l = [] := List.eq_nil_of_length_eq_zero h1
   subst this
   cases h2;exact ⟨rfl,rfl⟩⟩
 | k + 1 => ((h.bind fun a => (Rok.qrep h k).bind fun l => Rok.pure (a :: l)).guard []).imp fun l w => by
   constructor
   ·rintro ⟨a,w1,w2,h1,⟨m,w3,w4,⟨h2,h3⟩,⟨h4,h5⟩,h6⟩,h7⟩
    subst h4;subst h5;subst h6;subst h7
    rw [List.append_nil]
    exact ⟨by rw [List.length_cons,h2],.cons h1 h3⟩
   ·rintro ⟨h1,h2⟩
    cases h2 with
    | nil => simp at h1
    | cons h3 h4 => exact ⟨_,_,_,h3,⟨_,_,_,⟨by simpa using h1,h4⟩,⟨rfl,rfl⟩,rfl⟩,by rw [List.append_nil]⟩
end
def qNum0 (b : List UInt8) (most : Nat) : Rdr Nat := fun s => match getU (b.drop s.pos) 0 1 true with
 | some (n,r) => if most < n then (0,⟨b.length - r.length,true⟩) else (n,⟨b.length - r.length,false⟩)
 | none => (0,⟨s.pos,true⟩)
def qNum (b : List UInt8) (most : Nat) : Rdr Nat := guardR 0 (qNum0 b most)
def qText0 (b : List UInt8) (most : Nat) : Rdr (List UInt8) := fun s => match getT (b.drop s.pos) most with
 | some (t,r) => (t,⟨b.length - r.length,false⟩)
 | none => ([],⟨s.pos,true⟩)
def qText (b : List UInt8) (most : Nat) : Rdr (List UInt8) := guardR [] (qText0 b most)
def qByte0 (b : List UInt8) : Rdr Nat := fun s => match b[s.pos]? with
 | some c => (c.toNat,⟨s.pos + 1,false⟩)
 | none => (0,⟨s.pos,true⟩)
def qByte (b : List UInt8) : Rdr Nat := guardR 0 (qByte0 b)
theorem qNum_ok (b : List UInt8) (most : Nat) (hm : most < half) : Rok b (qNum b most) (fun n w => w = putU n ∧ n ≤ most) := by
 refine Rok.guardOf 0 ?_ (fun s h => ?_) (fun s h hb => ?_)
 ·rintro n w p tail ⟨rfl,hn⟩ hp hb
  unfold qNum0
  simp only []
  rw [hb,getU_put n 0 1 true tail (by decide) (by unfold half at hm;unfold big;omega) (fun h => by cases h)]
  simp only [Nat.zero_add,Nat.mul_one]
  rw [if_neg (by omega),rest_len hp hb]
 ·unfold qNum0
  split
  ·split
   ·show b.length - _ ≤ _;omega
   ·show b.length - _ ≤ _;omega
  ·exact h
 ·unfold qNum0 at hb ⊢
  split at hb
  ·rename_i n r hg
   split at hb
   ·cases hb
   ·rename_i hc
    obtain ⟨_,v,h1,h2,_⟩ := getU_inv _ _ _ _ _ _ hg
    rw [Nat.zero_add,Nat.mul_one] at h2
    subst h2
    simp only [if_neg hc]
    exact ⟨_,⟨rfl,by omega⟩,by rw [rest_len h h1,drop_app h1,h1]⟩
  ·cases hb
theorem qText_ok (b : List UInt8) (most : Nat) (hm : most < half) : Rok b (qText b most) (fun t w => w = putT t ∧ t.length ≤ most) := by
 refine Rok.guardOf [] ?_ (fun s h => ?_) (fun s h hb => ?_)
 ·rintro t w p tail ⟨rfl,ht⟩ hp hb
  unfold qText0
  simp only []
  rw [hb,getT_put ht (by unfold half at hm;unfold big;omega)]
  simp only []
  rw [rest_len hp hb]
 ·unfold qText0
  split
  ·show b.length - _ ≤ _;omega
  ·exact h
 ·unfold qText0 at hb ⊢
  split at hb
  ·rename_i t r hg
   obtain ⟨h1,h2⟩ := getT_inv hg
   refine ⟨_,⟨rfl,h2⟩,?_⟩
   simp only []
   rw [rest_len h h1,drop_app h1,h1]
  ·cases hb
theorem qByte_ok (b : List UInt8) : Rok b (qByte b) (fun n w => n < 256 ∧ w = [n.toUInt8]) := by
 refine Rok.guardOf 0 ?_ (fun s h => ?_) (fun s h hb => ?_)
 ·rintro n w p tail ⟨hn,rfl⟩ hp hb
  have hg : b[p]? = some n.toUInt8 := by
   have := congrArg (fun l => l[0]?) hb
   simpa using this
  unfold qByte0
  simp only [hg]
  have : n.toUInt8.toNat = n := by rw [Nat.toUInt8,UInt8.toNat_ofNat'];omega
  rw [this];rfl
 ·unfold qByte0
  split
  ·rename_i c hc
   have := (List.getElem?_eq_some_iff.1 hc).1
   show s.pos + 1 ≤ _;omega
  ·exact h
 ·unfold qByte0 at hb ⊢
  split at hb
  ·rename_i c hc
   obtain ⟨hl,he⟩ := List.getElem?_eq_some_iff.1 hc
   refine ⟨[c],⟨c.toNat_lt,by simp⟩,?_⟩
   simp only []
   rw [List.drop_eq_getElem_cons hl,he];rfl
  ·cases hb
def lim (k : Nat) (x : Int) : Prop := 0 ≤ x ∧ x ≤ (k : Int)
theorem lim0 (k : Nat) : lim k 0 := ⟨by omega,by omega⟩
def qInt (b : List UInt8) (most : Nat) : Rdr Int := bindR (qNum b most) fun n => pureR (n : Int)
theorem qInt_ok (b : List UInt8) (most : Nat) (hm : most < half) : Rok b (qInt b most) (fun x w => w = putI x ∧ lim most x) :=
 ((qNum_ok b most hm).bind fun n => Rok.pure (n : Int)).imp fun x w => by
  constructor
  ·rintro ⟨n,w1,w2,⟨rfl,h2⟩,⟨rfl,rfl⟩,rfl⟩
   exact ⟨by rw [putI_nat (by omega),List.append_nil],by omega,by omega⟩
  ·rintro ⟨rfl,h1,h3⟩
   refine ⟨x.toNat,putI x,[],⟨?_,by omega⟩,⟨by omega,rfl⟩,by rw [List.append_nil]⟩
   rw [← putI_nat (by omega : x.toNat < half),Int.toNat_of_nonneg h1]
def qAttr (b : List UInt8) : Rdr Attr := bindR (qText b 20) fun n => bindR (qText b 200) fun v => pureR ⟨n,v⟩
theorem qAttr_ok (b : List UInt8) : Rok b (qAttr b) (fun a w => w = putAt a ∧ okAt a) :=
 ((qText_ok b 20 (by decide)).bind fun n => (qText_ok b 200 (by decide)).bind fun v => Rok.pure (⟨n,v⟩ : Attr)).imp fun a w => by
  constructor
  ·rintro ⟨n,w1,w2,⟨rfl,h1⟩,⟨v,w3,w4,⟨rfl,h2⟩,⟨rfl,rfl⟩,rfl⟩,rfl⟩
   rw [List.append_nil];exact ⟨rfl,h1,h2⟩
  ·rintro ⟨rfl,h1,h2⟩
   exact ⟨_,_,_,⟨rfl,h1⟩,⟨_,_,_,⟨rfl,h2⟩,⟨rfl,rfl⟩,rfl⟩,by rw [List.append_nil];rfl⟩
def qAce (b : List UInt8) : Rdr Ace := bindR (qInt b 3) fun k => bindR (qInt b 2147483648) fun i => bindR (qInt b 7) fun p => pureR ⟨k,i,p⟩
def okAcQ (a : Ace) : Prop := lim 3 a.kind ∧ lim 2147483648 a.id ∧ lim 7 a.perm
theorem qAce_ok (b : List UInt8) : Rok b (qAce b) (fun a w => w = putAc a ∧ okAcQ a) :=
 ((qInt_ok b 3 (by decide)).bind fun k => (qInt_ok b 2147483648 (by decide)).bind fun i => (qInt_ok b 7 (by decide)).bind fun p => Rok.pure (⟨k,i,p⟩ : Ace)).imp fun a w => by
  constructor
  ·rintro ⟨n,w1,w2,⟨rfl,h1⟩,⟨v,w3,w4,⟨rfl,h2⟩,⟨u,w5,w6,⟨rfl,h3⟩,⟨rfl,rfl⟩,rfl⟩,rfl⟩,rfl⟩
   rw [List.append_nil,← List.append_assoc];exact ⟨rfl,h1,h2,h3⟩
  ·rintro ⟨rfl,h1,h2,h3⟩
   exact ⟨_,_,_,⟨rfl,h1⟩,⟨_,_,_,⟨rfl,h2⟩,⟨_,_,_,⟨rfl,h3⟩,⟨rfl,rfl⟩,rfl⟩,rfl⟩,by rw [List.append_nil,← List.append_assoc];rfl⟩
def qPc (b : List UInt8) : Rdr Piece := bindR (qInt b 1099511627776) fun a => bindR (qNum b 4000) fun n => pureR ⟨a,itoB n⟩
def okPcQ (p : Piece) : Prop := lim 1099511627776 p.pos ∧ ∃ n : Nat,n ≤ 4000 ∧ p.dat = itoB n
theorem qPc_ok (b : List UInt8) : Rok b (qPc b) (fun p w => w = putPc p ∧ okPcQ p) :=
 ((qInt_ok b 1099511627776 (by decide)).bind fun a => (qNum_ok b 4000 (by decide)).bind fun n => Rok.pure (⟨a,itoB n⟩ : Piece)).imp fun p w => by
  constructor
  ·rintro ⟨a,w1,w2,⟨rfl,h1⟩,⟨n,w3,w4,⟨rfl,h2⟩,⟨rfl,rfl⟩,rfl⟩,rfl⟩
   refine ⟨?_,h1,n,h2,rfl⟩
   unfold putPc
   rw [List.append_nil]
   simp only [len_ito h2]
  ·rintro ⟨rfl,h1,n,h2,h3⟩
   refine ⟨p.pos,_,_,⟨rfl,h1⟩,⟨n,_,_,⟨rfl,h2⟩,⟨?_,rfl⟩,rfl⟩,?_⟩
   ·rw [← h3]
   ·unfold putPc
    rw [h3,len_ito h2,List.append_nil]
structure OkQM (m : FMeta) : Prop where
 mode : lim 4095 m.mode
 uid : lim 2147483648 m.uid
 gid : lim 2147483648 m.gid
 time : lim 9223372036854775807 m.time
 attrs : m.attrs.length ≤ 8
 attr : ∀ a ∈ m.attrs,okAt a
 acl : m.acl.length ≤ 16
 ace : ∀ a ∈ m.acl,okAcQ a
def qMeta (b : List UInt8) : Rdr FMeta := bindR (qInt b 4095) fun mo => bindR (qInt b 2147483648) fun u => bindR (qInt b 2147483648) fun g => bindR (qInt b 9223372036854775807) fun t =>
 bindR (qNum b 8) fun na => bindR (qRep (qAttr b) na) fun ats => bindR (qNum b 16) fun nc => bindR (qRep (qAce b) nc) fun acs => pureR ⟨mo,u,g,t,ats,acs⟩
theorem qMeta_ok (b : List UInt8) : Rok b (qMeta b) (fun m w => w = putM m ∧ OkQM m) :=
 ((qInt_ok b 4095 (by decide)).bind fun mo => (qInt_ok b 2147483648 (by decide)).bind fun u => (qInt_ok b 2147483648 (by decide)).bind fun g => (qInt_ok b 9223372036854775807 (by decide)).bind fun t =>
  (qNum_ok b 8 (by decide)).bind fun na => ((qAttr_ok b).qrep na).bind fun ats => (qNum_ok b 16 (by decide)).bind fun nc => ((qAce_ok b).qrep nc).bind fun acs => Rok.pure (⟨mo,u,g,t,ats,acs⟩ : FMeta)).imp fun m w => by
  constructor
  ·rintro ⟨mo,w1,w2,⟨rfl,h1⟩,⟨u,w3,w4,⟨rfl,h2⟩,⟨g,w5,w6,⟨rfl,h3⟩,⟨t,w7,w8,⟨rfl,h4⟩,⟨na,w9,w10,⟨rfl,h5⟩,⟨ats,w11,w12,⟨h6,h7⟩,⟨nc,w13,w14,⟨rfl,h8⟩,⟨acs,w15,w16,⟨h9,h10⟩,⟨rfl,rfl⟩,rfl⟩,rfl⟩,rfl⟩,rfl⟩,rfl⟩,rfl⟩,rfl⟩,rfl⟩
   obtain ⟨rfl,k7⟩ := (Encs.flat (p := putAt) (ok := okAt) (fun _ _ => Iff.rfl)).1 h7
   obtain ⟨rfl,k10⟩ := (Encs.flat (p := putAc) (ok := okAcQ) (fun _ _ => Iff.rfl)).1 h10
   subst h6;subst h9
   refine ⟨?_,h1,h2,h3,h4,h5,k7,h8,k10⟩
   unfold putM
   simp only [List.append_assoc,List.append_nil]
  ·rintro ⟨rfl,h⟩
   refine ⟨_,_,_,⟨rfl,h.mode⟩,⟨_,_,_,⟨rfl,h.uid⟩,⟨_,_,_,⟨rfl,h.gid⟩,⟨_,_,_,⟨rfl,h.time⟩,⟨m.attrs.length,_,_,⟨rfl,h.attrs⟩,⟨m.attrs,m.attrs.flatMap putAt,_,⟨rfl,(Encs.flat (p := putAt) (ok := okAt) (fun _ _ => Iff.rfl)).2 ⟨rfl,h.attr⟩⟩,
    ⟨m.acl.length,_,_,⟨rfl,h.acl⟩,⟨m.acl,m.acl.flatMap putAc,_,⟨rfl,(Encs.flat (p := putAc) (ok := okAcQ) (fun _ _ => Iff.rfl)).2 ⟨rfl,h.ace⟩⟩,⟨rfl,rfl⟩,rfl⟩,rfl⟩,rfl⟩,rfl⟩,rfl⟩,rfl⟩,rfl⟩,?_⟩
   unfold putM
   simp only [List.append_assoc,List.append_nil]
structure OkQB (n : FNode) (pos : Int) : Prop where
 size : lim 1099511627776 n.size
 len : n.dat.length ≤ 16
 pcs : ∀ p ∈ n.dat,okPcQ p
 target : n.target.length ≤ 200
 major : lim 65535 n.major
 minor : lim 65535 n.minor
 ppos : lim 400000 pos
 notFile : n.kind ≠ 2 → n.size = 0 ∧ n.dat = []
 none : n.dat = [] → pos = 0
 notLink : n.kind ≠ 3 → n.target = []
 notDev : n.kind ≠ 4 → n.kind ≠ 5 → n.major = 0 ∧ n.minor = 0
def qFile (b : List UInt8) (m : FMeta) : Rdr (FNode × Int) := bindR (qInt b 1099511627776) fun sz => bindR (qNum b 16) fun np => bindR (qRep (qPc b) np) fun ps =>
 if np = 0 then pureR (⟨2,m,sz,ps,[],0,0⟩,0) else bindR (qInt b 400000) fun p => pureR (⟨2,m,sz,ps,[],0,0⟩,p)
def qBody (b : List UInt8) (k : Nat) (m : FMeta) : Rdr (FNode × Int) :=
 if k = 2 then qFile b m
 else if k = 3 then bindR (qText b 200) fun t => pureR (⟨k,m,0,[],t,0,0⟩,0)
 else if k = 4 ∨ k = 5 then bindR (qInt b 65535) fun a => bindR (qInt b 65535) fun c => pureR (⟨k,m,0,[],[],a,c⟩,0)
 else pureR (⟨k,m,0,[],[],0,0⟩,0)
def qNode (b : List UInt8) : Rdr (FNode × Int) := bindR (qByte b) fun k => if k = 0 then pureR (zeroN,0) else bindR (qMeta b) fun m => qBody b k m
def qRec (b : List UInt8) : Rdr Rec := bindR (qText b 100) fun p => bindR (qInt b 100) fun l => bindR (qNode b) fun q => pureR ⟨p,l,q.1,q.2⟩
theorem qFile_ok (b : List UInt8) (m : FMeta) : Rok b (qFile b m) (fun q w => w = restR q.1 q.2 ∧ q.1.kind = 2 ∧ q.1.mt = m ∧ OkQB q.1 q.2) :=
 ((qInt_ok b 1099511627776 (by decide)).bind fun sz => (qNum_ok b 16 (by decide)).bind fun np => ((qPc_ok b).qrep np).bind fun ps =>
  Rok.ite (c := np = 0) (fun _ => Rok.pure ((⟨2,m,sz,ps,[],0,0⟩,0) : FNode × Int)) (fun _ => (qInt_ok b 400000 (by decide)).bind fun p => Rok.pure ((⟨2,m,sz,ps,[],0,0⟩,p) : FNode × Int))).imp fun q w => by
  constructor
  ·rintro ⟨sz,w1,w2,⟨rfl,h1⟩,⟨np,w3,w4,⟨rfl,h2⟩,⟨ps,w5,w6,⟨h3,h4⟩,h5,rfl⟩,rfl⟩,rfl⟩
   obtain ⟨rfl,k4⟩ := (Encs.flat (p := putPc) (ok := okPcQ) (fun _ _ => Iff.rfl)).1 h4
   subst h3
   rcases h5 with ⟨h0,rfl,rfl⟩ | ⟨h6,p,w7,w8,⟨rfl,h7⟩,⟨rfl,rfl⟩,rfl⟩
   ·have hps : ps = [] := List.eq_nil_of_length_eq_zero h0
    subst hps
    refine ⟨?_,rfl,rfl,⟨h1,by simp,(fun p hp => by cases hp),by simp,lim0 _,lim0 _,lim0 _,fun c => absurd rfl c,fun _ => rfl,fun _ => rfl,fun _ _ => ⟨rfl,rfl⟩⟩⟩
    unfold restR
    simp only [if_true,List.append_assoc,List.append_nil,List.flatMap_nil,List.length_nil]
   ·refine ⟨?_,rfl,rfl,⟨h1,h2,k4,by simp,lim0 _,lim0 _,h7,fun c => absurd rfl c,fun c => absurd (show ps.length = 0 by rw [show ps = [] from c];rfl) h6,fun _ => rfl,fun _ _ => ⟨rfl,rfl⟩⟩⟩
    unfold restR
    simp only [if_true,if_neg (show ¬ ps = [] from fun c => h6 (by rw [c];rfl)),List.append_assoc,List.append_nil]
  ·rintro ⟨rfl,hk,rfl,h⟩
   obtain ⟨⟨kind,mt,size,dat,target,major,minor⟩,pos⟩ := q
   simp only at hk h ⊢
   subst hk
   have h1 := h.notLink (by simp)
   have h2 := h.notDev (by simp) (by simp)
   simp only at h1 h2
   obtain ⟨h2,h3⟩ := h2
   subst h1;subst h2;subst h3
   refine ⟨size,_,_,⟨rfl,h.size⟩,⟨dat.length,_,_,⟨rfl,h.len⟩,⟨dat,dat.flatMap putPc,if dat = [] then [] else putI pos,⟨rfl,(Encs.flat (p := putPc) (ok := okPcQ) (fun _ _ => Iff.rfl)).2 ⟨rfl,h.pcs⟩⟩,?_,rfl⟩,rfl⟩,?_⟩
   ·by_cases hd : dat = []
    ·refine .inl ⟨by rw [hd];rfl,?_,if_pos hd⟩
     have this : pos = 0 := h.none hd
     rw [this]
    ·rw [if_neg hd]
     exact .inr ⟨fun c => hd (List.eq_nil_of_length_eq_zero c),pos,_,_,⟨rfl,h.ppos⟩,⟨rfl,rfl⟩,by rw [List.append_nil]⟩
   ·unfold restR
    simp only [if_true,List.append_assoc]
theorem qBody_ok (b : List UInt8) (k : Nat) (hk0 : k ≠ 0) (m : FMeta) : Rok b (qBody b k m) (fun q w => w = restR q.1 q.2 ∧ q.1.kind = k ∧ q.1.mt = m ∧ OkQB q.1 q.2) := by
 unfold qBody
 by_cases h2 : k = 2
 ·rw [if_pos h2]
  subst h2
  exact qFile_ok b m
 have h2i : ¬ ((k : Int) = 2) := by omega
 rw [if_neg h2]
 by_cases h3 : k = 3
 ·rw [if_pos h3]
  subst h3
  refine ((qText_ok b 200 (by decide)).bind fun t => Rok.pure ((⟨(3 : Nat),m,0,[],t,0,0⟩,0) : FNode × Int)).imp fun q w => ?_
  constructor
  ·rintro ⟨t,w1,w2,⟨rfl,h1⟩,⟨rfl,rfl⟩,rfl⟩
   refine ⟨?_,rfl,rfl,⟨lim0 _,by simp,(fun p hp => by cases hp),h1,lim0 _,lim0 _,lim0 _,fun _ => ⟨rfl,rfl⟩,fun _ => rfl,fun c => absurd rfl c,fun _ _ => ⟨rfl,rfl⟩⟩⟩
   rw [List.append_nil];rfl
  ·rintro ⟨rfl,hk,rfl,h⟩
   obtain ⟨⟨kind,mt,size,dat,target,major,minor⟩,pos⟩ := q
   simp only at hk h ⊢
   subst hk
   have e1 := h.notFile (by simp)
   have e2 := h.notDev (by simp) (by simp)
   simp only at e1 e2
   obtain ⟨e1,e3⟩ := e1
   obtain ⟨e2,e4⟩ := e2
   have e5 : pos = 0 := h.none e3
   subst e1;subst e2;subst e3;subst e4;subst e5
   exact ⟨target,_,_,⟨rfl,h.target⟩,⟨rfl,rfl⟩,by rw [List.append_nil];rfl⟩
 have h3i : ¬ ((k : Int) = 3) := by omega
 rw [if_neg h3]
 by_cases h4 : k = 4 ∨ k = 5
 ·rw [if_pos h4]
  have h4i : (k : Int) = 4 ∨ (k : Int) = 5 := by omega
  refine ((qInt_ok b 65535 (by decide)).bind fun x => (qInt_ok b 65535 (by decide)).bind fun y => Rok.pure ((⟨k,m,0,[],[],x,y⟩,0) : FNode × Int)).imp fun q w => ?_
  constructor
  ·rintro ⟨x,w1,w2,⟨rfl,h1⟩,⟨y,w3,w4,⟨rfl,h5⟩,⟨rfl,rfl⟩,rfl⟩,rfl⟩
   refine ⟨?_,rfl,rfl,⟨lim0 _,by simp,(fun p hp => by cases hp),by simp,h1,h5,lim0 _,fun _ => ⟨rfl,rfl⟩,fun _ => rfl,fun _ => rfl,fun c d => absurd h4i (by simp only at c d;omega)⟩⟩
   unfold restR
   simp only [if_neg h2i,if_neg h3i,if_pos h4i,List.append_nil]
  ·rintro ⟨rfl,hk,rfl,h⟩
   obtain ⟨⟨kind,mt,size,dat,target,major,minor⟩,pos⟩ := q
   simp only at hk h ⊢
   subst hk
   have e1 := h.notFile h2i
   have e2 := h.notLink h3i
   simp only at e1 e2
   obtain ⟨e1,e3⟩ := e1
   have e5 : pos = 0 := h.none e3
   subst e1;subst e2;subst e3;subst e5
   refine ⟨major,_,_,⟨rfl,h.major⟩,⟨minor,_,_,⟨rfl,h.minor⟩,⟨rfl,rfl⟩,rfl⟩,?_⟩
   unfold restR
   simp only [if_neg h2i,if_neg h3i,if_pos h4i,List.append_nil]
 ·rw [if_neg h4]
  have h4i : ¬ ((k : Int) = 4 ∨ (k : Int) = 5) := by omega
  refine (Rok.pure ((⟨k,m,0,[],[],0,0⟩,0) : FNode × Int)).imp fun q w => ?_
  constructor
  ·rintro ⟨rfl,rfl⟩
   refine ⟨?_,rfl,rfl,⟨lim0 _,by simp,(fun p hp => by cases hp),by simp,lim0 _,lim0 _,lim0 _,fun _ => ⟨rfl,rfl⟩,fun _ => rfl,fun _ => rfl,fun _ _ => ⟨rfl,rfl⟩⟩⟩
   unfold restR
   simp only [if_neg h2i,if_neg h3i,if_neg h4i]
  ·rintro ⟨rfl,hk,rfl,h⟩
   obtain ⟨⟨kind,mt,size,dat,target,major,minor⟩,pos⟩ := q
   simp only at hk h ⊢
   subst hk
   have e1 := h.notFile h2i
   have e2 := h.notLink h3i
   have e4 := h.notDev (fun c => h4i (.inl c)) (fun c => h4i (.inr c))
   simp only at e1 e2 e4
   obtain ⟨e1,e3⟩ := e1
   obtain ⟨e4,e6⟩ := e4
   have e5 : pos = 0 := h.none e3
   subst e1;subst e2;subst e3;subst e5;subst e4;subst e6
   refine ⟨rfl,?_⟩
   unfold restR
   simp only [if_neg h2i,if_neg h3i,if_neg h4i]
def OkQN (n : FNode) (pos : Int) : Prop := (n = zeroN ∧ pos = 0) ∨ (1 ≤ n.kind ∧ n.kind < 256 ∧ OkQM n.mt ∧ OkQB n pos)
theorem kindQ_nat {k : Nat} (h : k < 256) : kindB (k : Int) = k.toUInt8 := by
 unfold kindB
 congr 1;omega
theorem qNode_ok (b : List UInt8) : Rok b (qNode b) (fun q w => w = putN q.1 q.2 ∧ OkQN q.1 q.2) :=
 ((qByte_ok b).bind fun k => Rok.ite (c := k = 0) (fun _ => Rok.pure ((zeroN,0) : FNode × Int)) (fun hk => (qMeta_ok b).bind fun m => qBody_ok b k hk m)).imp fun q w => by
  constructor
  ·rintro ⟨k,w1,w2,⟨h1,rfl⟩,h2,rfl⟩
   rcases h2 with ⟨rfl,rfl,rfl⟩ | ⟨hk,m,w3,w4,⟨rfl,hm⟩,⟨rfl,h3,h4,h5⟩,rfl⟩
   ·exact ⟨rfl,.inl ⟨rfl,rfl⟩⟩
   ·have hz : q.1 ≠ zeroN := by
     intro c
     rw [c] at h3
     have : (0 : Int) = k := h3
     omega
    refine ⟨?_,.inr ⟨by omega,by omega,by rw [h4];exact hm,h5⟩⟩
    unfold putN
    rw [if_neg hz,h3,h4,kindQ_nat h1];rfl
  ·rintro ⟨rfl,h⟩
   rcases h with ⟨h1,h2⟩ | ⟨h1,h2,h3,h4⟩
   ·refine ⟨0,[(0 : Nat).toUInt8],[],⟨by omega,rfl⟩,.inl ⟨rfl,?_,rfl⟩,?_⟩
    ·rw [← h1,← h2]
    ·unfold putN
     rw [if_pos h1];rfl
   ·have hz : q.1 ≠ zeroN := by
     intro c
     rw [c] at h1
     exact absurd h1 (by decide)
    have hk : q.1.kind = (q.1.kind.toNat : Int) := by omega
    refine ⟨q.1.kind.toNat,_,_,⟨by omega,rfl⟩,.inr ⟨by omega,q.1.mt,_,_,⟨rfl,h3⟩,⟨rfl,hk,rfl,h4⟩,rfl⟩,?_⟩
    unfold putN
    rw [if_neg hz]
    conv => lhs;rw [hk]
    rw [kindQ_nat (by omega)];rfl
def OkQR (r : Rec) : Prop := r.path.length ≤ 100 ∧ lim 100 r.lead ∧ OkQN r.node r.pos
theorem qRec_ok (b : List UInt8) : Rok b (qRec b) (fun r w => w = putRec r ∧ OkQR r) :=
 ((qText_ok b 100 (by decide)).bind fun p => (qInt_ok b 100 (by decide)).bind fun l => (qNode_ok b).bind fun q => Rok.pure (⟨p,l,q.1,q.2⟩ : Rec)).imp fun r w => by
  constructor
  ·rintro ⟨p,w1,w2,⟨rfl,h1⟩,⟨l,w3,w4,⟨rfl,h2⟩,⟨q,w5,w6,⟨rfl,h3⟩,⟨rfl,rfl⟩,rfl⟩,rfl⟩,rfl⟩
   refine ⟨?_,h1,h2,h3⟩
   unfold putRec
   rw [List.append_nil,List.append_assoc]
  ·rintro ⟨rfl,h1,h2,h3⟩
   refine ⟨_,_,_,⟨rfl,h1⟩,⟨_,_,_,⟨rfl,h2⟩,⟨(r.node,r.pos),_,_,⟨rfl,h3⟩,⟨rfl,rfl⟩,rfl⟩,rfl⟩,?_⟩
   unfold putRec
   rw [List.append_nil,List.append_assoc]

theorem okQM_of {m : FMeta} (h : mayM m = true) (ht : m.time < 9223372036854775808) : OkQM m := by
 unfold mayM idB at h
 simp only [Bool.and_eq_true,decide_eq_true_eq] at h
 obtain ⟨⟨⟨⟨⟨⟨⟨a1,a2⟩,⟨a3,a4⟩⟩,⟨a5,a6⟩⟩,a7⟩,a8⟩,a9⟩,a10⟩ := h
 unfold mayA chkAt at a10
 simp only [Bool.and_eq_true,decide_eq_true_eq] at a10
 obtain ⟨⟨b1,b2⟩,_⟩ := a10
 refine ⟨⟨a1,by omega⟩,⟨a3,by omega⟩,⟨a5,by omega⟩,⟨a7,by omega⟩,a8,fun a ha => ?_,b1,fun a ha => ?_⟩
 ·unfold chkT GSort.chkGAt at a9
  have := chkG_all a9 a ha
  unfold goodT at this
  simp only [Bool.and_eq_true,decide_eq_true_eq] at this
  exact ⟨this.1.2,this.2⟩
 ·have := chk_all b2 a ha
  unfold goodB at this
  simp only [Bool.and_eq_true,decide_eq_true_eq] at this
  obtain ⟨⟨⟨⟨⟨⟨c1,c2⟩,c3⟩,c4⟩,c5⟩,c6⟩,_⟩ := this
  exact ⟨⟨by omega,by omega⟩,⟨by omega,by omega⟩,⟨by omega,by omega⟩⟩
theorem mayRec_okQ {r : Rec} (h : mayRec r = true) (ht : r.node.mt.time < 9223372036854775808) : OkQR r := by
 unfold mayRec at h
 simp only [Bool.and_eq_true,Bool.not_eq_true',decide_eq_false_iff_not] at h
 obtain ⟨⟨⟨⟨⟨h1,h2⟩,h3⟩,h4⟩,h5⟩,h6⟩ := h
 have hpl : r.path.length ≤ 100 := by
  unfold mayB at h1
  cases hp : r.path with
  | nil => simp
  | cons x l => rw [hp] at h1;simp only [List.isEmpty_cons,Bool.false_or,Bool.and_eq_true,decide_eq_true_eq] at h1;exact h1.1
 have hpos : lim 400000 r.pos := ⟨by omega,by omega⟩
 refine ⟨hpl,⟨by omega,by omega⟩,?_⟩
 by_cases hz : r.node = zeroN
 ·rw [if_pos hz] at h6
  exact .inl ⟨hz,of_decide_eq_true h6⟩
 rw [if_neg hz] at h6
 split at h6
 ·cases h6
 rename_i n hn
 right
 unfold mayNR at h6
 rw [Bool.and_eq_true,Bool.or_eq_true,decide_eq_true_eq,Bool.and_eq_true,decide_eq_true_eq] at h6
 obtain ⟨hm,h7⟩ := h6
 unfold fullN at hn
 by_cases hk : r.node.kind = 2
 ·rw [if_pos hk] at hn
  split at hn
  ·cases hn
  obtain ⟨l,hl,rfl⟩ := Option.map_eq_some_iff.1 hn
  obtain ⟨i1,i2⟩ := fullP_some hl
  have hf : isFileN { r.node with dat := l } = true := by
   unfold isFileN
   rw [decide_eq_true (show ({ r.node with dat := l } : FNode).kind = 2 from hk),hm];rfl
  obtain ⟨_,k1,k2,k3,k4,k5,_,k7,k8,k9,k10⟩ := isFile_ok hf
  simp only at k1 k2 k3 k4 k7 k8 k9 k10
  refine ⟨by omega,by omega,okQM_of k10 ht,⟨⟨k1,by omega⟩,by omega,fun p hp => ?_,by rw [k7];simp,by rw [k8];exact lim0 _,by rw [k9];exact lim0 _,hpos,fun c => absurd hk c,fun c => ?_,fun _ => k7,fun _ _ => ⟨k8,k9⟩⟩⟩
  ·obtain ⟨j1,q,j2,j3⟩ := i2 p hp
   have := k4 q j2
   obtain ⟨e1,e2⟩ := ito_lenS j1
   exact ⟨⟨by omega,by omega⟩,_,e2,e1⟩
  ·rcases h7 with h7 | h7
   ·exact h7
   ·have : l = [] := List.eq_nil_of_length_eq_zero (by rw [i1,c];rfl)
    rw [this] at h7;exact absurd h7.2 (by simp)
 ·rw [if_neg hk] at hn
  cases hn
  have hp0 : r.pos = 0 := by
   rcases h7 with h7 | h7
   ·exact h7
   ·exact absurd h7.1 hk
  unfold mayN at hm
  simp only [Bool.and_eq_true,Bool.or_eq_true,Bool.not_eq_true',decide_eq_true_eq,decide_eq_false_iff_not] at hm
  obtain ⟨⟨⟨⟨⟨⟨a1,a2⟩,a3⟩,a4⟩,a5⟩,a6⟩,a7⟩ := hm
  have a4 := a4.resolve_left hk
  rw [if_neg hk] at a7
  refine ⟨by omega,by omega,okQM_of a3 ht,⟨by rw [a4.1];exact lim0 _,by rw [a4.2];simp,(fun p hp => by rw [a4.2] at hp;cases hp),?_,?_,?_,by rw [hp0];exact lim0 _,fun _ => a4,fun _ => hp0,fun c => a5.resolve_left c,fun c d => ?_⟩⟩
  ·by_cases k3 : r.node.kind = 3
   ·rw [if_pos k3] at a7
    simp only [Bool.and_eq_true,decide_eq_true_eq] at a7
    exact a7.1.2
   ·rw [a5.resolve_left k3];simp
  all_goals
   by_cases k4 : r.node.kind = 4 ∨ r.node.kind = 5
   ·by_cases k3 : r.node.kind = 3
    ·omega
    ·rw [if_neg k3,if_pos k4] at a7
     simp only [Bool.and_eq_true,decide_eq_true_eq] at a7
     first | exact ⟨by omega,by omega⟩ | omega
   ·have := a6.resolve_left k4
    unfold noDev at this
    rw [Bool.and_eq_true,decide_eq_true_eq,decide_eq_true_eq] at this
    first | exact this | (rw [this.1];exact lim0 _) | (rw [this.2];exact lim0 _)

end Go.Proofs.YtnmjghcdccfphaaGreatDoor.RecSpec
end
section
set_option linter.unusedSimpArgs false
set_option linter.unusedVariables false
namespace Go.Proofs.YtnmjghcdccfphaaGreatDoor.PageSpec
open AclSpec MetaSpec NodeSpec RecSpec PathSpec

def qKey (b : List UInt8) : Rdr (List UInt8 × Int) := bindR (qText b 100) fun t => bindR (qInt b 10000) fun n => pureR (t,n)
def putK (q : List UInt8 × Int) : List UInt8 := putT q.1 ++ putI q.2
def okK (q : List UInt8 × Int) : Prop := q.1.length ≤ 100 ∧ lim 10000 q.2
theorem qKey_ok (b : List UInt8) : Rok b (qKey b) (fun q w => w = putK q ∧ okK q) :=
 ((qText_ok b 100 (by decide)).bind fun t => (qInt_ok b 10000 (by decide)).bind fun n => Rok.pure ((t,n) : List UInt8 × Int)).imp fun q w => by
  constructor
  ·rintro ⟨t,w1,w2,⟨rfl,h1⟩,⟨n,w3,w4,⟨rfl,h2⟩,⟨rfl,rfl⟩,rfl⟩,rfl⟩
   rw [List.append_nil];exact ⟨rfl,h1,h2⟩
  ·rintro ⟨rfl,h1,h2⟩
   exact ⟨_,_,_,⟨rfl,h1⟩,⟨_,_,_,⟨rfl,h2⟩,⟨rfl,rfl⟩,rfl⟩,by rw [List.append_nil];rfl⟩
def qPage (b : List UInt8) : Rdr Pg := bindR (qByte b) fun k => bindR (qNum b 4) fun n =>
 if k = 1 then bindR (qRep (qRec b) n) fun rs => pureR ⟨true,rs,[],[]⟩ else bindR (qRep (qKey b) n) fun ks => pureR ⟨false,[],ks.map (·.1),ks.map (·.2)⟩
theorem qPage_ok (b : List UInt8) : Rok b (qPage b) (fun p w => ∃ k n : Nat,k < 256 ∧ n ≤ 4 ∧
  ((k = 1 ∧ ∃ rs : List Rec,p = ⟨true,rs,[],[]⟩ ∧ rs.length = n ∧ (∀ r ∈ rs,OkQR r) ∧ w = k.toUInt8 :: (putU n ++ rs.flatMap putRec)) ∨
  (k ≠ 1 ∧ ∃ ks : List (List UInt8 × Int),p = ⟨false,[],ks.map (·.1),ks.map (·.2)⟩ ∧ ks.length = n ∧ (∀ q ∈ ks,okK q) ∧ w = k.toUInt8 :: (putU n ++ ks.flatMap putK)))) :=
 ((qByte_ok b).bind fun k => (qNum_ok b 4 (by decide)).bind fun n =>
  Rok.ite (c := k = 1) (fun _ => ((qRec_ok b).qrep n).bind fun rs => Rok.pure (⟨true,rs,[],[]⟩ : Pg)) (fun _ => ((qKey_ok b).qrep n).bind fun ks => Rok.pure (⟨false,[],ks.map (·.1),ks.map (·.2)⟩ : Pg))).imp fun p w => by
  constructor
  ·rintro ⟨k,w1,w2,⟨hk,rfl⟩,⟨n,w3,w4,⟨rfl,hn⟩,h,rfl⟩,rfl⟩
   refine ⟨k,n,hk,hn,?_⟩
   rcases h with ⟨h1,rs,w5,w6,⟨h2,h3⟩,⟨rfl,rfl⟩,rfl⟩ | ⟨h1,ks,w5,w6,⟨h2,h3⟩,⟨rfl,rfl⟩,rfl⟩
   ·obtain ⟨rfl,h4⟩ := (Encs.flat (p := putRec) (ok := OkQR) (fun _ _ => Iff.rfl)).1 h3
    exact .inl ⟨h1,rs,rfl,h2,h4,by rw [List.append_nil];rfl⟩
   ·obtain ⟨rfl,h4⟩ := (Encs.flat (p := putK) (ok := okK) (fun _ _ => Iff.rfl)).1 h3
    exact .inr ⟨h1,ks,rfl,h2,h4,by rw [List.append_nil];rfl⟩
  ·rintro ⟨k,n,hk,hn,h⟩
   rcases h with ⟨h1,rs,rfl,h2,h4,rfl⟩ | ⟨h1,ks,rfl,h2,h4,rfl⟩
   ·exact ⟨k,_,_,⟨hk,rfl⟩,⟨n,_,_,⟨rfl,hn⟩,.inl ⟨h1,rs,_,_,⟨h2,(Encs.flat (p := putRec) (ok := OkQR) (fun _ _ => Iff.rfl)).2 ⟨rfl,h4⟩⟩,⟨rfl,rfl⟩,rfl⟩,rfl⟩,by rw [List.append_nil];rfl⟩
   ·exact ⟨k,_,_,⟨hk,rfl⟩,⟨n,_,_,⟨rfl,hn⟩,.inr ⟨h1,ks,_,_,⟨h2,(Encs.flat (p := putK) (ok := okK) (fun _ _ => Iff.rfl)).2 ⟨rfl,h4⟩⟩,⟨rfl,rfl⟩,rfl⟩,rfl⟩,by rw [List.append_nil];rfl⟩
def qGetPg (b : List UInt8) : Pg × Int := if (qPage b ⟨0,false⟩).2.bad = true ∨ mayPg (qPage b ⟨0,false⟩).1 = false ∨ putPg (qPage b ⟨0,false⟩).1 ≠ b then (zeroPg,3) else ((qPage b ⟨0,false⟩).1,0)
theorem putKs_zip : ∀ {ks : List (List UInt8)} {ns : List Int},ks.length = ns.length → (ks.zip ns).flatMap putK = putKs ks ns
 | [],[],_ => rfl
 | [],_ :: _,h => by simp at h
 | _ :: _,[],h => by simp at h
 | k :: ks,n :: ns,h => by
  rw [List.zip_cons_cons,List.flatMap_cons,putKs_zip (by simpa using h)]
  rfl
theorem zip_fst {α β : Type} : ∀ {ks : List α} {ns : List β},ks.length = ns.length → (ks.zip ns).map (·.1) = ks ∧ (ks.zip ns).map (·.2) = ns
 | [],[],_ => ⟨rfl,rfl⟩
 | [],_ :: _,h => by simp at h
 | _ :: _,[],h => by simp at h
 | k :: ks,n :: ns,h => by
  obtain ⟨h1,h2⟩ := zip_fst (ks := ks) (ns := ns) (by simpa using h)
  simp only [List.zip_cons_cons,List.map_cons,h1,h2,and_self]
theorem risesK_lim : ∀ {ks : List (List UInt8)} {ns : List Int} {o : Option (List UInt8 × Int)},risesK o ks ns = true → ks.length = ns.length → (∀ k ∈ ks,k.length ≤ 100) ∧ ∀ n ∈ ns,lim 10000 n
 | [],[],_,_,_ => ⟨(fun k hk => by cases hk),(fun k hk => by cases hk)⟩
 | [],_ :: _,_,_,h => by simp at h
 | _ :: _,[],_,_,h => by simp at h
 | k :: ks,n :: ns,o,h,hl => by
  rw [risesK.eq_def] at h
  simp only [Bool.and_eq_true,Bool.not_eq_true',decide_eq_false_iff_not] at h
  obtain ⟨h1,h2⟩ := risesK_lim h.2 (by simpa using hl)
  refine ⟨fun x hx => ?_,fun x hx => ?_⟩
  ·rcases List.mem_cons.1 hx with rfl | hx
   ·exact mayB_len h.1.1.2
   ·exact h1 x hx
  ·rcases List.mem_cons.1 hx with rfl | hx
   ·exact ⟨by omega,by omega⟩
   ·exact h2 x hx
theorem qPage_back {p : Pg} (hm : mayPg p = true) (ht : okTime p) : qPage (putPg p) ⟨0,false⟩ = (p,⟨(putPg p).length,false⟩) := by
 have hb := (qPage_ok (putPg p)).back p (putPg p) 0 [] ?_ (Nat.zero_le _) (by rw [List.drop_zero,List.append_nil])
 ·rw [hb,Nat.zero_add]
 have hm0 := hm
 unfold mayPg at hm
 cases hl : p.leaf
 ·rw [hl,if_neg (by decide)] at hm
  unfold mayInner at hm
  simp only [Bool.and_eq_true,Bool.not_eq_true',decide_eq_true_eq,decide_eq_false_iff_not] at hm
  obtain ⟨⟨⟨⟨h1,h2⟩,h3⟩,h4⟩,h5⟩ := hm
  obtain ⟨g1,g2⟩ := risesK_lim h5 h3
  obtain ⟨z1,z2⟩ := zip_fst h3
  have hr : p.recs = [] := List.eq_nil_of_length_eq_zero (by omega)
  refine ⟨2,p.pages.length,by decide,by omega,.inr ⟨by decide,p.keys.zip p.pages,?_,by rw [List.length_zip,h3,Nat.min_self],fun q hq => ?_,?_⟩⟩
  ·rw [z1,z2,← hr,← hl]
  ·have := List.of_mem_zip hq
   exact ⟨g1 _ this.1,g2 _ this.2⟩
  ·unfold putPg
   rw [hl,if_neg (by decide),putKs_zip h3];rfl
 ·rw [hl,if_pos rfl] at hm
  unfold mayLeaf at hm
  simp only [Bool.and_eq_true,Bool.not_eq_true',decide_eq_false_iff_not] at hm
  obtain ⟨⟨⟨⟨h1,h2⟩,h3⟩,h4⟩,h5⟩ := hm
  have hk : p.keys = [] := List.eq_nil_of_length_eq_zero (by omega)
  have hp : p.pages = [] := List.eq_nil_of_length_eq_zero (by omega)
  refine ⟨1,p.recs.length,by decide,by omega,.inl ⟨rfl,p.recs,?_,rfl,fun r hr => mayRec_okQ (risesR_all h5 r hr) (ht r hr),?_⟩⟩
  ·rw [← hk];conv => rhs;rw [hk]
   cases p;simp_all
  ·unfold putPg
   rw [hl,if_pos rfl];rfl
theorem qPage_get (b : List UInt8) : qGetPg b = getPg b := by
 unfold qGetPg
 by_cases hc : (qPage b ⟨0,false⟩).2.bad = true ∨ mayPg (qPage b ⟨0,false⟩).1 = false ∨ putPg (qPage b ⟨0,false⟩).1 ≠ b
 ·rw [if_pos hc]
  rcases get_code b with h0 | h0
  ·have hp : getPg b = ((getPg b).1,0) := by rw [← h0]
   obtain ⟨h1,h2,h3⟩ := get_inv hp
   have hq := qPage_back h1 h3
   rw [h2] at hq
   rw [hq] at hc
   rcases hc with hc | hc | hc
   ·cases hc
   ·simp only at hc
    rw [h1] at hc;cases hc
   ·exact absurd h2 hc
  ·exact h0.symm
 ·rw [if_neg hc]
  have h1 : (qPage b ⟨0,false⟩).2.bad = false := by
   cases h : (qPage b ⟨0,false⟩).2.bad
   ·rfl
   ·exact absurd (.inl h) hc
  have h2 : mayPg (qPage b ⟨0,false⟩).1 = true := by
   cases h : mayPg (qPage b ⟨0,false⟩).1
   ·exact absurd (.inr (.inl h)) hc
   ·rfl
  have h3 : putPg (qPage b ⟨0,false⟩).1 = b := Classical.byContradiction fun h => hc (.inr (.inr h))
  obtain ⟨w,⟨k,n,_,_,h⟩,_⟩ := (qPage_ok b).inv ⟨0,false⟩ (Nat.zero_le _) h1
  generalize (qPage b ⟨0,false⟩).1 = p at *
  have ht : okTime p := fun r hr => by
   rcases h with ⟨_,rs,rfl,_,ho,_⟩ | ⟨_,ks,rfl,_,_,_⟩
   ·rcases (ho r hr).2.2 with ⟨hz,_⟩ | ⟨_,_,hM,_⟩
    ·rw [hz];decide
    ·have := hM.time.2;omega
   ·cases hr
  have := page_back h2 ht
  rw [h3] at this
  exact this.symm
end Go.Proofs.YtnmjghcdccfphaaGreatDoor.PageSpec
end
