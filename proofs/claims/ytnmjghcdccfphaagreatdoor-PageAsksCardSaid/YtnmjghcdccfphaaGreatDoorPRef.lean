import Derived.Test.YtnmjghcdccfphaaGreatDoorRBare
import Derived.Test.YtnmjghcdccfphaaGreatDoorKU4
section
set_option linter.unusedSimpArgs false
set_option linter.unusedVariables false
namespace Go.Proofs.YtnmjghcdccfphaaGreatDoor.PageSpec
open AclSpec MetaSpec NodeSpec RecSpec PathSpec

structure Pg where
 leaf : Bool
 recs : List Rec
 keys : List (List UInt8)
 pages : List Int
 deriving DecidableEq,Inhabited
def zeroPg : Pg := ⟨false,[],[],[]⟩
def risesR : Option (List UInt8) → List Rec → Bool
 | _,[] => true
 | o,r :: l => mayRec r && (match o with | none => true | some p => lessB p r.path) && risesR (some r.path) l
def risesK : Option (List UInt8 × Int) → List (List UInt8) → List Int → Bool
 | o,k :: ks,n :: ns => (!decide (n < 0) && !decide (10000 < n) && mayB k) && (match o with | none => true | some q => !decide (n ≤ q.2) && lessB q.1 k) && risesK (some (k,n)) ks ns
 | _,_,_ => true
def mayLeaf (p : Pg) : Bool := !decide (p.recs.length < 1) && !decide (4 < p.recs.length) && !decide (0 < p.keys.length) && !decide (0 < p.pages.length) && risesR none p.recs
def mayInner (p : Pg) : Bool := !decide (p.pages.length < 1) && !decide (4 < p.pages.length) && decide (p.keys.length = p.pages.length) && !decide (0 < p.recs.length) && risesK none p.keys p.pages
def mayPg (p : Pg) : Bool := if p.leaf = true then mayLeaf p else mayInner p
def putKs : List (List UInt8) → List Int → List UInt8
 | k :: ks,n :: ns => putT k ++ putI n ++ putKs ks ns
 | _,_ => []
def putPg (p : Pg) : List UInt8 := if p.leaf = true then 1 :: (putU p.recs.length ++ p.recs.flatMap putRec) else 2 :: (putU p.pages.length ++ putKs p.keys p.pages)
def readRs (b : List UInt8) : Nat → Int → Option (List Rec × Int)
 | 0,i => some ([],i)
 | n + 1,i => if (getRec b i).2.2 = 0 then (readRs b n (getRec b i).2.1).map (fun q => ((getRec b i).1 :: q.1,q.2)) else none
def readKs (b : List UInt8) : Nat → Nat → Option (List (List UInt8) × List Int × Nat)
 | 0,i => some ([],[],i)
 | n + 1,i => if (getTP b i 100).2.2 = 0 ∧ (getP b (getTP b i 100).2.1).2.2 = 0 ∧ (getP b (getTP b i 100).2.1).1 ≤ 10000 then
   (readKs b n (getP b (getTP b i 100).2.1).2.1).map (fun q => ((getTP b i 100).1 :: q.1,((getP b (getTP b i 100).2.1).1 : Int) :: q.2.1,q.2.2)) else none
def parsePg (b : List UInt8) : Option (Pg × Int) :=
 if (b.head? = some 1 ∨ b.head? = some 2) ∧ (getP b 1).2.2 = 0 ∧ 1 ≤ (getP b 1).1 ∧ (getP b 1).1 ≤ 4 then
  if b.head? = some 1 then (readRs b (getP b 1).1 (getP b 1).2.1).map (fun q => (⟨true,q.1,[],[]⟩,q.2))
  else (readKs b (getP b 1).1 (getP b 1).2.1).map (fun q => (⟨false,[],q.1,q.2.1⟩,(q.2.2 : Int)))
 else none
def getPg (b : List UInt8) : Pg × Int := match parsePg b with
 | some q => if q.2 = (b.length : Int) ∧ mayPg q.1 = true ∧ putPg q.1 = b then (q.1,0) else (zeroPg,3)
 | none => (zeroPg,3)
def firstPg (p : Pg) : List UInt8 := if mayPg p = true then (if p.leaf = true then (p.recs.head?.map (·.path)).getD [] else p.keys.head?.getD []) else []

theorem getP_put {b rest : List UInt8} {i n : Nat} (hi : i ≤ b.length) (hn : n < big) (h : b.drop i = putU n ++ rest) : getP b i = (n,i + (putU n).length,0) := by
 unfold getP
 rw [h,getU_put n 0 1 true rest (by decide) (by omega) (fun h => by cases h)]
 simp only [Nat.zero_add,Nat.mul_one]
 rw [rest_len hi h]
theorem getTP_put {b t rest : List UInt8} {i most : Nat} (hi : i ≤ b.length) (ht : t.length ≤ most) (hm : most < big) (h : b.drop i = putT t ++ rest) : getTP b i most = (t,i + (putT t).length,0) := by
 have h2 : b.drop i = putU t.length ++ (t ++ rest) := by rw [h];unfold putT;rw [List.append_assoc]
 unfold getTP
 rw [h2,getU_put t.length 0 1 true (t ++ rest) (by decide) (by omega) (fun h => by cases h)]
 simp only [Nat.zero_add,Nat.mul_one]
 rw [if_neg (by omega),if_neg (by rw [List.length_append];omega),List.take_left,rest_len hi h2]
 unfold putT
 rw [List.length_append,Nat.add_assoc]
theorem risesR_all : ∀ {l : List Rec} {o : Option (List UInt8)},risesR o l = true → ∀ r ∈ l,mayRec r = true
 | [],_,_,r,h => by cases h
 | a :: l,o,h,r,hr => by
  rw [risesR.eq_def] at h
  simp only [Bool.and_eq_true] at h
  rcases List.mem_cons.1 hr with rfl | hr
  ·exact h.1.1
  ·exact risesR_all h.2 r hr
theorem readRs_put {b : List UInt8} : ∀ {l : List Rec} {p : Nat} {tail : List UInt8},(∀ r ∈ l,mayRec r = true ∧ r.node.mt.time < 9223372036854775808) → p ≤ b.length → b.drop p = l.flatMap putRec ++ tail →
  readRs b l.length p = some (l,((p + (l.flatMap putRec).length : Nat) : Int))
 | [],p,tail,_,_,_ => rfl
 | r :: l,p,tail,hm,hp,h => by
  rw [List.flatMap_cons,List.append_assoc] at h
  obtain ⟨m1,m2⟩ := hm r (List.mem_cons_self ..)
  have hg := get_put m1 m2 hp h
  rw [List.length_cons,readRs.eq_def]
  simp only [hg,if_pos]
  rw [readRs_put (fun a ha => hm a (List.mem_cons_of_mem _ ha)) (le_app hp h) (drop_app h)]
  rw [Option.map_some,List.flatMap_cons,List.length_append,Nat.add_assoc]
theorem risesK_all : ∀ {ks : List (List UInt8)} {ns : List Int} {o : Option (List UInt8 × Int)},risesK o ks ns = true → ks.length = ns.length → (∀ k ∈ ks,mayB k = true) ∧ (∀ n ∈ ns,0 ≤ n ∧ n ≤ 10000)
 | [],[],_,_,_ => ⟨(by simp),(by simp)⟩
 | [],_ :: _,_,_,h => by cases h
 | _ :: _,[],_,_,h => by cases h
 | k :: ks,n :: ns,o,h,hl => by
  rw [risesK.eq_def] at h
  simp only [Bool.and_eq_true,Bool.not_eq_true',decide_eq_false_iff_not] at h
  obtain ⟨i1,i2⟩ := risesK_all h.2 (by simpa using hl)
  refine ⟨fun x hx => ?_,fun x hx => ?_⟩
  ·rcases List.mem_cons.1 hx with rfl | hx
   ·exact h.1.1.2
   ·exact i1 x hx
  ·rcases List.mem_cons.1 hx with rfl | hx
   ·have := h.1.1.1;omega
   ·exact i2 x hx
theorem mayB_len {p : List UInt8} (h : mayB p = true) : p.length ≤ 100 := by
 unfold mayB at h
 cases p with
 | nil => simp
 | cons a r => simp only [List.isEmpty_cons,Bool.false_or,Bool.and_eq_true,decide_eq_true_eq] at h;exact h.1
theorem readKs_put {b : List UInt8} : ∀ {ks : List (List UInt8)} {ns : List Int} {p : Nat} {tail : List UInt8},(∀ k ∈ ks,mayB k = true) → (∀ n ∈ ns,0 ≤ n ∧ n ≤ 10000) → ks.length = ns.length → p ≤ b.length → b.drop p = putKs ks ns ++ tail →
  readKs b ns.length p = some (ks,ns,p + (putKs ks ns).length)
 | [],[],p,tail,_,_,_,_,_ => rfl
 | [],_ :: _,_,_,_,_,h,_,_ => by cases h
 | _ :: _,[],_,_,_,_,h,_,_ => by cases h
 | k :: ks,n :: ns,p,tail,hk,hn,hl,hp,h => by
  rw [putKs.eq_def] at h
  simp only [List.append_assoc] at h
  have hk1 := mayB_len (hk k (List.mem_cons_self ..))
  obtain ⟨hn1,hn2⟩ := hn n (List.mem_cons_self ..)
  obtain ⟨m,rfl⟩ : ∃ m : Nat,n = m := ⟨n.toNat,by omega⟩
  have h1 := getTP_put hp hk1 (by decide) h
  have hp1 := le_app hp h
  have h' := drop_app h
  rw [putI_nat (show m < half by unfold half;omega)] at h'
  have h2 := getP_put hp1 (show m < big by unfold big;omega) h'
  have hp2 := le_app hp1 h'
  have h'' := drop_app h'
  rw [List.length_cons,readKs.eq_def]
  simp only [h1,h2]
  rw [if_pos ⟨trivial,trivial,by omega⟩,readKs_put (fun x hx => hk x (List.mem_cons_of_mem _ hx)) (fun x hx => hn x (List.mem_cons_of_mem _ hx)) (by simpa using hl) hp2 h'',Option.map_some]
  rw [putKs.eq_def (_ :: _) (_ :: _)]
  simp only [List.length_append,putI_nat (show m < half by unfold half;omega),Nat.add_assoc]
def okTime (p : Pg) : Prop := ∀ r ∈ p.recs,r.node.mt.time < 9223372036854775808
theorem parse_put {p : Pg} (hm : mayPg p = true) (ht : okTime p) (tail : List UInt8) : parsePg (putPg p ++ tail) = some (p,((putPg p).length : Int)) := by
 obtain ⟨leaf,recs,keys,pages⟩ := p
 cases leaf
 ·unfold mayPg at hm
  rw [if_neg (fun h => by cases h)] at hm
  unfold mayInner at hm
  simp only [Bool.and_eq_true,Bool.not_eq_true',decide_eq_true_eq,decide_eq_false_iff_not] at hm
  obtain ⟨⟨⟨⟨h1,h2⟩,h3⟩,h4⟩,h5⟩ := hm
  obtain ⟨a1,a2⟩ := risesK_all h5 h3
  have hr : recs = [] := List.eq_nil_of_length_eq_zero (by omega)
  subst hr
  have hp : putPg ⟨false,[],keys,pages⟩ = 2 :: (putU pages.length ++ putKs keys pages) := rfl
  rw [hp]
  have hd : ((2 :: (putU pages.length ++ putKs keys pages)) ++ tail).drop 1 = putU pages.length ++ (putKs keys pages ++ tail) := by simp
  have g1 := getP_put (i := 1) (by simp) (show pages.length < big by unfold big;omega) hd
  have g2 := readKs_put (p := 1 + (putU pages.length).length) a1 a2 h3 (le_app (by simp) hd) (drop_app hd)
  unfold parsePg
  rw [g1]
  simp only
  rw [if_pos ⟨.inr rfl,trivial,by omega,by omega⟩,if_neg (by show ¬ (some (2 : UInt8) = some 1);decide),g2]
  simp only [Option.map_some,List.length_cons,List.length_append]
  congr 3
  omega
 ·unfold mayPg at hm
  rw [if_pos rfl] at hm
  unfold mayLeaf at hm
  simp only [Bool.and_eq_true,Bool.not_eq_true',decide_eq_false_iff_not] at hm
  obtain ⟨⟨⟨⟨h1,h2⟩,h3⟩,h4⟩,h5⟩ := hm
  have hk : keys = [] := List.eq_nil_of_length_eq_zero (by omega)
  have hg : pages = [] := List.eq_nil_of_length_eq_zero (by omega)
  subst hk hg
  have hp : putPg ⟨true,recs,[],[]⟩ = 1 :: (putU recs.length ++ recs.flatMap putRec) := rfl
  rw [hp]
  have hd : ((1 :: (putU recs.length ++ recs.flatMap putRec)) ++ tail).drop 1 = putU recs.length ++ (recs.flatMap putRec ++ tail) := by simp
  have g1 := getP_put (i := 1) (by simp) (show recs.length < big by unfold big;omega) hd
  have g2 := readRs_put (p := 1 + (putU recs.length).length) (fun r hr => ⟨risesR_all h5 r hr,ht r hr⟩) (le_app (by simp) hd) (drop_app hd)
  unfold parsePg
  rw [g1]
  simp only
  rw [if_pos ⟨.inl rfl,trivial,by omega,by omega⟩,if_pos (show ((1 : UInt8) :: (putU recs.length ++ List.flatMap putRec recs) ++ tail).head? = some 1 from rfl),g2]
  simp only [Option.map_some,List.length_cons,List.length_append]
  congr 3
  omega
theorem readRs_time {b : List UInt8} : ∀ {n : Nat} {i : Int} {q : List Rec × Int},readRs b n i = some q → ∀ r ∈ q.1,r.node.mt.time < 9223372036854775808
 | 0,i,q,h,r,hr => by cases h;cases hr
 | n + 1,i,q,h,r,hr => by
  rw [readRs.eq_def] at h
  simp only at h
  split at h
  ·rename_i h0
   obtain ⟨q',hq,rfl⟩ := Option.map_eq_some_iff.1 h
   rcases List.mem_cons.1 hr with rfl | hr
   ·obtain ⟨u,v,c,hg⟩ : ∃ u v c,getRec b i = (u,v,c) := ⟨_,_,_,rfl⟩
    rw [hg] at h0
    have h0 : c = 0 := h0
    subst h0
    obtain ⟨_,_,_,_,_,_,_,_,ht⟩ := put_get hg
    rw [hg];exact ht
   ·exact readRs_time hq r hr
  ·cases h
theorem get_inv {b : List UInt8} {p : Pg} (h : getPg b = (p,0)) : mayPg p = true ∧ putPg p = b ∧ okTime p := by
 unfold getPg at h
 split at h
 ·rename_i q hq
  split at h
  ·rename_i hc
   have hp : q.1 = p := congrArg (fun x => x.1) h
   subst hp
   refine ⟨hc.2.1,hc.2.2,?_⟩
   unfold parsePg at hq
   split at hq
   ·split at hq
    ·obtain ⟨x,hx,rfl⟩ := Option.map_eq_some_iff.1 hq
     exact fun r hr => readRs_time hx r hr
    ·obtain ⟨x,hx,rfl⟩ := Option.map_eq_some_iff.1 hq
     exact fun r hr => by cases hr
   ·cases hq
  ·exact absurd (congrArg (fun x => x.2) h) (by show ¬ (3 : Int) = 0;decide)
 ·exact absurd (congrArg (fun x => x.2) h) (by show ¬ (3 : Int) = 0;decide)
theorem get_code (b : List UInt8) : (getPg b).2 = 0 ∨ getPg b = (zeroPg,3) := by
 unfold getPg
 split
 ·split
  ·exact .inl rfl
  ·exact .inr rfl
 ·exact .inr rfl
theorem page_back {p : Pg} (hm : mayPg p = true) (ht : okTime p) : getPg (putPg p) = (p,0) := by
 have h := parse_put hm ht []
 rw [List.append_nil] at h
 unfold getPg
 rw [h]
 simp only
 rw [if_pos ⟨trivial,hm,trivial⟩]
end Go.Proofs.YtnmjghcdccfphaaGreatDoor.PageSpec
end
section
set_option linter.unusedSimpArgs false
set_option linter.unusedVariables false
namespace Go.Proofs.YtnmjghcdccfphaaGreatDoor.PageSpec
open AclSpec MetaSpec NodeSpec RecSpec PathSpec

theorem numD_bad {c : UInt8} (h : digB c = false) (l r : List UInt8) (a : Nat) : numD (l ++ c :: r) a = none := by
 rw [numD_app]
 cases numD l a with
 | none => rfl
 | some b =>
  show numD (c :: r) b = none
  rw [numD,h];rfl
theorem split_at {s : List UInt8} {i : Nat} {c : UInt8} (hc : s[i]? = some c) : s = s.take i ++ c :: s.drop (i + 1) := by
 obtain ⟨hi,rfl⟩ := List.getElem?_eq_some_iff.1 hc
 rw [← List.drop_eq_getElem_cons hi,List.take_append_drop]
theorem lenS_bad {s : List UInt8} {i : Nat} {c : UInt8} (hc : s[i]? = some c) (h : digB c = false) : lenS s = 0 := by
 have e : numD s 0 = none := by rw [split_at hc];exact numD_bad h _ _ _
 unfold lenS
 rw [e]
 split <;> rfl
theorem lenS_head {s : List UInt8} (h : s.head? = some 48) : lenS s = 0 := by unfold lenS;rw [if_pos (.inr h)]
theorem lenS_long {s : List UInt8} (h : 4 < s.length) : lenS s = 0 := by unfold lenS;rw [if_pos (.inl h)]
theorem numD_take {s : List UInt8} {i n : Nat} {c : UInt8} (hc : s[i]? = some c) (h : numD (s.take i) 0 = some n) (hd : digB c = true) : numD (s.take (i + 1)) 0 = some (10 * n + (c.toNat - 48)) := by
 obtain ⟨hi,rfl⟩ := List.getElem?_eq_some_iff.1 hc
 rw [List.take_succ_eq_append_getElem hi,numD_app,h]
 show numD [s[i]] n = _
 rw [numD,hd,if_pos rfl,numD]
def fullZ : List Piece → Option (List Piece)
 | [] => some []
 | p :: r => if lenS p.dat = 0 then none else (fullZ r).map (⟨p.pos,List.replicate (lenS p.dat) 0⟩ :: ·)
def fullR (n : FNode) : FNode × Bool := match fullZ n.dat with
 | none => (zeroN,false)
 | some l => ({ n with dat := l },mayN { n with dat := l })
def mayRecR (r : Rec) : Bool := mayB r.path && !decide (r.lead < 0) && !decide (100 ≤ r.lead) && !decide (r.pos < 0) && !decide (400000 < r.pos) &&
 (if r.node = zeroN then decide (r.pos = 0) else (fullR r.node).2 && (decide (r.pos = 0) || !r.node.dat.isEmpty))
theorem fullZ_P : ∀ l : List Piece,(fullP l = none ∧ fullZ l = none) ∨ ∃ m k,fullP l = some m ∧ fullZ l = some k ∧ shapeP m = shapeP k ∧ k.length = l.length
 | [] => .inr ⟨[],[],rfl,rfl,rfl,rfl⟩
 | p :: l => by
  rw [fullP,fullZ]
  split
  ·exact .inl ⟨rfl,rfl⟩
  ·rcases fullZ_P l with ⟨h1,h2⟩ | ⟨m,k,h1,h2,h3,h4⟩
   ·rw [h1,h2];exact .inl ⟨rfl,rfl⟩
   ·rw [h1,h2]
    refine .inr ⟨_,_,rfl,rfl,?_,by simp [h4]⟩
    unfold shapeP at h3 ⊢
    rw [List.map_cons,List.map_cons,h3]
    simp
theorem fullZ_small : ∀ {l k : List Piece},fullZ l = some k → k.length = l.length ∧ ∀ p ∈ k,p.dat.length ≤ 4000
 | [],k,h => by cases h;exact ⟨rfl,fun p hp => by cases hp⟩
 | p :: l,k,h => by
  rw [fullZ] at h
  split at h
  ·cases h
  ·obtain ⟨k',hk,rfl⟩ := Option.map_eq_some_iff.1 h
   obtain ⟨i1,i2⟩ := fullZ_small hk
   refine ⟨by simp [i1],fun q hq => ?_⟩
   rcases List.mem_cons.1 hq with rfl | hq
   ·show (List.replicate (lenS p.dat) (0 : UInt8)).length ≤ 4000
    rw [List.length_replicate]
    unfold lenS
    split
    ·omega
    ·split
     ·split <;> omega
     ·omega
   ·exact i2 q hq
theorem may_other {n : FNode} (h2 : ¬ n.kind = 2) (hd : n.dat ≠ []) : mayN n = false := by
 unfold mayN
 rw [decide_eq_false h2,decide_eq_false hd]
 simp
theorem may_many {n : FNode} (h2 : n.kind = 2) (hd : 16 < n.dat.length) : mayN n = false := by
 unfold mayN
 rw [if_pos h2]
 unfold mayFileN
 rw [decide_eq_true hd]
 simp
theorem mayRecR_eq (r : Rec) : mayRecR r = mayRec r := by
 unfold mayRecR mayRec
 congr 1
 split
 ·rfl
 obtain ⟨path,lead,n,pos⟩ := r
 simp only
 unfold fullR fullN
 rcases fullZ_P n.dat with ⟨h1,h2⟩ | ⟨m,k,h1,h2,h3,h4⟩
 ·rw [h1,h2]
  by_cases hk : n.kind = 2
  ·rw [if_pos hk]
   by_cases h16 : 16 < n.dat.length
   ·rw [if_pos h16];rfl
   ·rw [if_neg h16];rfl
  ·rw [if_neg hk]
   have hd : n.dat ≠ [] := by rintro c;rw [c] at h1;cases h1
   simp only
   unfold mayNR
   rw [may_other hk hd];rfl
 ·rw [h1,h2]
  simp only
  have hs := may_shape (n := { n with dat := m }) (l := k) h3.symm
  simp only at hs
  by_cases hk : n.kind = 2
  ·rw [if_pos hk]
   by_cases h16 : 16 < n.dat.length
   ·rw [if_pos h16,may_many (n := { n with dat := k }) hk (by show 16 < k.length;omega)];rfl
   ·rw [if_neg h16]
    simp only [Option.map_some]
    unfold mayNR
    have hml := shape_len h3
    have he : m.isEmpty = n.dat.isEmpty := by
     rw [Bool.eq_iff_iff,List.isEmpty_iff,List.isEmpty_iff]
     constructor <;> intro c
     ·exact List.eq_nil_of_length_eq_zero (by rw [c] at hml;simp at hml;omega)
     ·exact List.eq_nil_of_length_eq_zero (by rw [c] at h4;simp at h4;rw [hml,h4];rfl)
    show (mayN _ && _) = (mayN _ && (decide (pos = 0) || (decide (n.kind = 2) && !m.isEmpty)))
    rw [hs,he,decide_eq_true hk,Bool.true_and]
  ·rw [if_neg hk]
   simp only
   unfold mayNR
   rw [decide_eq_false hk]
   by_cases hd : n.dat = []
   ·rw [hd] at h2 h4
    have hk0 : k = [] := List.eq_nil_of_length_eq_zero (by simpa using h4)
    subst hk0
    have : ({ n with dat := [] } : FNode) = n := by rw [← hd]
    rw [this,hd];rfl
   ·rw [may_other (n := { n with dat := k }) hk (by intro c;have c : k = [] := c;rw [c] at h4;exact hd (List.eq_nil_of_length_eq_zero (by simpa using h4.symm))),may_other hk hd]
    rfl
theorem mayPg_leaf {p : Pg} (h : p.leaf = true) : mayPg p = (risesR none p.recs && (decide (1 ≤ p.recs.length) && (decide (p.recs.length ≤ 4) && (decide (p.keys.length = 0) && decide (p.pages.length = 0))))) := by
 unfold mayPg mayLeaf
 rw [if_pos h,Bool.eq_iff_iff]
 simp only [Bool.and_eq_true,Bool.not_eq_true',decide_eq_true_eq,decide_eq_false_iff_not]
 constructor
 ·rintro ⟨⟨⟨⟨a,b⟩,c⟩,d⟩,e⟩;exact ⟨e,by omega,by omega,by omega,by omega⟩
 ·rintro ⟨e,a,b,c,d⟩;exact ⟨⟨⟨⟨by omega,by omega⟩,by omega⟩,by omega⟩,e⟩
end Go.Proofs.YtnmjghcdccfphaaGreatDoor.PageSpec
end
