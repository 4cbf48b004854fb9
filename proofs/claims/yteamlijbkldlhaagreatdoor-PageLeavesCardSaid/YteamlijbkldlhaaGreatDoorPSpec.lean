import Derived.Test.YteamlijbkldlhaaGreatDoorRBare
import Derived.Test.YteamlijbkldlhaaGreatDoorKU4
set_option linter.unusedSimpArgs false
set_option linter.unusedVariables false
namespace Go.Proofs.YteamlijbkldlhaaGreatDoor.PageSpec
open AclSpec MetaSpec NodeSpec RecSpec PathSpec

structure Pg where
 leaf : Bool
 recs : List Rec
 keys : List (List UInt8)
 pages : List Int
 deriving DecidableEq,Inhabited
def zeroPg : Pg := ⟨false,[],[],[]⟩
def risesR : Option (List UInt8) → List Rec → Bool
 | _,[] => true
 | o,r :: l => mayRec r && (match o with | none => true | some p => lessB p r.path) && risesR (some r.path) l
def risesK : Option (List UInt8 × Int) → List (List UInt8) → List Int → Bool
 | o,k :: ks,n :: ns => (!decide (n < 0) && !decide (10000 < n) && mayB k) && (match o with | none => true | some q => !decide (n ≤ q.2) && lessB q.1 k) && risesK (some (k,n)) ks ns
 | _,_,_ => true
def mayLeaf (p : Pg) : Bool := !decide (p.recs.length < 1) && !decide (4 < p.recs.length) && !decide (0 < p.keys.length) && !decide (0 < p.pages.length) && risesR none p.recs
def mayInner (p : Pg) : Bool := !decide (p.pages.length < 1) && !decide (4 < p.pages.length) && decide (p.keys.length = p.pages.length) && !decide (0 < p.recs.length) && risesK none p.keys p.pages
def mayPg (p : Pg) : Bool := if p.leaf = true then mayLeaf p else mayInner p
def putKs : List (List UInt8) → List Int → List UInt8
 | k :: ks,n :: ns => putT k ++ putI n ++ putKs ks ns
 | _,_ => []
def putPg (p : Pg) : List UInt8 := if p.leaf = true then 1 :: (putU p.recs.length ++ p.recs.flatMap putRec) else 2 :: (putU p.pages.length ++ putKs p.keys p.pages)
def readRs (b : List UInt8) : Nat → Int → Option (List Rec × Int)
 | 0,i => some ([],i)
 | n + 1,i => if (getRec b i).2.2 = 0 then (readRs b n (getRec b i).2.1).map (fun q => ((getRec b i).1 :: q.1,q.2)) else none
def readKs (b : List UInt8) : Nat → Nat → Option (List (List UInt8) × List Int × Nat)
 | 0,i => some ([],[],i)
 | n + 1,i => if (getTP b i 100).2.2 = 0 ∧ (getP b (getTP b i 100).2.1).2.2 = 0 ∧ (getP b (getTP b i 100).2.1).1 ≤ 10000 then
   (readKs b n (getP b (getTP b i 100).2.1).2.1).map (fun q => ((getTP b i 100).1 :: q.1,((getP b (getTP b i 100).2.1).1 : Int) :: q.2.1,q.2.2)) else none
def parsePg (b : List UInt8) : Option (Pg × Int) :=
 if (b.head? = some 1 ∨ b.head? = some 2) ∧ (getP b 1).2.2 = 0 ∧ 1 ≤ (getP b 1).1 ∧ (getP b 1).1 ≤ 4 then
  if b.head? = some 1 then (readRs b (getP b 1).1 (getP b 1).2.1).map (fun q => (⟨true,q.1,[],[]⟩,q.2))
  else (readKs b (getP b 1).1 (getP b 1).2.1).map (fun q => (⟨false,[],q.1,q.2.1⟩,(q.2.2 : Int)))
 else none
def getPg (b : List UInt8) : Pg × Int := match parsePg b with
 | some q => if q.2 = (b.length : Int) ∧ mayPg q.1 = true ∧ putPg q.1 = b then (q.1,0) else (zeroPg,3)
 | none => (zeroPg,3)
def firstPg (p : Pg) : List UInt8 := if mayPg p = true then (if p.leaf = true then (p.recs.head?.map (·.path)).getD [] else p.keys.head?.getD []) else []

theorem getP_put {b rest : List UInt8} {i n : Nat} (hi : i ≤ b.length) (hn : n < big) (h : b.drop i = putU n ++ rest) : getP b i = (n,i + (putU n).length,0) := by
 unfold getP
 rw [h,getU_put n 0 1 true rest (by decide) (by omega) (fun h => by cases h)]
 simp only [Nat.zero_add,Nat.mul_one]
 rw [rest_len hi h]
theorem getTP_put {b t rest : List UInt8} {i most : Nat} (hi : i ≤ b.length) (ht : t.length ≤ most) (hm : most < big) (h : b.drop i = putT t ++ rest) : getTP b i most = (t,i + (putT t).length,0) := by
 have h2 : b.drop i = putU t.length ++ (t ++ rest) := by rw [h];unfold putT;rw [List.append_assoc]
 unfold getTP
 rw [h2,getU_put t.length 0 1 true (t ++ rest) (by decide) (by omega) (fun h => by cases h)]
 simp only [Nat.zero_add,Nat.mul_one]
 rw [if_neg (by omega),if_neg (by rw [List.length_append];omega),List.take_left,rest_len hi h2]
 unfold putT
 rw [List.length_append,Nat.add_assoc]
theorem risesR_all : ∀ {l : List Rec} {o : Option (List UInt8)},risesR o l = true → ∀ r ∈ l,mayRec r = true
 | [],_,_,r,h => by cases h
 | a :: l,o,h,r,hr => by
  rw [risesR.eq_def] at h
  simp only [Bool.and_eq_true] at h
  rcases List.mem_cons.1 hr with rfl | hr
  ·exact h.1.1
  ·exact risesR_all h.2 r hr
theorem readRs_put {b : List UInt8} : ∀ {l : List Rec} {p : Nat} {tail : List UInt8},(∀ r ∈ l,mayRec r = true ∧ r.node.mt.time < 9223372036854775808) → p ≤ b.length → b.drop p = l.flatMap putRec ++ tail →
  readRs b l.length p = some (l,((p + (l.flatMap putRec).length : Nat) : Int))
 | [],p,tail,_,_,_ => rfl
 | r :: l,p,tail,hm,hp,h => by
  rw [List.flatMap_cons,List.append_assoc] at h
  obtain ⟨m1,m2⟩ := hm r (List.mem_cons_self ..)
  have hg := get_put m1 m2 hp h
  rw [List.length_cons,readRs.eq_def]
  simp only [hg,if_pos]
  rw [readRs_put (fun a ha => hm a (List.mem_cons_of_mem _ ha)) (le_app hp h) (drop_app h)]
  rw [Option.map_some,List.flatMap_cons,List.length_append,Nat.add_assoc]
theorem risesK_all : ∀ {ks : List (List UInt8)} {ns : List Int} {o : Option (List UInt8 × Int)},risesK o ks ns = true → ks.length = ns.length → (∀ k ∈ ks,mayB k = true) ∧ (∀ n ∈ ns,0 ≤ n ∧ n ≤ 10000)
 | [],[],_,_,_ => ⟨(by simp),(by simp)⟩
 | [],_ :: _,_,_,h => by cases h
 | _ :: _,[],_,_,h => by cases h
 | k :: ks,n :: ns,o,h,hl => by
  rw [risesK.eq_def] at h
  simp only [Bool.and_eq_true,Bool.not_eq_true',decide_eq_false_iff_not] at h
  obtain ⟨i1,i2⟩ := risesK_all h.2 (by simpa using hl)
  refine ⟨fun x hx => ?_,fun x hx => ?_⟩
  ·rcases List.mem_cons.1 hx with rfl | hx
   ·exact h.1.1.2
   ·exact i1 x hx
  ·rcases List.mem_cons.1 hx with rfl | hx
   ·have := h.1.1.1;omega
   ·exact i2 x hx
theorem mayB_len {p : List UInt8} (h : mayB p = true) : p.length ≤ 100 := by
 unfold mayB at h
 cases p with
 | nil => simp
 | cons a r => simp only [List.isEmpty_cons,Bool.false_or,Bool.and_eq_true,decide_eq_true_eq] at h;exact h.1
theorem readKs_put {b : List UInt8} : ∀ {ks : List (List UInt8)} {ns : List Int} {p : Nat} {tail : List UInt8},(∀ k ∈ ks,mayB k = true) → (∀ n ∈ ns,0 ≤ n ∧ n ≤ 10000) → ks.length = ns.length → p ≤ b.length → b.drop p = putKs ks ns ++ tail →
  readKs b ns.length p = some (ks,ns,p + (putKs ks ns).length)
 | [],[],p,tail,_,_,_,_,_ => rfl
 | [],_ :: _,_,_,_,_,h,_,_ => by cases h
 | _ :: _,[],_,_,_,_,h,_,_ => by cases h
 | k :: ks,n :: ns,p,tail,hk,hn,hl,hp,h => by
  rw [putKs.eq_def] at h
  simp only [List.append_assoc] at h
  have hk1 := mayB_len (hk k (List.mem_cons_self ..))
  obtain ⟨hn1,hn2⟩ := hn n (List.mem_cons_self ..)
  obtain ⟨m,rfl⟩ : ∃ m : Nat,n = m := ⟨n.toNat,by omega⟩
  have h1 := getTP_put hp hk1 (by decide) h
  have hp1 := le_app hp h
  have h' := drop_app h
  rw [putI_nat (show m < half by unfold half;omega)] at h'
  have h2 := getP_put hp1 (show m < big by unfold big;omega) h'
  have hp2 := le_app hp1 h'
  have h'' := drop_app h'
  rw [List.length_cons,readKs.eq_def]
  simp only [h1,h2]
  rw [if_pos ⟨trivial,trivial,by omega⟩,readKs_put (fun x hx => hk x (List.mem_cons_of_mem _ hx)) (fun x hx => hn x (List.mem_cons_of_mem _ hx)) (by simpa using hl) hp2 h'',Option.map_some]
  rw [putKs.eq_def (_ :: _) (_ :: _)]
  simp only [List.length_append,putI_nat (show m < half by unfold half;omega),Nat.add_assoc]
def okTime (p : Pg) : Prop := ∀ r ∈ p.recs,r.node.mt.time < 9223372036854775808
theorem parse_put {p : Pg} (hm : mayPg p = true) (ht : okTime p) (tail : List UInt8) : parsePg (putPg p ++ tail) = some (p,((putPg p).length : Int)) := by
 obtain ⟨leaf,recs,keys,pages⟩ := p
 cases leaf
 ·unfold mayPg at hm
  rw [if_neg (fun h => by cases h)] at hm
  unfold mayInner at hm
  simp only [Bool.and_eq_true,Bool.not_eq_true',decide_eq_true_eq,decide_eq_false_iff_not] at hm
  obtain ⟨⟨⟨⟨h1,h2⟩,h3⟩,h4⟩,h5⟩ := hm
  obtain ⟨a1,a2⟩ := risesK_all h5 h3
  have hr : recs = [] := List.eq_nil_of_length_eq_zero (by omega)
  subst hr
  have hp : putPg ⟨false,[],keys,pages⟩ = 2 :: (putU pages.length ++ putKs keys pages) := rfl
  rw [hp]
  have hd : ((2 :: (putU pages.length ++ putKs keys pages)) ++ tail).drop 1 = putU pages.length ++ (putKs keys pages ++ tail) := by simp
  have g1 := getP_put (i := 1) (by simp) (show pages.length < big by unfold big;omega) hd
  have g2 := readKs_put (p := 1 + (putU pages.length).length) a1 a2 h3 (le_app (by simp) hd) (drop_app hd)
  unfold parsePg
  rw [g1]
  simp only
  rw [if_pos ⟨.inr rfl,trivial,by omega,by omega⟩,if_neg (by show ¬ (some (2 : UInt8) = some 1);decide),g2]
  simp only [Option.map_some,List.length_cons,List.length_append]
  congr 3
  omega
 ·unfold mayPg at hm
  rw [if_pos rfl] at hm
  unfold mayLeaf at hm
  simp only [Bool.and_eq_true,Bool.not_eq_true',decide_eq_false_iff_not] at hm
  obtain ⟨⟨⟨⟨h1,h2⟩,h3⟩,h4⟩,h5⟩ := hm
  have hk : keys = [] := List.eq_nil_of_length_eq_zero (by omega)
  have hg : pages = [] := List.eq_nil_of_length_eq_zero (by omega)
  subst hk hg
  have hp : putPg ⟨true,recs,[],[]⟩ = 1 :: (putU recs.length ++ recs.flatMap putRec) := rfl
  rw [hp]
  have hd : ((1 :: (putU recs.length ++ recs.flatMap putRec)) ++ tail).drop 1 = putU recs.length ++ (recs.flatMap putRec ++ tail) := by simp
  have g1 := getP_put (i := 1) (by simp) (show recs.length < big by unfold big;omega) hd
  have g2 := readRs_put (p := 1 + (putU recs.length).length) (fun r hr => ⟨risesR_all h5 r hr,ht r hr⟩) (le_app (by simp) hd) (drop_app hd)
  unfold parsePg
  rw [g1]
  simp only
  rw [if_pos ⟨.inl rfl,trivial,by omega,by omega⟩,if_pos (show ((1 : UInt8) :: (putU recs.length ++ List.flatMap putRec recs) ++ tail).head? = some 1 from rfl),g2]
  simp only [Option.map_some,List.length_cons,List.length_append]
  congr 3
  omega
theorem page_back {p : Pg} (hm : mayPg p = true) (ht : okTime p) : getPg (putPg p) = (p,0) := by
 have h := parse_put hm ht []
 rw [List.append_nil] at h
 unfold getPg
 rw [h]
 simp only
 rw [if_pos ⟨trivial,hm,trivial⟩]
end Go.Proofs.YteamlijbkldlhaaGreatDoor.PageSpec
