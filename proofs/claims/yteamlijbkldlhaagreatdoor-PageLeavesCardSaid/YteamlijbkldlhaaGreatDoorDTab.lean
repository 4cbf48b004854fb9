import Derived.Test.YteamlijbkldlhaaGreatDoorPSpec
import Derived.Test.YteamlijbkldlhaaGreatDoorISpec
section
set_option linter.unusedSimpArgs false
set_option linter.unusedVariables false
namespace Go.Proofs.YteamlijbkldlhaaGreatDoor.DbSpec
open AclSpec MetaSpec NodeSpec RecSpec PathSpec PageSpec

def mayRecs (l : List Rec) : Bool := !decide (l.length < 1) && !decide (100 < l.length) && risesR none l
def highF (ps : List Pg) : Nat → Nat → Nat
 | 0,_ => 0
 | f + 1,i => if (ps.getD i zeroPg).leaf = true then 1 else highF ps f ((ps.getD i zeroPg).pages.getD 0 0).toNat + 1
structure TableP (ps : List Pg) : Prop where
 keys : ∀ p ∈ ps,p.leaf = false → p.keys.length = p.pages.length ∧ 1 ≤ p.pages.length
 down : ∀ i,(h : i < ps.length) → ps[i].leaf = false → ∀ n ∈ ps[i].pages,0 ≤ n ∧ n < (i : Int)
end Go.Proofs.YteamlijbkldlhaaGreatDoor.DbSpec
end
section
set_option linter.unusedSimpArgs false
set_option linter.unusedVariables false
namespace Go.Proofs.YteamlijbkldlhaaGreatDoor.DbSpec
open AclSpec MetaSpec NodeSpec RecSpec PathSpec PageSpec TreeSpec

theorem risesR_some : ∀ {l : List Rec} {p : List UInt8},risesR (some p) l = true → ∀ r ∈ l,lessB p r.path = true
 | [],_,_,r,h => by cases h
 | a :: l,p,h,r,hr => by
  rw [risesR.eq_def] at h
  simp only [Bool.and_eq_true] at h
  rcases List.mem_cons.1 hr with rfl | hr
  ·exact h.1.2
  ·exact less_trans h.1.2 (risesR_some h.2 r hr)
theorem risesR_pair : ∀ {l : List Rec} {o : Option (List UInt8)},risesR o l = true → l.Pairwise fun a b => lessB a.path b.path = true
 | [],_,_ => .nil
 | a :: l,o,h => by
  rw [risesR.eq_def] at h
  simp only [Bool.and_eq_true] at h
  exact .cons (fun b hb => risesR_some h.2 b hb) (risesR_pair h.2)
theorem rises_of : ∀ {l : List Rec},(∀ r ∈ l,mayRec r = true) → l.Pairwise (fun a b => lessB a.path b.path = true) → ∀ {o : Option (List UInt8)},(∀ p,o = some p → ∀ r ∈ l,lessB p r.path = true) → risesR o l = true
 | [],_,_,o,_ => by cases o <;> rfl
 | a :: l,hm,hp,o,ho => by
  rw [risesR.eq_def]
  rw [List.pairwise_cons] at hp
  have h1 := hm a (List.mem_cons_self ..)
  have h2 := rises_of (o := some a.path) (fun r hr => hm r (List.mem_cons_of_mem _ hr)) hp.2 (fun p he r hr => by cases he;exact hp.1 r hr)
  simp only [h1,h2,Bool.true_and,Bool.and_true]
  cases o with
  | none => rfl
  | some p => exact ho p rfl a (List.mem_cons_self ..)
theorem mayRecs_ok {l : List Rec} (h : mayRecs l = true) : 1 ≤ l.length ∧ l.length ≤ 100 ∧ (∀ r ∈ l,mayRec r = true) ∧ l.Pairwise (fun a b => lessB a.path b.path = true) := by
 unfold mayRecs at h
 simp only [Bool.and_eq_true,Bool.not_eq_true',decide_eq_false_iff_not] at h
 exact ⟨by omega,by omega,risesR_all h.2,risesR_pair h.2⟩
def firstAt (p : List Pg) (i : Nat) : List UInt8 := firstPg (p.getD i zeroPg)
structure Inv (p : List Pg) (a h : Nat) : Prop where
 le : a < p.length
 len : p.length + 2 * (p.length - a) ≤ 200
 may : ∀ x ∈ p,mayPg x = true
 down : ∀ i,(h : i < p.length) → p[i].leaf = false → ∀ n ∈ p[i].pages,0 ≤ n ∧ n < (i : Int)
 rise : ∀ i j,a ≤ i → i < j → j < p.length → lessB (firstAt p i) (firstAt p j) = true
 path : ∀ i,a ≤ i → i < p.length → mayB (firstAt p i) = true
 high : ∀ i,a ≤ i → i < p.length → ∀ f,i < f → highF p f i = h
theorem pair_take {l : List Rec} (h : l.Pairwise fun a b => lessB a.path b.path = true) (a b : Nat) : ((l.drop a).take b).Pairwise fun a b => lessB a.path b.path = true :=
 (h.sublist (List.drop_sublist _ _)).sublist (List.take_sublist _ _)
end Go.Proofs.YteamlijbkldlhaaGreatDoor.DbSpec
end
