import Derived.Test.YteamlijbkldlhaaGreatRBare
import Derived.Test.YteamlijbkldlhaaGreatKU4
section
set_option linter.unusedSimpArgs false
set_option linter.unusedVariables false
namespace Go.Proofs.YteamlijbkldlhaaGreat.PageSpec
open AclSpec MetaSpec NodeSpec RecSpec PathSpec

structure Pg where
  leaf : Bool
  recs : List Rec
  keys : List (List UInt8)
  pages : List Int
  deriving DecidableEq,Inhabited
def zeroPg : Pg := ⟨false,[],[],[]⟩
def risesR : Option (List UInt8) → List Rec → Bool
  | _,[] => true
  | o,r :: l => mayRec r && (match o with | none => true | some p => lessB p r.path) && risesR (some r.path) l
def risesK : Option (List UInt8 × Int) → List (List UInt8) → List Int → Bool
  | o,k :: ks,n :: ns => (!decide (n < 0) && !decide (10000 < n) && mayB k) && (match o with | none => true | some q => !decide (n ≤ q.2) && lessB q.1 k) && risesK (some (k,n)) ks ns
  | _,_,_ => true
def mayLeaf (p : Pg) : Bool := !decide (p.recs.length < 1) && !decide (4 < p.recs.length) && !decide (0 < p.keys.length) && !decide (0 < p.pages.length) && risesR none p.recs
def mayInner (p : Pg) : Bool := !decide (p.pages.length < 1) && !decide (4 < p.pages.length) && decide (p.keys.length = p.pages.length) && !decide (0 < p.recs.length) && risesK none p.keys p.pages
def mayPg (p : Pg) : Bool := if p.leaf = true then mayLeaf p else mayInner p
def firstPg (p : Pg) : List UInt8 := if mayPg p = true then (if p.leaf = true then (p.recs.head?.map (·.path)).getD [] else p.keys.head?.getD []) else []

theorem risesR_all : ∀ {l : List Rec} {o : Option (List UInt8)},risesR o l = true → ∀ r ∈ l,mayRec r = true
  | [],_,_,r,h => by cases h
  | a :: l,o,h,r,hr => by
    rw [risesR.eq_def] at h
    simp only [Bool.and_eq_true] at h
    rcases List.mem_cons.1 hr with rfl | hr
    · exact h.1.1
    · exact risesR_all h.2 r hr
end Go.Proofs.YteamlijbkldlhaaGreat.PageSpec
end
section
set_option linter.unusedSimpArgs false
set_option linter.unusedVariables false
namespace Go.Proofs.YteamlijbkldlhaaGreat.PageSpec
open AclSpec MetaSpec NodeSpec RecSpec PathSpec

end Go.Proofs.YteamlijbkldlhaaGreat.PageSpec
end
