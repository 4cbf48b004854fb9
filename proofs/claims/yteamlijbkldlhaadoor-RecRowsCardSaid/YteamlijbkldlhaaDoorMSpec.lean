import GoSem.Core.Value
import Derived.WalkKit
import Derived.Test.YteamlijbkldlhaaDoorANSpec
section
set_option linter.unusedSimpArgs false
set_option linter.unusedVariables false
namespace Go.Proofs.YteamlijbkldlhaaDoor.GSort

structure LO {β : Type} (lt : β → β → Bool) : Prop where
  irr : ∀ x,lt x x = false
  tri : ∀ x y,lt x y = true ∨ x = y ∨ lt y x = true
  trans : ∀ x y z,lt x y = true → lt y z = true → lt x z = true
section
variable {α β : Type} {key : α → β} {lt : β → β → Bool}
variable [DecidableEq β]
end
section
variable {α β : Type} {key : α → β} {lt : β → β → Bool}
def chkG (key : α → β) (lt : β → β → Bool) (good : α → Bool) : Option α → List α → Bool
  | _,[] => true
  | none,a :: r => good a && chkG key lt good (some a) r
  | some b,a :: r => good a && lt (key b) (key a) && chkG key lt good (some a) r
def prevG (l : List α) (i : Nat) : Option α := if i = 0 then none else l[i - 1]?
def chkGAt (key : α → β) (lt : β → β → Bool) (good : α → Bool) (l : List α) (i : Nat) : Bool := chkG key lt good (prevG l i) (l.drop i)
theorem chkGAt_bad {good : α → Bool} {l : List α} {i : Nat} {a : α} (h : l[i]? = some a) (hg : good a = false) : chkGAt key lt good l i = false := by
  obtain ⟨hi,rfl⟩ := List.getElem?_eq_some_iff.1 h
  unfold chkGAt
  rw [List.drop_eq_getElem_cons hi]
  cases prevG l i <;> simp [chkG,hg]
theorem chkGAt_first {good : α → Bool} {l : List α} {a : α} (h : l[0]? = some a) (hg : good a = true) : chkGAt key lt good l 0 = chkGAt key lt good l 1 := by
  obtain ⟨hi,rfl⟩ := List.getElem?_eq_some_iff.1 h
  unfold chkGAt
  rw [List.drop_eq_getElem_cons hi]
  simp [prevG,chkG,hg,hi]
theorem chkGAt_at {good : α → Bool} {l : List α} {i : Nat} {a b : α} (h0 : 1 ≤ i) (h : l[i]? = some a) (hb : l[i - 1]? = some b) (hg : good a = true) : chkGAt key lt good l i = (lt (key b) (key a) && chkGAt key lt good l (i + 1)) := by
  obtain ⟨hi,rfl⟩ := List.getElem?_eq_some_iff.1 h
  unfold chkGAt
  rw [List.drop_eq_getElem_cons hi]
  have e1 : prevG l i = some b := by unfold prevG;rw [if_neg (by omega),hb]
  have e2 : prevG l (i + 1) = some l[i] := by simp [prevG,hi]
  rw [e1,e2]
  simp [chkG,hg]
theorem chkGAt_end {good : α → Bool} {l : List α} {i : Nat} (h : l.length ≤ i) : chkGAt key lt good l i = true := by
  unfold chkGAt;rw [List.drop_of_length_le h];cases prevG l i <;> rfl
end

end Go.Proofs.YteamlijbkldlhaaDoor.GSort
end
section
set_option linter.unusedSimpArgs false
set_option linter.unusedVariables false
namespace Go.Proofs.YteamlijbkldlhaaDoor.MetaSpec
open GSort AclSpec

structure Attr where
  name : List UInt8
  value : List UInt8
  deriving DecidableEq,Inhabited
structure FMeta where
  mode : Int
  uid : Int
  gid : Int
  time : Int
  attrs : List Attr
  acl : List Ace
  deriving DecidableEq,Inhabited
def goodT (a : Attr) : Bool := decide (1 ≤ a.name.length) && decide (a.name.length ≤ 20) && decide (a.value.length ≤ 200)
def chkT (l : List Attr) (i : Nat) : Bool := chkGAt Attr.name Op.bytesLess goodT l i
def idB (n : Int) : Bool := decide (0 ≤ n) && decide (n ≤ 2147483647)
def mayM (m : FMeta) : Bool := decide (0 ≤ m.mode) && decide (m.mode ≤ 4095) && idB m.uid && idB m.gid && decide (0 ≤ m.time) && decide (m.attrs.length ≤ 8) && chkT m.attrs 0 && mayA m.acl
def diffM (a b : FMeta) : List UInt8 :=
  if ¬ a.mode = b.mode then [109,111,100,101]
  else if ¬ a.uid = b.uid then [117,105,100]
  else if ¬ a.gid = b.gid then [103,105,100]
  else if ¬ a.time = b.time then [116,105,109,101]
  else if ¬ a.attrs = b.attrs then [97,116,116,114,115]
  else if ¬ a.acl = b.acl then [97,99,108]
  else []
theorem diffM_nil {a b : FMeta} : diffM a b = [] ↔ a = b := by
  unfold diffM
  constructor
  · intro h
    repeat' split at h
    all_goals first | (cases h;done) | (cases a;cases b;simp_all;done)
  · rintro rfl;simp
def fewM (m : FMeta) : Bool := m.attrs.all (fun a => decide (a.name.length ≤ 250) && decide (a.value.length ≤ 250)) && decide (m.attrs.length ≤ 12) && decide (m.acl.length ≤ 20)
end Go.Proofs.YteamlijbkldlhaaDoor.MetaSpec
end
