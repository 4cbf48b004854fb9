import GoSem.Core.Value
import Derived.WalkKit
section
set_option linter.unusedSimpArgs false
set_option linter.unusedVariables false
namespace Go.Proofs.YtbffcndmcaeamaaDoor.AclSpec

structure Ace where
  kind : Int
  id : Int
  perm : Int
  deriving DecidableEq,Inhabited

def goodB (a : Ace) : Bool :=
  decide (1 ≤ a.kind) && decide (a.kind ≤ 3) && decide (0 ≤ a.perm) && decide (a.perm ≤ 7) && decide (0 ≤ a.id) && decide (a.id ≤ 2147483647) && (!(a.kind == 3) || a.id == 0)
def cmpI (x y : Int) : Int := if x < y then -1 else if y < x then 1 else 0
def orI (x y : Int) : Int := if x = 0 then y else x
def cmpA (a b : Ace) : Int := orI (cmpI a.kind b.kind) (cmpI a.id b.id)

def maskB : List Ace → Int × Bool
  | [] => (0,false)
  | a :: r => if a.kind = 3 then (a.perm,true) else maskB r
theorem maskB_hit {l : List Ace} {i : Nat} {a : Ace} (h : l[i]? = some a) (hk : a.kind = 3) : maskB (l.drop i) = (a.perm,true) := by
  obtain ⟨hi,rfl⟩ := List.getElem?_eq_some_iff.1 h
  rw [List.drop_eq_getElem_cons hi,maskB,if_pos hk]
theorem maskB_miss {l : List Ace} {i : Nat} {a : Ace} (h : l[i]? = some a) (hk : ¬ a.kind = 3) : maskB (l.drop i) = maskB (l.drop (i + 1)) := by
  obtain ⟨hi,rfl⟩ := List.getElem?_eq_some_iff.1 h
  rw [List.drop_eq_getElem_cons hi,maskB,if_neg hk]
theorem maskB_end {l : List Ace} {i : Nat} (h : l.length ≤ i) : maskB (l.drop i) = (0,false) := by rw [List.drop_of_length_le h];rfl

def chk : Option Ace → List Ace → Bool
  | _,[] => true
  | none,a :: r => goodB a && chk (some a) r
  | some b,a :: r => goodB a && decide (cmpA b a < 0) && chk (some a) r
def prev (l : List Ace) (i : Nat) : Option Ace := if i = 0 then none else l[i - 1]?
def chkAt (l : List Ace) (i : Nat) : Bool := chk (prev l i) (l.drop i)
theorem chkAt_bad {l : List Ace} {i : Nat} {a : Ace} (h : l[i]? = some a) (hg : goodB a = false) : chkAt l i = false := by
  obtain ⟨hi,rfl⟩ := List.getElem?_eq_some_iff.1 h
  unfold chkAt
  rw [List.drop_eq_getElem_cons hi]
  cases prev l i <;> simp [chk,hg]
theorem chkAt_first {l : List Ace} {a : Ace} (h : l[0]? = some a) (hg : goodB a = true) : chkAt l 0 = chkAt l 1 := by
  obtain ⟨hi,rfl⟩ := List.getElem?_eq_some_iff.1 h
  unfold chkAt
  rw [List.drop_eq_getElem_cons hi]
  simp [prev,chk,hg,hi]
theorem chkAt_step {l : List Ace} {i : Nat} {a b : Ace} (h : l[i + 1]? = some a) (hb : l[i]? = some b) (hg : goodB a = true) : chkAt l (i + 1) = (decide (cmpA b a < 0) && chkAt l (i + 2)) := by
  obtain ⟨hi,rfl⟩ := List.getElem?_eq_some_iff.1 h
  unfold chkAt
  rw [List.drop_eq_getElem_cons hi]
  have e1 : prev l (i + 1) = some b := by simp [prev,hb]
  have e2 : prev l (i + 2) = some l[i + 1] := by simp [prev,h]
  rw [e1,e2]
  simp [chk,hg]
theorem chkAt_at {l : List Ace} {i : Nat} {a b : Ace} (h0 : 1 ≤ i) (h : l[i]? = some a) (hb : l[i - 1]? = some b) (hg : goodB a = true) : chkAt l i = (decide (cmpA b a < 0) && chkAt l (i + 1)) := by
  obtain ⟨j,rfl⟩ : ∃ j,i = j + 1 := ⟨i - 1,by omega⟩
  exact chkAt_step h hb hg
theorem chkAt_end {l : List Ace} {i : Nat} (h : l.length ≤ i) : chkAt l i = true := by
  unfold chkAt;rw [List.drop_of_length_le h];cases prev l i <;> rfl
def mayA (l : List Ace) : Bool := decide (l.length ≤ 16) && chkAt l 0 && ((maskB l).2 || l.isEmpty)
theorem mayA_long {l : List Ace} (h : ¬ l.length ≤ 16) : mayA l = false := by simp [mayA,h]
theorem mayA_bad {l : List Ace} (h : chkAt l 0 = false) : mayA l = false := by simp [mayA,h]
theorem mayA_end {l : List Ace} (h1 : l.length ≤ 16) (h : chkAt l 0 = true) : mayA l = ((maskB l).2 || l.isEmpty) := by simp [mayA,h,h1]
end Go.Proofs.YtbffcndmcaeamaaDoor.AclSpec
end
section
set_option linter.unusedSimpArgs false
set_option linter.unusedVariables false
namespace Go.Proofs.YtbffcndmcaeamaaDoor.AclSpec

end Go.Proofs.YtbffcndmcaeamaaDoor.AclSpec
end
section
set_option linter.unusedSimpArgs false
set_option linter.unusedVariables false
namespace Go.Proofs.YtbffcndmcaeamaaDoor.AclSpec

theorem cmpA_lt (a b : Ace) : cmpA a b < 0 ↔ (a.kind < b.kind ∨ a.kind = b.kind ∧ a.id < b.id) := by
  unfold cmpA orI cmpI
  by_cases h1 : a.kind < b.kind
  · simp [h1]
  · by_cases h2 : b.kind < a.kind
    · simp [h1,h2];omega
    · have : a.kind = b.kind := by omega
      simp [this]
      by_cases h3 : a.id < b.id
      · simp [h3]
      · by_cases h4 : b.id < a.id <;> simp [h3,h4]
def key (a : Ace) : Int × Int := (a.kind,a.id)
end Go.Proofs.YtbffcndmcaeamaaDoor.AclSpec
end
