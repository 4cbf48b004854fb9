import Derived.Test.YtaeefaehpfjmlaaASpec
import Derived.WalkKit
set_option linter.unusedSimpArgs false
set_option linter.unusedVariables false
namespace Go.Proofs.Ytaeefaehpfjmlaa.AclSpec

def andI (x y : Int) : Int := bits .and .i64 x y
/-- Are all bits of 'ask' there? -/
def hasI (x ask : Int) : Bool := andI x ask == ask
def userAt (l : List Ace) (who : Int) (i : Nat) : Option Ace := (l.drop i).find? (fun a => a.kind == 1 && a.id == who)
def grp (gs : List Int) (most ask : Int) : Bool × Bool → List Ace → Bool × Bool
  | s, [] => s
  | (f, r), a :: t => if a.kind == 2 && gs.contains a.id then grp gs most ask (true, r || hasI (andI a.perm most) ask) t else grp gs most ask (f, r) t
def mostB (l : List Ace) : Int := if (maskB l).2 then (maskB l).1 else 7
def finB (s : Bool × Bool) (mode ask : Int) : Bool := if s.1 then s.2 else hasI mode ask
def restB (l : List Ace) (mode gid : Int) (gs : List Int) (ask : Int) : Bool :=
  finB (grp gs (mostB l) ask (gs.contains gid, gs.contains gid && hasI (andI (mode / 8) (mostB l)) ask) l) mode ask
/-- What 'acl.Lets' answers. -/
def letsB (l : List Ace) (mode uid gid who : Int) (gs : List Int) (ask : Int) : Bool :=
  if !mayA l || decide (ask < 0) || decide (7 < ask) then false
  else if who = 0 then true
  else if who = uid then hasI (mode / 64) ask
  else match userAt l who 0 with
    | some a => hasI (andI a.perm (mostB l)) ask
    | none => restB l mode gid gs ask
theorem letsB_no {l : List Ace} {mode uid gid who : Int} {gs : List Int} {ask : Int} (h : mayA l = false ∨ ask < 0 ∨ 7 < ask) : letsB l mode uid gid who gs ask = false := by
  unfold letsB
  rw [if_pos]
  rcases h with h | h | h <;> simp [h]
theorem letsB_root {l : List Ace} {mode uid gid who : Int} {gs : List Int} {ask : Int} (h : mayA l = true) (h0 : ¬ ask < 0) (h7 : ¬ 7 < ask) (hw : who = 0) : letsB l mode uid gid who gs ask = true := by
  unfold letsB
  rw [if_neg (by simp [h]; omega), if_pos hw]
theorem letsB_own {l : List Ace} {mode uid gid who : Int} {gs : List Int} {ask : Int} (h : mayA l = true) (h0 : ¬ ask < 0) (h7 : ¬ 7 < ask) (hw : ¬ who = 0) (hu : who = uid) : letsB l mode uid gid who gs ask = hasI (mode / 64) ask := by
  unfold letsB
  rw [if_neg (by simp [h]; omega), if_neg hw, if_pos hu]
theorem letsB_go {l : List Ace} {mode uid gid who : Int} {gs : List Int} {ask : Int} (h : mayA l = true) (h0 : ¬ ask < 0) (h7 : ¬ 7 < ask) (hw : ¬ who = 0) (hu : ¬ who = uid) :
    letsB l mode uid gid who gs ask = match userAt l who 0 with | some a => hasI (andI a.perm (mostB l)) ask | none => restB l mode gid gs ask := by
  unfold letsB
  rw [if_neg (by simp [h]; omega), if_neg hw, if_neg hu]
theorem userAt_hit {l : List Ace} {who : Int} {i : Nat} {a : Ace} (h : l[i]? = some a) (hk : a.kind = 1) (hi : a.id = who) : userAt l who i = some a := by
  obtain ⟨hl, rfl⟩ := List.getElem?_eq_some_iff.1 h
  unfold userAt
  rw [List.drop_eq_getElem_cons hl, List.find?_cons]
  simp [hk, hi]
theorem userAt_miss {l : List Ace} {who : Int} {i : Nat} {a : Ace} (h : l[i]? = some a) (hk : ¬ (a.kind = 1 ∧ a.id = who)) : userAt l who i = userAt l who (i + 1) := by
  obtain ⟨hl, rfl⟩ := List.getElem?_eq_some_iff.1 h
  unfold userAt
  rw [List.drop_eq_getElem_cons hl, List.find?_cons]
  have : (l[i].kind == 1 && l[i].id == who) = false := by
    rw [Bool.eq_false_iff]; simpa using hk
  rw [this]
theorem userAt_end {l : List Ace} {who : Int} {i : Nat} (h : l.length ≤ i) : userAt l who i = none := by
  unfold userAt; rw [List.drop_of_length_le h]; rfl
theorem grp_hit {l : List Ace} {gs : List Int} {most ask : Int} {f r : Bool} {i : Nat} {a : Ace} (h : l[i]? = some a) (hk : a.kind = 2) (hi : gs.contains a.id = true) :
    grp gs most ask (f, r) (l.drop i) = grp gs most ask (true, r || hasI (andI a.perm most) ask) (l.drop (i + 1)) := by
  obtain ⟨hl, rfl⟩ := List.getElem?_eq_some_iff.1 h
  rw [List.drop_eq_getElem_cons hl, grp, if_pos (by rw [hk, hi]; rfl)]
theorem grp_miss {l : List Ace} {gs : List Int} {most ask : Int} {f r : Bool} {i : Nat} {a : Ace} (h : l[i]? = some a) (hk : ¬ a.kind = 2 ∨ gs.contains a.id = false) :
    grp gs most ask (f, r) (l.drop i) = grp gs most ask (f, r) (l.drop (i + 1)) := by
  obtain ⟨hl, rfl⟩ := List.getElem?_eq_some_iff.1 h
  rw [List.drop_eq_getElem_cons hl, grp, if_neg (by rcases hk with hk | hk <;> simp [hk]; try (intro _; simpa using hk))]
theorem grp_end {l : List Ace} {gs : List Int} {most ask : Int} {s : Bool × Bool} {i : Nat} (h : l.length ≤ i) : grp gs most ask s (l.drop i) = s := by
  rw [List.drop_of_length_le h]; rfl
end Go.Proofs.Ytaeefaehpfjmlaa.AclSpec
