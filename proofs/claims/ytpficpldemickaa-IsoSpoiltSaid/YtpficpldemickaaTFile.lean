import Derived.Test.YtpficpldemickaaTLoop
import Derived.Test.YtpficpldemickaaNKeep
set_option linter.unusedSimpArgs false
set_option linter.unusedVariables false
namespace Go.Proofs.Ytpficpldemickaa.TreeSpec
open AclSpec MetaSpec NodeSpec PathSpec

def textU (u : Nat) : List UInt8 := [116,101,120,116,32] ++ decB (u % 1000) ++ [32,111,102,32,116,104,105,115,32,97,110,100,32,116,104,97,116,44,32,97,110,100,32,111,102,32,116,104,105,115,32,97,110,100,32,116,104,97,116]
def fileU (u : Nat) (p : List UInt8) : FNode :=
  let n := (writeN (nodeOf 2 u) ((u / 4 % 2 * 600 : Nat) : Int) (textU u)).1
  let m := if u % 2 = 0 then (writeN n ((u % 90 * 10 : Nat) : Int) p).1 else n
  if u % 5 = 0 then (cutN m (m.size + ((u % 7 * 100 : Nat) : Int))).1 else m
theorem fileU_M (u : Nat) (p : List UInt8) : FileM (makeM u) (fileU u p) := by
  have hm := makeM_may u
  have h0 : FileM (makeM u) (nodeOf 2 u) := .of (isFile_of hm ⟨List.Pairwise.nil,fun p hp => by cases hp⟩ (by decide) (by decide) (by decide) (by decide) (fun p hp => by cases hp))
  have h1 := write_keep (a := ((u / 4 % 2 * 600 : Nat) : Int)) (s := textU u) hm h0
  unfold fileU
  simp only
  generalize (writeN (nodeOf 2 u) ((u / 4 % 2 * 600 : Nat) : Int) (textU u)).1 = n at *
  have h2 : FileM (makeM u) (if u % 2 = 0 then (writeN n ((u % 90 * 10 : Nat) : Int) p).1 else n) := by
    split
    · exact write_keep hm h1
    · exact h1
  generalize (if u % 2 = 0 then (writeN n ((u % 90 * 10 : Nat) : Int) p).1 else n) = m at *
  split
  · exact cut_keep hm h2
  · exact h2
theorem fileU_ok (u : Nat) (p : List UInt8) : mayN (fileU u p) = true ∧ (fileU u p).kind ≠ 1 := by
  have h := (fileU_M u p).file
  unfold isFileN at h
  rw [Bool.and_eq_true] at h
  have hk := of_decide_eq_true h.1
  exact ⟨h.2,by rw [hk];decide⟩
theorem make_may (l : List Nat) : mayT (makeT fileU l) = true := makeT_may (fun u p _ => fileU_ok u p) l
end Go.Proofs.Ytpficpldemickaa.TreeSpec
