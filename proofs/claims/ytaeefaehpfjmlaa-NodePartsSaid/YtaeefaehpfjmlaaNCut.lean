import Derived.Test.YtaeefaehpfjmlaaNSpec
set_option linter.unusedSimpArgs false
set_option linter.unusedVariables false
namespace Go.Proofs.Ytaeefaehpfjmlaa.NodeSpec
open GSort AclSpec MetaSpec Ext

def cutP (l : List Piece) (s : Int) : List Piece := (l.takeWhile fun p => decide (p.pos < s)).map fun p => ⟨p.pos, p.dat.take (min (p.dat.length : Int) (s - p.pos)).toNat⟩
theorem takeWhile_all {α : Type} {f : α → Bool} {l : List α} (h : ∀ a ∈ l, f a = true) : l.takeWhile f = l := by
  induction l with
  | nil => rfl
  | cons a r ih => rw [List.takeWhile_cons, h a (by simp), if_pos rfl, ih fun b hb => h b (by simp [hb])]
theorem takeWhile_upto {α : Type} {f : α → Bool} {l : List α} {i : Nat} {a : α} (ha : l[i]? = some a) (h : ∀ b ∈ l.take i, f b = true) (hf : f a = false) : l.takeWhile f = l.take i := by
  induction l generalizing i with
  | nil => simp
  | cons b r ih =>
    cases i with
    | zero =>
      simp at ha; subst ha
      rw [List.takeWhile_cons, hf]; rfl
    | succ i =>
      rw [List.take_succ_cons] at h ⊢
      rw [List.takeWhile_cons, h b (by simp), if_pos rfl, ih (by simpa using ha) fun c hc => h c (by simp [hc])]
def cutN (n : FNode) (s : Int) : FNode × Int :=
  if !isFileN n || decide (s < 0) || decide (1099511627776 < s) then (n, 1)
  else ({ n with size := s, dat := cutP n.dat s }, 0)
end Go.Proofs.Ytaeefaehpfjmlaa.NodeSpec
