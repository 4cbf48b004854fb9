import Derived.Test.YtaeefaehpfjmlaaESpec
set_option linter.unusedSimpArgs false
set_option linter.unusedVariables false
namespace Go.Proofs.Ytaeefaehpfjmlaa.Ext

def chkE : Int → List E → Int → Bool
  | last, [], size => decide (last ≤ size)
  | last, e :: r, size => if e.2 = 0 ∨ (e.1 : Int) ≤ last then false else chkE (fin e) r size
def mayE (B : Nat) (l : List E) (size : Int) : Bool := decide (0 ≤ size) && decide (size ≤ B) && chkE (-1) l size
theorem chkE_sep : ∀ {l : List E} {last size : Int}, Sep l → (∀ e ∈ l, last < e.1 ∧ (fin e : Int) ≤ size) → last ≤ size → chkE last l size = true
  | [], last, size, _, _, h => by simp [chkE, h]
  | e :: r, last, size, hs, h, _ => by
    have h0 := hs.2 e (by simp)
    have h1 := h e (by simp)
    rw [chkE, if_neg (by omega)]
    exact chkE_sep hs.tail (fun x hx => ⟨by have := (List.pairwise_cons.1 hs.1).1 x hx; omega, (h x (by simp [hx])).2⟩) h1.2
theorem mayE_sep {B : Nat} {l : List E} {size : Int} (h0 : 0 ≤ size) (hB : size ≤ B) (hs : Sep l) (hl : ∀ e ∈ l, (fin e : Int) ≤ size) : mayE B l size = true := by
  unfold mayE
  rw [chkE_sep hs (fun e he => ⟨by omega, hl e he⟩) (by omega)]
  simp [h0, hB]

def hasE (n : List E) (p : Int) : Bool := n.any fun e => decide ((e.1 : Int) ≤ p) && decide (p < fin e)
theorem hasE_iff {n : List E} {p : Nat} : hasE n p = true ↔ Mem n p := by
  unfold hasE Mem
  simp

end Go.Proofs.Ytaeefaehpfjmlaa.Ext
