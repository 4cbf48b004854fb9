import Derived.Test.YtaeefaehpfjmlaaNRef
import Derived.Test.YtaeefaehpfjmlaaNCuts
set_option linter.unusedSimpArgs false
set_option linter.unusedVariables false
namespace Go.Proofs.Ytaeefaehpfjmlaa
open AclSpec MetaSpec NodeSpec GSort Flo Ext

theorem ok_snoc {l : List Piece} {a : Int} {s : List UInt8} (h : ∀ p ∈ l, okP p) (h0 : 0 ≤ a) (h1 : a + s.length ≤ 1099511627776) (hs : s ≠ []) : ∀ p ∈ l ++ [(⟨a, s⟩ : Piece)], okP p := by
  intro p hp
  rcases List.mem_append.1 hp with hp | hp
  · exact h p hp
  · simp only [List.mem_singleton] at hp; subst hp; exact ⟨hs, h0, h1⟩
theorem writeN_do {n : FNode} {a : Int} {s : List UInt8} {l : List Piece} (hf : isFileN n = true) (h0 : 0 ≤ a) (h1 : a + s.length ≤ 1099511627776) (hs : s ≠ []) (hl : wroteP (n.dat ++ [⟨a, s⟩]) = l) (hb : bytesP l ≤ 4000) (h16 : l.length ≤ 16) :
    writeN n a s = ({ n with size := max n.size (a + s.length), dat := l }, 0) := by
  have hok := ok_snoc (file_okP hf) h0 h1 hs
  have e1 := wrote_bytes hok
  have e2 := wrote_len (n.dat ++ [(⟨a, s⟩ : Piece)])
  rw [hl] at e1 e2
  unfold writeN
  rw [hf, if_neg (by simp; omega), if_neg (by omega), if_neg hs, if_neg (by omega)]
  show (({ n with size := _, dat := wroteP _ } : FNode), (0 : Int)) = _
  rw [hl]
def xs (k : Nat) : List UInt8 := List.replicate k 120
def ys (g : Nat) : List UInt8 := List.replicate g 121
theorem small_len {n : FNode} (h : n.mt = zm) (h2 : n.dat.length ≤ 1000000) (h3 : ∀ p ∈ n.dat, p.dat.length ≤ 1000000) : small n := ⟨by rw [h]; decide, by rw [h]; decide, h2, h3⟩
end Go.Proofs.Ytaeefaehpfjmlaa
