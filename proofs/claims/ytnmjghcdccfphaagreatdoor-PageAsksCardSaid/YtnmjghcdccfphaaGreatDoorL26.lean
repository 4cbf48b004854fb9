import Derived.Test.YtnmjghcdccfphaaGreatDoorL25
set_option linter.unusedSimpArgs false
set_option linter.unusedVariables false
namespace Go.Proofs.YtnmjghcdccfphaaGreatDoor
open Go.RowKit

def plain1 : LV → LV
 | .sl n cs _ => .sl n cs .no
 | x => x
theorem LW_plainBox {P : Program} {N : Nat} {w0 : World} {S0 : Ent} {Q : Exit → LSt → Prop} {st : LSt} {c : Code} (d : Nat) {cs : List LV} (hb : st.box d = some cs) (h : LW P N w0 S0 c Q (st.setBox d (cs.map plain1))) : LW P N w0 S0 c Q st :=
 LW_weakBox d _ hb (by simp) (fun i x y hx hy w g v hr => by
  rw [List.getElem?_map,hx] at hy
  cases hy
  cases x <;> first | exact hr | exact hr.no_of rfl) h
theorem LW_joinC {P : Program} {N : Nat} {w0 : World} {S0 : Ent} {a b : Code} {Q Q2 : Exit → LSt → Prop} {K : LSt → Prop} {st : LSt} (M : LSt → Prop) (h1 : LW P N w0 S0 a (thenL (LW P N w0 S0 b (thenL M Q)) Q2) st) (h2 : ∀ st',M st' → K st') : LW P N w0 S0 a (thenL (LW P N w0 S0 b (thenL K Q)) Q2) st :=
 h1.mono fun e st' h => by cases e <;> first | exact LW_join M h h2 | exact h
end Go.Proofs.YtnmjghcdccfphaaGreatDoor
