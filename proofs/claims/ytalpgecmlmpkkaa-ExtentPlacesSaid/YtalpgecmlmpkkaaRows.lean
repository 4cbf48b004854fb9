/-
  No cell of these rows narrows 'for every input' (looked for: loops, veiled, ifaces, maps, wideKeys, modest, calm, conditions, laid).
  DERIVED. THE GIVEN ROWS OF THIS SEAT. 3 by the template 'for every input the law returns true; each argument reads behind the call as it read before'; 0 by the template 'total and deterministic' (their statements: YtalpgecmlmpkkaaTotals.lean).
  GIVEN WITH THE SEED: the statements are not yours to turn. If you find one false, say at which input.
  Laid BY PROGRAM, IN A SANDBOX (cutbox-rows.mjs): the forced cells as the released guide's own fill.sh prints them over the translation e3b3e29fdc8ab8ad… (all of the seat's roots in one cut). By AI agents, Wed Nov 11 2026. No macro, syntax, notation, axiom, sorry.
-/
import Derived.Test.YtalpgecmlmpkkaaChecked
import GoSem.Claim
import GoSem.ClaimJoined
import GoSem.ClaimMapViews
import Derived.JoinedTies
import Derived.KernelRfl
namespace Go.Proofs.Ytalpgecmlmpkkaa
/- THE CELL 'sum', in the pinned program and in every row, IS THE sha256 OF THE DUMP (.gsa) THAT YtalpgecmlmpkkaaProg.lean LOADS. Nothing in Lean hashes anything: it is a label: what it is worth is what the hold of that sum in a sandbox is worth. -/
noncomputable def Try.pinned : Pinned := { name := "ytalpgecmlmpkkaa", sum := "e3b3e29fdc8ab8adfee77a3bf1ca022175af41c50ba9c2d870ad43f9a3ddb2ec", checked := Try.checked }
namespace Rows
def none {H : Type} : Left H := { results := [], args := [] }

/-- 'steamerlaw2.ExtentPlaces': WHATEVER THE INPUT: true; the input reads as it did. -/
def extentPlacesSpec : ChangeSpec := { name := "extentPlaces", fn := fun _ => fun
  | [d1, d2] => { results := [.lit (.bool true)], args := [d1, d2] }
  | _ => none }
def extentPlacesRow : OpenClaim := { program := "ytalpgecmlmpkkaa", sum := "e3b3e29fdc8ab8adfee77a3bf1ca022175af41c50ba9c2d870ad43f9a3ddb2ec", func := "steamer/steamerlaw2.ExtentPlaces", spec := "extentPlaces", unfollowed := true, recurses := true, apart := false }
def ExtentPlacesSaid : Prop := extentPlacesRow.holds Try.pinned (OpenSpec.ofChange extentPlacesSpec)

/-- ITS FALSE NEIGHBOUR: 'it returns false'. Refute it at one input. -/
def extentPlacesWrong : ChangeSpec := { name := "extentPlaces", fn := fun _ => fun
  | [d1, d2] => { results := [.lit (.bool false)], args := [d1, d2] }
  | _ => none }
def ExtentPlacesWrongFalsely : Prop := extentPlacesRow.holds Try.pinned (OpenSpec.ofChange extentPlacesWrong)

/-- 'steamerlaw2.ExtentMeets': WHATEVER THE INPUT: true; the input reads as it did. -/
def extentMeetsSpec : ChangeSpec := { name := "extentMeets", fn := fun _ => fun
  | [d1, d2, d3] => { results := [.lit (.bool true)], args := [d1, d2, d3] }
  | _ => none }
def extentMeetsRow : OpenClaim := { program := "ytalpgecmlmpkkaa", sum := "e3b3e29fdc8ab8adfee77a3bf1ca022175af41c50ba9c2d870ad43f9a3ddb2ec", func := "steamer/steamerlaw2.ExtentMeets", spec := "extentMeets", unfollowed := true, recurses := true, apart := false }
def ExtentMeetsSaid : Prop := extentMeetsRow.holds Try.pinned (OpenSpec.ofChange extentMeetsSpec)

/-- ITS FALSE NEIGHBOUR: 'it returns false'. Refute it at one input. -/
def extentMeetsWrong : ChangeSpec := { name := "extentMeets", fn := fun _ => fun
  | [d1, d2, d3] => { results := [.lit (.bool false)], args := [d1, d2, d3] }
  | _ => none }
def ExtentMeetsWrongFalsely : Prop := extentMeetsRow.holds Try.pinned (OpenSpec.ofChange extentMeetsWrong)

/-- 'steamerlaw2.ExtentSums': WHATEVER THE INPUT: true; the input reads as it did. -/
def extentSumsSpec : ChangeSpec := { name := "extentSums", fn := fun _ => fun
  | [d] => { results := [.lit (.bool true)], args := [d] }
  | _ => none }
def extentSumsRow : OpenClaim := { program := "ytalpgecmlmpkkaa", sum := "e3b3e29fdc8ab8adfee77a3bf1ca022175af41c50ba9c2d870ad43f9a3ddb2ec", func := "steamer/steamerlaw2.ExtentSums", spec := "extentSums", unfollowed := true, recurses := true, apart := false }
def ExtentSumsSaid : Prop := extentSumsRow.holds Try.pinned (OpenSpec.ofChange extentSumsSpec)

/-- ITS FALSE NEIGHBOUR: 'it returns false'. Refute it at one input. -/
def extentSumsWrong : ChangeSpec := { name := "extentSums", fn := fun _ => fun
  | [d] => { results := [.lit (.bool false)], args := [d] }
  | _ => none }
def ExtentSumsWrongFalsely : Prop := extentSumsRow.holds Try.pinned (OpenSpec.ofChange extentSumsWrong)

/- THE SECOND FORM. 'bulk': how many values and letters a reading holds, each counted each time it is reached (what is shared counts as often as it is met; a slice's spare places count too). A statement '..UptoSaid' is the law's where the arguments, and the package variables that the reading takes, are together of bulk at most 1048576: NARROWER than '..Said'. Prove '..Said' where nothing that the law and all that it calls make is longer than what came in: it says more and counts as full. Else prove '..UptoSaid'. A law counts once. -/
mutual
def uptoBulk {H : Type} : DataW H → Nat
  | .lit (.string bytes) => bytes.length + 1
  | .lit _ => 1
  | .nil => 1
  | .ptr d => uptoBulk d + 1
  | .slice elems spare => uptoBulkAll elems + uptoBulkAll spare + 1
  | .agg parts => uptoBulkAll parts + 1
  | .iface _ d => uptoBulk d + 1
  | .map entries => uptoBulkEntries entries + 1
  | .held _ => 1
def uptoBulkAll {H : Type} : List (DataW H) → Nat
  | [] => 0
  | d :: r => uptoBulk d + uptoBulkAll r
def uptoBulkEntries {H : Type} : List (Lit × DataW H) → Nat
  | [] => 0
  | x :: r => uptoBulkEntry x + uptoBulkEntries r
def uptoBulkEntry {H : Type} : Lit × DataW H → Nat
  | (.string bytes, d) => bytes.length + uptoBulk d + 1
  | (_, d) => uptoBulk d + 1
 end
def uptoSmall : (H : Type) → List (DataW H) → Bool := fun _ ds => decide (uptoBulkAll ds ≤ 1048576)
def OpenSpec.upto (s : _root_.Go.ChangeSpec) : _root_.Go.OpenSpec := { _root_.Go.OpenSpec.ofChange s with cond := some uptoSmall }

/-- 'steamerlaw2.ExtentPlaces', WHERE WHAT IT READS IS OF BULK AT MOST 1048576: true; the input reads as it did. -/
def extentPlacesUptoRow : OpenClaim := { program := "ytalpgecmlmpkkaa", sum := "e3b3e29fdc8ab8adfee77a3bf1ca022175af41c50ba9c2d870ad43f9a3ddb2ec", func := "steamer/steamerlaw2.ExtentPlaces", spec := "extentPlaces", unfollowed := true, recurses := true, apart := false, narrowed := true }
def ExtentPlacesUptoSaid : Prop := extentPlacesUptoRow.holds Try.pinned (OpenSpec.upto extentPlacesSpec)

/-- 'steamerlaw2.ExtentMeets', WHERE WHAT IT READS IS OF BULK AT MOST 1048576: true; the input reads as it did. -/
def extentMeetsUptoRow : OpenClaim := { program := "ytalpgecmlmpkkaa", sum := "e3b3e29fdc8ab8adfee77a3bf1ca022175af41c50ba9c2d870ad43f9a3ddb2ec", func := "steamer/steamerlaw2.ExtentMeets", spec := "extentMeets", unfollowed := true, recurses := true, apart := false, narrowed := true }
def ExtentMeetsUptoSaid : Prop := extentMeetsUptoRow.holds Try.pinned (OpenSpec.upto extentMeetsSpec)

/-- 'steamerlaw2.ExtentSums', WHERE WHAT IT READS IS OF BULK AT MOST 1048576: true; the input reads as it did. -/
def extentSumsUptoRow : OpenClaim := { program := "ytalpgecmlmpkkaa", sum := "e3b3e29fdc8ab8adfee77a3bf1ca022175af41c50ba9c2d870ad43f9a3ddb2ec", func := "steamer/steamerlaw2.ExtentSums", spec := "extentSums", unfollowed := true, recurses := true, apart := false, narrowed := true }
def ExtentSumsUptoSaid : Prop := extentSumsUptoRow.holds Try.pinned (OpenSpec.upto extentSumsSpec)

end Rows
end Go.Proofs.Ytalpgecmlmpkkaa
