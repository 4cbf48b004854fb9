/-
  No cell of these rows narrows 'for every input' (looked for: loops, veiled, ifaces, maps, wideKeys, modest, calm, conditions, laid).
  DERIVED. THE GIVEN ROWS OF THIS SEAT. 5 by the template 'for every input the law returns true; each argument reads behind the call as it read before'; 0 by the template 'total and deterministic' (their statements: YtpficpldemickaaTotals.lean).
  GIVEN WITH THE SEED: the statements are not yours to turn. If you find one false, say at which input.
  Laid BY PROGRAM, IN A SANDBOX (cutbox-rows.mjs): the forced cells as the released guide's own fill.sh prints them over the translation 8f63c92e4a17f182… (all of the seat's roots in one cut). By AI agents, Wed Nov 11 2026. No macro, syntax, notation, axiom, sorry.
-/
import Derived.Test.YtpficpldemickaaChecked
import GoSem.Claim
import GoSem.ClaimJoined
import GoSem.ClaimMapViews
import Derived.JoinedTies
import Derived.KernelRfl
namespace Go.Proofs.Ytpficpldemickaa
/- THE CELL 'sum', in the pinned program and in every row, IS THE sha256 OF THE DUMP (.gsa) THAT YtpficpldemickaaProg.lean LOADS. Nothing in Lean hashes anything: it is a label: what it is worth is what the hold of that sum in a sandbox is worth. -/
noncomputable def Try.pinned : Pinned := { name := "ytpficpldemickaa", sum := "8f63c92e4a17f18218362a5d5b32f55e716dfce63ec414070175e8184759d408", checked := Try.checked }
namespace Rows
def none {H : Type} : Left H := { results := [], args := [] }

/-- 'steamerlaw26.IsoAsks': WHATEVER THE INPUT: true; the input reads as it did. -/
def isoAsksSpec : ChangeSpec := { name := "isoAsks", fn := fun _ => fun
  | [d1, d2] => { results := [.lit (.bool true)], args := [d1, d2] }
  | _ => none }
def isoAsksRow : OpenClaim := { program := "ytpficpldemickaa", sum := "8f63c92e4a17f18218362a5d5b32f55e716dfce63ec414070175e8184759d408", func := "steamer/steamerlaw26.IsoAsks", spec := "isoAsks", inPlace := ["internal/bytealg.IndexByteString", "internal/bytealg.IndexString"], named := ["internal/bytealg.MaxLen"], apart := false }
def IsoAsksSaid : Prop := isoAsksRow.holds Try.pinned (OpenSpec.ofChange isoAsksSpec)

/-- ITS FALSE NEIGHBOUR: 'it returns false'. Refute it at one input. -/
def isoAsksWrong : ChangeSpec := { name := "isoAsks", fn := fun _ => fun
  | [d1, d2] => { results := [.lit (.bool false)], args := [d1, d2] }
  | _ => none }
def IsoAsksWrongFalsely : Prop := isoAsksRow.holds Try.pinned (OpenSpec.ofChange isoAsksWrong)

/-- 'steamerlaw26.IsoSame': WHATEVER THE INPUT: true; the input reads as it did. -/
def isoSameSpec : ChangeSpec := { name := "isoSame", fn := fun _ => fun
  | [d1, d2, d3] => { results := [.lit (.bool true)], args := [d1, d2, d3] }
  | _ => none }
def isoSameRow : OpenClaim := { program := "ytpficpldemickaa", sum := "8f63c92e4a17f18218362a5d5b32f55e716dfce63ec414070175e8184759d408", func := "steamer/steamerlaw26.IsoSame", spec := "isoSame", inPlace := ["internal/bytealg.IndexByteString", "internal/bytealg.IndexString"], named := ["internal/bytealg.MaxLen"], apart := false }
def IsoSameSaid : Prop := isoSameRow.holds Try.pinned (OpenSpec.ofChange isoSameSpec)

/-- ITS FALSE NEIGHBOUR: 'it returns false'. Refute it at one input. -/
def isoSameWrong : ChangeSpec := { name := "isoSame", fn := fun _ => fun
  | [d1, d2, d3] => { results := [.lit (.bool false)], args := [d1, d2, d3] }
  | _ => none }
def IsoSameWrongFalsely : Prop := isoSameRow.holds Try.pinned (OpenSpec.ofChange isoSameWrong)

/-- 'steamerlaw26.IsoSpoilt': WHATEVER THE INPUT: true; the input reads as it did. -/
def isoSpoiltSpec : ChangeSpec := { name := "isoSpoilt", fn := fun _ => fun
  | [d1, d2, d3] => { results := [.lit (.bool true)], args := [d1, d2, d3] }
  | _ => none }
def isoSpoiltRow : OpenClaim := { program := "ytpficpldemickaa", sum := "8f63c92e4a17f18218362a5d5b32f55e716dfce63ec414070175e8184759d408", func := "steamer/steamerlaw26.IsoSpoilt", spec := "isoSpoilt", inPlace := ["internal/bytealg.IndexByteString", "internal/bytealg.IndexString"], named := ["internal/bytealg.MaxLen"], apart := false }
def IsoSpoiltSaid : Prop := isoSpoiltRow.holds Try.pinned (OpenSpec.ofChange isoSpoiltSpec)

/-- ITS FALSE NEIGHBOUR: 'it returns false'. Refute it at one input. -/
def isoSpoiltWrong : ChangeSpec := { name := "isoSpoilt", fn := fun _ => fun
  | [d1, d2, d3] => { results := [.lit (.bool false)], args := [d1, d2, d3] }
  | _ => none }
def IsoSpoiltWrongFalsely : Prop := isoSpoiltRow.holds Try.pinned (OpenSpec.ofChange isoSpoiltWrong)

/-- 'steamerlaw26.IsoParts': WHATEVER THE INPUT: true; the input reads as it did. -/
def isoPartsSpec : ChangeSpec := { name := "isoParts", fn := fun _ => fun
  | [d1, d2] => { results := [.lit (.bool true)], args := [d1, d2] }
  | _ => none }
def isoPartsRow : OpenClaim := { program := "ytpficpldemickaa", sum := "8f63c92e4a17f18218362a5d5b32f55e716dfce63ec414070175e8184759d408", func := "steamer/steamerlaw26.IsoParts", spec := "isoParts", inPlace := ["internal/bytealg.IndexByteString", "internal/bytealg.IndexString"], named := ["internal/bytealg.MaxLen"], apart := false }
def IsoPartsSaid : Prop := isoPartsRow.holds Try.pinned (OpenSpec.ofChange isoPartsSpec)

/-- ITS FALSE NEIGHBOUR: 'it returns false'. Refute it at one input. -/
def isoPartsWrong : ChangeSpec := { name := "isoParts", fn := fun _ => fun
  | [d1, d2] => { results := [.lit (.bool false)], args := [d1, d2] }
  | _ => none }
def IsoPartsWrongFalsely : Prop := isoPartsRow.holds Try.pinned (OpenSpec.ofChange isoPartsWrong)

/-- 'steamerlaw26.IsoLinks': WHATEVER THE INPUT: true; the input reads as it did. -/
def isoLinksSpec : ChangeSpec := { name := "isoLinks", fn := fun _ => fun
  | [d1, d2, d3] => { results := [.lit (.bool true)], args := [d1, d2, d3] }
  | _ => none }
def isoLinksRow : OpenClaim := { program := "ytpficpldemickaa", sum := "8f63c92e4a17f18218362a5d5b32f55e716dfce63ec414070175e8184759d408", func := "steamer/steamerlaw26.IsoLinks", spec := "isoLinks", inPlace := ["internal/bytealg.IndexByteString", "internal/bytealg.IndexString"], named := ["internal/bytealg.MaxLen"], apart := false }
def IsoLinksSaid : Prop := isoLinksRow.holds Try.pinned (OpenSpec.ofChange isoLinksSpec)

/-- ITS FALSE NEIGHBOUR: 'it returns false'. Refute it at one input. -/
def isoLinksWrong : ChangeSpec := { name := "isoLinks", fn := fun _ => fun
  | [d1, d2, d3] => { results := [.lit (.bool false)], args := [d1, d2, d3] }
  | _ => none }
def IsoLinksWrongFalsely : Prop := isoLinksRow.holds Try.pinned (OpenSpec.ofChange isoLinksWrong)

/- THE SECOND FORM. 'bulk': how many values and letters a reading holds, each counted each time it is reached (what is shared counts as often as it is met; a slice's spare places count too). A statement '..UptoSaid' is the law's where the arguments, and the package variables that the reading takes, are together of bulk at most 1048576: NARROWER than '..Said'. Prove '..Said' where nothing that the law and all that it calls make is longer than what came in: it says more and counts as full. Else prove '..UptoSaid'. A law counts once. -/
mutual
def uptoBulk {H : Type} : DataW H → Nat
  | .lit (.string bytes) => bytes.length + 1
  | .lit _ => 1
  | .nil => 1
  | .ptr d => uptoBulk d + 1
  | .slice elems spare => uptoBulkAll elems + uptoBulkAll spare + 1
  | .agg parts => uptoBulkAll parts + 1
  | .iface _ d => uptoBulk d + 1
  | .map entries => uptoBulkEntries entries + 1
  | .held _ => 1
def uptoBulkAll {H : Type} : List (DataW H) → Nat
  | [] => 0
  | d :: r => uptoBulk d + uptoBulkAll r
def uptoBulkEntries {H : Type} : List (Lit × DataW H) → Nat
  | [] => 0
  | x :: r => uptoBulkEntry x + uptoBulkEntries r
def uptoBulkEntry {H : Type} : Lit × DataW H → Nat
  | (.string bytes, d) => bytes.length + uptoBulk d + 1
  | (_, d) => uptoBulk d + 1
 end
def uptoSmall : (H : Type) → List (DataW H) → Bool := fun _ ds => decide (uptoBulkAll ds ≤ 1048576)
def OpenSpec.upto (s : _root_.Go.ChangeSpec) : _root_.Go.OpenSpec := { _root_.Go.OpenSpec.ofChange s with cond := some uptoSmall }

/-- 'steamerlaw26.IsoAsks', WHERE WHAT IT READS IS OF BULK AT MOST 1048576: true; the input reads as it did. -/
def isoAsksUptoRow : OpenClaim := { program := "ytpficpldemickaa", sum := "8f63c92e4a17f18218362a5d5b32f55e716dfce63ec414070175e8184759d408", func := "steamer/steamerlaw26.IsoAsks", spec := "isoAsks", inPlace := ["internal/bytealg.IndexByteString", "internal/bytealg.IndexString"], named := ["internal/bytealg.MaxLen"], apart := false, narrowed := true }
def IsoAsksUptoSaid : Prop := isoAsksUptoRow.holds Try.pinned (OpenSpec.upto isoAsksSpec)

/-- 'steamerlaw26.IsoSame', WHERE WHAT IT READS IS OF BULK AT MOST 1048576: true; the input reads as it did. -/
def isoSameUptoRow : OpenClaim := { program := "ytpficpldemickaa", sum := "8f63c92e4a17f18218362a5d5b32f55e716dfce63ec414070175e8184759d408", func := "steamer/steamerlaw26.IsoSame", spec := "isoSame", inPlace := ["internal/bytealg.IndexByteString", "internal/bytealg.IndexString"], named := ["internal/bytealg.MaxLen"], apart := false, narrowed := true }
def IsoSameUptoSaid : Prop := isoSameUptoRow.holds Try.pinned (OpenSpec.upto isoSameSpec)

/-- 'steamerlaw26.IsoSpoilt', WHERE WHAT IT READS IS OF BULK AT MOST 1048576: true; the input reads as it did. -/
def isoSpoiltUptoRow : OpenClaim := { program := "ytpficpldemickaa", sum := "8f63c92e4a17f18218362a5d5b32f55e716dfce63ec414070175e8184759d408", func := "steamer/steamerlaw26.IsoSpoilt", spec := "isoSpoilt", inPlace := ["internal/bytealg.IndexByteString", "internal/bytealg.IndexString"], named := ["internal/bytealg.MaxLen"], apart := false, narrowed := true }
def IsoSpoiltUptoSaid : Prop := isoSpoiltUptoRow.holds Try.pinned (OpenSpec.upto isoSpoiltSpec)

/-- 'steamerlaw26.IsoParts', WHERE WHAT IT READS IS OF BULK AT MOST 1048576: true; the input reads as it did. -/
def isoPartsUptoRow : OpenClaim := { program := "ytpficpldemickaa", sum := "8f63c92e4a17f18218362a5d5b32f55e716dfce63ec414070175e8184759d408", func := "steamer/steamerlaw26.IsoParts", spec := "isoParts", inPlace := ["internal/bytealg.IndexByteString", "internal/bytealg.IndexString"], named := ["internal/bytealg.MaxLen"], apart := false, narrowed := true }
def IsoPartsUptoSaid : Prop := isoPartsUptoRow.holds Try.pinned (OpenSpec.upto isoPartsSpec)

/-- 'steamerlaw26.IsoLinks', WHERE WHAT IT READS IS OF BULK AT MOST 1048576: true; the input reads as it did. -/
def isoLinksUptoRow : OpenClaim := { program := "ytpficpldemickaa", sum := "8f63c92e4a17f18218362a5d5b32f55e716dfce63ec414070175e8184759d408", func := "steamer/steamerlaw26.IsoLinks", spec := "isoLinks", inPlace := ["internal/bytealg.IndexByteString", "internal/bytealg.IndexString"], named := ["internal/bytealg.MaxLen"], apart := false, narrowed := true }
def IsoLinksUptoSaid : Prop := isoLinksUptoRow.holds Try.pinned (OpenSpec.upto isoLinksSpec)

end Rows
end Go.Proofs.Ytpficpldemickaa
