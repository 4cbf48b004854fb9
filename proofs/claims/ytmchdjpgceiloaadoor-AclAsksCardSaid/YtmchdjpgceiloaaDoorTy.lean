/-
  CLOSED FACTS on the types of the program.
-/
import Derived.Test.YtmchdjpgceiloaaDoorProg
import Derived.Test.YtmchdjpgceiloaaDoorL11
set_option linter.unusedSimpArgs false
set_option linter.unusedVariables false
namespace Go.Proofs.YtmchdjpgceiloaaDoor
theorem tl2 (cs : List LV) : loadL Tryd.prog 2 cs = cs.head? := rfl
theorem ts2 : sizeL Tryd.prog 2 = 1 := by kernel_rfl
theorem tb2 : bytesL Tryd.prog 2 = 8 := by kernel_rfl
theorem tz2 : zeroOk Tryd.prog 2 = true := by kernel_rfl
theorem to2 : okT Tryd.prog 2 = true := by kernel_rfl
theorem tn2 : zeroL Tryd.prog 2 = some [.lit (.int .i64 0)] := rfl
theorem tl3 (cs : List LV) : loadL Tryd.prog 3 cs = cs.head? := rfl
theorem ts3 : sizeL Tryd.prog 3 = 1 := by kernel_rfl
theorem tb3 : bytesL Tryd.prog 3 = 8 := by kernel_rfl
theorem tz3 : zeroOk Tryd.prog 3 = true := by kernel_rfl
theorem to3 : okT Tryd.prog 3 = true := by kernel_rfl
theorem tn3 : zeroL Tryd.prog 3 = some [.lit (.int .i64 0)] := rfl
theorem tl4 (cs : List LV) : loadL Tryd.prog 4 cs = cs.head? := rfl
theorem ts4 : sizeL Tryd.prog 4 = 1 := by kernel_rfl
theorem tb4 : bytesL Tryd.prog 4 = 1 := by kernel_rfl
theorem tz4 : zeroOk Tryd.prog 4 = true := by kernel_rfl
theorem to4 : okT Tryd.prog 4 = true := by kernel_rfl
theorem tn4 : zeroL Tryd.prog 4 = some [.lit (.bool false)] := rfl
theorem tl5 (cs : List LV) : loadL Tryd.prog 5 cs = cs.head? := rfl
theorem ts5 : sizeL Tryd.prog 5 = 1 := by kernel_rfl
theorem tb5 : bytesL Tryd.prog 5 = 1 := by kernel_rfl
theorem tz5 : zeroOk Tryd.prog 5 = true := by kernel_rfl
theorem to5 : okT Tryd.prog 5 = true := by kernel_rfl
theorem tn5 : zeroL Tryd.prog 5 = some [.lit (.int .u8 0)] := rfl
theorem tl9 (cs : List LV) : loadL Tryd.prog 9 cs = cs.head? := rfl
theorem ts9 : sizeL Tryd.prog 9 = 1 := by kernel_rfl
theorem tb9 : bytesL Tryd.prog 9 = 16 := by kernel_rfl
theorem tz9 : zeroOk Tryd.prog 9 = true := by kernel_rfl
theorem to9 : okT Tryd.prog 9 = true := by kernel_rfl
theorem tn9 : zeroL Tryd.prog 9 = some [.lit (.string ⟨#[]⟩)] := rfl
theorem tl12 (cs : List LV) : loadL Tryd.prog 12 cs = cs.head? := rfl
theorem ts12 : sizeL Tryd.prog 12 = 1 := by kernel_rfl
theorem tb12 : bytesL Tryd.prog 12 = 8 := by kernel_rfl
theorem tz12 : zeroOk Tryd.prog 12 = true := by kernel_rfl
theorem to12 : okT Tryd.prog 12 = true := by kernel_rfl
theorem tn12 : zeroL Tryd.prog 12 = some [.lit (.int .u64 0)] := rfl
theorem tl21 (cs : List LV) : loadL Tryd.prog 21 cs = cs.head? := rfl
theorem ts21 : sizeL Tryd.prog 21 = 1 := by kernel_rfl
theorem tb21 : bytesL Tryd.prog 21 = 4 := by kernel_rfl
theorem tz21 : zeroOk Tryd.prog 21 = true := by kernel_rfl
theorem to21 : okT Tryd.prog 21 = true := by kernel_rfl
theorem tn21 : zeroL Tryd.prog 21 = some [.lit (.int .i32 0)] := rfl
theorem tl22 (cs : List LV) : loadL Tryd.prog 22 cs = cs.head? := rfl
theorem ts22 : sizeL Tryd.prog 22 = 1 := by kernel_rfl
theorem tb22 : bytesL Tryd.prog 22 = 24 := by kernel_rfl
theorem tz22 : zeroOk Tryd.prog 22 = true := by kernel_rfl
theorem to22 : okT Tryd.prog 22 = true := by kernel_rfl
theorem tn22 : zeroL Tryd.prog 22 = some [.sl 0 [] .nil] := rfl
theorem te22 : elemL Tryd.prog 22 = some (33, 3) := by kernel_rfl
theorem tl23 (cs : List LV) : loadL Tryd.prog 23 cs = cs.head? := rfl
theorem ts23 : sizeL Tryd.prog 23 = 1 := by kernel_rfl
theorem tb23 : bytesL Tryd.prog 23 = 24 := by kernel_rfl
theorem tz23 : zeroOk Tryd.prog 23 = true := by kernel_rfl
theorem to23 : okT Tryd.prog 23 = true := by kernel_rfl
theorem tn23 : zeroL Tryd.prog 23 = some [.sl 0 [] .nil] := rfl
theorem te23 : elemL Tryd.prog 23 = some (3, 1) := by kernel_rfl
theorem tf32_0 : fieldL Tryd.prog 32 0 = some (0, 3) := by kernel_rfl
theorem tf32_1 : fieldL Tryd.prog 32 1 = some (1, 3) := by kernel_rfl
theorem tf32_2 : fieldL Tryd.prog 32 2 = some (2, 3) := by kernel_rfl
theorem tl32 (cs : List LV) : loadL Tryd.prog 32 cs = if 3 ≤ cs.length then some (.agg (cs.take 3)) else none := rfl
theorem ts32 : sizeL Tryd.prog 32 = 3 := by kernel_rfl
theorem tb32 : bytesL Tryd.prog 32 = 24 := by kernel_rfl
theorem tz32 : zeroOk Tryd.prog 32 = true := by kernel_rfl
theorem to32 : okT Tryd.prog 32 = true := by kernel_rfl
theorem tq32 : eqKinds Tryd.prog 32 = some [(0, 0), (1, 0), (2, 0)] := by kernel_rfl
theorem tn32 : zeroL Tryd.prog 32 = some [.lit (.int .i64 0), .lit (.int .i64 0), .lit (.int .i64 0)] := rfl
theorem tu32 (parts : List (Nat × LV)) : buildL Tryd.prog 32 parts = (fillL (fun j => [(0, 1), (1, 1), (2, 1)][j]?) [.lit (.int .i64 0), .lit (.int .i64 0), .lit (.int .i64 0)] parts).map .agg := rfl
theorem tf33_0 : fieldL Tryd.prog 33 0 = some (0, 3) := by kernel_rfl
theorem tf33_1 : fieldL Tryd.prog 33 1 = some (1, 3) := by kernel_rfl
theorem tf33_2 : fieldL Tryd.prog 33 2 = some (2, 3) := by kernel_rfl
theorem tl33 (cs : List LV) : loadL Tryd.prog 33 cs = if 3 ≤ cs.length then some (.agg (cs.take 3)) else none := rfl
theorem ts33 : sizeL Tryd.prog 33 = 3 := by kernel_rfl
theorem tb33 : bytesL Tryd.prog 33 = 24 := by kernel_rfl
theorem tz33 : zeroOk Tryd.prog 33 = true := by kernel_rfl
theorem to33 : okT Tryd.prog 33 = true := by kernel_rfl
theorem tq33 : eqKinds Tryd.prog 33 = some [(0, 0), (1, 0), (2, 0)] := by kernel_rfl
theorem tn33 : zeroL Tryd.prog 33 = some [.lit (.int .i64 0), .lit (.int .i64 0), .lit (.int .i64 0)] := rfl
theorem tu33 (parts : List (Nat × LV)) : buildL Tryd.prog 33 parts = (fillL (fun j => [(0, 1), (1, 1), (2, 1)][j]?) [.lit (.int .i64 0), .lit (.int .i64 0), .lit (.int .i64 0)] parts).map .agg := rfl
theorem tl34 (cs : List LV) : loadL Tryd.prog 34 cs = cs.head? := rfl
theorem ts34 : sizeL Tryd.prog 34 = 1 := by kernel_rfl
theorem tb34 : bytesL Tryd.prog 34 = 8 := by kernel_rfl
theorem tz34 : zeroOk Tryd.prog 34 = true := by kernel_rfl
theorem to34 : okT Tryd.prog 34 = true := by kernel_rfl
theorem tn34 : zeroL Tryd.prog 34 = some [.lit (.int .u64 0)] := rfl
theorem tl44 (cs : List LV) : loadL Tryd.prog 44 cs = cs.head? := rfl
theorem ts44 : sizeL Tryd.prog 44 = 1 := by kernel_rfl
theorem tb44 : bytesL Tryd.prog 44 = 24 := by kernel_rfl
theorem tz44 : zeroOk Tryd.prog 44 = true := by kernel_rfl
theorem to44 : okT Tryd.prog 44 = true := by kernel_rfl
theorem tn44 : zeroL Tryd.prog 44 = some [.sl 0 [] .nil] := rfl
theorem te44 : elemL Tryd.prog 44 = some (5, 1) := by kernel_rfl
theorem tl53 (cs : List LV) : loadL Tryd.prog 53 cs = cs.head? := rfl
theorem ts53 : sizeL Tryd.prog 53 = 1 := by kernel_rfl
theorem tb53 : bytesL Tryd.prog 53 = 8 := by kernel_rfl
theorem tz53 : zeroOk Tryd.prog 53 = true := by kernel_rfl
theorem to53 : okT Tryd.prog 53 = true := by kernel_rfl
theorem tn53 : zeroL Tryd.prog 53 = some [.lit (.int .i64 0)] := rfl
theorem tl60 (cs : List LV) : loadL Tryd.prog 60 cs = cs.head? := rfl
theorem ts60 : sizeL Tryd.prog 60 = 1 := by kernel_rfl
theorem tb60 : bytesL Tryd.prog 60 = 4 := by kernel_rfl
theorem tz60 : zeroOk Tryd.prog 60 = true := by kernel_rfl
theorem to60 : okT Tryd.prog 60 = true := by kernel_rfl
theorem tn60 : zeroL Tryd.prog 60 = some [.lit (.int .u32 0)] := rfl
theorem tl62 (cs : List LV) : loadL Tryd.prog 62 cs = cs.head? := rfl
theorem ts62 : sizeL Tryd.prog 62 = 1 := by kernel_rfl
theorem tb62 : bytesL Tryd.prog 62 = 8 := by kernel_rfl
theorem tz62 : zeroOk Tryd.prog 62 = true := by kernel_rfl
theorem to62 : okT Tryd.prog 62 = true := by kernel_rfl
theorem tn62 : zeroL Tryd.prog 62 = some [.lit (.int .u64 0)] := rfl
theorem tl65 (cs : List LV) : loadL Tryd.prog 65 cs = cs.head? := rfl
theorem ts65 : sizeL Tryd.prog 65 = 1 := by kernel_rfl
theorem tb65 : bytesL Tryd.prog 65 = 8 := by kernel_rfl
theorem tz65 : zeroOk Tryd.prog 65 = true := by kernel_rfl
theorem to65 : okT Tryd.prog 65 = true := by kernel_rfl
theorem tn65 : zeroL Tryd.prog 65 = some [.lit (.int .u64 0)] := rfl
theorem tf97_0 : fieldL Tryd.prog 97 0 = some (0, 12) := by kernel_rfl
theorem tf97_1 : fieldL Tryd.prog 97 1 = some (1, 12) := by kernel_rfl
theorem tf97_2 : fieldL Tryd.prog 97 2 = some (2, 60) := by kernel_rfl
theorem tf97_3 : fieldL Tryd.prog 97 3 = some (3, 91) := by kernel_rfl
theorem tf97_4 : fieldL Tryd.prog 97 4 = some (4, 5) := by kernel_rfl
theorem tf97_5 : fieldL Tryd.prog 97 5 = some (5, 5) := by kernel_rfl
theorem tf97_6 : fieldL Tryd.prog 97 6 = some (6, 92) := by kernel_rfl
theorem tf97_9 : fieldL Tryd.prog 97 9 = some (9, 95) := by kernel_rfl
theorem tf97_10 : fieldL Tryd.prog 97 10 = some (10, 96) := by kernel_rfl
theorem tl97 (cs : List LV) : loadL Tryd.prog 97 cs = if 11 ≤ cs.length then some (.agg (cs.take 11)) else none := rfl
theorem ts97 : sizeL Tryd.prog 97 = 11 := by kernel_rfl
theorem tb97 : bytesL Tryd.prog 97 = 48 := by kernel_rfl
theorem tz97 : zeroOk Tryd.prog 97 = true := by kernel_rfl
theorem to97 : okT Tryd.prog 97 = true := by kernel_rfl
end Go.Proofs.YtmchdjpgceiloaaDoor
