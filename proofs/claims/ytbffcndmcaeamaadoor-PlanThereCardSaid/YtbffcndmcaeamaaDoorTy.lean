import Derived.Test.YtbffcndmcaeamaaDoorProg
import Derived.Test.YtbffcndmcaeamaaDoorL11
set_option maxRecDepth 100000
set_option linter.unusedSimpArgs false
set_option linter.unusedVariables false
namespace Go.Proofs.YtbffcndmcaeamaaDoor
theorem tl2 (cs : List LV) : loadL Tryd.prog 2 cs = cs.head? := rfl
theorem ts2 : sizeL Tryd.prog 2 = 1 := by kernel_rfl
theorem tb2 : bytesL Tryd.prog 2 = 8 := by kernel_rfl
theorem tz2 : zeroOk Tryd.prog 2 = true := by kernel_rfl
theorem to2 : okT Tryd.prog 2 = true := by kernel_rfl
theorem tn2 : zeroL Tryd.prog 2 = some [.lit (.int .i64 0)] := rfl
theorem tl3 (cs : List LV) : loadL Tryd.prog 3 cs = cs.head? := rfl
theorem ts3 : sizeL Tryd.prog 3 = 1 := by kernel_rfl
theorem tb3 : bytesL Tryd.prog 3 = 8 := by kernel_rfl
theorem tz3 : zeroOk Tryd.prog 3 = true := by kernel_rfl
theorem to3 : okT Tryd.prog 3 = true := by kernel_rfl
theorem tn3 : zeroL Tryd.prog 3 = some [.lit (.int .i64 0)] := rfl
theorem tl4 (cs : List LV) : loadL Tryd.prog 4 cs = cs.head? := rfl
theorem ts4 : sizeL Tryd.prog 4 = 1 := by kernel_rfl
theorem tb4 : bytesL Tryd.prog 4 = 1 := by kernel_rfl
theorem tz4 : zeroOk Tryd.prog 4 = true := by kernel_rfl
theorem to4 : okT Tryd.prog 4 = true := by kernel_rfl
theorem tn4 : zeroL Tryd.prog 4 = some [.lit (.bool false)] := rfl
theorem tl5 (cs : List LV) : loadL Tryd.prog 5 cs = cs.head? := rfl
theorem ts5 : sizeL Tryd.prog 5 = 1 := by kernel_rfl
theorem tb5 : bytesL Tryd.prog 5 = 1 := by kernel_rfl
theorem tz5 : zeroOk Tryd.prog 5 = true := by kernel_rfl
theorem to5 : okT Tryd.prog 5 = true := by kernel_rfl
theorem tn5 : zeroL Tryd.prog 5 = some [.lit (.int .u8 0)] := rfl
theorem tl9 (cs : List LV) : loadL Tryd.prog 9 cs = cs.head? := rfl
theorem ts9 : sizeL Tryd.prog 9 = 1 := by kernel_rfl
theorem tb9 : bytesL Tryd.prog 9 = 16 := by kernel_rfl
theorem tz9 : zeroOk Tryd.prog 9 = true := by kernel_rfl
theorem to9 : okT Tryd.prog 9 = true := by kernel_rfl
theorem tn9 : zeroL Tryd.prog 9 = some [.lit (.string ⟨#[]⟩)] := rfl
theorem tl12 (cs : List LV) : loadL Tryd.prog 12 cs = cs.head? := rfl
theorem ts12 : sizeL Tryd.prog 12 = 1 := by kernel_rfl
theorem tb12 : bytesL Tryd.prog 12 = 8 := by kernel_rfl
theorem tz12 : zeroOk Tryd.prog 12 = true := by kernel_rfl
theorem to12 : okT Tryd.prog 12 = true := by kernel_rfl
theorem tn12 : zeroL Tryd.prog 12 = some [.lit (.int .u64 0)] := rfl
theorem tl21 (cs : List LV) : loadL Tryd.prog 21 cs = cs.head? := rfl
theorem ts21 : sizeL Tryd.prog 21 = 1 := by kernel_rfl
theorem tb21 : bytesL Tryd.prog 21 = 4 := by kernel_rfl
theorem tz21 : zeroOk Tryd.prog 21 = true := by kernel_rfl
theorem to21 : okT Tryd.prog 21 = true := by kernel_rfl
theorem tn21 : zeroL Tryd.prog 21 = some [.lit (.int .i32 0)] := rfl
theorem tl22 (cs : List LV) : loadL Tryd.prog 22 cs = cs.head? := rfl
theorem ts22 : sizeL Tryd.prog 22 = 1 := by kernel_rfl
theorem tb22 : bytesL Tryd.prog 22 = 24 := by kernel_rfl
theorem tz22 : zeroOk Tryd.prog 22 = true := by kernel_rfl
theorem to22 : okT Tryd.prog 22 = true := by kernel_rfl
theorem tn22 : zeroL Tryd.prog 22 = some [.sl 0 [] .nil] := rfl
theorem te22 : elemL Tryd.prog 22 = some (3,1) := by kernel_rfl
theorem tl23 (cs : List LV) : loadL Tryd.prog 23 cs = cs.head? := rfl
theorem ts23 : sizeL Tryd.prog 23 = 1 := by kernel_rfl
theorem tb23 : bytesL Tryd.prog 23 = 24 := by kernel_rfl
theorem tz23 : zeroOk Tryd.prog 23 = true := by kernel_rfl
theorem to23 : okT Tryd.prog 23 = true := by kernel_rfl
theorem tn23 : zeroL Tryd.prog 23 = some [.sl 0 [] .nil] := rfl
theorem te23 : elemL Tryd.prog 23 = some (38,2) := by kernel_rfl
theorem tl24 (cs : List LV) : loadL Tryd.prog 24 cs = cs.head? := rfl
theorem ts24 : sizeL Tryd.prog 24 = 1 := by kernel_rfl
theorem tb24 : bytesL Tryd.prog 24 = 24 := by kernel_rfl
theorem tz24 : zeroOk Tryd.prog 24 = true := by kernel_rfl
theorem to24 : okT Tryd.prog 24 = true := by kernel_rfl
theorem tn24 : zeroL Tryd.prog 24 = some [.sl 0 [] .nil] := rfl
theorem te24 : elemL Tryd.prog 24 = some (45,12) := by kernel_rfl
theorem tf25_0 : fieldL Tryd.prog 25 0 = some (0,23) := by kernel_rfl
theorem tf25_1 : fieldL Tryd.prog 25 1 = some (1,24) := by kernel_rfl
theorem tl25 (cs : List LV) : loadL Tryd.prog 25 cs = if 2 ≤ cs.length then some (.agg (cs.take 2)) else none := rfl
theorem ts25 : sizeL Tryd.prog 25 = 2 := by kernel_rfl
theorem tb25 : bytesL Tryd.prog 25 = 48 := by kernel_rfl
theorem tz25 : zeroOk Tryd.prog 25 = true := by kernel_rfl
theorem to25 : okT Tryd.prog 25 = true := by kernel_rfl
theorem tn25 : zeroL Tryd.prog 25 = some [.sl 0 [] .nil,.sl 0 [] .nil] := rfl
theorem tu25 (parts : List (Nat × LV)) : buildL Tryd.prog 25 parts = (fillL (fun j => [(0,1),(1,1)][j]?) [.sl 0 [] .nil,.sl 0 [] .nil] parts).map .agg := rfl
theorem tf26_0 : fieldL Tryd.prog 26 0 = some (0,23) := by kernel_rfl
theorem tf26_1 : fieldL Tryd.prog 26 1 = some (1,24) := by kernel_rfl
theorem tl26 (cs : List LV) : loadL Tryd.prog 26 cs = if 2 ≤ cs.length then some (.agg (cs.take 2)) else none := rfl
theorem ts26 : sizeL Tryd.prog 26 = 2 := by kernel_rfl
theorem tb26 : bytesL Tryd.prog 26 = 48 := by kernel_rfl
theorem tz26 : zeroOk Tryd.prog 26 = true := by kernel_rfl
theorem to26 : okT Tryd.prog 26 = true := by kernel_rfl
theorem tn26 : zeroL Tryd.prog 26 = some [.sl 0 [] .nil,.sl 0 [] .nil] := rfl
theorem tu26 (parts : List (Nat × LV)) : buildL Tryd.prog 26 parts = (fillL (fun j => [(0,1),(1,1)][j]?) [.sl 0 [] .nil,.sl 0 [] .nil] parts).map .agg := rfl
theorem tl28 (cs : List LV) : loadL Tryd.prog 28 cs = cs.head? := rfl
theorem ts28 : sizeL Tryd.prog 28 = 1 := by kernel_rfl
theorem tb28 : bytesL Tryd.prog 28 = 24 := by kernel_rfl
theorem tz28 : zeroOk Tryd.prog 28 = true := by kernel_rfl
theorem to28 : okT Tryd.prog 28 = true := by kernel_rfl
theorem tn28 : zeroL Tryd.prog 28 = some [.sl 0 [] .nil] := rfl
theorem te28 : elemL Tryd.prog 28 = some (33,4) := by kernel_rfl
theorem tm31 : mapSI Tryd.prog 31 = true := by kernel_rfl
theorem tl31 (cs : List LV) : loadL Tryd.prog 31 cs = cs.head? := rfl
theorem tf32_0 : fieldL Tryd.prog 32 0 = some (0,3) := by kernel_rfl
theorem tf32_1 : fieldL Tryd.prog 32 1 = some (1,9) := by kernel_rfl
theorem tf32_2 : fieldL Tryd.prog 32 2 = some (2,9) := by kernel_rfl
theorem tf32_3 : fieldL Tryd.prog 32 3 = some (3,3) := by kernel_rfl
theorem tl32 (cs : List LV) : loadL Tryd.prog 32 cs = if 4 ≤ cs.length then some (.agg (cs.take 4)) else none := rfl
theorem ts32 : sizeL Tryd.prog 32 = 4 := by kernel_rfl
theorem tb32 : bytesL Tryd.prog 32 = 48 := by kernel_rfl
theorem tz32 : zeroOk Tryd.prog 32 = true := by kernel_rfl
theorem to32 : okT Tryd.prog 32 = true := by kernel_rfl
theorem tq32 : eqKinds Tryd.prog 32 = some [(0,0),(1,1),(2,1),(3,0)] := by kernel_rfl
theorem tn32 : zeroL Tryd.prog 32 = some [.lit (.int .i64 0),.lit (.string ⟨#[]⟩),.lit (.string ⟨#[]⟩),.lit (.int .i64 0)] := rfl
theorem tu32 (parts : List (Nat × LV)) : buildL Tryd.prog 32 parts = (fillL (fun j => [(0,1),(1,1),(2,1),(3,1)][j]?) [.lit (.int .i64 0),.lit (.string ⟨#[]⟩),.lit (.string ⟨#[]⟩),.lit (.int .i64 0)] parts).map .agg := rfl
theorem tf33_0 : fieldL Tryd.prog 33 0 = some (0,3) := by kernel_rfl
theorem tf33_1 : fieldL Tryd.prog 33 1 = some (1,9) := by kernel_rfl
theorem tf33_2 : fieldL Tryd.prog 33 2 = some (2,9) := by kernel_rfl
theorem tf33_3 : fieldL Tryd.prog 33 3 = some (3,3) := by kernel_rfl
theorem tl33 (cs : List LV) : loadL Tryd.prog 33 cs = if 4 ≤ cs.length then some (.agg (cs.take 4)) else none := rfl
theorem ts33 : sizeL Tryd.prog 33 = 4 := by kernel_rfl
theorem tb33 : bytesL Tryd.prog 33 = 48 := by kernel_rfl
theorem tz33 : zeroOk Tryd.prog 33 = true := by kernel_rfl
theorem to33 : okT Tryd.prog 33 = true := by kernel_rfl
theorem tq33 : eqKinds Tryd.prog 33 = some [(0,0),(1,1),(2,1),(3,0)] := by kernel_rfl
theorem tn33 : zeroL Tryd.prog 33 = some [.lit (.int .i64 0),.lit (.string ⟨#[]⟩),.lit (.string ⟨#[]⟩),.lit (.int .i64 0)] := rfl
theorem tu33 (parts : List (Nat × LV)) : buildL Tryd.prog 33 parts = (fillL (fun j => [(0,1),(1,1),(2,1),(3,1)][j]?) [.lit (.int .i64 0),.lit (.string ⟨#[]⟩),.lit (.string ⟨#[]⟩),.lit (.int .i64 0)] parts).map .agg := rfl
theorem tf37_0 : fieldL Tryd.prog 37 0 = some (0,9) := by kernel_rfl
theorem tf37_1 : fieldL Tryd.prog 37 1 = some (1,3) := by kernel_rfl
theorem tl37 (cs : List LV) : loadL Tryd.prog 37 cs = if 2 ≤ cs.length then some (.agg (cs.take 2)) else none := rfl
theorem ts37 : sizeL Tryd.prog 37 = 2 := by kernel_rfl
theorem tb37 : bytesL Tryd.prog 37 = 24 := by kernel_rfl
theorem tz37 : zeroOk Tryd.prog 37 = true := by kernel_rfl
theorem to37 : okT Tryd.prog 37 = true := by kernel_rfl
theorem tq37 : eqKinds Tryd.prog 37 = some [(0,1),(1,0)] := by kernel_rfl
theorem tn37 : zeroL Tryd.prog 37 = some [.lit (.string ⟨#[]⟩),.lit (.int .i64 0)] := rfl
theorem tu37 (parts : List (Nat × LV)) : buildL Tryd.prog 37 parts = (fillL (fun j => [(0,1),(1,1)][j]?) [.lit (.string ⟨#[]⟩),.lit (.int .i64 0)] parts).map .agg := rfl
theorem tf38_0 : fieldL Tryd.prog 38 0 = some (0,9) := by kernel_rfl
theorem tf38_1 : fieldL Tryd.prog 38 1 = some (1,3) := by kernel_rfl
theorem tl38 (cs : List LV) : loadL Tryd.prog 38 cs = if 2 ≤ cs.length then some (.agg (cs.take 2)) else none := rfl
theorem ts38 : sizeL Tryd.prog 38 = 2 := by kernel_rfl
theorem tb38 : bytesL Tryd.prog 38 = 24 := by kernel_rfl
theorem tz38 : zeroOk Tryd.prog 38 = true := by kernel_rfl
theorem to38 : okT Tryd.prog 38 = true := by kernel_rfl
theorem tq38 : eqKinds Tryd.prog 38 = some [(0,1),(1,0)] := by kernel_rfl
theorem tn38 : zeroL Tryd.prog 38 = some [.lit (.string ⟨#[]⟩),.lit (.int .i64 0)] := rfl
theorem tu38 (parts : List (Nat × LV)) : buildL Tryd.prog 38 parts = (fillL (fun j => [(0,1),(1,1)][j]?) [.lit (.string ⟨#[]⟩),.lit (.int .i64 0)] parts).map .agg := rfl
theorem tl39 (cs : List LV) : loadL Tryd.prog 39 cs = cs.head? := rfl
theorem ts39 : sizeL Tryd.prog 39 = 1 := by kernel_rfl
theorem tb39 : bytesL Tryd.prog 39 = 24 := by kernel_rfl
theorem tz39 : zeroOk Tryd.prog 39 = true := by kernel_rfl
theorem to39 : okT Tryd.prog 39 = true := by kernel_rfl
theorem tn39 : zeroL Tryd.prog 39 = some [.sl 0 [] .nil] := rfl
theorem te39 : elemL Tryd.prog 39 = some (59,2) := by kernel_rfl
theorem tl40 (cs : List LV) : loadL Tryd.prog 40 cs = cs.head? := rfl
theorem ts40 : sizeL Tryd.prog 40 = 1 := by kernel_rfl
theorem tb40 : bytesL Tryd.prog 40 = 24 := by kernel_rfl
theorem tz40 : zeroOk Tryd.prog 40 = true := by kernel_rfl
theorem to40 : okT Tryd.prog 40 = true := by kernel_rfl
theorem tn40 : zeroL Tryd.prog 40 = some [.sl 0 [] .nil] := rfl
theorem te40 : elemL Tryd.prog 40 = some (61,3) := by kernel_rfl
theorem tf41_0 : fieldL Tryd.prog 41 0 = some (0,3) := by kernel_rfl
theorem tf41_1 : fieldL Tryd.prog 41 1 = some (1,3) := by kernel_rfl
theorem tf41_2 : fieldL Tryd.prog 41 2 = some (2,3) := by kernel_rfl
theorem tf41_3 : fieldL Tryd.prog 41 3 = some (3,2) := by kernel_rfl
theorem tf41_4 : fieldL Tryd.prog 41 4 = some (4,39) := by kernel_rfl
theorem tf41_5 : fieldL Tryd.prog 41 5 = some (5,40) := by kernel_rfl
theorem tl41 (cs : List LV) : loadL Tryd.prog 41 cs = if 6 ≤ cs.length then some (.agg (cs.take 6)) else none := rfl
theorem ts41 : sizeL Tryd.prog 41 = 6 := by kernel_rfl
theorem tb41 : bytesL Tryd.prog 41 = 80 := by kernel_rfl
theorem tz41 : zeroOk Tryd.prog 41 = true := by kernel_rfl
theorem to41 : okT Tryd.prog 41 = true := by kernel_rfl
theorem tn41 : zeroL Tryd.prog 41 = some [.lit (.int .i64 0),.lit (.int .i64 0),.lit (.int .i64 0),.lit (.int .i64 0),.sl 0 [] .nil,.sl 0 [] .nil] := rfl
theorem tu41 (parts : List (Nat × LV)) : buildL Tryd.prog 41 parts = (fillL (fun j => [(0,1),(1,1),(2,1),(3,1),(4,1),(5,1)][j]?) [.lit (.int .i64 0),.lit (.int .i64 0),.lit (.int .i64 0),.lit (.int .i64 0),.sl 0 [] .nil,.sl 0 [] .nil] parts).map .agg := rfl
theorem tf42_0 : fieldL Tryd.prog 42 0 = some (0,3) := by kernel_rfl
theorem tf42_1 : fieldL Tryd.prog 42 1 = some (1,3) := by kernel_rfl
theorem tf42_2 : fieldL Tryd.prog 42 2 = some (2,3) := by kernel_rfl
theorem tf42_3 : fieldL Tryd.prog 42 3 = some (3,2) := by kernel_rfl
theorem tf42_4 : fieldL Tryd.prog 42 4 = some (4,39) := by kernel_rfl
theorem tf42_5 : fieldL Tryd.prog 42 5 = some (5,40) := by kernel_rfl
theorem tl42 (cs : List LV) : loadL Tryd.prog 42 cs = if 6 ≤ cs.length then some (.agg (cs.take 6)) else none := rfl
theorem ts42 : sizeL Tryd.prog 42 = 6 := by kernel_rfl
theorem tb42 : bytesL Tryd.prog 42 = 80 := by kernel_rfl
theorem tz42 : zeroOk Tryd.prog 42 = true := by kernel_rfl
theorem to42 : okT Tryd.prog 42 = true := by kernel_rfl
theorem tn42 : zeroL Tryd.prog 42 = some [.lit (.int .i64 0),.lit (.int .i64 0),.lit (.int .i64 0),.lit (.int .i64 0),.sl 0 [] .nil,.sl 0 [] .nil] := rfl
theorem tu42 (parts : List (Nat × LV)) : buildL Tryd.prog 42 parts = (fillL (fun j => [(0,1),(1,1),(2,1),(3,1),(4,1),(5,1)][j]?) [.lit (.int .i64 0),.lit (.int .i64 0),.lit (.int .i64 0),.lit (.int .i64 0),.sl 0 [] .nil,.sl 0 [] .nil] parts).map .agg := rfl
theorem tl43 (cs : List LV) : loadL Tryd.prog 43 cs = cs.head? := rfl
theorem ts43 : sizeL Tryd.prog 43 = 1 := by kernel_rfl
theorem tb43 : bytesL Tryd.prog 43 = 24 := by kernel_rfl
theorem tz43 : zeroOk Tryd.prog 43 = true := by kernel_rfl
theorem to43 : okT Tryd.prog 43 = true := by kernel_rfl
theorem tn43 : zeroL Tryd.prog 43 = some [.sl 0 [] .nil] := rfl
theorem te43 : elemL Tryd.prog 43 = some (77,2) := by kernel_rfl
theorem tf44_0 : fieldL Tryd.prog 44 0 = some (0,3) := by kernel_rfl
theorem tf44_1 : fieldL Tryd.prog 44 1 = some (1,42) := by kernel_rfl
theorem tf44_2 : fieldL Tryd.prog 44 2 = some (7,2) := by kernel_rfl
theorem tf44_3 : fieldL Tryd.prog 44 3 = some (8,43) := by kernel_rfl
theorem tf44_4 : fieldL Tryd.prog 44 4 = some (9,9) := by kernel_rfl
theorem tf44_5 : fieldL Tryd.prog 44 5 = some (10,3) := by kernel_rfl
theorem tf44_6 : fieldL Tryd.prog 44 6 = some (11,3) := by kernel_rfl
theorem tl44 (cs : List LV) : loadL Tryd.prog 44 cs = if 12 ≤ cs.length then some (.agg (cs.take 12)) else none := rfl
theorem ts44 : sizeL Tryd.prog 44 = 12 := by kernel_rfl
theorem tb44 : bytesL Tryd.prog 44 = 152 := by kernel_rfl
theorem tz44 : zeroOk Tryd.prog 44 = true := by kernel_rfl
theorem to44 : okT Tryd.prog 44 = true := by kernel_rfl
theorem tn44 : zeroL Tryd.prog 44 = some [.lit (.int .i64 0),.lit (.int .i64 0),.lit (.int .i64 0),.lit (.int .i64 0),.lit (.int .i64 0),.sl 0 [] .nil,.sl 0 [] .nil,.lit (.int .i64 0),.sl 0 [] .nil,.lit (.string ⟨#[]⟩),.lit (.int .i64 0),.lit (.int .i64 0)] := rfl
theorem tu44 (parts : List (Nat × LV)) : buildL Tryd.prog 44 parts = (fillL (fun j => [(0,1),(1,6),(7,1),(8,1),(9,1),(10,1),(11,1)][j]?) [.lit (.int .i64 0),.lit (.int .i64 0),.lit (.int .i64 0),.lit (.int .i64 0),.lit (.int .i64 0),.sl 0 [] .nil,.sl 0 [] .nil,.lit (.int .i64 0),.sl 0 [] .nil,.lit (.string ⟨#[]⟩),.lit (.int .i64 0),.lit (.int .i64 0)] parts).map .agg := rfl
theorem tf45_0 : fieldL Tryd.prog 45 0 = some (0,3) := by kernel_rfl
theorem tf45_1 : fieldL Tryd.prog 45 1 = some (1,42) := by kernel_rfl
theorem tf45_2 : fieldL Tryd.prog 45 2 = some (7,2) := by kernel_rfl
theorem tf45_3 : fieldL Tryd.prog 45 3 = some (8,43) := by kernel_rfl
theorem tf45_4 : fieldL Tryd.prog 45 4 = some (9,9) := by kernel_rfl
theorem tf45_5 : fieldL Tryd.prog 45 5 = some (10,3) := by kernel_rfl
theorem tf45_6 : fieldL Tryd.prog 45 6 = some (11,3) := by kernel_rfl
theorem tl45 (cs : List LV) : loadL Tryd.prog 45 cs = if 12 ≤ cs.length then some (.agg (cs.take 12)) else none := rfl
theorem ts45 : sizeL Tryd.prog 45 = 12 := by kernel_rfl
theorem tb45 : bytesL Tryd.prog 45 = 152 := by kernel_rfl
theorem tz45 : zeroOk Tryd.prog 45 = true := by kernel_rfl
theorem to45 : okT Tryd.prog 45 = true := by kernel_rfl
theorem tn45 : zeroL Tryd.prog 45 = some [.lit (.int .i64 0),.lit (.int .i64 0),.lit (.int .i64 0),.lit (.int .i64 0),.lit (.int .i64 0),.sl 0 [] .nil,.sl 0 [] .nil,.lit (.int .i64 0),.sl 0 [] .nil,.lit (.string ⟨#[]⟩),.lit (.int .i64 0),.lit (.int .i64 0)] := rfl
theorem tu45 (parts : List (Nat × LV)) : buildL Tryd.prog 45 parts = (fillL (fun j => [(0,1),(1,6),(7,1),(8,1),(9,1),(10,1),(11,1)][j]?) [.lit (.int .i64 0),.lit (.int .i64 0),.lit (.int .i64 0),.lit (.int .i64 0),.lit (.int .i64 0),.sl 0 [] .nil,.sl 0 [] .nil,.lit (.int .i64 0),.sl 0 [] .nil,.lit (.string ⟨#[]⟩),.lit (.int .i64 0),.lit (.int .i64 0)] parts).map .agg := rfl
theorem tl46 (cs : List LV) : loadL Tryd.prog 46 cs = cs.head? := rfl
theorem ts46 : sizeL Tryd.prog 46 = 1 := by kernel_rfl
theorem tb46 : bytesL Tryd.prog 46 = 24 := by kernel_rfl
theorem tz46 : zeroOk Tryd.prog 46 = true := by kernel_rfl
theorem to46 : okT Tryd.prog 46 = true := by kernel_rfl
theorem tn46 : zeroL Tryd.prog 46 = some [.sl 0 [] .nil] := rfl
theorem te46 : elemL Tryd.prog 46 = some (9,1) := by kernel_rfl
theorem tl51 (cs : List LV) : loadL Tryd.prog 51 cs = cs.head? := rfl
theorem ts51 : sizeL Tryd.prog 51 = 1 := by kernel_rfl
theorem tb51 : bytesL Tryd.prog 51 = 8 := by kernel_rfl
theorem tz51 : zeroOk Tryd.prog 51 = true := by kernel_rfl
theorem to51 : okT Tryd.prog 51 = true := by kernel_rfl
theorem tn51 : zeroL Tryd.prog 51 = some [.lit (.int .u64 0)] := rfl
theorem tf58_0 : fieldL Tryd.prog 58 0 = some (0,9) := by kernel_rfl
theorem tf58_1 : fieldL Tryd.prog 58 1 = some (1,9) := by kernel_rfl
theorem tl58 (cs : List LV) : loadL Tryd.prog 58 cs = if 2 ≤ cs.length then some (.agg (cs.take 2)) else none := rfl
theorem ts58 : sizeL Tryd.prog 58 = 2 := by kernel_rfl
theorem tb58 : bytesL Tryd.prog 58 = 32 := by kernel_rfl
theorem tz58 : zeroOk Tryd.prog 58 = true := by kernel_rfl
theorem to58 : okT Tryd.prog 58 = true := by kernel_rfl
theorem tq58 : eqKinds Tryd.prog 58 = some [(0,1),(1,1)] := by kernel_rfl
theorem tn58 : zeroL Tryd.prog 58 = some [.lit (.string ⟨#[]⟩),.lit (.string ⟨#[]⟩)] := rfl
theorem tu58 (parts : List (Nat × LV)) : buildL Tryd.prog 58 parts = (fillL (fun j => [(0,1),(1,1)][j]?) [.lit (.string ⟨#[]⟩),.lit (.string ⟨#[]⟩)] parts).map .agg := rfl
theorem tf59_0 : fieldL Tryd.prog 59 0 = some (0,9) := by kernel_rfl
theorem tf59_1 : fieldL Tryd.prog 59 1 = some (1,9) := by kernel_rfl
theorem tl59 (cs : List LV) : loadL Tryd.prog 59 cs = if 2 ≤ cs.length then some (.agg (cs.take 2)) else none := rfl
theorem ts59 : sizeL Tryd.prog 59 = 2 := by kernel_rfl
theorem tb59 : bytesL Tryd.prog 59 = 32 := by kernel_rfl
theorem tz59 : zeroOk Tryd.prog 59 = true := by kernel_rfl
theorem to59 : okT Tryd.prog 59 = true := by kernel_rfl
theorem tq59 : eqKinds Tryd.prog 59 = some [(0,1),(1,1)] := by kernel_rfl
theorem tn59 : zeroL Tryd.prog 59 = some [.lit (.string ⟨#[]⟩),.lit (.string ⟨#[]⟩)] := rfl
theorem tu59 (parts : List (Nat × LV)) : buildL Tryd.prog 59 parts = (fillL (fun j => [(0,1),(1,1)][j]?) [.lit (.string ⟨#[]⟩),.lit (.string ⟨#[]⟩)] parts).map .agg := rfl
theorem tf60_0 : fieldL Tryd.prog 60 0 = some (0,3) := by kernel_rfl
theorem tf60_1 : fieldL Tryd.prog 60 1 = some (1,3) := by kernel_rfl
theorem tf60_2 : fieldL Tryd.prog 60 2 = some (2,3) := by kernel_rfl
theorem tl60 (cs : List LV) : loadL Tryd.prog 60 cs = if 3 ≤ cs.length then some (.agg (cs.take 3)) else none := rfl
theorem ts60 : sizeL Tryd.prog 60 = 3 := by kernel_rfl
theorem tb60 : bytesL Tryd.prog 60 = 24 := by kernel_rfl
theorem tz60 : zeroOk Tryd.prog 60 = true := by kernel_rfl
theorem to60 : okT Tryd.prog 60 = true := by kernel_rfl
theorem tq60 : eqKinds Tryd.prog 60 = some [(0,0),(1,0),(2,0)] := by kernel_rfl
theorem tn60 : zeroL Tryd.prog 60 = some [.lit (.int .i64 0),.lit (.int .i64 0),.lit (.int .i64 0)] := rfl
theorem tu60 (parts : List (Nat × LV)) : buildL Tryd.prog 60 parts = (fillL (fun j => [(0,1),(1,1),(2,1)][j]?) [.lit (.int .i64 0),.lit (.int .i64 0),.lit (.int .i64 0)] parts).map .agg := rfl
theorem tf61_0 : fieldL Tryd.prog 61 0 = some (0,3) := by kernel_rfl
theorem tf61_1 : fieldL Tryd.prog 61 1 = some (1,3) := by kernel_rfl
theorem tf61_2 : fieldL Tryd.prog 61 2 = some (2,3) := by kernel_rfl
theorem tl61 (cs : List LV) : loadL Tryd.prog 61 cs = if 3 ≤ cs.length then some (.agg (cs.take 3)) else none := rfl
theorem ts61 : sizeL Tryd.prog 61 = 3 := by kernel_rfl
theorem tb61 : bytesL Tryd.prog 61 = 24 := by kernel_rfl
theorem tz61 : zeroOk Tryd.prog 61 = true := by kernel_rfl
theorem to61 : okT Tryd.prog 61 = true := by kernel_rfl
theorem tq61 : eqKinds Tryd.prog 61 = some [(0,0),(1,0),(2,0)] := by kernel_rfl
theorem tn61 : zeroL Tryd.prog 61 = some [.lit (.int .i64 0),.lit (.int .i64 0),.lit (.int .i64 0)] := rfl
theorem tu61 (parts : List (Nat × LV)) : buildL Tryd.prog 61 parts = (fillL (fun j => [(0,1),(1,1),(2,1)][j]?) [.lit (.int .i64 0),.lit (.int .i64 0),.lit (.int .i64 0)] parts).map .agg := rfl
theorem tf76_0 : fieldL Tryd.prog 76 0 = some (0,2) := by kernel_rfl
theorem tf76_1 : fieldL Tryd.prog 76 1 = some (1,9) := by kernel_rfl
theorem tl76 (cs : List LV) : loadL Tryd.prog 76 cs = if 2 ≤ cs.length then some (.agg (cs.take 2)) else none := rfl
theorem ts76 : sizeL Tryd.prog 76 = 2 := by kernel_rfl
theorem tb76 : bytesL Tryd.prog 76 = 24 := by kernel_rfl
theorem tz76 : zeroOk Tryd.prog 76 = true := by kernel_rfl
theorem to76 : okT Tryd.prog 76 = true := by kernel_rfl
theorem tq76 : eqKinds Tryd.prog 76 = some [(0,0),(1,1)] := by kernel_rfl
theorem tn76 : zeroL Tryd.prog 76 = some [.lit (.int .i64 0),.lit (.string ⟨#[]⟩)] := rfl
theorem tu76 (parts : List (Nat × LV)) : buildL Tryd.prog 76 parts = (fillL (fun j => [(0,1),(1,1)][j]?) [.lit (.int .i64 0),.lit (.string ⟨#[]⟩)] parts).map .agg := rfl
theorem tf77_0 : fieldL Tryd.prog 77 0 = some (0,2) := by kernel_rfl
theorem tf77_1 : fieldL Tryd.prog 77 1 = some (1,9) := by kernel_rfl
theorem tl77 (cs : List LV) : loadL Tryd.prog 77 cs = if 2 ≤ cs.length then some (.agg (cs.take 2)) else none := rfl
theorem ts77 : sizeL Tryd.prog 77 = 2 := by kernel_rfl
theorem tb77 : bytesL Tryd.prog 77 = 24 := by kernel_rfl
theorem tz77 : zeroOk Tryd.prog 77 = true := by kernel_rfl
theorem to77 : okT Tryd.prog 77 = true := by kernel_rfl
theorem tq77 : eqKinds Tryd.prog 77 = some [(0,0),(1,1)] := by kernel_rfl
theorem tn77 : zeroL Tryd.prog 77 = some [.lit (.int .i64 0),.lit (.string ⟨#[]⟩)] := rfl
theorem tu77 (parts : List (Nat × LV)) : buildL Tryd.prog 77 parts = (fillL (fun j => [(0,1),(1,1)][j]?) [.lit (.int .i64 0),.lit (.string ⟨#[]⟩)] parts).map .agg := rfl
theorem ta84 : arrL Tryd.prog 84 = some (5,1) := by kernel_rfl
theorem tx84 : elemL Tryd.prog 84 = none := by kernel_rfl
theorem ts84 : sizeL Tryd.prog 84 = 5 := by kernel_rfl
theorem to84 : okT Tryd.prog 84 = true := by kernel_rfl
theorem tn84 : zeroL Tryd.prog 84 = some ([.lit (.int .i64 0),.lit (.int .i64 0),.lit (.int .i64 0),.lit (.int .i64 0),.lit (.int .i64 0)]) := by kernel_rfl
theorem tl84 (cs : List LV) : loadL Tryd.prog 84 cs = if 5 ≤ cs.length then some (.agg (cs.take 5)) else none := rfl
theorem tu84 (parts : List (Nat × LV)) : buildL Tryd.prog 84 parts = (fillL (fun j => some (j * 1,1)) [.lit (.int .i64 0),.lit (.int .i64 0),.lit (.int .i64 0),.lit (.int .i64 0),.lit (.int .i64 0)] parts).map .agg := rfl
theorem tl88 (cs : List LV) : loadL Tryd.prog 88 cs = cs.head? := rfl
theorem ts88 : sizeL Tryd.prog 88 = 1 := by kernel_rfl
theorem tb88 : bytesL Tryd.prog 88 = 24 := by kernel_rfl
theorem tz88 : zeroOk Tryd.prog 88 = true := by kernel_rfl
theorem to88 : okT Tryd.prog 88 = true := by kernel_rfl
theorem tn88 : zeroL Tryd.prog 88 = some [.sl 0 [] .nil] := rfl
theorem te88 : elemL Tryd.prog 88 = some (96,1) := by kernel_rfl
theorem tl96 (cs : List LV) : loadL Tryd.prog 96 cs = cs.head? := rfl
theorem ts96 : sizeL Tryd.prog 96 = 1 := by kernel_rfl
theorem tb96 : bytesL Tryd.prog 96 = 16 := by kernel_rfl
theorem tz96 : zeroOk Tryd.prog 96 = true := by kernel_rfl
theorem to96 : okT Tryd.prog 96 = true := by kernel_rfl
theorem tn96 : zeroL Tryd.prog 96 = some [.lit (.complex .f64 0 0)] := rfl
theorem tl101 (cs : List LV) : loadL Tryd.prog 101 cs = cs.head? := rfl
theorem tl112 (cs : List LV) : loadL Tryd.prog 112 cs = cs.head? := rfl
theorem ts112 : sizeL Tryd.prog 112 = 1 := by kernel_rfl
theorem tb112 : bytesL Tryd.prog 112 = 4 := by kernel_rfl
theorem tz112 : zeroOk Tryd.prog 112 = true := by kernel_rfl
theorem to112 : okT Tryd.prog 112 = true := by kernel_rfl
theorem tn112 : zeroL Tryd.prog 112 = some [.lit (.int .u32 0)] := rfl
theorem ta115 : arrL Tryd.prog 115 = some (256,1) := by kernel_rfl
theorem tx115 : elemL Tryd.prog 115 = none := by kernel_rfl
theorem ts115 : sizeL Tryd.prog 115 = 256 := by kernel_rfl
theorem to115 : okT Tryd.prog 115 = true := by kernel_rfl
theorem tn115 : zeroL Tryd.prog 115 = some (List.replicate 256 (.lit (.int .u8 0))) := by kernel_rfl
theorem tf116_0 : fieldL Tryd.prog 116 0 = some (0,5) := by kernel_rfl
theorem tf116_1 : fieldL Tryd.prog 116 1 = some (1,5) := by kernel_rfl
theorem tl116 (cs : List LV) : loadL Tryd.prog 116 cs = if 2 ≤ cs.length then some (.agg (cs.take 2)) else none := rfl
theorem ts116 : sizeL Tryd.prog 116 = 2 := by kernel_rfl
theorem tb116 : bytesL Tryd.prog 116 = 2 := by kernel_rfl
theorem tz116 : zeroOk Tryd.prog 116 = true := by kernel_rfl
theorem to116 : okT Tryd.prog 116 = true := by kernel_rfl
theorem tq116 : eqKinds Tryd.prog 116 = some [(0,0),(1,0)] := by kernel_rfl
theorem tn116 : zeroL Tryd.prog 116 = some [.lit (.int .u8 0),.lit (.int .u8 0)] := rfl
theorem tu116 (parts : List (Nat × LV)) : buildL Tryd.prog 116 parts = (fillL (fun j => [(0,1),(1,1)][j]?) [.lit (.int .u8 0),.lit (.int .u8 0)] parts).map .agg := rfl
theorem tf117_0 : fieldL Tryd.prog 117 0 = some (0,5) := by kernel_rfl
theorem tf117_1 : fieldL Tryd.prog 117 1 = some (1,5) := by kernel_rfl
theorem tl117 (cs : List LV) : loadL Tryd.prog 117 cs = if 2 ≤ cs.length then some (.agg (cs.take 2)) else none := rfl
theorem ts117 : sizeL Tryd.prog 117 = 2 := by kernel_rfl
theorem tb117 : bytesL Tryd.prog 117 = 2 := by kernel_rfl
theorem tz117 : zeroOk Tryd.prog 117 = true := by kernel_rfl
theorem to117 : okT Tryd.prog 117 = true := by kernel_rfl
theorem tq117 : eqKinds Tryd.prog 117 = some [(0,0),(1,0)] := by kernel_rfl
theorem tn117 : zeroL Tryd.prog 117 = some [.lit (.int .u8 0),.lit (.int .u8 0)] := rfl
theorem tu117 (parts : List (Nat × LV)) : buildL Tryd.prog 117 parts = (fillL (fun j => [(0,1),(1,1)][j]?) [.lit (.int .u8 0),.lit (.int .u8 0)] parts).map .agg := rfl
theorem tf132_0 : fieldL Tryd.prog 132 0 = some (0,12) := by kernel_rfl
theorem tf132_1 : fieldL Tryd.prog 132 1 = some (1,12) := by kernel_rfl
theorem tf132_2 : fieldL Tryd.prog 132 2 = some (2,112) := by kernel_rfl
theorem tf132_3 : fieldL Tryd.prog 132 3 = some (3,126) := by kernel_rfl
theorem tf132_4 : fieldL Tryd.prog 132 4 = some (4,5) := by kernel_rfl
theorem tf132_5 : fieldL Tryd.prog 132 5 = some (5,5) := by kernel_rfl
theorem tf132_6 : fieldL Tryd.prog 132 6 = some (6,127) := by kernel_rfl
theorem tf132_9 : fieldL Tryd.prog 132 9 = some (9,130) := by kernel_rfl
theorem tf132_10 : fieldL Tryd.prog 132 10 = some (10,131) := by kernel_rfl
theorem tl132 (cs : List LV) : loadL Tryd.prog 132 cs = if 11 ≤ cs.length then some (.agg (cs.take 11)) else none := rfl
theorem ts132 : sizeL Tryd.prog 132 = 11 := by kernel_rfl
theorem tb132 : bytesL Tryd.prog 132 = 48 := by kernel_rfl
theorem tz132 : zeroOk Tryd.prog 132 = true := by kernel_rfl
theorem to132 : okT Tryd.prog 132 = true := by kernel_rfl
theorem tadd64 : extAdd Tryd.prog = none := by kernel_rfl
end Go.Proofs.YtbffcndmcaeamaaDoor
