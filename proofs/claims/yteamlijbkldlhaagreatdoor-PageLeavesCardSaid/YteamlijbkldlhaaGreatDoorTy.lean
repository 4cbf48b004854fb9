import Derived.Test.YteamlijbkldlhaaGreatDoorProg
import Derived.Test.YteamlijbkldlhaaGreatDoorL11
set_option maxRecDepth 100000
set_option linter.unusedSimpArgs false
set_option linter.unusedVariables false
namespace Go.Proofs.YteamlijbkldlhaaGreatDoor
theorem tl2 (cs : List LV) : loadL Tryz.prog 2 cs = cs.head? := rfl
theorem ts2 : sizeL Tryz.prog 2 = 1 := by kernel_rfl
theorem tb2 : bytesL Tryz.prog 2 = 8 := by kernel_rfl
theorem tz2 : zeroOk Tryz.prog 2 = true := by kernel_rfl
theorem to2 : okT Tryz.prog 2 = true := by kernel_rfl
theorem tn2 : zeroL Tryz.prog 2 = some [.lit (.int .i64 0)] := rfl
theorem tl3 (cs : List LV) : loadL Tryz.prog 3 cs = cs.head? := rfl
theorem ts3 : sizeL Tryz.prog 3 = 1 := by kernel_rfl
theorem tb3 : bytesL Tryz.prog 3 = 8 := by kernel_rfl
theorem tz3 : zeroOk Tryz.prog 3 = true := by kernel_rfl
theorem to3 : okT Tryz.prog 3 = true := by kernel_rfl
theorem tn3 : zeroL Tryz.prog 3 = some [.lit (.int .i64 0)] := rfl
theorem tl4 (cs : List LV) : loadL Tryz.prog 4 cs = cs.head? := rfl
theorem ts4 : sizeL Tryz.prog 4 = 1 := by kernel_rfl
theorem tb4 : bytesL Tryz.prog 4 = 1 := by kernel_rfl
theorem tz4 : zeroOk Tryz.prog 4 = true := by kernel_rfl
theorem to4 : okT Tryz.prog 4 = true := by kernel_rfl
theorem tn4 : zeroL Tryz.prog 4 = some [.lit (.bool false)] := rfl
theorem tl5 (cs : List LV) : loadL Tryz.prog 5 cs = cs.head? := rfl
theorem ts5 : sizeL Tryz.prog 5 = 1 := by kernel_rfl
theorem tb5 : bytesL Tryz.prog 5 = 1 := by kernel_rfl
theorem tz5 : zeroOk Tryz.prog 5 = true := by kernel_rfl
theorem to5 : okT Tryz.prog 5 = true := by kernel_rfl
theorem tn5 : zeroL Tryz.prog 5 = some [.lit (.int .u8 0)] := rfl
theorem tl9 (cs : List LV) : loadL Tryz.prog 9 cs = cs.head? := rfl
theorem ts9 : sizeL Tryz.prog 9 = 1 := by kernel_rfl
theorem tb9 : bytesL Tryz.prog 9 = 16 := by kernel_rfl
theorem tz9 : zeroOk Tryz.prog 9 = true := by kernel_rfl
theorem to9 : okT Tryz.prog 9 = true := by kernel_rfl
theorem tn9 : zeroL Tryz.prog 9 = some [.lit (.string ⟨#[]⟩)] := rfl
theorem tl12 (cs : List LV) : loadL Tryz.prog 12 cs = cs.head? := rfl
theorem ts12 : sizeL Tryz.prog 12 = 1 := by kernel_rfl
theorem tb12 : bytesL Tryz.prog 12 = 8 := by kernel_rfl
theorem tz12 : zeroOk Tryz.prog 12 = true := by kernel_rfl
theorem to12 : okT Tryz.prog 12 = true := by kernel_rfl
theorem tn12 : zeroL Tryz.prog 12 = some [.lit (.int .u64 0)] := rfl
theorem tl21 (cs : List LV) : loadL Tryz.prog 21 cs = cs.head? := rfl
theorem ts21 : sizeL Tryz.prog 21 = 1 := by kernel_rfl
theorem tb21 : bytesL Tryz.prog 21 = 4 := by kernel_rfl
theorem tz21 : zeroOk Tryz.prog 21 = true := by kernel_rfl
theorem to21 : okT Tryz.prog 21 = true := by kernel_rfl
theorem tn21 : zeroL Tryz.prog 21 = some [.lit (.int .i32 0)] := rfl
theorem tl22 (cs : List LV) : loadL Tryz.prog 22 cs = cs.head? := rfl
theorem ts22 : sizeL Tryz.prog 22 = 1 := by kernel_rfl
theorem tb22 : bytesL Tryz.prog 22 = 24 := by kernel_rfl
theorem tz22 : zeroOk Tryz.prog 22 = true := by kernel_rfl
theorem to22 : okT Tryz.prog 22 = true := by kernel_rfl
theorem tn22 : zeroL Tryz.prog 22 = some [.sl 0 [] .nil] := rfl
theorem te22 : elemL Tryz.prog 22 = some (83,2) := by kernel_rfl
theorem tl23 (cs : List LV) : loadL Tryz.prog 23 cs = cs.head? := rfl
theorem ts23 : sizeL Tryz.prog 23 = 1 := by kernel_rfl
theorem tb23 : bytesL Tryz.prog 23 = 24 := by kernel_rfl
theorem tz23 : zeroOk Tryz.prog 23 = true := by kernel_rfl
theorem to23 : okT Tryz.prog 23 = true := by kernel_rfl
theorem tn23 : zeroL Tryz.prog 23 = some [.sl 0 [] .nil] := rfl
theorem te23 : elemL Tryz.prog 23 = some (86,3) := by kernel_rfl
theorem tf24_0 : fieldL Tryz.prog 24 0 = some (0,3) := by kernel_rfl
theorem tf24_1 : fieldL Tryz.prog 24 1 = some (1,3) := by kernel_rfl
theorem tf24_2 : fieldL Tryz.prog 24 2 = some (2,3) := by kernel_rfl
theorem tf24_3 : fieldL Tryz.prog 24 3 = some (3,2) := by kernel_rfl
theorem tf24_4 : fieldL Tryz.prog 24 4 = some (4,22) := by kernel_rfl
theorem tf24_5 : fieldL Tryz.prog 24 5 = some (5,23) := by kernel_rfl
theorem tl24 (cs : List LV) : loadL Tryz.prog 24 cs = if 6 ≤ cs.length then some (.agg (cs.take 6)) else none := rfl
theorem ts24 : sizeL Tryz.prog 24 = 6 := by kernel_rfl
theorem tb24 : bytesL Tryz.prog 24 = 80 := by kernel_rfl
theorem tz24 : zeroOk Tryz.prog 24 = true := by kernel_rfl
theorem to24 : okT Tryz.prog 24 = true := by kernel_rfl
theorem tn24 : zeroL Tryz.prog 24 = some [.lit (.int .i64 0),.lit (.int .i64 0),.lit (.int .i64 0),.lit (.int .i64 0),.sl 0 [] .nil,.sl 0 [] .nil] := rfl
theorem tu24 (parts : List (Nat × LV)) : buildL Tryz.prog 24 parts = (fillL (fun j => [(0,1),(1,1),(2,1),(3,1),(4,1),(5,1)][j]?) [.lit (.int .i64 0),.lit (.int .i64 0),.lit (.int .i64 0),.lit (.int .i64 0),.sl 0 [] .nil,.sl 0 [] .nil] parts).map .agg := rfl
theorem tf25_0 : fieldL Tryz.prog 25 0 = some (0,3) := by kernel_rfl
theorem tf25_1 : fieldL Tryz.prog 25 1 = some (1,3) := by kernel_rfl
theorem tf25_2 : fieldL Tryz.prog 25 2 = some (2,3) := by kernel_rfl
theorem tf25_3 : fieldL Tryz.prog 25 3 = some (3,2) := by kernel_rfl
theorem tf25_4 : fieldL Tryz.prog 25 4 = some (4,22) := by kernel_rfl
theorem tf25_5 : fieldL Tryz.prog 25 5 = some (5,23) := by kernel_rfl
theorem tl25 (cs : List LV) : loadL Tryz.prog 25 cs = if 6 ≤ cs.length then some (.agg (cs.take 6)) else none := rfl
theorem ts25 : sizeL Tryz.prog 25 = 6 := by kernel_rfl
theorem tb25 : bytesL Tryz.prog 25 = 80 := by kernel_rfl
theorem tz25 : zeroOk Tryz.prog 25 = true := by kernel_rfl
theorem to25 : okT Tryz.prog 25 = true := by kernel_rfl
theorem tn25 : zeroL Tryz.prog 25 = some [.lit (.int .i64 0),.lit (.int .i64 0),.lit (.int .i64 0),.lit (.int .i64 0),.sl 0 [] .nil,.sl 0 [] .nil] := rfl
theorem tu25 (parts : List (Nat × LV)) : buildL Tryz.prog 25 parts = (fillL (fun j => [(0,1),(1,1),(2,1),(3,1),(4,1),(5,1)][j]?) [.lit (.int .i64 0),.lit (.int .i64 0),.lit (.int .i64 0),.lit (.int .i64 0),.sl 0 [] .nil,.sl 0 [] .nil] parts).map .agg := rfl
theorem tl26 (cs : List LV) : loadL Tryz.prog 26 cs = cs.head? := rfl
theorem ts26 : sizeL Tryz.prog 26 = 1 := by kernel_rfl
theorem tb26 : bytesL Tryz.prog 26 = 24 := by kernel_rfl
theorem tz26 : zeroOk Tryz.prog 26 = true := by kernel_rfl
theorem to26 : okT Tryz.prog 26 = true := by kernel_rfl
theorem tn26 : zeroL Tryz.prog 26 = some [.sl 0 [] .nil] := rfl
theorem te26 : elemL Tryz.prog 26 = some (33,2) := by kernel_rfl
theorem tf27_0 : fieldL Tryz.prog 27 0 = some (0,3) := by kernel_rfl
theorem tf27_1 : fieldL Tryz.prog 27 1 = some (1,25) := by kernel_rfl
theorem tf27_2 : fieldL Tryz.prog 27 2 = some (7,2) := by kernel_rfl
theorem tf27_3 : fieldL Tryz.prog 27 3 = some (8,26) := by kernel_rfl
theorem tf27_4 : fieldL Tryz.prog 27 4 = some (9,9) := by kernel_rfl
theorem tf27_5 : fieldL Tryz.prog 27 5 = some (10,3) := by kernel_rfl
theorem tf27_6 : fieldL Tryz.prog 27 6 = some (11,3) := by kernel_rfl
theorem tl27 (cs : List LV) : loadL Tryz.prog 27 cs = if 12 ≤ cs.length then some (.agg (cs.take 12)) else none := rfl
theorem ts27 : sizeL Tryz.prog 27 = 12 := by kernel_rfl
theorem tb27 : bytesL Tryz.prog 27 = 152 := by kernel_rfl
theorem tz27 : zeroOk Tryz.prog 27 = true := by kernel_rfl
theorem to27 : okT Tryz.prog 27 = true := by kernel_rfl
theorem tn27 : zeroL Tryz.prog 27 = some [.lit (.int .i64 0),.lit (.int .i64 0),.lit (.int .i64 0),.lit (.int .i64 0),.lit (.int .i64 0),.sl 0 [] .nil,.sl 0 [] .nil,.lit (.int .i64 0),.sl 0 [] .nil,.lit (.string ⟨#[]⟩),.lit (.int .i64 0),.lit (.int .i64 0)] := rfl
theorem tu27 (parts : List (Nat × LV)) : buildL Tryz.prog 27 parts = (fillL (fun j => [(0,1),(1,6),(7,1),(8,1),(9,1),(10,1),(11,1)][j]?) [.lit (.int .i64 0),.lit (.int .i64 0),.lit (.int .i64 0),.lit (.int .i64 0),.lit (.int .i64 0),.sl 0 [] .nil,.sl 0 [] .nil,.lit (.int .i64 0),.sl 0 [] .nil,.lit (.string ⟨#[]⟩),.lit (.int .i64 0),.lit (.int .i64 0)] parts).map .agg := rfl
theorem tf28_0 : fieldL Tryz.prog 28 0 = some (0,3) := by kernel_rfl
theorem tf28_1 : fieldL Tryz.prog 28 1 = some (1,25) := by kernel_rfl
theorem tf28_2 : fieldL Tryz.prog 28 2 = some (7,2) := by kernel_rfl
theorem tf28_3 : fieldL Tryz.prog 28 3 = some (8,26) := by kernel_rfl
theorem tf28_4 : fieldL Tryz.prog 28 4 = some (9,9) := by kernel_rfl
theorem tf28_5 : fieldL Tryz.prog 28 5 = some (10,3) := by kernel_rfl
theorem tf28_6 : fieldL Tryz.prog 28 6 = some (11,3) := by kernel_rfl
theorem tl28 (cs : List LV) : loadL Tryz.prog 28 cs = if 12 ≤ cs.length then some (.agg (cs.take 12)) else none := rfl
theorem ts28 : sizeL Tryz.prog 28 = 12 := by kernel_rfl
theorem tb28 : bytesL Tryz.prog 28 = 152 := by kernel_rfl
theorem tz28 : zeroOk Tryz.prog 28 = true := by kernel_rfl
theorem to28 : okT Tryz.prog 28 = true := by kernel_rfl
theorem tn28 : zeroL Tryz.prog 28 = some [.lit (.int .i64 0),.lit (.int .i64 0),.lit (.int .i64 0),.lit (.int .i64 0),.lit (.int .i64 0),.sl 0 [] .nil,.sl 0 [] .nil,.lit (.int .i64 0),.sl 0 [] .nil,.lit (.string ⟨#[]⟩),.lit (.int .i64 0),.lit (.int .i64 0)] := rfl
theorem tu28 (parts : List (Nat × LV)) : buildL Tryz.prog 28 parts = (fillL (fun j => [(0,1),(1,6),(7,1),(8,1),(9,1),(10,1),(11,1)][j]?) [.lit (.int .i64 0),.lit (.int .i64 0),.lit (.int .i64 0),.lit (.int .i64 0),.lit (.int .i64 0),.sl 0 [] .nil,.sl 0 [] .nil,.lit (.int .i64 0),.sl 0 [] .nil,.lit (.string ⟨#[]⟩),.lit (.int .i64 0),.lit (.int .i64 0)] parts).map .agg := rfl
theorem tl31 (cs : List LV) : loadL Tryz.prog 31 cs = cs.head? := rfl
theorem ts31 : sizeL Tryz.prog 31 = 1 := by kernel_rfl
theorem tb31 : bytesL Tryz.prog 31 = 24 := by kernel_rfl
theorem tz31 : zeroOk Tryz.prog 31 = true := by kernel_rfl
theorem to31 : okT Tryz.prog 31 = true := by kernel_rfl
theorem tn31 : zeroL Tryz.prog 31 = some [.sl 0 [] .nil] := rfl
theorem te31 : elemL Tryz.prog 31 = some (5,1) := by kernel_rfl
theorem tf32_0 : fieldL Tryz.prog 32 0 = some (0,2) := by kernel_rfl
theorem tf32_1 : fieldL Tryz.prog 32 1 = some (1,9) := by kernel_rfl
theorem tl32 (cs : List LV) : loadL Tryz.prog 32 cs = if 2 ≤ cs.length then some (.agg (cs.take 2)) else none := rfl
theorem ts32 : sizeL Tryz.prog 32 = 2 := by kernel_rfl
theorem tb32 : bytesL Tryz.prog 32 = 24 := by kernel_rfl
theorem tz32 : zeroOk Tryz.prog 32 = true := by kernel_rfl
theorem to32 : okT Tryz.prog 32 = true := by kernel_rfl
theorem tq32 : eqKinds Tryz.prog 32 = some [(0,0),(1,1)] := by kernel_rfl
theorem tn32 : zeroL Tryz.prog 32 = some [.lit (.int .i64 0),.lit (.string ⟨#[]⟩)] := rfl
theorem tu32 (parts : List (Nat × LV)) : buildL Tryz.prog 32 parts = (fillL (fun j => [(0,1),(1,1)][j]?) [.lit (.int .i64 0),.lit (.string ⟨#[]⟩)] parts).map .agg := rfl
theorem tf33_0 : fieldL Tryz.prog 33 0 = some (0,2) := by kernel_rfl
theorem tf33_1 : fieldL Tryz.prog 33 1 = some (1,9) := by kernel_rfl
theorem tl33 (cs : List LV) : loadL Tryz.prog 33 cs = if 2 ≤ cs.length then some (.agg (cs.take 2)) else none := rfl
theorem ts33 : sizeL Tryz.prog 33 = 2 := by kernel_rfl
theorem tb33 : bytesL Tryz.prog 33 = 24 := by kernel_rfl
theorem tz33 : zeroOk Tryz.prog 33 = true := by kernel_rfl
theorem to33 : okT Tryz.prog 33 = true := by kernel_rfl
theorem tq33 : eqKinds Tryz.prog 33 = some [(0,0),(1,1)] := by kernel_rfl
theorem tn33 : zeroL Tryz.prog 33 = some [.lit (.int .i64 0),.lit (.string ⟨#[]⟩)] := rfl
theorem tu33 (parts : List (Nat × LV)) : buildL Tryz.prog 33 parts = (fillL (fun j => [(0,1),(1,1)][j]?) [.lit (.int .i64 0),.lit (.string ⟨#[]⟩)] parts).map .agg := rfl
theorem tf37_0 : fieldL Tryz.prog 37 0 = some (0,9) := by kernel_rfl
theorem tf37_1 : fieldL Tryz.prog 37 1 = some (1,3) := by kernel_rfl
theorem tf37_2 : fieldL Tryz.prog 37 2 = some (2,28) := by kernel_rfl
theorem tf37_3 : fieldL Tryz.prog 37 3 = some (14,3) := by kernel_rfl
theorem tl37 (cs : List LV) : loadL Tryz.prog 37 cs = if 15 ≤ cs.length then some (.agg (cs.take 15)) else none := rfl
theorem ts37 : sizeL Tryz.prog 37 = 15 := by kernel_rfl
theorem tb37 : bytesL Tryz.prog 37 = 184 := by kernel_rfl
theorem tz37 : zeroOk Tryz.prog 37 = true := by kernel_rfl
theorem to37 : okT Tryz.prog 37 = true := by kernel_rfl
theorem tn37 : zeroL Tryz.prog 37 = some [.lit (.string ⟨#[]⟩),.lit (.int .i64 0),.lit (.int .i64 0),.lit (.int .i64 0),.lit (.int .i64 0),.lit (.int .i64 0),.lit (.int .i64 0),.sl 0 [] .nil,.sl 0 [] .nil,.lit (.int .i64 0),.sl 0 [] .nil,.lit (.string ⟨#[]⟩),.lit (.int .i64 0),.lit (.int .i64 0),.lit (.int .i64 0)] := rfl
theorem tu37 (parts : List (Nat × LV)) : buildL Tryz.prog 37 parts = (fillL (fun j => [(0,1),(1,1),(2,12),(14,1)][j]?) [.lit (.string ⟨#[]⟩),.lit (.int .i64 0),.lit (.int .i64 0),.lit (.int .i64 0),.lit (.int .i64 0),.lit (.int .i64 0),.lit (.int .i64 0),.sl 0 [] .nil,.sl 0 [] .nil,.lit (.int .i64 0),.sl 0 [] .nil,.lit (.string ⟨#[]⟩),.lit (.int .i64 0),.lit (.int .i64 0),.lit (.int .i64 0)] parts).map .agg := rfl
theorem tf38_0 : fieldL Tryz.prog 38 0 = some (0,9) := by kernel_rfl
theorem tf38_1 : fieldL Tryz.prog 38 1 = some (1,3) := by kernel_rfl
theorem tf38_2 : fieldL Tryz.prog 38 2 = some (2,28) := by kernel_rfl
theorem tf38_3 : fieldL Tryz.prog 38 3 = some (14,3) := by kernel_rfl
theorem tl38 (cs : List LV) : loadL Tryz.prog 38 cs = if 15 ≤ cs.length then some (.agg (cs.take 15)) else none := rfl
theorem ts38 : sizeL Tryz.prog 38 = 15 := by kernel_rfl
theorem tb38 : bytesL Tryz.prog 38 = 184 := by kernel_rfl
theorem tz38 : zeroOk Tryz.prog 38 = true := by kernel_rfl
theorem to38 : okT Tryz.prog 38 = true := by kernel_rfl
theorem tn38 : zeroL Tryz.prog 38 = some [.lit (.string ⟨#[]⟩),.lit (.int .i64 0),.lit (.int .i64 0),.lit (.int .i64 0),.lit (.int .i64 0),.lit (.int .i64 0),.lit (.int .i64 0),.sl 0 [] .nil,.sl 0 [] .nil,.lit (.int .i64 0),.sl 0 [] .nil,.lit (.string ⟨#[]⟩),.lit (.int .i64 0),.lit (.int .i64 0),.lit (.int .i64 0)] := rfl
theorem tu38 (parts : List (Nat × LV)) : buildL Tryz.prog 38 parts = (fillL (fun j => [(0,1),(1,1),(2,12),(14,1)][j]?) [.lit (.string ⟨#[]⟩),.lit (.int .i64 0),.lit (.int .i64 0),.lit (.int .i64 0),.lit (.int .i64 0),.lit (.int .i64 0),.lit (.int .i64 0),.sl 0 [] .nil,.sl 0 [] .nil,.lit (.int .i64 0),.sl 0 [] .nil,.lit (.string ⟨#[]⟩),.lit (.int .i64 0),.lit (.int .i64 0),.lit (.int .i64 0)] parts).map .agg := rfl
theorem tl40 (cs : List LV) : loadL Tryz.prog 40 cs = cs.head? := rfl
theorem ts40 : sizeL Tryz.prog 40 = 1 := by kernel_rfl
theorem tb40 : bytesL Tryz.prog 40 = 24 := by kernel_rfl
theorem tz40 : zeroOk Tryz.prog 40 = true := by kernel_rfl
theorem to40 : okT Tryz.prog 40 = true := by kernel_rfl
theorem tn40 : zeroL Tryz.prog 40 = some [.sl 0 [] .nil] := rfl
theorem te40 : elemL Tryz.prog 40 = some (38,15) := by kernel_rfl
theorem tl41 (cs : List LV) : loadL Tryz.prog 41 cs = cs.head? := rfl
theorem ts41 : sizeL Tryz.prog 41 = 1 := by kernel_rfl
theorem tb41 : bytesL Tryz.prog 41 = 24 := by kernel_rfl
theorem tz41 : zeroOk Tryz.prog 41 = true := by kernel_rfl
theorem to41 : okT Tryz.prog 41 = true := by kernel_rfl
theorem tn41 : zeroL Tryz.prog 41 = some [.sl 0 [] .nil] := rfl
theorem te41 : elemL Tryz.prog 41 = some (9,1) := by kernel_rfl
theorem tl42 (cs : List LV) : loadL Tryz.prog 42 cs = cs.head? := rfl
theorem ts42 : sizeL Tryz.prog 42 = 1 := by kernel_rfl
theorem tb42 : bytesL Tryz.prog 42 = 24 := by kernel_rfl
theorem tz42 : zeroOk Tryz.prog 42 = true := by kernel_rfl
theorem to42 : okT Tryz.prog 42 = true := by kernel_rfl
theorem tn42 : zeroL Tryz.prog 42 = some [.sl 0 [] .nil] := rfl
theorem te42 : elemL Tryz.prog 42 = some (3,1) := by kernel_rfl
theorem tf43_0 : fieldL Tryz.prog 43 0 = some (0,4) := by kernel_rfl
theorem tf43_1 : fieldL Tryz.prog 43 1 = some (1,40) := by kernel_rfl
theorem tf43_2 : fieldL Tryz.prog 43 2 = some (2,41) := by kernel_rfl
theorem tf43_3 : fieldL Tryz.prog 43 3 = some (3,42) := by kernel_rfl
theorem tl43 (cs : List LV) : loadL Tryz.prog 43 cs = if 4 ≤ cs.length then some (.agg (cs.take 4)) else none := rfl
theorem ts43 : sizeL Tryz.prog 43 = 4 := by kernel_rfl
theorem tb43 : bytesL Tryz.prog 43 = 80 := by kernel_rfl
theorem tz43 : zeroOk Tryz.prog 43 = true := by kernel_rfl
theorem to43 : okT Tryz.prog 43 = true := by kernel_rfl
theorem tn43 : zeroL Tryz.prog 43 = some [.lit (.bool false),.sl 0 [] .nil,.sl 0 [] .nil,.sl 0 [] .nil] := rfl
theorem tu43 (parts : List (Nat × LV)) : buildL Tryz.prog 43 parts = (fillL (fun j => [(0,1),(1,1),(2,1),(3,1)][j]?) [.lit (.bool false),.sl 0 [] .nil,.sl 0 [] .nil,.sl 0 [] .nil] parts).map .agg := rfl
theorem tf44_0 : fieldL Tryz.prog 44 0 = some (0,4) := by kernel_rfl
theorem tf44_1 : fieldL Tryz.prog 44 1 = some (1,40) := by kernel_rfl
theorem tf44_2 : fieldL Tryz.prog 44 2 = some (2,41) := by kernel_rfl
theorem tf44_3 : fieldL Tryz.prog 44 3 = some (3,42) := by kernel_rfl
theorem tl44 (cs : List LV) : loadL Tryz.prog 44 cs = if 4 ≤ cs.length then some (.agg (cs.take 4)) else none := rfl
theorem ts44 : sizeL Tryz.prog 44 = 4 := by kernel_rfl
theorem tb44 : bytesL Tryz.prog 44 = 80 := by kernel_rfl
theorem tz44 : zeroOk Tryz.prog 44 = true := by kernel_rfl
theorem to44 : okT Tryz.prog 44 = true := by kernel_rfl
theorem tn44 : zeroL Tryz.prog 44 = some [.lit (.bool false),.sl 0 [] .nil,.sl 0 [] .nil,.sl 0 [] .nil] := rfl
theorem tu44 (parts : List (Nat × LV)) : buildL Tryz.prog 44 parts = (fillL (fun j => [(0,1),(1,1),(2,1),(3,1)][j]?) [.lit (.bool false),.sl 0 [] .nil,.sl 0 [] .nil,.sl 0 [] .nil] parts).map .agg := rfl
theorem tf52_0 : fieldL Tryz.prog 52 0 = some (0,4) := by kernel_rfl
theorem tf52_1 : fieldL Tryz.prog 52 1 = some (1,40) := by kernel_rfl
theorem tf52_2 : fieldL Tryz.prog 52 2 = some (2,41) := by kernel_rfl
theorem tf52_3 : fieldL Tryz.prog 52 3 = some (3,42) := by kernel_rfl
theorem tl52 (cs : List LV) : loadL Tryz.prog 52 cs = if 4 ≤ cs.length then some (.agg (cs.take 4)) else none := rfl
theorem ts52 : sizeL Tryz.prog 52 = 4 := by kernel_rfl
theorem tb52 : bytesL Tryz.prog 52 = 80 := by kernel_rfl
theorem tz52 : zeroOk Tryz.prog 52 = true := by kernel_rfl
theorem to52 : okT Tryz.prog 52 = true := by kernel_rfl
theorem tn52 : zeroL Tryz.prog 52 = some [.lit (.bool false),.sl 0 [] .nil,.sl 0 [] .nil,.sl 0 [] .nil] := rfl
theorem tu52 (parts : List (Nat × LV)) : buildL Tryz.prog 52 parts = (fillL (fun j => [(0,1),(1,1),(2,1),(3,1)][j]?) [.lit (.bool false),.sl 0 [] .nil,.sl 0 [] .nil,.sl 0 [] .nil] parts).map .agg := rfl
theorem tf54_0 : fieldL Tryz.prog 54 0 = some (0,4) := by kernel_rfl
theorem tf54_1 : fieldL Tryz.prog 54 1 = some (1,40) := by kernel_rfl
theorem tf54_2 : fieldL Tryz.prog 54 2 = some (2,41) := by kernel_rfl
theorem tf54_3 : fieldL Tryz.prog 54 3 = some (3,42) := by kernel_rfl
theorem tl54 (cs : List LV) : loadL Tryz.prog 54 cs = if 4 ≤ cs.length then some (.agg (cs.take 4)) else none := rfl
theorem ts54 : sizeL Tryz.prog 54 = 4 := by kernel_rfl
theorem tb54 : bytesL Tryz.prog 54 = 80 := by kernel_rfl
theorem tz54 : zeroOk Tryz.prog 54 = true := by kernel_rfl
theorem to54 : okT Tryz.prog 54 = true := by kernel_rfl
theorem tn54 : zeroL Tryz.prog 54 = some [.lit (.bool false),.sl 0 [] .nil,.sl 0 [] .nil,.sl 0 [] .nil] := rfl
theorem tu54 (parts : List (Nat × LV)) : buildL Tryz.prog 54 parts = (fillL (fun j => [(0,1),(1,1),(2,1),(3,1)][j]?) [.lit (.bool false),.sl 0 [] .nil,.sl 0 [] .nil,.sl 0 [] .nil] parts).map .agg := rfl
theorem tl64 (cs : List LV) : loadL Tryz.prog 64 cs = cs.head? := rfl
theorem ts64 : sizeL Tryz.prog 64 = 1 := by kernel_rfl
theorem tb64 : bytesL Tryz.prog 64 = 8 := by kernel_rfl
theorem tz64 : zeroOk Tryz.prog 64 = true := by kernel_rfl
theorem to64 : okT Tryz.prog 64 = true := by kernel_rfl
theorem tn64 : zeroL Tryz.prog 64 = some [.lit (.int .u64 0)] := rfl
theorem tl68 (cs : List LV) : loadL Tryz.prog 68 cs = cs.head? := rfl
theorem ts68 : sizeL Tryz.prog 68 = 1 := by kernel_rfl
theorem tb68 : bytesL Tryz.prog 68 = 24 := by kernel_rfl
theorem tz68 : zeroOk Tryz.prog 68 = true := by kernel_rfl
theorem to68 : okT Tryz.prog 68 = true := by kernel_rfl
theorem tn68 : zeroL Tryz.prog 68 = some [.sl 0 [] .nil] := rfl
theorem te68 : elemL Tryz.prog 68 = some (115,2) := by kernel_rfl
theorem tl69 (cs : List LV) : loadL Tryz.prog 69 cs = cs.head? := rfl
theorem ts69 : sizeL Tryz.prog 69 = 1 := by kernel_rfl
theorem tb69 : bytesL Tryz.prog 69 = 24 := by kernel_rfl
theorem tz69 : zeroOk Tryz.prog 69 = true := by kernel_rfl
theorem to69 : okT Tryz.prog 69 = true := by kernel_rfl
theorem tn69 : zeroL Tryz.prog 69 = some [.sl 0 [] .nil] := rfl
theorem te69 : elemL Tryz.prog 69 = some (28,12) := by kernel_rfl
theorem tf70_0 : fieldL Tryz.prog 70 0 = some (0,68) := by kernel_rfl
theorem tf70_1 : fieldL Tryz.prog 70 1 = some (1,69) := by kernel_rfl
theorem tl70 (cs : List LV) : loadL Tryz.prog 70 cs = if 2 ≤ cs.length then some (.agg (cs.take 2)) else none := rfl
theorem ts70 : sizeL Tryz.prog 70 = 2 := by kernel_rfl
theorem tb70 : bytesL Tryz.prog 70 = 48 := by kernel_rfl
theorem tz70 : zeroOk Tryz.prog 70 = true := by kernel_rfl
theorem to70 : okT Tryz.prog 70 = true := by kernel_rfl
theorem tn70 : zeroL Tryz.prog 70 = some [.sl 0 [] .nil,.sl 0 [] .nil] := rfl
theorem tu70 (parts : List (Nat × LV)) : buildL Tryz.prog 70 parts = (fillL (fun j => [(0,1),(1,1)][j]?) [.sl 0 [] .nil,.sl 0 [] .nil] parts).map .agg := rfl
theorem tf71_0 : fieldL Tryz.prog 71 0 = some (0,68) := by kernel_rfl
theorem tf71_1 : fieldL Tryz.prog 71 1 = some (1,69) := by kernel_rfl
theorem tl71 (cs : List LV) : loadL Tryz.prog 71 cs = if 2 ≤ cs.length then some (.agg (cs.take 2)) else none := rfl
theorem ts71 : sizeL Tryz.prog 71 = 2 := by kernel_rfl
theorem tb71 : bytesL Tryz.prog 71 = 48 := by kernel_rfl
theorem tz71 : zeroOk Tryz.prog 71 = true := by kernel_rfl
theorem to71 : okT Tryz.prog 71 = true := by kernel_rfl
theorem tn71 : zeroL Tryz.prog 71 = some [.sl 0 [] .nil,.sl 0 [] .nil] := rfl
theorem tu71 (parts : List (Nat × LV)) : buildL Tryz.prog 71 parts = (fillL (fun j => [(0,1),(1,1)][j]?) [.sl 0 [] .nil,.sl 0 [] .nil] parts).map .agg := rfl
theorem tf82_0 : fieldL Tryz.prog 82 0 = some (0,9) := by kernel_rfl
theorem tf82_1 : fieldL Tryz.prog 82 1 = some (1,9) := by kernel_rfl
theorem tl82 (cs : List LV) : loadL Tryz.prog 82 cs = if 2 ≤ cs.length then some (.agg (cs.take 2)) else none := rfl
theorem ts82 : sizeL Tryz.prog 82 = 2 := by kernel_rfl
theorem tb82 : bytesL Tryz.prog 82 = 32 := by kernel_rfl
theorem tz82 : zeroOk Tryz.prog 82 = true := by kernel_rfl
theorem to82 : okT Tryz.prog 82 = true := by kernel_rfl
theorem tq82 : eqKinds Tryz.prog 82 = some [(0,1),(1,1)] := by kernel_rfl
theorem tn82 : zeroL Tryz.prog 82 = some [.lit (.string ⟨#[]⟩),.lit (.string ⟨#[]⟩)] := rfl
theorem tu82 (parts : List (Nat × LV)) : buildL Tryz.prog 82 parts = (fillL (fun j => [(0,1),(1,1)][j]?) [.lit (.string ⟨#[]⟩),.lit (.string ⟨#[]⟩)] parts).map .agg := rfl
theorem tf83_0 : fieldL Tryz.prog 83 0 = some (0,9) := by kernel_rfl
theorem tf83_1 : fieldL Tryz.prog 83 1 = some (1,9) := by kernel_rfl
theorem tl83 (cs : List LV) : loadL Tryz.prog 83 cs = if 2 ≤ cs.length then some (.agg (cs.take 2)) else none := rfl
theorem ts83 : sizeL Tryz.prog 83 = 2 := by kernel_rfl
theorem tb83 : bytesL Tryz.prog 83 = 32 := by kernel_rfl
theorem tz83 : zeroOk Tryz.prog 83 = true := by kernel_rfl
theorem to83 : okT Tryz.prog 83 = true := by kernel_rfl
theorem tq83 : eqKinds Tryz.prog 83 = some [(0,1),(1,1)] := by kernel_rfl
theorem tn83 : zeroL Tryz.prog 83 = some [.lit (.string ⟨#[]⟩),.lit (.string ⟨#[]⟩)] := rfl
theorem tu83 (parts : List (Nat × LV)) : buildL Tryz.prog 83 parts = (fillL (fun j => [(0,1),(1,1)][j]?) [.lit (.string ⟨#[]⟩),.lit (.string ⟨#[]⟩)] parts).map .agg := rfl
theorem tf85_0 : fieldL Tryz.prog 85 0 = some (0,3) := by kernel_rfl
theorem tf85_1 : fieldL Tryz.prog 85 1 = some (1,3) := by kernel_rfl
theorem tf85_2 : fieldL Tryz.prog 85 2 = some (2,3) := by kernel_rfl
theorem tl85 (cs : List LV) : loadL Tryz.prog 85 cs = if 3 ≤ cs.length then some (.agg (cs.take 3)) else none := rfl
theorem ts85 : sizeL Tryz.prog 85 = 3 := by kernel_rfl
theorem tb85 : bytesL Tryz.prog 85 = 24 := by kernel_rfl
theorem tz85 : zeroOk Tryz.prog 85 = true := by kernel_rfl
theorem to85 : okT Tryz.prog 85 = true := by kernel_rfl
theorem tq85 : eqKinds Tryz.prog 85 = some [(0,0),(1,0),(2,0)] := by kernel_rfl
theorem tn85 : zeroL Tryz.prog 85 = some [.lit (.int .i64 0),.lit (.int .i64 0),.lit (.int .i64 0)] := rfl
theorem tu85 (parts : List (Nat × LV)) : buildL Tryz.prog 85 parts = (fillL (fun j => [(0,1),(1,1),(2,1)][j]?) [.lit (.int .i64 0),.lit (.int .i64 0),.lit (.int .i64 0)] parts).map .agg := rfl
theorem tf86_0 : fieldL Tryz.prog 86 0 = some (0,3) := by kernel_rfl
theorem tf86_1 : fieldL Tryz.prog 86 1 = some (1,3) := by kernel_rfl
theorem tf86_2 : fieldL Tryz.prog 86 2 = some (2,3) := by kernel_rfl
theorem tl86 (cs : List LV) : loadL Tryz.prog 86 cs = if 3 ≤ cs.length then some (.agg (cs.take 3)) else none := rfl
theorem ts86 : sizeL Tryz.prog 86 = 3 := by kernel_rfl
theorem tb86 : bytesL Tryz.prog 86 = 24 := by kernel_rfl
theorem tz86 : zeroOk Tryz.prog 86 = true := by kernel_rfl
theorem to86 : okT Tryz.prog 86 = true := by kernel_rfl
theorem tq86 : eqKinds Tryz.prog 86 = some [(0,0),(1,0),(2,0)] := by kernel_rfl
theorem tn86 : zeroL Tryz.prog 86 = some [.lit (.int .i64 0),.lit (.int .i64 0),.lit (.int .i64 0)] := rfl
theorem tu86 (parts : List (Nat × LV)) : buildL Tryz.prog 86 parts = (fillL (fun j => [(0,1),(1,1),(2,1)][j]?) [.lit (.int .i64 0),.lit (.int .i64 0),.lit (.int .i64 0)] parts).map .agg := rfl
theorem tl92 (cs : List LV) : loadL Tryz.prog 92 cs = cs.head? := rfl
theorem ts92 : sizeL Tryz.prog 92 = 1 := by kernel_rfl
theorem tb92 : bytesL Tryz.prog 92 = 8 := by kernel_rfl
theorem tz92 : zeroOk Tryz.prog 92 = true := by kernel_rfl
theorem to92 : okT Tryz.prog 92 = true := by kernel_rfl
theorem tn92 : zeroL Tryz.prog 92 = some [.lit (.int .u64 0)] := rfl
theorem tf104_0 : fieldL Tryz.prog 104 0 = some (0,9) := by kernel_rfl
theorem tf104_1 : fieldL Tryz.prog 104 1 = some (1,3) := by kernel_rfl
theorem tf104_2 : fieldL Tryz.prog 104 2 = some (2,4) := by kernel_rfl
theorem tl104 (cs : List LV) : loadL Tryz.prog 104 cs = if 3 ≤ cs.length then some (.agg (cs.take 3)) else none := rfl
theorem ts104 : sizeL Tryz.prog 104 = 3 := by kernel_rfl
theorem tb104 : bytesL Tryz.prog 104 = 32 := by kernel_rfl
theorem tz104 : zeroOk Tryz.prog 104 = true := by kernel_rfl
theorem to104 : okT Tryz.prog 104 = true := by kernel_rfl
theorem tq104 : eqKinds Tryz.prog 104 = some [(0,1),(1,0),(2,2)] := by kernel_rfl
theorem tn104 : zeroL Tryz.prog 104 = some [.lit (.string ⟨#[]⟩),.lit (.int .i64 0),.lit (.bool false)] := rfl
theorem tu104 (parts : List (Nat × LV)) : buildL Tryz.prog 104 parts = (fillL (fun j => [(0,1),(1,1),(2,1)][j]?) [.lit (.string ⟨#[]⟩),.lit (.int .i64 0),.lit (.bool false)] parts).map .agg := rfl
theorem tf105_0 : fieldL Tryz.prog 105 0 = some (0,9) := by kernel_rfl
theorem tf105_1 : fieldL Tryz.prog 105 1 = some (1,3) := by kernel_rfl
theorem tf105_2 : fieldL Tryz.prog 105 2 = some (2,4) := by kernel_rfl
theorem tl105 (cs : List LV) : loadL Tryz.prog 105 cs = if 3 ≤ cs.length then some (.agg (cs.take 3)) else none := rfl
theorem ts105 : sizeL Tryz.prog 105 = 3 := by kernel_rfl
theorem tb105 : bytesL Tryz.prog 105 = 32 := by kernel_rfl
theorem tz105 : zeroOk Tryz.prog 105 = true := by kernel_rfl
theorem to105 : okT Tryz.prog 105 = true := by kernel_rfl
theorem tq105 : eqKinds Tryz.prog 105 = some [(0,1),(1,0),(2,2)] := by kernel_rfl
theorem tn105 : zeroL Tryz.prog 105 = some [.lit (.string ⟨#[]⟩),.lit (.int .i64 0),.lit (.bool false)] := rfl
theorem tu105 (parts : List (Nat × LV)) : buildL Tryz.prog 105 parts = (fillL (fun j => [(0,1),(1,1),(2,1)][j]?) [.lit (.string ⟨#[]⟩),.lit (.int .i64 0),.lit (.bool false)] parts).map .agg := rfl
theorem tf114_0 : fieldL Tryz.prog 114 0 = some (0,9) := by kernel_rfl
theorem tf114_1 : fieldL Tryz.prog 114 1 = some (1,3) := by kernel_rfl
theorem tl114 (cs : List LV) : loadL Tryz.prog 114 cs = if 2 ≤ cs.length then some (.agg (cs.take 2)) else none := rfl
theorem ts114 : sizeL Tryz.prog 114 = 2 := by kernel_rfl
theorem tb114 : bytesL Tryz.prog 114 = 24 := by kernel_rfl
theorem tz114 : zeroOk Tryz.prog 114 = true := by kernel_rfl
theorem to114 : okT Tryz.prog 114 = true := by kernel_rfl
theorem tq114 : eqKinds Tryz.prog 114 = some [(0,1),(1,0)] := by kernel_rfl
theorem tn114 : zeroL Tryz.prog 114 = some [.lit (.string ⟨#[]⟩),.lit (.int .i64 0)] := rfl
theorem tu114 (parts : List (Nat × LV)) : buildL Tryz.prog 114 parts = (fillL (fun j => [(0,1),(1,1)][j]?) [.lit (.string ⟨#[]⟩),.lit (.int .i64 0)] parts).map .agg := rfl
theorem tf115_0 : fieldL Tryz.prog 115 0 = some (0,9) := by kernel_rfl
theorem tf115_1 : fieldL Tryz.prog 115 1 = some (1,3) := by kernel_rfl
theorem tl115 (cs : List LV) : loadL Tryz.prog 115 cs = if 2 ≤ cs.length then some (.agg (cs.take 2)) else none := rfl
theorem ts115 : sizeL Tryz.prog 115 = 2 := by kernel_rfl
theorem tb115 : bytesL Tryz.prog 115 = 24 := by kernel_rfl
theorem tz115 : zeroOk Tryz.prog 115 = true := by kernel_rfl
theorem to115 : okT Tryz.prog 115 = true := by kernel_rfl
theorem tq115 : eqKinds Tryz.prog 115 = some [(0,1),(1,0)] := by kernel_rfl
theorem tn115 : zeroL Tryz.prog 115 = some [.lit (.string ⟨#[]⟩),.lit (.int .i64 0)] := rfl
theorem tu115 (parts : List (Nat × LV)) : buildL Tryz.prog 115 parts = (fillL (fun j => [(0,1),(1,1)][j]?) [.lit (.string ⟨#[]⟩),.lit (.int .i64 0)] parts).map .agg := rfl
theorem tl127 (cs : List LV) : loadL Tryz.prog 127 cs = cs.head? := rfl
theorem ts127 : sizeL Tryz.prog 127 = 1 := by kernel_rfl
theorem tb127 : bytesL Tryz.prog 127 = 24 := by kernel_rfl
theorem tz127 : zeroOk Tryz.prog 127 = true := by kernel_rfl
theorem to127 : okT Tryz.prog 127 = true := by kernel_rfl
theorem tn127 : zeroL Tryz.prog 127 = some [.sl 0 [] .nil] := rfl
theorem te127 : elemL Tryz.prog 127 = some (160,1) := by kernel_rfl
theorem tf132_0 : fieldL Tryz.prog 132 0 = some (0,31) := by kernel_rfl
theorem tf132_1 : fieldL Tryz.prog 132 1 = some (1,3) := by kernel_rfl
theorem tf132_2 : fieldL Tryz.prog 132 2 = some (2,4) := by kernel_rfl
theorem tl132 (cs : List LV) : loadL Tryz.prog 132 cs = if 3 ≤ cs.length then some (.agg (cs.take 3)) else none := rfl
theorem ts132 : sizeL Tryz.prog 132 = 3 := by kernel_rfl
theorem tb132 : bytesL Tryz.prog 132 = 40 := by kernel_rfl
theorem tz132 : zeroOk Tryz.prog 132 = true := by kernel_rfl
theorem to132 : okT Tryz.prog 132 = true := by kernel_rfl
theorem tn132 : zeroL Tryz.prog 132 = some [.sl 0 [] .nil,.lit (.int .i64 0),.lit (.bool false)] := rfl
theorem tu132 (parts : List (Nat × LV)) : buildL Tryz.prog 132 parts = (fillL (fun j => [(0,1),(1,1),(2,1)][j]?) [.sl 0 [] .nil,.lit (.int .i64 0),.lit (.bool false)] parts).map .agg := rfl
theorem tf133_0 : fieldL Tryz.prog 133 0 = some (0,31) := by kernel_rfl
theorem tf133_1 : fieldL Tryz.prog 133 1 = some (1,3) := by kernel_rfl
theorem tf133_2 : fieldL Tryz.prog 133 2 = some (2,4) := by kernel_rfl
theorem tl133 (cs : List LV) : loadL Tryz.prog 133 cs = if 3 ≤ cs.length then some (.agg (cs.take 3)) else none := rfl
theorem ts133 : sizeL Tryz.prog 133 = 3 := by kernel_rfl
theorem tb133 : bytesL Tryz.prog 133 = 40 := by kernel_rfl
theorem tz133 : zeroOk Tryz.prog 133 = true := by kernel_rfl
theorem to133 : okT Tryz.prog 133 = true := by kernel_rfl
theorem tn133 : zeroL Tryz.prog 133 = some [.sl 0 [] .nil,.lit (.int .i64 0),.lit (.bool false)] := rfl
theorem tu133 (parts : List (Nat × LV)) : buildL Tryz.prog 133 parts = (fillL (fun j => [(0,1),(1,1),(2,1)][j]?) [.sl 0 [] .nil,.lit (.int .i64 0),.lit (.bool false)] parts).map .agg := rfl
theorem tl160 (cs : List LV) : loadL Tryz.prog 160 cs = cs.head? := rfl
theorem ts160 : sizeL Tryz.prog 160 = 1 := by kernel_rfl
theorem tb160 : bytesL Tryz.prog 160 = 16 := by kernel_rfl
theorem tz160 : zeroOk Tryz.prog 160 = true := by kernel_rfl
theorem to160 : okT Tryz.prog 160 = true := by kernel_rfl
theorem tn160 : zeroL Tryz.prog 160 = some [.lit (.complex .f64 0 0)] := rfl
theorem tl162 (cs : List LV) : loadL Tryz.prog 162 cs = cs.head? := rfl
theorem ts162 : sizeL Tryz.prog 162 = 1 := by kernel_rfl
theorem tb162 : bytesL Tryz.prog 162 = 24 := by kernel_rfl
theorem tz162 : zeroOk Tryz.prog 162 = true := by kernel_rfl
theorem to162 : okT Tryz.prog 162 = true := by kernel_rfl
theorem tn162 : zeroL Tryz.prog 162 = some [.sl 0 [] .nil] := rfl
theorem te162 : elemL Tryz.prog 162 = some (2,1) := by kernel_rfl
theorem tf173_1 : fieldL Tryz.prog 173 1 = some (1,31) := by kernel_rfl
theorem tl173 (cs : List LV) : loadL Tryz.prog 173 cs = if 2 ≤ cs.length then some (.agg (cs.take 2)) else none := rfl
theorem ts173 : sizeL Tryz.prog 173 = 2 := by kernel_rfl
theorem tb173 : bytesL Tryz.prog 173 = 32 := by kernel_rfl
theorem tz173 : zeroOk Tryz.prog 173 = true := by kernel_rfl
theorem to173 : okT Tryz.prog 173 = true := by kernel_rfl
theorem tf174_1 : fieldL Tryz.prog 174 1 = some (1,31) := by kernel_rfl
theorem tl174 (cs : List LV) : loadL Tryz.prog 174 cs = if 2 ≤ cs.length then some (.agg (cs.take 2)) else none := rfl
theorem ts174 : sizeL Tryz.prog 174 = 2 := by kernel_rfl
theorem tb174 : bytesL Tryz.prog 174 = 32 := by kernel_rfl
theorem tz174 : zeroOk Tryz.prog 174 = true := by kernel_rfl
theorem to174 : okT Tryz.prog 174 = true := by kernel_rfl
theorem tl182 (cs : List LV) : loadL Tryz.prog 182 cs = cs.head? := rfl
theorem ta186 : arrL Tryz.prog 186 = some (24,1) := by kernel_rfl
theorem tx186 : elemL Tryz.prog 186 = none := by kernel_rfl
theorem ts186 : sizeL Tryz.prog 186 = 24 := by kernel_rfl
theorem to186 : okT Tryz.prog 186 = true := by kernel_rfl
theorem tn186 : zeroL Tryz.prog 186 = some (List.replicate 24 (.lit (.int .u8 0))) := by kernel_rfl
theorem tl191 (cs : List LV) : loadL Tryz.prog 191 cs = cs.head? := rfl
theorem ts191 : sizeL Tryz.prog 191 = 1 := by kernel_rfl
theorem tb191 : bytesL Tryz.prog 191 = 4 := by kernel_rfl
theorem tz191 : zeroOk Tryz.prog 191 = true := by kernel_rfl
theorem to191 : okT Tryz.prog 191 = true := by kernel_rfl
theorem tn191 : zeroL Tryz.prog 191 = some [.lit (.int .u32 0)] := rfl
theorem ta198 : arrL Tryz.prog 198 = some (20,1) := by kernel_rfl
theorem tx198 : elemL Tryz.prog 198 = none := by kernel_rfl
theorem ts198 : sizeL Tryz.prog 198 = 20 := by kernel_rfl
theorem to198 : okT Tryz.prog 198 = true := by kernel_rfl
theorem tn198 : zeroL Tryz.prog 198 = some (List.replicate 20 (.lit (.int .u64 0))) := by kernel_rfl
theorem ta199 : arrL Tryz.prog 199 = some (65,1) := by kernel_rfl
theorem tx199 : elemL Tryz.prog 199 = none := by kernel_rfl
theorem ts199 : sizeL Tryz.prog 199 = 65 := by kernel_rfl
theorem to199 : okT Tryz.prog 199 = true := by kernel_rfl
theorem tn199 : zeroL Tryz.prog 199 = some (List.replicate 65 (.lit (.int .u8 0))) := by kernel_rfl
theorem ta206 : arrL Tryz.prog 206 = some (32,1) := by kernel_rfl
theorem tx206 : elemL Tryz.prog 206 = none := by kernel_rfl
theorem ts206 : sizeL Tryz.prog 206 = 32 := by kernel_rfl
theorem to206 : okT Tryz.prog 206 = true := by kernel_rfl
theorem tn206 : zeroL Tryz.prog 206 = some (List.replicate 32 (.lit (.int .u8 0))) := by kernel_rfl
theorem ta207 : arrL Tryz.prog 207 = some (64,1) := by kernel_rfl
theorem tx207 : elemL Tryz.prog 207 = none := by kernel_rfl
theorem ts207 : sizeL Tryz.prog 207 = 64 := by kernel_rfl
theorem to207 : okT Tryz.prog 207 = true := by kernel_rfl
theorem tn207 : zeroL Tryz.prog 207 = some (List.replicate 64 (.lit (.int .u8 0))) := by kernel_rfl
theorem tf218_0 : fieldL Tryz.prog 218 0 = some (0,12) := by kernel_rfl
theorem tf218_1 : fieldL Tryz.prog 218 1 = some (1,12) := by kernel_rfl
theorem tf218_2 : fieldL Tryz.prog 218 2 = some (2,191) := by kernel_rfl
theorem tf218_3 : fieldL Tryz.prog 218 3 = some (3,213) := by kernel_rfl
theorem tf218_4 : fieldL Tryz.prog 218 4 = some (4,5) := by kernel_rfl
theorem tf218_5 : fieldL Tryz.prog 218 5 = some (5,5) := by kernel_rfl
theorem tf218_6 : fieldL Tryz.prog 218 6 = some (6,214) := by kernel_rfl
theorem tf218_9 : fieldL Tryz.prog 218 9 = some (9,216) := by kernel_rfl
theorem tf218_10 : fieldL Tryz.prog 218 10 = some (10,217) := by kernel_rfl
theorem tl218 (cs : List LV) : loadL Tryz.prog 218 cs = if 11 ≤ cs.length then some (.agg (cs.take 11)) else none := rfl
theorem ts218 : sizeL Tryz.prog 218 = 11 := by kernel_rfl
theorem tb218 : bytesL Tryz.prog 218 = 48 := by kernel_rfl
theorem tz218 : zeroOk Tryz.prog 218 = true := by kernel_rfl
theorem to218 : okT Tryz.prog 218 = true := by kernel_rfl
theorem tadd64 : extAdd Tryz.prog = some 98 := by kernel_rfl
end Go.Proofs.YteamlijbkldlhaaGreatDoor
