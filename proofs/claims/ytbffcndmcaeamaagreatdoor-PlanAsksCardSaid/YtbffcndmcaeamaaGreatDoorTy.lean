import Derived.Test.YtbffcndmcaeamaaGreatDoorProg
import Derived.Test.YtbffcndmcaeamaaGreatDoorL11
set_option maxRecDepth 100000
set_option linter.unusedSimpArgs false
set_option linter.unusedVariables false
namespace Go.Proofs.YtbffcndmcaeamaaGreatDoor
theorem tl2 (cs : List LV) : loadL Tryz.prog 2 cs = cs.head? := rfl
theorem ts2 : sizeL Tryz.prog 2 = 1 := by kernel_rfl
theorem tb2 : bytesL Tryz.prog 2 = 8 := by kernel_rfl
theorem tz2 : zeroOk Tryz.prog 2 = true := by kernel_rfl
theorem to2 : okT Tryz.prog 2 = true := by kernel_rfl
theorem tn2 : zeroL Tryz.prog 2 = some [.lit (.int .i64 0)] := rfl
theorem tl3 (cs : List LV) : loadL Tryz.prog 3 cs = cs.head? := rfl
theorem ts3 : sizeL Tryz.prog 3 = 1 := by kernel_rfl
theorem tb3 : bytesL Tryz.prog 3 = 8 := by kernel_rfl
theorem tz3 : zeroOk Tryz.prog 3 = true := by kernel_rfl
theorem to3 : okT Tryz.prog 3 = true := by kernel_rfl
theorem tn3 : zeroL Tryz.prog 3 = some [.lit (.int .i64 0)] := rfl
theorem tl4 (cs : List LV) : loadL Tryz.prog 4 cs = cs.head? := rfl
theorem ts4 : sizeL Tryz.prog 4 = 1 := by kernel_rfl
theorem tb4 : bytesL Tryz.prog 4 = 1 := by kernel_rfl
theorem tz4 : zeroOk Tryz.prog 4 = true := by kernel_rfl
theorem to4 : okT Tryz.prog 4 = true := by kernel_rfl
theorem tn4 : zeroL Tryz.prog 4 = some [.lit (.bool false)] := rfl
theorem tl5 (cs : List LV) : loadL Tryz.prog 5 cs = cs.head? := rfl
theorem ts5 : sizeL Tryz.prog 5 = 1 := by kernel_rfl
theorem tb5 : bytesL Tryz.prog 5 = 1 := by kernel_rfl
theorem tz5 : zeroOk Tryz.prog 5 = true := by kernel_rfl
theorem to5 : okT Tryz.prog 5 = true := by kernel_rfl
theorem tn5 : zeroL Tryz.prog 5 = some [.lit (.int .u8 0)] := rfl
theorem tl9 (cs : List LV) : loadL Tryz.prog 9 cs = cs.head? := rfl
theorem ts9 : sizeL Tryz.prog 9 = 1 := by kernel_rfl
theorem tb9 : bytesL Tryz.prog 9 = 16 := by kernel_rfl
theorem tz9 : zeroOk Tryz.prog 9 = true := by kernel_rfl
theorem to9 : okT Tryz.prog 9 = true := by kernel_rfl
theorem tn9 : zeroL Tryz.prog 9 = some [.lit (.string ⟨#[]⟩)] := rfl
theorem tl12 (cs : List LV) : loadL Tryz.prog 12 cs = cs.head? := rfl
theorem ts12 : sizeL Tryz.prog 12 = 1 := by kernel_rfl
theorem tb12 : bytesL Tryz.prog 12 = 8 := by kernel_rfl
theorem tz12 : zeroOk Tryz.prog 12 = true := by kernel_rfl
theorem to12 : okT Tryz.prog 12 = true := by kernel_rfl
theorem tn12 : zeroL Tryz.prog 12 = some [.lit (.int .u64 0)] := rfl
theorem tl21 (cs : List LV) : loadL Tryz.prog 21 cs = cs.head? := rfl
theorem ts21 : sizeL Tryz.prog 21 = 1 := by kernel_rfl
theorem tb21 : bytesL Tryz.prog 21 = 4 := by kernel_rfl
theorem tz21 : zeroOk Tryz.prog 21 = true := by kernel_rfl
theorem to21 : okT Tryz.prog 21 = true := by kernel_rfl
theorem tn21 : zeroL Tryz.prog 21 = some [.lit (.int .i32 0)] := rfl
theorem tl22 (cs : List LV) : loadL Tryz.prog 22 cs = cs.head? := rfl
theorem ts22 : sizeL Tryz.prog 22 = 1 := by kernel_rfl
theorem tb22 : bytesL Tryz.prog 22 = 24 := by kernel_rfl
theorem tz22 : zeroOk Tryz.prog 22 = true := by kernel_rfl
theorem to22 : okT Tryz.prog 22 = true := by kernel_rfl
theorem tn22 : zeroL Tryz.prog 22 = some [.sl 0 [] .nil] := rfl
theorem te22 : elemL Tryz.prog 22 = some (36,2) := by kernel_rfl
theorem tl23 (cs : List LV) : loadL Tryz.prog 23 cs = cs.head? := rfl
theorem ts23 : sizeL Tryz.prog 23 = 1 := by kernel_rfl
theorem tb23 : bytesL Tryz.prog 23 = 24 := by kernel_rfl
theorem tz23 : zeroOk Tryz.prog 23 = true := by kernel_rfl
theorem to23 : okT Tryz.prog 23 = true := by kernel_rfl
theorem tn23 : zeroL Tryz.prog 23 = some [.sl 0 [] .nil] := rfl
theorem te23 : elemL Tryz.prog 23 = some (44,12) := by kernel_rfl
theorem tf24_0 : fieldL Tryz.prog 24 0 = some (0,22) := by kernel_rfl
theorem tf24_1 : fieldL Tryz.prog 24 1 = some (1,23) := by kernel_rfl
theorem tl24 (cs : List LV) : loadL Tryz.prog 24 cs = if 2 ≤ cs.length then some (.agg (cs.take 2)) else none := rfl
theorem ts24 : sizeL Tryz.prog 24 = 2 := by kernel_rfl
theorem tb24 : bytesL Tryz.prog 24 = 48 := by kernel_rfl
theorem tz24 : zeroOk Tryz.prog 24 = true := by kernel_rfl
theorem to24 : okT Tryz.prog 24 = true := by kernel_rfl
theorem tn24 : zeroL Tryz.prog 24 = some [.sl 0 [] .nil,.sl 0 [] .nil] := rfl
theorem tu24 (parts : List (Nat × LV)) : buildL Tryz.prog 24 parts = (fillL (fun j => [(0,1),(1,1)][j]?) [.sl 0 [] .nil,.sl 0 [] .nil] parts).map .agg := rfl
theorem tf25_0 : fieldL Tryz.prog 25 0 = some (0,22) := by kernel_rfl
theorem tf25_1 : fieldL Tryz.prog 25 1 = some (1,23) := by kernel_rfl
theorem tl25 (cs : List LV) : loadL Tryz.prog 25 cs = if 2 ≤ cs.length then some (.agg (cs.take 2)) else none := rfl
theorem ts25 : sizeL Tryz.prog 25 = 2 := by kernel_rfl
theorem tb25 : bytesL Tryz.prog 25 = 48 := by kernel_rfl
theorem tz25 : zeroOk Tryz.prog 25 = true := by kernel_rfl
theorem to25 : okT Tryz.prog 25 = true := by kernel_rfl
theorem tn25 : zeroL Tryz.prog 25 = some [.sl 0 [] .nil,.sl 0 [] .nil] := rfl
theorem tu25 (parts : List (Nat × LV)) : buildL Tryz.prog 25 parts = (fillL (fun j => [(0,1),(1,1)][j]?) [.sl 0 [] .nil,.sl 0 [] .nil] parts).map .agg := rfl
theorem tl26 (cs : List LV) : loadL Tryz.prog 26 cs = cs.head? := rfl
theorem ts26 : sizeL Tryz.prog 26 = 1 := by kernel_rfl
theorem tb26 : bytesL Tryz.prog 26 = 24 := by kernel_rfl
theorem tz26 : zeroOk Tryz.prog 26 = true := by kernel_rfl
theorem to26 : okT Tryz.prog 26 = true := by kernel_rfl
theorem tn26 : zeroL Tryz.prog 26 = some [.sl 0 [] .nil] := rfl
theorem te26 : elemL Tryz.prog 26 = some (9,1) := by kernel_rfl
theorem tl29 (cs : List LV) : loadL Tryz.prog 29 cs = cs.head? := rfl
theorem ts29 : sizeL Tryz.prog 29 = 1 := by kernel_rfl
theorem tb29 : bytesL Tryz.prog 29 = 24 := by kernel_rfl
theorem tz29 : zeroOk Tryz.prog 29 = true := by kernel_rfl
theorem to29 : okT Tryz.prog 29 = true := by kernel_rfl
theorem tn29 : zeroL Tryz.prog 29 = some [.sl 0 [] .nil] := rfl
theorem te29 : elemL Tryz.prog 29 = some (47,4) := by kernel_rfl
theorem tf35_0 : fieldL Tryz.prog 35 0 = some (0,9) := by kernel_rfl
theorem tf35_1 : fieldL Tryz.prog 35 1 = some (1,3) := by kernel_rfl
theorem tl35 (cs : List LV) : loadL Tryz.prog 35 cs = if 2 ≤ cs.length then some (.agg (cs.take 2)) else none := rfl
theorem ts35 : sizeL Tryz.prog 35 = 2 := by kernel_rfl
theorem tb35 : bytesL Tryz.prog 35 = 24 := by kernel_rfl
theorem tz35 : zeroOk Tryz.prog 35 = true := by kernel_rfl
theorem to35 : okT Tryz.prog 35 = true := by kernel_rfl
theorem tq35 : eqKinds Tryz.prog 35 = some [(0,1),(1,0)] := by kernel_rfl
theorem tn35 : zeroL Tryz.prog 35 = some [.lit (.string ⟨#[]⟩),.lit (.int .i64 0)] := rfl
theorem tu35 (parts : List (Nat × LV)) : buildL Tryz.prog 35 parts = (fillL (fun j => [(0,1),(1,1)][j]?) [.lit (.string ⟨#[]⟩),.lit (.int .i64 0)] parts).map .agg := rfl
theorem tf36_0 : fieldL Tryz.prog 36 0 = some (0,9) := by kernel_rfl
theorem tf36_1 : fieldL Tryz.prog 36 1 = some (1,3) := by kernel_rfl
theorem tl36 (cs : List LV) : loadL Tryz.prog 36 cs = if 2 ≤ cs.length then some (.agg (cs.take 2)) else none := rfl
theorem ts36 : sizeL Tryz.prog 36 = 2 := by kernel_rfl
theorem tb36 : bytesL Tryz.prog 36 = 24 := by kernel_rfl
theorem tz36 : zeroOk Tryz.prog 36 = true := by kernel_rfl
theorem to36 : okT Tryz.prog 36 = true := by kernel_rfl
theorem tq36 : eqKinds Tryz.prog 36 = some [(0,1),(1,0)] := by kernel_rfl
theorem tn36 : zeroL Tryz.prog 36 = some [.lit (.string ⟨#[]⟩),.lit (.int .i64 0)] := rfl
theorem tu36 (parts : List (Nat × LV)) : buildL Tryz.prog 36 parts = (fillL (fun j => [(0,1),(1,1)][j]?) [.lit (.string ⟨#[]⟩),.lit (.int .i64 0)] parts).map .agg := rfl
theorem tl38 (cs : List LV) : loadL Tryz.prog 38 cs = cs.head? := rfl
theorem ts38 : sizeL Tryz.prog 38 = 1 := by kernel_rfl
theorem tb38 : bytesL Tryz.prog 38 = 24 := by kernel_rfl
theorem tz38 : zeroOk Tryz.prog 38 = true := by kernel_rfl
theorem to38 : okT Tryz.prog 38 = true := by kernel_rfl
theorem tn38 : zeroL Tryz.prog 38 = some [.sl 0 [] .nil] := rfl
theorem te38 : elemL Tryz.prog 38 = some (68,2) := by kernel_rfl
theorem tl39 (cs : List LV) : loadL Tryz.prog 39 cs = cs.head? := rfl
theorem ts39 : sizeL Tryz.prog 39 = 1 := by kernel_rfl
theorem tb39 : bytesL Tryz.prog 39 = 24 := by kernel_rfl
theorem tz39 : zeroOk Tryz.prog 39 = true := by kernel_rfl
theorem to39 : okT Tryz.prog 39 = true := by kernel_rfl
theorem tn39 : zeroL Tryz.prog 39 = some [.sl 0 [] .nil] := rfl
theorem te39 : elemL Tryz.prog 39 = some (70,3) := by kernel_rfl
theorem tf40_0 : fieldL Tryz.prog 40 0 = some (0,3) := by kernel_rfl
theorem tf40_1 : fieldL Tryz.prog 40 1 = some (1,3) := by kernel_rfl
theorem tf40_2 : fieldL Tryz.prog 40 2 = some (2,3) := by kernel_rfl
theorem tf40_3 : fieldL Tryz.prog 40 3 = some (3,2) := by kernel_rfl
theorem tf40_4 : fieldL Tryz.prog 40 4 = some (4,38) := by kernel_rfl
theorem tf40_5 : fieldL Tryz.prog 40 5 = some (5,39) := by kernel_rfl
theorem tl40 (cs : List LV) : loadL Tryz.prog 40 cs = if 6 ≤ cs.length then some (.agg (cs.take 6)) else none := rfl
theorem ts40 : sizeL Tryz.prog 40 = 6 := by kernel_rfl
theorem tb40 : bytesL Tryz.prog 40 = 80 := by kernel_rfl
theorem tz40 : zeroOk Tryz.prog 40 = true := by kernel_rfl
theorem to40 : okT Tryz.prog 40 = true := by kernel_rfl
theorem tn40 : zeroL Tryz.prog 40 = some [.lit (.int .i64 0),.lit (.int .i64 0),.lit (.int .i64 0),.lit (.int .i64 0),.sl 0 [] .nil,.sl 0 [] .nil] := rfl
theorem tu40 (parts : List (Nat × LV)) : buildL Tryz.prog 40 parts = (fillL (fun j => [(0,1),(1,1),(2,1),(3,1),(4,1),(5,1)][j]?) [.lit (.int .i64 0),.lit (.int .i64 0),.lit (.int .i64 0),.lit (.int .i64 0),.sl 0 [] .nil,.sl 0 [] .nil] parts).map .agg := rfl
theorem tf41_0 : fieldL Tryz.prog 41 0 = some (0,3) := by kernel_rfl
theorem tf41_1 : fieldL Tryz.prog 41 1 = some (1,3) := by kernel_rfl
theorem tf41_2 : fieldL Tryz.prog 41 2 = some (2,3) := by kernel_rfl
theorem tf41_3 : fieldL Tryz.prog 41 3 = some (3,2) := by kernel_rfl
theorem tf41_4 : fieldL Tryz.prog 41 4 = some (4,38) := by kernel_rfl
theorem tf41_5 : fieldL Tryz.prog 41 5 = some (5,39) := by kernel_rfl
theorem tl41 (cs : List LV) : loadL Tryz.prog 41 cs = if 6 ≤ cs.length then some (.agg (cs.take 6)) else none := rfl
theorem ts41 : sizeL Tryz.prog 41 = 6 := by kernel_rfl
theorem tb41 : bytesL Tryz.prog 41 = 80 := by kernel_rfl
theorem tz41 : zeroOk Tryz.prog 41 = true := by kernel_rfl
theorem to41 : okT Tryz.prog 41 = true := by kernel_rfl
theorem tn41 : zeroL Tryz.prog 41 = some [.lit (.int .i64 0),.lit (.int .i64 0),.lit (.int .i64 0),.lit (.int .i64 0),.sl 0 [] .nil,.sl 0 [] .nil] := rfl
theorem tu41 (parts : List (Nat × LV)) : buildL Tryz.prog 41 parts = (fillL (fun j => [(0,1),(1,1),(2,1),(3,1),(4,1),(5,1)][j]?) [.lit (.int .i64 0),.lit (.int .i64 0),.lit (.int .i64 0),.lit (.int .i64 0),.sl 0 [] .nil,.sl 0 [] .nil] parts).map .agg := rfl
theorem tl42 (cs : List LV) : loadL Tryz.prog 42 cs = cs.head? := rfl
theorem ts42 : sizeL Tryz.prog 42 = 1 := by kernel_rfl
theorem tb42 : bytesL Tryz.prog 42 = 24 := by kernel_rfl
theorem tz42 : zeroOk Tryz.prog 42 = true := by kernel_rfl
theorem to42 : okT Tryz.prog 42 = true := by kernel_rfl
theorem tn42 : zeroL Tryz.prog 42 = some [.sl 0 [] .nil] := rfl
theorem te42 : elemL Tryz.prog 42 = some (61,2) := by kernel_rfl
theorem tf43_0 : fieldL Tryz.prog 43 0 = some (0,3) := by kernel_rfl
theorem tf43_1 : fieldL Tryz.prog 43 1 = some (1,41) := by kernel_rfl
theorem tf43_2 : fieldL Tryz.prog 43 2 = some (7,2) := by kernel_rfl
theorem tf43_3 : fieldL Tryz.prog 43 3 = some (8,42) := by kernel_rfl
theorem tf43_4 : fieldL Tryz.prog 43 4 = some (9,9) := by kernel_rfl
theorem tf43_5 : fieldL Tryz.prog 43 5 = some (10,3) := by kernel_rfl
theorem tf43_6 : fieldL Tryz.prog 43 6 = some (11,3) := by kernel_rfl
theorem tl43 (cs : List LV) : loadL Tryz.prog 43 cs = if 12 ≤ cs.length then some (.agg (cs.take 12)) else none := rfl
theorem ts43 : sizeL Tryz.prog 43 = 12 := by kernel_rfl
theorem tb43 : bytesL Tryz.prog 43 = 152 := by kernel_rfl
theorem tz43 : zeroOk Tryz.prog 43 = true := by kernel_rfl
theorem to43 : okT Tryz.prog 43 = true := by kernel_rfl
theorem tn43 : zeroL Tryz.prog 43 = some [.lit (.int .i64 0),.lit (.int .i64 0),.lit (.int .i64 0),.lit (.int .i64 0),.lit (.int .i64 0),.sl 0 [] .nil,.sl 0 [] .nil,.lit (.int .i64 0),.sl 0 [] .nil,.lit (.string ⟨#[]⟩),.lit (.int .i64 0),.lit (.int .i64 0)] := rfl
theorem tu43 (parts : List (Nat × LV)) : buildL Tryz.prog 43 parts = (fillL (fun j => [(0,1),(1,6),(7,1),(8,1),(9,1),(10,1),(11,1)][j]?) [.lit (.int .i64 0),.lit (.int .i64 0),.lit (.int .i64 0),.lit (.int .i64 0),.lit (.int .i64 0),.sl 0 [] .nil,.sl 0 [] .nil,.lit (.int .i64 0),.sl 0 [] .nil,.lit (.string ⟨#[]⟩),.lit (.int .i64 0),.lit (.int .i64 0)] parts).map .agg := rfl
theorem tf44_0 : fieldL Tryz.prog 44 0 = some (0,3) := by kernel_rfl
theorem tf44_1 : fieldL Tryz.prog 44 1 = some (1,41) := by kernel_rfl
theorem tf44_2 : fieldL Tryz.prog 44 2 = some (7,2) := by kernel_rfl
theorem tf44_3 : fieldL Tryz.prog 44 3 = some (8,42) := by kernel_rfl
theorem tf44_4 : fieldL Tryz.prog 44 4 = some (9,9) := by kernel_rfl
theorem tf44_5 : fieldL Tryz.prog 44 5 = some (10,3) := by kernel_rfl
theorem tf44_6 : fieldL Tryz.prog 44 6 = some (11,3) := by kernel_rfl
theorem tl44 (cs : List LV) : loadL Tryz.prog 44 cs = if 12 ≤ cs.length then some (.agg (cs.take 12)) else none := rfl
theorem ts44 : sizeL Tryz.prog 44 = 12 := by kernel_rfl
theorem tb44 : bytesL Tryz.prog 44 = 152 := by kernel_rfl
theorem tz44 : zeroOk Tryz.prog 44 = true := by kernel_rfl
theorem to44 : okT Tryz.prog 44 = true := by kernel_rfl
theorem tn44 : zeroL Tryz.prog 44 = some [.lit (.int .i64 0),.lit (.int .i64 0),.lit (.int .i64 0),.lit (.int .i64 0),.lit (.int .i64 0),.sl 0 [] .nil,.sl 0 [] .nil,.lit (.int .i64 0),.sl 0 [] .nil,.lit (.string ⟨#[]⟩),.lit (.int .i64 0),.lit (.int .i64 0)] := rfl
theorem tu44 (parts : List (Nat × LV)) : buildL Tryz.prog 44 parts = (fillL (fun j => [(0,1),(1,6),(7,1),(8,1),(9,1),(10,1),(11,1)][j]?) [.lit (.int .i64 0),.lit (.int .i64 0),.lit (.int .i64 0),.lit (.int .i64 0),.lit (.int .i64 0),.sl 0 [] .nil,.sl 0 [] .nil,.lit (.int .i64 0),.sl 0 [] .nil,.lit (.string ⟨#[]⟩),.lit (.int .i64 0),.lit (.int .i64 0)] parts).map .agg := rfl
theorem tf46_0 : fieldL Tryz.prog 46 0 = some (0,3) := by kernel_rfl
theorem tf46_1 : fieldL Tryz.prog 46 1 = some (1,9) := by kernel_rfl
theorem tf46_2 : fieldL Tryz.prog 46 2 = some (2,9) := by kernel_rfl
theorem tf46_3 : fieldL Tryz.prog 46 3 = some (3,3) := by kernel_rfl
theorem tl46 (cs : List LV) : loadL Tryz.prog 46 cs = if 4 ≤ cs.length then some (.agg (cs.take 4)) else none := rfl
theorem ts46 : sizeL Tryz.prog 46 = 4 := by kernel_rfl
theorem tb46 : bytesL Tryz.prog 46 = 48 := by kernel_rfl
theorem tz46 : zeroOk Tryz.prog 46 = true := by kernel_rfl
theorem to46 : okT Tryz.prog 46 = true := by kernel_rfl
theorem tq46 : eqKinds Tryz.prog 46 = some [(0,0),(1,1),(2,1),(3,0)] := by kernel_rfl
theorem tn46 : zeroL Tryz.prog 46 = some [.lit (.int .i64 0),.lit (.string ⟨#[]⟩),.lit (.string ⟨#[]⟩),.lit (.int .i64 0)] := rfl
theorem tu46 (parts : List (Nat × LV)) : buildL Tryz.prog 46 parts = (fillL (fun j => [(0,1),(1,1),(2,1),(3,1)][j]?) [.lit (.int .i64 0),.lit (.string ⟨#[]⟩),.lit (.string ⟨#[]⟩),.lit (.int .i64 0)] parts).map .agg := rfl
theorem tf47_0 : fieldL Tryz.prog 47 0 = some (0,3) := by kernel_rfl
theorem tf47_1 : fieldL Tryz.prog 47 1 = some (1,9) := by kernel_rfl
theorem tf47_2 : fieldL Tryz.prog 47 2 = some (2,9) := by kernel_rfl
theorem tf47_3 : fieldL Tryz.prog 47 3 = some (3,3) := by kernel_rfl
theorem tl47 (cs : List LV) : loadL Tryz.prog 47 cs = if 4 ≤ cs.length then some (.agg (cs.take 4)) else none := rfl
theorem ts47 : sizeL Tryz.prog 47 = 4 := by kernel_rfl
theorem tb47 : bytesL Tryz.prog 47 = 48 := by kernel_rfl
theorem tz47 : zeroOk Tryz.prog 47 = true := by kernel_rfl
theorem to47 : okT Tryz.prog 47 = true := by kernel_rfl
theorem tq47 : eqKinds Tryz.prog 47 = some [(0,0),(1,1),(2,1),(3,0)] := by kernel_rfl
theorem tn47 : zeroL Tryz.prog 47 = some [.lit (.int .i64 0),.lit (.string ⟨#[]⟩),.lit (.string ⟨#[]⟩),.lit (.int .i64 0)] := rfl
theorem tu47 (parts : List (Nat × LV)) : buildL Tryz.prog 47 parts = (fillL (fun j => [(0,1),(1,1),(2,1),(3,1)][j]?) [.lit (.int .i64 0),.lit (.string ⟨#[]⟩),.lit (.string ⟨#[]⟩),.lit (.int .i64 0)] parts).map .agg := rfl
theorem tm48 : mapSI Tryz.prog 48 = true := by kernel_rfl
theorem tl48 (cs : List LV) : loadL Tryz.prog 48 cs = cs.head? := rfl
theorem tl51 (cs : List LV) : loadL Tryz.prog 51 cs = cs.head? := rfl
theorem ts51 : sizeL Tryz.prog 51 = 1 := by kernel_rfl
theorem tb51 : bytesL Tryz.prog 51 = 24 := by kernel_rfl
theorem tz51 : zeroOk Tryz.prog 51 = true := by kernel_rfl
theorem to51 : okT Tryz.prog 51 = true := by kernel_rfl
theorem tn51 : zeroL Tryz.prog 51 = some [.sl 0 [] .nil] := rfl
theorem te51 : elemL Tryz.prog 51 = some (3,1) := by kernel_rfl
theorem tf60_0 : fieldL Tryz.prog 60 0 = some (0,2) := by kernel_rfl
theorem tf60_1 : fieldL Tryz.prog 60 1 = some (1,9) := by kernel_rfl
theorem tl60 (cs : List LV) : loadL Tryz.prog 60 cs = if 2 ≤ cs.length then some (.agg (cs.take 2)) else none := rfl
theorem ts60 : sizeL Tryz.prog 60 = 2 := by kernel_rfl
theorem tb60 : bytesL Tryz.prog 60 = 24 := by kernel_rfl
theorem tz60 : zeroOk Tryz.prog 60 = true := by kernel_rfl
theorem to60 : okT Tryz.prog 60 = true := by kernel_rfl
theorem tq60 : eqKinds Tryz.prog 60 = some [(0,0),(1,1)] := by kernel_rfl
theorem tn60 : zeroL Tryz.prog 60 = some [.lit (.int .i64 0),.lit (.string ⟨#[]⟩)] := rfl
theorem tu60 (parts : List (Nat × LV)) : buildL Tryz.prog 60 parts = (fillL (fun j => [(0,1),(1,1)][j]?) [.lit (.int .i64 0),.lit (.string ⟨#[]⟩)] parts).map .agg := rfl
theorem tf61_0 : fieldL Tryz.prog 61 0 = some (0,2) := by kernel_rfl
theorem tf61_1 : fieldL Tryz.prog 61 1 = some (1,9) := by kernel_rfl
theorem tl61 (cs : List LV) : loadL Tryz.prog 61 cs = if 2 ≤ cs.length then some (.agg (cs.take 2)) else none := rfl
theorem ts61 : sizeL Tryz.prog 61 = 2 := by kernel_rfl
theorem tb61 : bytesL Tryz.prog 61 = 24 := by kernel_rfl
theorem tz61 : zeroOk Tryz.prog 61 = true := by kernel_rfl
theorem to61 : okT Tryz.prog 61 = true := by kernel_rfl
theorem tq61 : eqKinds Tryz.prog 61 = some [(0,0),(1,1)] := by kernel_rfl
theorem tn61 : zeroL Tryz.prog 61 = some [.lit (.int .i64 0),.lit (.string ⟨#[]⟩)] := rfl
theorem tu61 (parts : List (Nat × LV)) : buildL Tryz.prog 61 parts = (fillL (fun j => [(0,1),(1,1)][j]?) [.lit (.int .i64 0),.lit (.string ⟨#[]⟩)] parts).map .agg := rfl
theorem tl63 (cs : List LV) : loadL Tryz.prog 63 cs = cs.head? := rfl
theorem ts63 : sizeL Tryz.prog 63 = 1 := by kernel_rfl
theorem tb63 : bytesL Tryz.prog 63 = 8 := by kernel_rfl
theorem tz63 : zeroOk Tryz.prog 63 = true := by kernel_rfl
theorem to63 : okT Tryz.prog 63 = true := by kernel_rfl
theorem tn63 : zeroL Tryz.prog 63 = some [.lit (.int .u64 0)] := rfl
theorem tf67_0 : fieldL Tryz.prog 67 0 = some (0,9) := by kernel_rfl
theorem tf67_1 : fieldL Tryz.prog 67 1 = some (1,9) := by kernel_rfl
theorem tl67 (cs : List LV) : loadL Tryz.prog 67 cs = if 2 ≤ cs.length then some (.agg (cs.take 2)) else none := rfl
theorem ts67 : sizeL Tryz.prog 67 = 2 := by kernel_rfl
theorem tb67 : bytesL Tryz.prog 67 = 32 := by kernel_rfl
theorem tz67 : zeroOk Tryz.prog 67 = true := by kernel_rfl
theorem to67 : okT Tryz.prog 67 = true := by kernel_rfl
theorem tq67 : eqKinds Tryz.prog 67 = some [(0,1),(1,1)] := by kernel_rfl
theorem tn67 : zeroL Tryz.prog 67 = some [.lit (.string ⟨#[]⟩),.lit (.string ⟨#[]⟩)] := rfl
theorem tu67 (parts : List (Nat × LV)) : buildL Tryz.prog 67 parts = (fillL (fun j => [(0,1),(1,1)][j]?) [.lit (.string ⟨#[]⟩),.lit (.string ⟨#[]⟩)] parts).map .agg := rfl
theorem tf68_0 : fieldL Tryz.prog 68 0 = some (0,9) := by kernel_rfl
theorem tf68_1 : fieldL Tryz.prog 68 1 = some (1,9) := by kernel_rfl
theorem tl68 (cs : List LV) : loadL Tryz.prog 68 cs = if 2 ≤ cs.length then some (.agg (cs.take 2)) else none := rfl
theorem ts68 : sizeL Tryz.prog 68 = 2 := by kernel_rfl
theorem tb68 : bytesL Tryz.prog 68 = 32 := by kernel_rfl
theorem tz68 : zeroOk Tryz.prog 68 = true := by kernel_rfl
theorem to68 : okT Tryz.prog 68 = true := by kernel_rfl
theorem tq68 : eqKinds Tryz.prog 68 = some [(0,1),(1,1)] := by kernel_rfl
theorem tn68 : zeroL Tryz.prog 68 = some [.lit (.string ⟨#[]⟩),.lit (.string ⟨#[]⟩)] := rfl
theorem tu68 (parts : List (Nat × LV)) : buildL Tryz.prog 68 parts = (fillL (fun j => [(0,1),(1,1)][j]?) [.lit (.string ⟨#[]⟩),.lit (.string ⟨#[]⟩)] parts).map .agg := rfl
theorem tf69_0 : fieldL Tryz.prog 69 0 = some (0,3) := by kernel_rfl
theorem tf69_1 : fieldL Tryz.prog 69 1 = some (1,3) := by kernel_rfl
theorem tf69_2 : fieldL Tryz.prog 69 2 = some (2,3) := by kernel_rfl
theorem tl69 (cs : List LV) : loadL Tryz.prog 69 cs = if 3 ≤ cs.length then some (.agg (cs.take 3)) else none := rfl
theorem ts69 : sizeL Tryz.prog 69 = 3 := by kernel_rfl
theorem tb69 : bytesL Tryz.prog 69 = 24 := by kernel_rfl
theorem tz69 : zeroOk Tryz.prog 69 = true := by kernel_rfl
theorem to69 : okT Tryz.prog 69 = true := by kernel_rfl
theorem tq69 : eqKinds Tryz.prog 69 = some [(0,0),(1,0),(2,0)] := by kernel_rfl
theorem tn69 : zeroL Tryz.prog 69 = some [.lit (.int .i64 0),.lit (.int .i64 0),.lit (.int .i64 0)] := rfl
theorem tu69 (parts : List (Nat × LV)) : buildL Tryz.prog 69 parts = (fillL (fun j => [(0,1),(1,1),(2,1)][j]?) [.lit (.int .i64 0),.lit (.int .i64 0),.lit (.int .i64 0)] parts).map .agg := rfl
theorem tf70_0 : fieldL Tryz.prog 70 0 = some (0,3) := by kernel_rfl
theorem tf70_1 : fieldL Tryz.prog 70 1 = some (1,3) := by kernel_rfl
theorem tf70_2 : fieldL Tryz.prog 70 2 = some (2,3) := by kernel_rfl
theorem tl70 (cs : List LV) : loadL Tryz.prog 70 cs = if 3 ≤ cs.length then some (.agg (cs.take 3)) else none := rfl
theorem ts70 : sizeL Tryz.prog 70 = 3 := by kernel_rfl
theorem tb70 : bytesL Tryz.prog 70 = 24 := by kernel_rfl
theorem tz70 : zeroOk Tryz.prog 70 = true := by kernel_rfl
theorem to70 : okT Tryz.prog 70 = true := by kernel_rfl
theorem tq70 : eqKinds Tryz.prog 70 = some [(0,0),(1,0),(2,0)] := by kernel_rfl
theorem tn70 : zeroL Tryz.prog 70 = some [.lit (.int .i64 0),.lit (.int .i64 0),.lit (.int .i64 0)] := rfl
theorem tu70 (parts : List (Nat × LV)) : buildL Tryz.prog 70 parts = (fillL (fun j => [(0,1),(1,1),(2,1)][j]?) [.lit (.int .i64 0),.lit (.int .i64 0),.lit (.int .i64 0)] parts).map .agg := rfl
theorem ta86 : arrL Tryz.prog 86 = some (5,1) := by kernel_rfl
theorem tx86 : elemL Tryz.prog 86 = none := by kernel_rfl
theorem ts86 : sizeL Tryz.prog 86 = 5 := by kernel_rfl
theorem to86 : okT Tryz.prog 86 = true := by kernel_rfl
theorem tn86 : zeroL Tryz.prog 86 = some ([.lit (.int .i64 0),.lit (.int .i64 0),.lit (.int .i64 0),.lit (.int .i64 0),.lit (.int .i64 0)]) := by kernel_rfl
theorem tl86 (cs : List LV) : loadL Tryz.prog 86 cs = if 5 ≤ cs.length then some (.agg (cs.take 5)) else none := rfl
theorem tu86 (parts : List (Nat × LV)) : buildL Tryz.prog 86 parts = (fillL (fun j => some (j * 1,1)) [.lit (.int .i64 0),.lit (.int .i64 0),.lit (.int .i64 0),.lit (.int .i64 0),.lit (.int .i64 0)] parts).map .agg := rfl
theorem tl93 (cs : List LV) : loadL Tryz.prog 93 cs = cs.head? := rfl
theorem ts93 : sizeL Tryz.prog 93 = 1 := by kernel_rfl
theorem tb93 : bytesL Tryz.prog 93 = 24 := by kernel_rfl
theorem tz93 : zeroOk Tryz.prog 93 = true := by kernel_rfl
theorem to93 : okT Tryz.prog 93 = true := by kernel_rfl
theorem tn93 : zeroL Tryz.prog 93 = some [.sl 0 [] .nil] := rfl
theorem te93 : elemL Tryz.prog 93 = some (100,1) := by kernel_rfl
theorem tl100 (cs : List LV) : loadL Tryz.prog 100 cs = cs.head? := rfl
theorem ts100 : sizeL Tryz.prog 100 = 1 := by kernel_rfl
theorem tb100 : bytesL Tryz.prog 100 = 16 := by kernel_rfl
theorem tz100 : zeroOk Tryz.prog 100 = true := by kernel_rfl
theorem to100 : okT Tryz.prog 100 = true := by kernel_rfl
theorem tn100 : zeroL Tryz.prog 100 = some [.lit (.complex .f64 0 0)] := rfl
theorem tl107 (cs : List LV) : loadL Tryz.prog 107 cs = cs.head? := rfl
theorem tl114 (cs : List LV) : loadL Tryz.prog 114 cs = cs.head? := rfl
theorem ts114 : sizeL Tryz.prog 114 = 1 := by kernel_rfl
theorem tb114 : bytesL Tryz.prog 114 = 4 := by kernel_rfl
theorem tz114 : zeroOk Tryz.prog 114 = true := by kernel_rfl
theorem to114 : okT Tryz.prog 114 = true := by kernel_rfl
theorem tn114 : zeroL Tryz.prog 114 = some [.lit (.int .u32 0)] := rfl
theorem ta117 : arrL Tryz.prog 117 = some (256,1) := by kernel_rfl
theorem tx117 : elemL Tryz.prog 117 = none := by kernel_rfl
theorem ts117 : sizeL Tryz.prog 117 = 256 := by kernel_rfl
theorem to117 : okT Tryz.prog 117 = true := by kernel_rfl
theorem tn117 : zeroL Tryz.prog 117 = some (List.replicate 256 (.lit (.int .u8 0))) := by kernel_rfl
theorem tf118_0 : fieldL Tryz.prog 118 0 = some (0,5) := by kernel_rfl
theorem tf118_1 : fieldL Tryz.prog 118 1 = some (1,5) := by kernel_rfl
theorem tl118 (cs : List LV) : loadL Tryz.prog 118 cs = if 2 ≤ cs.length then some (.agg (cs.take 2)) else none := rfl
theorem ts118 : sizeL Tryz.prog 118 = 2 := by kernel_rfl
theorem tb118 : bytesL Tryz.prog 118 = 2 := by kernel_rfl
theorem tz118 : zeroOk Tryz.prog 118 = true := by kernel_rfl
theorem to118 : okT Tryz.prog 118 = true := by kernel_rfl
theorem tq118 : eqKinds Tryz.prog 118 = some [(0,0),(1,0)] := by kernel_rfl
theorem tn118 : zeroL Tryz.prog 118 = some [.lit (.int .u8 0),.lit (.int .u8 0)] := rfl
theorem tu118 (parts : List (Nat × LV)) : buildL Tryz.prog 118 parts = (fillL (fun j => [(0,1),(1,1)][j]?) [.lit (.int .u8 0),.lit (.int .u8 0)] parts).map .agg := rfl
theorem tf119_0 : fieldL Tryz.prog 119 0 = some (0,5) := by kernel_rfl
theorem tf119_1 : fieldL Tryz.prog 119 1 = some (1,5) := by kernel_rfl
theorem tl119 (cs : List LV) : loadL Tryz.prog 119 cs = if 2 ≤ cs.length then some (.agg (cs.take 2)) else none := rfl
theorem ts119 : sizeL Tryz.prog 119 = 2 := by kernel_rfl
theorem tb119 : bytesL Tryz.prog 119 = 2 := by kernel_rfl
theorem tz119 : zeroOk Tryz.prog 119 = true := by kernel_rfl
theorem to119 : okT Tryz.prog 119 = true := by kernel_rfl
theorem tq119 : eqKinds Tryz.prog 119 = some [(0,0),(1,0)] := by kernel_rfl
theorem tn119 : zeroL Tryz.prog 119 = some [.lit (.int .u8 0),.lit (.int .u8 0)] := rfl
theorem tu119 (parts : List (Nat × LV)) : buildL Tryz.prog 119 parts = (fillL (fun j => [(0,1),(1,1)][j]?) [.lit (.int .u8 0),.lit (.int .u8 0)] parts).map .agg := rfl
theorem tf134_0 : fieldL Tryz.prog 134 0 = some (0,12) := by kernel_rfl
theorem tf134_1 : fieldL Tryz.prog 134 1 = some (1,12) := by kernel_rfl
theorem tf134_2 : fieldL Tryz.prog 134 2 = some (2,114) := by kernel_rfl
theorem tf134_3 : fieldL Tryz.prog 134 3 = some (3,128) := by kernel_rfl
theorem tf134_4 : fieldL Tryz.prog 134 4 = some (4,5) := by kernel_rfl
theorem tf134_5 : fieldL Tryz.prog 134 5 = some (5,5) := by kernel_rfl
theorem tf134_6 : fieldL Tryz.prog 134 6 = some (6,129) := by kernel_rfl
theorem tf134_9 : fieldL Tryz.prog 134 9 = some (9,132) := by kernel_rfl
theorem tf134_10 : fieldL Tryz.prog 134 10 = some (10,133) := by kernel_rfl
theorem tl134 (cs : List LV) : loadL Tryz.prog 134 cs = if 11 ≤ cs.length then some (.agg (cs.take 11)) else none := rfl
theorem ts134 : sizeL Tryz.prog 134 = 11 := by kernel_rfl
theorem tb134 : bytesL Tryz.prog 134 = 48 := by kernel_rfl
theorem tz134 : zeroOk Tryz.prog 134 = true := by kernel_rfl
theorem to134 : okT Tryz.prog 134 = true := by kernel_rfl
theorem tadd64 : extAdd Tryz.prog = none := by kernel_rfl
end Go.Proofs.YtbffcndmcaeamaaGreatDoor
