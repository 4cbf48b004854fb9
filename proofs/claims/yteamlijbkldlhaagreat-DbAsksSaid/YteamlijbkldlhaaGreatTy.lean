import Derived.Test.YteamlijbkldlhaaGreatProg
import Derived.Test.YteamlijbkldlhaaGreatL11
set_option maxRecDepth 100000
set_option linter.unusedSimpArgs false
set_option linter.unusedVariables false
namespace Go.Proofs.YteamlijbkldlhaaGreat
theorem tl2 (cs : List LV) : loadL Tryz.prog 2 cs = cs.head? := rfl
theorem ts2 : sizeL Tryz.prog 2 = 1 := by kernel_rfl
theorem tb2 : bytesL Tryz.prog 2 = 8 := by kernel_rfl
theorem tz2 : zeroOk Tryz.prog 2 = true := by kernel_rfl
theorem to2 : okT Tryz.prog 2 = true := by kernel_rfl
theorem tn2 : zeroL Tryz.prog 2 = some [.lit (.int .i64 0)] := rfl
theorem tl3 (cs : List LV) : loadL Tryz.prog 3 cs = cs.head? := rfl
theorem ts3 : sizeL Tryz.prog 3 = 1 := by kernel_rfl
theorem tb3 : bytesL Tryz.prog 3 = 8 := by kernel_rfl
theorem tz3 : zeroOk Tryz.prog 3 = true := by kernel_rfl
theorem to3 : okT Tryz.prog 3 = true := by kernel_rfl
theorem tn3 : zeroL Tryz.prog 3 = some [.lit (.int .i64 0)] := rfl
theorem tl4 (cs : List LV) : loadL Tryz.prog 4 cs = cs.head? := rfl
theorem ts4 : sizeL Tryz.prog 4 = 1 := by kernel_rfl
theorem tb4 : bytesL Tryz.prog 4 = 1 := by kernel_rfl
theorem tz4 : zeroOk Tryz.prog 4 = true := by kernel_rfl
theorem to4 : okT Tryz.prog 4 = true := by kernel_rfl
theorem tn4 : zeroL Tryz.prog 4 = some [.lit (.bool false)] := rfl
theorem tl5 (cs : List LV) : loadL Tryz.prog 5 cs = cs.head? := rfl
theorem ts5 : sizeL Tryz.prog 5 = 1 := by kernel_rfl
theorem tb5 : bytesL Tryz.prog 5 = 1 := by kernel_rfl
theorem tz5 : zeroOk Tryz.prog 5 = true := by kernel_rfl
theorem to5 : okT Tryz.prog 5 = true := by kernel_rfl
theorem tn5 : zeroL Tryz.prog 5 = some [.lit (.int .u8 0)] := rfl
theorem tl9 (cs : List LV) : loadL Tryz.prog 9 cs = cs.head? := rfl
theorem ts9 : sizeL Tryz.prog 9 = 1 := by kernel_rfl
theorem tb9 : bytesL Tryz.prog 9 = 16 := by kernel_rfl
theorem tz9 : zeroOk Tryz.prog 9 = true := by kernel_rfl
theorem to9 : okT Tryz.prog 9 = true := by kernel_rfl
theorem tn9 : zeroL Tryz.prog 9 = some [.lit (.string ⟨#[]⟩)] := rfl
theorem tl12 (cs : List LV) : loadL Tryz.prog 12 cs = cs.head? := rfl
theorem ts12 : sizeL Tryz.prog 12 = 1 := by kernel_rfl
theorem tb12 : bytesL Tryz.prog 12 = 8 := by kernel_rfl
theorem tz12 : zeroOk Tryz.prog 12 = true := by kernel_rfl
theorem to12 : okT Tryz.prog 12 = true := by kernel_rfl
theorem tn12 : zeroL Tryz.prog 12 = some [.lit (.int .u64 0)] := rfl
theorem tl21 (cs : List LV) : loadL Tryz.prog 21 cs = cs.head? := rfl
theorem ts21 : sizeL Tryz.prog 21 = 1 := by kernel_rfl
theorem tb21 : bytesL Tryz.prog 21 = 4 := by kernel_rfl
theorem tz21 : zeroOk Tryz.prog 21 = true := by kernel_rfl
theorem to21 : okT Tryz.prog 21 = true := by kernel_rfl
theorem tn21 : zeroL Tryz.prog 21 = some [.lit (.int .i32 0)] := rfl
theorem tl22 (cs : List LV) : loadL Tryz.prog 22 cs = cs.head? := rfl
theorem ts22 : sizeL Tryz.prog 22 = 1 := by kernel_rfl
theorem tb22 : bytesL Tryz.prog 22 = 24 := by kernel_rfl
theorem tz22 : zeroOk Tryz.prog 22 = true := by kernel_rfl
theorem to22 : okT Tryz.prog 22 = true := by kernel_rfl
theorem tn22 : zeroL Tryz.prog 22 = some [.sl 0 [] .nil] := rfl
theorem te22 : elemL Tryz.prog 22 = some (3,1) := by kernel_rfl
theorem tl23 (cs : List LV) : loadL Tryz.prog 23 cs = cs.head? := rfl
theorem ts23 : sizeL Tryz.prog 23 = 1 := by kernel_rfl
theorem tb23 : bytesL Tryz.prog 23 = 24 := by kernel_rfl
theorem tz23 : zeroOk Tryz.prog 23 = true := by kernel_rfl
theorem to23 : okT Tryz.prog 23 = true := by kernel_rfl
theorem tn23 : zeroL Tryz.prog 23 = some [.sl 0 [] .nil] := rfl
theorem te23 : elemL Tryz.prog 23 = some (48,15) := by kernel_rfl
theorem tl26 (cs : List LV) : loadL Tryz.prog 26 cs = cs.head? := rfl
theorem ts26 : sizeL Tryz.prog 26 = 1 := by kernel_rfl
theorem tb26 : bytesL Tryz.prog 26 = 24 := by kernel_rfl
theorem tz26 : zeroOk Tryz.prog 26 = true := by kernel_rfl
theorem to26 : okT Tryz.prog 26 = true := by kernel_rfl
theorem tn26 : zeroL Tryz.prog 26 = some [.sl 0 [] .nil] := rfl
theorem te26 : elemL Tryz.prog 26 = some (74,2) := by kernel_rfl
theorem tl27 (cs : List LV) : loadL Tryz.prog 27 cs = cs.head? := rfl
theorem ts27 : sizeL Tryz.prog 27 = 1 := by kernel_rfl
theorem tb27 : bytesL Tryz.prog 27 = 24 := by kernel_rfl
theorem tz27 : zeroOk Tryz.prog 27 = true := by kernel_rfl
theorem to27 : okT Tryz.prog 27 = true := by kernel_rfl
theorem tn27 : zeroL Tryz.prog 27 = some [.sl 0 [] .nil] := rfl
theorem te27 : elemL Tryz.prog 27 = some (46,12) := by kernel_rfl
theorem tf28_0 : fieldL Tryz.prog 28 0 = some (0,26) := by kernel_rfl
theorem tf28_1 : fieldL Tryz.prog 28 1 = some (1,27) := by kernel_rfl
theorem tl28 (cs : List LV) : loadL Tryz.prog 28 cs = if 2 ≤ cs.length then some (.agg (cs.take 2)) else none := rfl
theorem ts28 : sizeL Tryz.prog 28 = 2 := by kernel_rfl
theorem tb28 : bytesL Tryz.prog 28 = 48 := by kernel_rfl
theorem tz28 : zeroOk Tryz.prog 28 = true := by kernel_rfl
theorem to28 : okT Tryz.prog 28 = true := by kernel_rfl
theorem tn28 : zeroL Tryz.prog 28 = some [.sl 0 [] .nil,.sl 0 [] .nil] := rfl
theorem tu28 (parts : List (Nat × LV)) : buildL Tryz.prog 28 parts = (fillL (fun j => [(0,1),(1,1)][j]?) [.sl 0 [] .nil,.sl 0 [] .nil] parts).map .agg := rfl
theorem tf29_0 : fieldL Tryz.prog 29 0 = some (0,26) := by kernel_rfl
theorem tf29_1 : fieldL Tryz.prog 29 1 = some (1,27) := by kernel_rfl
theorem tl29 (cs : List LV) : loadL Tryz.prog 29 cs = if 2 ≤ cs.length then some (.agg (cs.take 2)) else none := rfl
theorem ts29 : sizeL Tryz.prog 29 = 2 := by kernel_rfl
theorem tb29 : bytesL Tryz.prog 29 = 48 := by kernel_rfl
theorem tz29 : zeroOk Tryz.prog 29 = true := by kernel_rfl
theorem to29 : okT Tryz.prog 29 = true := by kernel_rfl
theorem tn29 : zeroL Tryz.prog 29 = some [.sl 0 [] .nil,.sl 0 [] .nil] := rfl
theorem tu29 (parts : List (Nat × LV)) : buildL Tryz.prog 29 parts = (fillL (fun j => [(0,1),(1,1)][j]?) [.sl 0 [] .nil,.sl 0 [] .nil] parts).map .agg := rfl
theorem tl31 (cs : List LV) : loadL Tryz.prog 31 cs = cs.head? := rfl
theorem ts31 : sizeL Tryz.prog 31 = 1 := by kernel_rfl
theorem tb31 : bytesL Tryz.prog 31 = 24 := by kernel_rfl
theorem tz31 : zeroOk Tryz.prog 31 = true := by kernel_rfl
theorem to31 : okT Tryz.prog 31 = true := by kernel_rfl
theorem tn31 : zeroL Tryz.prog 31 = some [.sl 0 [] .nil] := rfl
theorem te31 : elemL Tryz.prog 31 = some (36,4) := by kernel_rfl
theorem tl34 (cs : List LV) : loadL Tryz.prog 34 cs = cs.head? := rfl
theorem ts34 : sizeL Tryz.prog 34 = 1 := by kernel_rfl
theorem tb34 : bytesL Tryz.prog 34 = 24 := by kernel_rfl
theorem tz34 : zeroOk Tryz.prog 34 = true := by kernel_rfl
theorem to34 : okT Tryz.prog 34 = true := by kernel_rfl
theorem tn34 : zeroL Tryz.prog 34 = some [.sl 0 [] .nil] := rfl
theorem te34 : elemL Tryz.prog 34 = some (9,1) := by kernel_rfl
theorem tf35_0 : fieldL Tryz.prog 35 0 = some (0,4) := by kernel_rfl
theorem tf35_1 : fieldL Tryz.prog 35 1 = some (1,23) := by kernel_rfl
theorem tf35_2 : fieldL Tryz.prog 35 2 = some (2,34) := by kernel_rfl
theorem tf35_3 : fieldL Tryz.prog 35 3 = some (3,22) := by kernel_rfl
theorem tl35 (cs : List LV) : loadL Tryz.prog 35 cs = if 4 ≤ cs.length then some (.agg (cs.take 4)) else none := rfl
theorem ts35 : sizeL Tryz.prog 35 = 4 := by kernel_rfl
theorem tb35 : bytesL Tryz.prog 35 = 80 := by kernel_rfl
theorem tz35 : zeroOk Tryz.prog 35 = true := by kernel_rfl
theorem to35 : okT Tryz.prog 35 = true := by kernel_rfl
theorem tn35 : zeroL Tryz.prog 35 = some [.lit (.bool false),.sl 0 [] .nil,.sl 0 [] .nil,.sl 0 [] .nil] := rfl
theorem tu35 (parts : List (Nat × LV)) : buildL Tryz.prog 35 parts = (fillL (fun j => [(0,1),(1,1),(2,1),(3,1)][j]?) [.lit (.bool false),.sl 0 [] .nil,.sl 0 [] .nil,.sl 0 [] .nil] parts).map .agg := rfl
theorem tf36_0 : fieldL Tryz.prog 36 0 = some (0,4) := by kernel_rfl
theorem tf36_1 : fieldL Tryz.prog 36 1 = some (1,23) := by kernel_rfl
theorem tf36_2 : fieldL Tryz.prog 36 2 = some (2,34) := by kernel_rfl
theorem tf36_3 : fieldL Tryz.prog 36 3 = some (3,22) := by kernel_rfl
theorem tl36 (cs : List LV) : loadL Tryz.prog 36 cs = if 4 ≤ cs.length then some (.agg (cs.take 4)) else none := rfl
theorem ts36 : sizeL Tryz.prog 36 = 4 := by kernel_rfl
theorem tb36 : bytesL Tryz.prog 36 = 80 := by kernel_rfl
theorem tz36 : zeroOk Tryz.prog 36 = true := by kernel_rfl
theorem to36 : okT Tryz.prog 36 = true := by kernel_rfl
theorem tn36 : zeroL Tryz.prog 36 = some [.lit (.bool false),.sl 0 [] .nil,.sl 0 [] .nil,.sl 0 [] .nil] := rfl
theorem tu36 (parts : List (Nat × LV)) : buildL Tryz.prog 36 parts = (fillL (fun j => [(0,1),(1,1),(2,1),(3,1)][j]?) [.lit (.bool false),.sl 0 [] .nil,.sl 0 [] .nil,.sl 0 [] .nil] parts).map .agg := rfl
theorem tf38_0 : fieldL Tryz.prog 38 0 = some (0,4) := by kernel_rfl
theorem tf38_1 : fieldL Tryz.prog 38 1 = some (1,23) := by kernel_rfl
theorem tf38_2 : fieldL Tryz.prog 38 2 = some (2,34) := by kernel_rfl
theorem tf38_3 : fieldL Tryz.prog 38 3 = some (3,22) := by kernel_rfl
theorem tl38 (cs : List LV) : loadL Tryz.prog 38 cs = if 4 ≤ cs.length then some (.agg (cs.take 4)) else none := rfl
theorem ts38 : sizeL Tryz.prog 38 = 4 := by kernel_rfl
theorem tb38 : bytesL Tryz.prog 38 = 80 := by kernel_rfl
theorem tz38 : zeroOk Tryz.prog 38 = true := by kernel_rfl
theorem to38 : okT Tryz.prog 38 = true := by kernel_rfl
theorem tn38 : zeroL Tryz.prog 38 = some [.lit (.bool false),.sl 0 [] .nil,.sl 0 [] .nil,.sl 0 [] .nil] := rfl
theorem tu38 (parts : List (Nat × LV)) : buildL Tryz.prog 38 parts = (fillL (fun j => [(0,1),(1,1),(2,1),(3,1)][j]?) [.lit (.bool false),.sl 0 [] .nil,.sl 0 [] .nil,.sl 0 [] .nil] parts).map .agg := rfl
theorem tl40 (cs : List LV) : loadL Tryz.prog 40 cs = cs.head? := rfl
theorem ts40 : sizeL Tryz.prog 40 = 1 := by kernel_rfl
theorem tb40 : bytesL Tryz.prog 40 = 24 := by kernel_rfl
theorem tz40 : zeroOk Tryz.prog 40 = true := by kernel_rfl
theorem to40 : okT Tryz.prog 40 = true := by kernel_rfl
theorem tn40 : zeroL Tryz.prog 40 = some [.sl 0 [] .nil] := rfl
theorem te40 : elemL Tryz.prog 40 = some (84,2) := by kernel_rfl
theorem tl41 (cs : List LV) : loadL Tryz.prog 41 cs = cs.head? := rfl
theorem ts41 : sizeL Tryz.prog 41 = 1 := by kernel_rfl
theorem tb41 : bytesL Tryz.prog 41 = 24 := by kernel_rfl
theorem tz41 : zeroOk Tryz.prog 41 = true := by kernel_rfl
theorem to41 : okT Tryz.prog 41 = true := by kernel_rfl
theorem tn41 : zeroL Tryz.prog 41 = some [.sl 0 [] .nil] := rfl
theorem te41 : elemL Tryz.prog 41 = some (86,3) := by kernel_rfl
theorem tf42_0 : fieldL Tryz.prog 42 0 = some (0,3) := by kernel_rfl
theorem tf42_1 : fieldL Tryz.prog 42 1 = some (1,3) := by kernel_rfl
theorem tf42_2 : fieldL Tryz.prog 42 2 = some (2,3) := by kernel_rfl
theorem tf42_3 : fieldL Tryz.prog 42 3 = some (3,2) := by kernel_rfl
theorem tf42_4 : fieldL Tryz.prog 42 4 = some (4,40) := by kernel_rfl
theorem tf42_5 : fieldL Tryz.prog 42 5 = some (5,41) := by kernel_rfl
theorem tl42 (cs : List LV) : loadL Tryz.prog 42 cs = if 6 ≤ cs.length then some (.agg (cs.take 6)) else none := rfl
theorem ts42 : sizeL Tryz.prog 42 = 6 := by kernel_rfl
theorem tb42 : bytesL Tryz.prog 42 = 80 := by kernel_rfl
theorem tz42 : zeroOk Tryz.prog 42 = true := by kernel_rfl
theorem to42 : okT Tryz.prog 42 = true := by kernel_rfl
theorem tn42 : zeroL Tryz.prog 42 = some [.lit (.int .i64 0),.lit (.int .i64 0),.lit (.int .i64 0),.lit (.int .i64 0),.sl 0 [] .nil,.sl 0 [] .nil] := rfl
theorem tu42 (parts : List (Nat × LV)) : buildL Tryz.prog 42 parts = (fillL (fun j => [(0,1),(1,1),(2,1),(3,1),(4,1),(5,1)][j]?) [.lit (.int .i64 0),.lit (.int .i64 0),.lit (.int .i64 0),.lit (.int .i64 0),.sl 0 [] .nil,.sl 0 [] .nil] parts).map .agg := rfl
theorem tf43_0 : fieldL Tryz.prog 43 0 = some (0,3) := by kernel_rfl
theorem tf43_1 : fieldL Tryz.prog 43 1 = some (1,3) := by kernel_rfl
theorem tf43_2 : fieldL Tryz.prog 43 2 = some (2,3) := by kernel_rfl
theorem tf43_3 : fieldL Tryz.prog 43 3 = some (3,2) := by kernel_rfl
theorem tf43_4 : fieldL Tryz.prog 43 4 = some (4,40) := by kernel_rfl
theorem tf43_5 : fieldL Tryz.prog 43 5 = some (5,41) := by kernel_rfl
theorem tl43 (cs : List LV) : loadL Tryz.prog 43 cs = if 6 ≤ cs.length then some (.agg (cs.take 6)) else none := rfl
theorem ts43 : sizeL Tryz.prog 43 = 6 := by kernel_rfl
theorem tb43 : bytesL Tryz.prog 43 = 80 := by kernel_rfl
theorem tz43 : zeroOk Tryz.prog 43 = true := by kernel_rfl
theorem to43 : okT Tryz.prog 43 = true := by kernel_rfl
theorem tn43 : zeroL Tryz.prog 43 = some [.lit (.int .i64 0),.lit (.int .i64 0),.lit (.int .i64 0),.lit (.int .i64 0),.sl 0 [] .nil,.sl 0 [] .nil] := rfl
theorem tu43 (parts : List (Nat × LV)) : buildL Tryz.prog 43 parts = (fillL (fun j => [(0,1),(1,1),(2,1),(3,1),(4,1),(5,1)][j]?) [.lit (.int .i64 0),.lit (.int .i64 0),.lit (.int .i64 0),.lit (.int .i64 0),.sl 0 [] .nil,.sl 0 [] .nil] parts).map .agg := rfl
theorem tl44 (cs : List LV) : loadL Tryz.prog 44 cs = cs.head? := rfl
theorem ts44 : sizeL Tryz.prog 44 = 1 := by kernel_rfl
theorem tb44 : bytesL Tryz.prog 44 = 24 := by kernel_rfl
theorem tz44 : zeroOk Tryz.prog 44 = true := by kernel_rfl
theorem to44 : okT Tryz.prog 44 = true := by kernel_rfl
theorem tn44 : zeroL Tryz.prog 44 = some [.sl 0 [] .nil] := rfl
theorem te44 : elemL Tryz.prog 44 = some (77,2) := by kernel_rfl
theorem tf45_0 : fieldL Tryz.prog 45 0 = some (0,3) := by kernel_rfl
theorem tf45_1 : fieldL Tryz.prog 45 1 = some (1,43) := by kernel_rfl
theorem tf45_2 : fieldL Tryz.prog 45 2 = some (7,2) := by kernel_rfl
theorem tf45_3 : fieldL Tryz.prog 45 3 = some (8,44) := by kernel_rfl
theorem tf45_4 : fieldL Tryz.prog 45 4 = some (9,9) := by kernel_rfl
theorem tf45_5 : fieldL Tryz.prog 45 5 = some (10,3) := by kernel_rfl
theorem tf45_6 : fieldL Tryz.prog 45 6 = some (11,3) := by kernel_rfl
theorem tl45 (cs : List LV) : loadL Tryz.prog 45 cs = if 12 ≤ cs.length then some (.agg (cs.take 12)) else none := rfl
theorem ts45 : sizeL Tryz.prog 45 = 12 := by kernel_rfl
theorem tb45 : bytesL Tryz.prog 45 = 152 := by kernel_rfl
theorem tz45 : zeroOk Tryz.prog 45 = true := by kernel_rfl
theorem to45 : okT Tryz.prog 45 = true := by kernel_rfl
theorem tn45 : zeroL Tryz.prog 45 = some [.lit (.int .i64 0),.lit (.int .i64 0),.lit (.int .i64 0),.lit (.int .i64 0),.lit (.int .i64 0),.sl 0 [] .nil,.sl 0 [] .nil,.lit (.int .i64 0),.sl 0 [] .nil,.lit (.string ⟨#[]⟩),.lit (.int .i64 0),.lit (.int .i64 0)] := rfl
theorem tu45 (parts : List (Nat × LV)) : buildL Tryz.prog 45 parts = (fillL (fun j => [(0,1),(1,6),(7,1),(8,1),(9,1),(10,1),(11,1)][j]?) [.lit (.int .i64 0),.lit (.int .i64 0),.lit (.int .i64 0),.lit (.int .i64 0),.lit (.int .i64 0),.sl 0 [] .nil,.sl 0 [] .nil,.lit (.int .i64 0),.sl 0 [] .nil,.lit (.string ⟨#[]⟩),.lit (.int .i64 0),.lit (.int .i64 0)] parts).map .agg := rfl
theorem tf46_0 : fieldL Tryz.prog 46 0 = some (0,3) := by kernel_rfl
theorem tf46_1 : fieldL Tryz.prog 46 1 = some (1,43) := by kernel_rfl
theorem tf46_2 : fieldL Tryz.prog 46 2 = some (7,2) := by kernel_rfl
theorem tf46_3 : fieldL Tryz.prog 46 3 = some (8,44) := by kernel_rfl
theorem tf46_4 : fieldL Tryz.prog 46 4 = some (9,9) := by kernel_rfl
theorem tf46_5 : fieldL Tryz.prog 46 5 = some (10,3) := by kernel_rfl
theorem tf46_6 : fieldL Tryz.prog 46 6 = some (11,3) := by kernel_rfl
theorem tl46 (cs : List LV) : loadL Tryz.prog 46 cs = if 12 ≤ cs.length then some (.agg (cs.take 12)) else none := rfl
theorem ts46 : sizeL Tryz.prog 46 = 12 := by kernel_rfl
theorem tb46 : bytesL Tryz.prog 46 = 152 := by kernel_rfl
theorem tz46 : zeroOk Tryz.prog 46 = true := by kernel_rfl
theorem to46 : okT Tryz.prog 46 = true := by kernel_rfl
theorem tn46 : zeroL Tryz.prog 46 = some [.lit (.int .i64 0),.lit (.int .i64 0),.lit (.int .i64 0),.lit (.int .i64 0),.lit (.int .i64 0),.sl 0 [] .nil,.sl 0 [] .nil,.lit (.int .i64 0),.sl 0 [] .nil,.lit (.string ⟨#[]⟩),.lit (.int .i64 0),.lit (.int .i64 0)] := rfl
theorem tu46 (parts : List (Nat × LV)) : buildL Tryz.prog 46 parts = (fillL (fun j => [(0,1),(1,6),(7,1),(8,1),(9,1),(10,1),(11,1)][j]?) [.lit (.int .i64 0),.lit (.int .i64 0),.lit (.int .i64 0),.lit (.int .i64 0),.lit (.int .i64 0),.sl 0 [] .nil,.sl 0 [] .nil,.lit (.int .i64 0),.sl 0 [] .nil,.lit (.string ⟨#[]⟩),.lit (.int .i64 0),.lit (.int .i64 0)] parts).map .agg := rfl
theorem tf47_0 : fieldL Tryz.prog 47 0 = some (0,9) := by kernel_rfl
theorem tf47_1 : fieldL Tryz.prog 47 1 = some (1,3) := by kernel_rfl
theorem tf47_2 : fieldL Tryz.prog 47 2 = some (2,46) := by kernel_rfl
theorem tf47_3 : fieldL Tryz.prog 47 3 = some (14,3) := by kernel_rfl
theorem tl47 (cs : List LV) : loadL Tryz.prog 47 cs = if 15 ≤ cs.length then some (.agg (cs.take 15)) else none := rfl
theorem ts47 : sizeL Tryz.prog 47 = 15 := by kernel_rfl
theorem tb47 : bytesL Tryz.prog 47 = 184 := by kernel_rfl
theorem tz47 : zeroOk Tryz.prog 47 = true := by kernel_rfl
theorem to47 : okT Tryz.prog 47 = true := by kernel_rfl
theorem tn47 : zeroL Tryz.prog 47 = some [.lit (.string ⟨#[]⟩),.lit (.int .i64 0),.lit (.int .i64 0),.lit (.int .i64 0),.lit (.int .i64 0),.lit (.int .i64 0),.lit (.int .i64 0),.sl 0 [] .nil,.sl 0 [] .nil,.lit (.int .i64 0),.sl 0 [] .nil,.lit (.string ⟨#[]⟩),.lit (.int .i64 0),.lit (.int .i64 0),.lit (.int .i64 0)] := rfl
theorem tu47 (parts : List (Nat × LV)) : buildL Tryz.prog 47 parts = (fillL (fun j => [(0,1),(1,1),(2,12),(14,1)][j]?) [.lit (.string ⟨#[]⟩),.lit (.int .i64 0),.lit (.int .i64 0),.lit (.int .i64 0),.lit (.int .i64 0),.lit (.int .i64 0),.lit (.int .i64 0),.sl 0 [] .nil,.sl 0 [] .nil,.lit (.int .i64 0),.sl 0 [] .nil,.lit (.string ⟨#[]⟩),.lit (.int .i64 0),.lit (.int .i64 0),.lit (.int .i64 0)] parts).map .agg := rfl
theorem tf48_0 : fieldL Tryz.prog 48 0 = some (0,9) := by kernel_rfl
theorem tf48_1 : fieldL Tryz.prog 48 1 = some (1,3) := by kernel_rfl
theorem tf48_2 : fieldL Tryz.prog 48 2 = some (2,46) := by kernel_rfl
theorem tf48_3 : fieldL Tryz.prog 48 3 = some (14,3) := by kernel_rfl
theorem tl48 (cs : List LV) : loadL Tryz.prog 48 cs = if 15 ≤ cs.length then some (.agg (cs.take 15)) else none := rfl
theorem ts48 : sizeL Tryz.prog 48 = 15 := by kernel_rfl
theorem tb48 : bytesL Tryz.prog 48 = 184 := by kernel_rfl
theorem tz48 : zeroOk Tryz.prog 48 = true := by kernel_rfl
theorem to48 : okT Tryz.prog 48 = true := by kernel_rfl
theorem tn48 : zeroL Tryz.prog 48 = some [.lit (.string ⟨#[]⟩),.lit (.int .i64 0),.lit (.int .i64 0),.lit (.int .i64 0),.lit (.int .i64 0),.lit (.int .i64 0),.lit (.int .i64 0),.sl 0 [] .nil,.sl 0 [] .nil,.lit (.int .i64 0),.sl 0 [] .nil,.lit (.string ⟨#[]⟩),.lit (.int .i64 0),.lit (.int .i64 0),.lit (.int .i64 0)] := rfl
theorem tu48 (parts : List (Nat × LV)) : buildL Tryz.prog 48 parts = (fillL (fun j => [(0,1),(1,1),(2,12),(14,1)][j]?) [.lit (.string ⟨#[]⟩),.lit (.int .i64 0),.lit (.int .i64 0),.lit (.int .i64 0),.lit (.int .i64 0),.lit (.int .i64 0),.lit (.int .i64 0),.sl 0 [] .nil,.sl 0 [] .nil,.lit (.int .i64 0),.sl 0 [] .nil,.lit (.string ⟨#[]⟩),.lit (.int .i64 0),.lit (.int .i64 0),.lit (.int .i64 0)] parts).map .agg := rfl
theorem tl51 (cs : List LV) : loadL Tryz.prog 51 cs = cs.head? := rfl
theorem ts51 : sizeL Tryz.prog 51 = 1 := by kernel_rfl
theorem tb51 : bytesL Tryz.prog 51 = 24 := by kernel_rfl
theorem tz51 : zeroOk Tryz.prog 51 = true := by kernel_rfl
theorem to51 : okT Tryz.prog 51 = true := by kernel_rfl
theorem tn51 : zeroL Tryz.prog 51 = some [.sl 0 [] .nil] := rfl
theorem te51 : elemL Tryz.prog 51 = some (38,4) := by kernel_rfl
theorem tl58 (cs : List LV) : loadL Tryz.prog 58 cs = cs.head? := rfl
theorem ts58 : sizeL Tryz.prog 58 = 1 := by kernel_rfl
theorem tb58 : bytesL Tryz.prog 58 = 8 := by kernel_rfl
theorem tz58 : zeroOk Tryz.prog 58 = true := by kernel_rfl
theorem to58 : okT Tryz.prog 58 = true := by kernel_rfl
theorem tn58 : zeroL Tryz.prog 58 = some [.lit (.int .u64 0)] := rfl
theorem tf73_0 : fieldL Tryz.prog 73 0 = some (0,9) := by kernel_rfl
theorem tf73_1 : fieldL Tryz.prog 73 1 = some (1,3) := by kernel_rfl
theorem tl73 (cs : List LV) : loadL Tryz.prog 73 cs = if 2 ≤ cs.length then some (.agg (cs.take 2)) else none := rfl
theorem ts73 : sizeL Tryz.prog 73 = 2 := by kernel_rfl
theorem tb73 : bytesL Tryz.prog 73 = 24 := by kernel_rfl
theorem tz73 : zeroOk Tryz.prog 73 = true := by kernel_rfl
theorem to73 : okT Tryz.prog 73 = true := by kernel_rfl
theorem tq73 : eqKinds Tryz.prog 73 = some [(0,1),(1,0)] := by kernel_rfl
theorem tn73 : zeroL Tryz.prog 73 = some [.lit (.string ⟨#[]⟩),.lit (.int .i64 0)] := rfl
theorem tu73 (parts : List (Nat × LV)) : buildL Tryz.prog 73 parts = (fillL (fun j => [(0,1),(1,1)][j]?) [.lit (.string ⟨#[]⟩),.lit (.int .i64 0)] parts).map .agg := rfl
theorem tf74_0 : fieldL Tryz.prog 74 0 = some (0,9) := by kernel_rfl
theorem tf74_1 : fieldL Tryz.prog 74 1 = some (1,3) := by kernel_rfl
theorem tl74 (cs : List LV) : loadL Tryz.prog 74 cs = if 2 ≤ cs.length then some (.agg (cs.take 2)) else none := rfl
theorem ts74 : sizeL Tryz.prog 74 = 2 := by kernel_rfl
theorem tb74 : bytesL Tryz.prog 74 = 24 := by kernel_rfl
theorem tz74 : zeroOk Tryz.prog 74 = true := by kernel_rfl
theorem to74 : okT Tryz.prog 74 = true := by kernel_rfl
theorem tq74 : eqKinds Tryz.prog 74 = some [(0,1),(1,0)] := by kernel_rfl
theorem tn74 : zeroL Tryz.prog 74 = some [.lit (.string ⟨#[]⟩),.lit (.int .i64 0)] := rfl
theorem tu74 (parts : List (Nat × LV)) : buildL Tryz.prog 74 parts = (fillL (fun j => [(0,1),(1,1)][j]?) [.lit (.string ⟨#[]⟩),.lit (.int .i64 0)] parts).map .agg := rfl
theorem tf76_0 : fieldL Tryz.prog 76 0 = some (0,2) := by kernel_rfl
theorem tf76_1 : fieldL Tryz.prog 76 1 = some (1,9) := by kernel_rfl
theorem tl76 (cs : List LV) : loadL Tryz.prog 76 cs = if 2 ≤ cs.length then some (.agg (cs.take 2)) else none := rfl
theorem ts76 : sizeL Tryz.prog 76 = 2 := by kernel_rfl
theorem tb76 : bytesL Tryz.prog 76 = 24 := by kernel_rfl
theorem tz76 : zeroOk Tryz.prog 76 = true := by kernel_rfl
theorem to76 : okT Tryz.prog 76 = true := by kernel_rfl
theorem tq76 : eqKinds Tryz.prog 76 = some [(0,0),(1,1)] := by kernel_rfl
theorem tn76 : zeroL Tryz.prog 76 = some [.lit (.int .i64 0),.lit (.string ⟨#[]⟩)] := rfl
theorem tu76 (parts : List (Nat × LV)) : buildL Tryz.prog 76 parts = (fillL (fun j => [(0,1),(1,1)][j]?) [.lit (.int .i64 0),.lit (.string ⟨#[]⟩)] parts).map .agg := rfl
theorem tf77_0 : fieldL Tryz.prog 77 0 = some (0,2) := by kernel_rfl
theorem tf77_1 : fieldL Tryz.prog 77 1 = some (1,9) := by kernel_rfl
theorem tl77 (cs : List LV) : loadL Tryz.prog 77 cs = if 2 ≤ cs.length then some (.agg (cs.take 2)) else none := rfl
theorem ts77 : sizeL Tryz.prog 77 = 2 := by kernel_rfl
theorem tb77 : bytesL Tryz.prog 77 = 24 := by kernel_rfl
theorem tz77 : zeroOk Tryz.prog 77 = true := by kernel_rfl
theorem to77 : okT Tryz.prog 77 = true := by kernel_rfl
theorem tq77 : eqKinds Tryz.prog 77 = some [(0,0),(1,1)] := by kernel_rfl
theorem tn77 : zeroL Tryz.prog 77 = some [.lit (.int .i64 0),.lit (.string ⟨#[]⟩)] := rfl
theorem tu77 (parts : List (Nat × LV)) : buildL Tryz.prog 77 parts = (fillL (fun j => [(0,1),(1,1)][j]?) [.lit (.int .i64 0),.lit (.string ⟨#[]⟩)] parts).map .agg := rfl
theorem tf83_0 : fieldL Tryz.prog 83 0 = some (0,9) := by kernel_rfl
theorem tf83_1 : fieldL Tryz.prog 83 1 = some (1,9) := by kernel_rfl
theorem tl83 (cs : List LV) : loadL Tryz.prog 83 cs = if 2 ≤ cs.length then some (.agg (cs.take 2)) else none := rfl
theorem ts83 : sizeL Tryz.prog 83 = 2 := by kernel_rfl
theorem tb83 : bytesL Tryz.prog 83 = 32 := by kernel_rfl
theorem tz83 : zeroOk Tryz.prog 83 = true := by kernel_rfl
theorem to83 : okT Tryz.prog 83 = true := by kernel_rfl
theorem tq83 : eqKinds Tryz.prog 83 = some [(0,1),(1,1)] := by kernel_rfl
theorem tn83 : zeroL Tryz.prog 83 = some [.lit (.string ⟨#[]⟩),.lit (.string ⟨#[]⟩)] := rfl
theorem tu83 (parts : List (Nat × LV)) : buildL Tryz.prog 83 parts = (fillL (fun j => [(0,1),(1,1)][j]?) [.lit (.string ⟨#[]⟩),.lit (.string ⟨#[]⟩)] parts).map .agg := rfl
theorem tf84_0 : fieldL Tryz.prog 84 0 = some (0,9) := by kernel_rfl
theorem tf84_1 : fieldL Tryz.prog 84 1 = some (1,9) := by kernel_rfl
theorem tl84 (cs : List LV) : loadL Tryz.prog 84 cs = if 2 ≤ cs.length then some (.agg (cs.take 2)) else none := rfl
theorem ts84 : sizeL Tryz.prog 84 = 2 := by kernel_rfl
theorem tb84 : bytesL Tryz.prog 84 = 32 := by kernel_rfl
theorem tz84 : zeroOk Tryz.prog 84 = true := by kernel_rfl
theorem to84 : okT Tryz.prog 84 = true := by kernel_rfl
theorem tq84 : eqKinds Tryz.prog 84 = some [(0,1),(1,1)] := by kernel_rfl
theorem tn84 : zeroL Tryz.prog 84 = some [.lit (.string ⟨#[]⟩),.lit (.string ⟨#[]⟩)] := rfl
theorem tu84 (parts : List (Nat × LV)) : buildL Tryz.prog 84 parts = (fillL (fun j => [(0,1),(1,1)][j]?) [.lit (.string ⟨#[]⟩),.lit (.string ⟨#[]⟩)] parts).map .agg := rfl
theorem tf85_0 : fieldL Tryz.prog 85 0 = some (0,3) := by kernel_rfl
theorem tf85_1 : fieldL Tryz.prog 85 1 = some (1,3) := by kernel_rfl
theorem tf85_2 : fieldL Tryz.prog 85 2 = some (2,3) := by kernel_rfl
theorem tl85 (cs : List LV) : loadL Tryz.prog 85 cs = if 3 ≤ cs.length then some (.agg (cs.take 3)) else none := rfl
theorem ts85 : sizeL Tryz.prog 85 = 3 := by kernel_rfl
theorem tb85 : bytesL Tryz.prog 85 = 24 := by kernel_rfl
theorem tz85 : zeroOk Tryz.prog 85 = true := by kernel_rfl
theorem to85 : okT Tryz.prog 85 = true := by kernel_rfl
theorem tq85 : eqKinds Tryz.prog 85 = some [(0,0),(1,0),(2,0)] := by kernel_rfl
theorem tn85 : zeroL Tryz.prog 85 = some [.lit (.int .i64 0),.lit (.int .i64 0),.lit (.int .i64 0)] := rfl
theorem tu85 (parts : List (Nat × LV)) : buildL Tryz.prog 85 parts = (fillL (fun j => [(0,1),(1,1),(2,1)][j]?) [.lit (.int .i64 0),.lit (.int .i64 0),.lit (.int .i64 0)] parts).map .agg := rfl
theorem tf86_0 : fieldL Tryz.prog 86 0 = some (0,3) := by kernel_rfl
theorem tf86_1 : fieldL Tryz.prog 86 1 = some (1,3) := by kernel_rfl
theorem tf86_2 : fieldL Tryz.prog 86 2 = some (2,3) := by kernel_rfl
theorem tl86 (cs : List LV) : loadL Tryz.prog 86 cs = if 3 ≤ cs.length then some (.agg (cs.take 3)) else none := rfl
theorem ts86 : sizeL Tryz.prog 86 = 3 := by kernel_rfl
theorem tb86 : bytesL Tryz.prog 86 = 24 := by kernel_rfl
theorem tz86 : zeroOk Tryz.prog 86 = true := by kernel_rfl
theorem to86 : okT Tryz.prog 86 = true := by kernel_rfl
theorem tq86 : eqKinds Tryz.prog 86 = some [(0,0),(1,0),(2,0)] := by kernel_rfl
theorem tn86 : zeroL Tryz.prog 86 = some [.lit (.int .i64 0),.lit (.int .i64 0),.lit (.int .i64 0)] := rfl
theorem tu86 (parts : List (Nat × LV)) : buildL Tryz.prog 86 parts = (fillL (fun j => [(0,1),(1,1),(2,1)][j]?) [.lit (.int .i64 0),.lit (.int .i64 0),.lit (.int .i64 0)] parts).map .agg := rfl
theorem tf97_0 : fieldL Tryz.prog 97 0 = some (0,31) := by kernel_rfl
theorem tf97_1 : fieldL Tryz.prog 97 1 = some (1,3) := by kernel_rfl
theorem tl97 (cs : List LV) : loadL Tryz.prog 97 cs = if 2 ≤ cs.length then some (.agg (cs.take 2)) else none := rfl
theorem ts97 : sizeL Tryz.prog 97 = 2 := by kernel_rfl
theorem tb97 : bytesL Tryz.prog 97 = 32 := by kernel_rfl
theorem tz97 : zeroOk Tryz.prog 97 = true := by kernel_rfl
theorem to97 : okT Tryz.prog 97 = true := by kernel_rfl
theorem tn97 : zeroL Tryz.prog 97 = some [.sl 0 [] .nil,.lit (.int .i64 0)] := rfl
theorem tu97 (parts : List (Nat × LV)) : buildL Tryz.prog 97 parts = (fillL (fun j => [(0,1),(1,1)][j]?) [.sl 0 [] .nil,.lit (.int .i64 0)] parts).map .agg := rfl
theorem tf98_0 : fieldL Tryz.prog 98 0 = some (0,31) := by kernel_rfl
theorem tf98_1 : fieldL Tryz.prog 98 1 = some (1,3) := by kernel_rfl
theorem tl98 (cs : List LV) : loadL Tryz.prog 98 cs = if 2 ≤ cs.length then some (.agg (cs.take 2)) else none := rfl
theorem ts98 : sizeL Tryz.prog 98 = 2 := by kernel_rfl
theorem tb98 : bytesL Tryz.prog 98 = 32 := by kernel_rfl
theorem tz98 : zeroOk Tryz.prog 98 = true := by kernel_rfl
theorem to98 : okT Tryz.prog 98 = true := by kernel_rfl
theorem tn98 : zeroL Tryz.prog 98 = some [.sl 0 [] .nil,.lit (.int .i64 0)] := rfl
theorem tu98 (parts : List (Nat × LV)) : buildL Tryz.prog 98 parts = (fillL (fun j => [(0,1),(1,1)][j]?) [.sl 0 [] .nil,.lit (.int .i64 0)] parts).map .agg := rfl
theorem tl124 (cs : List LV) : loadL Tryz.prog 124 cs = cs.head? := rfl
theorem ts124 : sizeL Tryz.prog 124 = 1 := by kernel_rfl
theorem tb124 : bytesL Tryz.prog 124 = 24 := by kernel_rfl
theorem tz124 : zeroOk Tryz.prog 124 = true := by kernel_rfl
theorem to124 : okT Tryz.prog 124 = true := by kernel_rfl
theorem tn124 : zeroL Tryz.prog 124 = some [.sl 0 [] .nil] := rfl
theorem te124 : elemL Tryz.prog 124 = some (5,1) := by kernel_rfl
theorem tl132 (cs : List LV) : loadL Tryz.prog 132 cs = cs.head? := rfl
theorem ts132 : sizeL Tryz.prog 132 = 1 := by kernel_rfl
theorem tb132 : bytesL Tryz.prog 132 = 24 := by kernel_rfl
theorem tz132 : zeroOk Tryz.prog 132 = true := by kernel_rfl
theorem to132 : okT Tryz.prog 132 = true := by kernel_rfl
theorem tn132 : zeroL Tryz.prog 132 = some [.sl 0 [] .nil] := rfl
theorem te132 : elemL Tryz.prog 132 = some (143,1) := by kernel_rfl
theorem tl143 (cs : List LV) : loadL Tryz.prog 143 cs = cs.head? := rfl
theorem ts143 : sizeL Tryz.prog 143 = 1 := by kernel_rfl
theorem tb143 : bytesL Tryz.prog 143 = 16 := by kernel_rfl
theorem tz143 : zeroOk Tryz.prog 143 = true := by kernel_rfl
theorem to143 : okT Tryz.prog 143 = true := by kernel_rfl
theorem tn143 : zeroL Tryz.prog 143 = some [.lit (.complex .f64 0 0)] := rfl
theorem tf148_1 : fieldL Tryz.prog 148 1 = some (1,124) := by kernel_rfl
theorem tl148 (cs : List LV) : loadL Tryz.prog 148 cs = if 2 ≤ cs.length then some (.agg (cs.take 2)) else none := rfl
theorem ts148 : sizeL Tryz.prog 148 = 2 := by kernel_rfl
theorem tb148 : bytesL Tryz.prog 148 = 32 := by kernel_rfl
theorem tz148 : zeroOk Tryz.prog 148 = true := by kernel_rfl
theorem to148 : okT Tryz.prog 148 = true := by kernel_rfl
theorem tf149_1 : fieldL Tryz.prog 149 1 = some (1,124) := by kernel_rfl
theorem tl149 (cs : List LV) : loadL Tryz.prog 149 cs = if 2 ≤ cs.length then some (.agg (cs.take 2)) else none := rfl
theorem ts149 : sizeL Tryz.prog 149 = 2 := by kernel_rfl
theorem tb149 : bytesL Tryz.prog 149 = 32 := by kernel_rfl
theorem tz149 : zeroOk Tryz.prog 149 = true := by kernel_rfl
theorem to149 : okT Tryz.prog 149 = true := by kernel_rfl
theorem tl158 (cs : List LV) : loadL Tryz.prog 158 cs = cs.head? := rfl
theorem tl160 (cs : List LV) : loadL Tryz.prog 160 cs = cs.head? := rfl
theorem ts160 : sizeL Tryz.prog 160 = 1 := by kernel_rfl
theorem tb160 : bytesL Tryz.prog 160 = 4 := by kernel_rfl
theorem tz160 : zeroOk Tryz.prog 160 = true := by kernel_rfl
theorem to160 : okT Tryz.prog 160 = true := by kernel_rfl
theorem tn160 : zeroL Tryz.prog 160 = some [.lit (.int .u32 0)] := rfl
theorem tl163 (cs : List LV) : loadL Tryz.prog 163 cs = cs.head? := rfl
theorem ts163 : sizeL Tryz.prog 163 = 1 := by kernel_rfl
theorem tb163 : bytesL Tryz.prog 163 = 8 := by kernel_rfl
theorem tz163 : zeroOk Tryz.prog 163 = true := by kernel_rfl
theorem to163 : okT Tryz.prog 163 = true := by kernel_rfl
theorem tn163 : zeroL Tryz.prog 163 = some [.lit (.int .u64 0)] := rfl
theorem tf185_0 : fieldL Tryz.prog 185 0 = some (0,12) := by kernel_rfl
theorem tf185_1 : fieldL Tryz.prog 185 1 = some (1,12) := by kernel_rfl
theorem tf185_2 : fieldL Tryz.prog 185 2 = some (2,160) := by kernel_rfl
theorem tf185_3 : fieldL Tryz.prog 185 3 = some (3,180) := by kernel_rfl
theorem tf185_4 : fieldL Tryz.prog 185 4 = some (4,5) := by kernel_rfl
theorem tf185_5 : fieldL Tryz.prog 185 5 = some (5,5) := by kernel_rfl
theorem tf185_6 : fieldL Tryz.prog 185 6 = some (6,181) := by kernel_rfl
theorem tf185_9 : fieldL Tryz.prog 185 9 = some (9,183) := by kernel_rfl
theorem tf185_10 : fieldL Tryz.prog 185 10 = some (10,184) := by kernel_rfl
theorem tl185 (cs : List LV) : loadL Tryz.prog 185 cs = if 11 ≤ cs.length then some (.agg (cs.take 11)) else none := rfl
theorem ts185 : sizeL Tryz.prog 185 = 11 := by kernel_rfl
theorem tb185 : bytesL Tryz.prog 185 = 48 := by kernel_rfl
theorem tz185 : zeroOk Tryz.prog 185 = true := by kernel_rfl
theorem to185 : okT Tryz.prog 185 = true := by kernel_rfl
theorem tadd64 : extAdd Tryz.prog = none := by kernel_rfl
end Go.Proofs.YteamlijbkldlhaaGreat
