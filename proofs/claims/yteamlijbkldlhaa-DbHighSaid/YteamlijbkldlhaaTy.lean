import Derived.Test.YteamlijbkldlhaaProg
import Derived.Test.YteamlijbkldlhaaL11
set_option maxRecDepth 100000
set_option linter.unusedSimpArgs false
set_option linter.unusedVariables false
namespace Go.Proofs.Yteamlijbkldlhaa
theorem tl2 (cs : List LV) : loadL Try.prog 2 cs = cs.head? := rfl
theorem ts2 : sizeL Try.prog 2 = 1 := by kernel_rfl
theorem tb2 : bytesL Try.prog 2 = 8 := by kernel_rfl
theorem tz2 : zeroOk Try.prog 2 = true := by kernel_rfl
theorem to2 : okT Try.prog 2 = true := by kernel_rfl
theorem tn2 : zeroL Try.prog 2 = some [.lit (.int .i64 0)] := rfl
theorem tl3 (cs : List LV) : loadL Try.prog 3 cs = cs.head? := rfl
theorem ts3 : sizeL Try.prog 3 = 1 := by kernel_rfl
theorem tb3 : bytesL Try.prog 3 = 8 := by kernel_rfl
theorem tz3 : zeroOk Try.prog 3 = true := by kernel_rfl
theorem to3 : okT Try.prog 3 = true := by kernel_rfl
theorem tn3 : zeroL Try.prog 3 = some [.lit (.int .i64 0)] := rfl
theorem tl4 (cs : List LV) : loadL Try.prog 4 cs = cs.head? := rfl
theorem ts4 : sizeL Try.prog 4 = 1 := by kernel_rfl
theorem tb4 : bytesL Try.prog 4 = 1 := by kernel_rfl
theorem tz4 : zeroOk Try.prog 4 = true := by kernel_rfl
theorem to4 : okT Try.prog 4 = true := by kernel_rfl
theorem tn4 : zeroL Try.prog 4 = some [.lit (.bool false)] := rfl
theorem tl5 (cs : List LV) : loadL Try.prog 5 cs = cs.head? := rfl
theorem ts5 : sizeL Try.prog 5 = 1 := by kernel_rfl
theorem tb5 : bytesL Try.prog 5 = 1 := by kernel_rfl
theorem tz5 : zeroOk Try.prog 5 = true := by kernel_rfl
theorem to5 : okT Try.prog 5 = true := by kernel_rfl
theorem tn5 : zeroL Try.prog 5 = some [.lit (.int .u8 0)] := rfl
theorem tl9 (cs : List LV) : loadL Try.prog 9 cs = cs.head? := rfl
theorem ts9 : sizeL Try.prog 9 = 1 := by kernel_rfl
theorem tb9 : bytesL Try.prog 9 = 16 := by kernel_rfl
theorem tz9 : zeroOk Try.prog 9 = true := by kernel_rfl
theorem to9 : okT Try.prog 9 = true := by kernel_rfl
theorem tn9 : zeroL Try.prog 9 = some [.lit (.string ⟨#[]⟩)] := rfl
theorem tl12 (cs : List LV) : loadL Try.prog 12 cs = cs.head? := rfl
theorem ts12 : sizeL Try.prog 12 = 1 := by kernel_rfl
theorem tb12 : bytesL Try.prog 12 = 8 := by kernel_rfl
theorem tz12 : zeroOk Try.prog 12 = true := by kernel_rfl
theorem to12 : okT Try.prog 12 = true := by kernel_rfl
theorem tn12 : zeroL Try.prog 12 = some [.lit (.int .u64 0)] := rfl
theorem tl21 (cs : List LV) : loadL Try.prog 21 cs = cs.head? := rfl
theorem ts21 : sizeL Try.prog 21 = 1 := by kernel_rfl
theorem tb21 : bytesL Try.prog 21 = 4 := by kernel_rfl
theorem tz21 : zeroOk Try.prog 21 = true := by kernel_rfl
theorem to21 : okT Try.prog 21 = true := by kernel_rfl
theorem tn21 : zeroL Try.prog 21 = some [.lit (.int .i32 0)] := rfl
theorem tl22 (cs : List LV) : loadL Try.prog 22 cs = cs.head? := rfl
theorem ts22 : sizeL Try.prog 22 = 1 := by kernel_rfl
theorem tb22 : bytesL Try.prog 22 = 8 := by kernel_rfl
theorem tz22 : zeroOk Try.prog 22 = true := by kernel_rfl
theorem to22 : okT Try.prog 22 = true := by kernel_rfl
theorem tn22 : zeroL Try.prog 22 = some [.lit (.int .u64 0)] := rfl
theorem tl23 (cs : List LV) : loadL Try.prog 23 cs = cs.head? := rfl
theorem ts23 : sizeL Try.prog 23 = 1 := by kernel_rfl
theorem tb23 : bytesL Try.prog 23 = 24 := by kernel_rfl
theorem tz23 : zeroOk Try.prog 23 = true := by kernel_rfl
theorem to23 : okT Try.prog 23 = true := by kernel_rfl
theorem tn23 : zeroL Try.prog 23 = some [.sl 0 [] .nil] := rfl
theorem te23 : elemL Try.prog 23 = some (33,15) := by kernel_rfl
theorem tl25 (cs : List LV) : loadL Try.prog 25 cs = cs.head? := rfl
theorem ts25 : sizeL Try.prog 25 = 1 := by kernel_rfl
theorem tb25 : bytesL Try.prog 25 = 24 := by kernel_rfl
theorem tz25 : zeroOk Try.prog 25 = true := by kernel_rfl
theorem to25 : okT Try.prog 25 = true := by kernel_rfl
theorem tn25 : zeroL Try.prog 25 = some [.sl 0 [] .nil] := rfl
theorem te25 : elemL Try.prog 25 = some (79,2) := by kernel_rfl
theorem tl26 (cs : List LV) : loadL Try.prog 26 cs = cs.head? := rfl
theorem ts26 : sizeL Try.prog 26 = 1 := by kernel_rfl
theorem tb26 : bytesL Try.prog 26 = 24 := by kernel_rfl
theorem tz26 : zeroOk Try.prog 26 = true := by kernel_rfl
theorem to26 : okT Try.prog 26 = true := by kernel_rfl
theorem tn26 : zeroL Try.prog 26 = some [.sl 0 [] .nil] := rfl
theorem te26 : elemL Try.prog 26 = some (82,3) := by kernel_rfl
theorem tf27_0 : fieldL Try.prog 27 0 = some (0,3) := by kernel_rfl
theorem tf27_1 : fieldL Try.prog 27 1 = some (1,3) := by kernel_rfl
theorem tf27_2 : fieldL Try.prog 27 2 = some (2,3) := by kernel_rfl
theorem tf27_3 : fieldL Try.prog 27 3 = some (3,2) := by kernel_rfl
theorem tf27_4 : fieldL Try.prog 27 4 = some (4,25) := by kernel_rfl
theorem tf27_5 : fieldL Try.prog 27 5 = some (5,26) := by kernel_rfl
theorem tl27 (cs : List LV) : loadL Try.prog 27 cs = if 6 ≤ cs.length then some (.agg (cs.take 6)) else none := rfl
theorem ts27 : sizeL Try.prog 27 = 6 := by kernel_rfl
theorem tb27 : bytesL Try.prog 27 = 80 := by kernel_rfl
theorem tz27 : zeroOk Try.prog 27 = true := by kernel_rfl
theorem to27 : okT Try.prog 27 = true := by kernel_rfl
theorem tn27 : zeroL Try.prog 27 = some [.lit (.int .i64 0),.lit (.int .i64 0),.lit (.int .i64 0),.lit (.int .i64 0),.sl 0 [] .nil,.sl 0 [] .nil] := rfl
theorem tu27 (parts : List (Nat × LV)) : buildL Try.prog 27 parts = (fillL (fun j => [(0,1),(1,1),(2,1),(3,1),(4,1),(5,1)][j]?) [.lit (.int .i64 0),.lit (.int .i64 0),.lit (.int .i64 0),.lit (.int .i64 0),.sl 0 [] .nil,.sl 0 [] .nil] parts).map .agg := rfl
theorem tf28_0 : fieldL Try.prog 28 0 = some (0,3) := by kernel_rfl
theorem tf28_1 : fieldL Try.prog 28 1 = some (1,3) := by kernel_rfl
theorem tf28_2 : fieldL Try.prog 28 2 = some (2,3) := by kernel_rfl
theorem tf28_3 : fieldL Try.prog 28 3 = some (3,2) := by kernel_rfl
theorem tf28_4 : fieldL Try.prog 28 4 = some (4,25) := by kernel_rfl
theorem tf28_5 : fieldL Try.prog 28 5 = some (5,26) := by kernel_rfl
theorem tl28 (cs : List LV) : loadL Try.prog 28 cs = if 6 ≤ cs.length then some (.agg (cs.take 6)) else none := rfl
theorem ts28 : sizeL Try.prog 28 = 6 := by kernel_rfl
theorem tb28 : bytesL Try.prog 28 = 80 := by kernel_rfl
theorem tz28 : zeroOk Try.prog 28 = true := by kernel_rfl
theorem to28 : okT Try.prog 28 = true := by kernel_rfl
theorem tn28 : zeroL Try.prog 28 = some [.lit (.int .i64 0),.lit (.int .i64 0),.lit (.int .i64 0),.lit (.int .i64 0),.sl 0 [] .nil,.sl 0 [] .nil] := rfl
theorem tu28 (parts : List (Nat × LV)) : buildL Try.prog 28 parts = (fillL (fun j => [(0,1),(1,1),(2,1),(3,1),(4,1),(5,1)][j]?) [.lit (.int .i64 0),.lit (.int .i64 0),.lit (.int .i64 0),.lit (.int .i64 0),.sl 0 [] .nil,.sl 0 [] .nil] parts).map .agg := rfl
theorem tl29 (cs : List LV) : loadL Try.prog 29 cs = cs.head? := rfl
theorem ts29 : sizeL Try.prog 29 = 1 := by kernel_rfl
theorem tb29 : bytesL Try.prog 29 = 24 := by kernel_rfl
theorem tz29 : zeroOk Try.prog 29 = true := by kernel_rfl
theorem to29 : okT Try.prog 29 = true := by kernel_rfl
theorem tn29 : zeroL Try.prog 29 = some [.sl 0 [] .nil] := rfl
theorem te29 : elemL Try.prog 29 = some (85,2) := by kernel_rfl
theorem tf30_0 : fieldL Try.prog 30 0 = some (0,3) := by kernel_rfl
theorem tf30_1 : fieldL Try.prog 30 1 = some (1,28) := by kernel_rfl
theorem tf30_2 : fieldL Try.prog 30 2 = some (7,2) := by kernel_rfl
theorem tf30_3 : fieldL Try.prog 30 3 = some (8,29) := by kernel_rfl
theorem tf30_4 : fieldL Try.prog 30 4 = some (9,9) := by kernel_rfl
theorem tf30_5 : fieldL Try.prog 30 5 = some (10,3) := by kernel_rfl
theorem tf30_6 : fieldL Try.prog 30 6 = some (11,3) := by kernel_rfl
theorem tl30 (cs : List LV) : loadL Try.prog 30 cs = if 12 ≤ cs.length then some (.agg (cs.take 12)) else none := rfl
theorem ts30 : sizeL Try.prog 30 = 12 := by kernel_rfl
theorem tb30 : bytesL Try.prog 30 = 152 := by kernel_rfl
theorem tz30 : zeroOk Try.prog 30 = true := by kernel_rfl
theorem to30 : okT Try.prog 30 = true := by kernel_rfl
theorem tn30 : zeroL Try.prog 30 = some [.lit (.int .i64 0),.lit (.int .i64 0),.lit (.int .i64 0),.lit (.int .i64 0),.lit (.int .i64 0),.sl 0 [] .nil,.sl 0 [] .nil,.lit (.int .i64 0),.sl 0 [] .nil,.lit (.string ⟨#[]⟩),.lit (.int .i64 0),.lit (.int .i64 0)] := rfl
theorem tu30 (parts : List (Nat × LV)) : buildL Try.prog 30 parts = (fillL (fun j => [(0,1),(1,6),(7,1),(8,1),(9,1),(10,1),(11,1)][j]?) [.lit (.int .i64 0),.lit (.int .i64 0),.lit (.int .i64 0),.lit (.int .i64 0),.lit (.int .i64 0),.sl 0 [] .nil,.sl 0 [] .nil,.lit (.int .i64 0),.sl 0 [] .nil,.lit (.string ⟨#[]⟩),.lit (.int .i64 0),.lit (.int .i64 0)] parts).map .agg := rfl
theorem tf31_0 : fieldL Try.prog 31 0 = some (0,3) := by kernel_rfl
theorem tf31_1 : fieldL Try.prog 31 1 = some (1,28) := by kernel_rfl
theorem tf31_2 : fieldL Try.prog 31 2 = some (7,2) := by kernel_rfl
theorem tf31_3 : fieldL Try.prog 31 3 = some (8,29) := by kernel_rfl
theorem tf31_4 : fieldL Try.prog 31 4 = some (9,9) := by kernel_rfl
theorem tf31_5 : fieldL Try.prog 31 5 = some (10,3) := by kernel_rfl
theorem tf31_6 : fieldL Try.prog 31 6 = some (11,3) := by kernel_rfl
theorem tl31 (cs : List LV) : loadL Try.prog 31 cs = if 12 ≤ cs.length then some (.agg (cs.take 12)) else none := rfl
theorem ts31 : sizeL Try.prog 31 = 12 := by kernel_rfl
theorem tb31 : bytesL Try.prog 31 = 152 := by kernel_rfl
theorem tz31 : zeroOk Try.prog 31 = true := by kernel_rfl
theorem to31 : okT Try.prog 31 = true := by kernel_rfl
theorem tn31 : zeroL Try.prog 31 = some [.lit (.int .i64 0),.lit (.int .i64 0),.lit (.int .i64 0),.lit (.int .i64 0),.lit (.int .i64 0),.sl 0 [] .nil,.sl 0 [] .nil,.lit (.int .i64 0),.sl 0 [] .nil,.lit (.string ⟨#[]⟩),.lit (.int .i64 0),.lit (.int .i64 0)] := rfl
theorem tu31 (parts : List (Nat × LV)) : buildL Try.prog 31 parts = (fillL (fun j => [(0,1),(1,6),(7,1),(8,1),(9,1),(10,1),(11,1)][j]?) [.lit (.int .i64 0),.lit (.int .i64 0),.lit (.int .i64 0),.lit (.int .i64 0),.lit (.int .i64 0),.sl 0 [] .nil,.sl 0 [] .nil,.lit (.int .i64 0),.sl 0 [] .nil,.lit (.string ⟨#[]⟩),.lit (.int .i64 0),.lit (.int .i64 0)] parts).map .agg := rfl
theorem tf32_0 : fieldL Try.prog 32 0 = some (0,9) := by kernel_rfl
theorem tf32_1 : fieldL Try.prog 32 1 = some (1,3) := by kernel_rfl
theorem tf32_2 : fieldL Try.prog 32 2 = some (2,31) := by kernel_rfl
theorem tf32_3 : fieldL Try.prog 32 3 = some (14,3) := by kernel_rfl
theorem tl32 (cs : List LV) : loadL Try.prog 32 cs = if 15 ≤ cs.length then some (.agg (cs.take 15)) else none := rfl
theorem ts32 : sizeL Try.prog 32 = 15 := by kernel_rfl
theorem tb32 : bytesL Try.prog 32 = 184 := by kernel_rfl
theorem tz32 : zeroOk Try.prog 32 = true := by kernel_rfl
theorem to32 : okT Try.prog 32 = true := by kernel_rfl
theorem tn32 : zeroL Try.prog 32 = some [.lit (.string ⟨#[]⟩),.lit (.int .i64 0),.lit (.int .i64 0),.lit (.int .i64 0),.lit (.int .i64 0),.lit (.int .i64 0),.lit (.int .i64 0),.sl 0 [] .nil,.sl 0 [] .nil,.lit (.int .i64 0),.sl 0 [] .nil,.lit (.string ⟨#[]⟩),.lit (.int .i64 0),.lit (.int .i64 0),.lit (.int .i64 0)] := rfl
theorem tu32 (parts : List (Nat × LV)) : buildL Try.prog 32 parts = (fillL (fun j => [(0,1),(1,1),(2,12),(14,1)][j]?) [.lit (.string ⟨#[]⟩),.lit (.int .i64 0),.lit (.int .i64 0),.lit (.int .i64 0),.lit (.int .i64 0),.lit (.int .i64 0),.lit (.int .i64 0),.sl 0 [] .nil,.sl 0 [] .nil,.lit (.int .i64 0),.sl 0 [] .nil,.lit (.string ⟨#[]⟩),.lit (.int .i64 0),.lit (.int .i64 0),.lit (.int .i64 0)] parts).map .agg := rfl
theorem tf33_0 : fieldL Try.prog 33 0 = some (0,9) := by kernel_rfl
theorem tf33_1 : fieldL Try.prog 33 1 = some (1,3) := by kernel_rfl
theorem tf33_2 : fieldL Try.prog 33 2 = some (2,31) := by kernel_rfl
theorem tf33_3 : fieldL Try.prog 33 3 = some (14,3) := by kernel_rfl
theorem tl33 (cs : List LV) : loadL Try.prog 33 cs = if 15 ≤ cs.length then some (.agg (cs.take 15)) else none := rfl
theorem ts33 : sizeL Try.prog 33 = 15 := by kernel_rfl
theorem tb33 : bytesL Try.prog 33 = 184 := by kernel_rfl
theorem tz33 : zeroOk Try.prog 33 = true := by kernel_rfl
theorem to33 : okT Try.prog 33 = true := by kernel_rfl
theorem tn33 : zeroL Try.prog 33 = some [.lit (.string ⟨#[]⟩),.lit (.int .i64 0),.lit (.int .i64 0),.lit (.int .i64 0),.lit (.int .i64 0),.lit (.int .i64 0),.lit (.int .i64 0),.sl 0 [] .nil,.sl 0 [] .nil,.lit (.int .i64 0),.sl 0 [] .nil,.lit (.string ⟨#[]⟩),.lit (.int .i64 0),.lit (.int .i64 0),.lit (.int .i64 0)] := rfl
theorem tu33 (parts : List (Nat × LV)) : buildL Try.prog 33 parts = (fillL (fun j => [(0,1),(1,1),(2,12),(14,1)][j]?) [.lit (.string ⟨#[]⟩),.lit (.int .i64 0),.lit (.int .i64 0),.lit (.int .i64 0),.lit (.int .i64 0),.lit (.int .i64 0),.lit (.int .i64 0),.sl 0 [] .nil,.sl 0 [] .nil,.lit (.int .i64 0),.sl 0 [] .nil,.lit (.string ⟨#[]⟩),.lit (.int .i64 0),.lit (.int .i64 0),.lit (.int .i64 0)] parts).map .agg := rfl
theorem tl34 (cs : List LV) : loadL Try.prog 34 cs = cs.head? := rfl
theorem ts34 : sizeL Try.prog 34 = 1 := by kernel_rfl
theorem tb34 : bytesL Try.prog 34 = 24 := by kernel_rfl
theorem tz34 : zeroOk Try.prog 34 = true := by kernel_rfl
theorem to34 : okT Try.prog 34 = true := by kernel_rfl
theorem tn34 : zeroL Try.prog 34 = some [.sl 0 [] .nil] := rfl
theorem te34 : elemL Try.prog 34 = some (50,4) := by kernel_rfl
theorem tl47 (cs : List LV) : loadL Try.prog 47 cs = cs.head? := rfl
theorem ts47 : sizeL Try.prog 47 = 1 := by kernel_rfl
theorem tb47 : bytesL Try.prog 47 = 24 := by kernel_rfl
theorem tz47 : zeroOk Try.prog 47 = true := by kernel_rfl
theorem to47 : okT Try.prog 47 = true := by kernel_rfl
theorem tn47 : zeroL Try.prog 47 = some [.sl 0 [] .nil] := rfl
theorem te47 : elemL Try.prog 47 = some (9,1) := by kernel_rfl
theorem tl48 (cs : List LV) : loadL Try.prog 48 cs = cs.head? := rfl
theorem ts48 : sizeL Try.prog 48 = 1 := by kernel_rfl
theorem tb48 : bytesL Try.prog 48 = 24 := by kernel_rfl
theorem tz48 : zeroOk Try.prog 48 = true := by kernel_rfl
theorem to48 : okT Try.prog 48 = true := by kernel_rfl
theorem tn48 : zeroL Try.prog 48 = some [.sl 0 [] .nil] := rfl
theorem te48 : elemL Try.prog 48 = some (3,1) := by kernel_rfl
theorem tf49_0 : fieldL Try.prog 49 0 = some (0,4) := by kernel_rfl
theorem tf49_1 : fieldL Try.prog 49 1 = some (1,23) := by kernel_rfl
theorem tf49_2 : fieldL Try.prog 49 2 = some (2,47) := by kernel_rfl
theorem tf49_3 : fieldL Try.prog 49 3 = some (3,48) := by kernel_rfl
theorem tl49 (cs : List LV) : loadL Try.prog 49 cs = if 4 ≤ cs.length then some (.agg (cs.take 4)) else none := rfl
theorem ts49 : sizeL Try.prog 49 = 4 := by kernel_rfl
theorem tb49 : bytesL Try.prog 49 = 80 := by kernel_rfl
theorem tz49 : zeroOk Try.prog 49 = true := by kernel_rfl
theorem to49 : okT Try.prog 49 = true := by kernel_rfl
theorem tn49 : zeroL Try.prog 49 = some [.lit (.bool false),.sl 0 [] .nil,.sl 0 [] .nil,.sl 0 [] .nil] := rfl
theorem tu49 (parts : List (Nat × LV)) : buildL Try.prog 49 parts = (fillL (fun j => [(0,1),(1,1),(2,1),(3,1)][j]?) [.lit (.bool false),.sl 0 [] .nil,.sl 0 [] .nil,.sl 0 [] .nil] parts).map .agg := rfl
theorem tf50_0 : fieldL Try.prog 50 0 = some (0,4) := by kernel_rfl
theorem tf50_1 : fieldL Try.prog 50 1 = some (1,23) := by kernel_rfl
theorem tf50_2 : fieldL Try.prog 50 2 = some (2,47) := by kernel_rfl
theorem tf50_3 : fieldL Try.prog 50 3 = some (3,48) := by kernel_rfl
theorem tl50 (cs : List LV) : loadL Try.prog 50 cs = if 4 ≤ cs.length then some (.agg (cs.take 4)) else none := rfl
theorem ts50 : sizeL Try.prog 50 = 4 := by kernel_rfl
theorem tb50 : bytesL Try.prog 50 = 80 := by kernel_rfl
theorem tz50 : zeroOk Try.prog 50 = true := by kernel_rfl
theorem to50 : okT Try.prog 50 = true := by kernel_rfl
theorem tn50 : zeroL Try.prog 50 = some [.lit (.bool false),.sl 0 [] .nil,.sl 0 [] .nil,.sl 0 [] .nil] := rfl
theorem tu50 (parts : List (Nat × LV)) : buildL Try.prog 50 parts = (fillL (fun j => [(0,1),(1,1),(2,1),(3,1)][j]?) [.lit (.bool false),.sl 0 [] .nil,.sl 0 [] .nil,.sl 0 [] .nil] parts).map .agg := rfl
theorem tf52_0 : fieldL Try.prog 52 0 = some (0,34) := by kernel_rfl
theorem tf52_1 : fieldL Try.prog 52 1 = some (1,3) := by kernel_rfl
theorem tl52 (cs : List LV) : loadL Try.prog 52 cs = if 2 ≤ cs.length then some (.agg (cs.take 2)) else none := rfl
theorem ts52 : sizeL Try.prog 52 = 2 := by kernel_rfl
theorem tb52 : bytesL Try.prog 52 = 32 := by kernel_rfl
theorem tz52 : zeroOk Try.prog 52 = true := by kernel_rfl
theorem to52 : okT Try.prog 52 = true := by kernel_rfl
theorem tn52 : zeroL Try.prog 52 = some [.sl 0 [] .nil,.lit (.int .i64 0)] := rfl
theorem tu52 (parts : List (Nat × LV)) : buildL Try.prog 52 parts = (fillL (fun j => [(0,1),(1,1)][j]?) [.sl 0 [] .nil,.lit (.int .i64 0)] parts).map .agg := rfl
theorem tf53_0 : fieldL Try.prog 53 0 = some (0,34) := by kernel_rfl
theorem tf53_1 : fieldL Try.prog 53 1 = some (1,3) := by kernel_rfl
theorem tl53 (cs : List LV) : loadL Try.prog 53 cs = if 2 ≤ cs.length then some (.agg (cs.take 2)) else none := rfl
theorem ts53 : sizeL Try.prog 53 = 2 := by kernel_rfl
theorem tb53 : bytesL Try.prog 53 = 32 := by kernel_rfl
theorem tz53 : zeroOk Try.prog 53 = true := by kernel_rfl
theorem to53 : okT Try.prog 53 = true := by kernel_rfl
theorem tn53 : zeroL Try.prog 53 = some [.sl 0 [] .nil,.lit (.int .i64 0)] := rfl
theorem tu53 (parts : List (Nat × LV)) : buildL Try.prog 53 parts = (fillL (fun j => [(0,1),(1,1)][j]?) [.sl 0 [] .nil,.lit (.int .i64 0)] parts).map .agg := rfl
theorem tf78_0 : fieldL Try.prog 78 0 = some (0,9) := by kernel_rfl
theorem tf78_1 : fieldL Try.prog 78 1 = some (1,9) := by kernel_rfl
theorem tl78 (cs : List LV) : loadL Try.prog 78 cs = if 2 ≤ cs.length then some (.agg (cs.take 2)) else none := rfl
theorem ts78 : sizeL Try.prog 78 = 2 := by kernel_rfl
theorem tb78 : bytesL Try.prog 78 = 32 := by kernel_rfl
theorem tz78 : zeroOk Try.prog 78 = true := by kernel_rfl
theorem to78 : okT Try.prog 78 = true := by kernel_rfl
theorem tq78 : eqKinds Try.prog 78 = some [(0,1),(1,1)] := by kernel_rfl
theorem tn78 : zeroL Try.prog 78 = some [.lit (.string ⟨#[]⟩),.lit (.string ⟨#[]⟩)] := rfl
theorem tu78 (parts : List (Nat × LV)) : buildL Try.prog 78 parts = (fillL (fun j => [(0,1),(1,1)][j]?) [.lit (.string ⟨#[]⟩),.lit (.string ⟨#[]⟩)] parts).map .agg := rfl
theorem tf79_0 : fieldL Try.prog 79 0 = some (0,9) := by kernel_rfl
theorem tf79_1 : fieldL Try.prog 79 1 = some (1,9) := by kernel_rfl
theorem tl79 (cs : List LV) : loadL Try.prog 79 cs = if 2 ≤ cs.length then some (.agg (cs.take 2)) else none := rfl
theorem ts79 : sizeL Try.prog 79 = 2 := by kernel_rfl
theorem tb79 : bytesL Try.prog 79 = 32 := by kernel_rfl
theorem tz79 : zeroOk Try.prog 79 = true := by kernel_rfl
theorem to79 : okT Try.prog 79 = true := by kernel_rfl
theorem tq79 : eqKinds Try.prog 79 = some [(0,1),(1,1)] := by kernel_rfl
theorem tn79 : zeroL Try.prog 79 = some [.lit (.string ⟨#[]⟩),.lit (.string ⟨#[]⟩)] := rfl
theorem tu79 (parts : List (Nat × LV)) : buildL Try.prog 79 parts = (fillL (fun j => [(0,1),(1,1)][j]?) [.lit (.string ⟨#[]⟩),.lit (.string ⟨#[]⟩)] parts).map .agg := rfl
theorem tf81_0 : fieldL Try.prog 81 0 = some (0,3) := by kernel_rfl
theorem tf81_1 : fieldL Try.prog 81 1 = some (1,3) := by kernel_rfl
theorem tf81_2 : fieldL Try.prog 81 2 = some (2,3) := by kernel_rfl
theorem tl81 (cs : List LV) : loadL Try.prog 81 cs = if 3 ≤ cs.length then some (.agg (cs.take 3)) else none := rfl
theorem ts81 : sizeL Try.prog 81 = 3 := by kernel_rfl
theorem tb81 : bytesL Try.prog 81 = 24 := by kernel_rfl
theorem tz81 : zeroOk Try.prog 81 = true := by kernel_rfl
theorem to81 : okT Try.prog 81 = true := by kernel_rfl
theorem tq81 : eqKinds Try.prog 81 = some [(0,0),(1,0),(2,0)] := by kernel_rfl
theorem tn81 : zeroL Try.prog 81 = some [.lit (.int .i64 0),.lit (.int .i64 0),.lit (.int .i64 0)] := rfl
theorem tu81 (parts : List (Nat × LV)) : buildL Try.prog 81 parts = (fillL (fun j => [(0,1),(1,1),(2,1)][j]?) [.lit (.int .i64 0),.lit (.int .i64 0),.lit (.int .i64 0)] parts).map .agg := rfl
theorem tf82_0 : fieldL Try.prog 82 0 = some (0,3) := by kernel_rfl
theorem tf82_1 : fieldL Try.prog 82 1 = some (1,3) := by kernel_rfl
theorem tf82_2 : fieldL Try.prog 82 2 = some (2,3) := by kernel_rfl
theorem tl82 (cs : List LV) : loadL Try.prog 82 cs = if 3 ≤ cs.length then some (.agg (cs.take 3)) else none := rfl
theorem ts82 : sizeL Try.prog 82 = 3 := by kernel_rfl
theorem tb82 : bytesL Try.prog 82 = 24 := by kernel_rfl
theorem tz82 : zeroOk Try.prog 82 = true := by kernel_rfl
theorem to82 : okT Try.prog 82 = true := by kernel_rfl
theorem tq82 : eqKinds Try.prog 82 = some [(0,0),(1,0),(2,0)] := by kernel_rfl
theorem tn82 : zeroL Try.prog 82 = some [.lit (.int .i64 0),.lit (.int .i64 0),.lit (.int .i64 0)] := rfl
theorem tu82 (parts : List (Nat × LV)) : buildL Try.prog 82 parts = (fillL (fun j => [(0,1),(1,1),(2,1)][j]?) [.lit (.int .i64 0),.lit (.int .i64 0),.lit (.int .i64 0)] parts).map .agg := rfl
theorem tf84_0 : fieldL Try.prog 84 0 = some (0,2) := by kernel_rfl
theorem tf84_1 : fieldL Try.prog 84 1 = some (1,9) := by kernel_rfl
theorem tl84 (cs : List LV) : loadL Try.prog 84 cs = if 2 ≤ cs.length then some (.agg (cs.take 2)) else none := rfl
theorem ts84 : sizeL Try.prog 84 = 2 := by kernel_rfl
theorem tb84 : bytesL Try.prog 84 = 24 := by kernel_rfl
theorem tz84 : zeroOk Try.prog 84 = true := by kernel_rfl
theorem to84 : okT Try.prog 84 = true := by kernel_rfl
theorem tq84 : eqKinds Try.prog 84 = some [(0,0),(1,1)] := by kernel_rfl
theorem tn84 : zeroL Try.prog 84 = some [.lit (.int .i64 0),.lit (.string ⟨#[]⟩)] := rfl
theorem tu84 (parts : List (Nat × LV)) : buildL Try.prog 84 parts = (fillL (fun j => [(0,1),(1,1)][j]?) [.lit (.int .i64 0),.lit (.string ⟨#[]⟩)] parts).map .agg := rfl
theorem tf85_0 : fieldL Try.prog 85 0 = some (0,2) := by kernel_rfl
theorem tf85_1 : fieldL Try.prog 85 1 = some (1,9) := by kernel_rfl
theorem tl85 (cs : List LV) : loadL Try.prog 85 cs = if 2 ≤ cs.length then some (.agg (cs.take 2)) else none := rfl
theorem ts85 : sizeL Try.prog 85 = 2 := by kernel_rfl
theorem tb85 : bytesL Try.prog 85 = 24 := by kernel_rfl
theorem tz85 : zeroOk Try.prog 85 = true := by kernel_rfl
theorem to85 : okT Try.prog 85 = true := by kernel_rfl
theorem tq85 : eqKinds Try.prog 85 = some [(0,0),(1,1)] := by kernel_rfl
theorem tn85 : zeroL Try.prog 85 = some [.lit (.int .i64 0),.lit (.string ⟨#[]⟩)] := rfl
theorem tu85 (parts : List (Nat × LV)) : buildL Try.prog 85 parts = (fillL (fun j => [(0,1),(1,1)][j]?) [.lit (.int .i64 0),.lit (.string ⟨#[]⟩)] parts).map .agg := rfl
theorem tl95 (cs : List LV) : loadL Try.prog 95 cs = cs.head? := rfl
theorem ts95 : sizeL Try.prog 95 = 1 := by kernel_rfl
theorem tb95 : bytesL Try.prog 95 = 24 := by kernel_rfl
theorem tz95 : zeroOk Try.prog 95 = true := by kernel_rfl
theorem to95 : okT Try.prog 95 = true := by kernel_rfl
theorem tn95 : zeroL Try.prog 95 = some [.sl 0 [] .nil] := rfl
theorem te95 : elemL Try.prog 95 = some (5,1) := by kernel_rfl
theorem tf96_1 : fieldL Try.prog 96 1 = some (1,95) := by kernel_rfl
theorem tl96 (cs : List LV) : loadL Try.prog 96 cs = if 2 ≤ cs.length then some (.agg (cs.take 2)) else none := rfl
theorem ts96 : sizeL Try.prog 96 = 2 := by kernel_rfl
theorem tb96 : bytesL Try.prog 96 = 32 := by kernel_rfl
theorem tz96 : zeroOk Try.prog 96 = true := by kernel_rfl
theorem to96 : okT Try.prog 96 = true := by kernel_rfl
theorem tf97_1 : fieldL Try.prog 97 1 = some (1,95) := by kernel_rfl
theorem tl97 (cs : List LV) : loadL Try.prog 97 cs = if 2 ≤ cs.length then some (.agg (cs.take 2)) else none := rfl
theorem ts97 : sizeL Try.prog 97 = 2 := by kernel_rfl
theorem tb97 : bytesL Try.prog 97 = 32 := by kernel_rfl
theorem tz97 : zeroOk Try.prog 97 = true := by kernel_rfl
theorem to97 : okT Try.prog 97 = true := by kernel_rfl
theorem tl108 (cs : List LV) : loadL Try.prog 108 cs = cs.head? := rfl
theorem ts108 : sizeL Try.prog 108 = 1 := by kernel_rfl
theorem tb108 : bytesL Try.prog 108 = 24 := by kernel_rfl
theorem tz108 : zeroOk Try.prog 108 = true := by kernel_rfl
theorem to108 : okT Try.prog 108 = true := by kernel_rfl
theorem tn108 : zeroL Try.prog 108 = some [.sl 0 [] .nil] := rfl
theorem te108 : elemL Try.prog 108 = some (124,1) := by kernel_rfl
theorem tl113 (cs : List LV) : loadL Try.prog 113 cs = cs.head? := rfl
theorem ts113 : sizeL Try.prog 113 = 1 := by kernel_rfl
theorem tb113 : bytesL Try.prog 113 = 4 := by kernel_rfl
theorem tz113 : zeroOk Try.prog 113 = true := by kernel_rfl
theorem to113 : okT Try.prog 113 = true := by kernel_rfl
theorem tn113 : zeroL Try.prog 113 = some [.lit (.int .u32 0)] := rfl
theorem tl116 (cs : List LV) : loadL Try.prog 116 cs = cs.head? := rfl
theorem ts116 : sizeL Try.prog 116 = 1 := by kernel_rfl
theorem tb116 : bytesL Try.prog 116 = 8 := by kernel_rfl
theorem tz116 : zeroOk Try.prog 116 = true := by kernel_rfl
theorem to116 : okT Try.prog 116 = true := by kernel_rfl
theorem tn116 : zeroL Try.prog 116 = some [.lit (.int .u64 0)] := rfl
theorem tl124 (cs : List LV) : loadL Try.prog 124 cs = cs.head? := rfl
theorem ts124 : sizeL Try.prog 124 = 1 := by kernel_rfl
theorem tb124 : bytesL Try.prog 124 = 16 := by kernel_rfl
theorem tz124 : zeroOk Try.prog 124 = true := by kernel_rfl
theorem to124 : okT Try.prog 124 = true := by kernel_rfl
theorem tn124 : zeroL Try.prog 124 = some [.lit (.complex .f64 0 0)] := rfl
theorem tl136 (cs : List LV) : loadL Try.prog 136 cs = cs.head? := rfl
theorem tf149_0 : fieldL Try.prog 149 0 = some (0,12) := by kernel_rfl
theorem tf149_1 : fieldL Try.prog 149 1 = some (1,12) := by kernel_rfl
theorem tf149_2 : fieldL Try.prog 149 2 = some (2,113) := by kernel_rfl
theorem tf149_3 : fieldL Try.prog 149 3 = some (3,144) := by kernel_rfl
theorem tf149_4 : fieldL Try.prog 149 4 = some (4,5) := by kernel_rfl
theorem tf149_5 : fieldL Try.prog 149 5 = some (5,5) := by kernel_rfl
theorem tf149_6 : fieldL Try.prog 149 6 = some (6,145) := by kernel_rfl
theorem tf149_9 : fieldL Try.prog 149 9 = some (9,147) := by kernel_rfl
theorem tf149_10 : fieldL Try.prog 149 10 = some (10,148) := by kernel_rfl
theorem tl149 (cs : List LV) : loadL Try.prog 149 cs = if 11 ≤ cs.length then some (.agg (cs.take 11)) else none := rfl
theorem ts149 : sizeL Try.prog 149 = 11 := by kernel_rfl
theorem tb149 : bytesL Try.prog 149 = 48 := by kernel_rfl
theorem tz149 : zeroOk Try.prog 149 = true := by kernel_rfl
theorem to149 : okT Try.prog 149 = true := by kernel_rfl
theorem tadd64 : extAdd Try.prog = none := by kernel_rfl
end Go.Proofs.Yteamlijbkldlhaa
