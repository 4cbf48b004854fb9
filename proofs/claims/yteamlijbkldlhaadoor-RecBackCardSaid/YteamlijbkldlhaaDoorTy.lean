import Derived.Test.YteamlijbkldlhaaDoorProg
import Derived.Test.YteamlijbkldlhaaDoorL11
set_option maxRecDepth 100000
set_option linter.unusedSimpArgs false
set_option linter.unusedVariables false
namespace Go.Proofs.YteamlijbkldlhaaDoor
theorem tl2 (cs : List LV) : loadL Tryd.prog 2 cs = cs.head? := rfl
theorem ts2 : sizeL Tryd.prog 2 = 1 := by kernel_rfl
theorem tb2 : bytesL Tryd.prog 2 = 8 := by kernel_rfl
theorem tz2 : zeroOk Tryd.prog 2 = true := by kernel_rfl
theorem to2 : okT Tryd.prog 2 = true := by kernel_rfl
theorem tn2 : zeroL Tryd.prog 2 = some [.lit (.int .i64 0)] := rfl
theorem tl3 (cs : List LV) : loadL Tryd.prog 3 cs = cs.head? := rfl
theorem ts3 : sizeL Tryd.prog 3 = 1 := by kernel_rfl
theorem tb3 : bytesL Tryd.prog 3 = 8 := by kernel_rfl
theorem tz3 : zeroOk Tryd.prog 3 = true := by kernel_rfl
theorem to3 : okT Tryd.prog 3 = true := by kernel_rfl
theorem tn3 : zeroL Tryd.prog 3 = some [.lit (.int .i64 0)] := rfl
theorem tl4 (cs : List LV) : loadL Tryd.prog 4 cs = cs.head? := rfl
theorem ts4 : sizeL Tryd.prog 4 = 1 := by kernel_rfl
theorem tb4 : bytesL Tryd.prog 4 = 1 := by kernel_rfl
theorem tz4 : zeroOk Tryd.prog 4 = true := by kernel_rfl
theorem to4 : okT Tryd.prog 4 = true := by kernel_rfl
theorem tn4 : zeroL Tryd.prog 4 = some [.lit (.bool false)] := rfl
theorem tl5 (cs : List LV) : loadL Tryd.prog 5 cs = cs.head? := rfl
theorem ts5 : sizeL Tryd.prog 5 = 1 := by kernel_rfl
theorem tb5 : bytesL Tryd.prog 5 = 1 := by kernel_rfl
theorem tz5 : zeroOk Tryd.prog 5 = true := by kernel_rfl
theorem to5 : okT Tryd.prog 5 = true := by kernel_rfl
theorem tn5 : zeroL Tryd.prog 5 = some [.lit (.int .u8 0)] := rfl
theorem tl9 (cs : List LV) : loadL Tryd.prog 9 cs = cs.head? := rfl
theorem ts9 : sizeL Tryd.prog 9 = 1 := by kernel_rfl
theorem tb9 : bytesL Tryd.prog 9 = 16 := by kernel_rfl
theorem tz9 : zeroOk Tryd.prog 9 = true := by kernel_rfl
theorem to9 : okT Tryd.prog 9 = true := by kernel_rfl
theorem tn9 : zeroL Tryd.prog 9 = some [.lit (.string ⟨#[]⟩)] := rfl
theorem tl12 (cs : List LV) : loadL Tryd.prog 12 cs = cs.head? := rfl
theorem ts12 : sizeL Tryd.prog 12 = 1 := by kernel_rfl
theorem tb12 : bytesL Tryd.prog 12 = 8 := by kernel_rfl
theorem tz12 : zeroOk Tryd.prog 12 = true := by kernel_rfl
theorem to12 : okT Tryd.prog 12 = true := by kernel_rfl
theorem tn12 : zeroL Tryd.prog 12 = some [.lit (.int .u64 0)] := rfl
theorem tl21 (cs : List LV) : loadL Tryd.prog 21 cs = cs.head? := rfl
theorem ts21 : sizeL Tryd.prog 21 = 1 := by kernel_rfl
theorem tb21 : bytesL Tryd.prog 21 = 4 := by kernel_rfl
theorem tz21 : zeroOk Tryd.prog 21 = true := by kernel_rfl
theorem to21 : okT Tryd.prog 21 = true := by kernel_rfl
theorem tn21 : zeroL Tryd.prog 21 = some [.lit (.int .i32 0)] := rfl
theorem tl22 (cs : List LV) : loadL Tryd.prog 22 cs = cs.head? := rfl
theorem ts22 : sizeL Tryd.prog 22 = 1 := by kernel_rfl
theorem tb22 : bytesL Tryd.prog 22 = 24 := by kernel_rfl
theorem tz22 : zeroOk Tryd.prog 22 = true := by kernel_rfl
theorem to22 : okT Tryd.prog 22 = true := by kernel_rfl
theorem tn22 : zeroL Tryd.prog 22 = some [.sl 0 [] .nil] := rfl
theorem te22 : elemL Tryd.prog 22 = some (53,2) := by kernel_rfl
theorem tl23 (cs : List LV) : loadL Tryd.prog 23 cs = cs.head? := rfl
theorem ts23 : sizeL Tryd.prog 23 = 1 := by kernel_rfl
theorem tb23 : bytesL Tryd.prog 23 = 24 := by kernel_rfl
theorem tz23 : zeroOk Tryd.prog 23 = true := by kernel_rfl
theorem to23 : okT Tryd.prog 23 = true := by kernel_rfl
theorem tn23 : zeroL Tryd.prog 23 = some [.sl 0 [] .nil] := rfl
theorem te23 : elemL Tryd.prog 23 = some (55,3) := by kernel_rfl
theorem tf24_0 : fieldL Tryd.prog 24 0 = some (0,3) := by kernel_rfl
theorem tf24_1 : fieldL Tryd.prog 24 1 = some (1,3) := by kernel_rfl
theorem tf24_2 : fieldL Tryd.prog 24 2 = some (2,3) := by kernel_rfl
theorem tf24_3 : fieldL Tryd.prog 24 3 = some (3,2) := by kernel_rfl
theorem tf24_4 : fieldL Tryd.prog 24 4 = some (4,22) := by kernel_rfl
theorem tf24_5 : fieldL Tryd.prog 24 5 = some (5,23) := by kernel_rfl
theorem tl24 (cs : List LV) : loadL Tryd.prog 24 cs = if 6 ≤ cs.length then some (.agg (cs.take 6)) else none := rfl
theorem ts24 : sizeL Tryd.prog 24 = 6 := by kernel_rfl
theorem tb24 : bytesL Tryd.prog 24 = 80 := by kernel_rfl
theorem tz24 : zeroOk Tryd.prog 24 = true := by kernel_rfl
theorem to24 : okT Tryd.prog 24 = true := by kernel_rfl
theorem tn24 : zeroL Tryd.prog 24 = some [.lit (.int .i64 0),.lit (.int .i64 0),.lit (.int .i64 0),.lit (.int .i64 0),.sl 0 [] .nil,.sl 0 [] .nil] := rfl
theorem tu24 (parts : List (Nat × LV)) : buildL Tryd.prog 24 parts = (fillL (fun j => [(0,1),(1,1),(2,1),(3,1),(4,1),(5,1)][j]?) [.lit (.int .i64 0),.lit (.int .i64 0),.lit (.int .i64 0),.lit (.int .i64 0),.sl 0 [] .nil,.sl 0 [] .nil] parts).map .agg := rfl
theorem tf25_0 : fieldL Tryd.prog 25 0 = some (0,3) := by kernel_rfl
theorem tf25_1 : fieldL Tryd.prog 25 1 = some (1,3) := by kernel_rfl
theorem tf25_2 : fieldL Tryd.prog 25 2 = some (2,3) := by kernel_rfl
theorem tf25_3 : fieldL Tryd.prog 25 3 = some (3,2) := by kernel_rfl
theorem tf25_4 : fieldL Tryd.prog 25 4 = some (4,22) := by kernel_rfl
theorem tf25_5 : fieldL Tryd.prog 25 5 = some (5,23) := by kernel_rfl
theorem tl25 (cs : List LV) : loadL Tryd.prog 25 cs = if 6 ≤ cs.length then some (.agg (cs.take 6)) else none := rfl
theorem ts25 : sizeL Tryd.prog 25 = 6 := by kernel_rfl
theorem tb25 : bytesL Tryd.prog 25 = 80 := by kernel_rfl
theorem tz25 : zeroOk Tryd.prog 25 = true := by kernel_rfl
theorem to25 : okT Tryd.prog 25 = true := by kernel_rfl
theorem tn25 : zeroL Tryd.prog 25 = some [.lit (.int .i64 0),.lit (.int .i64 0),.lit (.int .i64 0),.lit (.int .i64 0),.sl 0 [] .nil,.sl 0 [] .nil] := rfl
theorem tu25 (parts : List (Nat × LV)) : buildL Tryd.prog 25 parts = (fillL (fun j => [(0,1),(1,1),(2,1),(3,1),(4,1),(5,1)][j]?) [.lit (.int .i64 0),.lit (.int .i64 0),.lit (.int .i64 0),.lit (.int .i64 0),.sl 0 [] .nil,.sl 0 [] .nil] parts).map .agg := rfl
theorem tl26 (cs : List LV) : loadL Tryd.prog 26 cs = cs.head? := rfl
theorem ts26 : sizeL Tryd.prog 26 = 1 := by kernel_rfl
theorem tb26 : bytesL Tryd.prog 26 = 24 := by kernel_rfl
theorem tz26 : zeroOk Tryd.prog 26 = true := by kernel_rfl
theorem to26 : okT Tryd.prog 26 = true := by kernel_rfl
theorem tn26 : zeroL Tryd.prog 26 = some [.sl 0 [] .nil] := rfl
theorem te26 : elemL Tryd.prog 26 = some (48,2) := by kernel_rfl
theorem tf27_0 : fieldL Tryd.prog 27 0 = some (0,3) := by kernel_rfl
theorem tf27_1 : fieldL Tryd.prog 27 1 = some (1,25) := by kernel_rfl
theorem tf27_2 : fieldL Tryd.prog 27 2 = some (7,2) := by kernel_rfl
theorem tf27_3 : fieldL Tryd.prog 27 3 = some (8,26) := by kernel_rfl
theorem tf27_4 : fieldL Tryd.prog 27 4 = some (9,9) := by kernel_rfl
theorem tf27_5 : fieldL Tryd.prog 27 5 = some (10,3) := by kernel_rfl
theorem tf27_6 : fieldL Tryd.prog 27 6 = some (11,3) := by kernel_rfl
theorem tl27 (cs : List LV) : loadL Tryd.prog 27 cs = if 12 ≤ cs.length then some (.agg (cs.take 12)) else none := rfl
theorem ts27 : sizeL Tryd.prog 27 = 12 := by kernel_rfl
theorem tb27 : bytesL Tryd.prog 27 = 152 := by kernel_rfl
theorem tz27 : zeroOk Tryd.prog 27 = true := by kernel_rfl
theorem to27 : okT Tryd.prog 27 = true := by kernel_rfl
theorem tn27 : zeroL Tryd.prog 27 = some [.lit (.int .i64 0),.lit (.int .i64 0),.lit (.int .i64 0),.lit (.int .i64 0),.lit (.int .i64 0),.sl 0 [] .nil,.sl 0 [] .nil,.lit (.int .i64 0),.sl 0 [] .nil,.lit (.string ⟨#[]⟩),.lit (.int .i64 0),.lit (.int .i64 0)] := rfl
theorem tu27 (parts : List (Nat × LV)) : buildL Tryd.prog 27 parts = (fillL (fun j => [(0,1),(1,6),(7,1),(8,1),(9,1),(10,1),(11,1)][j]?) [.lit (.int .i64 0),.lit (.int .i64 0),.lit (.int .i64 0),.lit (.int .i64 0),.lit (.int .i64 0),.sl 0 [] .nil,.sl 0 [] .nil,.lit (.int .i64 0),.sl 0 [] .nil,.lit (.string ⟨#[]⟩),.lit (.int .i64 0),.lit (.int .i64 0)] parts).map .agg := rfl
theorem tf28_0 : fieldL Tryd.prog 28 0 = some (0,3) := by kernel_rfl
theorem tf28_1 : fieldL Tryd.prog 28 1 = some (1,25) := by kernel_rfl
theorem tf28_2 : fieldL Tryd.prog 28 2 = some (7,2) := by kernel_rfl
theorem tf28_3 : fieldL Tryd.prog 28 3 = some (8,26) := by kernel_rfl
theorem tf28_4 : fieldL Tryd.prog 28 4 = some (9,9) := by kernel_rfl
theorem tf28_5 : fieldL Tryd.prog 28 5 = some (10,3) := by kernel_rfl
theorem tf28_6 : fieldL Tryd.prog 28 6 = some (11,3) := by kernel_rfl
theorem tl28 (cs : List LV) : loadL Tryd.prog 28 cs = if 12 ≤ cs.length then some (.agg (cs.take 12)) else none := rfl
theorem ts28 : sizeL Tryd.prog 28 = 12 := by kernel_rfl
theorem tb28 : bytesL Tryd.prog 28 = 152 := by kernel_rfl
theorem tz28 : zeroOk Tryd.prog 28 = true := by kernel_rfl
theorem to28 : okT Tryd.prog 28 = true := by kernel_rfl
theorem tn28 : zeroL Tryd.prog 28 = some [.lit (.int .i64 0),.lit (.int .i64 0),.lit (.int .i64 0),.lit (.int .i64 0),.lit (.int .i64 0),.sl 0 [] .nil,.sl 0 [] .nil,.lit (.int .i64 0),.sl 0 [] .nil,.lit (.string ⟨#[]⟩),.lit (.int .i64 0),.lit (.int .i64 0)] := rfl
theorem tu28 (parts : List (Nat × LV)) : buildL Tryd.prog 28 parts = (fillL (fun j => [(0,1),(1,6),(7,1),(8,1),(9,1),(10,1),(11,1)][j]?) [.lit (.int .i64 0),.lit (.int .i64 0),.lit (.int .i64 0),.lit (.int .i64 0),.lit (.int .i64 0),.sl 0 [] .nil,.sl 0 [] .nil,.lit (.int .i64 0),.sl 0 [] .nil,.lit (.string ⟨#[]⟩),.lit (.int .i64 0),.lit (.int .i64 0)] parts).map .agg := rfl
theorem tf29_0 : fieldL Tryd.prog 29 0 = some (0,9) := by kernel_rfl
theorem tf29_1 : fieldL Tryd.prog 29 1 = some (1,3) := by kernel_rfl
theorem tf29_2 : fieldL Tryd.prog 29 2 = some (2,28) := by kernel_rfl
theorem tf29_3 : fieldL Tryd.prog 29 3 = some (14,3) := by kernel_rfl
theorem tl29 (cs : List LV) : loadL Tryd.prog 29 cs = if 15 ≤ cs.length then some (.agg (cs.take 15)) else none := rfl
theorem ts29 : sizeL Tryd.prog 29 = 15 := by kernel_rfl
theorem tb29 : bytesL Tryd.prog 29 = 184 := by kernel_rfl
theorem tz29 : zeroOk Tryd.prog 29 = true := by kernel_rfl
theorem to29 : okT Tryd.prog 29 = true := by kernel_rfl
theorem tn29 : zeroL Tryd.prog 29 = some [.lit (.string ⟨#[]⟩),.lit (.int .i64 0),.lit (.int .i64 0),.lit (.int .i64 0),.lit (.int .i64 0),.lit (.int .i64 0),.lit (.int .i64 0),.sl 0 [] .nil,.sl 0 [] .nil,.lit (.int .i64 0),.sl 0 [] .nil,.lit (.string ⟨#[]⟩),.lit (.int .i64 0),.lit (.int .i64 0),.lit (.int .i64 0)] := rfl
theorem tu29 (parts : List (Nat × LV)) : buildL Tryd.prog 29 parts = (fillL (fun j => [(0,1),(1,1),(2,12),(14,1)][j]?) [.lit (.string ⟨#[]⟩),.lit (.int .i64 0),.lit (.int .i64 0),.lit (.int .i64 0),.lit (.int .i64 0),.lit (.int .i64 0),.lit (.int .i64 0),.sl 0 [] .nil,.sl 0 [] .nil,.lit (.int .i64 0),.sl 0 [] .nil,.lit (.string ⟨#[]⟩),.lit (.int .i64 0),.lit (.int .i64 0),.lit (.int .i64 0)] parts).map .agg := rfl
theorem tf30_0 : fieldL Tryd.prog 30 0 = some (0,9) := by kernel_rfl
theorem tf30_1 : fieldL Tryd.prog 30 1 = some (1,3) := by kernel_rfl
theorem tf30_2 : fieldL Tryd.prog 30 2 = some (2,28) := by kernel_rfl
theorem tf30_3 : fieldL Tryd.prog 30 3 = some (14,3) := by kernel_rfl
theorem tl30 (cs : List LV) : loadL Tryd.prog 30 cs = if 15 ≤ cs.length then some (.agg (cs.take 15)) else none := rfl
theorem ts30 : sizeL Tryd.prog 30 = 15 := by kernel_rfl
theorem tb30 : bytesL Tryd.prog 30 = 184 := by kernel_rfl
theorem tz30 : zeroOk Tryd.prog 30 = true := by kernel_rfl
theorem to30 : okT Tryd.prog 30 = true := by kernel_rfl
theorem tn30 : zeroL Tryd.prog 30 = some [.lit (.string ⟨#[]⟩),.lit (.int .i64 0),.lit (.int .i64 0),.lit (.int .i64 0),.lit (.int .i64 0),.lit (.int .i64 0),.lit (.int .i64 0),.sl 0 [] .nil,.sl 0 [] .nil,.lit (.int .i64 0),.sl 0 [] .nil,.lit (.string ⟨#[]⟩),.lit (.int .i64 0),.lit (.int .i64 0),.lit (.int .i64 0)] := rfl
theorem tu30 (parts : List (Nat × LV)) : buildL Tryd.prog 30 parts = (fillL (fun j => [(0,1),(1,1),(2,12),(14,1)][j]?) [.lit (.string ⟨#[]⟩),.lit (.int .i64 0),.lit (.int .i64 0),.lit (.int .i64 0),.lit (.int .i64 0),.lit (.int .i64 0),.lit (.int .i64 0),.sl 0 [] .nil,.sl 0 [] .nil,.lit (.int .i64 0),.sl 0 [] .nil,.lit (.string ⟨#[]⟩),.lit (.int .i64 0),.lit (.int .i64 0),.lit (.int .i64 0)] parts).map .agg := rfl
theorem tl31 (cs : List LV) : loadL Tryd.prog 31 cs = cs.head? := rfl
theorem ts31 : sizeL Tryd.prog 31 = 1 := by kernel_rfl
theorem tb31 : bytesL Tryd.prog 31 = 24 := by kernel_rfl
theorem tz31 : zeroOk Tryd.prog 31 = true := by kernel_rfl
theorem to31 : okT Tryd.prog 31 = true := by kernel_rfl
theorem tn31 : zeroL Tryd.prog 31 = some [.sl 0 [] .nil] := rfl
theorem te31 : elemL Tryd.prog 31 = some (5,1) := by kernel_rfl
theorem tl39 (cs : List LV) : loadL Tryd.prog 39 cs = cs.head? := rfl
theorem ts39 : sizeL Tryd.prog 39 = 1 := by kernel_rfl
theorem tb39 : bytesL Tryd.prog 39 = 8 := by kernel_rfl
theorem tz39 : zeroOk Tryd.prog 39 = true := by kernel_rfl
theorem to39 : okT Tryd.prog 39 = true := by kernel_rfl
theorem tn39 : zeroL Tryd.prog 39 = some [.lit (.int .u64 0)] := rfl
theorem tl41 (cs : List LV) : loadL Tryd.prog 41 cs = cs.head? := rfl
theorem ts41 : sizeL Tryd.prog 41 = 1 := by kernel_rfl
theorem tb41 : bytesL Tryd.prog 41 = 24 := by kernel_rfl
theorem tz41 : zeroOk Tryd.prog 41 = true := by kernel_rfl
theorem to41 : okT Tryd.prog 41 = true := by kernel_rfl
theorem tn41 : zeroL Tryd.prog 41 = some [.sl 0 [] .nil] := rfl
theorem te41 : elemL Tryd.prog 41 = some (30,15) := by kernel_rfl
theorem tf47_0 : fieldL Tryd.prog 47 0 = some (0,2) := by kernel_rfl
theorem tf47_1 : fieldL Tryd.prog 47 1 = some (1,9) := by kernel_rfl
theorem tl47 (cs : List LV) : loadL Tryd.prog 47 cs = if 2 ≤ cs.length then some (.agg (cs.take 2)) else none := rfl
theorem ts47 : sizeL Tryd.prog 47 = 2 := by kernel_rfl
theorem tb47 : bytesL Tryd.prog 47 = 24 := by kernel_rfl
theorem tz47 : zeroOk Tryd.prog 47 = true := by kernel_rfl
theorem to47 : okT Tryd.prog 47 = true := by kernel_rfl
theorem tq47 : eqKinds Tryd.prog 47 = some [(0,0),(1,1)] := by kernel_rfl
theorem tn47 : zeroL Tryd.prog 47 = some [.lit (.int .i64 0),.lit (.string ⟨#[]⟩)] := rfl
theorem tu47 (parts : List (Nat × LV)) : buildL Tryd.prog 47 parts = (fillL (fun j => [(0,1),(1,1)][j]?) [.lit (.int .i64 0),.lit (.string ⟨#[]⟩)] parts).map .agg := rfl
theorem tf48_0 : fieldL Tryd.prog 48 0 = some (0,2) := by kernel_rfl
theorem tf48_1 : fieldL Tryd.prog 48 1 = some (1,9) := by kernel_rfl
theorem tl48 (cs : List LV) : loadL Tryd.prog 48 cs = if 2 ≤ cs.length then some (.agg (cs.take 2)) else none := rfl
theorem ts48 : sizeL Tryd.prog 48 = 2 := by kernel_rfl
theorem tb48 : bytesL Tryd.prog 48 = 24 := by kernel_rfl
theorem tz48 : zeroOk Tryd.prog 48 = true := by kernel_rfl
theorem to48 : okT Tryd.prog 48 = true := by kernel_rfl
theorem tq48 : eqKinds Tryd.prog 48 = some [(0,0),(1,1)] := by kernel_rfl
theorem tn48 : zeroL Tryd.prog 48 = some [.lit (.int .i64 0),.lit (.string ⟨#[]⟩)] := rfl
theorem tu48 (parts : List (Nat × LV)) : buildL Tryd.prog 48 parts = (fillL (fun j => [(0,1),(1,1)][j]?) [.lit (.int .i64 0),.lit (.string ⟨#[]⟩)] parts).map .agg := rfl
theorem tf52_0 : fieldL Tryd.prog 52 0 = some (0,9) := by kernel_rfl
theorem tf52_1 : fieldL Tryd.prog 52 1 = some (1,9) := by kernel_rfl
theorem tl52 (cs : List LV) : loadL Tryd.prog 52 cs = if 2 ≤ cs.length then some (.agg (cs.take 2)) else none := rfl
theorem ts52 : sizeL Tryd.prog 52 = 2 := by kernel_rfl
theorem tb52 : bytesL Tryd.prog 52 = 32 := by kernel_rfl
theorem tz52 : zeroOk Tryd.prog 52 = true := by kernel_rfl
theorem to52 : okT Tryd.prog 52 = true := by kernel_rfl
theorem tq52 : eqKinds Tryd.prog 52 = some [(0,1),(1,1)] := by kernel_rfl
theorem tn52 : zeroL Tryd.prog 52 = some [.lit (.string ⟨#[]⟩),.lit (.string ⟨#[]⟩)] := rfl
theorem tu52 (parts : List (Nat × LV)) : buildL Tryd.prog 52 parts = (fillL (fun j => [(0,1),(1,1)][j]?) [.lit (.string ⟨#[]⟩),.lit (.string ⟨#[]⟩)] parts).map .agg := rfl
theorem tf53_0 : fieldL Tryd.prog 53 0 = some (0,9) := by kernel_rfl
theorem tf53_1 : fieldL Tryd.prog 53 1 = some (1,9) := by kernel_rfl
theorem tl53 (cs : List LV) : loadL Tryd.prog 53 cs = if 2 ≤ cs.length then some (.agg (cs.take 2)) else none := rfl
theorem ts53 : sizeL Tryd.prog 53 = 2 := by kernel_rfl
theorem tb53 : bytesL Tryd.prog 53 = 32 := by kernel_rfl
theorem tz53 : zeroOk Tryd.prog 53 = true := by kernel_rfl
theorem to53 : okT Tryd.prog 53 = true := by kernel_rfl
theorem tq53 : eqKinds Tryd.prog 53 = some [(0,1),(1,1)] := by kernel_rfl
theorem tn53 : zeroL Tryd.prog 53 = some [.lit (.string ⟨#[]⟩),.lit (.string ⟨#[]⟩)] := rfl
theorem tu53 (parts : List (Nat × LV)) : buildL Tryd.prog 53 parts = (fillL (fun j => [(0,1),(1,1)][j]?) [.lit (.string ⟨#[]⟩),.lit (.string ⟨#[]⟩)] parts).map .agg := rfl
theorem tf54_0 : fieldL Tryd.prog 54 0 = some (0,3) := by kernel_rfl
theorem tf54_1 : fieldL Tryd.prog 54 1 = some (1,3) := by kernel_rfl
theorem tf54_2 : fieldL Tryd.prog 54 2 = some (2,3) := by kernel_rfl
theorem tl54 (cs : List LV) : loadL Tryd.prog 54 cs = if 3 ≤ cs.length then some (.agg (cs.take 3)) else none := rfl
theorem ts54 : sizeL Tryd.prog 54 = 3 := by kernel_rfl
theorem tb54 : bytesL Tryd.prog 54 = 24 := by kernel_rfl
theorem tz54 : zeroOk Tryd.prog 54 = true := by kernel_rfl
theorem to54 : okT Tryd.prog 54 = true := by kernel_rfl
theorem tq54 : eqKinds Tryd.prog 54 = some [(0,0),(1,0),(2,0)] := by kernel_rfl
theorem tn54 : zeroL Tryd.prog 54 = some [.lit (.int .i64 0),.lit (.int .i64 0),.lit (.int .i64 0)] := rfl
theorem tu54 (parts : List (Nat × LV)) : buildL Tryd.prog 54 parts = (fillL (fun j => [(0,1),(1,1),(2,1)][j]?) [.lit (.int .i64 0),.lit (.int .i64 0),.lit (.int .i64 0)] parts).map .agg := rfl
theorem tf55_0 : fieldL Tryd.prog 55 0 = some (0,3) := by kernel_rfl
theorem tf55_1 : fieldL Tryd.prog 55 1 = some (1,3) := by kernel_rfl
theorem tf55_2 : fieldL Tryd.prog 55 2 = some (2,3) := by kernel_rfl
theorem tl55 (cs : List LV) : loadL Tryd.prog 55 cs = if 3 ≤ cs.length then some (.agg (cs.take 3)) else none := rfl
theorem ts55 : sizeL Tryd.prog 55 = 3 := by kernel_rfl
theorem tb55 : bytesL Tryd.prog 55 = 24 := by kernel_rfl
theorem tz55 : zeroOk Tryd.prog 55 = true := by kernel_rfl
theorem to55 : okT Tryd.prog 55 = true := by kernel_rfl
theorem tq55 : eqKinds Tryd.prog 55 = some [(0,0),(1,0),(2,0)] := by kernel_rfl
theorem tn55 : zeroL Tryd.prog 55 = some [.lit (.int .i64 0),.lit (.int .i64 0),.lit (.int .i64 0)] := rfl
theorem tu55 (parts : List (Nat × LV)) : buildL Tryd.prog 55 parts = (fillL (fun j => [(0,1),(1,1),(2,1)][j]?) [.lit (.int .i64 0),.lit (.int .i64 0),.lit (.int .i64 0)] parts).map .agg := rfl
theorem tf57_0 : fieldL Tryd.prog 57 0 = some (0,31) := by kernel_rfl
theorem tf57_1 : fieldL Tryd.prog 57 1 = some (1,3) := by kernel_rfl
theorem tf57_2 : fieldL Tryd.prog 57 2 = some (2,4) := by kernel_rfl
theorem tl57 (cs : List LV) : loadL Tryd.prog 57 cs = if 3 ≤ cs.length then some (.agg (cs.take 3)) else none := rfl
theorem ts57 : sizeL Tryd.prog 57 = 3 := by kernel_rfl
theorem tb57 : bytesL Tryd.prog 57 = 40 := by kernel_rfl
theorem tz57 : zeroOk Tryd.prog 57 = true := by kernel_rfl
theorem to57 : okT Tryd.prog 57 = true := by kernel_rfl
theorem tn57 : zeroL Tryd.prog 57 = some [.sl 0 [] .nil,.lit (.int .i64 0),.lit (.bool false)] := rfl
theorem tu57 (parts : List (Nat × LV)) : buildL Tryd.prog 57 parts = (fillL (fun j => [(0,1),(1,1),(2,1)][j]?) [.sl 0 [] .nil,.lit (.int .i64 0),.lit (.bool false)] parts).map .agg := rfl
theorem tf58_0 : fieldL Tryd.prog 58 0 = some (0,31) := by kernel_rfl
theorem tf58_1 : fieldL Tryd.prog 58 1 = some (1,3) := by kernel_rfl
theorem tf58_2 : fieldL Tryd.prog 58 2 = some (2,4) := by kernel_rfl
theorem tl58 (cs : List LV) : loadL Tryd.prog 58 cs = if 3 ≤ cs.length then some (.agg (cs.take 3)) else none := rfl
theorem ts58 : sizeL Tryd.prog 58 = 3 := by kernel_rfl
theorem tb58 : bytesL Tryd.prog 58 = 40 := by kernel_rfl
theorem tz58 : zeroOk Tryd.prog 58 = true := by kernel_rfl
theorem to58 : okT Tryd.prog 58 = true := by kernel_rfl
theorem tn58 : zeroL Tryd.prog 58 = some [.sl 0 [] .nil,.lit (.int .i64 0),.lit (.bool false)] := rfl
theorem tu58 (parts : List (Nat × LV)) : buildL Tryd.prog 58 parts = (fillL (fun j => [(0,1),(1,1),(2,1)][j]?) [.sl 0 [] .nil,.lit (.int .i64 0),.lit (.bool false)] parts).map .agg := rfl
theorem tl73 (cs : List LV) : loadL Tryd.prog 73 cs = cs.head? := rfl
theorem ts73 : sizeL Tryd.prog 73 = 1 := by kernel_rfl
theorem tb73 : bytesL Tryd.prog 73 = 24 := by kernel_rfl
theorem tz73 : zeroOk Tryd.prog 73 = true := by kernel_rfl
theorem to73 : okT Tryd.prog 73 = true := by kernel_rfl
theorem tn73 : zeroL Tryd.prog 73 = some [.sl 0 [] .nil] := rfl
theorem te73 : elemL Tryd.prog 73 = some (2,1) := by kernel_rfl
theorem tl75 (cs : List LV) : loadL Tryd.prog 75 cs = cs.head? := rfl
theorem ts75 : sizeL Tryd.prog 75 = 1 := by kernel_rfl
theorem tb75 : bytesL Tryd.prog 75 = 8 := by kernel_rfl
theorem tz75 : zeroOk Tryd.prog 75 = true := by kernel_rfl
theorem to75 : okT Tryd.prog 75 = true := by kernel_rfl
theorem tn75 : zeroL Tryd.prog 75 = some [.lit (.int .u64 0)] := rfl
theorem tf87_1 : fieldL Tryd.prog 87 1 = some (1,31) := by kernel_rfl
theorem tl87 (cs : List LV) : loadL Tryd.prog 87 cs = if 2 ≤ cs.length then some (.agg (cs.take 2)) else none := rfl
theorem ts87 : sizeL Tryd.prog 87 = 2 := by kernel_rfl
theorem tb87 : bytesL Tryd.prog 87 = 32 := by kernel_rfl
theorem tz87 : zeroOk Tryd.prog 87 = true := by kernel_rfl
theorem to87 : okT Tryd.prog 87 = true := by kernel_rfl
theorem tf88_1 : fieldL Tryd.prog 88 1 = some (1,31) := by kernel_rfl
theorem tl88 (cs : List LV) : loadL Tryd.prog 88 cs = if 2 ≤ cs.length then some (.agg (cs.take 2)) else none := rfl
theorem ts88 : sizeL Tryd.prog 88 = 2 := by kernel_rfl
theorem tb88 : bytesL Tryd.prog 88 = 32 := by kernel_rfl
theorem tz88 : zeroOk Tryd.prog 88 = true := by kernel_rfl
theorem to88 : okT Tryd.prog 88 = true := by kernel_rfl
theorem tl100 (cs : List LV) : loadL Tryd.prog 100 cs = cs.head? := rfl
theorem ts100 : sizeL Tryd.prog 100 = 1 := by kernel_rfl
theorem tb100 : bytesL Tryd.prog 100 = 24 := by kernel_rfl
theorem tz100 : zeroOk Tryd.prog 100 = true := by kernel_rfl
theorem to100 : okT Tryd.prog 100 = true := by kernel_rfl
theorem tn100 : zeroL Tryd.prog 100 = some [.sl 0 [] .nil] := rfl
theorem te100 : elemL Tryd.prog 100 = some (117,1) := by kernel_rfl
theorem tl107 (cs : List LV) : loadL Tryd.prog 107 cs = cs.head? := rfl
theorem ts107 : sizeL Tryd.prog 107 = 1 := by kernel_rfl
theorem tb107 : bytesL Tryd.prog 107 = 4 := by kernel_rfl
theorem tz107 : zeroOk Tryd.prog 107 = true := by kernel_rfl
theorem to107 : okT Tryd.prog 107 = true := by kernel_rfl
theorem tn107 : zeroL Tryd.prog 107 = some [.lit (.int .u32 0)] := rfl
theorem tl117 (cs : List LV) : loadL Tryd.prog 117 cs = cs.head? := rfl
theorem ts117 : sizeL Tryd.prog 117 = 1 := by kernel_rfl
theorem tb117 : bytesL Tryd.prog 117 = 16 := by kernel_rfl
theorem tz117 : zeroOk Tryd.prog 117 = true := by kernel_rfl
theorem to117 : okT Tryd.prog 117 = true := by kernel_rfl
theorem tn117 : zeroL Tryd.prog 117 = some [.lit (.complex .f64 0 0)] := rfl
theorem tl132 (cs : List LV) : loadL Tryd.prog 132 cs = cs.head? := rfl
theorem ta134 : arrL Tryd.prog 134 = some (24,1) := by kernel_rfl
theorem tx134 : elemL Tryd.prog 134 = none := by kernel_rfl
theorem ts134 : sizeL Tryd.prog 134 = 24 := by kernel_rfl
theorem to134 : okT Tryd.prog 134 = true := by kernel_rfl
theorem tn134 : zeroL Tryd.prog 134 = some (List.replicate 24 (.lit (.int .u8 0))) := by kernel_rfl
theorem tl140 (cs : List LV) : loadL Tryd.prog 140 cs = cs.head? := rfl
theorem ts140 : sizeL Tryd.prog 140 = 1 := by kernel_rfl
theorem tb140 : bytesL Tryd.prog 140 = 24 := by kernel_rfl
theorem tz140 : zeroOk Tryd.prog 140 = true := by kernel_rfl
theorem to140 : okT Tryd.prog 140 = true := by kernel_rfl
theorem tn140 : zeroL Tryd.prog 140 = some [.sl 0 [] .nil] := rfl
theorem te140 : elemL Tryd.prog 140 = some (3,1) := by kernel_rfl
theorem ta142 : arrL Tryd.prog 142 = some (20,1) := by kernel_rfl
theorem tx142 : elemL Tryd.prog 142 = none := by kernel_rfl
theorem ts142 : sizeL Tryd.prog 142 = 20 := by kernel_rfl
theorem to142 : okT Tryd.prog 142 = true := by kernel_rfl
theorem tn142 : zeroL Tryd.prog 142 = some (List.replicate 20 (.lit (.int .u64 0))) := by kernel_rfl
theorem ta143 : arrL Tryd.prog 143 = some (65,1) := by kernel_rfl
theorem tx143 : elemL Tryd.prog 143 = none := by kernel_rfl
theorem ts143 : sizeL Tryd.prog 143 = 65 := by kernel_rfl
theorem to143 : okT Tryd.prog 143 = true := by kernel_rfl
theorem tn143 : zeroL Tryd.prog 143 = some (List.replicate 65 (.lit (.int .u8 0))) := by kernel_rfl
theorem ta146 : arrL Tryd.prog 146 = some (32,1) := by kernel_rfl
theorem tx146 : elemL Tryd.prog 146 = none := by kernel_rfl
theorem ts146 : sizeL Tryd.prog 146 = 32 := by kernel_rfl
theorem to146 : okT Tryd.prog 146 = true := by kernel_rfl
theorem tn146 : zeroL Tryd.prog 146 = some (List.replicate 32 (.lit (.int .u8 0))) := by kernel_rfl
theorem ta147 : arrL Tryd.prog 147 = some (64,1) := by kernel_rfl
theorem tx147 : elemL Tryd.prog 147 = none := by kernel_rfl
theorem ts147 : sizeL Tryd.prog 147 = 64 := by kernel_rfl
theorem to147 : okT Tryd.prog 147 = true := by kernel_rfl
theorem tn147 : zeroL Tryd.prog 147 = some (List.replicate 64 (.lit (.int .u8 0))) := by kernel_rfl
theorem tf158_0 : fieldL Tryd.prog 158 0 = some (0,12) := by kernel_rfl
theorem tf158_1 : fieldL Tryd.prog 158 1 = some (1,12) := by kernel_rfl
theorem tf158_2 : fieldL Tryd.prog 158 2 = some (2,107) := by kernel_rfl
theorem tf158_3 : fieldL Tryd.prog 158 3 = some (3,153) := by kernel_rfl
theorem tf158_4 : fieldL Tryd.prog 158 4 = some (4,5) := by kernel_rfl
theorem tf158_5 : fieldL Tryd.prog 158 5 = some (5,5) := by kernel_rfl
theorem tf158_6 : fieldL Tryd.prog 158 6 = some (6,154) := by kernel_rfl
theorem tf158_9 : fieldL Tryd.prog 158 9 = some (9,156) := by kernel_rfl
theorem tf158_10 : fieldL Tryd.prog 158 10 = some (10,157) := by kernel_rfl
theorem tl158 (cs : List LV) : loadL Tryd.prog 158 cs = if 11 ≤ cs.length then some (.agg (cs.take 11)) else none := rfl
theorem ts158 : sizeL Tryd.prog 158 = 11 := by kernel_rfl
theorem tb158 : bytesL Tryd.prog 158 = 48 := by kernel_rfl
theorem tz158 : zeroOk Tryd.prog 158 = true := by kernel_rfl
theorem to158 : okT Tryd.prog 158 = true := by kernel_rfl
theorem tadd64 : extAdd Tryd.prog = some 76 := by kernel_rfl
end Go.Proofs.YteamlijbkldlhaaDoor
