import Derived.Test.YtnmjghcdccfphaaGreatDoorProg
import Derived.Test.YtnmjghcdccfphaaGreatDoorL11
set_option maxRecDepth 100000
set_option linter.unusedSimpArgs false
set_option linter.unusedVariables false
namespace Go.Proofs.YtnmjghcdccfphaaGreatDoor
theorem tl2 (cs : List LV) : loadL Tryz.prog 2 cs = cs.head? := rfl
theorem ts2 : sizeL Tryz.prog 2 = 1 := by kernel_rfl
theorem tb2 : bytesL Tryz.prog 2 = 8 := by kernel_rfl
theorem tz2 : zeroOk Tryz.prog 2 = true := by kernel_rfl
theorem to2 : okT Tryz.prog 2 = true := by kernel_rfl
theorem tn2 : zeroL Tryz.prog 2 = some [.lit (.int .i64 0)] := rfl
theorem tl3 (cs : List LV) : loadL Tryz.prog 3 cs = cs.head? := rfl
theorem ts3 : sizeL Tryz.prog 3 = 1 := by kernel_rfl
theorem tb3 : bytesL Tryz.prog 3 = 8 := by kernel_rfl
theorem tz3 : zeroOk Tryz.prog 3 = true := by kernel_rfl
theorem to3 : okT Tryz.prog 3 = true := by kernel_rfl
theorem tn3 : zeroL Tryz.prog 3 = some [.lit (.int .i64 0)] := rfl
theorem tl4 (cs : List LV) : loadL Tryz.prog 4 cs = cs.head? := rfl
theorem ts4 : sizeL Tryz.prog 4 = 1 := by kernel_rfl
theorem tb4 : bytesL Tryz.prog 4 = 1 := by kernel_rfl
theorem tz4 : zeroOk Tryz.prog 4 = true := by kernel_rfl
theorem to4 : okT Tryz.prog 4 = true := by kernel_rfl
theorem tn4 : zeroL Tryz.prog 4 = some [.lit (.bool false)] := rfl
theorem tl5 (cs : List LV) : loadL Tryz.prog 5 cs = cs.head? := rfl
theorem ts5 : sizeL Tryz.prog 5 = 1 := by kernel_rfl
theorem tb5 : bytesL Tryz.prog 5 = 1 := by kernel_rfl
theorem tz5 : zeroOk Tryz.prog 5 = true := by kernel_rfl
theorem to5 : okT Tryz.prog 5 = true := by kernel_rfl
theorem tn5 : zeroL Tryz.prog 5 = some [.lit (.int .u8 0)] := rfl
theorem tl9 (cs : List LV) : loadL Tryz.prog 9 cs = cs.head? := rfl
theorem ts9 : sizeL Tryz.prog 9 = 1 := by kernel_rfl
theorem tb9 : bytesL Tryz.prog 9 = 16 := by kernel_rfl
theorem tz9 : zeroOk Tryz.prog 9 = true := by kernel_rfl
theorem to9 : okT Tryz.prog 9 = true := by kernel_rfl
theorem tn9 : zeroL Tryz.prog 9 = some [.lit (.string ⟨#[]⟩)] := rfl
theorem tl12 (cs : List LV) : loadL Tryz.prog 12 cs = cs.head? := rfl
theorem ts12 : sizeL Tryz.prog 12 = 1 := by kernel_rfl
theorem tb12 : bytesL Tryz.prog 12 = 8 := by kernel_rfl
theorem tz12 : zeroOk Tryz.prog 12 = true := by kernel_rfl
theorem to12 : okT Tryz.prog 12 = true := by kernel_rfl
theorem tn12 : zeroL Tryz.prog 12 = some [.lit (.int .u64 0)] := rfl
theorem tl21 (cs : List LV) : loadL Tryz.prog 21 cs = cs.head? := rfl
theorem ts21 : sizeL Tryz.prog 21 = 1 := by kernel_rfl
theorem tb21 : bytesL Tryz.prog 21 = 4 := by kernel_rfl
theorem tz21 : zeroOk Tryz.prog 21 = true := by kernel_rfl
theorem to21 : okT Tryz.prog 21 = true := by kernel_rfl
theorem tn21 : zeroL Tryz.prog 21 = some [.lit (.int .i32 0)] := rfl
theorem tl22 (cs : List LV) : loadL Tryz.prog 22 cs = cs.head? := rfl
theorem ts22 : sizeL Tryz.prog 22 = 1 := by kernel_rfl
theorem tb22 : bytesL Tryz.prog 22 = 24 := by kernel_rfl
theorem tz22 : zeroOk Tryz.prog 22 = true := by kernel_rfl
theorem to22 : okT Tryz.prog 22 = true := by kernel_rfl
theorem tn22 : zeroL Tryz.prog 22 = some [.sl 0 [] .nil] := rfl
theorem te22 : elemL Tryz.prog 22 = some (56,15) := by kernel_rfl
theorem tl23 (cs : List LV) : loadL Tryz.prog 23 cs = cs.head? := rfl
theorem ts23 : sizeL Tryz.prog 23 = 1 := by kernel_rfl
theorem tb23 : bytesL Tryz.prog 23 = 24 := by kernel_rfl
theorem tz23 : zeroOk Tryz.prog 23 = true := by kernel_rfl
theorem to23 : okT Tryz.prog 23 = true := by kernel_rfl
theorem tn23 : zeroL Tryz.prog 23 = some [.sl 0 [] .nil] := rfl
theorem te23 : elemL Tryz.prog 23 = some (9,1) := by kernel_rfl
theorem tl24 (cs : List LV) : loadL Tryz.prog 24 cs = cs.head? := rfl
theorem ts24 : sizeL Tryz.prog 24 = 1 := by kernel_rfl
theorem tb24 : bytesL Tryz.prog 24 = 24 := by kernel_rfl
theorem tz24 : zeroOk Tryz.prog 24 = true := by kernel_rfl
theorem to24 : okT Tryz.prog 24 = true := by kernel_rfl
theorem tn24 : zeroL Tryz.prog 24 = some [.sl 0 [] .nil] := rfl
theorem te24 : elemL Tryz.prog 24 = some (3,1) := by kernel_rfl
theorem tf25_0 : fieldL Tryz.prog 25 0 = some (0,4) := by kernel_rfl
theorem tf25_1 : fieldL Tryz.prog 25 1 = some (1,22) := by kernel_rfl
theorem tf25_2 : fieldL Tryz.prog 25 2 = some (2,23) := by kernel_rfl
theorem tf25_3 : fieldL Tryz.prog 25 3 = some (3,24) := by kernel_rfl
theorem tl25 (cs : List LV) : loadL Tryz.prog 25 cs = if 4 ≤ cs.length then some (.agg (cs.take 4)) else none := rfl
theorem ts25 : sizeL Tryz.prog 25 = 4 := by kernel_rfl
theorem tb25 : bytesL Tryz.prog 25 = 80 := by kernel_rfl
theorem tz25 : zeroOk Tryz.prog 25 = true := by kernel_rfl
theorem to25 : okT Tryz.prog 25 = true := by kernel_rfl
theorem tn25 : zeroL Tryz.prog 25 = some [.lit (.bool false),.sl 0 [] .nil,.sl 0 [] .nil,.sl 0 [] .nil] := rfl
theorem tu25 (parts : List (Nat × LV)) : buildL Tryz.prog 25 parts = (fillL (fun j => [(0,1),(1,1),(2,1),(3,1)][j]?) [.lit (.bool false),.sl 0 [] .nil,.sl 0 [] .nil,.sl 0 [] .nil] parts).map .agg := rfl
theorem tf26_0 : fieldL Tryz.prog 26 0 = some (0,4) := by kernel_rfl
theorem tf26_1 : fieldL Tryz.prog 26 1 = some (1,22) := by kernel_rfl
theorem tf26_2 : fieldL Tryz.prog 26 2 = some (2,23) := by kernel_rfl
theorem tf26_3 : fieldL Tryz.prog 26 3 = some (3,24) := by kernel_rfl
theorem tl26 (cs : List LV) : loadL Tryz.prog 26 cs = if 4 ≤ cs.length then some (.agg (cs.take 4)) else none := rfl
theorem ts26 : sizeL Tryz.prog 26 = 4 := by kernel_rfl
theorem tb26 : bytesL Tryz.prog 26 = 80 := by kernel_rfl
theorem tz26 : zeroOk Tryz.prog 26 = true := by kernel_rfl
theorem to26 : okT Tryz.prog 26 = true := by kernel_rfl
theorem tn26 : zeroL Tryz.prog 26 = some [.lit (.bool false),.sl 0 [] .nil,.sl 0 [] .nil,.sl 0 [] .nil] := rfl
theorem tu26 (parts : List (Nat × LV)) : buildL Tryz.prog 26 parts = (fillL (fun j => [(0,1),(1,1),(2,1),(3,1)][j]?) [.lit (.bool false),.sl 0 [] .nil,.sl 0 [] .nil,.sl 0 [] .nil] parts).map .agg := rfl
theorem tl27 (cs : List LV) : loadL Tryz.prog 27 cs = cs.head? := rfl
theorem ts27 : sizeL Tryz.prog 27 = 1 := by kernel_rfl
theorem tb27 : bytesL Tryz.prog 27 = 24 := by kernel_rfl
theorem tz27 : zeroOk Tryz.prog 27 = true := by kernel_rfl
theorem to27 : okT Tryz.prog 27 = true := by kernel_rfl
theorem tn27 : zeroL Tryz.prog 27 = some [.sl 0 [] .nil] := rfl
theorem te27 : elemL Tryz.prog 27 = some (5,1) := by kernel_rfl
theorem tf30_0 : fieldL Tryz.prog 30 0 = some (0,4) := by kernel_rfl
theorem tf30_1 : fieldL Tryz.prog 30 1 = some (1,22) := by kernel_rfl
theorem tf30_2 : fieldL Tryz.prog 30 2 = some (2,23) := by kernel_rfl
theorem tf30_3 : fieldL Tryz.prog 30 3 = some (3,24) := by kernel_rfl
theorem tl30 (cs : List LV) : loadL Tryz.prog 30 cs = if 4 ≤ cs.length then some (.agg (cs.take 4)) else none := rfl
theorem ts30 : sizeL Tryz.prog 30 = 4 := by kernel_rfl
theorem tb30 : bytesL Tryz.prog 30 = 80 := by kernel_rfl
theorem tz30 : zeroOk Tryz.prog 30 = true := by kernel_rfl
theorem to30 : okT Tryz.prog 30 = true := by kernel_rfl
theorem tn30 : zeroL Tryz.prog 30 = some [.lit (.bool false),.sl 0 [] .nil,.sl 0 [] .nil,.sl 0 [] .nil] := rfl
theorem tu30 (parts : List (Nat × LV)) : buildL Tryz.prog 30 parts = (fillL (fun j => [(0,1),(1,1),(2,1),(3,1)][j]?) [.lit (.bool false),.sl 0 [] .nil,.sl 0 [] .nil,.sl 0 [] .nil] parts).map .agg := rfl
theorem tf31_0 : fieldL Tryz.prog 31 0 = some (0,4) := by kernel_rfl
theorem tf31_1 : fieldL Tryz.prog 31 1 = some (1,22) := by kernel_rfl
theorem tf31_2 : fieldL Tryz.prog 31 2 = some (2,23) := by kernel_rfl
theorem tf31_3 : fieldL Tryz.prog 31 3 = some (3,24) := by kernel_rfl
theorem tl31 (cs : List LV) : loadL Tryz.prog 31 cs = if 4 ≤ cs.length then some (.agg (cs.take 4)) else none := rfl
theorem ts31 : sizeL Tryz.prog 31 = 4 := by kernel_rfl
theorem tb31 : bytesL Tryz.prog 31 = 80 := by kernel_rfl
theorem tz31 : zeroOk Tryz.prog 31 = true := by kernel_rfl
theorem to31 : okT Tryz.prog 31 = true := by kernel_rfl
theorem tn31 : zeroL Tryz.prog 31 = some [.lit (.bool false),.sl 0 [] .nil,.sl 0 [] .nil,.sl 0 [] .nil] := rfl
theorem tu31 (parts : List (Nat × LV)) : buildL Tryz.prog 31 parts = (fillL (fun j => [(0,1),(1,1),(2,1),(3,1)][j]?) [.lit (.bool false),.sl 0 [] .nil,.sl 0 [] .nil,.sl 0 [] .nil] parts).map .agg := rfl
theorem tl48 (cs : List LV) : loadL Tryz.prog 48 cs = cs.head? := rfl
theorem ts48 : sizeL Tryz.prog 48 = 1 := by kernel_rfl
theorem tb48 : bytesL Tryz.prog 48 = 24 := by kernel_rfl
theorem tz48 : zeroOk Tryz.prog 48 = true := by kernel_rfl
theorem to48 : okT Tryz.prog 48 = true := by kernel_rfl
theorem tn48 : zeroL Tryz.prog 48 = some [.sl 0 [] .nil] := rfl
theorem te48 : elemL Tryz.prog 48 = some (86,2) := by kernel_rfl
theorem tl49 (cs : List LV) : loadL Tryz.prog 49 cs = cs.head? := rfl
theorem ts49 : sizeL Tryz.prog 49 = 1 := by kernel_rfl
theorem tb49 : bytesL Tryz.prog 49 = 24 := by kernel_rfl
theorem tz49 : zeroOk Tryz.prog 49 = true := by kernel_rfl
theorem to49 : okT Tryz.prog 49 = true := by kernel_rfl
theorem tn49 : zeroL Tryz.prog 49 = some [.sl 0 [] .nil] := rfl
theorem te49 : elemL Tryz.prog 49 = some (88,3) := by kernel_rfl
theorem tf50_0 : fieldL Tryz.prog 50 0 = some (0,3) := by kernel_rfl
theorem tf50_1 : fieldL Tryz.prog 50 1 = some (1,3) := by kernel_rfl
theorem tf50_2 : fieldL Tryz.prog 50 2 = some (2,3) := by kernel_rfl
theorem tf50_3 : fieldL Tryz.prog 50 3 = some (3,2) := by kernel_rfl
theorem tf50_4 : fieldL Tryz.prog 50 4 = some (4,48) := by kernel_rfl
theorem tf50_5 : fieldL Tryz.prog 50 5 = some (5,49) := by kernel_rfl
theorem tl50 (cs : List LV) : loadL Tryz.prog 50 cs = if 6 ≤ cs.length then some (.agg (cs.take 6)) else none := rfl
theorem ts50 : sizeL Tryz.prog 50 = 6 := by kernel_rfl
theorem tb50 : bytesL Tryz.prog 50 = 80 := by kernel_rfl
theorem tz50 : zeroOk Tryz.prog 50 = true := by kernel_rfl
theorem to50 : okT Tryz.prog 50 = true := by kernel_rfl
theorem tn50 : zeroL Tryz.prog 50 = some [.lit (.int .i64 0),.lit (.int .i64 0),.lit (.int .i64 0),.lit (.int .i64 0),.sl 0 [] .nil,.sl 0 [] .nil] := rfl
theorem tu50 (parts : List (Nat × LV)) : buildL Tryz.prog 50 parts = (fillL (fun j => [(0,1),(1,1),(2,1),(3,1),(4,1),(5,1)][j]?) [.lit (.int .i64 0),.lit (.int .i64 0),.lit (.int .i64 0),.lit (.int .i64 0),.sl 0 [] .nil,.sl 0 [] .nil] parts).map .agg := rfl
theorem tf51_0 : fieldL Tryz.prog 51 0 = some (0,3) := by kernel_rfl
theorem tf51_1 : fieldL Tryz.prog 51 1 = some (1,3) := by kernel_rfl
theorem tf51_2 : fieldL Tryz.prog 51 2 = some (2,3) := by kernel_rfl
theorem tf51_3 : fieldL Tryz.prog 51 3 = some (3,2) := by kernel_rfl
theorem tf51_4 : fieldL Tryz.prog 51 4 = some (4,48) := by kernel_rfl
theorem tf51_5 : fieldL Tryz.prog 51 5 = some (5,49) := by kernel_rfl
theorem tl51 (cs : List LV) : loadL Tryz.prog 51 cs = if 6 ≤ cs.length then some (.agg (cs.take 6)) else none := rfl
theorem ts51 : sizeL Tryz.prog 51 = 6 := by kernel_rfl
theorem tb51 : bytesL Tryz.prog 51 = 80 := by kernel_rfl
theorem tz51 : zeroOk Tryz.prog 51 = true := by kernel_rfl
theorem to51 : okT Tryz.prog 51 = true := by kernel_rfl
theorem tn51 : zeroL Tryz.prog 51 = some [.lit (.int .i64 0),.lit (.int .i64 0),.lit (.int .i64 0),.lit (.int .i64 0),.sl 0 [] .nil,.sl 0 [] .nil] := rfl
theorem tu51 (parts : List (Nat × LV)) : buildL Tryz.prog 51 parts = (fillL (fun j => [(0,1),(1,1),(2,1),(3,1),(4,1),(5,1)][j]?) [.lit (.int .i64 0),.lit (.int .i64 0),.lit (.int .i64 0),.lit (.int .i64 0),.sl 0 [] .nil,.sl 0 [] .nil] parts).map .agg := rfl
theorem tl52 (cs : List LV) : loadL Tryz.prog 52 cs = cs.head? := rfl
theorem ts52 : sizeL Tryz.prog 52 = 1 := by kernel_rfl
theorem tb52 : bytesL Tryz.prog 52 = 24 := by kernel_rfl
theorem tz52 : zeroOk Tryz.prog 52 = true := by kernel_rfl
theorem to52 : okT Tryz.prog 52 = true := by kernel_rfl
theorem tn52 : zeroL Tryz.prog 52 = some [.sl 0 [] .nil] := rfl
theorem te52 : elemL Tryz.prog 52 = some (90,2) := by kernel_rfl
theorem tf53_0 : fieldL Tryz.prog 53 0 = some (0,3) := by kernel_rfl
theorem tf53_1 : fieldL Tryz.prog 53 1 = some (1,51) := by kernel_rfl
theorem tf53_2 : fieldL Tryz.prog 53 2 = some (7,2) := by kernel_rfl
theorem tf53_3 : fieldL Tryz.prog 53 3 = some (8,52) := by kernel_rfl
theorem tf53_4 : fieldL Tryz.prog 53 4 = some (9,9) := by kernel_rfl
theorem tf53_5 : fieldL Tryz.prog 53 5 = some (10,3) := by kernel_rfl
theorem tf53_6 : fieldL Tryz.prog 53 6 = some (11,3) := by kernel_rfl
theorem tl53 (cs : List LV) : loadL Tryz.prog 53 cs = if 12 ≤ cs.length then some (.agg (cs.take 12)) else none := rfl
theorem ts53 : sizeL Tryz.prog 53 = 12 := by kernel_rfl
theorem tb53 : bytesL Tryz.prog 53 = 152 := by kernel_rfl
theorem tz53 : zeroOk Tryz.prog 53 = true := by kernel_rfl
theorem to53 : okT Tryz.prog 53 = true := by kernel_rfl
theorem tn53 : zeroL Tryz.prog 53 = some [.lit (.int .i64 0),.lit (.int .i64 0),.lit (.int .i64 0),.lit (.int .i64 0),.lit (.int .i64 0),.sl 0 [] .nil,.sl 0 [] .nil,.lit (.int .i64 0),.sl 0 [] .nil,.lit (.string ⟨#[]⟩),.lit (.int .i64 0),.lit (.int .i64 0)] := rfl
theorem tu53 (parts : List (Nat × LV)) : buildL Tryz.prog 53 parts = (fillL (fun j => [(0,1),(1,6),(7,1),(8,1),(9,1),(10,1),(11,1)][j]?) [.lit (.int .i64 0),.lit (.int .i64 0),.lit (.int .i64 0),.lit (.int .i64 0),.lit (.int .i64 0),.sl 0 [] .nil,.sl 0 [] .nil,.lit (.int .i64 0),.sl 0 [] .nil,.lit (.string ⟨#[]⟩),.lit (.int .i64 0),.lit (.int .i64 0)] parts).map .agg := rfl
theorem tf54_0 : fieldL Tryz.prog 54 0 = some (0,3) := by kernel_rfl
theorem tf54_1 : fieldL Tryz.prog 54 1 = some (1,51) := by kernel_rfl
theorem tf54_2 : fieldL Tryz.prog 54 2 = some (7,2) := by kernel_rfl
theorem tf54_3 : fieldL Tryz.prog 54 3 = some (8,52) := by kernel_rfl
theorem tf54_4 : fieldL Tryz.prog 54 4 = some (9,9) := by kernel_rfl
theorem tf54_5 : fieldL Tryz.prog 54 5 = some (10,3) := by kernel_rfl
theorem tf54_6 : fieldL Tryz.prog 54 6 = some (11,3) := by kernel_rfl
theorem tl54 (cs : List LV) : loadL Tryz.prog 54 cs = if 12 ≤ cs.length then some (.agg (cs.take 12)) else none := rfl
theorem ts54 : sizeL Tryz.prog 54 = 12 := by kernel_rfl
theorem tb54 : bytesL Tryz.prog 54 = 152 := by kernel_rfl
theorem tz54 : zeroOk Tryz.prog 54 = true := by kernel_rfl
theorem to54 : okT Tryz.prog 54 = true := by kernel_rfl
theorem tn54 : zeroL Tryz.prog 54 = some [.lit (.int .i64 0),.lit (.int .i64 0),.lit (.int .i64 0),.lit (.int .i64 0),.lit (.int .i64 0),.sl 0 [] .nil,.sl 0 [] .nil,.lit (.int .i64 0),.sl 0 [] .nil,.lit (.string ⟨#[]⟩),.lit (.int .i64 0),.lit (.int .i64 0)] := rfl
theorem tu54 (parts : List (Nat × LV)) : buildL Tryz.prog 54 parts = (fillL (fun j => [(0,1),(1,6),(7,1),(8,1),(9,1),(10,1),(11,1)][j]?) [.lit (.int .i64 0),.lit (.int .i64 0),.lit (.int .i64 0),.lit (.int .i64 0),.lit (.int .i64 0),.sl 0 [] .nil,.sl 0 [] .nil,.lit (.int .i64 0),.sl 0 [] .nil,.lit (.string ⟨#[]⟩),.lit (.int .i64 0),.lit (.int .i64 0)] parts).map .agg := rfl
theorem tf55_0 : fieldL Tryz.prog 55 0 = some (0,9) := by kernel_rfl
theorem tf55_1 : fieldL Tryz.prog 55 1 = some (1,3) := by kernel_rfl
theorem tf55_2 : fieldL Tryz.prog 55 2 = some (2,54) := by kernel_rfl
theorem tf55_3 : fieldL Tryz.prog 55 3 = some (14,3) := by kernel_rfl
theorem tl55 (cs : List LV) : loadL Tryz.prog 55 cs = if 15 ≤ cs.length then some (.agg (cs.take 15)) else none := rfl
theorem ts55 : sizeL Tryz.prog 55 = 15 := by kernel_rfl
theorem tb55 : bytesL Tryz.prog 55 = 184 := by kernel_rfl
theorem tz55 : zeroOk Tryz.prog 55 = true := by kernel_rfl
theorem to55 : okT Tryz.prog 55 = true := by kernel_rfl
theorem tn55 : zeroL Tryz.prog 55 = some [.lit (.string ⟨#[]⟩),.lit (.int .i64 0),.lit (.int .i64 0),.lit (.int .i64 0),.lit (.int .i64 0),.lit (.int .i64 0),.lit (.int .i64 0),.sl 0 [] .nil,.sl 0 [] .nil,.lit (.int .i64 0),.sl 0 [] .nil,.lit (.string ⟨#[]⟩),.lit (.int .i64 0),.lit (.int .i64 0),.lit (.int .i64 0)] := rfl
theorem tu55 (parts : List (Nat × LV)) : buildL Tryz.prog 55 parts = (fillL (fun j => [(0,1),(1,1),(2,12),(14,1)][j]?) [.lit (.string ⟨#[]⟩),.lit (.int .i64 0),.lit (.int .i64 0),.lit (.int .i64 0),.lit (.int .i64 0),.lit (.int .i64 0),.lit (.int .i64 0),.sl 0 [] .nil,.sl 0 [] .nil,.lit (.int .i64 0),.sl 0 [] .nil,.lit (.string ⟨#[]⟩),.lit (.int .i64 0),.lit (.int .i64 0),.lit (.int .i64 0)] parts).map .agg := rfl
theorem tf56_0 : fieldL Tryz.prog 56 0 = some (0,9) := by kernel_rfl
theorem tf56_1 : fieldL Tryz.prog 56 1 = some (1,3) := by kernel_rfl
theorem tf56_2 : fieldL Tryz.prog 56 2 = some (2,54) := by kernel_rfl
theorem tf56_3 : fieldL Tryz.prog 56 3 = some (14,3) := by kernel_rfl
theorem tl56 (cs : List LV) : loadL Tryz.prog 56 cs = if 15 ≤ cs.length then some (.agg (cs.take 15)) else none := rfl
theorem ts56 : sizeL Tryz.prog 56 = 15 := by kernel_rfl
theorem tb56 : bytesL Tryz.prog 56 = 184 := by kernel_rfl
theorem tz56 : zeroOk Tryz.prog 56 = true := by kernel_rfl
theorem to56 : okT Tryz.prog 56 = true := by kernel_rfl
theorem tn56 : zeroL Tryz.prog 56 = some [.lit (.string ⟨#[]⟩),.lit (.int .i64 0),.lit (.int .i64 0),.lit (.int .i64 0),.lit (.int .i64 0),.lit (.int .i64 0),.lit (.int .i64 0),.sl 0 [] .nil,.sl 0 [] .nil,.lit (.int .i64 0),.sl 0 [] .nil,.lit (.string ⟨#[]⟩),.lit (.int .i64 0),.lit (.int .i64 0),.lit (.int .i64 0)] := rfl
theorem tu56 (parts : List (Nat × LV)) : buildL Tryz.prog 56 parts = (fillL (fun j => [(0,1),(1,1),(2,12),(14,1)][j]?) [.lit (.string ⟨#[]⟩),.lit (.int .i64 0),.lit (.int .i64 0),.lit (.int .i64 0),.lit (.int .i64 0),.lit (.int .i64 0),.lit (.int .i64 0),.sl 0 [] .nil,.sl 0 [] .nil,.lit (.int .i64 0),.sl 0 [] .nil,.lit (.string ⟨#[]⟩),.lit (.int .i64 0),.lit (.int .i64 0),.lit (.int .i64 0)] parts).map .agg := rfl
theorem tl59 (cs : List LV) : loadL Tryz.prog 59 cs = cs.head? := rfl
theorem ts59 : sizeL Tryz.prog 59 = 1 := by kernel_rfl
theorem tb59 : bytesL Tryz.prog 59 = 8 := by kernel_rfl
theorem tz59 : zeroOk Tryz.prog 59 = true := by kernel_rfl
theorem to59 : okT Tryz.prog 59 = true := by kernel_rfl
theorem tn59 : zeroL Tryz.prog 59 = some [.lit (.int .u64 0)] := rfl
theorem tf69_0 : fieldL Tryz.prog 69 0 = some (0,9) := by kernel_rfl
theorem tf69_1 : fieldL Tryz.prog 69 1 = some (1,3) := by kernel_rfl
theorem tf69_2 : fieldL Tryz.prog 69 2 = some (2,4) := by kernel_rfl
theorem tl69 (cs : List LV) : loadL Tryz.prog 69 cs = if 3 ≤ cs.length then some (.agg (cs.take 3)) else none := rfl
theorem ts69 : sizeL Tryz.prog 69 = 3 := by kernel_rfl
theorem tb69 : bytesL Tryz.prog 69 = 32 := by kernel_rfl
theorem tz69 : zeroOk Tryz.prog 69 = true := by kernel_rfl
theorem to69 : okT Tryz.prog 69 = true := by kernel_rfl
theorem tq69 : eqKinds Tryz.prog 69 = some [(0,1),(1,0),(2,2)] := by kernel_rfl
theorem tn69 : zeroL Tryz.prog 69 = some [.lit (.string ⟨#[]⟩),.lit (.int .i64 0),.lit (.bool false)] := rfl
theorem tu69 (parts : List (Nat × LV)) : buildL Tryz.prog 69 parts = (fillL (fun j => [(0,1),(1,1),(2,1)][j]?) [.lit (.string ⟨#[]⟩),.lit (.int .i64 0),.lit (.bool false)] parts).map .agg := rfl
theorem tf70_0 : fieldL Tryz.prog 70 0 = some (0,9) := by kernel_rfl
theorem tf70_1 : fieldL Tryz.prog 70 1 = some (1,3) := by kernel_rfl
theorem tf70_2 : fieldL Tryz.prog 70 2 = some (2,4) := by kernel_rfl
theorem tl70 (cs : List LV) : loadL Tryz.prog 70 cs = if 3 ≤ cs.length then some (.agg (cs.take 3)) else none := rfl
theorem ts70 : sizeL Tryz.prog 70 = 3 := by kernel_rfl
theorem tb70 : bytesL Tryz.prog 70 = 32 := by kernel_rfl
theorem tz70 : zeroOk Tryz.prog 70 = true := by kernel_rfl
theorem to70 : okT Tryz.prog 70 = true := by kernel_rfl
theorem tq70 : eqKinds Tryz.prog 70 = some [(0,1),(1,0),(2,2)] := by kernel_rfl
theorem tn70 : zeroL Tryz.prog 70 = some [.lit (.string ⟨#[]⟩),.lit (.int .i64 0),.lit (.bool false)] := rfl
theorem tu70 (parts : List (Nat × LV)) : buildL Tryz.prog 70 parts = (fillL (fun j => [(0,1),(1,1),(2,1)][j]?) [.lit (.string ⟨#[]⟩),.lit (.int .i64 0),.lit (.bool false)] parts).map .agg := rfl
theorem tf85_0 : fieldL Tryz.prog 85 0 = some (0,9) := by kernel_rfl
theorem tf85_1 : fieldL Tryz.prog 85 1 = some (1,9) := by kernel_rfl
theorem tl85 (cs : List LV) : loadL Tryz.prog 85 cs = if 2 ≤ cs.length then some (.agg (cs.take 2)) else none := rfl
theorem ts85 : sizeL Tryz.prog 85 = 2 := by kernel_rfl
theorem tb85 : bytesL Tryz.prog 85 = 32 := by kernel_rfl
theorem tz85 : zeroOk Tryz.prog 85 = true := by kernel_rfl
theorem to85 : okT Tryz.prog 85 = true := by kernel_rfl
theorem tq85 : eqKinds Tryz.prog 85 = some [(0,1),(1,1)] := by kernel_rfl
theorem tn85 : zeroL Tryz.prog 85 = some [.lit (.string ⟨#[]⟩),.lit (.string ⟨#[]⟩)] := rfl
theorem tu85 (parts : List (Nat × LV)) : buildL Tryz.prog 85 parts = (fillL (fun j => [(0,1),(1,1)][j]?) [.lit (.string ⟨#[]⟩),.lit (.string ⟨#[]⟩)] parts).map .agg := rfl
theorem tf86_0 : fieldL Tryz.prog 86 0 = some (0,9) := by kernel_rfl
theorem tf86_1 : fieldL Tryz.prog 86 1 = some (1,9) := by kernel_rfl
theorem tl86 (cs : List LV) : loadL Tryz.prog 86 cs = if 2 ≤ cs.length then some (.agg (cs.take 2)) else none := rfl
theorem ts86 : sizeL Tryz.prog 86 = 2 := by kernel_rfl
theorem tb86 : bytesL Tryz.prog 86 = 32 := by kernel_rfl
theorem tz86 : zeroOk Tryz.prog 86 = true := by kernel_rfl
theorem to86 : okT Tryz.prog 86 = true := by kernel_rfl
theorem tq86 : eqKinds Tryz.prog 86 = some [(0,1),(1,1)] := by kernel_rfl
theorem tn86 : zeroL Tryz.prog 86 = some [.lit (.string ⟨#[]⟩),.lit (.string ⟨#[]⟩)] := rfl
theorem tu86 (parts : List (Nat × LV)) : buildL Tryz.prog 86 parts = (fillL (fun j => [(0,1),(1,1)][j]?) [.lit (.string ⟨#[]⟩),.lit (.string ⟨#[]⟩)] parts).map .agg := rfl
theorem tf87_0 : fieldL Tryz.prog 87 0 = some (0,3) := by kernel_rfl
theorem tf87_1 : fieldL Tryz.prog 87 1 = some (1,3) := by kernel_rfl
theorem tf87_2 : fieldL Tryz.prog 87 2 = some (2,3) := by kernel_rfl
theorem tl87 (cs : List LV) : loadL Tryz.prog 87 cs = if 3 ≤ cs.length then some (.agg (cs.take 3)) else none := rfl
theorem ts87 : sizeL Tryz.prog 87 = 3 := by kernel_rfl
theorem tb87 : bytesL Tryz.prog 87 = 24 := by kernel_rfl
theorem tz87 : zeroOk Tryz.prog 87 = true := by kernel_rfl
theorem to87 : okT Tryz.prog 87 = true := by kernel_rfl
theorem tq87 : eqKinds Tryz.prog 87 = some [(0,0),(1,0),(2,0)] := by kernel_rfl
theorem tn87 : zeroL Tryz.prog 87 = some [.lit (.int .i64 0),.lit (.int .i64 0),.lit (.int .i64 0)] := rfl
theorem tu87 (parts : List (Nat × LV)) : buildL Tryz.prog 87 parts = (fillL (fun j => [(0,1),(1,1),(2,1)][j]?) [.lit (.int .i64 0),.lit (.int .i64 0),.lit (.int .i64 0)] parts).map .agg := rfl
theorem tf88_0 : fieldL Tryz.prog 88 0 = some (0,3) := by kernel_rfl
theorem tf88_1 : fieldL Tryz.prog 88 1 = some (1,3) := by kernel_rfl
theorem tf88_2 : fieldL Tryz.prog 88 2 = some (2,3) := by kernel_rfl
theorem tl88 (cs : List LV) : loadL Tryz.prog 88 cs = if 3 ≤ cs.length then some (.agg (cs.take 3)) else none := rfl
theorem ts88 : sizeL Tryz.prog 88 = 3 := by kernel_rfl
theorem tb88 : bytesL Tryz.prog 88 = 24 := by kernel_rfl
theorem tz88 : zeroOk Tryz.prog 88 = true := by kernel_rfl
theorem to88 : okT Tryz.prog 88 = true := by kernel_rfl
theorem tq88 : eqKinds Tryz.prog 88 = some [(0,0),(1,0),(2,0)] := by kernel_rfl
theorem tn88 : zeroL Tryz.prog 88 = some [.lit (.int .i64 0),.lit (.int .i64 0),.lit (.int .i64 0)] := rfl
theorem tu88 (parts : List (Nat × LV)) : buildL Tryz.prog 88 parts = (fillL (fun j => [(0,1),(1,1),(2,1)][j]?) [.lit (.int .i64 0),.lit (.int .i64 0),.lit (.int .i64 0)] parts).map .agg := rfl
theorem tf89_0 : fieldL Tryz.prog 89 0 = some (0,2) := by kernel_rfl
theorem tf89_1 : fieldL Tryz.prog 89 1 = some (1,9) := by kernel_rfl
theorem tl89 (cs : List LV) : loadL Tryz.prog 89 cs = if 2 ≤ cs.length then some (.agg (cs.take 2)) else none := rfl
theorem ts89 : sizeL Tryz.prog 89 = 2 := by kernel_rfl
theorem tb89 : bytesL Tryz.prog 89 = 24 := by kernel_rfl
theorem tz89 : zeroOk Tryz.prog 89 = true := by kernel_rfl
theorem to89 : okT Tryz.prog 89 = true := by kernel_rfl
theorem tq89 : eqKinds Tryz.prog 89 = some [(0,0),(1,1)] := by kernel_rfl
theorem tn89 : zeroL Tryz.prog 89 = some [.lit (.int .i64 0),.lit (.string ⟨#[]⟩)] := rfl
theorem tu89 (parts : List (Nat × LV)) : buildL Tryz.prog 89 parts = (fillL (fun j => [(0,1),(1,1)][j]?) [.lit (.int .i64 0),.lit (.string ⟨#[]⟩)] parts).map .agg := rfl
theorem tf90_0 : fieldL Tryz.prog 90 0 = some (0,2) := by kernel_rfl
theorem tf90_1 : fieldL Tryz.prog 90 1 = some (1,9) := by kernel_rfl
theorem tl90 (cs : List LV) : loadL Tryz.prog 90 cs = if 2 ≤ cs.length then some (.agg (cs.take 2)) else none := rfl
theorem ts90 : sizeL Tryz.prog 90 = 2 := by kernel_rfl
theorem tb90 : bytesL Tryz.prog 90 = 24 := by kernel_rfl
theorem tz90 : zeroOk Tryz.prog 90 = true := by kernel_rfl
theorem to90 : okT Tryz.prog 90 = true := by kernel_rfl
theorem tq90 : eqKinds Tryz.prog 90 = some [(0,0),(1,1)] := by kernel_rfl
theorem tn90 : zeroL Tryz.prog 90 = some [.lit (.int .i64 0),.lit (.string ⟨#[]⟩)] := rfl
theorem tu90 (parts : List (Nat × LV)) : buildL Tryz.prog 90 parts = (fillL (fun j => [(0,1),(1,1)][j]?) [.lit (.int .i64 0),.lit (.string ⟨#[]⟩)] parts).map .agg := rfl
theorem tl110 (cs : List LV) : loadL Tryz.prog 110 cs = cs.head? := rfl
theorem ts110 : sizeL Tryz.prog 110 = 1 := by kernel_rfl
theorem tb110 : bytesL Tryz.prog 110 = 8 := by kernel_rfl
theorem tz110 : zeroOk Tryz.prog 110 = true := by kernel_rfl
theorem to110 : okT Tryz.prog 110 = true := by kernel_rfl
theorem tn110 : zeroL Tryz.prog 110 = some [.lit (.int .u64 0)] := rfl
theorem tf111_0 : fieldL Tryz.prog 111 0 = some (0,27) := by kernel_rfl
theorem tf111_1 : fieldL Tryz.prog 111 1 = some (1,3) := by kernel_rfl
theorem tf111_2 : fieldL Tryz.prog 111 2 = some (2,4) := by kernel_rfl
theorem tl111 (cs : List LV) : loadL Tryz.prog 111 cs = if 3 ≤ cs.length then some (.agg (cs.take 3)) else none := rfl
theorem ts111 : sizeL Tryz.prog 111 = 3 := by kernel_rfl
theorem tb111 : bytesL Tryz.prog 111 = 40 := by kernel_rfl
theorem tz111 : zeroOk Tryz.prog 111 = true := by kernel_rfl
theorem to111 : okT Tryz.prog 111 = true := by kernel_rfl
theorem tn111 : zeroL Tryz.prog 111 = some [.sl 0 [] .nil,.lit (.int .i64 0),.lit (.bool false)] := rfl
theorem tu111 (parts : List (Nat × LV)) : buildL Tryz.prog 111 parts = (fillL (fun j => [(0,1),(1,1),(2,1)][j]?) [.sl 0 [] .nil,.lit (.int .i64 0),.lit (.bool false)] parts).map .agg := rfl
theorem tf112_0 : fieldL Tryz.prog 112 0 = some (0,27) := by kernel_rfl
theorem tf112_1 : fieldL Tryz.prog 112 1 = some (1,3) := by kernel_rfl
theorem tf112_2 : fieldL Tryz.prog 112 2 = some (2,4) := by kernel_rfl
theorem tl112 (cs : List LV) : loadL Tryz.prog 112 cs = if 3 ≤ cs.length then some (.agg (cs.take 3)) else none := rfl
theorem ts112 : sizeL Tryz.prog 112 = 3 := by kernel_rfl
theorem tb112 : bytesL Tryz.prog 112 = 40 := by kernel_rfl
theorem tz112 : zeroOk Tryz.prog 112 = true := by kernel_rfl
theorem to112 : okT Tryz.prog 112 = true := by kernel_rfl
theorem tn112 : zeroL Tryz.prog 112 = some [.sl 0 [] .nil,.lit (.int .i64 0),.lit (.bool false)] := rfl
theorem tu112 (parts : List (Nat × LV)) : buildL Tryz.prog 112 parts = (fillL (fun j => [(0,1),(1,1),(2,1)][j]?) [.sl 0 [] .nil,.lit (.int .i64 0),.lit (.bool false)] parts).map .agg := rfl
theorem tl119 (cs : List LV) : loadL Tryz.prog 119 cs = cs.head? := rfl
theorem ts119 : sizeL Tryz.prog 119 = 1 := by kernel_rfl
theorem tb119 : bytesL Tryz.prog 119 = 24 := by kernel_rfl
theorem tz119 : zeroOk Tryz.prog 119 = true := by kernel_rfl
theorem to119 : okT Tryz.prog 119 = true := by kernel_rfl
theorem tn119 : zeroL Tryz.prog 119 = some [.sl 0 [] .nil] := rfl
theorem te119 : elemL Tryz.prog 119 = some (2,1) := by kernel_rfl
theorem tf131_1 : fieldL Tryz.prog 131 1 = some (1,27) := by kernel_rfl
theorem tl131 (cs : List LV) : loadL Tryz.prog 131 cs = if 2 ≤ cs.length then some (.agg (cs.take 2)) else none := rfl
theorem ts131 : sizeL Tryz.prog 131 = 2 := by kernel_rfl
theorem tb131 : bytesL Tryz.prog 131 = 32 := by kernel_rfl
theorem tz131 : zeroOk Tryz.prog 131 = true := by kernel_rfl
theorem to131 : okT Tryz.prog 131 = true := by kernel_rfl
theorem tf132_1 : fieldL Tryz.prog 132 1 = some (1,27) := by kernel_rfl
theorem tl132 (cs : List LV) : loadL Tryz.prog 132 cs = if 2 ≤ cs.length then some (.agg (cs.take 2)) else none := rfl
theorem ts132 : sizeL Tryz.prog 132 = 2 := by kernel_rfl
theorem tb132 : bytesL Tryz.prog 132 = 32 := by kernel_rfl
theorem tz132 : zeroOk Tryz.prog 132 = true := by kernel_rfl
theorem to132 : okT Tryz.prog 132 = true := by kernel_rfl
theorem tl144 (cs : List LV) : loadL Tryz.prog 144 cs = cs.head? := rfl
theorem ts144 : sizeL Tryz.prog 144 = 1 := by kernel_rfl
theorem tb144 : bytesL Tryz.prog 144 = 24 := by kernel_rfl
theorem tz144 : zeroOk Tryz.prog 144 = true := by kernel_rfl
theorem to144 : okT Tryz.prog 144 = true := by kernel_rfl
theorem tn144 : zeroL Tryz.prog 144 = some [.sl 0 [] .nil] := rfl
theorem te144 : elemL Tryz.prog 144 = some (157,1) := by kernel_rfl
theorem tl150 (cs : List LV) : loadL Tryz.prog 150 cs = cs.head? := rfl
theorem ts150 : sizeL Tryz.prog 150 = 1 := by kernel_rfl
theorem tb150 : bytesL Tryz.prog 150 = 4 := by kernel_rfl
theorem tz150 : zeroOk Tryz.prog 150 = true := by kernel_rfl
theorem to150 : okT Tryz.prog 150 = true := by kernel_rfl
theorem tn150 : zeroL Tryz.prog 150 = some [.lit (.int .u32 0)] := rfl
theorem tl157 (cs : List LV) : loadL Tryz.prog 157 cs = cs.head? := rfl
theorem ts157 : sizeL Tryz.prog 157 = 1 := by kernel_rfl
theorem tb157 : bytesL Tryz.prog 157 = 16 := by kernel_rfl
theorem tz157 : zeroOk Tryz.prog 157 = true := by kernel_rfl
theorem to157 : okT Tryz.prog 157 = true := by kernel_rfl
theorem tn157 : zeroL Tryz.prog 157 = some [.lit (.complex .f64 0 0)] := rfl
theorem ta161 : arrL Tryz.prog 161 = some (24,1) := by kernel_rfl
theorem tx161 : elemL Tryz.prog 161 = none := by kernel_rfl
theorem ts161 : sizeL Tryz.prog 161 = 24 := by kernel_rfl
theorem to161 : okT Tryz.prog 161 = true := by kernel_rfl
theorem tn161 : zeroL Tryz.prog 161 = some (List.replicate 24 (.lit (.int .u8 0))) := by kernel_rfl
theorem tl171 (cs : List LV) : loadL Tryz.prog 171 cs = cs.head? := rfl
theorem ta175 : arrL Tryz.prog 175 = some (20,1) := by kernel_rfl
theorem tx175 : elemL Tryz.prog 175 = none := by kernel_rfl
theorem ts175 : sizeL Tryz.prog 175 = 20 := by kernel_rfl
theorem to175 : okT Tryz.prog 175 = true := by kernel_rfl
theorem tn175 : zeroL Tryz.prog 175 = some (List.replicate 20 (.lit (.int .u64 0))) := by kernel_rfl
theorem ta176 : arrL Tryz.prog 176 = some (65,1) := by kernel_rfl
theorem tx176 : elemL Tryz.prog 176 = none := by kernel_rfl
theorem ts176 : sizeL Tryz.prog 176 = 65 := by kernel_rfl
theorem to176 : okT Tryz.prog 176 = true := by kernel_rfl
theorem tn176 : zeroL Tryz.prog 176 = some (List.replicate 65 (.lit (.int .u8 0))) := by kernel_rfl
theorem ta179 : arrL Tryz.prog 179 = some (32,1) := by kernel_rfl
theorem tx179 : elemL Tryz.prog 179 = none := by kernel_rfl
theorem ts179 : sizeL Tryz.prog 179 = 32 := by kernel_rfl
theorem to179 : okT Tryz.prog 179 = true := by kernel_rfl
theorem tn179 : zeroL Tryz.prog 179 = some (List.replicate 32 (.lit (.int .u8 0))) := by kernel_rfl
theorem ta180 : arrL Tryz.prog 180 = some (64,1) := by kernel_rfl
theorem tx180 : elemL Tryz.prog 180 = none := by kernel_rfl
theorem ts180 : sizeL Tryz.prog 180 = 64 := by kernel_rfl
theorem to180 : okT Tryz.prog 180 = true := by kernel_rfl
theorem tn180 : zeroL Tryz.prog 180 = some (List.replicate 64 (.lit (.int .u8 0))) := by kernel_rfl
theorem tf191_0 : fieldL Tryz.prog 191 0 = some (0,12) := by kernel_rfl
theorem tf191_1 : fieldL Tryz.prog 191 1 = some (1,12) := by kernel_rfl
theorem tf191_2 : fieldL Tryz.prog 191 2 = some (2,150) := by kernel_rfl
theorem tf191_3 : fieldL Tryz.prog 191 3 = some (3,186) := by kernel_rfl
theorem tf191_4 : fieldL Tryz.prog 191 4 = some (4,5) := by kernel_rfl
theorem tf191_5 : fieldL Tryz.prog 191 5 = some (5,5) := by kernel_rfl
theorem tf191_6 : fieldL Tryz.prog 191 6 = some (6,187) := by kernel_rfl
theorem tf191_9 : fieldL Tryz.prog 191 9 = some (9,189) := by kernel_rfl
theorem tf191_10 : fieldL Tryz.prog 191 10 = some (10,190) := by kernel_rfl
theorem tl191 (cs : List LV) : loadL Tryz.prog 191 cs = if 11 ≤ cs.length then some (.agg (cs.take 11)) else none := rfl
theorem ts191 : sizeL Tryz.prog 191 = 11 := by kernel_rfl
theorem tb191 : bytesL Tryz.prog 191 = 48 := by kernel_rfl
theorem tz191 : zeroOk Tryz.prog 191 = true := by kernel_rfl
theorem to191 : okT Tryz.prog 191 = true := by kernel_rfl
theorem tadd64 : extAdd Tryz.prog = some 47 := by kernel_rfl
end Go.Proofs.YtnmjghcdccfphaaGreatDoor
