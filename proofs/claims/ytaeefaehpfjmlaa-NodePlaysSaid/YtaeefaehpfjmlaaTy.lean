import Derived.Test.YtaeefaehpfjmlaaProg
import Derived.Test.YtaeefaehpfjmlaaL11
set_option maxRecDepth 100000
set_option linter.unusedSimpArgs false
set_option linter.unusedVariables false
namespace Go.Proofs.Ytaeefaehpfjmlaa
theorem tl2 (cs : List LV) : loadL Try.prog 2 cs = cs.head? := rfl
theorem ts2 : sizeL Try.prog 2 = 1 := by kernel_rfl
theorem tb2 : bytesL Try.prog 2 = 8 := by kernel_rfl
theorem tz2 : zeroOk Try.prog 2 = true := by kernel_rfl
theorem to2 : okT Try.prog 2 = true := by kernel_rfl
theorem tn2 : zeroL Try.prog 2 = some [.lit (.int .i64 0)] := rfl
theorem tl3 (cs : List LV) : loadL Try.prog 3 cs = cs.head? := rfl
theorem ts3 : sizeL Try.prog 3 = 1 := by kernel_rfl
theorem tb3 : bytesL Try.prog 3 = 8 := by kernel_rfl
theorem tz3 : zeroOk Try.prog 3 = true := by kernel_rfl
theorem to3 : okT Try.prog 3 = true := by kernel_rfl
theorem tn3 : zeroL Try.prog 3 = some [.lit (.int .i64 0)] := rfl
theorem tl4 (cs : List LV) : loadL Try.prog 4 cs = cs.head? := rfl
theorem ts4 : sizeL Try.prog 4 = 1 := by kernel_rfl
theorem tb4 : bytesL Try.prog 4 = 1 := by kernel_rfl
theorem tz4 : zeroOk Try.prog 4 = true := by kernel_rfl
theorem to4 : okT Try.prog 4 = true := by kernel_rfl
theorem tn4 : zeroL Try.prog 4 = some [.lit (.bool false)] := rfl
theorem tl5 (cs : List LV) : loadL Try.prog 5 cs = cs.head? := rfl
theorem ts5 : sizeL Try.prog 5 = 1 := by kernel_rfl
theorem tb5 : bytesL Try.prog 5 = 1 := by kernel_rfl
theorem tz5 : zeroOk Try.prog 5 = true := by kernel_rfl
theorem to5 : okT Try.prog 5 = true := by kernel_rfl
theorem tn5 : zeroL Try.prog 5 = some [.lit (.int .u8 0)] := rfl
theorem tl9 (cs : List LV) : loadL Try.prog 9 cs = cs.head? := rfl
theorem ts9 : sizeL Try.prog 9 = 1 := by kernel_rfl
theorem tb9 : bytesL Try.prog 9 = 16 := by kernel_rfl
theorem tz9 : zeroOk Try.prog 9 = true := by kernel_rfl
theorem to9 : okT Try.prog 9 = true := by kernel_rfl
theorem tn9 : zeroL Try.prog 9 = some [.lit (.string ⟨#[]⟩)] := rfl
theorem tl12 (cs : List LV) : loadL Try.prog 12 cs = cs.head? := rfl
theorem ts12 : sizeL Try.prog 12 = 1 := by kernel_rfl
theorem tb12 : bytesL Try.prog 12 = 8 := by kernel_rfl
theorem tz12 : zeroOk Try.prog 12 = true := by kernel_rfl
theorem to12 : okT Try.prog 12 = true := by kernel_rfl
theorem tn12 : zeroL Try.prog 12 = some [.lit (.int .u64 0)] := rfl
theorem tl21 (cs : List LV) : loadL Try.prog 21 cs = cs.head? := rfl
theorem ts21 : sizeL Try.prog 21 = 1 := by kernel_rfl
theorem tb21 : bytesL Try.prog 21 = 4 := by kernel_rfl
theorem tz21 : zeroOk Try.prog 21 = true := by kernel_rfl
theorem to21 : okT Try.prog 21 = true := by kernel_rfl
theorem tn21 : zeroL Try.prog 21 = some [.lit (.int .i32 0)] := rfl
theorem tl22 (cs : List LV) : loadL Try.prog 22 cs = cs.head? := rfl
theorem ts22 : sizeL Try.prog 22 = 1 := by kernel_rfl
theorem tb22 : bytesL Try.prog 22 = 24 := by kernel_rfl
theorem tz22 : zeroOk Try.prog 22 = true := by kernel_rfl
theorem to22 : okT Try.prog 22 = true := by kernel_rfl
theorem tn22 : zeroL Try.prog 22 = some [.sl 0 [] .nil] := rfl
theorem te22 : elemL Try.prog 22 = some (71, 2) := by kernel_rfl
theorem tl23 (cs : List LV) : loadL Try.prog 23 cs = cs.head? := rfl
theorem ts23 : sizeL Try.prog 23 = 1 := by kernel_rfl
theorem tb23 : bytesL Try.prog 23 = 24 := by kernel_rfl
theorem tz23 : zeroOk Try.prog 23 = true := by kernel_rfl
theorem to23 : okT Try.prog 23 = true := by kernel_rfl
theorem tn23 : zeroL Try.prog 23 = some [.sl 0 [] .nil] := rfl
theorem te23 : elemL Try.prog 23 = some (88, 3) := by kernel_rfl
theorem tf24_0 : fieldL Try.prog 24 0 = some (0, 3) := by kernel_rfl
theorem tf24_1 : fieldL Try.prog 24 1 = some (1, 3) := by kernel_rfl
theorem tf24_2 : fieldL Try.prog 24 2 = some (2, 3) := by kernel_rfl
theorem tf24_3 : fieldL Try.prog 24 3 = some (3, 2) := by kernel_rfl
theorem tf24_4 : fieldL Try.prog 24 4 = some (4, 22) := by kernel_rfl
theorem tf24_5 : fieldL Try.prog 24 5 = some (5, 23) := by kernel_rfl
theorem tl24 (cs : List LV) : loadL Try.prog 24 cs = if 6 ≤ cs.length then some (.agg (cs.take 6)) else none := rfl
theorem ts24 : sizeL Try.prog 24 = 6 := by kernel_rfl
theorem tb24 : bytesL Try.prog 24 = 80 := by kernel_rfl
theorem tz24 : zeroOk Try.prog 24 = true := by kernel_rfl
theorem to24 : okT Try.prog 24 = true := by kernel_rfl
theorem tn24 : zeroL Try.prog 24 = some [.lit (.int .i64 0), .lit (.int .i64 0), .lit (.int .i64 0), .lit (.int .i64 0), .sl 0 [] .nil, .sl 0 [] .nil] := rfl
theorem tu24 (parts : List (Nat × LV)) : buildL Try.prog 24 parts = (fillL (fun j => [(0, 1), (1, 1), (2, 1), (3, 1), (4, 1), (5, 1)][j]?) [.lit (.int .i64 0), .lit (.int .i64 0), .lit (.int .i64 0), .lit (.int .i64 0), .sl 0 [] .nil, .sl 0 [] .nil] parts).map .agg := rfl
theorem tf25_0 : fieldL Try.prog 25 0 = some (0, 3) := by kernel_rfl
theorem tf25_1 : fieldL Try.prog 25 1 = some (1, 3) := by kernel_rfl
theorem tf25_2 : fieldL Try.prog 25 2 = some (2, 3) := by kernel_rfl
theorem tf25_3 : fieldL Try.prog 25 3 = some (3, 2) := by kernel_rfl
theorem tf25_4 : fieldL Try.prog 25 4 = some (4, 22) := by kernel_rfl
theorem tf25_5 : fieldL Try.prog 25 5 = some (5, 23) := by kernel_rfl
theorem tl25 (cs : List LV) : loadL Try.prog 25 cs = if 6 ≤ cs.length then some (.agg (cs.take 6)) else none := rfl
theorem ts25 : sizeL Try.prog 25 = 6 := by kernel_rfl
theorem tb25 : bytesL Try.prog 25 = 80 := by kernel_rfl
theorem tz25 : zeroOk Try.prog 25 = true := by kernel_rfl
theorem to25 : okT Try.prog 25 = true := by kernel_rfl
theorem tn25 : zeroL Try.prog 25 = some [.lit (.int .i64 0), .lit (.int .i64 0), .lit (.int .i64 0), .lit (.int .i64 0), .sl 0 [] .nil, .sl 0 [] .nil] := rfl
theorem tu25 (parts : List (Nat × LV)) : buildL Try.prog 25 parts = (fillL (fun j => [(0, 1), (1, 1), (2, 1), (3, 1), (4, 1), (5, 1)][j]?) [.lit (.int .i64 0), .lit (.int .i64 0), .lit (.int .i64 0), .lit (.int .i64 0), .sl 0 [] .nil, .sl 0 [] .nil] parts).map .agg := rfl
theorem tl26 (cs : List LV) : loadL Try.prog 26 cs = cs.head? := rfl
theorem ts26 : sizeL Try.prog 26 = 1 := by kernel_rfl
theorem tb26 : bytesL Try.prog 26 = 24 := by kernel_rfl
theorem tz26 : zeroOk Try.prog 26 = true := by kernel_rfl
theorem to26 : okT Try.prog 26 = true := by kernel_rfl
theorem tn26 : zeroL Try.prog 26 = some [.sl 0 [] .nil] := rfl
theorem te26 : elemL Try.prog 26 = some (55, 2) := by kernel_rfl
theorem tf27_0 : fieldL Try.prog 27 0 = some (0, 3) := by kernel_rfl
theorem tf27_1 : fieldL Try.prog 27 1 = some (1, 25) := by kernel_rfl
theorem tf27_2 : fieldL Try.prog 27 2 = some (7, 2) := by kernel_rfl
theorem tf27_3 : fieldL Try.prog 27 3 = some (8, 26) := by kernel_rfl
theorem tf27_4 : fieldL Try.prog 27 4 = some (9, 9) := by kernel_rfl
theorem tf27_5 : fieldL Try.prog 27 5 = some (10, 3) := by kernel_rfl
theorem tf27_6 : fieldL Try.prog 27 6 = some (11, 3) := by kernel_rfl
theorem tl27 (cs : List LV) : loadL Try.prog 27 cs = if 12 ≤ cs.length then some (.agg (cs.take 12)) else none := rfl
theorem ts27 : sizeL Try.prog 27 = 12 := by kernel_rfl
theorem tb27 : bytesL Try.prog 27 = 152 := by kernel_rfl
theorem tz27 : zeroOk Try.prog 27 = true := by kernel_rfl
theorem to27 : okT Try.prog 27 = true := by kernel_rfl
theorem tn27 : zeroL Try.prog 27 = some [.lit (.int .i64 0), .lit (.int .i64 0), .lit (.int .i64 0), .lit (.int .i64 0), .lit (.int .i64 0), .sl 0 [] .nil, .sl 0 [] .nil, .lit (.int .i64 0), .sl 0 [] .nil, .lit (.string ⟨#[]⟩), .lit (.int .i64 0), .lit (.int .i64 0)] := rfl
theorem tu27 (parts : List (Nat × LV)) : buildL Try.prog 27 parts = (fillL (fun j => [(0, 1), (1, 6), (7, 1), (8, 1), (9, 1), (10, 1), (11, 1)][j]?) [.lit (.int .i64 0), .lit (.int .i64 0), .lit (.int .i64 0), .lit (.int .i64 0), .lit (.int .i64 0), .sl 0 [] .nil, .sl 0 [] .nil, .lit (.int .i64 0), .sl 0 [] .nil, .lit (.string ⟨#[]⟩), .lit (.int .i64 0), .lit (.int .i64 0)] parts).map .agg := rfl
theorem tf28_0 : fieldL Try.prog 28 0 = some (0, 3) := by kernel_rfl
theorem tf28_1 : fieldL Try.prog 28 1 = some (1, 25) := by kernel_rfl
theorem tf28_2 : fieldL Try.prog 28 2 = some (7, 2) := by kernel_rfl
theorem tf28_3 : fieldL Try.prog 28 3 = some (8, 26) := by kernel_rfl
theorem tf28_4 : fieldL Try.prog 28 4 = some (9, 9) := by kernel_rfl
theorem tf28_5 : fieldL Try.prog 28 5 = some (10, 3) := by kernel_rfl
theorem tf28_6 : fieldL Try.prog 28 6 = some (11, 3) := by kernel_rfl
theorem tl28 (cs : List LV) : loadL Try.prog 28 cs = if 12 ≤ cs.length then some (.agg (cs.take 12)) else none := rfl
theorem ts28 : sizeL Try.prog 28 = 12 := by kernel_rfl
theorem tb28 : bytesL Try.prog 28 = 152 := by kernel_rfl
theorem tz28 : zeroOk Try.prog 28 = true := by kernel_rfl
theorem to28 : okT Try.prog 28 = true := by kernel_rfl
theorem tn28 : zeroL Try.prog 28 = some [.lit (.int .i64 0), .lit (.int .i64 0), .lit (.int .i64 0), .lit (.int .i64 0), .lit (.int .i64 0), .sl 0 [] .nil, .sl 0 [] .nil, .lit (.int .i64 0), .sl 0 [] .nil, .lit (.string ⟨#[]⟩), .lit (.int .i64 0), .lit (.int .i64 0)] := rfl
theorem tu28 (parts : List (Nat × LV)) : buildL Try.prog 28 parts = (fillL (fun j => [(0, 1), (1, 6), (7, 1), (8, 1), (9, 1), (10, 1), (11, 1)][j]?) [.lit (.int .i64 0), .lit (.int .i64 0), .lit (.int .i64 0), .lit (.int .i64 0), .lit (.int .i64 0), .sl 0 [] .nil, .sl 0 [] .nil, .lit (.int .i64 0), .sl 0 [] .nil, .lit (.string ⟨#[]⟩), .lit (.int .i64 0), .lit (.int .i64 0)] parts).map .agg := rfl
theorem tl40 (cs : List LV) : loadL Try.prog 40 cs = cs.head? := rfl
theorem ts40 : sizeL Try.prog 40 = 1 := by kernel_rfl
theorem tb40 : bytesL Try.prog 40 = 24 := by kernel_rfl
theorem tz40 : zeroOk Try.prog 40 = true := by kernel_rfl
theorem to40 : okT Try.prog 40 = true := by kernel_rfl
theorem tn40 : zeroL Try.prog 40 = some [.sl 0 [] .nil] := rfl
theorem te40 : elemL Try.prog 40 = some (61, 1) := by kernel_rfl
theorem tl43 (cs : List LV) : loadL Try.prog 43 cs = cs.head? := rfl
theorem ts43 : sizeL Try.prog 43 = 1 := by kernel_rfl
theorem tb43 : bytesL Try.prog 43 = 24 := by kernel_rfl
theorem tz43 : zeroOk Try.prog 43 = true := by kernel_rfl
theorem to43 : okT Try.prog 43 = true := by kernel_rfl
theorem tn43 : zeroL Try.prog 43 = some [.sl 0 [] .nil] := rfl
theorem te43 : elemL Try.prog 43 = some (48, 3) := by kernel_rfl
theorem ta44 : arrL Try.prog 44 = some (600, 1) := by kernel_rfl
theorem tx44 : elemL Try.prog 44 = none := by kernel_rfl
theorem ts44 : sizeL Try.prog 44 = 600 := by kernel_rfl
theorem to44 : okT Try.prog 44 = true := by kernel_rfl
theorem tn44 : zeroL Try.prog 44 = some (List.replicate 600 (.lit (.int .u8 0))) := by kernel_rfl
theorem ta45 : arrL Try.prog 45 = some (600, 1) := by kernel_rfl
theorem tx45 : elemL Try.prog 45 = none := by kernel_rfl
theorem ts45 : sizeL Try.prog 45 = 600 := by kernel_rfl
theorem to45 : okT Try.prog 45 = true := by kernel_rfl
theorem tn45 : zeroL Try.prog 45 = some (List.replicate 600 (.lit (.bool false))) := by kernel_rfl
theorem tl46 (cs : List LV) : loadL Try.prog 46 cs = cs.head? := rfl
theorem ts46 : sizeL Try.prog 46 = 1 := by kernel_rfl
theorem tb46 : bytesL Try.prog 46 = 8 := by kernel_rfl
theorem tz46 : zeroOk Try.prog 46 = true := by kernel_rfl
theorem to46 : okT Try.prog 46 = true := by kernel_rfl
theorem tn46 : zeroL Try.prog 46 = some [.lit (.int .u64 0)] := rfl
theorem tf47_0 : fieldL Try.prog 47 0 = some (0, 3) := by kernel_rfl
theorem tf47_1 : fieldL Try.prog 47 1 = some (1, 2) := by kernel_rfl
theorem tf47_2 : fieldL Try.prog 47 2 = some (2, 9) := by kernel_rfl
theorem tl47 (cs : List LV) : loadL Try.prog 47 cs = if 3 ≤ cs.length then some (.agg (cs.take 3)) else none := rfl
theorem ts47 : sizeL Try.prog 47 = 3 := by kernel_rfl
theorem tb47 : bytesL Try.prog 47 = 32 := by kernel_rfl
theorem tz47 : zeroOk Try.prog 47 = true := by kernel_rfl
theorem to47 : okT Try.prog 47 = true := by kernel_rfl
theorem tq47 : eqKinds Try.prog 47 = some [(0, 0), (1, 0), (2, 1)] := by kernel_rfl
theorem tn47 : zeroL Try.prog 47 = some [.lit (.int .i64 0), .lit (.int .i64 0), .lit (.string ⟨#[]⟩)] := rfl
theorem tu47 (parts : List (Nat × LV)) : buildL Try.prog 47 parts = (fillL (fun j => [(0, 1), (1, 1), (2, 1)][j]?) [.lit (.int .i64 0), .lit (.int .i64 0), .lit (.string ⟨#[]⟩)] parts).map .agg := rfl
theorem tf48_0 : fieldL Try.prog 48 0 = some (0, 3) := by kernel_rfl
theorem tf48_1 : fieldL Try.prog 48 1 = some (1, 2) := by kernel_rfl
theorem tf48_2 : fieldL Try.prog 48 2 = some (2, 9) := by kernel_rfl
theorem tl48 (cs : List LV) : loadL Try.prog 48 cs = if 3 ≤ cs.length then some (.agg (cs.take 3)) else none := rfl
theorem ts48 : sizeL Try.prog 48 = 3 := by kernel_rfl
theorem tb48 : bytesL Try.prog 48 = 32 := by kernel_rfl
theorem tz48 : zeroOk Try.prog 48 = true := by kernel_rfl
theorem to48 : okT Try.prog 48 = true := by kernel_rfl
theorem tq48 : eqKinds Try.prog 48 = some [(0, 0), (1, 0), (2, 1)] := by kernel_rfl
theorem tn48 : zeroL Try.prog 48 = some [.lit (.int .i64 0), .lit (.int .i64 0), .lit (.string ⟨#[]⟩)] := rfl
theorem tu48 (parts : List (Nat × LV)) : buildL Try.prog 48 parts = (fillL (fun j => [(0, 1), (1, 1), (2, 1)][j]?) [.lit (.int .i64 0), .lit (.int .i64 0), .lit (.string ⟨#[]⟩)] parts).map .agg := rfl
theorem tl49 (cs : List LV) : loadL Try.prog 49 cs = cs.head? := rfl
theorem ts49 : sizeL Try.prog 49 = 1 := by kernel_rfl
theorem tb49 : bytesL Try.prog 49 = 24 := by kernel_rfl
theorem tz49 : zeroOk Try.prog 49 = true := by kernel_rfl
theorem to49 : okT Try.prog 49 = true := by kernel_rfl
theorem tn49 : zeroL Try.prog 49 = some [.sl 0 [] .nil] := rfl
theorem te49 : elemL Try.prog 49 = some (5, 1) := by kernel_rfl
theorem tl52 (cs : List LV) : loadL Try.prog 52 cs = cs.head? := rfl
theorem ts52 : sizeL Try.prog 52 = 1 := by kernel_rfl
theorem tb52 : bytesL Try.prog 52 = 8 := by kernel_rfl
theorem tz52 : zeroOk Try.prog 52 = true := by kernel_rfl
theorem to52 : okT Try.prog 52 = true := by kernel_rfl
theorem tn52 : zeroL Try.prog 52 = some [.lit (.int .u64 0)] := rfl
theorem tf54_0 : fieldL Try.prog 54 0 = some (0, 2) := by kernel_rfl
theorem tf54_1 : fieldL Try.prog 54 1 = some (1, 9) := by kernel_rfl
theorem tl54 (cs : List LV) : loadL Try.prog 54 cs = if 2 ≤ cs.length then some (.agg (cs.take 2)) else none := rfl
theorem ts54 : sizeL Try.prog 54 = 2 := by kernel_rfl
theorem tb54 : bytesL Try.prog 54 = 24 := by kernel_rfl
theorem tz54 : zeroOk Try.prog 54 = true := by kernel_rfl
theorem to54 : okT Try.prog 54 = true := by kernel_rfl
theorem tq54 : eqKinds Try.prog 54 = some [(0, 0), (1, 1)] := by kernel_rfl
theorem tn54 : zeroL Try.prog 54 = some [.lit (.int .i64 0), .lit (.string ⟨#[]⟩)] := rfl
theorem tu54 (parts : List (Nat × LV)) : buildL Try.prog 54 parts = (fillL (fun j => [(0, 1), (1, 1)][j]?) [.lit (.int .i64 0), .lit (.string ⟨#[]⟩)] parts).map .agg := rfl
theorem tf55_0 : fieldL Try.prog 55 0 = some (0, 2) := by kernel_rfl
theorem tf55_1 : fieldL Try.prog 55 1 = some (1, 9) := by kernel_rfl
theorem tl55 (cs : List LV) : loadL Try.prog 55 cs = if 2 ≤ cs.length then some (.agg (cs.take 2)) else none := rfl
theorem ts55 : sizeL Try.prog 55 = 2 := by kernel_rfl
theorem tb55 : bytesL Try.prog 55 = 24 := by kernel_rfl
theorem tz55 : zeroOk Try.prog 55 = true := by kernel_rfl
theorem to55 : okT Try.prog 55 = true := by kernel_rfl
theorem tq55 : eqKinds Try.prog 55 = some [(0, 0), (1, 1)] := by kernel_rfl
theorem tn55 : zeroL Try.prog 55 = some [.lit (.int .i64 0), .lit (.string ⟨#[]⟩)] := rfl
theorem tu55 (parts : List (Nat × LV)) : buildL Try.prog 55 parts = (fillL (fun j => [(0, 1), (1, 1)][j]?) [.lit (.int .i64 0), .lit (.string ⟨#[]⟩)] parts).map .agg := rfl
theorem tl61 (cs : List LV) : loadL Try.prog 61 cs = cs.head? := rfl
theorem ts61 : sizeL Try.prog 61 = 1 := by kernel_rfl
theorem tb61 : bytesL Try.prog 61 = 16 := by kernel_rfl
theorem tz61 : zeroOk Try.prog 61 = true := by kernel_rfl
theorem to61 : okT Try.prog 61 = true := by kernel_rfl
theorem tn61 : zeroL Try.prog 61 = some [.lit (.complex .f64 0 0)] := rfl
theorem tl69 (cs : List LV) : loadL Try.prog 69 cs = cs.head? := rfl
theorem tf70_0 : fieldL Try.prog 70 0 = some (0, 9) := by kernel_rfl
theorem tf70_1 : fieldL Try.prog 70 1 = some (1, 9) := by kernel_rfl
theorem tl70 (cs : List LV) : loadL Try.prog 70 cs = if 2 ≤ cs.length then some (.agg (cs.take 2)) else none := rfl
theorem ts70 : sizeL Try.prog 70 = 2 := by kernel_rfl
theorem tb70 : bytesL Try.prog 70 = 32 := by kernel_rfl
theorem tz70 : zeroOk Try.prog 70 = true := by kernel_rfl
theorem to70 : okT Try.prog 70 = true := by kernel_rfl
theorem tq70 : eqKinds Try.prog 70 = some [(0, 1), (1, 1)] := by kernel_rfl
theorem tn70 : zeroL Try.prog 70 = some [.lit (.string ⟨#[]⟩), .lit (.string ⟨#[]⟩)] := rfl
theorem tu70 (parts : List (Nat × LV)) : buildL Try.prog 70 parts = (fillL (fun j => [(0, 1), (1, 1)][j]?) [.lit (.string ⟨#[]⟩), .lit (.string ⟨#[]⟩)] parts).map .agg := rfl
theorem tf71_0 : fieldL Try.prog 71 0 = some (0, 9) := by kernel_rfl
theorem tf71_1 : fieldL Try.prog 71 1 = some (1, 9) := by kernel_rfl
theorem tl71 (cs : List LV) : loadL Try.prog 71 cs = if 2 ≤ cs.length then some (.agg (cs.take 2)) else none := rfl
theorem ts71 : sizeL Try.prog 71 = 2 := by kernel_rfl
theorem tb71 : bytesL Try.prog 71 = 32 := by kernel_rfl
theorem tz71 : zeroOk Try.prog 71 = true := by kernel_rfl
theorem to71 : okT Try.prog 71 = true := by kernel_rfl
theorem tq71 : eqKinds Try.prog 71 = some [(0, 1), (1, 1)] := by kernel_rfl
theorem tn71 : zeroL Try.prog 71 = some [.lit (.string ⟨#[]⟩), .lit (.string ⟨#[]⟩)] := rfl
theorem tu71 (parts : List (Nat × LV)) : buildL Try.prog 71 parts = (fillL (fun j => [(0, 1), (1, 1)][j]?) [.lit (.string ⟨#[]⟩), .lit (.string ⟨#[]⟩)] parts).map .agg := rfl
theorem tf87_0 : fieldL Try.prog 87 0 = some (0, 3) := by kernel_rfl
theorem tf87_1 : fieldL Try.prog 87 1 = some (1, 3) := by kernel_rfl
theorem tf87_2 : fieldL Try.prog 87 2 = some (2, 3) := by kernel_rfl
theorem tl87 (cs : List LV) : loadL Try.prog 87 cs = if 3 ≤ cs.length then some (.agg (cs.take 3)) else none := rfl
theorem ts87 : sizeL Try.prog 87 = 3 := by kernel_rfl
theorem tb87 : bytesL Try.prog 87 = 24 := by kernel_rfl
theorem tz87 : zeroOk Try.prog 87 = true := by kernel_rfl
theorem to87 : okT Try.prog 87 = true := by kernel_rfl
theorem tq87 : eqKinds Try.prog 87 = some [(0, 0), (1, 0), (2, 0)] := by kernel_rfl
theorem tn87 : zeroL Try.prog 87 = some [.lit (.int .i64 0), .lit (.int .i64 0), .lit (.int .i64 0)] := rfl
theorem tu87 (parts : List (Nat × LV)) : buildL Try.prog 87 parts = (fillL (fun j => [(0, 1), (1, 1), (2, 1)][j]?) [.lit (.int .i64 0), .lit (.int .i64 0), .lit (.int .i64 0)] parts).map .agg := rfl
theorem tf88_0 : fieldL Try.prog 88 0 = some (0, 3) := by kernel_rfl
theorem tf88_1 : fieldL Try.prog 88 1 = some (1, 3) := by kernel_rfl
theorem tf88_2 : fieldL Try.prog 88 2 = some (2, 3) := by kernel_rfl
theorem tl88 (cs : List LV) : loadL Try.prog 88 cs = if 3 ≤ cs.length then some (.agg (cs.take 3)) else none := rfl
theorem ts88 : sizeL Try.prog 88 = 3 := by kernel_rfl
theorem tb88 : bytesL Try.prog 88 = 24 := by kernel_rfl
theorem tz88 : zeroOk Try.prog 88 = true := by kernel_rfl
theorem to88 : okT Try.prog 88 = true := by kernel_rfl
theorem tq88 : eqKinds Try.prog 88 = some [(0, 0), (1, 0), (2, 0)] := by kernel_rfl
theorem tn88 : zeroL Try.prog 88 = some [.lit (.int .i64 0), .lit (.int .i64 0), .lit (.int .i64 0)] := rfl
theorem tu88 (parts : List (Nat × LV)) : buildL Try.prog 88 parts = (fillL (fun j => [(0, 1), (1, 1), (2, 1)][j]?) [.lit (.int .i64 0), .lit (.int .i64 0), .lit (.int .i64 0)] parts).map .agg := rfl
theorem tl94 (cs : List LV) : loadL Try.prog 94 cs = cs.head? := rfl
theorem ts94 : sizeL Try.prog 94 = 1 := by kernel_rfl
theorem tb94 : bytesL Try.prog 94 = 8 := by kernel_rfl
theorem tz94 : zeroOk Try.prog 94 = true := by kernel_rfl
theorem to94 : okT Try.prog 94 = true := by kernel_rfl
theorem tn94 : zeroL Try.prog 94 = some [.lit (.int .i64 0)] := rfl
theorem tl101 (cs : List LV) : loadL Try.prog 101 cs = cs.head? := rfl
theorem ts101 : sizeL Try.prog 101 = 1 := by kernel_rfl
theorem tb101 : bytesL Try.prog 101 = 4 := by kernel_rfl
theorem tz101 : zeroOk Try.prog 101 = true := by kernel_rfl
theorem to101 : okT Try.prog 101 = true := by kernel_rfl
theorem tn101 : zeroL Try.prog 101 = some [.lit (.int .u32 0)] := rfl
theorem tl105 (cs : List LV) : loadL Try.prog 105 cs = cs.head? := rfl
theorem ts105 : sizeL Try.prog 105 = 1 := by kernel_rfl
theorem tb105 : bytesL Try.prog 105 = 8 := by kernel_rfl
theorem tz105 : zeroOk Try.prog 105 = true := by kernel_rfl
theorem to105 : okT Try.prog 105 = true := by kernel_rfl
theorem tn105 : zeroL Try.prog 105 = some [.lit (.int .u64 0)] := rfl
theorem tl111 (cs : List LV) : loadL Try.prog 111 cs = cs.head? := rfl
theorem ts111 : sizeL Try.prog 111 = 1 := by kernel_rfl
theorem tb111 : bytesL Try.prog 111 = 24 := by kernel_rfl
theorem tz111 : zeroOk Try.prog 111 = true := by kernel_rfl
theorem to111 : okT Try.prog 111 = true := by kernel_rfl
theorem tn111 : zeroL Try.prog 111 = some [.sl 0 [] .nil] := rfl
theorem te111 : elemL Try.prog 111 = some (3, 1) := by kernel_rfl
theorem tf128_0 : fieldL Try.prog 128 0 = some (0, 12) := by kernel_rfl
theorem tf128_1 : fieldL Try.prog 128 1 = some (1, 12) := by kernel_rfl
theorem tf128_2 : fieldL Try.prog 128 2 = some (2, 101) := by kernel_rfl
theorem tf128_3 : fieldL Try.prog 128 3 = some (3, 122) := by kernel_rfl
theorem tf128_4 : fieldL Try.prog 128 4 = some (4, 5) := by kernel_rfl
theorem tf128_5 : fieldL Try.prog 128 5 = some (5, 5) := by kernel_rfl
theorem tf128_6 : fieldL Try.prog 128 6 = some (6, 123) := by kernel_rfl
theorem tf128_9 : fieldL Try.prog 128 9 = some (9, 126) := by kernel_rfl
theorem tf128_10 : fieldL Try.prog 128 10 = some (10, 127) := by kernel_rfl
theorem tl128 (cs : List LV) : loadL Try.prog 128 cs = if 11 ≤ cs.length then some (.agg (cs.take 11)) else none := rfl
theorem ts128 : sizeL Try.prog 128 = 11 := by kernel_rfl
theorem tb128 : bytesL Try.prog 128 = 48 := by kernel_rfl
theorem tz128 : zeroOk Try.prog 128 = true := by kernel_rfl
theorem to128 : okT Try.prog 128 = true := by kernel_rfl
end Go.Proofs.Ytaeefaehpfjmlaa
