import Derived.Test.YtpficpldemickaaProg
import Derived.Test.YtpficpldemickaaL11
set_option maxRecDepth 100000
set_option linter.unusedSimpArgs false
set_option linter.unusedVariables false
namespace Go.Proofs.Ytpficpldemickaa
theorem tl2 (cs : List LV) : loadL Try.prog 2 cs = cs.head? := rfl
theorem ts2 : sizeL Try.prog 2 = 1 := by kernel_rfl
theorem tb2 : bytesL Try.prog 2 = 8 := by kernel_rfl
theorem tz2 : zeroOk Try.prog 2 = true := by kernel_rfl
theorem to2 : okT Try.prog 2 = true := by kernel_rfl
theorem tn2 : zeroL Try.prog 2 = some [.lit (.int .i64 0)] := rfl
theorem tl3 (cs : List LV) : loadL Try.prog 3 cs = cs.head? := rfl
theorem ts3 : sizeL Try.prog 3 = 1 := by kernel_rfl
theorem tb3 : bytesL Try.prog 3 = 8 := by kernel_rfl
theorem tz3 : zeroOk Try.prog 3 = true := by kernel_rfl
theorem to3 : okT Try.prog 3 = true := by kernel_rfl
theorem tn3 : zeroL Try.prog 3 = some [.lit (.int .i64 0)] := rfl
theorem tl4 (cs : List LV) : loadL Try.prog 4 cs = cs.head? := rfl
theorem ts4 : sizeL Try.prog 4 = 1 := by kernel_rfl
theorem tb4 : bytesL Try.prog 4 = 1 := by kernel_rfl
theorem tz4 : zeroOk Try.prog 4 = true := by kernel_rfl
theorem to4 : okT Try.prog 4 = true := by kernel_rfl
theorem tn4 : zeroL Try.prog 4 = some [.lit (.bool false)] := rfl
theorem tl5 (cs : List LV) : loadL Try.prog 5 cs = cs.head? := rfl
theorem ts5 : sizeL Try.prog 5 = 1 := by kernel_rfl
theorem tb5 : bytesL Try.prog 5 = 1 := by kernel_rfl
theorem tz5 : zeroOk Try.prog 5 = true := by kernel_rfl
theorem to5 : okT Try.prog 5 = true := by kernel_rfl
theorem tn5 : zeroL Try.prog 5 = some [.lit (.int .u8 0)] := rfl
theorem tl9 (cs : List LV) : loadL Try.prog 9 cs = cs.head? := rfl
theorem ts9 : sizeL Try.prog 9 = 1 := by kernel_rfl
theorem tb9 : bytesL Try.prog 9 = 16 := by kernel_rfl
theorem tz9 : zeroOk Try.prog 9 = true := by kernel_rfl
theorem to9 : okT Try.prog 9 = true := by kernel_rfl
theorem tn9 : zeroL Try.prog 9 = some [.lit (.string ⟨#[]⟩)] := rfl
theorem tl12 (cs : List LV) : loadL Try.prog 12 cs = cs.head? := rfl
theorem ts12 : sizeL Try.prog 12 = 1 := by kernel_rfl
theorem tb12 : bytesL Try.prog 12 = 8 := by kernel_rfl
theorem tz12 : zeroOk Try.prog 12 = true := by kernel_rfl
theorem to12 : okT Try.prog 12 = true := by kernel_rfl
theorem tn12 : zeroL Try.prog 12 = some [.lit (.int .u64 0)] := rfl
theorem tl21 (cs : List LV) : loadL Try.prog 21 cs = cs.head? := rfl
theorem ts21 : sizeL Try.prog 21 = 1 := by kernel_rfl
theorem tb21 : bytesL Try.prog 21 = 4 := by kernel_rfl
theorem tz21 : zeroOk Try.prog 21 = true := by kernel_rfl
theorem to21 : okT Try.prog 21 = true := by kernel_rfl
theorem tn21 : zeroL Try.prog 21 = some [.lit (.int .i32 0)] := rfl
theorem tl22 (cs : List LV) : loadL Try.prog 22 cs = cs.head? := rfl
theorem ts22 : sizeL Try.prog 22 = 1 := by kernel_rfl
theorem tb22 : bytesL Try.prog 22 = 24 := by kernel_rfl
theorem tz22 : zeroOk Try.prog 22 = true := by kernel_rfl
theorem to22 : okT Try.prog 22 = true := by kernel_rfl
theorem tn22 : zeroL Try.prog 22 = some [.sl 0 [] .nil] := rfl
theorem te22 : elemL Try.prog 22 = some (46,2) := by kernel_rfl
theorem tl23 (cs : List LV) : loadL Try.prog 23 cs = cs.head? := rfl
theorem ts23 : sizeL Try.prog 23 = 1 := by kernel_rfl
theorem tb23 : bytesL Try.prog 23 = 24 := by kernel_rfl
theorem tz23 : zeroOk Try.prog 23 = true := by kernel_rfl
theorem to23 : okT Try.prog 23 = true := by kernel_rfl
theorem tn23 : zeroL Try.prog 23 = some [.sl 0 [] .nil] := rfl
theorem te23 : elemL Try.prog 23 = some (42,12) := by kernel_rfl
theorem tf24_0 : fieldL Try.prog 24 0 = some (0,22) := by kernel_rfl
theorem tf24_1 : fieldL Try.prog 24 1 = some (1,23) := by kernel_rfl
theorem tl24 (cs : List LV) : loadL Try.prog 24 cs = if 2 ≤ cs.length then some (.agg (cs.take 2)) else none := rfl
theorem ts24 : sizeL Try.prog 24 = 2 := by kernel_rfl
theorem tb24 : bytesL Try.prog 24 = 48 := by kernel_rfl
theorem tz24 : zeroOk Try.prog 24 = true := by kernel_rfl
theorem to24 : okT Try.prog 24 = true := by kernel_rfl
theorem tn24 : zeroL Try.prog 24 = some [.sl 0 [] .nil,.sl 0 [] .nil] := rfl
theorem tu24 (parts : List (Nat × LV)) : buildL Try.prog 24 parts = (fillL (fun j => [(0,1),(1,1)][j]?) [.sl 0 [] .nil,.sl 0 [] .nil] parts).map .agg := rfl
theorem tf25_0 : fieldL Try.prog 25 0 = some (0,22) := by kernel_rfl
theorem tf25_1 : fieldL Try.prog 25 1 = some (1,23) := by kernel_rfl
theorem tl25 (cs : List LV) : loadL Try.prog 25 cs = if 2 ≤ cs.length then some (.agg (cs.take 2)) else none := rfl
theorem ts25 : sizeL Try.prog 25 = 2 := by kernel_rfl
theorem tb25 : bytesL Try.prog 25 = 48 := by kernel_rfl
theorem tz25 : zeroOk Try.prog 25 = true := by kernel_rfl
theorem to25 : okT Try.prog 25 = true := by kernel_rfl
theorem tn25 : zeroL Try.prog 25 = some [.sl 0 [] .nil,.sl 0 [] .nil] := rfl
theorem tu25 (parts : List (Nat × LV)) : buildL Try.prog 25 parts = (fillL (fun j => [(0,1),(1,1)][j]?) [.sl 0 [] .nil,.sl 0 [] .nil] parts).map .agg := rfl
theorem tl32 (cs : List LV) : loadL Try.prog 32 cs = cs.head? := rfl
theorem ts32 : sizeL Try.prog 32 = 1 := by kernel_rfl
theorem tb32 : bytesL Try.prog 32 = 24 := by kernel_rfl
theorem tz32 : zeroOk Try.prog 32 = true := by kernel_rfl
theorem to32 : okT Try.prog 32 = true := by kernel_rfl
theorem tn32 : zeroL Try.prog 32 = some [.sl 0 [] .nil] := rfl
theorem te32 : elemL Try.prog 32 = some (3,1) := by kernel_rfl
theorem tl33 (cs : List LV) : loadL Try.prog 33 cs = cs.head? := rfl
theorem ts33 : sizeL Try.prog 33 = 1 := by kernel_rfl
theorem tb33 : bytesL Try.prog 33 = 8 := by kernel_rfl
theorem tz33 : zeroOk Try.prog 33 = true := by kernel_rfl
theorem to33 : okT Try.prog 33 = true := by kernel_rfl
theorem tn33 : zeroL Try.prog 33 = some [.lit (.int .u64 0)] := rfl
theorem tl36 (cs : List LV) : loadL Try.prog 36 cs = cs.head? := rfl
theorem ts36 : sizeL Try.prog 36 = 1 := by kernel_rfl
theorem tb36 : bytesL Try.prog 36 = 24 := by kernel_rfl
theorem tz36 : zeroOk Try.prog 36 = true := by kernel_rfl
theorem to36 : okT Try.prog 36 = true := by kernel_rfl
theorem tn36 : zeroL Try.prog 36 = some [.sl 0 [] .nil] := rfl
theorem te36 : elemL Try.prog 36 = some (44,2) := by kernel_rfl
theorem tl37 (cs : List LV) : loadL Try.prog 37 cs = cs.head? := rfl
theorem ts37 : sizeL Try.prog 37 = 1 := by kernel_rfl
theorem tb37 : bytesL Try.prog 37 = 24 := by kernel_rfl
theorem tz37 : zeroOk Try.prog 37 = true := by kernel_rfl
theorem to37 : okT Try.prog 37 = true := by kernel_rfl
theorem tn37 : zeroL Try.prog 37 = some [.sl 0 [] .nil] := rfl
theorem te37 : elemL Try.prog 37 = some (69,3) := by kernel_rfl
theorem tf38_0 : fieldL Try.prog 38 0 = some (0,3) := by kernel_rfl
theorem tf38_1 : fieldL Try.prog 38 1 = some (1,3) := by kernel_rfl
theorem tf38_2 : fieldL Try.prog 38 2 = some (2,3) := by kernel_rfl
theorem tf38_3 : fieldL Try.prog 38 3 = some (3,2) := by kernel_rfl
theorem tf38_4 : fieldL Try.prog 38 4 = some (4,36) := by kernel_rfl
theorem tf38_5 : fieldL Try.prog 38 5 = some (5,37) := by kernel_rfl
theorem tl38 (cs : List LV) : loadL Try.prog 38 cs = if 6 ≤ cs.length then some (.agg (cs.take 6)) else none := rfl
theorem ts38 : sizeL Try.prog 38 = 6 := by kernel_rfl
theorem tb38 : bytesL Try.prog 38 = 80 := by kernel_rfl
theorem tz38 : zeroOk Try.prog 38 = true := by kernel_rfl
theorem to38 : okT Try.prog 38 = true := by kernel_rfl
theorem tn38 : zeroL Try.prog 38 = some [.lit (.int .i64 0),.lit (.int .i64 0),.lit (.int .i64 0),.lit (.int .i64 0),.sl 0 [] .nil,.sl 0 [] .nil] := rfl
theorem tu38 (parts : List (Nat × LV)) : buildL Try.prog 38 parts = (fillL (fun j => [(0,1),(1,1),(2,1),(3,1),(4,1),(5,1)][j]?) [.lit (.int .i64 0),.lit (.int .i64 0),.lit (.int .i64 0),.lit (.int .i64 0),.sl 0 [] .nil,.sl 0 [] .nil] parts).map .agg := rfl
theorem tf39_0 : fieldL Try.prog 39 0 = some (0,3) := by kernel_rfl
theorem tf39_1 : fieldL Try.prog 39 1 = some (1,3) := by kernel_rfl
theorem tf39_2 : fieldL Try.prog 39 2 = some (2,3) := by kernel_rfl
theorem tf39_3 : fieldL Try.prog 39 3 = some (3,2) := by kernel_rfl
theorem tf39_4 : fieldL Try.prog 39 4 = some (4,36) := by kernel_rfl
theorem tf39_5 : fieldL Try.prog 39 5 = some (5,37) := by kernel_rfl
theorem tl39 (cs : List LV) : loadL Try.prog 39 cs = if 6 ≤ cs.length then some (.agg (cs.take 6)) else none := rfl
theorem ts39 : sizeL Try.prog 39 = 6 := by kernel_rfl
theorem tb39 : bytesL Try.prog 39 = 80 := by kernel_rfl
theorem tz39 : zeroOk Try.prog 39 = true := by kernel_rfl
theorem to39 : okT Try.prog 39 = true := by kernel_rfl
theorem tn39 : zeroL Try.prog 39 = some [.lit (.int .i64 0),.lit (.int .i64 0),.lit (.int .i64 0),.lit (.int .i64 0),.sl 0 [] .nil,.sl 0 [] .nil] := rfl
theorem tu39 (parts : List (Nat × LV)) : buildL Try.prog 39 parts = (fillL (fun j => [(0,1),(1,1),(2,1),(3,1),(4,1),(5,1)][j]?) [.lit (.int .i64 0),.lit (.int .i64 0),.lit (.int .i64 0),.lit (.int .i64 0),.sl 0 [] .nil,.sl 0 [] .nil] parts).map .agg := rfl
theorem tl40 (cs : List LV) : loadL Try.prog 40 cs = cs.head? := rfl
theorem ts40 : sizeL Try.prog 40 = 1 := by kernel_rfl
theorem tb40 : bytesL Try.prog 40 = 24 := by kernel_rfl
theorem tz40 : zeroOk Try.prog 40 = true := by kernel_rfl
theorem to40 : okT Try.prog 40 = true := by kernel_rfl
theorem tn40 : zeroL Try.prog 40 = some [.sl 0 [] .nil] := rfl
theorem te40 : elemL Try.prog 40 = some (75,2) := by kernel_rfl
theorem tf41_0 : fieldL Try.prog 41 0 = some (0,3) := by kernel_rfl
theorem tf41_1 : fieldL Try.prog 41 1 = some (1,39) := by kernel_rfl
theorem tf41_2 : fieldL Try.prog 41 2 = some (7,2) := by kernel_rfl
theorem tf41_3 : fieldL Try.prog 41 3 = some (8,40) := by kernel_rfl
theorem tf41_4 : fieldL Try.prog 41 4 = some (9,9) := by kernel_rfl
theorem tf41_5 : fieldL Try.prog 41 5 = some (10,3) := by kernel_rfl
theorem tf41_6 : fieldL Try.prog 41 6 = some (11,3) := by kernel_rfl
theorem tl41 (cs : List LV) : loadL Try.prog 41 cs = if 12 ≤ cs.length then some (.agg (cs.take 12)) else none := rfl
theorem ts41 : sizeL Try.prog 41 = 12 := by kernel_rfl
theorem tb41 : bytesL Try.prog 41 = 152 := by kernel_rfl
theorem tz41 : zeroOk Try.prog 41 = true := by kernel_rfl
theorem to41 : okT Try.prog 41 = true := by kernel_rfl
theorem tn41 : zeroL Try.prog 41 = some [.lit (.int .i64 0),.lit (.int .i64 0),.lit (.int .i64 0),.lit (.int .i64 0),.lit (.int .i64 0),.sl 0 [] .nil,.sl 0 [] .nil,.lit (.int .i64 0),.sl 0 [] .nil,.lit (.string ⟨#[]⟩),.lit (.int .i64 0),.lit (.int .i64 0)] := rfl
theorem tu41 (parts : List (Nat × LV)) : buildL Try.prog 41 parts = (fillL (fun j => [(0,1),(1,6),(7,1),(8,1),(9,1),(10,1),(11,1)][j]?) [.lit (.int .i64 0),.lit (.int .i64 0),.lit (.int .i64 0),.lit (.int .i64 0),.lit (.int .i64 0),.sl 0 [] .nil,.sl 0 [] .nil,.lit (.int .i64 0),.sl 0 [] .nil,.lit (.string ⟨#[]⟩),.lit (.int .i64 0),.lit (.int .i64 0)] parts).map .agg := rfl
theorem tf42_0 : fieldL Try.prog 42 0 = some (0,3) := by kernel_rfl
theorem tf42_1 : fieldL Try.prog 42 1 = some (1,39) := by kernel_rfl
theorem tf42_2 : fieldL Try.prog 42 2 = some (7,2) := by kernel_rfl
theorem tf42_3 : fieldL Try.prog 42 3 = some (8,40) := by kernel_rfl
theorem tf42_4 : fieldL Try.prog 42 4 = some (9,9) := by kernel_rfl
theorem tf42_5 : fieldL Try.prog 42 5 = some (10,3) := by kernel_rfl
theorem tf42_6 : fieldL Try.prog 42 6 = some (11,3) := by kernel_rfl
theorem tl42 (cs : List LV) : loadL Try.prog 42 cs = if 12 ≤ cs.length then some (.agg (cs.take 12)) else none := rfl
theorem ts42 : sizeL Try.prog 42 = 12 := by kernel_rfl
theorem tb42 : bytesL Try.prog 42 = 152 := by kernel_rfl
theorem tz42 : zeroOk Try.prog 42 = true := by kernel_rfl
theorem to42 : okT Try.prog 42 = true := by kernel_rfl
theorem tn42 : zeroL Try.prog 42 = some [.lit (.int .i64 0),.lit (.int .i64 0),.lit (.int .i64 0),.lit (.int .i64 0),.lit (.int .i64 0),.sl 0 [] .nil,.sl 0 [] .nil,.lit (.int .i64 0),.sl 0 [] .nil,.lit (.string ⟨#[]⟩),.lit (.int .i64 0),.lit (.int .i64 0)] := rfl
theorem tu42 (parts : List (Nat × LV)) : buildL Try.prog 42 parts = (fillL (fun j => [(0,1),(1,6),(7,1),(8,1),(9,1),(10,1),(11,1)][j]?) [.lit (.int .i64 0),.lit (.int .i64 0),.lit (.int .i64 0),.lit (.int .i64 0),.lit (.int .i64 0),.sl 0 [] .nil,.sl 0 [] .nil,.lit (.int .i64 0),.sl 0 [] .nil,.lit (.string ⟨#[]⟩),.lit (.int .i64 0),.lit (.int .i64 0)] parts).map .agg := rfl
theorem tf43_0 : fieldL Try.prog 43 0 = some (0,9) := by kernel_rfl
theorem tf43_1 : fieldL Try.prog 43 1 = some (1,9) := by kernel_rfl
theorem tl43 (cs : List LV) : loadL Try.prog 43 cs = if 2 ≤ cs.length then some (.agg (cs.take 2)) else none := rfl
theorem ts43 : sizeL Try.prog 43 = 2 := by kernel_rfl
theorem tb43 : bytesL Try.prog 43 = 32 := by kernel_rfl
theorem tz43 : zeroOk Try.prog 43 = true := by kernel_rfl
theorem to43 : okT Try.prog 43 = true := by kernel_rfl
theorem tq43 : eqKinds Try.prog 43 = some [(0,1),(1,1)] := by kernel_rfl
theorem tn43 : zeroL Try.prog 43 = some [.lit (.string ⟨#[]⟩),.lit (.string ⟨#[]⟩)] := rfl
theorem tu43 (parts : List (Nat × LV)) : buildL Try.prog 43 parts = (fillL (fun j => [(0,1),(1,1)][j]?) [.lit (.string ⟨#[]⟩),.lit (.string ⟨#[]⟩)] parts).map .agg := rfl
theorem tf44_0 : fieldL Try.prog 44 0 = some (0,9) := by kernel_rfl
theorem tf44_1 : fieldL Try.prog 44 1 = some (1,9) := by kernel_rfl
theorem tl44 (cs : List LV) : loadL Try.prog 44 cs = if 2 ≤ cs.length then some (.agg (cs.take 2)) else none := rfl
theorem ts44 : sizeL Try.prog 44 = 2 := by kernel_rfl
theorem tb44 : bytesL Try.prog 44 = 32 := by kernel_rfl
theorem tz44 : zeroOk Try.prog 44 = true := by kernel_rfl
theorem to44 : okT Try.prog 44 = true := by kernel_rfl
theorem tq44 : eqKinds Try.prog 44 = some [(0,1),(1,1)] := by kernel_rfl
theorem tn44 : zeroL Try.prog 44 = some [.lit (.string ⟨#[]⟩),.lit (.string ⟨#[]⟩)] := rfl
theorem tu44 (parts : List (Nat × LV)) : buildL Try.prog 44 parts = (fillL (fun j => [(0,1),(1,1)][j]?) [.lit (.string ⟨#[]⟩),.lit (.string ⟨#[]⟩)] parts).map .agg := rfl
theorem tf45_0 : fieldL Try.prog 45 0 = some (0,9) := by kernel_rfl
theorem tf45_1 : fieldL Try.prog 45 1 = some (1,3) := by kernel_rfl
theorem tl45 (cs : List LV) : loadL Try.prog 45 cs = if 2 ≤ cs.length then some (.agg (cs.take 2)) else none := rfl
theorem ts45 : sizeL Try.prog 45 = 2 := by kernel_rfl
theorem tb45 : bytesL Try.prog 45 = 24 := by kernel_rfl
theorem tz45 : zeroOk Try.prog 45 = true := by kernel_rfl
theorem to45 : okT Try.prog 45 = true := by kernel_rfl
theorem tq45 : eqKinds Try.prog 45 = some [(0,1),(1,0)] := by kernel_rfl
theorem tn45 : zeroL Try.prog 45 = some [.lit (.string ⟨#[]⟩),.lit (.int .i64 0)] := rfl
theorem tu45 (parts : List (Nat × LV)) : buildL Try.prog 45 parts = (fillL (fun j => [(0,1),(1,1)][j]?) [.lit (.string ⟨#[]⟩),.lit (.int .i64 0)] parts).map .agg := rfl
theorem tf46_0 : fieldL Try.prog 46 0 = some (0,9) := by kernel_rfl
theorem tf46_1 : fieldL Try.prog 46 1 = some (1,3) := by kernel_rfl
theorem tl46 (cs : List LV) : loadL Try.prog 46 cs = if 2 ≤ cs.length then some (.agg (cs.take 2)) else none := rfl
theorem ts46 : sizeL Try.prog 46 = 2 := by kernel_rfl
theorem tb46 : bytesL Try.prog 46 = 24 := by kernel_rfl
theorem tz46 : zeroOk Try.prog 46 = true := by kernel_rfl
theorem to46 : okT Try.prog 46 = true := by kernel_rfl
theorem tq46 : eqKinds Try.prog 46 = some [(0,1),(1,0)] := by kernel_rfl
theorem tn46 : zeroL Try.prog 46 = some [.lit (.string ⟨#[]⟩),.lit (.int .i64 0)] := rfl
theorem tu46 (parts : List (Nat × LV)) : buildL Try.prog 46 parts = (fillL (fun j => [(0,1),(1,1)][j]?) [.lit (.string ⟨#[]⟩),.lit (.int .i64 0)] parts).map .agg := rfl
theorem tl50 (cs : List LV) : loadL Try.prog 50 cs = cs.head? := rfl
theorem ts50 : sizeL Try.prog 50 = 1 := by kernel_rfl
theorem tb50 : bytesL Try.prog 50 = 24 := by kernel_rfl
theorem tz50 : zeroOk Try.prog 50 = true := by kernel_rfl
theorem to50 : okT Try.prog 50 = true := by kernel_rfl
theorem tn50 : zeroL Try.prog 50 = some [.sl 0 [] .nil] := rfl
theorem te50 : elemL Try.prog 50 = some (9,1) := by kernel_rfl
theorem tl58 (cs : List LV) : loadL Try.prog 58 cs = cs.head? := rfl
theorem ts58 : sizeL Try.prog 58 = 1 := by kernel_rfl
theorem tb58 : bytesL Try.prog 58 = 24 := by kernel_rfl
theorem tz58 : zeroOk Try.prog 58 = true := by kernel_rfl
theorem to58 : okT Try.prog 58 = true := by kernel_rfl
theorem tn58 : zeroL Try.prog 58 = some [.sl 0 [] .nil] := rfl
theorem te58 : elemL Try.prog 58 = some (62,3) := by kernel_rfl
theorem tf61_0 : fieldL Try.prog 61 0 = some (0,9) := by kernel_rfl
theorem tf61_1 : fieldL Try.prog 61 1 = some (1,3) := by kernel_rfl
theorem tf61_2 : fieldL Try.prog 61 2 = some (2,3) := by kernel_rfl
theorem tl61 (cs : List LV) : loadL Try.prog 61 cs = if 3 ≤ cs.length then some (.agg (cs.take 3)) else none := rfl
theorem ts61 : sizeL Try.prog 61 = 3 := by kernel_rfl
theorem tb61 : bytesL Try.prog 61 = 32 := by kernel_rfl
theorem tz61 : zeroOk Try.prog 61 = true := by kernel_rfl
theorem to61 : okT Try.prog 61 = true := by kernel_rfl
theorem tq61 : eqKinds Try.prog 61 = some [(0,1),(1,0),(2,0)] := by kernel_rfl
theorem tn61 : zeroL Try.prog 61 = some [.lit (.string ⟨#[]⟩),.lit (.int .i64 0),.lit (.int .i64 0)] := rfl
theorem tu61 (parts : List (Nat × LV)) : buildL Try.prog 61 parts = (fillL (fun j => [(0,1),(1,1),(2,1)][j]?) [.lit (.string ⟨#[]⟩),.lit (.int .i64 0),.lit (.int .i64 0)] parts).map .agg := rfl
theorem tf62_0 : fieldL Try.prog 62 0 = some (0,9) := by kernel_rfl
theorem tf62_1 : fieldL Try.prog 62 1 = some (1,3) := by kernel_rfl
theorem tf62_2 : fieldL Try.prog 62 2 = some (2,3) := by kernel_rfl
theorem tl62 (cs : List LV) : loadL Try.prog 62 cs = if 3 ≤ cs.length then some (.agg (cs.take 3)) else none := rfl
theorem ts62 : sizeL Try.prog 62 = 3 := by kernel_rfl
theorem tb62 : bytesL Try.prog 62 = 32 := by kernel_rfl
theorem tz62 : zeroOk Try.prog 62 = true := by kernel_rfl
theorem to62 : okT Try.prog 62 = true := by kernel_rfl
theorem tq62 : eqKinds Try.prog 62 = some [(0,1),(1,0),(2,0)] := by kernel_rfl
theorem tn62 : zeroL Try.prog 62 = some [.lit (.string ⟨#[]⟩),.lit (.int .i64 0),.lit (.int .i64 0)] := rfl
theorem tu62 (parts : List (Nat × LV)) : buildL Try.prog 62 parts = (fillL (fun j => [(0,1),(1,1),(2,1)][j]?) [.lit (.string ⟨#[]⟩),.lit (.int .i64 0),.lit (.int .i64 0)] parts).map .agg := rfl
theorem tf68_0 : fieldL Try.prog 68 0 = some (0,3) := by kernel_rfl
theorem tf68_1 : fieldL Try.prog 68 1 = some (1,3) := by kernel_rfl
theorem tf68_2 : fieldL Try.prog 68 2 = some (2,3) := by kernel_rfl
theorem tl68 (cs : List LV) : loadL Try.prog 68 cs = if 3 ≤ cs.length then some (.agg (cs.take 3)) else none := rfl
theorem ts68 : sizeL Try.prog 68 = 3 := by kernel_rfl
theorem tb68 : bytesL Try.prog 68 = 24 := by kernel_rfl
theorem tz68 : zeroOk Try.prog 68 = true := by kernel_rfl
theorem to68 : okT Try.prog 68 = true := by kernel_rfl
theorem tq68 : eqKinds Try.prog 68 = some [(0,0),(1,0),(2,0)] := by kernel_rfl
theorem tn68 : zeroL Try.prog 68 = some [.lit (.int .i64 0),.lit (.int .i64 0),.lit (.int .i64 0)] := rfl
theorem tu68 (parts : List (Nat × LV)) : buildL Try.prog 68 parts = (fillL (fun j => [(0,1),(1,1),(2,1)][j]?) [.lit (.int .i64 0),.lit (.int .i64 0),.lit (.int .i64 0)] parts).map .agg := rfl
theorem tf69_0 : fieldL Try.prog 69 0 = some (0,3) := by kernel_rfl
theorem tf69_1 : fieldL Try.prog 69 1 = some (1,3) := by kernel_rfl
theorem tf69_2 : fieldL Try.prog 69 2 = some (2,3) := by kernel_rfl
theorem tl69 (cs : List LV) : loadL Try.prog 69 cs = if 3 ≤ cs.length then some (.agg (cs.take 3)) else none := rfl
theorem ts69 : sizeL Try.prog 69 = 3 := by kernel_rfl
theorem tb69 : bytesL Try.prog 69 = 24 := by kernel_rfl
theorem tz69 : zeroOk Try.prog 69 = true := by kernel_rfl
theorem to69 : okT Try.prog 69 = true := by kernel_rfl
theorem tq69 : eqKinds Try.prog 69 = some [(0,0),(1,0),(2,0)] := by kernel_rfl
theorem tn69 : zeroL Try.prog 69 = some [.lit (.int .i64 0),.lit (.int .i64 0),.lit (.int .i64 0)] := rfl
theorem tu69 (parts : List (Nat × LV)) : buildL Try.prog 69 parts = (fillL (fun j => [(0,1),(1,1),(2,1)][j]?) [.lit (.int .i64 0),.lit (.int .i64 0),.lit (.int .i64 0)] parts).map .agg := rfl
theorem tf74_0 : fieldL Try.prog 74 0 = some (0,2) := by kernel_rfl
theorem tf74_1 : fieldL Try.prog 74 1 = some (1,9) := by kernel_rfl
theorem tl74 (cs : List LV) : loadL Try.prog 74 cs = if 2 ≤ cs.length then some (.agg (cs.take 2)) else none := rfl
theorem ts74 : sizeL Try.prog 74 = 2 := by kernel_rfl
theorem tb74 : bytesL Try.prog 74 = 24 := by kernel_rfl
theorem tz74 : zeroOk Try.prog 74 = true := by kernel_rfl
theorem to74 : okT Try.prog 74 = true := by kernel_rfl
theorem tq74 : eqKinds Try.prog 74 = some [(0,0),(1,1)] := by kernel_rfl
theorem tn74 : zeroL Try.prog 74 = some [.lit (.int .i64 0),.lit (.string ⟨#[]⟩)] := rfl
theorem tu74 (parts : List (Nat × LV)) : buildL Try.prog 74 parts = (fillL (fun j => [(0,1),(1,1)][j]?) [.lit (.int .i64 0),.lit (.string ⟨#[]⟩)] parts).map .agg := rfl
theorem tf75_0 : fieldL Try.prog 75 0 = some (0,2) := by kernel_rfl
theorem tf75_1 : fieldL Try.prog 75 1 = some (1,9) := by kernel_rfl
theorem tl75 (cs : List LV) : loadL Try.prog 75 cs = if 2 ≤ cs.length then some (.agg (cs.take 2)) else none := rfl
theorem ts75 : sizeL Try.prog 75 = 2 := by kernel_rfl
theorem tb75 : bytesL Try.prog 75 = 24 := by kernel_rfl
theorem tz75 : zeroOk Try.prog 75 = true := by kernel_rfl
theorem to75 : okT Try.prog 75 = true := by kernel_rfl
theorem tq75 : eqKinds Try.prog 75 = some [(0,0),(1,1)] := by kernel_rfl
theorem tn75 : zeroL Try.prog 75 = some [.lit (.int .i64 0),.lit (.string ⟨#[]⟩)] := rfl
theorem tu75 (parts : List (Nat × LV)) : buildL Try.prog 75 parts = (fillL (fun j => [(0,1),(1,1)][j]?) [.lit (.int .i64 0),.lit (.string ⟨#[]⟩)] parts).map .agg := rfl
theorem tl92 (cs : List LV) : loadL Try.prog 92 cs = cs.head? := rfl
theorem ts92 : sizeL Try.prog 92 = 1 := by kernel_rfl
theorem tb92 : bytesL Try.prog 92 = 24 := by kernel_rfl
theorem tz92 : zeroOk Try.prog 92 = true := by kernel_rfl
theorem to92 : okT Try.prog 92 = true := by kernel_rfl
theorem tn92 : zeroL Try.prog 92 = some [.sl 0 [] .nil] := rfl
theorem te92 : elemL Try.prog 92 = some (99,1) := by kernel_rfl
theorem tl99 (cs : List LV) : loadL Try.prog 99 cs = cs.head? := rfl
theorem ts99 : sizeL Try.prog 99 = 1 := by kernel_rfl
theorem tb99 : bytesL Try.prog 99 = 16 := by kernel_rfl
theorem tz99 : zeroOk Try.prog 99 = true := by kernel_rfl
theorem to99 : okT Try.prog 99 = true := by kernel_rfl
theorem tn99 : zeroL Try.prog 99 = some [.lit (.complex .f64 0 0)] := rfl
theorem tl103 (cs : List LV) : loadL Try.prog 103 cs = cs.head? := rfl
theorem tl106 (cs : List LV) : loadL Try.prog 106 cs = cs.head? := rfl
theorem ts106 : sizeL Try.prog 106 = 1 := by kernel_rfl
theorem tb106 : bytesL Try.prog 106 = 4 := by kernel_rfl
theorem tz106 : zeroOk Try.prog 106 = true := by kernel_rfl
theorem to106 : okT Try.prog 106 = true := by kernel_rfl
theorem tn106 : zeroL Try.prog 106 = some [.lit (.int .u32 0)] := rfl
theorem tf126_0 : fieldL Try.prog 126 0 = some (0,12) := by kernel_rfl
theorem tf126_1 : fieldL Try.prog 126 1 = some (1,12) := by kernel_rfl
theorem tf126_2 : fieldL Try.prog 126 2 = some (2,106) := by kernel_rfl
theorem tf126_3 : fieldL Try.prog 126 3 = some (3,120) := by kernel_rfl
theorem tf126_4 : fieldL Try.prog 126 4 = some (4,5) := by kernel_rfl
theorem tf126_5 : fieldL Try.prog 126 5 = some (5,5) := by kernel_rfl
theorem tf126_6 : fieldL Try.prog 126 6 = some (6,121) := by kernel_rfl
theorem tf126_9 : fieldL Try.prog 126 9 = some (9,124) := by kernel_rfl
theorem tf126_10 : fieldL Try.prog 126 10 = some (10,125) := by kernel_rfl
theorem tl126 (cs : List LV) : loadL Try.prog 126 cs = if 11 ≤ cs.length then some (.agg (cs.take 11)) else none := rfl
theorem ts126 : sizeL Try.prog 126 = 11 := by kernel_rfl
theorem tb126 : bytesL Try.prog 126 = 48 := by kernel_rfl
theorem tz126 : zeroOk Try.prog 126 = true := by kernel_rfl
theorem to126 : okT Try.prog 126 = true := by kernel_rfl
end Go.Proofs.Ytpficpldemickaa
