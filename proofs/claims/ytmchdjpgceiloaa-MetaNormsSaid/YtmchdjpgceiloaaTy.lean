/-
  CLOSED FACTS on the types of the program.
-/
import Derived.Test.YtmchdjpgceiloaaProg
import Derived.Test.YtmchdjpgceiloaaL11
set_option linter.unusedSimpArgs false
set_option linter.unusedVariables false
namespace Go.Proofs.Ytmchdjpgceiloaa
theorem tl2 (cs : List LV) : loadL Try.prog 2 cs = cs.head? := rfl
theorem ts2 : sizeL Try.prog 2 = 1 := by kernel_rfl
theorem tb2 : bytesL Try.prog 2 = 8 := by kernel_rfl
theorem tz2 : zeroOk Try.prog 2 = true := by kernel_rfl
theorem to2 : okT Try.prog 2 = true := by kernel_rfl
theorem tn2 : zeroL Try.prog 2 = some [.lit (.int .i64 0)] := rfl
theorem tl3 (cs : List LV) : loadL Try.prog 3 cs = cs.head? := rfl
theorem ts3 : sizeL Try.prog 3 = 1 := by kernel_rfl
theorem tb3 : bytesL Try.prog 3 = 8 := by kernel_rfl
theorem tz3 : zeroOk Try.prog 3 = true := by kernel_rfl
theorem to3 : okT Try.prog 3 = true := by kernel_rfl
theorem tn3 : zeroL Try.prog 3 = some [.lit (.int .i64 0)] := rfl
theorem tl4 (cs : List LV) : loadL Try.prog 4 cs = cs.head? := rfl
theorem ts4 : sizeL Try.prog 4 = 1 := by kernel_rfl
theorem tb4 : bytesL Try.prog 4 = 1 := by kernel_rfl
theorem tz4 : zeroOk Try.prog 4 = true := by kernel_rfl
theorem to4 : okT Try.prog 4 = true := by kernel_rfl
theorem tn4 : zeroL Try.prog 4 = some [.lit (.bool false)] := rfl
theorem tl5 (cs : List LV) : loadL Try.prog 5 cs = cs.head? := rfl
theorem ts5 : sizeL Try.prog 5 = 1 := by kernel_rfl
theorem tb5 : bytesL Try.prog 5 = 1 := by kernel_rfl
theorem tz5 : zeroOk Try.prog 5 = true := by kernel_rfl
theorem to5 : okT Try.prog 5 = true := by kernel_rfl
theorem tn5 : zeroL Try.prog 5 = some [.lit (.int .u8 0)] := rfl
theorem tl9 (cs : List LV) : loadL Try.prog 9 cs = cs.head? := rfl
theorem ts9 : sizeL Try.prog 9 = 1 := by kernel_rfl
theorem tb9 : bytesL Try.prog 9 = 16 := by kernel_rfl
theorem tz9 : zeroOk Try.prog 9 = true := by kernel_rfl
theorem to9 : okT Try.prog 9 = true := by kernel_rfl
theorem tn9 : zeroL Try.prog 9 = some [.lit (.string ⟨#[]⟩)] := rfl
theorem tl12 (cs : List LV) : loadL Try.prog 12 cs = cs.head? := rfl
theorem ts12 : sizeL Try.prog 12 = 1 := by kernel_rfl
theorem tb12 : bytesL Try.prog 12 = 8 := by kernel_rfl
theorem tz12 : zeroOk Try.prog 12 = true := by kernel_rfl
theorem to12 : okT Try.prog 12 = true := by kernel_rfl
theorem tn12 : zeroL Try.prog 12 = some [.lit (.int .u64 0)] := rfl
theorem tl21 (cs : List LV) : loadL Try.prog 21 cs = cs.head? := rfl
theorem ts21 : sizeL Try.prog 21 = 1 := by kernel_rfl
theorem tb21 : bytesL Try.prog 21 = 4 := by kernel_rfl
theorem tz21 : zeroOk Try.prog 21 = true := by kernel_rfl
theorem to21 : okT Try.prog 21 = true := by kernel_rfl
theorem tn21 : zeroL Try.prog 21 = some [.lit (.int .i32 0)] := rfl
theorem tl22 (cs : List LV) : loadL Try.prog 22 cs = cs.head? := rfl
theorem ts22 : sizeL Try.prog 22 = 1 := by kernel_rfl
theorem tb22 : bytesL Try.prog 22 = 24 := by kernel_rfl
theorem tz22 : zeroOk Try.prog 22 = true := by kernel_rfl
theorem to22 : okT Try.prog 22 = true := by kernel_rfl
theorem tn22 : zeroL Try.prog 22 = some [.sl 0 [] .nil] := rfl
theorem te22 : elemL Try.prog 22 = some (36, 2) := by kernel_rfl
theorem tl23 (cs : List LV) : loadL Try.prog 23 cs = cs.head? := rfl
theorem ts23 : sizeL Try.prog 23 = 1 := by kernel_rfl
theorem tb23 : bytesL Try.prog 23 = 24 := by kernel_rfl
theorem tz23 : zeroOk Try.prog 23 = true := by kernel_rfl
theorem to23 : okT Try.prog 23 = true := by kernel_rfl
theorem tn23 : zeroL Try.prog 23 = some [.sl 0 [] .nil] := rfl
theorem te23 : elemL Try.prog 23 = some (38, 3) := by kernel_rfl
theorem tf24_0 : fieldL Try.prog 24 0 = some (0, 3) := by kernel_rfl
theorem tf24_1 : fieldL Try.prog 24 1 = some (1, 3) := by kernel_rfl
theorem tf24_2 : fieldL Try.prog 24 2 = some (2, 3) := by kernel_rfl
theorem tf24_3 : fieldL Try.prog 24 3 = some (3, 2) := by kernel_rfl
theorem tf24_4 : fieldL Try.prog 24 4 = some (4, 22) := by kernel_rfl
theorem tf24_5 : fieldL Try.prog 24 5 = some (5, 23) := by kernel_rfl
theorem tl24 (cs : List LV) : loadL Try.prog 24 cs = if 6 ≤ cs.length then some (.agg (cs.take 6)) else none := rfl
theorem ts24 : sizeL Try.prog 24 = 6 := by kernel_rfl
theorem tb24 : bytesL Try.prog 24 = 80 := by kernel_rfl
theorem tz24 : zeroOk Try.prog 24 = true := by kernel_rfl
theorem to24 : okT Try.prog 24 = true := by kernel_rfl
theorem tn24 : zeroL Try.prog 24 = some [.lit (.int .i64 0), .lit (.int .i64 0), .lit (.int .i64 0), .lit (.int .i64 0), .sl 0 [] .nil, .sl 0 [] .nil] := rfl
theorem tu24 (parts : List (Nat × LV)) : buildL Try.prog 24 parts = (fillL (fun j => [(0, 1), (1, 1), (2, 1), (3, 1), (4, 1), (5, 1)][j]?) [.lit (.int .i64 0), .lit (.int .i64 0), .lit (.int .i64 0), .lit (.int .i64 0), .sl 0 [] .nil, .sl 0 [] .nil] parts).map .agg := rfl
theorem tf25_0 : fieldL Try.prog 25 0 = some (0, 3) := by kernel_rfl
theorem tf25_1 : fieldL Try.prog 25 1 = some (1, 3) := by kernel_rfl
theorem tf25_2 : fieldL Try.prog 25 2 = some (2, 3) := by kernel_rfl
theorem tf25_3 : fieldL Try.prog 25 3 = some (3, 2) := by kernel_rfl
theorem tf25_4 : fieldL Try.prog 25 4 = some (4, 22) := by kernel_rfl
theorem tf25_5 : fieldL Try.prog 25 5 = some (5, 23) := by kernel_rfl
theorem tl25 (cs : List LV) : loadL Try.prog 25 cs = if 6 ≤ cs.length then some (.agg (cs.take 6)) else none := rfl
theorem ts25 : sizeL Try.prog 25 = 6 := by kernel_rfl
theorem tb25 : bytesL Try.prog 25 = 80 := by kernel_rfl
theorem tz25 : zeroOk Try.prog 25 = true := by kernel_rfl
theorem to25 : okT Try.prog 25 = true := by kernel_rfl
theorem tn25 : zeroL Try.prog 25 = some [.lit (.int .i64 0), .lit (.int .i64 0), .lit (.int .i64 0), .lit (.int .i64 0), .sl 0 [] .nil, .sl 0 [] .nil] := rfl
theorem tu25 (parts : List (Nat × LV)) : buildL Try.prog 25 parts = (fillL (fun j => [(0, 1), (1, 1), (2, 1), (3, 1), (4, 1), (5, 1)][j]?) [.lit (.int .i64 0), .lit (.int .i64 0), .lit (.int .i64 0), .lit (.int .i64 0), .sl 0 [] .nil, .sl 0 [] .nil] parts).map .agg := rfl
theorem tl34 (cs : List LV) : loadL Try.prog 34 cs = cs.head? := rfl
theorem ts34 : sizeL Try.prog 34 = 1 := by kernel_rfl
theorem tb34 : bytesL Try.prog 34 = 8 := by kernel_rfl
theorem tz34 : zeroOk Try.prog 34 = true := by kernel_rfl
theorem to34 : okT Try.prog 34 = true := by kernel_rfl
theorem tn34 : zeroL Try.prog 34 = some [.lit (.int .u64 0)] := rfl
theorem tf35_0 : fieldL Try.prog 35 0 = some (0, 9) := by kernel_rfl
theorem tf35_1 : fieldL Try.prog 35 1 = some (1, 9) := by kernel_rfl
theorem tl35 (cs : List LV) : loadL Try.prog 35 cs = if 2 ≤ cs.length then some (.agg (cs.take 2)) else none := rfl
theorem ts35 : sizeL Try.prog 35 = 2 := by kernel_rfl
theorem tb35 : bytesL Try.prog 35 = 32 := by kernel_rfl
theorem tz35 : zeroOk Try.prog 35 = true := by kernel_rfl
theorem to35 : okT Try.prog 35 = true := by kernel_rfl
theorem tq35 : eqKinds Try.prog 35 = some [(0, 1), (1, 1)] := by kernel_rfl
theorem tn35 : zeroL Try.prog 35 = some [.lit (.string ⟨#[]⟩), .lit (.string ⟨#[]⟩)] := rfl
theorem tu35 (parts : List (Nat × LV)) : buildL Try.prog 35 parts = (fillL (fun j => [(0, 1), (1, 1)][j]?) [.lit (.string ⟨#[]⟩), .lit (.string ⟨#[]⟩)] parts).map .agg := rfl
theorem tf36_0 : fieldL Try.prog 36 0 = some (0, 9) := by kernel_rfl
theorem tf36_1 : fieldL Try.prog 36 1 = some (1, 9) := by kernel_rfl
theorem tl36 (cs : List LV) : loadL Try.prog 36 cs = if 2 ≤ cs.length then some (.agg (cs.take 2)) else none := rfl
theorem ts36 : sizeL Try.prog 36 = 2 := by kernel_rfl
theorem tb36 : bytesL Try.prog 36 = 32 := by kernel_rfl
theorem tz36 : zeroOk Try.prog 36 = true := by kernel_rfl
theorem to36 : okT Try.prog 36 = true := by kernel_rfl
theorem tq36 : eqKinds Try.prog 36 = some [(0, 1), (1, 1)] := by kernel_rfl
theorem tn36 : zeroL Try.prog 36 = some [.lit (.string ⟨#[]⟩), .lit (.string ⟨#[]⟩)] := rfl
theorem tu36 (parts : List (Nat × LV)) : buildL Try.prog 36 parts = (fillL (fun j => [(0, 1), (1, 1)][j]?) [.lit (.string ⟨#[]⟩), .lit (.string ⟨#[]⟩)] parts).map .agg := rfl
theorem tf37_0 : fieldL Try.prog 37 0 = some (0, 3) := by kernel_rfl
theorem tf37_1 : fieldL Try.prog 37 1 = some (1, 3) := by kernel_rfl
theorem tf37_2 : fieldL Try.prog 37 2 = some (2, 3) := by kernel_rfl
theorem tl37 (cs : List LV) : loadL Try.prog 37 cs = if 3 ≤ cs.length then some (.agg (cs.take 3)) else none := rfl
theorem ts37 : sizeL Try.prog 37 = 3 := by kernel_rfl
theorem tb37 : bytesL Try.prog 37 = 24 := by kernel_rfl
theorem tz37 : zeroOk Try.prog 37 = true := by kernel_rfl
theorem to37 : okT Try.prog 37 = true := by kernel_rfl
theorem tq37 : eqKinds Try.prog 37 = some [(0, 0), (1, 0), (2, 0)] := by kernel_rfl
theorem tn37 : zeroL Try.prog 37 = some [.lit (.int .i64 0), .lit (.int .i64 0), .lit (.int .i64 0)] := rfl
theorem tu37 (parts : List (Nat × LV)) : buildL Try.prog 37 parts = (fillL (fun j => [(0, 1), (1, 1), (2, 1)][j]?) [.lit (.int .i64 0), .lit (.int .i64 0), .lit (.int .i64 0)] parts).map .agg := rfl
theorem tf38_0 : fieldL Try.prog 38 0 = some (0, 3) := by kernel_rfl
theorem tf38_1 : fieldL Try.prog 38 1 = some (1, 3) := by kernel_rfl
theorem tf38_2 : fieldL Try.prog 38 2 = some (2, 3) := by kernel_rfl
theorem tl38 (cs : List LV) : loadL Try.prog 38 cs = if 3 ≤ cs.length then some (.agg (cs.take 3)) else none := rfl
theorem ts38 : sizeL Try.prog 38 = 3 := by kernel_rfl
theorem tb38 : bytesL Try.prog 38 = 24 := by kernel_rfl
theorem tz38 : zeroOk Try.prog 38 = true := by kernel_rfl
theorem to38 : okT Try.prog 38 = true := by kernel_rfl
theorem tq38 : eqKinds Try.prog 38 = some [(0, 0), (1, 0), (2, 0)] := by kernel_rfl
theorem tn38 : zeroL Try.prog 38 = some [.lit (.int .i64 0), .lit (.int .i64 0), .lit (.int .i64 0)] := rfl
theorem tu38 (parts : List (Nat × LV)) : buildL Try.prog 38 parts = (fillL (fun j => [(0, 1), (1, 1), (2, 1)][j]?) [.lit (.int .i64 0), .lit (.int .i64 0), .lit (.int .i64 0)] parts).map .agg := rfl
theorem tl40 (cs : List LV) : loadL Try.prog 40 cs = cs.head? := rfl
theorem ts40 : sizeL Try.prog 40 = 1 := by kernel_rfl
theorem tb40 : bytesL Try.prog 40 = 24 := by kernel_rfl
theorem tz40 : zeroOk Try.prog 40 = true := by kernel_rfl
theorem to40 : okT Try.prog 40 = true := by kernel_rfl
theorem tn40 : zeroL Try.prog 40 = some [.sl 0 [] .nil] := rfl
theorem te40 : elemL Try.prog 40 = some (3, 1) := by kernel_rfl
theorem tl41 (cs : List LV) : loadL Try.prog 41 cs = cs.head? := rfl
theorem ts41 : sizeL Try.prog 41 = 1 := by kernel_rfl
theorem tb41 : bytesL Try.prog 41 = 24 := by kernel_rfl
theorem tz41 : zeroOk Try.prog 41 = true := by kernel_rfl
theorem to41 : okT Try.prog 41 = true := by kernel_rfl
theorem tn41 : zeroL Try.prog 41 = some [.sl 0 [] .nil] := rfl
theorem te41 : elemL Try.prog 41 = some (9, 1) := by kernel_rfl
theorem tl59 (cs : List LV) : loadL Try.prog 59 cs = cs.head? := rfl
theorem ts59 : sizeL Try.prog 59 = 1 := by kernel_rfl
theorem tb59 : bytesL Try.prog 59 = 8 := by kernel_rfl
theorem tz59 : zeroOk Try.prog 59 = true := by kernel_rfl
theorem to59 : okT Try.prog 59 = true := by kernel_rfl
theorem tn59 : zeroL Try.prog 59 = some [.lit (.int .i64 0)] := rfl
theorem tl66 (cs : List LV) : loadL Try.prog 66 cs = cs.head? := rfl
theorem ts66 : sizeL Try.prog 66 = 1 := by kernel_rfl
theorem tb66 : bytesL Try.prog 66 = 4 := by kernel_rfl
theorem tz66 : zeroOk Try.prog 66 = true := by kernel_rfl
theorem to66 : okT Try.prog 66 = true := by kernel_rfl
theorem tn66 : zeroL Try.prog 66 = some [.lit (.int .u32 0)] := rfl
theorem tl68 (cs : List LV) : loadL Try.prog 68 cs = cs.head? := rfl
theorem ts68 : sizeL Try.prog 68 = 1 := by kernel_rfl
theorem tb68 : bytesL Try.prog 68 = 8 := by kernel_rfl
theorem tz68 : zeroOk Try.prog 68 = true := by kernel_rfl
theorem to68 : okT Try.prog 68 = true := by kernel_rfl
theorem tn68 : zeroL Try.prog 68 = some [.lit (.int .u64 0)] := rfl
theorem tl71 (cs : List LV) : loadL Try.prog 71 cs = cs.head? := rfl
theorem ts71 : sizeL Try.prog 71 = 1 := by kernel_rfl
theorem tb71 : bytesL Try.prog 71 = 8 := by kernel_rfl
theorem tz71 : zeroOk Try.prog 71 = true := by kernel_rfl
theorem to71 : okT Try.prog 71 = true := by kernel_rfl
theorem tn71 : zeroL Try.prog 71 = some [.lit (.int .u64 0)] := rfl
theorem tf93_0 : fieldL Try.prog 93 0 = some (0, 12) := by kernel_rfl
theorem tf93_1 : fieldL Try.prog 93 1 = some (1, 12) := by kernel_rfl
theorem tf93_2 : fieldL Try.prog 93 2 = some (2, 66) := by kernel_rfl
theorem tf93_3 : fieldL Try.prog 93 3 = some (3, 87) := by kernel_rfl
theorem tf93_4 : fieldL Try.prog 93 4 = some (4, 5) := by kernel_rfl
theorem tf93_5 : fieldL Try.prog 93 5 = some (5, 5) := by kernel_rfl
theorem tf93_6 : fieldL Try.prog 93 6 = some (6, 88) := by kernel_rfl
theorem tf93_9 : fieldL Try.prog 93 9 = some (9, 91) := by kernel_rfl
theorem tf93_10 : fieldL Try.prog 93 10 = some (10, 92) := by kernel_rfl
theorem tl93 (cs : List LV) : loadL Try.prog 93 cs = if 11 ≤ cs.length then some (.agg (cs.take 11)) else none := rfl
theorem ts93 : sizeL Try.prog 93 = 11 := by kernel_rfl
theorem tb93 : bytesL Try.prog 93 = 48 := by kernel_rfl
theorem tz93 : zeroOk Try.prog 93 = true := by kernel_rfl
theorem to93 : okT Try.prog 93 = true := by kernel_rfl
end Go.Proofs.Ytmchdjpgceiloaa
