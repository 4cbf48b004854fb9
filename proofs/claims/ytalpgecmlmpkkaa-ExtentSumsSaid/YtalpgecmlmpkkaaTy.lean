/-
  CLOSED FACTS on the types of the program.
-/
import Derived.Test.YtalpgecmlmpkkaaProg
import Derived.Test.YtalpgecmlmpkkaaL11
set_option linter.unusedSimpArgs false
set_option linter.unusedVariables false
namespace Go.Proofs.Ytalpgecmlmpkkaa
theorem tl2 (cs : List LV) : loadL Try.prog 2 cs = cs.head? := rfl
theorem ts2 : sizeL Try.prog 2 = 1 := by kernel_rfl
theorem tb2 : bytesL Try.prog 2 = 8 := by kernel_rfl
theorem tz2 : zeroOk Try.prog 2 = true := by kernel_rfl
theorem to2 : okT Try.prog 2 = true := by kernel_rfl
theorem tn2 : zeroL Try.prog 2 = some [.lit (.int .i64 0)] := rfl
theorem tl3 (cs : List LV) : loadL Try.prog 3 cs = cs.head? := rfl
theorem ts3 : sizeL Try.prog 3 = 1 := by kernel_rfl
theorem tb3 : bytesL Try.prog 3 = 8 := by kernel_rfl
theorem tz3 : zeroOk Try.prog 3 = true := by kernel_rfl
theorem to3 : okT Try.prog 3 = true := by kernel_rfl
theorem tn3 : zeroL Try.prog 3 = some [.lit (.int .i64 0)] := rfl
theorem tl4 (cs : List LV) : loadL Try.prog 4 cs = cs.head? := rfl
theorem ts4 : sizeL Try.prog 4 = 1 := by kernel_rfl
theorem tb4 : bytesL Try.prog 4 = 1 := by kernel_rfl
theorem tz4 : zeroOk Try.prog 4 = true := by kernel_rfl
theorem to4 : okT Try.prog 4 = true := by kernel_rfl
theorem tn4 : zeroL Try.prog 4 = some [.lit (.bool false)] := rfl
theorem tl5 (cs : List LV) : loadL Try.prog 5 cs = cs.head? := rfl
theorem ts5 : sizeL Try.prog 5 = 1 := by kernel_rfl
theorem tb5 : bytesL Try.prog 5 = 1 := by kernel_rfl
theorem tz5 : zeroOk Try.prog 5 = true := by kernel_rfl
theorem to5 : okT Try.prog 5 = true := by kernel_rfl
theorem tn5 : zeroL Try.prog 5 = some [.lit (.int .u8 0)] := rfl
theorem tl9 (cs : List LV) : loadL Try.prog 9 cs = cs.head? := rfl
theorem ts9 : sizeL Try.prog 9 = 1 := by kernel_rfl
theorem tb9 : bytesL Try.prog 9 = 16 := by kernel_rfl
theorem tz9 : zeroOk Try.prog 9 = true := by kernel_rfl
theorem to9 : okT Try.prog 9 = true := by kernel_rfl
theorem tn9 : zeroL Try.prog 9 = some [.lit (.string ⟨#[]⟩)] := rfl
theorem tl12 (cs : List LV) : loadL Try.prog 12 cs = cs.head? := rfl
theorem ts12 : sizeL Try.prog 12 = 1 := by kernel_rfl
theorem tb12 : bytesL Try.prog 12 = 8 := by kernel_rfl
theorem tz12 : zeroOk Try.prog 12 = true := by kernel_rfl
theorem to12 : okT Try.prog 12 = true := by kernel_rfl
theorem tn12 : zeroL Try.prog 12 = some [.lit (.int .u64 0)] := rfl
theorem tl21 (cs : List LV) : loadL Try.prog 21 cs = cs.head? := rfl
theorem ts21 : sizeL Try.prog 21 = 1 := by kernel_rfl
theorem tb21 : bytesL Try.prog 21 = 4 := by kernel_rfl
theorem tz21 : zeroOk Try.prog 21 = true := by kernel_rfl
theorem to21 : okT Try.prog 21 = true := by kernel_rfl
theorem tn21 : zeroL Try.prog 21 = some [.lit (.int .i32 0)] := rfl
theorem tl22 (cs : List LV) : loadL Try.prog 22 cs = cs.head? := rfl
theorem ts22 : sizeL Try.prog 22 = 1 := by kernel_rfl
theorem tb22 : bytesL Try.prog 22 = 24 := by kernel_rfl
theorem tz22 : zeroOk Try.prog 22 = true := by kernel_rfl
theorem to22 : okT Try.prog 22 = true := by kernel_rfl
theorem tn22 : zeroL Try.prog 22 = some [.sl 0 [] .nil] := rfl
theorem te22 : elemL Try.prog 22 = some (3, 1) := by kernel_rfl
theorem tl23 (cs : List LV) : loadL Try.prog 23 cs = cs.head? := rfl
theorem ts23 : sizeL Try.prog 23 = 1 := by kernel_rfl
theorem tb23 : bytesL Try.prog 23 = 24 := by kernel_rfl
theorem tz23 : zeroOk Try.prog 23 = true := by kernel_rfl
theorem to23 : okT Try.prog 23 = true := by kernel_rfl
theorem tn23 : zeroL Try.prog 23 = some [.sl 0 [] .nil] := rfl
theorem te23 : elemL Try.prog 23 = some (31, 1) := by kernel_rfl
theorem tl26 (cs : List LV) : loadL Try.prog 26 cs = cs.head? := rfl
theorem ts26 : sizeL Try.prog 26 = 1 := by kernel_rfl
theorem tb26 : bytesL Try.prog 26 = 8 := by kernel_rfl
theorem tz26 : zeroOk Try.prog 26 = true := by kernel_rfl
theorem to26 : okT Try.prog 26 = true := by kernel_rfl
theorem tn26 : zeroL Try.prog 26 = some [.lit (.int .u64 0)] := rfl
theorem tl30 (cs : List LV) : loadL Try.prog 30 cs = cs.head? := rfl
theorem tl31 (cs : List LV) : loadL Try.prog 31 cs = cs.head? := rfl
theorem ts31 : sizeL Try.prog 31 = 1 := by kernel_rfl
theorem tb31 : bytesL Try.prog 31 = 16 := by kernel_rfl
theorem tz31 : zeroOk Try.prog 31 = true := by kernel_rfl
theorem to31 : okT Try.prog 31 = true := by kernel_rfl
theorem tn31 : zeroL Try.prog 31 = some [.lit (.complex .f64 0 0)] := rfl
theorem tl48 (cs : List LV) : loadL Try.prog 48 cs = cs.head? := rfl
theorem ts48 : sizeL Try.prog 48 = 1 := by kernel_rfl
theorem tb48 : bytesL Try.prog 48 = 8 := by kernel_rfl
theorem tz48 : zeroOk Try.prog 48 = true := by kernel_rfl
theorem to48 : okT Try.prog 48 = true := by kernel_rfl
theorem tn48 : zeroL Try.prog 48 = some [.lit (.int .i64 0)] := rfl
theorem tl56 (cs : List LV) : loadL Try.prog 56 cs = cs.head? := rfl
theorem ts56 : sizeL Try.prog 56 = 1 := by kernel_rfl
theorem tb56 : bytesL Try.prog 56 = 4 := by kernel_rfl
theorem tz56 : zeroOk Try.prog 56 = true := by kernel_rfl
theorem to56 : okT Try.prog 56 = true := by kernel_rfl
theorem tn56 : zeroL Try.prog 56 = some [.lit (.int .u32 0)] := rfl
theorem tl58 (cs : List LV) : loadL Try.prog 58 cs = cs.head? := rfl
theorem ts58 : sizeL Try.prog 58 = 1 := by kernel_rfl
theorem tb58 : bytesL Try.prog 58 = 8 := by kernel_rfl
theorem tz58 : zeroOk Try.prog 58 = true := by kernel_rfl
theorem to58 : okT Try.prog 58 = true := by kernel_rfl
theorem tn58 : zeroL Try.prog 58 = some [.lit (.int .u64 0)] := rfl
theorem tl59 (cs : List LV) : loadL Try.prog 59 cs = cs.head? := rfl
theorem ts59 : sizeL Try.prog 59 = 1 := by kernel_rfl
theorem tb59 : bytesL Try.prog 59 = 8 := by kernel_rfl
theorem tz59 : zeroOk Try.prog 59 = true := by kernel_rfl
theorem to59 : okT Try.prog 59 = true := by kernel_rfl
theorem tn59 : zeroL Try.prog 59 = some [.lit (.int .u64 0)] := rfl
theorem tf81_0 : fieldL Try.prog 81 0 = some (0, 12) := by kernel_rfl
theorem tf81_1 : fieldL Try.prog 81 1 = some (1, 12) := by kernel_rfl
theorem tf81_2 : fieldL Try.prog 81 2 = some (2, 56) := by kernel_rfl
theorem tf81_3 : fieldL Try.prog 81 3 = some (3, 75) := by kernel_rfl
theorem tf81_4 : fieldL Try.prog 81 4 = some (4, 5) := by kernel_rfl
theorem tf81_5 : fieldL Try.prog 81 5 = some (5, 5) := by kernel_rfl
theorem tf81_6 : fieldL Try.prog 81 6 = some (6, 76) := by kernel_rfl
theorem tf81_9 : fieldL Try.prog 81 9 = some (9, 79) := by kernel_rfl
theorem tf81_10 : fieldL Try.prog 81 10 = some (10, 80) := by kernel_rfl
theorem tl81 (cs : List LV) : loadL Try.prog 81 cs = if 11 ≤ cs.length then some (.agg (cs.take 11)) else none := rfl
theorem ts81 : sizeL Try.prog 81 = 11 := by kernel_rfl
theorem tb81 : bytesL Try.prog 81 = 48 := by kernel_rfl
theorem tz81 : zeroOk Try.prog 81 = true := by kernel_rfl
theorem to81 : okT Try.prog 81 = true := by kernel_rfl
end Go.Proofs.Ytalpgecmlmpkkaa
