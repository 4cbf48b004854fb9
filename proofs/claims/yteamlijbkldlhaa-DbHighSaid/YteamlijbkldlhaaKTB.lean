import Derived.Test.YteamlijbkldlhaaKTA
set_option linter.unusedSimpArgs false
set_option linter.unusedVariables false
namespace Go.Proofs.Yteamlijbkldlhaa
open Go.RowKit Go.Proofs PathSpec

def strE (s : List UInt8) : List LV := [strL s]
theorem strE_len (s : List UInt8) : (strE s).length = 1 := rfl
def strsL (l : List (List UInt8)) : LV := rowL strE l
theorem drop_str {l : List (List UInt8)} {i : Nat} {a : List UInt8} (h : l[i]? = some a) : (l.flatMap strE).drop i = strL a :: (l.drop (i + 1)).flatMap strE := by
  have := drop_flat strE 1 strE_len h
  rwa [Nat.mul_one] at this
theorem strE_flen (l : List (List UInt8)) : (l.flatMap strE).length = l.length := by
  have := len_flat strE 1 strE_len l
  rwa [Nat.mul_one] at this
end Go.Proofs.Yteamlijbkldlhaa
