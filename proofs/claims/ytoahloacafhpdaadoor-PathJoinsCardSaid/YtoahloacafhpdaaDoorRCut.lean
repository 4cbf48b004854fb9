/-
  THE WALK of steamerref1.cut.
-/
import Derived.Test.YtoahloacafhpdaaDoorRName
namespace Go.Proofs.YtoahloacafhpdaaDoor
open Go.RowKit PathSpec

theorem infoStr : (Tryd.prog.info? 9).map (fun i => (i.zero, i.size, i.bytes)) = some (some (.string ⟨#[]⟩), 1, 16) := by kernel_rfl
def strVals (cs : List (List UInt8)) : List Value := cs.map (fun x => Value.string ⟨x.toArray⟩)
theorem strVals_snoc (cs : List (List UInt8)) (c : List UInt8) : strVals cs ++ [Value.string ⟨c.toArray⟩] = strVals (cs ++ [c]) := by simp [strVals]

def cutR (l : List UInt8) (w : World) (v f i : Value) (wr : World) : Prop :=
  ∃ (cs : List (List UInt8)) (fn k : Nat), f = .int .i64 fn ∧ i = .int .i64 k ∧ cutInv l cs fn k ∧ wr.ownsRow w.heap.size 9 1 v cs.length (strVals cs) ∧ G w wr

set_option maxRecDepth 100000 in
set_option maxHeartbeats 400000 in
theorem rcut_any (l : List UInt8) (w : World) (hs : l.length < 1000000) :
    Calls Tryd.prog 31 #[.string ⟨l.toArray⟩] w (RetStrs w (names l)) := by
  obtain ⟨i0, hi, hz0, hz1, hz2⟩ := info_parts infoStr
  go_enter Tryd.func31, Tryd.ntmps31
  go_wp2
  go_loopw [3, 4, 5] (fun v f i wr => cutR l w v f i wr) (fun _ _ i _ => l.length + 1 - (intOf i).toNat)
  case atStart => exact ⟨[], 0, 0, rfl, rfl, cutInv_start l, World.ownsRow_nil _ _ _ _, G.refl _⟩
  case round =>
    obtain ⟨cs, fn, k, rfl, rfl, hI, hown, hg⟩ := hrel
    have hk1 := hI.2.1
    have hf := hI.2.2.1
    have hc := hI.1
    by_cases hlt : k ≤ l.length
    · by_cases he : k = l.length
      · have Hn := Lib.hid (cutInv_end hI he)
        have ek : ((k : Int) == (l.length : Int)) = true := by rw [he]; simp
        clear he hI
        go_wp2_with (at_builtin; refine wpList_append_own _ rfl _ _ 29 rfl w.heap.size 9 i0 (.string ⟨#[]⟩) 1 16 Tryd.underlying29 hi hz0 hz1 hz2 rfl (by decide) _ _ _ rfl (hown.alloc _) ⟨_, 0, none⟩ 1 1 [.string (ByteArray.extract ⟨l.toArray⟩ fn k)] rfl rfl (cell_one_new _ _ _) (by simp [Value.oneCell']) (by unfold maxLen; omega) (by omega) (by have := hg.lt; simp; omega) ?_; intro v' w1 hown1 hgrow1 hnil1)
        have g1 := G.grown (hg.trans (G.alloc _ _)) (hown.alloc _) hgrow1
        rw [ba_extract, strVals_snoc] at hown1
        clear hgrow1 hnil1 hown hg
        go_wp2
        go_roundw
        case rel => exact ⟨_, k + 1, k + 1, by go_num, by go_num, Hn.out, by simpa using hown1, g1⟩
        case measure => simp [intOf]; omega
      · have ek : ((k : Int) == (l.length : Int)) = false := by rw [beq_eq_false_iff_ne]; omega
        have hlt' : k < l.length := by omega
        have hb : (⟨l.toArray⟩ : ByteArray)[k]'hlt' = l[k] := rfl
        by_cases h47 : l[k] = 47
        · have g47 : ((l[k].toNat : Int) == 47) = true := by rw [h47]; rfl
          have Hn := Lib.hid (cutInv_sep hI hlt' h47)
          clear h47 hI he
          go_wp2_with (at_builtin; refine wpList_append_own _ rfl _ _ 29 rfl w.heap.size 9 i0 (.string ⟨#[]⟩) 1 16 Tryd.underlying29 hi hz0 hz1 hz2 rfl (by decide) _ _ _ rfl (hown.alloc _) ⟨_, 0, none⟩ 1 1 [.string (ByteArray.extract ⟨l.toArray⟩ fn k)] rfl rfl (cell_one_new _ _ _) (by simp [Value.oneCell']) (by unfold maxLen; omega) (by omega) (by have := hg.lt; simp; omega) ?_; intro v' w1 hown1 hgrow1 hnil1)
          have g1 := G.grown (hg.trans (G.alloc _ _)) (hown.alloc _) hgrow1
          rw [ba_extract, strVals_snoc] at hown1
          clear hgrow1 hnil1 hown hg
          go_wp2
          go_roundw
          case rel => exact ⟨_, k + 1, k + 1, by go_num, by go_num, Hn.out, by simpa using hown1, g1⟩
          case measure => simp [intOf]; omega
        · have g47 : ((l[k].toNat : Int) == 47) = false := by rw [show (47 : Int) = ((47 : UInt8).toNat : Int) from rfl, byte_eq]; simp [h47]
          have Hn := Lib.hid (cutInv_skip hI hlt' h47)
          clear h47 hI he
          go_wp2
          go_roundw
          case rel => exact ⟨_, fn, k + 1, by go_num, by go_num, Hn.out, hown, hg⟩
          case measure => simp [intOf]; omega
    · have Hd := Lib.hid (cutInv_done hI hlt)
      clear hI
      go_wp2
      go_ret
      refine ⟨_, rfl, ?_, hg⟩
      rw [← Hd.out]
      exact Strs.own hown
end Go.Proofs.YtoahloacafhpdaaDoor
