/-
  THE WALKS of path.Parts, Parent, Last, Join, Under, Depth.
-/
import Derived.Test.YtoahloacafhpdaaDoorMay
namespace Go.Proofs.YtoahloacafhpdaaDoor
open Go.RowKit PathSpec

theorem split_any (l : List UInt8) (w : World) (hw : Ok w) (hs : l.length < 1000000) :
    Calls Tryd.prog 32 #[.string ⟨l.toArray⟩, .string ⟨#[47]⟩] w fun e w' => ∃ v, e = .returned v ∧ Strs w' v (names l) ∧ G w w' := by
  obtain ⟨m, hm⟩ := hw
  refine (Tryd.strings_Split ⟨l.toArray⟩ ⟨#[47]⟩ m w (by show l.toArray.size < _; simp; omega) hm (by decide)).mono ?_
  rintro e w' ⟨rfl, rfl⟩
  refine ⟨_, rfl, ?_, G.alloc _ _⟩
  rw [lib_split, lib_count]
  refine .inr ⟨w.heap.size, 0, _, rfl, ?_⟩
  rw [List.map_map]
  exact row_alloc _ _ _


set_option maxRecDepth 100000 in
set_option maxHeartbeats 400000 in
theorem parts_any (l : List UInt8) (w : World) (hw : Ok w) (hs : l.length < 1000000) :
    Calls Tryd.prog 18 #[.string ⟨l.toArray⟩] w (RetStrs w (partsB l)) := by
  by_cases h0 : l = []
  · subst h0
    go_enter Tryd.func18, Tryd.ntmps18
    go_wp2_with fail
    go_ret
    exact ⟨_, rfl, Strs.nil _, G.refl _⟩
  have g0 : (l == []) = false := by simp [h0]
  have h1 : l.isEmpty = false := by cases l <;> simp_all
  cases hm : mayB l
  · have Hf := Lib.hid (show partsB l = [] by unfold partsB; simp [hm])
    go_enter Tryd.func18, Tryd.ntmps18
    go_wp2_with fail
    refine (may_any l _ hw hs).mono ?_
    rintro e w1 ⟨rfl, g1⟩
    go_wp2_with fail
    go_ret
    rw [Hf.out]
    exact ⟨_, rfl, Strs.nil _, g1⟩
  · have Hf := Lib.hid (show partsB l = names l by unfold partsB; simp [hm, h0])
    go_enter Tryd.func18, Tryd.ntmps18
    go_wp2_with fail
    refine (may_any l _ hw hs).mono ?_
    rintro e w1 ⟨rfl, g1⟩
    go_wp2_with fail
    refine (split_any l _ (hw.of g1) hs).mono ?_
    rintro e w2 ⟨v, rfl, h2, g2⟩
    go_wp2_with fail
    go_ret
    rw [Hf.out]
    exact ⟨_, rfl, h2, g1.trans g2⟩

set_option maxRecDepth 100000 in
set_option maxHeartbeats 400000 in
theorem parent_any (l : List UInt8) (w : World) (hw : Ok w) (hs : l.length < 1000000) :
    Calls Tryd.prog 9 #[.string ⟨l.toArray⟩] w fun e w' => e = .returned (.tuple #[.string ⟨(parentB l).1.toArray⟩, .bool (parentB l).2]) ∧ G w w' := by
  by_cases h0 : l = []
  · subst h0
    go_enter Tryd.func9, Tryd.ntmps9
    go_wp2_with fail
    go_ret2
    exact ⟨rfl, G.refl _⟩
  have g0 : (l == []) = false := by simp [h0]
  cases hm : mayB l
  · have Hf := Lib.hid (show parentB l = ([], false) by unfold parentB; simp [hm])
    go_enter Tryd.func9, Tryd.ntmps9
    go_wp2_with fail
    refine (may_any l _ hw hs).mono ?_
    rintro e w1 ⟨rfl, g1⟩
    go_wp2_with fail
    go_ret2
    rw [Hf.out]
    exact ⟨rfl, g1⟩
  have Hf := Lib.hid (show parentB l = (par l, true) by unfold parentB; simp [hm, h0])
  have Hl := Lib.hid (lib_last (l := l))
  cases hh : has l
  · have Hp := Lib.hid (par_none hh)
    have e1 : Lib.lastIndexByte ⟨l.toArray⟩ 47 = -1 := by rw [Hl.out, hh]; rfl
    go_enter Tryd.func9, Tryd.ntmps9
    go_wp2_with fail
    refine (may_any l _ hw hs).mono ?_
    rintro e w1 ⟨rfl, g1⟩
    go_wp2_with fail
    refine (Tryd.strings_LastIndexByte _ _ (by show l.toArray.size < _; simp; omega) _).mono ?_
    rintro e w2 ⟨rfl, rfl⟩
    rw [e1]
    go_wp2_with fail
    go_ret2
    rw [Hf.out, Hp.out]
    exact ⟨rfl, g1⟩
  · have Hp := Lib.hid (par_split hh)
    have hlen : (par l).length < l.length := by have := congrArg List.length Hp.out; simp at this; omega
    have Ht := Lib.hid (show l.take (par l).length = par l from by have : ∀ p y : List UInt8, l = p ++ y → l.take p.length = p := by (rintro p y rfl; simp)
                                                                   exact this _ _ Hp.out)
    have e1 : Lib.lastIndexByte ⟨l.toArray⟩ 47 = ((par l).length : Int) := by rw [Hl.out, hh]; rfl
    go_enter Tryd.func9, Tryd.ntmps9
    go_wp2_with fail
    refine (may_any l _ hw hs).mono ?_
    rintro e w1 ⟨rfl, g1⟩
    go_wp2_with fail
    refine (Tryd.strings_LastIndexByte _ _ (by show l.toArray.size < _; simp; omega) _).mono ?_
    rintro e w2 ⟨rfl, rfl⟩
    rw [e1]
    go_wp2_with fail
    go_ret2
    rw [Hf.out]
    refine ⟨?_, g1⟩
    show Ending.returned (.tuple #[.string (ByteArray.extract ⟨l.toArray⟩ 0 (par l).length), .bool true]) = _
    rw [ba_extract, Ht.out]; rfl

set_option maxRecDepth 100000 in
set_option maxHeartbeats 400000 in
theorem last_any (l : List UInt8) (w : World) (hw : Ok w) (hs : l.length < 1000000) :
    Calls Tryd.prog 22 #[.string ⟨l.toArray⟩] w fun e w' => e = .returned (.string ⟨(lastB l).toArray⟩) ∧ G w w' := by
  have Hf := Lib.hid (show lastB l = (partsB l).getLastD [] from rfl)
  go_enter Tryd.func22, Tryd.ntmps22
  go_wp2_with fail
  refine (parts_any l _ hw hs).mono ?_
  rintro e w1 ⟨v, rfl, h1, g1⟩
  have hx := partsB_len l
  rcases h1.out with ⟨hv, h0⟩ | ⟨b, off, cap, hv, hr⟩
  · subst hv
    have H0 := Lib.hid h0
    clear h0
    go_wp2_with fail
    go_ret
    rw [Hf.out, H0.out]
    exact ⟨rfl, g1⟩
  · subst hv
    generalize partsB l = xs at *
    rcases List.eq_nil_or_concat xs with h0 | ⟨ys, y, h0⟩
    · subst h0
      go_wp2_with fail
      go_ret
      rw [Hf.out]
      exact ⟨rfl, g1⟩
    have Hy := Lib.hid (show xs.getLastD [] = y by rw [h0]; simp)
    have hc : w1.cell? ⟨b, off + ys.length, none⟩ = some (.string ⟨y.toArray⟩) := hr ys.length y (by rw [h0]; simp)
    have hl : (xs.length : Int) = (ys.length : Int) + 1 := by rw [h0]; simp
    clear hr h0
    go_wp2_with fail
    go_ret
    rw [Hf.out, Hy.out]
    exact ⟨rfl, g1⟩

set_option maxRecDepth 100000 in
set_option maxHeartbeats 400000 in
theorem depth_any (l : List UInt8) (w : World) (hw : Ok w) (hs : l.length < 1000000) :
    Calls Tryd.prog 20 #[.string ⟨l.toArray⟩] w fun e w' => e = .returned (.int .i64 (depthB l)) ∧ G w w' := by
  have Hf := Lib.hid (show depthB l = if mayB l then ((partsB l).length : Int) else -1 from rfl)
  go_enter Tryd.func20, Tryd.ntmps20
  go_wp2_with fail
  refine (may_any l _ hw hs).mono ?_
  rintro e w1 ⟨rfl, g1⟩
  cases hm : mayB l
  · go_wp2_with fail
    go_ret
    rw [Hf.out, hm]
    exact ⟨rfl, g1⟩
  · go_wp2_with fail
    refine (parts_any l _ (hw.of g1) hs).mono ?_
    rintro e w2 ⟨v, rfl, h2, g2⟩
    rcases h2.out with ⟨hv, h0⟩ | ⟨b, off, cap, hv, hr⟩
    · subst hv
      have H0 := Lib.hid h0
      clear h0
      go_wp2_with fail
      go_ret
      rw [Hf.out, H0.out, hm]
      exact ⟨rfl, g1.trans g2⟩
    · subst hv
      clear hr
      go_wp2_with fail
      go_ret
      rw [Hf.out, hm]
      exact ⟨rfl, g1.trans g2⟩

set_option maxRecDepth 100000 in
set_option maxHeartbeats 400000 in
theorem join_any (a b : List UInt8) (w : World) (hw : Ok w) (ha : a.length < 300000) (hb : b.length < 300000) :
    Calls Tryd.prog 11 #[.string ⟨a.toArray⟩, .string ⟨b.toArray⟩] w fun e w' => e = .returned (.tuple #[.string ⟨(joinB a b).1.toArray⟩, .int .i64 (joinB a b).2]) ∧ G w w' := by
  go_enter Tryd.func11, Tryd.ntmps11
  go_wp2_with fail
  refine (may_any a _ hw (by omega)).mono ?_
  rintro e w1 ⟨rfl, g1⟩
  cases hm : mayB a
  · go_wp2_with fail
    go_ret2
    refine ⟨?_, g1⟩
    unfold joinB; rw [hm]; rfl
  go_wp2_with fail
  refine (name_any b _ (by unfold maxLen; omega)).mono ?_
  rintro e w2 ⟨rfl, rfl⟩
  cases hn : nameB b
  · go_wp2_with fail
    go_ret2
    refine ⟨?_, g1⟩
    unfold joinB; rw [hm, hn]; rfl
  by_cases h0 : a = []
  · subst h0
    go_wp2_with fail
    refine (may_any b _ (hw.of g1) (by omega)).mono ?_
    rintro e w3 ⟨rfl, g3⟩
    cases hb' : mayB b
    · go_wp2_with fail
      go_ret2
      refine ⟨?_, g1.trans g3⟩
      simp [joinB, hm, hn, hb']
    · go_wp2_with fail
      go_ret2
      refine ⟨?_, g1.trans g3⟩
      simp [joinB, hm, hn, hb']
  have g0 : (a == []) = false := by simp [h0]
  go_wp2_with fail
  rw [ba_append, ba_append]
  have he : a ++ [47] ++ b = a ++ 47 :: b := by simp
  rw [he]
  generalize hs : a ++ 47 :: b = s
  have hl : s.length < 1000000 := by rw [← hs]; simp; omega
  have Hs := Lib.hid hs
  clear hs he
  refine (may_any s _ (hw.of g1) hl).mono ?_
  rintro e w3 ⟨rfl, g3⟩
  cases hb' : mayB s
  · go_wp2_with fail
    go_ret2
    refine ⟨?_, g1.trans g3⟩
    simp [joinB, hm, hn, h0, Hs.out, hb']
  · go_wp2_with fail
    go_ret2
    refine ⟨?_, g1.trans g3⟩
    simp [joinB, hm, hn, h0, Hs.out, hb']

set_option maxRecDepth 100000 in
set_option maxHeartbeats 400000 in
theorem under_any (s t : List UInt8) (w : World) (hw : Ok w) (hs : s.length < 1000000) (ht : t.length < 1000000) :
    Calls Tryd.prog 24 #[.string ⟨s.toArray⟩, .string ⟨t.toArray⟩] w fun e w' => e = .returned (.bool (underB s t)) ∧ G w w' := by
  go_enter Tryd.func24, Tryd.ntmps24
  go_wp2_with fail
  refine (may_any s _ hw hs).mono ?_
  rintro e w1 ⟨rfl, g1⟩
  cases hm : mayB s
  · go_wp2_with fail
    go_ret
    refine ⟨?_, g1⟩
    simp [underB, hm]
  go_wp2_with fail
  refine (may_any t _ (hw.of g1) ht).mono ?_
  rintro e w2 ⟨rfl, g2⟩
  cases hn : mayB t
  · go_wp2_with fail
    go_ret
    refine ⟨?_, g1.trans g2⟩
    simp [underB, hm, hn]
  by_cases h0 : t = []
  · subst h0
    go_wp2_with fail
    go_ret
    refine ⟨?_, g1.trans g2⟩
    simp [underB, hm, hn]
  have g0 : (t == []) = false := by simp [h0]
  by_cases h1 : s = t
  · subst h1
    go_wp2_with fail
    go_ret
    refine ⟨?_, g1.trans g2⟩
    simp [underB, hm]
  have g3 : (s == t) = false := by simp [h1]
  go_wp2_with fail
  rw [ba_append]
  refine (Tryd.strings_HasPrefix _ _ _).mono ?_
  rintro e w3 ⟨rfl, rfl⟩
  go_wp2_with fail
  go_ret
  refine ⟨?_, g1.trans g2⟩
  simp [underB, hm, hn, h0, h1, Lib.hasPrefix]
end Go.Proofs.YtoahloacafhpdaaDoor
