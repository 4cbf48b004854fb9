import Derived.Test.YteamlijbkldlhaaGreatDoorNRef
set_option linter.unusedSimpArgs false
set_option linter.unusedVariables false
namespace Go.Proofs.YteamlijbkldlhaaGreatDoor.NodeSpec
open AclSpec MetaSpec GSort Flo Ext

structure FileM (mt : FMeta) (n : FNode) : Prop where
 file : isFileN n = true
 shape : n = ⟨2,mt,n.size,n.dat,[],0,0⟩
theorem FileM.with {mt : FMeta} {n : FNode} (h : FileM mt n) (z : Int) (l : List Piece) : ({ n with size := z,dat := l } : FNode) = ⟨2,mt,z,l,[],0,0⟩ := by
 rw [h.shape]
theorem FileM.of {mt : FMeta} {z : Int} {l : List Piece} (h : isFileN ⟨2,mt,z,l,[],0,0⟩ = true) : FileM mt ⟨2,mt,z,l,[],0,0⟩ := ⟨h,rfl⟩
theorem write_keep {mt : FMeta} {n : FNode} {a : Int} {s : List UInt8} (hm : mayM mt = true) (h : FileM mt n) : FileM mt (writeN n a s).1 := by
 unfold writeN
 split
 ·exact h
 rename_i hc
 split
 ·exact h
 rename_i h1
 split
 ·exact h
 rename_i hs
 split
 ·exact h
 rename_i hb
 have h0 : 0 ≤ a := by
  rw [h.file] at hc
  simp at hc
  omega
 have hok : ∀ p ∈ n.dat ++ [(⟨a,s⟩ : Piece)],okP p := by
  intro p hp
  rcases List.mem_append.1 hp with hp | hp
  ·exact file_okP h.file p hp
  ·rw [List.mem_singleton] at hp
   subst hp
   exact ⟨hs,h0,by show a + (s.length : Int) ≤ _;omega⟩
 obtain ⟨_,z1,z2,_⟩ := isFile_ok h.file
 have hsep := wrote_sep hok
 have hsl : 0 < s.length := List.length_pos_iff.2 hs
 have hend : ∀ p ∈ wroteP (n.dat ++ [⟨a,s⟩]),p.pos + p.dat.length ≤ max n.size (a + s.length) := by
  intro p hp
  have hpo := hsep.2 p hp
  have hlast : MemP (wroteP (n.dat ++ [⟨a,s⟩])) (p.pos + p.dat.length - 1) := ⟨p,hp,by have := List.length_pos_iff.2 hpo.1;unfold InP;omega⟩
  rw [wrote_mem hok,memP_append,memP_one] at hlast
  rcases hlast with ⟨x,hx,hi⟩ | hi
  ·have := file_end h.file x hx
   unfold InP at hi;omega
  ·unfold InP at hi;simp only at hi;omega
 have e1 := wrote_bytes hok
 have e2 := wrote_len (n.dat ++ [(⟨a,s⟩ : Piece)])
 show FileM mt { n with size := max n.size (a + s.length),dat := wroteP (n.dat ++ [⟨a,s⟩]) }
 rw [h.with]
 exact .of (isFile_of hm hsep (by omega) (by omega) (by omega) (by omega) hend)
theorem cut_bytes : ∀ (l : List Piece) (s : Int),bytesP (cutP l s) ≤ bytesP l
 | [],s => by simp [cutP,bytesP]
 | x :: r,s => by
  have ih := cut_bytes r s
  unfold cutP bytesP at *
  rw [List.takeWhile_cons]
  split
  ·simp only [List.map_cons,List.sum_cons,List.foldr_cons,List.length_take] at ih ⊢
   omega
  ·simp
theorem cut_keep {mt : FMeta} {n : FNode} {a : Int} (hm : mayM mt = true) (h : FileM mt n) : FileM mt (cutN n a).1 := by
 unfold cutN
 split
 ·exact h
 rename_i hc
 have h0 : 0 ≤ a ∧ a ≤ 1099511627776 := by
  rw [h.file] at hc
  simp at hc
  omega
 have hsep := file_sep h.file
 obtain ⟨hs1,hs2⟩ := cut_sep (s := a) hsep
 have hend : ∀ p ∈ cutP n.dat a,p.pos + p.dat.length ≤ a := fun p hp => by obtain ⟨x,_,_,h2⟩ := hs2 p hp;exact h2
 have hln : (cutP n.dat a).length ≤ n.dat.length := by
  unfold cutP;rw [List.length_map];exact (List.takeWhile_sublist _).length_le
 have hby : bytesP (cutP n.dat a) ≤ bytesP n.dat := cut_bytes n.dat a
 have h16 := (isFile_ok h.file).2.2.2.1
 have hb4 : bytesP n.dat ≤ 4000 := (isFile_ok h.file).2.2.2.2.2.1
 show FileM mt { n with size := a,dat := cutP n.dat a }
 rw [h.with]
 exact .of (isFile_of hm hs1 (by omega) (by omega) h0.1 h0.2 hend)
end Go.Proofs.YteamlijbkldlhaaGreatDoor.NodeSpec
