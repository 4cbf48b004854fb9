import Derived.Test.YtpficpldemickaaKN5
import Derived.Test.YtpficpldemickaaNRead
section
set_option linter.unusedSimpArgs false
set_option linter.unusedVariables false
namespace Go.Proofs.Ytpficpldemickaa
open Go.RowKit Go.Proofs AclSpec MetaSpec NodeSpec GSort Flo Ext

end Go.Proofs.Ytpficpldemickaa
end
section
set_option linter.unusedSimpArgs false
set_option linter.unusedVariables false
namespace Go.Proofs.Ytpficpldemickaa
open Go.RowKit Go.Proofs AclSpec MetaSpec NodeSpec GSort Flo Ext

def zeroNode : List LV := [intL 0,intL 0,intL 0,intL 0,intL 0,.sl 0 [] .nil,.sl 0 [] .nil,intL 0,.sl 0 [] .nil,strL [],intL 0,intL 0]
end Go.Proofs.Ytpficpldemickaa
end
section
set_option linter.unusedSimpArgs false
set_option linter.unusedVariables false
namespace Go.Proofs.Ytpficpldemickaa
open Go.RowKit Go.Proofs AclSpec MetaSpec NodeSpec GSort Flo Ext

end Go.Proofs.Ytpficpldemickaa
end
section
set_option linter.unusedSimpArgs false
set_option linter.unusedVariables false
namespace Go.Proofs.Ytpficpldemickaa
open Go.RowKit Go.Proofs AclSpec MetaSpec NodeSpec GSort Flo Ext

theorem writeN_of {n : FNode} {a : Int} {s : List UInt8} {m : List E} (hm : mergedW (n.dat ++ [⟨a,s⟩]) = m) : writeN n a s = if !isFileN n || decide (a < 0) || decide (1099511627776 < a) then (n,1)
  else if 1099511627776 < a + s.length then (n,2)
  else if s = [] then (n,0)
  else if 4000 < sumW m ∨ 16 < m.length then (n,13)
  else ({ n with size := max n.size (a + s.length),dat := m.map fun z => ⟨z.1,roomW (n.dat ++ [⟨a,s⟩]) z⟩ },0) := by
  unfold writeN;rw [hm]
def zm : Meta := ⟨0,0,0,0,[],[]⟩
def k0 : FNode := ⟨2,zm,0,[],[],0,0⟩
def kd : FNode := ⟨1,zm,0,[],[],0,0⟩
theorem small_of {n : FNode} (h : n.mt = zm) (h2 : n.dat.length ≤ 16) (h3 : n.dat.all (fun p => decide (p.dat.length ≤ 16)) = true) : small n := by
  refine ⟨by rw [h];decide,by rw [h];decide,by omega,fun p hp => ?_⟩
  have := of_decide_eq_true (List.all_eq_true.1 h3 p hp)
  omega

end Go.Proofs.Ytpficpldemickaa
end
section
set_option linter.unusedSimpArgs false
set_option linter.unusedVariables false
namespace Go.Proofs.Ytpficpldemickaa
open AclSpec MetaSpec NodeSpec GSort Flo Ext

def pcs (t : List UInt8) : List Piece := if t = [] then [] else [⟨0,t⟩]
def fileP (z : Nat) (t : List UInt8) : FNode := ⟨2,zm,z,pcs t,[],0,0⟩
theorem mayZ : mayM zm = true := by decide +kernel
theorem mayFile_P {z : Nat} {t : List UInt8} (h : t.length ≤ z) (hz : z ≤ 4000) : mayFileN (fileP z t) = true := by
  unfold mayFileN
  simp only [Bool.and_eq_true,Bool.not_eq_true',decide_eq_true_eq,decide_eq_false_iff_not,List.all_eq_true]
  by_cases ht : t = []
  · subst ht
    refine ⟨⟨⟨⟨⟨?_,?_⟩,?_⟩,?_⟩,?_⟩,?_⟩
    · show ¬ (z : Int) < 0;omega
    · show ¬ 1099511627776 < (z : Int);omega
    · show ¬ 16 < 0;omega
    · intro p hp;cases hp
    · show 0 ≤ 4000;omega
    · show (decide (0 ≤ (z : Int)) && decide ((z : Int) ≤ (big : Nat)) && decide (-1 ≤ (z : Int))) = true
      unfold big
      simp;omega
  · have hd : (fileP z t).dat = [⟨0,t⟩] := by simp [fileP,pcs,ht]
    have hb : bytesN (fileP z t) = t.length := by unfold bytesN;rw [hd];simp [bytesP]
    have hl : limN (t.length : Int) = t.length := limN_nat (by unfold big;omega)
    have he : extN (fileP z t) = [(0,t.length)] := by unfold extN;rw [hd];simp only [List.map_cons,List.map_nil,hl];rfl
    have hp : 0 < t.length := List.length_pos_iff.2 ht
    rw [hd,hb,he]
    refine ⟨⟨⟨⟨⟨?_,?_⟩,?_⟩,?_⟩,?_⟩,?_⟩
    · show ¬ (z : Int) < 0;omega
    · show ¬ 1099511627776 < (z : Int);omega
    · show ¬ 16 < 1;omega
    · intro p hp
      simp only [List.mem_cons,List.not_mem_nil,or_false] at hp
      subst hp
      simp [okPiece,ht]
    · omega
    · show (decide (0 ≤ (z : Int)) && decide ((z : Int) ≤ (big : Nat)) && chkE (-1) [(0,t.length)] (z : Int)) = true
      unfold chkE
      rw [if_neg (by simp;exact ht)]
      unfold chkE fin big
      simp;omega
theorem isFile_P {z : Nat} {t : List UInt8} (h : t.length ≤ z) (hz : z ≤ 4000) : isFileN (fileP z t) = true := by
  have h1 := mayFile_P h hz
  unfold isFileN mayN
  rw [h1]
  show (decide ((2 : Int) = 2) && (!decide ((2 : Int) < 1) && !decide ((6 : Int) < 2) && mayM zm && (decide ((2 : Int) = 2) || _) && (decide ((2 : Int) = 3) || decide (([] : List UInt8) = [])) && (decide ((2 : Int) = 4) || decide ((2 : Int) = 5) || noDev (fileP z t)) && (if (2 : Int) = 2 then true else _))) = true
  rw [mayZ]
  rfl
theorem overlay_rep {y : Nat} {t : List UInt8} : overlay (List.replicate y 0) 0 t = t ++ List.replicate (y - t.length) 0 := by
  unfold overlay;simp
theorem write_P {s : List UInt8} (h : s.length ≤ 200) : writeN k0 0 s = (fileP s.length s,0) := by
  by_cases hs : s = []
  · subst hs
    unfold writeN
    rw [if_neg (by decide +kernel),if_neg (by decide +kernel),if_pos rfl];rfl
  · have hp : 0 < s.length := List.length_pos_iff.2 hs
    have hl : limN (s.length : Int) = s.length := limN_nat (by unfold big;omega)
    have hx : exts (k0.dat ++ [(⟨0,s⟩ : Piece)]) = [(0,s.length)] := by
      show [(limN 0,limN (s.length : Int))] = _
      rw [hl];rfl
    have hk : keptE big [(0,s.length)] = [(0,s.length)] := by
      unfold keptE big
      have e : min s.length (1099511627776 - 0) = s.length := by omega
      simp only [List.map_cons,List.map_nil,e]
      simp [hp]
    have hm : mergedW (k0.dat ++ [(⟨0,s⟩ : Piece)]) = [(0,s.length)] := by
      show normE big _ = _
      rw [hx,← normE_of (B := big) (l := [(0,s.length)]) (s := [(0,s.length)])]
      · rfl
      · rw [hk]
      · unfold SortedE;simp
    rw [writeN_of hm,if_neg (by decide +kernel),if_neg (by omega),if_neg hs,if_neg (by simp [sumW];omega)]
    have hr : roomW (k0.dat ++ [(⟨0,s⟩ : Piece)]) (0,s.length) = s := by
      show roomStep (0,s.length) (List.replicate s.length 0) ⟨0,s⟩ = s
      unfold roomStep
      rw [if_pos ⟨by simp,by simp [fin];exact hp⟩]
      show overlay _ 0 s = s
      rw [overlay_rep];simp
    have hmax : max k0.size (0 + (s.length : Int)) = s.length := by show max 0 _ = _;omega
    rw [hmax]
    simp only [List.map_cons,List.map_nil,hr]
    simp only [fileP,pcs,if_neg hs];rfl
theorem may_P {z : Nat} {t : List UInt8} (h : t.length ≤ z) (hz : z ≤ 4000) : mayN (fileP z t) = true := by
  have := isFile_P h hz
  unfold isFileN at this
  simp only [Bool.and_eq_true] at this
  exact this.2
theorem small_P {z : Nat} {t : List UInt8} (h : t.length ≤ 4000) : small (fileP z t) := by
  have hd : ∀ p ∈ (fileP z t).dat,p.dat.length ≤ 4000 := by
    intro p hp
    by_cases ht : t = []
    · subst ht;simp [fileP,pcs] at hp
    · simp [fileP,pcs,ht] at hp;subst hp;exact h
  refine ⟨by show 0 ≤ _;omega,by show 0 ≤ _;omega,?_,fun p hp => by have := hd p hp;omega⟩
  by_cases ht : t = [] <;> simp [fileP,pcs,ht]
theorem nodeL_P (z : Nat) (t : List UInt8) : nodeL (fileP z t) = [intL 2,intL 0,intL 0,intL 0,intL 0,.sl 0 [] .no,.sl 0 [] .no,intL z,piecesL (pcs t),strL [],intL 0,intL 0] := rfl
end Go.Proofs.Ytpficpldemickaa
end
