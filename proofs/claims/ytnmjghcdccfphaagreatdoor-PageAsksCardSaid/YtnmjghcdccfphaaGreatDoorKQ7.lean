import Derived.Test.YtnmjghcdccfphaaGreatDoorKQ3
import Derived.Test.YtnmjghcdccfphaaGreatDoorKQ5
import Derived.Test.YtnmjghcdccfphaaGreatDoorPQP
section
set_option linter.unusedSimpArgs false
set_option linter.unusedVariables false
namespace Go.Proofs.YtnmjghcdccfphaaGreatDoor
open Go.RowKit Go.Proofs AclSpec MetaSpec NodeSpec RecSpec PathSpec PageSpec

section
variable {α : Type} {f : Rdr α}
theorem qRep_len : ∀ (k : Nat) (s : Rd),(qRep f k s).1.length ≤ k
 | 0,_ => Nat.le_refl _
 | k + 1,s => by
  by_cases h : s.bad = true
  ·rw [qRep_bad _ h];exact Nat.zero_le _
  ·rw [qRep_succ k (by simpa using h)]
   exact Nat.succ_le_succ (qRep_len k _)
theorem qRep_all {P : α → Prop} (h : ∀ s,P (f s).1) : ∀ (k : Nat) (s : Rd),∀ a ∈ (qRep f k s).1,P a
 | 0,_,a,ha => by cases ha
 | k + 1,s,a,ha => by
  by_cases hb : s.bad = true
  ·rw [qRep_bad _ hb] at ha;cases ha
  ·rw [qRep_succ k (by simpa using hb)] at ha
   rcases List.mem_cons.1 ha with rfl | ha
   ·exact h s
   ·exact qRep_all h k _ a ha
end
theorem qMeta_small (b : List UInt8) (s : Rd) : (qMeta b s).1.attrs.length ≤ 8 ∧ (qMeta b s).1.acl.length ≤ 16 ∧ (qMeta b s).1.time < 9223372036854775808 := by
 unfold qMeta
 refine bindR_all (P := fun m : FMeta => m.attrs.length ≤ 8 ∧ m.acl.length ≤ 16 ∧ m.time < 9223372036854775808) (fun mo t => ?_) s
 refine bindR_all (P := fun m : FMeta => m.attrs.length ≤ 8 ∧ m.acl.length ≤ 16 ∧ m.time < 9223372036854775808) (fun u t => ?_) t
 refine bindR_all (P := fun m : FMeta => m.attrs.length ≤ 8 ∧ m.acl.length ≤ 16 ∧ m.time < 9223372036854775808) (fun g t => ?_) t
 refine bindR_two (P := fun x : Int => x < 9223372036854775808) (Q := fun m : FMeta => m.attrs.length ≤ 8 ∧ m.acl.length ≤ 16 ∧ m.time < 9223372036854775808) (fun s => ?_) (fun ti hti t => ?_) t
 ·show ((qNum b 9223372036854775807 s).1 : Int) < _
  have := qNum_le b 9223372036854775807 s
  omega
 refine bindR_two (P := fun n : Nat => n ≤ 8) (Q := fun m : FMeta => m.attrs.length ≤ 8 ∧ m.acl.length ≤ 16 ∧ m.time < 9223372036854775808) (fun s => qNum_le b 8 s) (fun na hna t => ?_) t
 refine bindR_two (P := fun l : List Attr => l.length ≤ 8) (Q := fun m : FMeta => m.attrs.length ≤ 8 ∧ m.acl.length ≤ 16 ∧ m.time < 9223372036854775808) (fun s => Nat.le_trans (qRep_len na s) hna) (fun ats ha t => ?_) t
 refine bindR_two (P := fun n : Nat => n ≤ 16) (Q := fun m : FMeta => m.attrs.length ≤ 8 ∧ m.acl.length ≤ 16 ∧ m.time < 9223372036854775808) (fun s => qNum_le b 16 s) (fun nc hnc t => ?_) t
 refine bindR_two (P := fun l : List Ace => l.length ≤ 16) (Q := fun m : FMeta => m.attrs.length ≤ 8 ∧ m.acl.length ≤ 16 ∧ m.time < 9223372036854775808) (fun s => Nat.le_trans (qRep_len nc s) hnc) (fun acs hac t => ?_) t
 exact ⟨ha,hac,hti⟩
theorem qPc_len (b : List UInt8) (s : Rd) : (qPc b s).1.dat.length ≤ 1000000 := by
 show (itoB (qNum b 4000 (qNum b 1099511627776 s).2).1).length ≤ _
 have h := ito_len 3 (qNum b 4000 (qNum b 1099511627776 s).2).1 (by have := qNum_le b 4000 (qNum b 1099511627776 s).2;omega)
 exact Nat.le_trans h (by omega)
def fitN (n : FNode) : Prop := small n ∧ n.mt.time < 9223372036854775808 ∧ n.target.length ≤ 200
theorem qNode_fit (b : List UInt8) (s : Rd) : fitN (qNode b s).1.1 := by
 have ht : ∀ (c : Prop) [Decidable c] (f g : Rdr (FNode × Int)) (t : Rd),(if c then f else g) t = if c then f t else g t := by
  intro c _ f g t
  by_cases h : c
  ·rw [if_pos h,if_pos h]
  ·rw [if_neg h,if_neg h]
 have hz : fitN zeroN := ⟨⟨by decide,by decide,by decide,fun p hp => by cases hp⟩,by decide,by decide⟩
 have hR : qNode b s = if (qByte b s).1 = 0 then ((zeroN,0),(qByte b s).2) else qBody b (qByte b s).1 (qMeta b (qByte b s).2).1 (qMeta b (qByte b s).2).2 := ht _ _ _ _
 rw [hR]
 split
 ·exact hz
 obtain ⟨h1,h2,h3⟩ := qMeta_small b (qByte b s).2
 generalize qMeta b (qByte b s).2 = q at *
 obtain ⟨m,t⟩ := q
 simp only at h1 h2 h3 ⊢
 have hm : ∀ (k sz : Int) (tg : List UInt8) (x y : Int),tg.length ≤ 200 → fitN ⟨k,m,sz,[],tg,x,y⟩ := fun k sz tg x y htg => ⟨⟨by show m.attrs.length ≤ _;omega,by show m.acl.length ≤ _;omega,Nat.zero_le _,fun p hp => by cases hp⟩,h3,htg⟩
 unfold qBody
 rw [ht,ht,ht]
 split
 ·have hp : ∀ (sz : Int) (k : Nat) (t' : Rd),k ≤ 16 → fitN ⟨2,m,sz,(qRep (qPc b) k t').1,[],0,0⟩ := fun sz k t' hk =>
   ⟨⟨by show m.attrs.length ≤ _;omega,by show m.acl.length ≤ _;omega,by show (qRep (qPc b) k t').1.length ≤ _;have := qRep_len (f := qPc b) k t';omega,qRep_all (P := fun p : Piece => p.dat.length ≤ 1000000) (qPc_len b) _ _⟩,h3,Nat.zero_le _⟩
  have h16 := qNum_le b 16 (qNum b 1099511627776 t).2
  rw [qFile_eq b m t (sz := (qNum b 1099511627776 t).1) (s12 := (qNum b 1099511627776 t).2) (np := (qNum b 16 (qNum b 1099511627776 t).2).1) (s13 := (qNum b 16 (qNum b 1099511627776 t).2).2) (ps := (qRep (qPc b) (qNum b 16 (qNum b 1099511627776 t).2).1 (qNum b 16 (qNum b 1099511627776 t).2).2).1) (s14 := (qRep (qPc b) (qNum b 16 (qNum b 1099511627776 t).2).1 (qNum b 16 (qNum b 1099511627776 t).2).2).2) rfl rfl rfl]
  split
  ·exact hp _ _ _ h16
  ·exact hp _ _ _ h16
 ·split
  ·exact hm _ _ _ _ _ (qText_le b 200 t)
  ·split
   ·exact hm _ _ _ _ _ (Nat.zero_le _)
   ·exact hm _ _ _ _ _ (Nat.zero_le _)
def fitR (r : Rec) : Prop := r.path.length ≤ 100 ∧ fitN r.node
theorem qRec_fit (b : List UInt8) (s : Rd) : fitR (qRec b s).1 := by
 unfold qRec
 refine bindR_two (P := fun l : List UInt8 => l.length ≤ 100) (Q := fitR) (fun s => qText_le b 100 s) (fun p hp t => ?_) s
 refine bindR_all (P := fitR) (fun l t => ?_) t
 refine bindR_two (P := fun q : FNode × Int => fitN q.1) (Q := fitR) (fun s => qNode_fit b s) (fun q hq t => ?_) t
 exact ⟨hp,hq⟩
theorem qKey_fit (b : List UInt8) (s : Rd) : (qKey b s).1.1.length ≤ 100 := qText_le b 100 s
end Go.Proofs.YtnmjghcdccfphaaGreatDoor
end
section
set_option linter.unusedSimpArgs false
set_option linter.unusedVariables false
namespace Go.Proofs.YtnmjghcdccfphaaGreatDoor
open Nat renaming reduceAdd → zz1,reduceMul → zz2,reduceSub → zz3,reduceLT → zz4,reduceLeDiff → zz5,reduceEqDiff → zz6,reduceBEq → zzf
open Int renaming reduceAdd → zz7,reduceSub → zz8,reduceMul → zz9,reduceLT → zza,reduceLE → zzb,reduceEq → zzc,reduceNeg → zzd,reduceToNat → zze
open Op renaming operands → zo
open Call renaming operands → zc
open Go.RowKit Go.Proofs AclSpec MetaSpec NodeSpec RecSpec PathSpec PageSpec

theorem qPage_eq (b : List UInt8) (s0 : Rd) {k n : Nat} {s1 s2 : Rd} (h1 : qByte b s0 = (k,s1)) (h2 : qNum b 4 s1 = (n,s2)) :
  qPage b s0 = if k = 1 then (⟨true,(qRep (qRec b) n s2).1,[],[]⟩,(qRep (qRec b) n s2).2) else (⟨false,[],(qRep (qKey b) n s2).1.map (·.1),(qRep (qKey b) n s2).1.map (·.2)⟩,(qRep (qKey b) n s2).2) := by
 have e : qPage b s0 = (bindR (qNum b 4) fun n => if (qByte b s0).1 = 1 then bindR (qRep (qRec b) n) fun rs => pureR (⟨true,rs,[],[]⟩ : Pg) else bindR (qRep (qKey b) n) fun ks => pureR (⟨false,[],ks.map (·.1),ks.map (·.2)⟩ : Pg)) (qByte b s0).2 := rfl
 rw [e,h1]
 show (if k = 1 then bindR (qRep (qRec b) (qNum b 4 s1).1) fun rs => pureR (⟨true,rs,[],[]⟩ : Pg) else bindR (qRep (qKey b) (qNum b 4 s1).1) fun ks => pureR (⟨false,[],ks.map (·.1),ks.map (·.2)⟩ : Pg)) (qNum b 4 s1).2 = _
 rw [h2]
 by_cases h : k = 1
 ·rw [if_pos h,if_pos h];rfl
 ·rw [if_neg h,if_neg h];rfl
set_option maxRecDepth 100000 in
set_option maxHeartbeats 16000000 in
theorem qgetpg_O (b : List UInt8) (hb : b.length ≤ 1000000) :
  OCalls Tryz.prog 9 [strL b] ⟨[],[],[]⟩ (.tup [.agg (pgL (getPg b).1),intL (getPg b).2]) ⟨[],[],[]⟩ := by
 rw [← qPage_get]
 refine OCalls.of (fun _ => false) Tryz.func9 rfl (by decide) Tryz.ntmps9 Tryz.results9 (by simp) ?_
 intro w0 S0 vs
 generalize hR : qGetPg b = R
 unfold qGetPg at hR
 have c1 := cbyte_S b hb ⟨0,false⟩ (Nat.zero_le _)
 have p1 := (qByte_ok b).pos ⟨0,false⟩ (Nat.zero_le _)
 have hQ := fun (k n : Nat) (s1 s2 : Rd) => qPage_eq b ⟨0,false⟩ (k := k) (n := n) (s1 := s1) (s2 := s2)
 generalize qByte b ⟨0,false⟩ = q1 at *
 obtain ⟨k,s1⟩ := q1
 simp only at c1 p1
 have c2 := cnum_I b hb s1 p1 4 (by decide) 4 rfl
 have p2 := (qNum_ok b 4 (by decide)).pos s1 p1
 have l2 := qNum_le b 4 s1
 generalize hq2 : qNum b 4 s1 = q2 at *
 obtain ⟨n,s2⟩ := q2
 simp only at c2 p2 l2
 have hQ := hQ k n s1 s2 rfl hq2
 simp only [cL] at c1 c2
 refine Yg0 ?_
 (repeat refine LW_seq ?_)
 (repeat (first | refine LW_seq ?_ | (refine LW_skip ?_;simp only [LSj,reduceIte,zze]) | refine LW_block ?_));refine LW_regionO [(15,⟨_,_,_,_,_,[(13,1000)],[(2000,13)],_,[1000013],(c1).toS,rfl,rfl,rfl⟩)] ?_;intro K hK;simp only [LZ,zo,zc,reduceCtorEq,reduceIte,zz1,zz2,zz3,zz4,zz5,zz6,zz7,zz8,zz9,zza,zzb,zzc,zzd,zze,zzf]
 refine hK _ ?_;clear hK K;try refine Wh0 ?_
 refine Yg0 ?_
 (repeat refine LW_seq ?_)
 (repeat (first | refine LW_seq ?_ | (refine LW_skip ?_;simp only [LSj,reduceIte,zze]) | refine LW_block ?_));refine LW_regionO [(17,⟨_,_,_,_,_,[(13,1000)],[(2000,13)],_,[1000013],(c2).toS,rfl,rfl,rfl⟩)] ?_;intro K hK;simp only [LZ,zo,zc,reduceCtorEq,reduceIte,zz1,zz2,zz3,zz4,zz5,zz6,zz7,zz8,zz9,zza,zzb,zzc,zzd,zze,zzf]
 refine hK _ ?_;clear hK K;try refine Wh0 ?_
 refine LW_slim (fun st => st.env 0 = strL b ∧ st.env 2 = .ptr 2 0 ∧ st.box 2 = some [boolL false,.sl 0 [] .nil,.sl 0 [] .nil,.sl 0 [] .nil] ∧ st.env 4 = .ptr 13 0 ∧ st.box 13 = some [strL b,intL s2.pos,boolL s2.bad] ∧ (st.mode = fun _ => false) ∧ st.env 5 = intL k ∧ st.env 6 = intL n) ⟨Yq0,Yq0,Yq0,Yq0,Yq0,Yq0,Yq0,Yq0⟩ ?_
 rintro st ⟨e0,e2,b2,e4,b13,hmd,e5,e6⟩
 have hki : decide ((k : Int) = 1) = decide (k = 1) := by rw [decide_eq_decide];omega
 refine Yg1 (fa2 @e5 @hki) ?_
 refine LW_slim (fun st => st.env 0 = strL b ∧ st.env 2 = .ptr 2 0 ∧ st.box 2 = some [boolL false,.sl 0 [] .nil,.sl 0 [] .nil,.sl 0 [] .nil] ∧ st.env 4 = .ptr 13 0 ∧ st.box 13 = some [strL b,intL s2.pos,boolL s2.bad] ∧ (st.mode = fun _ => false) ∧ st.env 6 = intL n ∧ st.env 7 = .ptr 7 0 ∧ st.box 7 = some [boolL (decide (k = 1)),.sl 0 [] .nil,.sl 0 [] .nil,.sl 0 [] .nil] ∧ st.env 8 = intL 0) ⟨(Yq1 @e0),(Yq1 @e2),(Yq1 @b2),(Yq1 @e4),(Yq1 @b13),(Yq1 @hmd),(Yq1 @e6),Yq0,Yq0,Yq0⟩ ?_
 clear e0 e2 b2 e4 b13 hmd e5 e6 st
 rintro st ⟨e0,e2,b2,e4,b13,hmd,e6,e7,b7,e8⟩
 have hfit : SmallP (qPage b ⟨0,false⟩).1 ∧ okTime (qPage b ⟨0,false⟩).1 ∧ ∀ r ∈ (qPage b ⟨0,false⟩).1.recs,r.node.target.length ≤ maxLen := by
  rw [hQ]
  split
  ·have h1 := qRep_len (f := qRec b) n s2
   have h2 := qRep_all (f := qRec b) (P := fitR) (qRec_fit b) n s2
   refine ⟨⟨by show (qRep (qRec b) n s2).1.length ≤ _;omega,Nat.zero_le _,Nat.zero_le _,fun r hr => ⟨by have := (h2 r hr).1;omega,(h2 r hr).2.1⟩,fun x hx => by cases hx⟩,fun r hr => (h2 r hr).2.2.1,fun r hr => ?_⟩
   have := (h2 r hr).2.2.2
   unfold maxLen;omega
  ·have h1 := qRep_len (f := qKey b) n s2
   have h2 := qRep_all (f := qKey b) (P := fun q => q.1.length ≤ 100) (qKey_fit b) n s2
   refine ⟨⟨Nat.zero_le _,by show ((qRep (qKey b) n s2).1.map (·.1)).length ≤ _;rw [List.length_map];omega,by show ((qRep (qKey b) n s2).1.map (·.2)).length ≤ _;rw [List.length_map];omega,(fun r hr => by cases hr),fun x hx => ?_⟩,(fun r hr => by cases hr),(fun r hr => by cases hr)⟩
   obtain ⟨q,hq,rfl⟩ := List.mem_map.1 hx
   have := h2 q hq
   omega
 generalize qPage b ⟨0,false⟩ = Q at *
 obtain ⟨p,sF⟩ := Q
 simp only at hR hfit
 refine LW_joinB (fun st => st.env 0 = strL b ∧ st.env 2 = .ptr 2 0 ∧ st.box 2 = some [boolL false,.sl 0 [] .nil,.sl 0 [] .nil,.sl 0 [] .nil] ∧ st.env 4 = .ptr 13 0 ∧ st.box 13 = some [strL b,intL sF.pos,boolL sF.bad] ∧ (st.mode = fun _ => false) ∧ st.env 7 = .ptr 7 0 ∧ ∃ t1 t2 t3,st.box 7 = some (pgT p t1 t2 t3)) ?_ ?_
 ·by_cases hk : k = 1
  ·rw [if_pos hk] at hQ
   rw [decide_eq_true hk] at b7
   generalize hP : qRep (qRec b) n s2 = qa at *
   obtain ⟨rs,sE⟩ := qa
   have hp1 : p = ⟨true,rs,[],[]⟩ := congrArg Prod.fst hQ
   have hp2 : sF = sE := congrArg Prod.snd hQ
   subst hp1 hp2
   refine LW_nilBox (cs := [boolL true,.sl 0 [] .nil,.sl 0 [] .nil,.sl 0 [] .nil]) 7 1 1001 56 (Yq1 @b7) rfl ?_
   refine LW_loop (fun m st => ∃ (i : Nat) (s' : Rd) (acc : List Rec),m + i = n ∧ s'.pos ≤ b.length ∧ acc.length ≤ i ∧ acc ++ (qRep (qRec b) (n - i) s').1 = rs ∧ (qRep (qRec b) (n - i) s').2 = sF ∧ st.env 0 = strL b ∧ st.env 2 = .ptr 2 0 ∧ st.box 2 = some [boolL false,.sl 0 [] .nil,.sl 0 [] .nil,.sl 0 [] .nil] ∧ st.env 4 = .ptr 13 0 ∧ st.box 13 = some [strL b,intL s'.pos,boolL s'.bad] ∧ (st.mode = fun _ => false) ∧ st.env 6 = intL n ∧ st.env 7 = .ptr 7 0 ∧ st.box 7 = some [boolL true,.sl acc.length (acc.flatMap recL) (.row 1001),.sl 0 [] .nil,.sl 0 [] .nil] ∧ st.row 1001 = some (56,acc.length) ∧ st.env 8 = intL i) n ⟨0,s2,[],by omega,p2,by simp,by rw [Nat.sub_zero,hP];rfl,by rw [Nat.sub_zero,hP],(Yq1 @e0),(Yq1 @e2),(Yq1 @b2),(Yq1 @e4),(Yq1 @b13),(Yq1 @hmd),(Yq1 @e6),(Yq1 @e7),(by first | exact rfl | assumption | (simp only [LZ,zo,zc,reduceCtorEq,reduceIte,zz1,zz2,zz3,zz4,zz5,zz6,zz7,zz8,zz9,zza,zzb,zzc,zzd,zze,zzf,setZ,setS,List.flatMap_nil,List.length_nil] <;> exact rfl)),(by first | exact rfl | assumption | (simp only [LZ,zo,zc,reduceCtorEq,reduceIte,zz1,zz2,zz3,zz4,zz5,zz6,zz7,zz8,zz9,zza,zzb,zzc,zzd,zze,zzf,List.length_nil] <;> exact rfl)),(Yq1 @e8)⟩ ?_
   clear e0 e2 b2 e4 b13 hmd e6 e7 b7 e8 st
   rintro m st ⟨i,s',acc,hm,ps',hacc,hr1,hr2,e0,e2,b2,e4,b13,hmd,e6,e7,b7,r1001,e8⟩
   by_cases hst : ¬ i < n ∨ s'.bad = true
   ·have hq : qRep (qRec b) (n - i) s' = ([],s') := by
     rcases hst with h | h
     ·rw [show n - i = 0 by omega];rfl
     ·exact qRep_bad _ h
    rw [hq] at hr1 hr2
    have hr1 : acc = rs := by simpa using hr1
    have hr2 : s' = sF := hr2
    by_cases hi0 : i < n
    rotate_left
    ·have hii : ¬ ((i : Int) < (n : Int)) := by omega
     refine Yg1 (fa5 @e4 @b13 @e6 @e8 @hii) ?_
     refine Yf0 ?_
     refine LW_exit ?_;simp only [thenL,jumpsL,inBlockL,twoL,reduceIte,Nat.reduceEqDiff]
     rw [← hr1,← hr2]
     exact ⟨(Yq1 @e0),(Yq1 @e2),(Yq1 @b2),(Yq1 @e4),(Yq1 @b13),(Yq1 @hmd),(Yq1 @e7),.row 1001,.nil,.nil,b7.trans (by simp only [pgT,List.length_map,List.flatMap_nil,List.length_nil])⟩
    ·have hii : ((i : Int) < (n : Int)) = True := eq_true (by omega)
     have hbd : s'.bad = true := hst.resolve_left (fun c => c hi0)
     have b13' := b13
     rw [hbd] at b13'
     refine Yg1 (fa5 @e4 @b13' @e6 @e8 @hii) ?_
     refine Yf0 ?_
     refine LW_exit ?_;simp only [thenL,jumpsL,inBlockL,twoL,reduceIte,Nat.reduceEqDiff]
     rw [← hr1,← hr2]
     exact ⟨(Yq1 @e0),(Yq1 @e2),(Yq1 @b2),(Yq1 @e4),(Yq1 @b13),(Yq1 @hmd),(Yq1 @e7),.row 1001,.nil,.nil,b7.trans (by simp only [pgT,List.length_map,List.flatMap_nil,List.length_nil])⟩
   have hi0 : i < n := Classical.byContradiction fun c => hst (.inl c)
   have hbd : s'.bad = false := by
    cases h : s'.bad
    ·rfl
    ·exact absurd (.inr h) hst
   rw [show n - i = (n - (i + 1)) + 1 by omega,qRep_succ _ hbd] at hr1 hr2
   have hii : ((i : Int) < (n : Int)) = True := eq_true (by omega)
   have hw := w64s (n := i) (by omega)
   rw [hbd] at b13
   have ca := crec_S b hb s' ps'
   have pa := (qRec_ok b).pos s' ps'
   generalize qRec b s' = qx at *
   obtain ⟨r,sa⟩ := qx
   simp only at hr1 hr2 ca pa
   simp only [cL,hbd,recL,nodeL,attrsL,acesL,piecesL,rowL,List.cons_append,List.nil_append] at ca
   have hfl := recL_flen acc
   have hst := recL_strip acc
   have hap : (acc ++ [r]).flatMap recL = acc.flatMap recL ++ [strL r.path,intL r.lead,intL r.node.kind,intL r.node.mt.mode,intL r.node.mt.uid,intL r.node.mt.gid,intL r.node.mt.time,.sl r.node.mt.attrs.length (r.node.mt.attrs.flatMap attrL) .no,.sl r.node.mt.acl.length (r.node.mt.acl.flatMap aceL) .no,intL r.node.size,.sl r.node.dat.length (r.node.dat.flatMap pieceL) .no,strL r.node.target,intL r.node.major,intL r.node.minor,intL r.pos] := by
    rw [List.flatMap_append];rfl
   have hal : (acc ++ [r]).length = acc.length + 1 := by rw [List.length_append,List.length_singleton]
   refine Yg1 (fa5 @e4 @b13 @e6 @e8 @hii) ?_
   refine Yt0 ?_
   refine LW_skip ?_
   simp only [LSj,reduceIte,zze]
   refine LW_seq ?_
   refine LW_block ?_
   (repeat refine LW_seq ?_)
   refine Yg1 (fa2 @e7 @b7) ?_
   refine Yt0 ?_
   (repeat refine LW_seq ?_)
   (repeat (first | refine LW_seq ?_ | (refine LW_skip ?_;simp only [LSj,reduceIte,zze]) | refine LW_block ?_));refine LW_mix2 [(38,⟨_,_,_,_,_,[(13,1000)],[(2000,13)],_,[1000013],(ca).toS,rfl,rfl,rfl⟩)] [38] (fun _ => false) [(0,[7,1001]),(1,[7,1001]),(2,[13]),(3,[7,1001])] [0,1,2] [[3,4,5,6,7]] rfl (by kernel_rfl) (by kernel_rfl) (by kernel_rfl) (by first | exact rfl | exact hmd | simp only [LZ,zo,zc,reduceCtorEq,reduceIte,zz1,zz2,zz3,zz4,zz5,zz6,zz7,zz8,zz9,zza,zzb,zzc,zzd,zze,zzf,e4,b13,e7,b7,r1001,hmd,hfl,hst]) ?_;intro K hK;simp only [LZ,zo,zc,reduceCtorEq,reduceIte,zz1,zz2,zz3,zz4,zz5,zz6,zz7,zz8,zz9,zza,zzb,zzc,zzd,zze,zzf,e4,b13,e7,b7,r1001,hmd,hfl,hst]
   refine ⟨by (repeat' apply And.intro) <;> first | omega | (unfold maxLen;omega),?_⟩
   refine hK _ ?_;clear hK K;try refine Wh0 ?_
   refine Yg1 (fa2 @e8 @hw) ?_
   refine ⟨m - 1,by omega,i + 1,sa,acc ++ [r],by omega,pa,by rw [hal];omega,by rw [List.append_assoc];exact hr1,hr2,(Yq1 @e0),(Yq1 @e2),(Yq1 @b2),(Yq1 @e4),Yq0,(Yq1 @hmd),(Yq1 @e6),(Yq1 @e7),by rw [hap,hal];exact Yq0,by rw [hal];exact Yq0,(Yq1 @hw)⟩
  ·rw [if_neg hk] at hQ
   rw [decide_eq_false hk] at b7
   generalize hP : qRep (qKey b) n s2 = qa at *
   obtain ⟨ks,sE⟩ := qa
   have hp1 : p = ⟨false,[],ks.map (·.1),ks.map (·.2)⟩ := congrArg Prod.fst hQ
   have hp2 : sF = sE := congrArg Prod.snd hQ
   subst hp1 hp2
   refine LW_nilBox (cs := [boolL false,.sl 0 [] .nil,.sl 0 [] .nil,.sl 0 [] .nil]) 7 2 1001 9 (Yq1 @b7) rfl ?_
   refine LW_nilBox (cs := [boolL false,.sl 0 [] .nil,.sl 0 [] (.row 1001),.sl 0 [] .nil]) 7 3 1002 3 (Yq1 (fa2 @setZ @setS)) rfl ?_
   refine LW_loop (fun m st => ∃ (i : Nat) (s' : Rd) (acc : List (List UInt8 × Int)),m + i = n ∧ s'.pos ≤ b.length ∧ acc.length ≤ i ∧ acc ++ (qRep (qKey b) (n - i) s').1 = ks ∧ (qRep (qKey b) (n - i) s').2 = sF ∧ st.env 0 = strL b ∧ st.env 2 = .ptr 2 0 ∧ st.box 2 = some [boolL false,.sl 0 [] .nil,.sl 0 [] .nil,.sl 0 [] .nil] ∧ st.env 4 = .ptr 13 0 ∧ st.box 13 = some [strL b,intL s'.pos,boolL s'.bad] ∧ (st.mode = fun _ => false) ∧ st.env 6 = intL n ∧ st.env 7 = .ptr 7 0 ∧ st.box 7 = some [boolL false,.sl 0 [] .nil,.sl acc.length ((acc.map (·.1)).flatMap strE) (.row 1001),.sl acc.length ((acc.map (·.2)).flatMap intE) (.row 1002)] ∧ st.row 1001 = some (9,acc.length) ∧ st.row 1002 = some (3,acc.length) ∧ st.env 8 = intL i) n ⟨0,s2,[],by omega,p2,by simp,by rw [Nat.sub_zero,hP];rfl,by rw [Nat.sub_zero,hP],(Yq1 @e0),(Yq1 @e2),(Yq1 @b2),(Yq1 @e4),(Yq1 @b13),(Yq1 @hmd),(Yq1 @e6),(Yq1 @e7),(by first | exact rfl | assumption | (simp only [LZ,zo,zc,reduceCtorEq,reduceIte,zz1,zz2,zz3,zz4,zz5,zz6,zz7,zz8,zz9,zza,zzb,zzc,zzd,zze,zzf,setZ,setS,List.flatMap_nil,List.length_nil,List.map_nil] <;> exact rfl)),(by first | exact rfl | assumption | (simp only [LZ,zo,zc,reduceCtorEq,reduceIte,zz1,zz2,zz3,zz4,zz5,zz6,zz7,zz8,zz9,zza,zzb,zzc,zzd,zze,zzf,List.length_nil] <;> exact rfl)),(by first | exact rfl | assumption | (simp only [LZ,zo,zc,reduceCtorEq,reduceIte,zz1,zz2,zz3,zz4,zz5,zz6,zz7,zz8,zz9,zza,zzb,zzc,zzd,zze,zzf,List.length_nil] <;> exact rfl)),(Yq1 @e8)⟩ ?_
   clear e0 e2 b2 e4 b13 hmd e6 e7 b7 e8 st
   rintro m st ⟨i,s',acc,hm,ps',hacc,hr1,hr2,e0,e2,b2,e4,b13,hmd,e6,e7,b7,r1001,r1002,e8⟩
   by_cases hst : ¬ i < n ∨ s'.bad = true
   ·have hq : qRep (qKey b) (n - i) s' = ([],s') := by
     rcases hst with h | h
     ·rw [show n - i = 0 by omega];rfl
     ·exact qRep_bad _ h
    rw [hq] at hr1 hr2
    have hr1 : acc = ks := by simpa using hr1
    have hr2 : s' = sF := hr2
    by_cases hi0 : i < n
    rotate_left
    ·have hii : ¬ ((i : Int) < (n : Int)) := by omega
     refine Yg1 (fa5 @e4 @b13 @e6 @e8 @hii) ?_
     refine Yf0 ?_
     refine LW_exit ?_;simp only [thenL,jumpsL,inBlockL,twoL,reduceIte,Nat.reduceEqDiff]
     rw [← hr1,← hr2]
     exact ⟨(Yq1 @e0),(Yq1 @e2),(Yq1 @b2),(Yq1 @e4),(Yq1 @b13),(Yq1 @hmd),(Yq1 @e7),.nil,.row 1001,.row 1002,b7.trans (by simp only [pgT,List.length_map,List.flatMap_nil,List.length_nil])⟩
    ·have hii : ((i : Int) < (n : Int)) = True := eq_true (by omega)
     have hbd : s'.bad = true := hst.resolve_left (fun c => c hi0)
     have b13' := b13
     rw [hbd] at b13'
     refine Yg1 (fa5 @e4 @b13' @e6 @e8 @hii) ?_
     refine Yf0 ?_
     refine LW_exit ?_;simp only [thenL,jumpsL,inBlockL,twoL,reduceIte,Nat.reduceEqDiff]
     rw [← hr1,← hr2]
     exact ⟨(Yq1 @e0),(Yq1 @e2),(Yq1 @b2),(Yq1 @e4),(Yq1 @b13),(Yq1 @hmd),(Yq1 @e7),.nil,.row 1001,.row 1002,b7.trans (by simp only [pgT,List.length_map,List.flatMap_nil,List.length_nil])⟩
   have hi0 : i < n := Classical.byContradiction fun c => hst (.inl c)
   have hbd : s'.bad = false := by
    cases h : s'.bad
    ·rfl
    ·exact absurd (.inr h) hst
   rw [show n - i = (n - (i + 1)) + 1 by omega,qRep_succ _ hbd] at hr1 hr2
   have hii : ((i : Int) < (n : Int)) = True := eq_true (by omega)
   have hw := w64s (n := i) (by omega)
   rw [hbd] at b13
   have ca := ctext_I b hb s' ps' 100 (by decide) 100 rfl
   have pa := (qText_ok b 100 (by decide)).pos s' ps'
   have hat : qKey b s' = (((qText b 100 s').1,((qNum b 10000 (qText b 100 s').2).1 : Int)),(qNum b 10000 (qText b 100 s').2).2) := rfl
   generalize qText b 100 s' = qx at *
   obtain ⟨kt,sa⟩ := qx
   simp only at hat ca pa
   have cb := cnum_I b hb sa pa 10000 (by decide) 10000 rfl
   have pb := (qNum_ok b 10000 (by decide)).pos sa pa
   generalize qNum b 10000 sa = qy at *
   obtain ⟨kn,sb⟩ := qy
   simp only at hat cb pb
   rw [hat] at hr1 hr2
   simp only at hr1 hr2
   simp only [cL,hbd,intL] at ca cb
   have f1 := strE_flen (acc.map (·.1))
   have f2 : ((acc.map (·.2)).flatMap intE).length = acc.length := by rw [len_flat intE 1 intE_len,Nat.mul_one,List.length_map]
   rw [List.length_map] at f1
   have g1 : (((acc ++ [(kt,(kn : Int))]).map (·.1)).flatMap strE) = (acc.map (·.1)).flatMap strE ++ [strL kt] := by rw [List.map_append,List.flatMap_append];rfl
   have g2 : (((acc ++ [(kt,(kn : Int))]).map (·.2)).flatMap intE) = (acc.map (·.2)).flatMap intE ++ [intL kn] := by rw [List.map_append,List.flatMap_append];rfl
   have hal : (acc ++ [(kt,(kn : Int))]).length = acc.length + 1 := by rw [List.length_append,List.length_singleton]
   refine Yg1 (fa5 @e4 @b13 @e6 @e8 @hii) ?_
   refine Yt0 ?_
   refine LW_skip ?_
   simp only [LSj,reduceIte,zze]
   refine LW_seq ?_
   refine LW_block ?_
   (repeat refine LW_seq ?_)
   refine Yg1 (fa2 @e7 @b7) ?_
   refine Yf0 ?_
   (repeat refine LW_seq ?_)
   (repeat (first | refine LW_seq ?_ | (refine LW_skip ?_;simp only [LSj,reduceIte,zze]) | refine LW_block ?_));refine LW_mix2 [(45,⟨_,_,_,_,_,[(13,1000)],[(2000,13)],_,[1000013],(ca).toS,rfl,rfl,rfl⟩)] [45] (fun _ => false) [(0,[7,1001,1002]),(1,[7,1001,1002]),(2,[13]),(3,[7,1001,1002])] [0,1,2] [[3,4,5,6,7]] rfl (by kernel_rfl) (by kernel_rfl) (by kernel_rfl) (by first | exact rfl | exact hmd | simp only [LZ,zo,zc,reduceCtorEq,reduceIte,zz1,zz2,zz3,zz4,zz5,zz6,zz7,zz8,zz9,zza,zzb,zzc,zzd,zze,zzf,e4,b13,e7,b7,r1001,hmd,f1]) ?_;intro K hK;simp only [LZ,zo,zc,reduceCtorEq,reduceIte,zz1,zz2,zz3,zz4,zz5,zz6,zz7,zz8,zz9,zza,zzb,zzc,zzd,zze,zzf,e4,b13,e7,b7,r1001,hmd,f1]
   refine ⟨by (repeat' apply And.intro) <;> first | omega | (unfold maxLen;omega),?_⟩
   refine hK _ ?_;clear hK K;try refine Wh0 ?_
   refine LW_slim (fun st => st.env 0 = strL b ∧ st.env 2 = .ptr 2 0 ∧ st.box 2 = some [boolL false,.sl 0 [] .nil,.sl 0 [] .nil,.sl 0 [] .nil] ∧ st.env 4 = .ptr 13 0 ∧ st.box 13 = some [strL b,intL sa.pos,boolL sa.bad] ∧ (st.mode = fun _ => false) ∧ st.env 6 = intL n ∧ st.env 7 = .ptr 7 0 ∧ st.box 7 = some [boolL false,.sl 0 [] .nil,.sl (acc.length + 1) ((acc.map (·.1)).flatMap strE ++ [strL kt]) (.row 1001),.sl acc.length ((acc.map (·.2)).flatMap intE) (.row 1002)] ∧ st.row 1001 = some (9,acc.length + 1) ∧ st.row 1002 = some (3,acc.length) ∧ st.env 8 = intL i) ⟨(Yq1 @e0),(Yq1 @e2),(Yq1 @b2),(Yq1 @e4),Yq0,(Yq1 @hmd),(Yq1 @e6),(Yq1 @e7),Yq0,Yq0,(Yq1 @r1002),(Yq1 @e8)⟩ ?_
   clear e0 e2 b2 e4 b13 hmd e6 e7 b7 r1001 r1002 e8 st
   rintro st ⟨e0,e2,b2,e4,b13,hmd,e6,e7,b7,r1001,r1002,e8⟩
   (repeat refine LW_seq ?_)
   (repeat (first | refine LW_seq ?_ | (refine LW_skip ?_;simp only [LSj,reduceIte,zze]) | refine LW_block ?_));refine LW_mix2 [(52,⟨_,_,_,_,_,[(13,1000)],[(2000,13)],_,[1000013],(cb).toS,rfl,rfl,rfl⟩)] [52] (fun _ => false) [(0,[7,1001,1002]),(1,[7,1001,1002]),(2,[13]),(3,[7,1001,1002])] [0,1,2] [[3,4,5,6,7]] rfl (by kernel_rfl) (by kernel_rfl) (by kernel_rfl) (by first | exact rfl | exact hmd | simp only [LZ,zo,zc,reduceCtorEq,reduceIte,zz1,zz2,zz3,zz4,zz5,zz6,zz7,zz8,zz9,zza,zzb,zzc,zzd,zze,zzf,e4,b13,e7,b7,r1002,hmd,f2]) ?_;intro K hK;simp only [LZ,zo,zc,reduceCtorEq,reduceIte,zz1,zz2,zz3,zz4,zz5,zz6,zz7,zz8,zz9,zza,zzb,zzc,zzd,zze,zzf,e4,b13,e7,b7,r1002,hmd,f2]
   refine ⟨by (repeat' apply And.intro) <;> first | omega | (unfold maxLen;omega),?_⟩
   refine hK _ ?_;clear hK K;try refine Wh0 ?_
   refine Yg1 (fa2 @e8 @hw) ?_
   refine ⟨m - 1,by omega,i + 1,sb,acc ++ [(kt,(kn : Int))],by omega,pb,by rw [hal];omega,by rw [List.append_assoc];exact hr1,hr2,(Yq1 @e0),(Yq1 @e2),(Yq1 @b2),(Yq1 @e4),Yq0,(Yq1 @hmd),(Yq1 @e6),(Yq1 @e7),by rw [g1,g2,hal];exact Yq0,by rw [hal];exact (Yq1 @r1001),by rw [hal];exact Yq0,(Yq1 @hw)⟩
 clear e0 e2 b2 e4 b13 hmd e6 e7 b7 e8 st
 rintro st ⟨e0,e2,b2,e4,b13,hmd,e7,t1,t2,t3,b7⟩
 obtain ⟨hsm,hto,htg⟩ := hfit
 refine LW_plainBox (cs := pgT p t1 t2 t3) 7 (Yq1 @b7) ?_
 refine LW_slim (fun st => st.env 0 = strL b ∧ st.env 2 = .ptr 2 0 ∧ st.box 2 = some [boolL false,.sl 0 [] .nil,.sl 0 [] .nil,.sl 0 [] .nil] ∧ st.env 4 = .ptr 13 0 ∧ st.box 13 = some [strL b,intL sF.pos,boolL sF.bad] ∧ (st.mode = fun _ => false) ∧ st.env 7 = .ptr 7 0 ∧ st.box 7 = some (pgL p)) ⟨(Yq1 @e0),(Yq1 @e2),(Yq1 @b2),(Yq1 @e4),(Yq1 @b13),(Yq1 @hmd),(Yq1 @e7),(by first | exact rfl | assumption | (simp only [LZ,zo,zc,reduceCtorEq,reduceIte,zz1,zz2,zz3,zz4,zz5,zz6,zz7,zz8,zz9,zza,zzb,zzc,zzd,zze,zzf,pgT,pgL,rowL,strsL,intsL,List.map_cons,List.map_nil,plain1] <;> exact rfl))⟩ ?_
 clear e0 e2 b2 e4 b13 hmd e7 b7 st
 rintro st ⟨e0,e2,b2,e4,b13,hmd,e7,b7⟩
 have cp := qputpg_L p hsm hto htg
 simp only [pgL,rowL,strsL,intsL] at b7
 cases hbd : sF.bad
 rotate_left
 ·rw [if_pos (.inl hbd)] at hR
  subst hR
  rw [hbd] at b13
  generalize pputP p = Z at *
  simp only [pgL,rowL,strsL,intsL] at cp
  (repeat refine LW_seq ?_)
  refine Yr1 (fa2 @e7 @b7) ?_;intro K hK
  refine Yc1 (cp) (fa2 @e7 @b7) ?_
  refine hK _ ?_;clear hK K;try refine Wh0 ?_
  refine Yg1 (fa2 @e4 @b13) ?_
  refine Yt0 ?_
  refine Yg1 (fa2 @e2 @b2) ?_
  refine LW_ret ?_;simp only [thenL,jumpsL,inBlockL,twoL,bodyO];refine ⟨[],rfl,?_⟩;simp only [thenL,jumpsL,inBlockL,twoL,bodyQ,LV.lit.injEq,LV.tup.injEq,LV.agg.injEq,LV.sl.injEq,List.cons.injEq,Value.int.injEq,Value.bool.injEq,Value.string.injEq,ByteArray.mk.injEq,exists_eq_left',exists_eq_left,exists_eq_right,LZ,zo,zc,reduceCtorEq,reduceIte,zz1,zz2,zz3,zz4,zz5,zz6,zz7,zz8,zz9,zza,zzb,zzc,zzd,zze,zzf,pgL,zeroPg,rowL,strsL,intsL,e2]
  exact ⟨rfl,rfl,rfl⟩
 rw [hbd] at b13
 unfold pputP at cp
 cases hm : mayPg p
 ·rw [if_pos (.inr (.inl hm))] at hR
  subst hR
  rw [hm,if_neg (by decide)] at cp
  simp only [pgL,rowL,strsL,intsL,intL] at cp
  (repeat refine LW_seq ?_)
  refine Yr1 (fa2 @e7 @b7) ?_;intro K hK
  refine Yc1 (cp) (fa2 @e7 @b7) ?_
  refine hK _ ?_;clear hK K;try refine Wh0 ?_
  refine Yg1 (fa2 @e4 @b13) ?_
  refine Yt0 ?_
  refine Yg1 (fa2 @e2 @b2) ?_
  refine LW_ret ?_;simp only [thenL,jumpsL,inBlockL,twoL,bodyO];refine ⟨[],rfl,?_⟩;simp only [thenL,jumpsL,inBlockL,twoL,bodyQ,LV.lit.injEq,LV.tup.injEq,LV.agg.injEq,LV.sl.injEq,List.cons.injEq,Value.int.injEq,Value.bool.injEq,Value.string.injEq,ByteArray.mk.injEq,exists_eq_left',exists_eq_left,exists_eq_right,LZ,zo,zc,reduceCtorEq,reduceIte,zz1,zz2,zz3,zz4,zz5,zz6,zz7,zz8,zz9,zza,zzb,zzc,zzd,zze,zzf,pgL,zeroPg,rowL,strsL,intsL,e2]
  exact ⟨rfl,rfl,rfl⟩
 rw [hm,if_pos rfl] at cp
 generalize hX : putPg p = X at *
 simp only [pgL,rowL,strsL,intsL,intL] at cp
 by_cases hx : X = b
 ·rw [if_neg (fun h => by
   rcases h with h | h | h
   ·rw [hbd] at h;cases h
   ·rw [hm] at h;cases h
   ·exact h hx)] at hR
  subst hR
  (repeat refine LW_seq ?_)
  refine Yr1 (fa2 @e7 @b7) ?_;intro K hK
  refine Yc1 (cp) (fa2 @e7 @b7) ?_
  refine hK _ ?_;clear hK K;try refine Wh0 ?_
  refine Yg1 (fa4 @e0 @e4 @b13 @hx) ?_
  refine Yf0 ?_
  refine Yg1 (fa4 @e2 @b2 @e7 @b7) ?_
  refine LW_ret ?_;simp only [thenL,jumpsL,inBlockL,twoL,bodyO];refine ⟨[],rfl,?_⟩;simp only [thenL,jumpsL,inBlockL,twoL,bodyQ,LV.lit.injEq,LV.tup.injEq,LV.agg.injEq,LV.sl.injEq,List.cons.injEq,Value.int.injEq,Value.bool.injEq,Value.string.injEq,ByteArray.mk.injEq,exists_eq_left',exists_eq_left,exists_eq_right,LZ,zo,zc,reduceCtorEq,reduceIte,zz1,zz2,zz3,zz4,zz5,zz6,zz7,zz8,zz9,zza,zzb,zzc,zzd,zze,zzf,pgL,rowL,strsL,intsL,e2]
 ·rw [if_pos (.inr (.inr hx))] at hR
  subst hR
  (repeat refine LW_seq ?_)
  refine Yr1 (fa2 @e7 @b7) ?_;intro K hK
  refine Yc1 (cp) (fa2 @e7 @b7) ?_
  refine hK _ ?_;clear hK K;try refine Wh0 ?_
  refine Yg1 (fa4 @e0 @e4 @b13 @hx) ?_
  refine Yt0 ?_
  refine Yg1 (fa2 @e2 @b2) ?_
  refine LW_ret ?_;simp only [thenL,jumpsL,inBlockL,twoL,bodyO];refine ⟨[],rfl,?_⟩;simp only [thenL,jumpsL,inBlockL,twoL,bodyQ,LV.lit.injEq,LV.tup.injEq,LV.agg.injEq,LV.sl.injEq,List.cons.injEq,Value.int.injEq,Value.bool.injEq,Value.string.injEq,ByteArray.mk.injEq,exists_eq_left',exists_eq_left,exists_eq_right,LZ,zo,zc,reduceCtorEq,reduceIte,zz1,zz2,zz3,zz4,zz5,zz6,zz7,zz8,zz9,zza,zzb,zzc,zzd,zze,zzf,pgL,zeroPg,rowL,strsL,intsL,e2]
  exact ⟨rfl,rfl,rfl⟩
theorem qgetpg_L (b : List UInt8) (hb : b.length ≤ 1000000) : LCalls Tryz.prog 9 [strL b] (.tup [.agg (pgL (getPg b).1),intL (getPg b).2]) := (qgetpg_O b hb).toL
end Go.Proofs.YtnmjghcdccfphaaGreatDoor
end
