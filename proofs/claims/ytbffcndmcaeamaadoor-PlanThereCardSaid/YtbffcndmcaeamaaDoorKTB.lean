import Derived.Test.YtbffcndmcaeamaaDoorL26
import Derived.Test.YtbffcndmcaeamaaDoorShelf
import Derived.Test.YtbffcndmcaeamaaDoorPlain
section
set_option linter.unusedSimpArgs false
set_option linter.unusedVariables false
namespace Go.Proofs.YtbffcndmcaeamaaDoor
open Go.RowKit Go.Proofs PathSpec

theorem LCalls.val_of {P : Program} {f : FuncId} {args : List LV} {r : LV} {v : Value} (hrep : ∀ (w : World) (S : Nat → Nat → Prop),Rep P w (bareGh S) r v) (he : ∀ (vs : Array Value) (w : World),(callFunc f vs).run P w = .ok (.enter f vs) w)
    (h : ∀ (w : World) (S : Nat → Nat → Prop) (vs : Array Value),Glob P w → vs.size = args.length → (∀ (i : Nat) (c : LV) (u : Value),args[i]? = some c → vs[i]? = some u → Rep P w (bareGh S) c u) → Calls P f vs w fun e w' => e = .returned v ∧ G w w') : LCalls P f args r :=
  ⟨he,fun w S vs hgl hwf hl hr => (h w S vs hgl hl hr).mono fun e w' ⟨h1,h2⟩ => ⟨v,S,h1,hrep _ _,h2,fun _ _ _ => Iff.rfl,fun b i hs => Nat.lt_of_lt_of_le (hwf b i hs) h2.lt⟩⟩
theorem rep_tup3 {P : Program} {w : World} {g : Gh} (a b c : Value) : Rep P w g (.tup [.lit a,.lit b,.lit c]) (.tuple #[a,b,c]) :=
  .tup _ _ _ rfl fun i x u hx hu => by
    rcases i with _ | _ | _ | i
    · cases hx;cases hu;exact .lit _ _
    · cases hx;cases hu;exact .lit _ _
    · cases hx;cases hu;exact .lit _ _
    · simp at hx
theorem maxOk {w : World} (h : Glob Tryd.prog w) : ∃ m : Int,w.cell? ⟨0,0,none⟩ = some (.int .i64 m) := h.2 _ (by kernel_rfl)
theorem args2 {vs : Array Value} {a b : LV} (hs : vs.size = [a,b].length) : ∃ x y,vs = #[x,y] := by
  obtain ⟨vs⟩ := vs
  match vs,hs with
  | [x,y],_ => exact ⟨x,y,rfl⟩
theorem pcut_L (l : List UInt8) (hl : l.length < 1000000) : LCalls Tryd.prog 49 [strL l,strL [47]] (.tup [strL (hd l),strL (tl l),boolL (has l)]) := by
  refine LCalls.val_of (fun w S => rep_tup3 _ _ _) (enters_of Tryd.func49 (by kernel_rfl) rfl) fun w S vs hgl hs hr => ?_
  obtain ⟨a,b,rfl⟩ := args2 hs
  have h0 := (hr 0 _ a rfl rfl).inv_lit
  have h1 := (hr 1 _ b rfl rfl).inv_lit
  subst h0;subst h1
  obtain ⟨m,hm⟩ := maxOk hgl
  refine (Tryd.strings_Cut ⟨l.toArray⟩ ⟨#[47]⟩ m w (by show l.toArray.size < _;simp;omega) hm).mono ?_
  rintro e w' ⟨rfl,n,rfl⟩
  refine ⟨?_,G.drewN _ _⟩
  show Ending.returned (.tuple #[.string ⟨(Lib.cut l [47]).1.toArray⟩,.string ⟨(Lib.cut l [47]).2.1.toArray⟩,.bool (Lib.cut l [47]).2.2]) = _
  rw [lib_cut]
theorem plast_L (l : List UInt8) (hl : l.length < 1000000) : LCalls Tryd.prog 43 [strL l,.lit (.int .u8 47)] (intL (if has l then ((par l).length : Int) else -1)) := by
  refine LCalls.lit_of (enters_of Tryd.func43 (by kernel_rfl) rfl) fun w S vs _ hs hr => ?_
  obtain ⟨a,b,rfl⟩ := args2 hs
  have h0 := (hr 0 _ a rfl rfl).inv_lit
  have h1 := (hr 1 _ b rfl rfl).inv_lit
  subst h0;subst h1
  refine (Tryd.strings_LastIndexByte ⟨l.toArray⟩ 47 (by show l.toArray.size < _;simp;omega) w).mono ?_
  rintro e w' ⟨rfl,rfl⟩
  refine ⟨?_,G.refl _⟩
  rw [lib_last]

set_option maxRecDepth 100000 in
theorem pname_L (l : List UInt8) (hl : l.length < 1000000) : LCalls Tryd.prog 50 [strL l] (boolL (nameB l)) := by
  refine LCalls.of (fun _ => false) Tryd.func50 rfl (by decide) Tryd.ntmps50 Tryd.results50 (by simp) ?_
  intro w0 S0 vs hgl hwf0 hsz hvs;clear hsz hvs hwf0 hgl
  generalize hR : nameB l = R
  refine Yg0 ?_
  by_cases h1 : (l.length : Int) < 1
  · refine LW_scope_straight ?_
    refine Yg1 @h1 ?_
    refine Yt0 ?_
    refine Yg0 ?_
    refine Ye0 ?_;try (with_reducible exact trivial)
    rw [← hR,nameB_lo h1]
  by_cases h2 : 20 < (l.length : Int)
  · refine LW_scope_straight ?_
    refine Yg1 (fa2 @h1 @h2) ?_
    refine Yt0 ?_
    refine Yg0 ?_
    refine Ye0 ?_;try (with_reducible exact trivial)
    rw [← hR,nameB_hi h2]
  by_cases h3 : l = [46]
  · refine LW_scope_straight ?_
    subst h3
    refine Yg1 (fa2 @h1 @h2) ?_
    refine Yt0 ?_
    refine Yg0 ?_
    refine Ye0 ?_;try (with_reducible exact trivial)
    rw [← hR,nameB_dot]
  by_cases h4 : l = [46,46]
  · refine LW_scope_straight ?_
    subst h4
    refine Yg1 (fa3 @h1 @h2 @h3) ?_
    refine Yt0 ?_
    refine Yg0 ?_
    refine Ye0 ?_;try (with_reducible exact trivial)
    rw [← hR,nameB_dots]
  rw [nameB_all (by omega) (by omega) h3 h4] at hR
  refine LW_lab1 (fun n st => ∃ i : Nat,n + i = l.length ∧ st.env 0 = strL l ∧ st.env 3 = intL i ∧ (l.drop i).all okc = R) rfl ?_ ?_
  · intro hJ
    refine Yg1 (fa4 @h1 @h2 @h3 @h4) ?_
    refine Yf0 ?_
    refine Yl0 ?_
    exact hJ.out l.length _ ⟨0,by omega,rfl,rfl,hR⟩
  · rintro n st ⟨i,hn,e0,e3,hr⟩
    by_cases hlt : i < l.length
    · obtain ⟨c,hc⟩ := get_of_lt hlt
      have hcl : l[i] = c := by
        have := List.getElem?_eq_getElem hlt
        rw [hc] at this;exact (Option.some.inj this).symm
      have hg : (i : Int) < l.length := by omega
      have hw := w64s (n := i) (by omega)
      rw [all_drop_succ hlt,hcl] at hr
      refine Yg1 (fa3 @e0 @e3 @hg) ?_
      refine Yt1 @hg ?_
      by_cases k1 : (c.toNat : Int) = 47
      · have hc1 : c = 47 := by apply UInt8.toNat_inj.1;show c.toNat = 47;omega
        refine Yg1 (fa5 @e0 @e3 @hg @hc @k1) ?_
        refine Yt1 @k1 ?_
        refine Yg0 ?_
        refine Ye0 ?_;try (with_reducible exact trivial)
        rw [← hr,hc1];rfl
      by_cases k2 : (c.toNat : Int) = 0
      · have hc1 : c = 0 := by apply UInt8.toNat_inj.1;show c.toNat = 0;omega
        refine Yg1 (fa6 @e0 @e3 @hg @hc @k1 @k2) ?_
        refine Yt0 ?_
        refine Yg0 ?_
        refine Ye0 ?_;try (with_reducible exact trivial)
        rw [← hr,hc1];rfl
      have hok : okc c = true := by
        unfold okc
        have n1 : (c == 47) = false := by rw [beq_eq_false_iff_ne];rintro rfl;exact k1 rfl
        have n2 : (c == 0) = false := by rw [beq_eq_false_iff_ne];rintro rfl;exact k2 rfl
        rw [n1,n2];rfl
      rw [hok,Bool.true_and] at hr
      refine Yg1 (fa6 @e0 @e3 @hg @hc @k1 @k2) ?_
      refine Yf0 ?_
      refine Yg1 (fa2 @e3 @hw) ?_
      refine LW_goto ?_;simp only [thenL,jumpsL,inBlockL,twoL,true_and]
      exact ⟨n - 1,by omega,i + 1,by omega,(Yq1 @e0),Yq0,hr⟩
    · have hg : ¬ (i : Int) < l.length := by omega
      rw [List.drop_of_length_le (by omega)] at hr
      refine Yg1 (fa3 @e0 @e3 @hg) ?_
      refine Yf1 @hg ?_
      refine Yg0 ?_
      refine Ye0 ?_;try (with_reducible exact trivial)
      rw [← hr];rfl

set_option maxRecDepth 100000 in
theorem pmay_L (l : List UInt8) (hl : l.length < 1000000) : LCalls Tryd.prog 40 [strL l] (boolL (mayB l)) := by
  refine LCalls.of (fun _ => false) Tryd.func40 rfl (by decide) Tryd.ntmps40 Tryd.results40 (by simp) ?_
  intro w0 S0 vs hgl hwf0 hsz hvs;clear hsz hvs hwf0 hgl
  generalize hR : mayB l = R
  refine Yg0 ?_
  by_cases h0 : l = []
  · refine LW_scope_straight ?_
    refine Yg1 @h0 ?_
    refine Yt0 ?_
    refine Yg0 ?_
    refine Ye0 ?_;try (with_reducible exact trivial)
    rw [← hR,h0];rfl
  by_cases h1 : (100 : Int) < l.length
  · refine LW_scope_straight ?_
    refine Yg1 @h0 ?_
    refine Yf0 ?_
    refine Yg1 @h1 ?_
    refine Yt1 @h1 ?_
    refine Yg0 ?_
    refine Ye0 ?_;try (with_reducible exact trivial)
    rw [← hR,mayB_long (by omega)]
  rw [mayB_go h0 (by omega)] at hR
  refine LW_lab1 (fun n st => ∃ (l' : List UInt8) (k : Nat),n + k = 8 ∧ l'.length ≤ 100 ∧ st.env 0 = strL l' ∧ st.env 3 = intL k ∧ mayK k l' = R) rfl ?_ ?_
  · intro hJ
    refine Yg1 @h0 ?_
    refine Yf0 ?_
    refine Yg1 @h1 ?_
    refine Yf1 @h1 ?_
    refine Yl0 ?_
    exact hJ.out 8 _ ⟨l,0,by omega,by omega,rfl,rfl,hR⟩
  · rintro n st ⟨l',k,hn,hl',e0,e3,hr⟩
    have hh := hd_le l'
    have c1 := pcut_L l' (by omega)
    have c2 := pname_L (hd l') (by omega)
    have hw := w64s (n := k) (by omega)
    refine Yr1 @e0 ?_;intro K hK
    refine Yc0 (c1) ?_
    refine hK _ ?_;clear hK K;try refine Wh0 ?_
    cases hn2 : nameB (hd l')
    · rw [hn2] at c2
      refine Yr1 @e3 ?_;intro K hK
      refine Yc1 (c2) @e3 ?_
      refine hK _ ?_;clear hK K;try refine Wh0 ?_
      refine Yt0 ?_
      refine Yg0 ?_
      refine Ye0 ?_;try (with_reducible exact trivial)
      rw [← hr,mayK_name hn2]
    rw [hn2] at c2
    by_cases h8 : (k : Int) = 8
    · have hk8 : k = 8 := by omega
      refine Yr1 @e3 ?_;intro K hK
      refine Yc1 (c2) (fa2 @e3 @h8) ?_
      refine hK _ ?_;clear hK K;try refine Wh0 ?_
      refine Yt0 ?_
      refine Yg0 ?_
      refine Ye0 ?_;try (with_reducible exact trivial)
      rw [← hr,hk8,mayK_full]
    refine Yr1 @e3 ?_;intro K hK
    refine Yc1 (c2) (fa2 @e3 @h8) ?_
    refine hK _ ?_;clear hK K;try refine Wh0 ?_
    refine Yf0 ?_
    refine Yg1 (fa2 @e3 @hw) ?_
    cases hh' : has l'
    · refine Yf1 @hh' ?_
      refine Yg0 ?_
      refine Ye0 ?_;try (with_reducible exact trivial)
      rw [← hr,mayK_last hn2 hh' (by omega)]
    · have ht := tl_lt hh'
      rw [mayK_more hn2 hh'] at hr
      refine Yt1 @hh' ?_
      refine Yg0 ?_
      refine LW_goto ?_;simp only [thenL,jumpsL,inBlockL,twoL,true_and]
      exact ⟨n - 1,by omega,tl l',k + 1,by omega,by omega,Yq0,Yq0,hr⟩

set_option maxRecDepth 100000 in
theorem pparent_L (l : List UInt8) (hl : l.length < 1000000) : LCalls Tryd.prog 34 [strL l] (.tup [strL (parentB l).1,boolL (parentB l).2]) := by
  have c1 := pmay_L l hl
  have c2 := plast_L l hl
  refine LCalls.of (fun _ => false) Tryd.func34 rfl (by decide) Tryd.ntmps34 Tryd.results34 (by simp) ?_
  intro w0 S0 vs hgl hwf0 hsz hvs;clear hsz hvs hwf0 hgl
  generalize hR : parentB l = R
  unfold parentB at hR
  refine Yg0 ?_
  by_cases h0 : l = []
  · subst h0
    refine Yr0 ?_;intro K hK
    refine hK _ ?_;clear hK K;try refine Wh0 ?_
    refine Yt0 ?_
    refine Yg0 ?_
    refine Ye0 ?_;try (with_reducible exact trivial)
    rw [← hR];exact ⟨rfl,rfl⟩
  have h1 : l.isEmpty = false := by cases l <;> simp_all
  rw [h1,Bool.false_or] at hR
  cases hm : mayB l
  · rw [hm] at c1 hR
    refine Yr1 @h0 ?_;intro K hK
    refine Yc0 (c1) ?_
    refine hK _ ?_;clear hK K;try refine Wh0 ?_
    refine Yt0 ?_
    refine Yg0 ?_
    refine Ye0 ?_;try (with_reducible exact trivial)
    rw [← hR];exact ⟨rfl,rfl⟩
  rw [hm] at c1 hR
  refine Yr1 @h0 ?_;intro K hK
  refine Yc0 (c1) ?_
  refine hK _ ?_;clear hK K;try refine Wh0 ?_
  refine Yf0 ?_
  refine Yr0 ?_;intro K hK
  refine Yc0 (c2) ?_
  refine hK _ ?_;clear hK K;try refine Wh0 ?_
  cases hh : has l
  · rw [par_none hh] at hR
    refine Yg1 @hh ?_
    refine Yt0 ?_
    refine Yg0 ?_
    refine Ye0 ?_;try (with_reducible exact trivial)
    rw [← hR];exact ⟨rfl,rfl⟩
  · have hp := par_split hh
    have hpl : (par l).length ≤ l.length := by have := congrArg List.length hp;simp at this;omega
    have ab : ∀ x y : List UInt8,l = x ++ 47 :: y → l.take x.length = x := by rintro x y rfl;simp
    have htk : l.take (par l).length = par l := ab _ _ hp
    have hn : ¬ ((par l).length : Int) < 0 := by omega
    have h00 : (0 : Int) ≤ ((par l).length : Int) := by omega
    refine Yg1 (fa2 @hh @hn) ?_
    refine Yf0 ?_
    refine Yg1 (fa4 @hh @h00 @hpl @htk) ?_
    refine Ye0 ?_;try (with_reducible exact trivial)
    rw [← hR];exact ⟨rfl,rfl⟩

set_option maxRecDepth 100000 in
set_option maxHeartbeats 1000000 in
theorem pless_L (a b : List UInt8) (ha : a.length < 1000000) (hb : b.length < 1000000) : LCalls Tryd.prog 41 [strL a,strL b] (boolL (lessB a b)) := by
  have c1 := pmay_L a ha
  have c2 := pmay_L b hb
  refine LCalls.of (fun _ => false) Tryd.func41 rfl (by decide) Tryd.ntmps41 Tryd.results41 (by simp) ?_
  intro w0 S0 vs hgl hwf0 hsz hvs;clear hsz hvs hwf0 hgl
  generalize hR : lessB a b = R
  have hf : lessL (P (nrm a)) (P (nrm b)) = R := by rw [← hR];unfold lessB;rw [partsB_nrm,partsB_nrm]
  have ga := good_nrm a
  have gb := good_nrm b
  refine Yg0 ?_
  refine LW_lab1 (fun n st => ∃ (x y : List UInt8),n = x.length ∧ good x ∧ good y ∧ st.env 0 = strL x ∧ st.env 1 = strL y ∧ lessL (P x) (P y) = R) rfl ?_ ?_
  · intro hJ
    cases hm : mayB a
    · rw [hm] at c1
      rw [nrm_no hm] at hf ga
      refine Yr0 ?_;intro K hK
      refine Yc0 (c1) ?_
      refine hK _ ?_;clear hK K;try refine Wh0 ?_
      refine Yt0 ?_
      refine Yg0 ?_
      cases hn : mayB b
      · rw [hn] at c2
        rw [nrm_no hn] at hf gb
        refine Yr0 ?_;intro K hK
        refine Yc0 (c2) ?_
        refine hK _ ?_;clear hK K;try refine Wh0 ?_
        refine Yt0 ?_
        refine Yl0 ?_
        exact hJ.out _ _ ⟨[],[],rfl,ga,gb,rfl,rfl,hf⟩
      · rw [hn] at c2
        rw [nrm_yes hn] at hf gb
        refine Yr0 ?_;intro K hK
        refine Yc0 (c2) ?_
        refine hK _ ?_;clear hK K;try refine Wh0 ?_
        refine Yf0 ?_
        refine Yl0 ?_
        exact hJ.out _ _ ⟨[],b,rfl,ga,gb,rfl,rfl,hf⟩
    · rw [hm] at c1
      rw [nrm_yes hm] at hf ga
      refine Yr0 ?_;intro K hK
      refine Yc0 (c1) ?_
      refine hK _ ?_;clear hK K;try refine Wh0 ?_
      refine Yf0 ?_
      cases hn : mayB b
      · rw [hn] at c2
        rw [nrm_no hn] at hf gb
        refine Yr0 ?_;intro K hK
        refine Yc0 (c2) ?_
        refine hK _ ?_;clear hK K;try refine Wh0 ?_
        refine Yt0 ?_
        refine Yl0 ?_
        exact hJ.out _ _ ⟨a,[],rfl,ga,gb,rfl,rfl,hf⟩
      · rw [hn] at c2
        rw [nrm_yes hn] at hf gb
        refine Yr0 ?_;intro K hK
        refine Yc0 (c2) ?_
        refine hK _ ?_;clear hK K;try refine Wh0 ?_
        refine Yf0 ?_
        refine Yl0 ?_
        exact hJ.out _ _ ⟨a,b,rfl,ga,gb,rfl,rfl,hf⟩
  · rintro n st ⟨x,y,hn,gx,gy,e0,e1,hr⟩
    have lx := gx.1
    have ly := gy.1
    by_cases hx : x = []
    · subst hx
      rw [lessP_nil] at hr
      refine Yg1 (fa2 @e0 @e1) ?_
      refine Yf0 ?_
      refine Yg1 (fa2 @e0 @e1) ?_
      refine Ye0 ?_;try (with_reducible exact trivial)
      rw [← hr];cases y <;> rfl
    by_cases hy : y = []
    · subst hy
      rw [lessP_end hx] at hr
      refine Yg1 (fa3 @e0 @e1 @hx) ?_
      refine Yf0 ?_
      refine Yg1 (fa3 @e0 @e1 @hx) ?_
      refine Ye0 ?_;try (with_reducible exact trivial)
      rw [← hr]
    obtain ⟨sx,gx2⟩ := P_step hx gx
    obtain ⟨sy,gy2⟩ := P_step hy gy
    rw [sx,sy,lessL] at hr
    have d1 := pcut_L x (by omega)
    have d2 := pcut_L y (by omega)
    refine Yg1 (fa4 @e0 @e1 @hx @hy) ?_
    refine Yt0 ?_
    refine Yr1 @e0 ?_;intro K hK
    refine Yc0 (d1) ?_
    refine hK _ ?_;clear hK K;try refine Wh0 ?_
    refine Yr1 @e1 ?_;intro K hK
    refine Yc0 (d2) ?_
    refine hK _ ?_;clear hK K;try refine Wh0 ?_
    by_cases he : hd x = hd y
    · rw [he] at hr
      simp only [beq_self_eq_true,if_true] at hr
      have hlt : (tl x).length < x.length := by
        have h1 := P_step hx gx
        cases hh : has x
        · rw [(cut_none hh).2];exact List.length_pos_iff.2 hx
        · have := tl_lt hh;omega
      refine Yg1 @he ?_
      refine Yf1 @he ?_
      refine Yg0 ?_
      refine LW_goto ?_;simp only [thenL,jumpsL,inBlockL,twoL,true_and]
      exact ⟨(tl x).length,by omega,tl x,tl y,rfl,gx2,gy2,Yq0,Yq0,hr⟩
    · have hne : (hd x == hd y) = false := by rw [beq_eq_false_iff_ne];exact he
      rw [hne] at hr
      simp only [Bool.false_eq_true,if_false] at hr
      refine Yg1 @he ?_
      refine Yt1 @he ?_
      refine Yg0 ?_
      refine Ye0 ?_;try (with_reducible exact trivial)
      exact hr
end Go.Proofs.YtbffcndmcaeamaaDoor
end
section
set_option linter.unusedSimpArgs false
set_option linter.unusedVariables false
namespace Go.Proofs.YtbffcndmcaeamaaDoor
open Nat renaming reduceAdd → zz1,reduceMul → zz2,reduceSub → zz3,reduceLT → zz4,reduceLeDiff → zz5,reduceEqDiff → zz6,reduceBEq → zzf
open Int renaming reduceAdd → zz7,reduceSub → zz8,reduceMul → zz9,reduceLT → zza,reduceLE → zzb,reduceEq → zzc,reduceNeg → zzd,reduceToNat → zze
open Op renaming operands → zo
open Call renaming operands → zc
open Go.RowKit Go.Proofs PathSpec

def strE (s : List UInt8) : List LV := [strL s]
theorem strE_len (s : List UInt8) : (strE s).length = 1 := rfl
def strsL (l : List (List UInt8)) : LV := rowL strE l
theorem drop_str {l : List (List UInt8)} {i : Nat} {a : List UInt8} (h : l[i]? = some a) : (l.flatMap strE).drop i = strL a :: (l.drop (i + 1)).flatMap strE := by
  have := drop_flat strE 1 strE_len h
  rwa [Nat.mul_one] at this
theorem strE_flen (l : List (List UInt8)) : (l.flatMap strE).length = l.length := by
  have := len_flat strE 1 strE_len l
  rwa [Nat.mul_one] at this
theorem str_snoc (r : List (List UInt8)) (y : List UInt8) : (r ++ [y]).flatMap strE = r.flatMap strE ++ [strL y] := by rw [List.flatMap_append];rfl

set_option maxRecDepth 100000 in
theorem rpname_L (l : List UInt8) (hl : l.length < 1000000) : LCalls Tryd.prog 29 [strL l] (boolL (nameB l)) := by
  refine LCalls.of (fun _ => false) Tryd.func29 rfl (by decide) Tryd.ntmps29 Tryd.results29 (by simp) ?_
  intro w0 S0 vs hgl hwf0 hsz hvs;clear hsz hvs hwf0 hgl
  generalize hR : nameB l = R
  refine Yg0 ?_
  refine LW_joinB (fun st => st.env 0 = strL l ∧ l.all okc = true) ?_ ?_
  · refine LW_loop (fun n st => ∃ i : Nat,n + i = l.length ∧ st.env 0 = strL l ∧ st.env 3 = intL i ∧ (l.take i).all okc = true) l.length ⟨0,by omega,rfl,rfl,rfl⟩ ?_
    rintro n st ⟨i,hn,e0,e3,hr⟩
    by_cases hlt : i < l.length
    · obtain ⟨c,hc⟩ := get_of_lt hlt
      have hcl : l[i] = c := by
        have := List.getElem?_eq_getElem hlt
        rw [hc] at this;exact (Option.some.inj this).symm
      have hg : (i : Int) < l.length := by omega
      have hw := w64s (n := i) (by omega)
      have hts := all_take_succ hlt
      rw [hcl,hr,Bool.true_and] at hts
      refine Yg1 (fa3 @e0 @e3 @hg) ?_
      refine Yt1 @hg ?_
      by_cases k1 : (c.toNat : Int) = 47
      · have hc1 : c = 47 := by apply UInt8.toNat_inj.1;show c.toNat = 47;omega
        refine Yg1 (fa5 @e0 @e3 @hg @hc @k1) ?_
        refine Yt1 @k1 ?_
        refine Yg0 ?_
        refine Ye0 ?_;try (with_reducible exact trivial)
        rw [← hR,nameB_bad hlt (by rw [hcl,hc1];rfl)]
      by_cases k2 : (c.toNat : Int) = 0
      · have hc1 : c = 0 := by apply UInt8.toNat_inj.1;show c.toNat = 0;omega
        refine Yg1 (fa6 @e0 @e3 @hg @hc @k1 @k2) ?_
        refine Yt0 ?_
        refine Yg0 ?_
        refine Ye0 ?_;try (with_reducible exact trivial)
        rw [← hR,nameB_bad hlt (by rw [hcl,hc1];rfl)]
      have hok : okc c = true := by
        unfold okc
        have n1 : (c == 47) = false := by rw [beq_eq_false_iff_ne];rintro rfl;exact k1 rfl
        have n2 : (c == 0) = false := by rw [beq_eq_false_iff_ne];rintro rfl;exact k2 rfl
        rw [n1,n2];rfl
      rw [hok] at hts
      refine Yg1 (fa6 @e0 @e3 @hg @hc @k1 @k2) ?_
      refine Yf0 ?_
      refine Yg1 (fa2 @e3 @hw) ?_
      exact ⟨n - 1,by omega,i + 1,by omega,(Yq1 @e0),Yq0,hts⟩
    · have hg : ¬ (i : Int) < l.length := by omega
      rw [List.take_of_length_le (by omega)] at hr
      refine Yg1 (fa3 @e0 @e3 @hg) ?_
      refine Yf1 @hg ?_
      refine LW_exit ?_;simp only [thenL,jumpsL,inBlockL,twoL,reduceIte,Nat.reduceEqDiff]
      exact ⟨(Yq1 @e0),hr⟩
  rintro st ⟨e0,hall⟩
  have hrest := nameB_rest (l := l) (by rw [List.take_of_length_le (Nat.le_refl _)];exact hall)
  rw [hR] at hrest
  by_cases h1 : (1 : Int) ≤ l.length
  rotate_left
  · refine Yg1 (fa2 @e0 @h1) ?_
    refine Ye0 ?_;try (with_reducible exact trivial)
    rw [hrest,decide_eq_false (by omega)];rfl
  by_cases h2 : (l.length : Int) ≤ 20
  rotate_left
  · refine Yg1 (fa3 @e0 @h1 @h2) ?_
    refine Ye0 ?_;try (with_reducible exact trivial)
    rw [hrest,decide_eq_false (p := l.length ≤ 20) (by omega)];simp
  rw [decide_eq_true (by omega),decide_eq_true (p := l.length ≤ 20) (by omega)] at hrest
  by_cases h3 : l = [46]
  · subst h3
    refine Yg1 (fa3 @e0 @h1 @h2) ?_
    refine Ye0 ?_;try (with_reducible exact trivial)
    rw [hrest];rfl
  by_cases h4 : l = [46,46]
  · subst h4
    refine Yg1 (fa4 @e0 @h1 @h2 @h3) ?_
    refine Ye0 ?_;try (with_reducible exact trivial)
    rw [hrest];rfl
  refine Yg1 (fa5 @e0 @h1 @h2 @h3 @h4) ?_
  refine Ye0 ?_;try (with_reducible exact trivial)
  rw [hrest];simp [h3,h4]

set_option maxRecDepth 100000 in
set_option maxHeartbeats 1000000 in
theorem rpcut_L (l : List UInt8) (hl : l.length < 1000000) : LCalls Tryd.prog 37 [strL l] (strsL (names l)) := by
  refine LCalls.of (fun _ => false) Tryd.func37 rfl (by decide) Tryd.ntmps37 Tryd.results37 (by simp) ?_
  intro w0 S0 vs hgl hwf0 hsz hvs;clear hsz hvs hwf0 hgl
  refine Yg0 ?_
  refine LW_nil (k := 3) (q := 1000) (e := 9) rfl ?_
  refine LW_loop (fun n st => ∃ (k f : Nat) (cs : List (List UInt8)),n + k = l.length + 1 ∧ cutInv l cs f k ∧ st.env 0 = strL l ∧ st.env 3 = .sl cs.length (cs.flatMap strE) (.row 1000) ∧ st.row 1000 = some (9,cs.length) ∧ st.env 4 = intL f ∧ st.env 5 = intL k ∧ st.mode = fun _ => false) (l.length + 1) ⟨0,0,[],by omega,cutInv_start l,rfl,rfl,rfl,rfl,rfl,rfl⟩ ?_
  rintro n st ⟨k,f,cs,hn,hI,e0,e3,r3,e4,e5,hmd⟩
  obtain ⟨hcs,hk1,hfk,_⟩ := id hI
  by_cases hlt : k ≤ l.length
  · have hg : (k : Int) ≤ l.length := by omega
    have hw := w64s (n := k) (by omega)
    have hfl := strE_flen cs
    have hfl1 : (cs.flatMap strE).length = cs.length * 1 := by rw [hfl,Nat.mul_one]
    have hc1 : (0 : Int) ≤ (f : Int) ∧ (f : Int) ≤ (k : Int) ∧ (k : Int) ≤ (l.length : Int) := by omega
    have hf0 : (0 : Int) ≤ (f : Int) := by omega
    have hfk2 : (f : Int) ≤ (k : Int) := by omega
    refine Yg1 (fa4 @e0 @e5 @hg @hlt) ?_
    refine Yt1 @hlt ?_
    have app : ∀ st : LSt,st.env 0 = strL l → st.env 3 = .sl cs.length (cs.flatMap strE) (.row 1000) → st.row 1000 = some (9,cs.length) → st.env 4 = intL f → st.env 5 = intL k → st.mode = (fun _ => false) → True := fun _ _ _ _ _ _ _ => trivial
    by_cases hk : k = l.length
    · have hke : (k : Int) = (l.length : Int) := by omega
      have hI2 := cutInv_end hI hk
      refine Yg1 (fa3 @e0 @e5 @hke) ?_
      refine Yt0 ?_
      refine Yr1 (fa12 @e0 @e3 @r3 @e4 @e5 @hf0 @hfk @hfk2 @hlt @hc1 @hfl1 @hmd) ?_;intro K hK
      refine ⟨by (repeat' apply And.intro) <;> first | omega | (unfold maxLen;omega) | rfl,?_⟩
      refine hK _ ?_;clear hK K;try refine Wh0 ?_
      refine Yg1 (fa2 @e5 @hw) ?_
      refine ⟨n - 1,by omega,k + 1,k + 1,_,by omega,hI2,(Yq1 @e0),?_,?_,Yq0,Yq0,(Yq1 @hmd)⟩
      · simp only [LZ,zo,zc,reduceCtorEq,reduceIte,zz1,zz2,zz3,zz4,zz5,zz6,zz7,zz8,zz9,zza,zzb,zzc,zzd,zze,zzf,str_snoc,List.length_append,List.length_cons,List.length_nil]
      · simp only [LZ,zo,zc,reduceCtorEq,reduceIte,zz1,zz2,zz3,zz4,zz5,zz6,zz7,zz8,zz9,zza,zzb,zzc,zzd,zze,zzf,List.length_append,List.length_cons,List.length_nil]
    · have hkl : k < l.length := by omega
      obtain ⟨c,hc⟩ := get_of_lt hkl
      have hcl : l[k] = c := by
        have := List.getElem?_eq_getElem hkl
        rw [hc] at this;exact (Option.some.inj this).symm
      have hke : ¬ (k : Int) = (l.length : Int) := by omega
      have hk0 : (0 : Int) ≤ (k : Int) := by omega
      by_cases k1 : (c.toNat : Int) = 47
      · have hc47 : c = 47 := by apply UInt8.toNat_inj.1;show c.toNat = 47;omega
        have hI2 := cutInv_sep hI hkl (by rw [hcl,hc47])
        refine Yg1 (fa6 @e0 @e5 @hke @hk0 @hc @k1) ?_
        refine Yt0 ?_
        refine Yr1 (fa12 @e0 @e3 @r3 @e4 @e5 @hf0 @hfk @hfk2 @hlt @hc1 @hfl1 @hmd) ?_;intro K hK
        refine ⟨by (repeat' apply And.intro) <;> first | omega | (unfold maxLen;omega) | rfl,?_⟩
        refine hK _ ?_;clear hK K;try refine Wh0 ?_
        refine Yg1 (fa2 @e5 @hw) ?_
        refine ⟨n - 1,by omega,k + 1,k + 1,_,by omega,hI2,(Yq1 @e0),?_,?_,Yq0,Yq0,(Yq1 @hmd)⟩
        · simp only [LZ,zo,zc,reduceCtorEq,reduceIte,zz1,zz2,zz3,zz4,zz5,zz6,zz7,zz8,zz9,zza,zzb,zzc,zzd,zze,zzf,str_snoc,List.length_append,List.length_cons,List.length_nil]
        · simp only [LZ,zo,zc,reduceCtorEq,reduceIte,zz1,zz2,zz3,zz4,zz5,zz6,zz7,zz8,zz9,zza,zzb,zzc,zzd,zze,zzf,List.length_append,List.length_cons,List.length_nil]
      · have hI2 := cutInv_skip hI hkl (by rw [hcl];rintro rfl;exact k1 rfl)
        refine Yg1 (fa6 @e0 @e5 @hke @hk0 @hc @k1) ?_
        refine Yf0 ?_
        refine Yg1 (fa2 @e5 @hw) ?_
        exact ⟨n - 1,by omega,k + 1,f,cs,by omega,hI2,(Yq1 @e0),(Yq1 @e3),(Yq1 @r3),(Yq1 @e4),Yq0,(Yq1 @hmd)⟩
  · have hg : ¬ (k : Int) ≤ l.length := by omega
    have hd := cutInv_done hI hlt
    subst hd
    refine Yg1 (fa4 @e0 @e5 @hg @hlt) ?_
    refine Yf1 @hlt ?_
    refine LW_exit ?_;simp only [thenL,jumpsL,inBlockL,twoL,reduceIte,Nat.reduceEqDiff]
    refine LW_plain 3 e3 ?_
    refine Yg0 ?_
    refine Ye1 @strsL.eq_1 ?_;try (with_reducible exact trivial)

set_option maxRecDepth 100000 in
theorem rpmay_L (l : List UInt8) (hl : l.length < 1000000) : LCalls Tryd.prog 26 [strL l] (boolL (mayB l)) := by
  have cc := rpcut_L l hl
  simp only [strsL,rowL] at cc
  refine LCalls.of (fun _ => false) Tryd.func26 rfl (by decide) Tryd.ntmps26 Tryd.results26 (by simp) ?_
  intro w0 S0 vs hgl hwf0 hsz hvs;clear hsz hvs hwf0 hgl
  generalize hR : mayB l = R
  refine Yg0 ?_
  by_cases h0 : l = []
  · refine Yg1 @h0 ?_
    refine Yt1 @h0 ?_
    refine Yg0 ?_
    refine Ye0 ?_;try (with_reducible exact trivial)
    rw [← hR,h0];rfl
  refine Yg1 @h0 ?_
  refine Yf1 @h0 ?_
  refine Yr0 ?_;intro K hK
  refine Yc0 (cc) ?_
  refine hK _ ?_;clear hK K;try refine Wh0 ?_
  refine Yg0 ?_
  have hnl := names_len l
  refine LW_joinB (fun st => st.env 0 = strL l ∧ st.env 3 = .sl (names l).length ((names l).flatMap strE) .no ∧ (names l).all nameB = true) ?_ ?_
  · refine LW_loop (fun n st => ∃ i : Nat,n + i = (names l).length ∧ st.env 0 = strL l ∧ st.env 3 = .sl (names l).length ((names l).flatMap strE) .no ∧ st.env 4 = intL i ∧ ((names l).take i).all nameB = true) (names l).length ⟨0,by omega,rfl,rfl,rfl,rfl⟩ ?_
    rintro n st ⟨i,hn,e0,e3,e4,hr⟩
    by_cases hlt : i < (names l).length
    · obtain ⟨x,hx⟩ := get_of_lt hlt
      have hxl := names_mem (List.mem_of_getElem? hx)
      have hd := drop_str hx
      have hw := w64s (n := i) (by omega)
      have cn := rpname_L x (by omega)
      refine Yg1 (fa2 @e3 @e4) ?_
      refine Yt1 @hlt ?_
      cases hnx : nameB x
      · rw [hnx] at cn
        refine Yr1 (fa4 @e3 @e4 @hlt @hd) ?_;intro K hK
        refine Yc0 (cn) ?_
        refine hK _ ?_;clear hK K;try refine Wh0 ?_
        refine Yt0 ?_
        refine Yg0 ?_
        refine Ye0 ?_;try (with_reducible exact trivial)
        rw [← hR,mayB_bad h0 hx hnx]
      · rw [hnx] at cn
        refine Yr1 (fa4 @e3 @e4 @hlt @hd) ?_;intro K hK
        refine Yc0 (cn) ?_
        refine hK _ ?_;clear hK K;try refine Wh0 ?_
        refine Yf0 ?_
        refine Yg1 (fa2 @e4 @hw) ?_
        exact ⟨n - 1,by omega,i + 1,by omega,(Yq1 @e0),(Yq1 @e3),Yq0,allN_succ hx hnx hr⟩
    · refine Yg1 (fa2 @e3 @e4) ?_
      refine Yf1 @hlt ?_
      refine LW_exit ?_;simp only [thenL,jumpsL,inBlockL,twoL,reduceIte,Nat.reduceEqDiff]
      rw [List.take_of_length_le (by omega)] at hr
      exact ⟨(Yq1 @e0),(Yq1 @e3),hr⟩
  rintro st ⟨e0,e3,hall⟩
  have hma := mayB_all h0 (by rw [List.take_of_length_le (Nat.le_refl _)];exact hall)
  rw [hR] at hma
  by_cases h1 : (l.length : Int) ≤ 100
  · rw [decide_eq_true (p := l.length ≤ 100) (by omega),Bool.true_and] at hma
    by_cases h2 : ((names l).length : Int) ≤ 8
    · refine Yg1 (fa4 @e0 @e3 @h1 @h2) ?_
      refine Ye0 ?_;try (with_reducible exact trivial)
      rw [hma,decide_eq_true (by omega)]
    · refine Yg1 (fa4 @e0 @e3 @h1 @h2) ?_
      refine Ye0 ?_;try (with_reducible exact trivial)
      rw [hma,decide_eq_false (by omega)]
  · rw [decide_eq_false (p := l.length ≤ 100) (by omega),Bool.false_and] at hma
    refine Yg1 (fa3 @e0 @e3 @h1) ?_
    refine Ye0 ?_;try (with_reducible exact trivial)
    rw [hma]

set_option maxRecDepth 100000 in
theorem rparts_L (l : List UInt8) (hl : l.length < 1000000) : LCalls Tryd.prog 25 [strL l] (strsL (partsB l)) := by
  have cm := rpmay_L l hl
  have cc := rpcut_L l hl
  simp only [strsL,rowL] at cc
  refine LCalls.of (fun _ => false) Tryd.func25 rfl (by decide) Tryd.ntmps25 Tryd.results25 (by simp) ?_
  intro w0 S0 vs hgl hwf0 hsz hvs;clear hsz hvs hwf0 hgl
  generalize hR : partsB l = R
  unfold partsB at hR
  refine Yg0 ?_
  by_cases h0 : l = []
  · subst h0
    refine Yg0 ?_
    refine Yt0 ?_
    refine Yg0 ?_
    refine Ye1 @strsL.eq_1 ?_;try (with_reducible exact trivial)
    rw [← hR];exact ⟨rfl,rfl⟩
  have h1 : l.isEmpty = false := by cases l <;> simp_all
  rw [h1,Bool.false_or] at hR
  cases hm : mayB l
  · rw [hm] at cm hR
    refine Yr1 @h0 ?_;intro K hK
    refine Yc0 (cm) ?_
    refine hK _ ?_;clear hK K;try refine Wh0 ?_
    refine Yt0 ?_
    refine Yg0 ?_
    refine Ye1 @strsL.eq_1 ?_;try (with_reducible exact trivial)
    rw [← hR];exact ⟨rfl,rfl⟩
  rw [hm] at cm hR
  refine Yr1 @h0 ?_;intro K hK
  refine Yc0 (cm) ?_
  refine hK _ ?_;clear hK K;try refine Wh0 ?_
  refine Yf0 ?_
  refine Yr0 ?_;intro K hK
  refine Yc0 (cc) ?_
  refine hK _ ?_;clear hK K;try refine Wh0 ?_
  refine Ye1 @strsL.eq_1 ?_;try (with_reducible exact trivial)
  rw [← hR];exact ⟨rfl,rfl⟩

set_option maxRecDepth 100000 in
theorem rpparent_L (l : List UInt8) (hl : l.length < 1000000) : LCalls Tryd.prog 8 [strL l] (.tup [strL (parentB l).1,boolL (parentB l).2]) := by
  have cp := rparts_L l hl
  simp only [strsL,rowL] at cp
  have hpl := partsB_len l
  refine LCalls.of (fun _ => false) Tryd.func8 rfl (by decide) Tryd.ntmps8 Tryd.results8 (by simp) ?_
  intro w0 S0 vs hgl hwf0 hsz hvs;clear hsz hvs hwf0 hgl
  refine Yg0 ?_
  rcases List.eq_nil_or_concat (partsB l) with hn | ⟨ys,y,hc⟩
  · have hpar := parentB_nil hn
    rw [hn] at cp
    simp only [List.flatMap_nil,List.length_nil] at cp
    refine Yr0 ?_;intro K hK
    refine Yc0 (cp) ?_
    refine hK _ ?_;clear hK K;try refine Wh0 ?_
    refine Yg0 ?_
    refine Yt0 ?_
    refine Yg0 ?_
    refine Ye0 ?_;try (with_reducible exact trivial)
    rw [hpar];exact ⟨rfl,rfl⟩
  · rw [List.concat_eq_append] at hc
    obtain ⟨hpar,hlst⟩ := parentB_snoc hc
    have hly : (ys ++ [y]).length = ys.length + 1 := by simp
    have hyl : y.length ≤ l.length := by
      have hm : y ∈ partsB l := by rw [hc];simp
      unfold partsB at hm
      split at hm
      · cases hm
      · exact names_mem hm
    rw [hc,hly,str_snoc] at cp
    rw [hc,hly] at hpl
    have hne : ¬ ((ys.length + 1 : Nat) : Int) = 0 := by omega
    have hwp := w64p (n := ys.length + 1) (by omega) (by omega)
    rw [Nat.add_sub_cancel] at hwp
    have hrl : ys.length < ys.length + 1 := Nat.lt_succ_self _
    have hr0 : (0 : Int) ≤ (ys.length : Int) := by omega
    have hdr : List.drop ys.length (ys.flatMap strE ++ [strL y]) = [strL y] := List.drop_left' (strE_flen ys)
    simp only [strL] at hdr
    have hw1 : IntKind.i64.wrap ((l.length : Int) - (y.length : Int)) = (l.length : Int) - y.length := w64 (by omega)
    have hw2 : IntKind.i64.wrap ((l.length : Int) - (y.length : Int) - 1) = (l.length : Int) - y.length - 1 := w64 (by omega)
    obtain ⟨k,hk,hk2⟩ : ∃ k : Nat,(if (l.length : Int) - (y.length : Int) - 1 > 0 then (l.length : Int) - (y.length : Int) - 1 else 0) = (k : Int) ∧ k = l.length - y.length - 1 := ⟨l.length - y.length - 1,by split <;> omega,rfl⟩
    have hpk : l.take k = par l := by unfold par;rw [hlst,hk2]
    have hkl : k ≤ l.length := by omega
    have hk0 : (0 : Int) ≤ (k : Int) := by omega
    refine Yr0 ?_;intro K hK
    refine Yc0 (cp) ?_
    refine hK _ ?_;clear hK K;try refine Wh0 ?_
    refine Yg1 @hne ?_
    refine Yf1 @hne ?_
    refine Yg1 (fa10 @hwp @hrl @hr0 @hdr @hw1 @hw2 @hk @hkl @hk0 @hpk) ?_
    refine Ye0 ?_;try (with_reducible exact trivial)
    rw [hpar];exact ⟨rfl,rfl⟩

set_option maxRecDepth 100000 in
set_option maxHeartbeats 1000000 in
theorem rpless_L (a b : List UInt8) (ha : a.length < 1000000) (hb : b.length < 1000000) : LCalls Tryd.prog 27 [strL a,strL b] (boolL (lessB a b)) := by
  have c1 := rparts_L a ha
  have c2 := rparts_L b hb
  have hxl := partsB_len a
  have hyl := partsB_len b
  refine LCalls.of (fun _ => false) Tryd.func27 rfl (by decide) Tryd.ntmps27 Tryd.results27 (by simp) ?_
  intro w0 S0 vs hgl hwf0 hsz hvs;clear hsz hvs hwf0 hgl
  generalize hR : lessB a b = R
  unfold lessB at hR
  generalize partsB a = xs at *
  generalize partsB b = ys at *
  simp only [strsL,rowL] at c1 c2
  refine Yg0 ?_
  refine Yr0 ?_;intro K hK
  refine Yc0 (c1) ?_
  refine Yc0 (c2) ?_
  refine hK _ ?_;clear hK K;try refine Wh0 ?_
  refine Yg0 ?_
  refine LW_joinB (fun st => st.env 5 = .sl xs.length (xs.flatMap strE) .no ∧ st.env 6 = .sl ys.length (ys.flatMap strE) .no ∧ decide (xs.length < ys.length) = R) ?_ ?_
  · refine LW_loop (fun n st => ∃ k : Nat,n + k = xs.length ∧ k ≤ ys.length ∧ st.env 5 = .sl xs.length (xs.flatMap strE) .no ∧ st.env 6 = .sl ys.length (ys.flatMap strE) .no ∧ st.env 7 = intL k ∧ lessL (xs.drop k) (ys.drop k) = R ∧ st.mode = fun _ => false) xs.length ⟨0,by omega,by omega,rfl,rfl,rfl,hR,rfl⟩ ?_
    rintro n st ⟨k,hn,hky,e5,e6,e7,hr,hmd⟩
    by_cases h1 : k < xs.length
    · by_cases h2 : k < ys.length
      · obtain ⟨x,hx⟩ := get_of_lt h1
        obtain ⟨y,hy⟩ := get_of_lt h2
        have hdx := drop_str hx
        have hdy := drop_str hy
        have hw := w64s (n := k) (by omega)
        rw [lessL_step hx hy] at hr
        refine Yg1 (fa5 @e5 @e6 @e7 @h1 @h2) ?_
        refine Yt1 @h2 ?_
        refine Yn1 (fa8 @e5 @e6 @e7 @h1 @h2 @hdx @hdy @hmd) ?_;intro K hK
        refine hK _ ?_;clear hK K;try refine Wh0 ?_
        by_cases he : x = y
        · rw [he] at hr
          simp only [beq_self_eq_true,if_true] at hr
          refine Yf1 @he ?_
          refine Yg1 (fa2 @e7 @hw) ?_
          exact ⟨n - 1,by omega,k + 1,by omega,by omega,(Yq1 @e5),(Yq1 @e6),Yq0,hr,(Yq1 @hmd)⟩
        · have hne : (x == y) = false := by rw [beq_eq_false_iff_ne];exact he
          rw [hne] at hr
          simp only [Bool.false_eq_true,if_false] at hr
          refine Yt1 @he ?_
          refine Yn1 (fa8 @e5 @e6 @e7 @h1 @h2 @hdx @hdy @hmd) ?_;intro K hK
          refine hK _ ?_;clear hK K;try refine Wh0 ?_
          refine Ye0 ?_;try (with_reducible exact trivial)
          exact hr
      · have hend := lessL_end (xs := xs) (ys := ys) (k := k) (by omega) (by omega) (fun h => h2 h.2)
        rw [hend] at hr
        refine Yg1 (fa5 @e5 @e6 @e7 @h1 @h2) ?_
        refine Yf1 @h2 ?_
        refine LW_exit ?_;simp only [thenL,jumpsL,inBlockL,twoL,reduceIte,Nat.reduceEqDiff]
        exact ⟨(Yq1 @e5),(Yq1 @e6),hr⟩
    · have hend := lessL_end (xs := xs) (ys := ys) (k := k) (by omega) (by omega) (fun h => h1 h.1)
      rw [hend] at hr
      refine Yg1 (fa4 @e5 @e6 @e7 @h1) ?_
      refine Yf1 @h1 ?_
      refine LW_exit ?_;simp only [thenL,jumpsL,inBlockL,twoL,reduceIte,Nat.reduceEqDiff]
      exact ⟨(Yq1 @e5),(Yq1 @e6),hr⟩
  rintro st ⟨e5,e6,hr⟩
  refine Yg1 (fa2 @e5 @e6) ?_
  refine Ye0 ?_;try (with_reducible exact trivial)
  exact hr
end Go.Proofs.YtbffcndmcaeamaaDoor
end
