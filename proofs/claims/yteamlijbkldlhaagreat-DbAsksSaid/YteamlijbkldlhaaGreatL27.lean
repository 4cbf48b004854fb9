import Derived.Test.YteamlijbkldlhaaGreatL25
section
set_option linter.unusedSimpArgs false
set_option linter.unusedVariables false
namespace Go.Proofs.YteamlijbkldlhaaGreat
open Go.RowKit

theorem LW_joinC {P : Program} {N : Nat} {w0 : World} {S0 : Ent} {a b : Code} {Q Q2 : Exit → LSt → Prop} {K : LSt → Prop} {st : LSt} (M : LSt → Prop) (h1 : LW P N w0 S0 a (thenL (LW P N w0 S0 b (thenL M Q)) Q2) st) (h2 : ∀ st',M st' → K st') : LW P N w0 S0 a (thenL (LW P N w0 S0 b (thenL K Q)) Q2) st :=
  h1.mono fun e st' h => by cases e <;> first | exact LW_join M h h2 | exact h
theorem LW_two {P : Program} {N : Nat} {w0 : World} {S0 : Ent} {Q : Exit → LSt → Prop} {st : LSt} {c : Code} (M : LSt → Prop) (h1 : (∀ st',M st' → LW P N w0 S0 c Q st') → LW P N w0 S0 c Q st) (h2 : ∀ st',M st' → LW P N w0 S0 c Q st') : LW P N w0 S0 c Q st := h1 h2
end Go.Proofs.YteamlijbkldlhaaGreat
end
section
set_option linter.unusedSimpArgs false
set_option linter.unusedVariables false
namespace Go.Proofs.YteamlijbkldlhaaGreat
open Go.RowKit

section
variable {P : Program} {N : Nat} {w0 : World} {S0 : Ent} {Q : Exit → LSt → Prop} {st : LSt}
theorem LW_pubBox {c : Code} (k : Nat) {d : Nat} {cs : List LV} (hk : st.env k = .ptr d 0) (hb : st.box d = some cs) (h : LW P N w0 S0 c Q ((st.forget d).put (some k) (.ref (cs.map strip1)))) : LW P N w0 S0 c Q st := by
  intro a w hr
  refine h a w ?_
  obtain ⟨g,hg⟩ := hr
  have hv := hg.env k
  rw [hk] at hv
  let S' : Nat → Nat → Prop := fun b i => g.S b i ∨ (g.own d = some b)
  let g' : Gh := ⟨S',g.own,upd g.row d none⟩
  have m : MonoX P d w g w g' := ⟨fun b i v hs hc => ⟨.inl hs,hc⟩,fun _ _ _ h => h,fun q' e' n v hq' he ho => by
    simp only [g',upd_ne _ _ hq'] at he
    rcases ho e' he with h0 | ⟨b,cap,cur,h1,h2,h3,h4,h5,h6,h7⟩
    · exact .inl h0
    · refine .inr ⟨b,cap,cur,h1,h2,h3,h4,h5,h6,fun i hi hs => ?_⟩
      rcases hs with hs | hs
      · exact h7 i hi hs
      · exact hq' (hg.inj _ _ b h1 hs),fun _ _ cur _ _ _ hc => ⟨cur,hc,rfl⟩⟩
  have hR : RelG P N w0 S0 g' (st.forget d) a w := by
    refine hg.change m (.refl _ _ _) (fun b i hb hH => ⟨fun hs => hs.elim id fun ho => ?_,.inl⟩) (fun b i hs => hs.elim (hg.wf b i) fun ho => (hg.own d b ho).2) hg.own hg.inj (fun k' b hk' hb hn => ⟨rfl,fun i hs => hs.elim (hn i) fun ho => hk' (hg.inj _ _ b hb ho)⟩) rfl (fun _ _ _ h => h) (fun cs hc => ?_) ?_ (fun k' hk' => ?_) (fun k' cs hk' hc => ?_) (fun cs hc => ?_)
    · exact absurd ((hg.own d b ho).1.elim (fun h => by omega) hH) id
    · simp [LSt.forget] at hc
    · simp only [g',hg.row];rfl
    · simp only [LSt.forget,upd_ne _ _ hk']
    · simpa only [LSt.forget,upd_ne _ _ hk'] using hc
    · simp [LSt.forget,upd] at hc
  refine ⟨g',⟨hR.defers,hR.size,fun j => ?_,hR.below,hR.s0,hR.wf,hR.own,hR.inj,hR.box,hR.row,hR.dis,hR.arr,hR.dia,⟨hR.ex.glob,hR.ex.wf0,fun j v' hj => by
    simp only [LSt.put,upd] at hj
    split at hj
    · cases hj
    · exact hR.ex.vals j v' hj⟩,hR.keep⟩⟩
  simp only [LSt.put,upd]
  split
  · rename_i hj
    rw [hj]
    obtain ⟨b,hx,h1⟩ := hv.inv_ptr
    rw [hx]
    obtain ⟨b',vals,T,k1,k2,k3,k4,k5⟩ := hg.box d cs hb
    rw [h1] at k1
    cases k1
    refine .ref _ _ _ _ (fun i => vals.getD i undef) (fun i hi => ⟨.inr h1,?_⟩) fun i c hc => ?_
    · rw [List.length_map] at hi
      rw [Nat.zero_add,cell_of_heap k2]
      have : i < vals.size := by omega
      simp [this]
    · obtain ⟨c',hc',rfl⟩ := map_get hc
      have hi : i < vals.size := by rw [k3];exact (List.getElem?_eq_some_iff.1 hc').1
      have h2 := k4 i c' (vals.getD i undef) hc' (by simp [hi])
      exact (h2.strip1 (g' := g.bare) rfl).mono (Mono.bare (g := g) (g' := g') fun b i v hs hc => ⟨.inl hs,hc⟩)
  · exact hR.env j
theorem fnCall_last {Kont : LSt → Prop} {f : FuncId} {cs : List LV} {r : LV} {x : Operand} {args : Array Operand} {d : Tmp} {type : TypeId} {pos : String} {after : Array Edge} {ts : Array TypeId}
    (hx : evL st.env x = .fn f cs) (hc : LCalls P f (((args.toList.map (evL st.env)).map strip) ++ cs) r) (hd : d < N) (hQ : Kont (st.put (some d) (strip r))) :
    LastL P N w0 S0 ⟨some d,.call ⟨.value x,args,ts⟩,type,pos,after,none⟩ Kont st := by
  rintro a w K Q' ⟨g,h⟩ hK
  have hv := h.ev x
  rw [hx] at hv
  obtain ⟨vs,hvx,hvl,hvr⟩ := hv.inv_fn
  have hrun : (execOp a.eval ⟨some d,.call ⟨.value x,args,ts⟩,type,pos,after,none⟩).run P w = .ok (.enter f (args.map a.eval ++ vs)) w := by
    have := hc.enters (args.map a.eval ++ vs) w
    simpa [execOp,resolve,hvx,Deferred.ofValue,invoke] using this
  unfold Oper.wp
  rw [hrun]
  have hcc := hc.calls w g.S (args.map a.eval ++ vs) (h.ex.glob _ h.below) h.wf (by simp [hvl]) (fun i c u hc hu => by
    by_cases hi : i < args.size
    · rw [List.getElem?_append_left (by simpa using hi)] at hc
      rw [Array.getElem?_append_left (by simpa using hi)] at hu
      obtain ⟨c',hc',rfl⟩ := map_get hc
      rw [List.getElem?_map,Option.map_eq_some_iff] at hc'
      obtain ⟨y,hy,rfl⟩ := hc'
      rw [Array.getElem?_map,Option.map_eq_some_iff] at hu
      obtain ⟨y',hy',rfl⟩ := hu
      rw [Array.getElem?_toList] at hy
      rw [hy] at hy'
      cases hy'
      exact (h.ev y).strip rfl
    · rw [List.getElem?_append_right (by simp;omega)] at hc
      rw [Array.getElem?_append_right (by simp;omega)] at hu
      simp only [List.length_map,Array.length_toList,Array.size_map] at hc hu
      exact hvr _ c u hc hu)
  refine Calls.mono hcc fun e w' ⟨v,S',he,hr,hg,hS,hwf⟩ => ?_
  subst he
  exact hK _ _ _ ⟨_,(h.grow hg hS hwf).put (fun d' hd' => by cases hd';exact hd) (hr.strip rfl)⟩ hQ
end
end Go.Proofs.YteamlijbkldlhaaGreat
end
