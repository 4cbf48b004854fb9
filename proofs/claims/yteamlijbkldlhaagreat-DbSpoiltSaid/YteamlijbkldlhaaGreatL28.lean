import Derived.Test.YteamlijbkldlhaaGreatL27
import Derived.StillTail
set_option linter.unusedSimpArgs false
set_option linter.unusedVariables false
namespace Go.Proofs.YteamlijbkldlhaaGreat
open Go.RowKit

section
variable {P : Program} {N : Nat} {w0 : World} {S0 : Ent} {Q : Exit → LSt → Prop} {st : LSt}
def SegL (P : Program) (N : Nat) (w0 : World) (S0 : Ent) (ops : Array Oper) (Q : Exit → LSt → Prop) (l : List Oper) (st : LSt) : Prop :=
  ∀ a w,Rel P N w0 S0 st a w → wpList P ops (fun e a' w' => ∃ st',Rel P N w0 S0 st' a' w' ∧ Q e st') l a w
theorem seg_nil {ops : Array Oper} (h : Q .normal st) : SegL P N w0 S0 ops Q [] st := fun a w hr => wpList_nil ⟨st,hr,h⟩
theorem seg_ops {ops : Array Oper} (n : Nat) {l : List Oper} (h : ∀ K : LSt → Prop,(∀ st',SegL P N w0 S0 ops Q (l.drop n) st' → K st') → lops P N ops (l.take n) K st) : SegL P N w0 S0 ops Q l st := by
  intro a w hr
  have := lops_then (Q' := fun e a' w' => ∃ st',Rel P N w0 S0 st' a' w' ∧ Q e st') (rest := l.drop n) (l.take n) _ st a w hr (h _ fun _ h => h) (fun st' a' w' h1 h2 => h2 a' w' h1)
  rwa [List.take_append_drop] at this
theorem seg_one {ops : Array Oper} {l : List Oper} {o : Oper} (hg : o.guard = none) (h : LastL P N w0 S0 o (SegL P N w0 S0 ops Q l) st) : SegL P N w0 S0 ops Q (o :: l) st := by
  intro a w hr
  unfold wpList
  rw [if_pos (by simp [Region.wanted,hg])]
  exact .inl (h a w _ _ hr fun st2 a2 w2 hr2 hk2 => hk2 a2 w2 hr2)
def LSt.putV (st : LSt) (d : Nat) (x : LV) (v : Value) : LSt := { st.put (some d) x with val := upd st.val d (some v) }
theorem full_run {g : Gh} {a : Act} {w : World} {t : TypeId} {x y z : Operand} {n k : Nat} {cs : List LV} {tk : Tok} {e : TypeId} {sz : Nat} {r : Tmp} {type : TypeId} {pos : String} {after : Array Edge} {ik ik' : IntKind}
    (h : RelG P N w0 S0 g st a w) (hx : evL st.env x = .sl n cs tk) (hy : evL st.env y = .lit (.int ik k)) (hz : evL st.env z = .lit (.int ik' k)) (he : elemL P t = some (e,sz)) (hk : k ≤ n) (hr : r < N) :
    ∃ p,(execOp a.eval ⟨some r,.slice t x none (some y) (some z),type,pos,after,none⟩).run P w = .ok (.value (.slice p k k)) w ∧ RelG P N w0 S0 g (st.putV r (.sl k (cs.take (k * sz)) .no) (.slice p k k)) (a.put (some r) (.slice p k k)) w := by
  have hv := h.ev x
  rw [hx] at hv
  have hvy := h.ev y
  rw [hy] at hvy
  have hvy := hvy.inv_lit
  have hvz := h.ev z
  rw [hz] at hvz
  have hvz := hvz.inv_lit
  unfold elemL at he
  split at he
  · rename_i e' hu
    obtain ⟨i,hi,heq⟩ := Option.map_eq_some_iff.1 he
    cases heq
    have hsz : (Go.sizeOf e).run P w = .ok i.size w := by simp [Go.sizeOf,typeInfo,hi]
    have hb : ∀ cap : Nat,k ≤ cap → (Instr.sliceBounds true n cap none (some (.int ik k)) (some (.int ik' k))).run P w = .ok (0,k,k) w := by
      intro cap hc
      have h1 : ((k : Nat) : Int) ≤ (cap : Int) := by omega
      simp [Instr.sliceBounds,Instr.sliceBound,asIntOf,h1]
    obtain ⟨p,hp,hrep⟩ : ∃ p : Option Addr,(Instr.sliceAt t (a.eval x) none (some (a.eval y)) (some (a.eval z))).run P w = .ok (.slice p k k) w ∧ Rep P w g (.sl k (cs.take (k * i.size)) .no) (.slice p k k) := by
      rcases hv.inv_sl with ⟨p,cap,hv1,hn0,hcs⟩ | ⟨b,off,cap,hv1,hcap,hc⟩
      · subst hn0 hcs
        have hk0 : k = 0 := by omega
        subst hk0
        have := hb cap (by omega)
        refine ⟨p,?_,by rw [List.take_nil];exact .empty _ _ _⟩
        rw [hv1,hvy,hvz]
        simp only [Instr.sliceAt,Instr.slice,Sem.run_bind,run_underlying hu,Result.andThen,this,hsz]
        rfl
      · have := hb cap (by omega)
        refine ⟨some ⟨b,off,none⟩,?_,(hc.take _).rep_sl (by omega)⟩
        rw [hv1,hvy,hvz]
        simp only [Instr.sliceAt,Instr.slice,Sem.run_bind,run_underlying hu,Result.andThen,this,hsz]
        by_cases hk0 : k = 0
        · simp [hk0]
        · simp [Ne.symm hk0,hk0,Addr.add_lit]
    have hrun : (execOp a.eval ⟨some r,.slice t x none (some y) (some z),type,pos,after,none⟩).run P w = .ok (.value (.slice p k k)) w := by
      have : (do pure (Next.value (← Instr.sliceAt t (a.eval x) none (some (a.eval y)) (some (a.eval z)))) : Sem Next).run P w = .ok (.value (.slice p k k)) w := by rw [Sem.run_bind,hp];rfl
      simpa [execOp] using this
    have hR := h.put (dst := some r) (fun d' hd' => by cases hd';exact hr) hrep
    refine ⟨p,hrun,hR.defers,hR.size,hR.env,hR.below,hR.s0,hR.wf,hR.own,hR.inj,hR.box,hR.row,hR.dis,hR.arr,hR.dia,⟨hR.ex.glob,hR.ex.wf0,fun j v' hj => ?_⟩,hR.keep⟩
    have hrs : r < a.tmps.size := by rw [h.size];exact hr
    rw [getD_put hrs]
    simp only [LSt.putV,upd] at hj
    split at hj
    · cases hj;rename_i hjr;rw [if_pos hjr]
    · rename_i hjr;rw [if_neg hjr];exact h.ex.vals j v' hj
  · cases he
def StillL (P : Program) (N : Nat) (w0 : World) (S0 : Ent) (ops : Array Oper) (K : LSt → Prop) (l : List Oper) (st : LSt) : Prop :=
  ∀ g a w (K' : Act → Prop),RelG P N w0 S0 g st a w → (∀ st' a',Rel P N w0 S0 st' a' w → K st' → K' a') → wpStill P ops w K' l a
theorem still_nil {ops : Array Oper} {K : LSt → Prop} (h : K st) : StillL P N w0 S0 ops K [] st := fun g a w K' hr hK => wpStill_nil (hK st a ⟨g,hr⟩ h)
theorem still_pv {ops : Array Oper} {K : LSt → Prop} {l : List Oper} {o : Oper} {x : LV} (hg : o.guard = none) (hp : pv P (evL st.env) st.box st.arr o.op = some x) (hd : dstOk N o.dst = true) (h : StillL P N w0 S0 ops K l (st.put o.dst x)) : StillL P N w0 S0 ops K (o :: l) st := by
  intro g a w K' hr hK
  obtain ⟨v,hv,hrep⟩ := pv_sound (fun y _ => hr.ev y) hr.box hr.arr hp
  have hR := hr.put (dstOk_spec hd) hrep
  unfold wpStill
  rw [if_pos (by simp [Region.wanted,hg])]
  simp only [Oper.still,hv,Oper.stillUpon]
  exact ⟨trivial,h g _ w K' hR hK⟩
theorem still_full {ops : Array Oper} {K : LSt → Prop} {l : List Oper} {t : TypeId} {x y z : Operand} {n k : Nat} {cs : List LV} {tk : Tok} {e : TypeId} {sz : Nat} {r : Tmp} {type : TypeId} {pos : String} {after : Array Edge} {ik ik' : IntKind}
    (hx : evL st.env x = .sl n cs tk) (hy : evL st.env y = .lit (.int ik k)) (hz : evL st.env z = .lit (.int ik' k)) (he : elemL P t = some (e,sz)) (hk : k ≤ n) (hr : r < N)
    (h : ∀ p,StillL P N w0 S0 ops K l (st.putV r (.sl k (cs.take (k * sz)) .no) (.slice p k k))) : StillL P N w0 S0 ops K (⟨some r,.slice t x none (some y) (some z),type,pos,after,none⟩ :: l) st := by
  intro g a w K' hrel hK
  obtain ⟨p,hv,hR⟩ := full_run (type := type) (pos := pos) (after := after) hrel hx hy hz he hk hr
  unfold wpStill
  rw [if_pos (by simp [Region.wanted])]
  simp only [Oper.still,hv,Oper.stillUpon]
  exact ⟨trivial,h p g _ w K' hR hK⟩
theorem LW_stillTail {id : Nat} {l : List Oper} (n : Nat) (hm : P.follows .mixedOrders = true) (hB : Region.lexTailB .any l.toArray n = true)
    (h : StillL P N w0 S0 l.toArray (SegL P N w0 S0 l.toArray Q (l.drop n)) (l.take n) st) : LW P N w0 S0 (.region id l.toArray true) Q st := by
  rintro a w hr
  obtain ⟨g,hg⟩ := hr.drew
  exact wp_region_still_tail n hm hB (h g a _ _ hg fun st' a' hr' hs => hs a' _ hr')
theorem sl_src {w : World} {g : Gh} {m : Nat} {ds : List LV} {tk : Tok} {v : Value} (h : Rep P w g (.sl m ds tk) v) : ∃ (src : Option Addr) (c : Nat) (news : List Value),v = .slice src m c ∧ Vals P w g ds news ∧ ∀ (j : Nat) u,news[j]? = some u → ∃ ad : Addr,src = some ad ∧ w.cell? (ad.add j) = some u := by
  rcases h.inv_sl with ⟨p,cap,hv1,hm,hds⟩ | ⟨b,off,cap,hv1,_,val,h1,h2⟩
  · subst hm hds
    exact ⟨p,cap,[],hv1,⟨rfl,fun i c u hc => by cases hc⟩,fun j u hu => by cases hu⟩
  · refine ⟨_,_,(List.range ds.length).map val,hv1,⟨by simp,fun i c u hc hu => ?_⟩,fun j u hu => ⟨_,rfl,?_⟩⟩
    · have hi := (List.getElem?_eq_some_iff.1 hc).1
      rw [List.getElem?_map,List.getElem?_range hi] at hu
      cases hu
      exact h2 i c hc
    · have hj : j < ds.length := by simpa using (List.getElem?_eq_some_iff.1 hu).1
      rw [List.getElem?_map,List.getElem?_range hj] at hu
      cases hu
      rw [Addr.add_lit]
      exact (h1 j hj).2
theorem full_append {Kont : LSt → Prop} {t e : TypeId} {q : Nat} {y : Operand} {k m : Nat} {cs ds : List LV} {tk tk' : Tok} {i : TypeInfo} {p : Option Addr} {d : Tmp} {type : TypeId} {pos : String} {after : Array Edge}
    (hu : P.underlying t = some (.slice e)) (hi : P.info? e = some i) (hk : 0 < i.size) (hone : ds.all oneL = true) (hzo : zeroOk P e = true) (hby : (k + m) * i.bytes ≤ 140737488355328) (hmax : k + m ≤ maxLen)
    (hx : st.env q = .sl k cs tk) (hxv : st.val q = some (.slice p k k)) (hcs : cs.length = k * i.size) (hy : evL st.env y = .sl m ds tk') (hds : ds.length = m * i.size) (hd : d < N)
    (hQ : Kont (st.put (some d) (.sl (k + m) (cs ++ ds) .no))) :
    LastL P N w0 S0 ⟨some d,.call ⟨.builtin .append,⟨[.tmp q,y]⟩,⟨[t,t]⟩⟩,type,pos,after,none⟩ Kont st := by
  rintro a w K Q' ⟨g,h⟩ hK
  have hvx : a.eval (.tmp q) = .slice p k k := h.ex.vals q _ hxv
  have hrx := h.env q
  rw [hx] at hrx
  have hrx : Rep P w g (.sl k cs tk) (a.eval (.tmp q)) := hrx
  obtain ⟨src,c,olds,hv1,hvo,hoc⟩ := sl_src hrx
  rw [hvx] at hv1
  cases hv1
  obtain ⟨src',c',news,hv2,hvn,hnc⟩ := sl_src (hy ▸ h.ev y)
  obtain ⟨z,hz,hzs⟩ : ∃ z,i.zero = some z ∧ z.cells.size = i.size := by
    unfold zeroOk at hzo
    rw [hi] at hzo
    simp only at hzo
    split at hzo
    · rename_i z hz;exact ⟨z,hz,by simpa using hzo⟩
    · cases hzo
  have hol : olds.length = k * i.size := by rw [← hvo.1];exact hcs
  have hnl : news.length = m * i.size := by rw [← hvn.1];exact hds
  have hmx : k + m ≤ 9223372036854775807 := by unfold maxLen at hmax;omega
  have fin : ∀ v',(Builtin.append_ #[t,t] type #[.slice p k k,.slice src' m c']).run P w = .ok v' w ∨ (∃ w',(Builtin.append_ #[t,t] type #[.slice p k k,.slice src' m c']).run P w = .ok v' w') → True := fun _ _ => trivial
  have step : ∀ v' w' g',(Builtin.append_ #[t,t] type #[.slice p k k,.slice src' m c']).run P w = .ok v' w' → RelG P N w0 S0 g' st a w' → Rep P w' g' (.sl (k + m) (cs ++ ds) .no) v' → (⟨some d,.call ⟨.builtin .append,⟨[.tmp q,y]⟩,⟨[t,t]⟩⟩,type,pos,after,none⟩ : Oper).wp P a w K Q' := by
    intro v' w' g' hrun hR hrep
    unfold Oper.wp
    have hr' : (execOp a.eval ⟨some d,.call ⟨.builtin .append,⟨[.tmp q,y]⟩,⟨[t,t]⟩⟩,type,pos,after,none⟩).run P w = .ok (.value v') w' := by
      have : (do pure (Next.value (← Builtin.append_ #[t,t] type #[.slice p k k,.slice src' m c'])) : Sem Next).run P w = .ok (.value v') w' := by rw [Sem.run_bind,hrun];rfl
      rw [← hv2,← hvx] at this
      simpa [execOp,resolve,invoke,builtin] using this
    rw [hr']
    exact hK _ _ _ ⟨g',hR.put (fun d' hd' => by cases hd';exact hd) hrep⟩ hQ
  by_cases hm : m = 0
  · subst hm
    have hd0 : ds = [] := List.eq_nil_of_length_eq_zero (by rw [hds];simp)
    subst hd0
    refine step (.slice p k k) w g ?_ h ?_
    · have hf : (Builtin.firstCells i.size 0 (.slice src' 0 c')).run P w = .ok #[] w := by
        cases src' <;> simp [Builtin.firstCells,loadCells,loadCellsFrom]
      cases p <;> simp [Builtin.append_,run_underlying hu,Go.sizeOf,typeInfo,hi,Builtin.lenOf,hf,storeCells]
    · rw [List.append_nil,Nat.add_zero]
      rw [hvx] at hrx
      exact hrx.no_of rfl
  · have hpos : 0 < news.length := by rw [hnl];exact Nat.mul_pos (by omega) hk
    obtain ⟨ad,rfl,_⟩ := hnc 0 news[0] (List.getElem?_eq_getElem hpos)
    have hn' : ∀ (j : Nat) u,news[j]? = some u → w.cell? (ad.add j) = some u := fun j u hu => by
      obtain ⟨a',ha',h⟩ := hnc j u hu;cases ha';exact h
    have grown : ∀ (rest : List Value) (cap : Nat) (w' : World),k + m ≤ cap → w'.os = w.os → w'.tape = w.tape → w'.output = w.output → w'.heap = w.heap.push (.cells (olds ++ news ++ rest).toArray e) →
        (Builtin.append_ #[t,t] type #[.slice p k k,.slice (some ad) m c']).run P w = .ok (.slice (some ⟨w.heap.size,0,none⟩) (k + m) cap) w' → (⟨some d,.call ⟨.builtin .append,⟨[.tmp q,y]⟩,⟨[t,t]⟩⟩,type,pos,after,none⟩ : Oper).wp P a w K Q' := by
      intro rest cap w' hcap o1 o2 o3 hheap hrun
      have hws : w'.heap.size = w.heap.size + 1 := by rw [hheap];simp
      have hG : G w w' := ⟨o1,o2,o3,by omega,fun b hb => by rw [hheap,Array.getElem?_push,if_neg (by omega)]⟩
      have hnew : w'.heap[w.heap.size]? = some (Obj.cells (olds ++ news ++ rest).toArray e) := by rw [hheap];simp
      have hS : ∀ b j,b < w.heap.size → ((g.S b j ∨ b = w.heap.size) ↔ g.S b j) := fun b j hb => ⟨fun hs => hs.elim id fun c => by omega,.inl⟩
      have hR := h.grow (S' := fun b j => g.S b j ∨ b = w.heap.size) hG hS (fun b j hs => hs.elim (fun hs => by have := h.wf b j hs;omega) fun c => by omega)
      refine step _ w' _ hrun hR ?_
      have hval : Vals P w g (cs ++ ds) (olds ++ news) := hvo.append hvn
      refine CellsAt.rep_sl ⟨fun j => (olds ++ news).getD j undef,fun j hj => ⟨.inr rfl,?_⟩,fun j x hx => ?_⟩ hcap
      · have hj2 : j < (olds ++ news).length := by rw [← hval.1];exact hj
        show _ = some ((olds ++ news).getD j undef)
        rw [Nat.zero_add,cell_of_heap hnew,List.getElem?_toArray,List.getElem?_append_left hj2,List.getD_eq_getElem?_getD,List.getElem?_eq_getElem hj2];rfl
      · have hj : j < (cs ++ ds).length := (List.getElem?_eq_some_iff.1 hx).1
        have hj2 : j < (olds ++ news).length := by rw [← hval.1];exact hj
        have := hval.2 j x ((olds ++ news).getD j undef) hx (by rw [List.getD_eq_getElem?_getD,List.getElem?_eq_getElem hj2];rfl)
        refine Rep.mono this (Mono.bare (g := g) (g' := ⟨fun b j => g.S b j ∨ b = w.heap.size,g.own,g.row⟩) fun b i v hs hc => ⟨.inl hs,?_⟩)
        rw [hG.cellAt (h.wf b i hs)];exact hc
    cases p with
    | none =>
      have hk0 : k = 0 := by
        rcases (show Rep P w g (.sl k cs tk) (.slice none k k) from hvx ▸ hrx).inv_sl with ⟨_,_,hv,h0,_⟩ | ⟨_,_,_,hv,_⟩
        · exact h0
        · cases hv
      subst hk0
      have ho0 : olds = [] := List.eq_nil_of_length_eq_zero (by rw [hol];simp)
      subst ho0
      rw [Nat.zero_add] at hmx hby hmax
      have hr := run_append_nil (P := P) w t type e i z hu hi hz ad m c' news hnl hn' (by omega) (by omega) (by omega)
      refine grown (Builtin.zeroCells z.cells (grownCap w m 0 e - m)).toList (grownCap w m 0 e) _ (by rw [Nat.zero_add];exact grownCap_ge _ _ _ _) ?_ ?_ ?_ ?_ (by rw [Nat.zero_add];exact hr)
      · rfl
      · rfl
      · rfl
      · show w.heap.push _ = _
        congr 2
        apply Array.ext'
        simp
    | some b =>
      have holds : ∀ (j : Nat) u,olds[j]? = some u → w.cell? (b.add j) = some u := fun j u hu => by
        obtain ⟨a',ha',h⟩ := hoc j u hu;cases ha';exact h
      have hr := run_append_grow (P := P) w t type e i z hu hi hz b k k olds hol holds ad m c' news hnl hn' (by omega) (by omega) (growslice_fits (by omega) hby)
      refine grown (Builtin.zeroCells z.cells (grownCap w (k + m) k e - (k + m))).toList _ _ (grownCap_ge _ _ _ _) ?_ ?_ ?_ ?_ hr
      · rfl
      · rfl
      · rfl
      · show w.heap.push _ = _
        congr 2
        apply Array.ext'
        simp
theorem full_append' {Kont : LSt → Prop} {t e : TypeId} {q sz : Nat} {y : Operand} {k m : Nat} {cs ds : List LV} {tk tk' : Tok} {p : Option Addr} {d : Tmp} {type : TypeId} {pos : String} {after : Array Edge}
    (hel : elemL P t = some (e,sz)) (hk : 0 < sz) (hone : ds.all oneL = true) (hzo : zeroOk P e = true) (hby : (k + m) * bytesL P e ≤ 140737488355328) (hmax : k + m ≤ maxLen)
    (hx : st.env q = .sl k cs tk) (hxv : st.val q = some (.slice p k k)) (hcs : cs.length = k * sz) (hy : evL st.env y = .sl m ds tk') (hds : ds.length = m * sz) (hd : d < N)
    (hQ : Kont (st.put (some d) (.sl (k + m) (cs ++ ds) .no))) :
    LastL P N w0 S0 ⟨some d,.call ⟨.builtin .append,⟨[.tmp q,y]⟩,⟨[t,t]⟩⟩,type,pos,after,none⟩ Kont st := by
  unfold elemL at hel
  split at hel
  · rename_i e' hu
    obtain ⟨i,hi,heq⟩ := Option.map_eq_some_iff.1 hel
    cases heq
    exact full_append hu hi hk hone hzo (by simpa [bytesL,hi] using hby) hmax hx hxv hcs hy hds hd hQ
  · cases hel
end
end Go.Proofs.YteamlijbkldlhaaGreat
