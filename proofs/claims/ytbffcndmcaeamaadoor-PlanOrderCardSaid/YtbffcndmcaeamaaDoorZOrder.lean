import Derived.Test.YtbffcndmcaeamaaDoorZCount
import Derived.Test.YtbffcndmcaeamaaDoorL9
set_option linter.unusedSimpArgs false
set_option linter.unusedVariables false
namespace Go.Proofs.YtbffcndmcaeamaaDoor.PlanSpec
open AclSpec MetaSpec NodeSpec PathSpec TreeSpec

theorem lookup_none_iff {kvs : List (List UInt8 × Int)} {k : List UInt8} : kvs.lookup k = none ↔ k ∉ kvs.map (·.1) := by
  induction kvs with
  | nil => simp
  | cons p r ih =>
    rw [show p = (p.1,p.2) from rfl,List.lookup_cons]
    by_cases h : k = p.1
    · simp [h]
    · have : (k == p.1) = false := by simpa using h
      rw [this]
      simp only [List.map_cons,List.mem_cons,not_or]
      rw [ih]
      exact ⟨fun hr => ⟨h,hr⟩,fun hr => hr.2⟩
theorem hasM_iff {kvs : List (List UInt8 × Int)} {k : List UInt8} : mapH kvs k = true ↔ k ∈ kvs.map (·.1) := by
  unfold mapH
  have := lookup_none_iff (kvs := kvs) (k := k)
  cases h : kvs.lookup k with
  | none => simp [this.1 h]
  | some x =>
    have : ¬ k ∉ kvs.map (·.1) := fun hn => by rw [this.2 hn] at h;cases h
    simp only [Option.isSome_some,true_iff]
    exact Classical.not_not.1 this
theorem setM_new {kvs : List (List UInt8 × Int)} {k : List UInt8} (x : Int) (h : k ∉ kvs.map (·.1)) : mapS kvs k x = kvs ++ [(k,x)] := by
  induction kvs with
  | nil => rfl
  | cons p r ih =>
    simp only [List.map_cons,List.mem_cons,not_or] at h
    rw [mapS,if_neg h.1,ih h.2];rfl
theorem lookup_mem {kvs : List (List UInt8 × Int)} {k : List UInt8} {x : Int} (h : kvs.lookup k = some x) : (k,x) ∈ kvs := by
  induction kvs with
  | nil => cases h
  | cons p r ih =>
    rw [show p = (p.1,p.2) from rfl,List.lookup_cons] at h
    by_cases hk : k = p.1
    · have : (k == p.1) = true := by simpa using hk
      rw [this] at h
      cases h
      rw [hk];simp
    · have : (k == p.1) = false := by simpa using hk
      rw [this] at h
      exact List.mem_cons_of_mem _ (ih h)
theorem getM_mem {kvs : List (List UInt8 × Int)} {k : List UInt8} (h : mapH kvs k = true) : (k,mapG kvs k) ∈ kvs := by
  unfold mapH at h
  unfold mapG
  cases hl : kvs.lookup k with
  | none => rw [hl] at h;cases h
  | some x => exact lookup_mem hl

structure OSt where
  made : List (List UInt8 × Int)
  timed : List (List UInt8 × Int)
def stepO (st : OSt) (i : Nat) (s : PStep) : Option OSt :=
  if s.kind = 1 ∨ s.kind = 2 ∨ s.kind = 5 then
    if mapH st.made (parentB s.path).1 = false ∨ mapH st.made s.path = true ∨ (i : Int) ≤ mapG st.made (parentB s.path).1 then none
    else if mapH st.timed (parentB s.path).1 = true then none
    else if s.kind = 5 ∧ mapH st.made s.other = false then none
    else some ⟨mapS st.made s.path i,st.timed⟩
  else if s.kind = 10 then if mapH st.timed s.path = true then none else some ⟨st.made,mapS st.timed s.path i⟩
  else if mapH st.made s.path = false then none else some st
def runO : List PStep → Nat → OSt → Option OSt
  | [],_,st => some st
  | s :: r,i,st => match stepO st i s with
    | none => none
    | some st' => runO r (i + 1) st'
theorem runO_app : ∀ (a b : List PStep) (i : Nat) (st st' : OSt),runO a i st = some st' → runO (a ++ b) i st = runO b (i + a.length) st'
  | [],b,i,st,st',h => by cases h;rfl
  | s :: a,b,i,st,st',h => by
    rw [List.cons_append,runO]
    rw [runO] at h
    cases hs : stepO st i s with
    | none => rw [hs] at h;cases h
    | some st1 =>
      rw [hs] at h
      simp only at h ⊢
      rw [runO_app a b (i + 1) st1 st' h,List.length_cons]
      congr 1;omega
def timesL : List PStep → Nat → List (List UInt8 × Int)
  | [],_ => []
  | s :: r,i => if s.kind = 10 then (s.path,(i : Int)) :: timesL r (i + 1) else timesL r (i + 1)
def keysT (l : List PStep) : List (List UInt8) := (l.filter fun s => decide (s.kind = 10)).map (·.path)
theorem keysT_app (a b : List PStep) : keysT (a ++ b) = keysT a ++ keysT b := by unfold keysT;rw [List.filter_append,List.map_append]
theorem timesL_keys : ∀ (l : List PStep) (i : Nat),(timesL l i).map (·.1) = keysT l
  | [],_ => rfl
  | s :: r,i => by
    unfold keysT
    rw [timesL]
    by_cases h : s.kind = 10
    · rw [if_pos h,List.filter_cons_of_pos (by simp [h]),List.map_cons,List.map_cons,timesL_keys r (i + 1)];rfl
    · rw [if_neg h,List.filter_cons_of_neg (by simp [h]),timesL_keys r (i + 1)];rfl
theorem timesL_app : ∀ (a b : List PStep) (i : Nat),timesL (a ++ b) i = timesL a i ++ timesL b (i + a.length)
  | [],b,i => rfl
  | s :: a,b,i => by
    rw [List.cons_append,timesL,timesL,timesL_app a b (i + 1),List.length_cons]
    have : i + 1 + a.length = i + (a.length + 1) := by omega
    rw [this]
    split <;> rfl
theorem timesL_val : ∀ (l : List PStep) (i : Nat),∀ x ∈ timesL l i,(i : Int) ≤ x.2 ∧ x.2 < ((i + l.length : Nat) : Int)
  | [],_,x,hx => by cases hx
  | s :: r,i,x,hx => by
    rw [timesL] at hx
    have key : x ∈ timesL r (i + 1) → (i : Int) ≤ x.2 ∧ x.2 < ((i + (s :: r).length : Nat) : Int) := fun h => by
      have := timesL_val r (i + 1) x h
      rw [List.length_cons];omega
    split at hx
    · rcases List.mem_cons.1 hx with rfl | hx
      · rw [List.length_cons];simp only;omega
      · exact key hx
    · exact key hx
theorem run_late (made : List (List UInt8 × Int)) : ∀ (l : List PStep) (i : Nat) (timed : List (List UInt8 × Int)),(∀ s ∈ l,6 ≤ s.kind ∧ s.path ∈ made.map (·.1)) → (timed.map (·.1) ++ keysT l).Nodup →
    runO l i ⟨made,timed⟩ = some ⟨made,timed ++ timesL l i⟩
  | [],i,timed,_,_ => by rw [runO,timesL,List.append_nil]
  | s :: r,i,timed,hl,hd => by
    obtain ⟨h1,h2⟩ := hl s (by simp)
    have hr := fun x hx => hl x (List.mem_cons_of_mem s hx)
    rw [runO,timesL]
    unfold stepO
    rw [if_neg (by omega)]
    by_cases hk : s.kind = 10
    · have hkt : keysT (s :: r) = s.path :: keysT r := by unfold keysT;rw [List.filter_cons_of_pos (by simp [hk])];rfl
      rw [hkt] at hd
      have hn : s.path ∉ timed.map (·.1) := fun hm => (List.nodup_append.1 hd).2.2 s.path hm s.path (by simp) rfl
      have hf : ¬ mapH timed s.path = true := fun hh => hn (hasM_iff.1 hh)
      rw [if_pos hk,if_pos hk,if_neg hf,setM_new _ hn]
      simp only
      rw [run_late made r (i + 1) (timed ++ [(s.path,(i : Int))]) hr (by rw [List.map_append,List.append_assoc];exact hd),List.append_assoc];rfl
    · have hkt : keysT (s :: r) = keysT r := by unfold keysT;rw [List.filter_cons_of_neg (by simp [hk])]
      rw [hkt] at hd
      have hf : ¬ mapH made s.path = false := by rw [hasM_iff.2 h2];simp
      rw [if_neg hk,if_neg hk,if_neg hf]
      exact run_late made r (i + 1) timed hr hd
theorem run_fill (st : OSt) : ∀ (l : List PStep) (i : Nat),(∀ s ∈ l,(s.kind = 3 ∨ s.kind = 4) ∧ s.path ∈ st.made.map (·.1)) → runO l i st = some st
  | [],i,_ => rfl
  | s :: r,i,hl => by
    obtain ⟨h1,h2⟩ := hl s (by simp)
    rw [runO]
    unfold stepO
    have hf : ¬ mapH st.made s.path = false := by rw [hasM_iff.2 h2];simp
    rw [if_neg (by omega),if_neg (by omega),if_neg hf]
    exact run_fill st r (i + 1) fun x hx => hl x (List.mem_cons_of_mem s hx)

theorem okN_names {p : List UInt8} (h0 : p ≠ []) (hm : mayB p = true) : okN (names p) := by
  unfold mayB mayK at hm
  cases p with
  | nil => exact absurd rfl h0
  | cons a r =>
    simp only [List.isEmpty_cons,Bool.false_or,Bool.and_eq_true,decide_eq_true_eq,List.all_eq_true] at hm
    exact ⟨hm.2.1,by omega,by rw [join_names];exact hm.1⟩
theorem parent_is {p : List UInt8} (h0 : p ≠ []) (hm : mayB p = true) : mayB (parentB p).1 = true ∧ lessB (parentB p).1 p = true ∧ depthB p = depthB (parentB p).1 + 1 := by
  have ho := okN_names h0 hm
  have hj := join_names p
  have hne : names p ≠ [] := fun hn => by rw [hn] at hj;exact h0 hj.symm
  obtain ⟨xs,y,hxy⟩ : ∃ xs y,names p = xs ++ [y] := ⟨(names p).dropLast,(names p).getLast hne,(List.dropLast_concat_getLast hne).symm⟩
  rw [hxy] at ho hj
  have hp := ho.parent
  rw [hj] at hp
  rw [hp]
  have hi := ho.init
  refine ⟨hi.may,?_,?_⟩
  · rw [← hj,hi.less ho];exact ll_snoc _ _
  · have h1 := ho.depth
    rw [hj] at h1
    rw [h1,hi.depth,List.length_append];simp
theorem parent_ent {t : FTree} (h : mayT t = true) {i : Nat} {e : TEnt} (he : t.ents[i]? = some e) (h0 : i ≠ 0) : ∃ (j : Nat) (x : TEnt),j < i ∧ t.ents[j]? = some x ∧ x.path = (parentB e.path).1 ∧ (nodeG t.nodes x.node).kind = 1 := by
  have hp : e.path ≠ [] := fun hp => h0 ((root_ent h he).1.1 hp)
  have hr := (mayT_valid h).rise
  have hm := hr.2 e (List.mem_of_getElem? he)
  obtain ⟨_,hl,_⟩ := parent_is hp hm
  have hup : upOk t e = true := by
    unfold mayT at h
    simp only [Bool.and_eq_true,List.all_eq_true] at h
    refine h.2 e ?_
    rw [List.mem_iff_getElem?]
    exact ⟨i - 1,by rw [List.getElem?_drop,show 1 + (i - 1) = i by omega];exact he⟩
  unfold upOk at hup
  rw [Bool.and_eq_true] at hup
  obtain ⟨x,hx,hxp,hxn⟩ := findT_mem hup.1
  obtain ⟨j,hj⟩ := List.mem_iff_getElem?.1 hx
  have hk := of_decide_eq_true hup.2
  rw [← hxn,kindAt_G ((mayT_valid h).range x hx).1 ((mayT_valid h).range x hx).2] at hk
  refine ⟨j,x,?_,hj,hxp,hk⟩
  rcases Nat.lt_trichotomy j i with c | c | c
  · exact c
  · subst c
    rw [he] at hj
    cases hj
    rw [← hxp] at hl
    exact absurd rfl (less_ne hl)
  · obtain ⟨hj',rfl⟩ := List.getElem?_eq_some_iff.1 hj
    obtain ⟨hi',rfl⟩ := List.getElem?_eq_some_iff.1 he
    have := List.pairwise_iff_getElem.1 hr.1 i j hi' hj' c
    rw [← hxp] at hl
    have h2 := less_asym hl
    rw [this] at h2;cases h2

structure MadeI (t : FTree) (i : Nat) (m : Nat) (made : List (List UInt8 × Int)) : Prop where
  keys : made.map (·.1) = (t.ents.take i).map (·.path)
  vals : ∀ x ∈ made,x.2 < (m : Int)
theorem path_ne {t : FTree} (h : mayT t = true) {i : Nat} {e : TEnt} (he : t.ents[i]? = some e) : e.path ∉ (t.ents.take i).map (·.path) := by
  intro hm
  obtain ⟨x,hx,hxp⟩ := List.mem_map.1 hm
  obtain ⟨j,hj⟩ := List.mem_iff_getElem?.1 hx
  rw [List.getElem?_take] at hj
  split at hj
  · rename_i hlt
    have := rise_inj (mayT_valid h).rise hj he hxp
    omega
  · cases hj
theorem mem_keys {t : FTree} {i j : Nat} {x : TEnt} (hj : t.ents[j]? = some x) (hlt : j < i) : x.path ∈ (t.ents.take i).map (·.path) := by
  refine List.mem_map.2 ⟨x,List.mem_iff_getElem?.2 ⟨j,?_⟩,rfl⟩
  rw [List.getElem?_take,if_pos hlt];exact hj
theorem step_made {t : FTree} (h : mayT t = true) {i m : Nat} {e : TEnt} {made : List (List UInt8 × Int)} (he : t.ents[i]? = some e) (h0 : i ≠ 0) (hI : MadeI t i m made) (k : Int) (o : List UInt8) (n : Int) (hk : k = 1 ∨ k = 2 ∨ k = 5) (ho : k = 5 → o ∈ made.map (·.1)) :
    ∃ made',stepO ⟨made,[]⟩ m ⟨k,e.path,o,n⟩ = some ⟨made',[]⟩ ∧ MadeI t (i + 1) (m + 1) made' := by
  obtain ⟨j,x,hj,hx,hxp,hxk⟩ := parent_ent h he h0
  have hup : mapH made (parentB e.path).1 = true := by
    rw [hasM_iff,hI.keys,← hxp];exact mem_keys hx hj
  have hnew : e.path ∉ made.map (·.1) := by rw [hI.keys];exact path_ne h he
  have hnot : ¬ mapH made e.path = true := fun hh => hnew (hasM_iff.1 hh)
  have hval := hI.vals _ (getM_mem hup)
  refine ⟨made ++ [(e.path,(m : Int))],?_,?_,?_⟩
  · unfold stepO
    simp only
    rw [if_pos hk,if_neg,if_neg (by simp [mapH]),if_neg,setM_new _ hnew]
    · rintro ⟨h5,h6⟩
      rw [hasM_iff.2 (ho h5)] at h6;cases h6
    · rintro (hh | hh | hh)
      · rw [hup] at hh;cases hh
      · exact hnot hh
      · simp only at hval;omega
  · obtain ⟨hi,rfl⟩ := List.getElem?_eq_some_iff.1 he
    rw [List.map_append,hI.keys,List.take_succ_eq_append_getElem hi,List.map_append];rfl
  · intro y hy
    rcases List.mem_append.1 hy with hy | hy
    · have := hI.vals y hy;omega
    · rw [List.mem_singleton.1 hy];simp only;omega
theorem MadeI.mono {t : FTree} {i m m' : Nat} {made : List (List UInt8 × Int)} (hI : MadeI t i m made) (hm : m ≤ m') : MadeI t i m' made := ⟨hI.keys,fun x hx => by have := hI.vals x hx;omega⟩
theorem run_ent {t : FTree} (h : mayT t = true) {i m : Nat} {made : List (List UInt8 × Int)} (hi : i < t.ents.length) (h0 : i ≠ 0) (hI : MadeI t i m made) :
    ∃ made',runO (entS t [] i) m ⟨made,[]⟩ = some ⟨made',[]⟩ ∧ MadeI t (i + 1) (m + (entS t [] i).length) made' := by
  have he := List.getElem?_eq_getElem hi
  generalize t.ents[i] = e at he
  unfold entS
  rw [he]
  simp only
  rw [if_neg h0,exP_nil,if_neg (by simp)]
  have one : ∀ s : PStep,s.path = e.path → (s.kind = 1 ∨ s.kind = 2 ∨ s.kind = 5) → (s.kind = 5 → s.other ∈ made.map (·.1)) → ∃ made',runO [s] m ⟨made,[]⟩ = some ⟨made',[]⟩ ∧ MadeI t (i + 1) (m + 1) made' := by
    rintro ⟨k,p,o,n⟩ rfl hk ho
    obtain ⟨made',h1,h2⟩ := step_made h he h0 hI k o n hk ho
    exact ⟨made',by rw [runO,h1];rfl,h2⟩
  unfold made1
  split
  · exact one _ rfl (.inl rfl) (fun h5 => by simp at h5)
  · split
    · rename_i hk hf
      refine one _ rfl (.inr (.inr rfl)) fun _ => ?_
      obtain ⟨f1,f2,f3⟩ := lead_first h he
      obtain ⟨y,g1,g2,g3⟩ := firstI_get (l := t.ents) (k := e.node) ⟨e,List.mem_of_getElem? he,rfl⟩
      simp only
      rw [f2,g3,hI.keys]
      exact mem_keys g1 hf
    · obtain ⟨made',h1,h2⟩ := one ⟨2,e.path,[],0⟩ rfl (.inr (.inl rfl)) (fun h5 => by simp at h5)
      unfold fileS
      have hfill : ∀ (l : List PStep),(∀ s ∈ l,(s.kind = 3 ∨ s.kind = 4) ∧ s.path = e.path) → ∃ made',runO (⟨2,e.path,[],0⟩ :: l) m ⟨made,[]⟩ = some ⟨made',[]⟩ ∧ MadeI t (i + 1) (m + ((⟨2,e.path,[],0⟩ : PStep) :: l).length) made' := by
        intro l hl
        refine ⟨made',?_,h2.mono (by rw [List.length_cons];omega)⟩
        rw [show (⟨2,e.path,[],0⟩ : PStep) :: l = [⟨2,e.path,[],0⟩] ++ l from rfl,runO_app _ _ _ _ _ h1]
        refine run_fill _ _ _ fun s hs => ⟨(hl s hs).1,?_⟩
        rw [(hl s hs).2]
        show e.path ∈ made'.map (·.1)
        rw [h2.keys]
        exact mem_keys he (by omega)
      refine hfill _ fun s hs => ?_
      split at hs
      · rcases List.mem_append.1 hs with hs | hs
        · unfold writesP at hs
          obtain ⟨j,_,rfl⟩ := List.mem_map.1 hs
          exact ⟨.inl rfl,rfl⟩
        · split at hs
          · cases hs
          · rw [List.mem_singleton.1 hs];exact ⟨.inr rfl,rfl⟩
      · cases hs
theorem run_ents {t : FTree} (h : mayT t = true) : ∀ i : Nat,i ≤ t.ents.length → i ≠ 0 → ∃ made,runO (upTo (entS t []) i) 0 ⟨[([],-1)],[]⟩ = some ⟨made,[]⟩ ∧ MadeI t i (upTo (entS t []) i).length made
  | 0,_,h0 => absurd rfl h0
  | i + 1,hi,_ => by
    by_cases h0 : i = 0
    · subst h0
      obtain ⟨x,r,h1,h2,h3,h4⟩ := root_alone h
      have he : entS t [] 0 = [] := by unfold entS;rw [h1];rfl
      refine ⟨[([],-1)],?_,?_,?_⟩
      · rw [upTo,upTo,he];rfl
      · rw [h1]
        simp [h2]
      · intro y hy
        rw [List.mem_singleton.1 hy];simp only;omega
    · obtain ⟨made,h1,h2⟩ := run_ents h i (by omega) h0
      obtain ⟨made',h3,h4⟩ := run_ent h (show i < t.ents.length by omega) h0 h2
      refine ⟨made',?_,?_⟩
      · rw [upTo,runO_app _ _ _ _ _ h1,Nat.zero_add];exact h3
      · rw [upTo,List.length_append];exact h4

theorem keys_five (p : List UInt8) : keysT (last5 p) = [p] := rfl
theorem keys_upTo (f : Nat → List PStep) : ∀ n : Nat,keysT (upTo f n) = upTo (fun i => keysT (f i)) n
  | 0 => rfl
  | n + 1 => by rw [upTo,upTo,keysT_app,keys_upTo f n]
theorem mem_upTo {α : Type} {f : Nat → List α} {x : α} : ∀ {n : Nat},x ∈ upTo f n ↔ ∃ i,i < n ∧ x ∈ f i
  | 0 => ⟨fun h => (by cases h),fun ⟨_,h,_⟩ => by omega⟩
  | n + 1 => by
    rw [upTo,List.mem_append,mem_upTo (n := n)]
    constructor
    · rintro (⟨i,h1,h2⟩ | h)
      · exact ⟨i,by omega,h2⟩
      · exact ⟨n,by omega,h⟩
    · rintro ⟨i,h1,h2⟩
      by_cases hi : i = n
      · subst hi;exact .inr h2
      · exact .inl ⟨i,by omega,h2⟩
theorem nodup_upTo {α : Type} {f : Nat → List α} : ∀ {n : Nat},(∀ i,i < n → (f i).Nodup) → (∀ i j x,i < j → j < n → x ∈ f i → x ∈ f j → False) → (upTo f n).Nodup
  | 0,_,_ => List.nodup_nil
  | n + 1,h,hd => by
    rw [upTo,List.nodup_append]
    refine ⟨nodup_upTo (fun i hi => h i (by omega)) fun i j x h1 h2 => hd i j x h1 (by omega),h n (by omega),?_⟩
    rintro x hx y hy rfl
    obtain ⟨i,hi,hxi⟩ := mem_upTo.1 hx
    exact hd i n x hi (by omega) hxi hy
theorem keys_oth {t : FTree} {p : List UInt8} {i : Nat} : p ∈ keysT (othS t i) ↔ ∃ e,t.ents[i]? = some e ∧ e.path = p ∧ (nodeG t.nodes e.node).kind ≠ 1 ∧ firstI t.ents e.node = i := by
  unfold othS
  cases he : t.ents[i]? with
  | none => simp [keysT]
  | some e =>
    simp only
    split
    · rename_i hc
      rw [keys_five,List.mem_singleton]
      exact ⟨fun hp => ⟨e,rfl,hp.symm,hc⟩,fun ⟨x,h1,h2,_⟩ => by cases h1;exact h2.symm⟩
    · rename_i hc
      exact ⟨fun hp => (by cases hp),fun ⟨x,h1,_,h3⟩ => by cases h1;exact absurd h3 hc⟩
theorem keys_dir {t : FTree} {p : List UInt8} {d : Int} {i : Nat} : p ∈ keysT (dirS t d i) ↔ ∃ e,t.ents[i]? = some e ∧ e.path = p ∧ (nodeG t.nodes e.node).kind = 1 ∧ depthB p = d := by
  unfold dirS
  cases he : t.ents[i]? with
  | none => simp [keysT]
  | some e =>
    simp only
    split
    · rename_i hc
      rw [keys_five,List.mem_singleton]
      exact ⟨fun hp => ⟨e,rfl,hp.symm,hc.1,by rw [hp];exact hc.2⟩,fun ⟨x,h1,h2,_⟩ => by cases h1;exact h2.symm⟩
    · rename_i hc
      exact ⟨fun hp => (by cases hp),fun ⟨x,h1,h2,h3⟩ => by cases h1;exact absurd (by rw [h2];exact h3) hc⟩
theorem keys_lev {t : FTree} {p : List UInt8} {k : Nat} : p ∈ keysT (levS t k) ↔ ∃ (i : Nat) (e : TEnt),t.ents[i]? = some e ∧ e.path = p ∧ (nodeG t.nodes e.node).kind = 1 ∧ depthB p = 8 - (k : Int) := by
  unfold levS
  rw [keys_upTo,mem_upTo]
  constructor
  · rintro ⟨i,hi,hp⟩
    obtain ⟨e,h1⟩ := keys_dir.1 hp
    exact ⟨i,e,h1⟩
  · rintro ⟨i,e,h1⟩
    exact ⟨i,(List.getElem?_eq_some_iff.1 h1.1).1,keys_dir.2 ⟨e,h1⟩⟩
theorem five_nodup {l : List PStep} (h : l = [] ∨ ∃ p,l = last5 p) : (keysT l).Nodup := by
  rcases h with rfl | ⟨p,rfl⟩
  · exact List.nodup_nil
  · rw [keys_five];simp
theorem oth_five (t : FTree) (i : Nat) : othS t i = [] ∨ ∃ p,othS t i = last5 p := by
  unfold othS
  split
  · exact .inl rfl
  · split
    · exact .inr ⟨_,rfl⟩
    · exact .inl rfl
theorem dir_five (t : FTree) (d : Int) (i : Nat) : dirS t d i = [] ∨ ∃ p,dirS t d i = last5 p := by
  unfold dirS
  split
  · exact .inl rfl
  · split
    · exact .inr ⟨_,rfl⟩
    · exact .inl rfl
theorem nodup_lev {t : FTree} (h : mayT t = true) (k : Nat) : (keysT (levS t k)).Nodup := by
  unfold levS
  rw [keys_upTo]
  refine nodup_upTo (fun i _ => five_nodup (dir_five t _ i)) fun i j x hij hj hi hx => ?_
  obtain ⟨e,a1,a2,_⟩ := keys_dir.1 hi
  obtain ⟨f,b1,b2,_⟩ := keys_dir.1 hx
  have := rise_inj (mayT_valid h).rise a1 b1 (a2.trans b2.symm)
  omega
def lateS (t : FTree) : List PStep := upTo (othS t) t.ents.length ++ upTo (levS t) 9
theorem nodup_late {t : FTree} (h : mayT t = true) : (keysT (lateS t)).Nodup := by
  have hr := (mayT_valid h).rise
  unfold lateS
  rw [keysT_app,keys_upTo,keys_upTo,List.nodup_append]
  refine ⟨nodup_upTo (fun i _ => five_nodup (oth_five t i)) fun i j x hij hj hi hx => ?_,nodup_upTo (fun k _ => nodup_lev h k) fun i j x hij hj hi hx => ?_,?_⟩
  · obtain ⟨e,a1,a2,_⟩ := keys_oth.1 hi
    obtain ⟨f,b1,b2,_⟩ := keys_oth.1 hx
    have := rise_inj hr a1 b1 (a2.trans b2.symm)
    omega
  · obtain ⟨a,e,a1,a2,a3,a4⟩ := keys_lev.1 hi
    obtain ⟨b,f,b1,b2,b3,b4⟩ := keys_lev.1 hx
    omega
  · rintro x hx y hy rfl
    obtain ⟨i,hi,hxi⟩ := mem_upTo.1 hx
    obtain ⟨k,hk,hxk⟩ := mem_upTo.1 hy
    obtain ⟨e,a1,a2,a3,_⟩ := keys_oth.1 hxi
    obtain ⟨b,f,b1,b2,b3,b4⟩ := keys_lev.1 hxk
    have := rise_inj hr a1 b1 (a2.trans b2.symm)
    subst this
    rw [a1] at b1
    cases b1
    exact a3 b3
theorem late_kind {t : FTree} : ∀ s ∈ lateS t,6 ≤ s.kind ∧ ∃ e ∈ t.ents,e.path = s.path := by
  have five : ∀ {p : List UInt8} {s : PStep},s ∈ last5 p → 6 ≤ s.kind ∧ s.path = p := by
    intro p s hs
    unfold last5 at hs
    simp only [List.mem_cons,List.not_mem_nil,or_false] at hs
    rcases hs with rfl | rfl | rfl | rfl | rfl <;> exact ⟨by simp,rfl⟩
  intro s hs
  unfold lateS at hs
  rcases List.mem_append.1 hs with hs | hs
  · obtain ⟨i,hi,hs⟩ := mem_upTo.1 hs
    unfold othS at hs
    split at hs
    · cases hs
    · rename_i e he
      split at hs
      · exact ⟨(five hs).1,e,List.mem_of_getElem? he,(five hs).2.symm⟩
      · cases hs
  · obtain ⟨k,hk,hs⟩ := mem_upTo.1 hs
    unfold levS at hs
    obtain ⟨i,hi,hs⟩ := mem_upTo.1 hs
    unfold dirS at hs
    split at hs
    · cases hs
    · rename_i e he
      split at hs
      · exact ⟨(five hs).1,e,List.mem_of_getElem? he,(five hs).2.symm⟩
      · cases hs
theorem keys_count (l : List PStep) : (keysT l).length = l.countP fun s => decide (s.kind = 10) := by
  unfold keysT;rw [List.length_map,List.countP_eq_length_filter]
theorem late_mem {t : FTree} (h : mayT t = true) {i : Nat} {e : TEnt} (he : t.ents[i]? = some e) : e.path ∈ keysT (lateS t) ↔ firstI t.ents e.node = i := by
  have hr := (mayT_valid h).rise
  unfold lateS
  rw [keysT_app,keys_upTo,keys_upTo,List.mem_append,mem_upTo,mem_upTo]
  constructor
  · rintro (⟨j,hj,hp⟩ | ⟨k,hk,hp⟩)
    · obtain ⟨x,a1,a2,a3,a4⟩ := keys_oth.1 hp
      have := rise_inj hr a1 he a2
      subst this
      rw [he] at a1
      cases a1
      exact a4
    · obtain ⟨j,x,a1,a2,a3,a4⟩ := keys_lev.1 hp
      have := rise_inj hr a1 he a2
      subst this
      rw [he] at a1
      cases a1
      exact dir_first h he a3
  · intro hf
    by_cases hk : (nodeG t.nodes e.node).kind = 1
    · have hm : mayB e.path = true := hr.2 e (List.mem_of_getElem? he)
      have hd0 : 0 ≤ depthB e.path := by unfold depthB;rw [if_pos hm];omega
      have hd8 := depth_le (p := e.path)
      exact .inr ⟨(8 - depthB e.path).toNat,by omega,keys_lev.2 ⟨i,e,he,rfl,hk,by omega⟩⟩
    · exact .inl ⟨i,(List.getElem?_eq_some_iff.1 he).1,keys_oth.2 ⟨e,he,rfl,hk,hf⟩⟩
theorem late_count {t : FTree} (h : mayT t = true) : (keysT (lateS t)).length = t.nodes.length := by
  unfold lateS levS
  rw [keys_count,List.countP_append,count_upTo,count_upTo]
  have h2 : (t.nodes.map fun _ => 1).sum = t.nodes.length := by
    generalize t.nodes = l
    induction l with
    | nil => rfl
    | cons x r ih => rw [List.map_cons,List.sum_cons,ih,List.length_cons];omega
  rw [← h2,← first_all h,sumTo_congr (n := 9) fun k _ => count_upTo _ (dirS t (8 - (k : Int))) t.ents.length,sumTo_swap,← sumTo_add]
  refine sumTo_congr fun i hi => ?_
  have he := List.getElem?_eq_getElem hi
  generalize t.ents[i] = e at he
  unfold othS atNode dirS
  rw [he]
  simp only
  by_cases hk : (nodeG t.nodes e.node).kind = 1
  · rw [if_neg (by simp [hk]),dir_first h he hk,if_pos rfl]
    have hm : mayB e.path = true := (mayT_valid h).rise.2 e (List.mem_of_getElem? he)
    have hd0 : 0 ≤ depthB e.path := by unfold depthB;rw [if_pos hm];omega
    have hd8 := depth_le (p := e.path)
    rw [sumTo_congr (g := fun k => if k = (8 - depthB e.path).toNat then 1 else 0) fun k hk9 => ?_,sumTo_one (by omega)]
    · rfl
    · by_cases hd : depthB e.path = 8 - (k : Int)
      · rw [if_pos ⟨hk,hd⟩,if_pos (by omega)];rfl
      · rw [if_neg (fun hx => hd hx.2),if_neg (by omega)];rfl
  · rw [sumTo_zero (n := 9) fun k _ => by rw [if_neg (fun hx => hk hx.1)];rfl]
    by_cases hf : firstI t.ents e.node = i
    · rw [if_pos ⟨hk,hf⟩,if_pos hf];rfl
    · rw [if_neg (fun hx => hf hx.2),if_neg hf];rfl
def entryO (t : FTree) (st : OSt) (e : TEnt) : Bool :=
  mapH st.made e.path && (mapH st.timed e.path == decide (leadP t.ents (findT t.ents e.path).1 = e.path)) &&
  !((parentB e.path).2 && mapH st.timed e.path && decide ((nodeG t.nodes e.node).kind = 1) && decide (mapG st.timed (parentB e.path).1 < mapG st.timed e.path))
theorem plan_order {t : FTree} (h : mayT t = true) : ∃ st,runO (planS t []) 0 ⟨[([],-1)],[]⟩ = some st ∧ (∀ e ∈ t.ents,entryO t st e = true) ∧ st.made.length = t.ents.length ∧ st.timed.length = t.nodes.length := by
  have hr := (mayT_valid h).rise
  have hpos : t.ents.length ≠ 0 := by
    obtain ⟨x,r,h1,_⟩ := root_alone h
    rw [h1];simp
  obtain ⟨made,h1,h2⟩ := run_ents h t.ents.length (Nat.le_refl _) hpos
  have hkeys : made.map (·.1) = t.ents.map (·.path) := by rw [h2.keys,List.take_length]
  have hplan : planS t [] = upTo (entS t []) t.ents.length ++ lateS t := by unfold planS lateS;rw [List.append_assoc]
  have hlate := run_late made (lateS t) (0 + (upTo (entS t []) t.ents.length).length) [] (fun s hs => ⟨(late_kind s hs).1,by
    obtain ⟨e,he,hp⟩ := (late_kind s hs).2
    rw [hkeys,← hp];exact List.mem_map.2 ⟨e,he,rfl⟩⟩) (by rw [List.map_nil,List.nil_append];exact nodup_late h)
  generalize hm : 0 + (upTo (entS t []) t.ents.length).length = m at hlate
  refine ⟨⟨made,timesL (lateS t) m⟩,?_,fun e hmem => ?_,?_,?_⟩
  · rw [hplan,runO_app _ _ _ _ _ h1,hm,hlate];rfl
  · obtain ⟨i,he⟩ := List.mem_iff_getElem?.1 hmem
    have hk1 : mapH made e.path = true := by rw [hasM_iff,hkeys];exact List.mem_map.2 ⟨e,hmem,rfl⟩
    have hk2 : mapH (timesL (lateS t) m) e.path = decide (leadP t.ents e.node = e.path) := by
      rw [Bool.eq_iff_iff,hasM_iff,timesL_keys,decide_eq_true_eq,late_mem h he,(lead_first h he).2.2]
    unfold entryO
    simp only
    rw [hk1,find_ent h he,hk2]
    simp only [Bool.true_and,beq_self_eq_true,Bool.not_eq_true',Bool.and_eq_false_iff,decide_eq_false_iff_not]
    by_cases h0 : i = 0
    · left;left;left
      rw [(root_ent h he).1.2 h0];rfl
    by_cases hk : (nodeG t.nodes e.node).kind = 1
    · right
      obtain ⟨j,x,hj,hx,hxp,hxk⟩ := parent_ent h he h0
      have hp : e.path ≠ [] := fun hp => h0 ((root_ent h he).1.1 hp)
      have hmb := hr.2 e hmem
      obtain ⟨_,_,hdep⟩ := parent_is hp hmb
      have hd8 := depth_le (p := e.path)
      have hd0 : 0 ≤ depthB (parentB e.path).1 := by
        have := (parent_is hp hmb).1
        unfold depthB;rw [if_pos this];omega
      have hsplit : 9 = ((8 - depthB e.path).toNat + 1) + (depthB e.path).toNat := by omega
      have hs : lateS t = (upTo (othS t) t.ents.length ++ upTo (levS t) ((8 - depthB e.path).toNat + 1)) ++ upTo (fun k => levS t ((8 - depthB e.path).toNat + 1 + k)) (depthB e.path).toNat := by
        unfold lateS
        rw [List.append_assoc,← upTo_add,← hsplit]
      have hnd := nodup_late h
      have hka : e.path ∈ keysT (upTo (othS t) t.ents.length ++ upTo (levS t) ((8 - depthB e.path).toNat + 1)) := by
        rw [keysT_app,List.mem_append]
        right
        rw [keys_upTo,mem_upTo]
        exact ⟨(8 - depthB e.path).toNat,by omega,keys_lev.2 ⟨i,e,he,rfl,hk,by omega⟩⟩
      have hkb : (parentB e.path).1 ∈ keysT (upTo (fun k => levS t ((8 - depthB e.path).toNat + 1 + k)) (depthB e.path).toNat) := by
        rw [keys_upTo,mem_upTo]
        refine ⟨0,by omega,keys_lev.2 ⟨j,x,hx,hxp,hxk,by omega⟩⟩
      rw [hs] at hnd ⊢
      generalize upTo (othS t) t.ents.length ++ upTo (levS t) ((8 - depthB e.path).toNat + 1) = A at hka hnd ⊢
      generalize upTo (fun k => levS t ((8 - depthB e.path).toNat + 1 + k)) (depthB e.path).toNat = B at hkb hnd ⊢
      rw [keysT_app] at hnd
      have hdis := (List.nodup_append.1 hnd).2.2
      rw [timesL_app]
      have e1 : (e.path,mapG (timesL A m ++ timesL B (m + A.length)) e.path) ∈ timesL A m := by
        have hh : mapH (timesL A m ++ timesL B (m + A.length)) e.path = true := by
          rw [hasM_iff,List.map_append,timesL_keys,timesL_keys];exact List.mem_append_left _ hka
        rcases List.mem_append.1 (getM_mem hh) with hh | hh
        · exact hh
        · have : e.path ∈ keysT B := by rw [← timesL_keys B (m + A.length)];exact List.mem_map.2 ⟨_,hh,rfl⟩
          exact absurd rfl (hdis _ hka _ this)
      have e2 : ((parentB e.path).1,mapG (timesL A m ++ timesL B (m + A.length)) (parentB e.path).1) ∈ timesL B (m + A.length) := by
        have hh : mapH (timesL A m ++ timesL B (m + A.length)) (parentB e.path).1 = true := by
          rw [hasM_iff,List.map_append,timesL_keys,timesL_keys];exact List.mem_append_right _ hkb
        rcases List.mem_append.1 (getM_mem hh) with hh | hh
        · have : (parentB e.path).1 ∈ keysT A := by rw [← timesL_keys A m];exact List.mem_map.2 ⟨_,hh,rfl⟩
          exact absurd rfl (hdis _ this _ hkb)
        · exact hh
      have v1 := timesL_val _ _ _ e1
      have v2 := timesL_val _ _ _ e2
      simp only at v1 v2
      omega
    · left;right
      exact hk
  · have := congrArg List.length hkeys
    simpa using this
  · have := congrArg List.length (timesL_keys (lateS t) m)
    rw [List.length_map,late_count h] at this
    exact this
end Go.Proofs.YtbffcndmcaeamaaDoor.PlanSpec
