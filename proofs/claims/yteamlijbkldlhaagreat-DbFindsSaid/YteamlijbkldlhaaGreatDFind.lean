import Derived.Test.YteamlijbkldlhaaGreatDTab
set_option linter.unusedSimpArgs false
set_option linter.unusedVariables false
namespace Go.Proofs.YteamlijbkldlhaaGreat.DbSpec
open AclSpec MetaSpec NodeSpec RecSpec PathSpec PageSpec TreeSpec

theorem childP_at : ∀ (ks : List (List UInt8)) (q : List UInt8),1 ≤ ks.length →
    (childP ks q = 0 ∨ ∃ k,ks[childP ks q]? = some k ∧ lessB q k = false) ∧ (childP ks q + 1 = ks.length ∨ ∃ k,ks[childP ks q + 1]? = some k ∧ lessB q k = true)
  | [],_,h => by simp at h
  | [_],_,_ => ⟨.inl rfl,.inl rfl⟩
  | x :: k :: r,q,_ => by
    rw [childP]
    cases hk : lessB q k
    · rw [if_neg (by decide)]
      obtain ⟨h1,h2⟩ := childP_at (k :: r) q (by simp)
      refine ⟨.inr ?_,?_⟩
      · rcases h1 with h1 | ⟨y,h1,h3⟩
        · rw [h1];exact ⟨k,rfl,hk⟩
        · exact ⟨y,by rw [List.getElem?_cons_succ];exact h1,h3⟩
      · rcases h2 with h2 | ⟨y,h2,h3⟩
        · left;rw [h2];rfl
        · right;exact ⟨y,by rw [List.getElem?_cons_succ];exact h2,h3⟩
    · rw [if_pos rfl]
      exact ⟨.inl rfl,.inr ⟨k,rfl,hk⟩⟩
theorem among_part {A M C : List Rec} {q : List UInt8} (hA : ∀ x ∈ A,x.path ≠ q) (hC : ∀ x ∈ C,x.path ≠ q) : amongP (A ++ (M ++ C)) q = amongP M q := by
  have h0 : ∀ {X : List Rec},(∀ x ∈ X,x.path ≠ q) → X.find? (fun r => decide (r.path = q)) = none := fun h => List.find?_eq_none.2 fun x hx c => h x hx (of_decide_eq_true c)
  unfold amongP
  rw [List.find?_append,List.find?_append,h0 hA,h0 hC,Option.none_or,Option.or_none]
def Fnd (R : List Rec) (p : List Pg) (a h : Nat) : Prop :=
  ∀ i,a ≤ i → i < p.length → ∀ q,(i = a ∨ lessB q (firstAt p i) = false) → (i + 1 = p.length ∨ lessB q (firstAt p (i + 1)) = true) → ∀ f,i < f → descP p q f i = (h,amongP R q)
theorem leaves_fnd {R : List Rec} (h : mayRecs R = true) : Fnd R (leavesP R) 0 1 := by
  obtain ⟨h1,h2,h3,h4⟩ := mayRecs_ok h
  have hl := leavesP_len R
  intro i _ hi q hq1 hq2 f hf
  obtain ⟨f,rfl⟩ : ∃ g,f = g + 1 := ⟨f - 1,by omega⟩
  have hsp : R = R.take (4 * i) ++ ((R.drop (4 * i)).take 4 ++ R.drop (4 * i + 4)) := by
    rw [← List.drop_drop,List.take_append_drop,List.take_append_drop]
  have hA : ∀ x ∈ R.take (4 * i),x.path ≠ q := fun x hx c => by
    obtain ⟨k,hk,rfl⟩ := List.mem_iff_getElem.1 hx
    rw [List.length_take] at hk
    rw [List.getElem_take] at c
    rcases hq1 with hq1 | hq1
    · omega
    · unfold firstAt at hq1
      obtain ⟨_,r,hr,e1⟩ := leaf_may h (j := i) (by omega)
      obtain ⟨ha,rfl⟩ := List.getElem?_eq_some_iff.1 hr
      rw [leafP_at (by omega),e1,← c,List.pairwise_iff_getElem.1 h4 k (4 * i) (by omega) ha (by omega)] at hq1
      cases hq1
  have hC : ∀ x ∈ R.drop (4 * i + 4),x.path ≠ q := fun x hx c => by
    obtain ⟨k,hk,rfl⟩ := List.mem_iff_getElem.1 hx
    rw [List.length_drop] at hk
    rw [List.getElem_drop] at c
    rcases hq2 with hq2 | hq2
    · omega
    · unfold firstAt at hq2
      obtain ⟨_,r,hr,e1⟩ := leaf_may h (j := i + 1) (by omega)
      obtain ⟨ha,rfl⟩ := List.getElem?_eq_some_iff.1 hr
      rw [leafP_at (by omega),e1,← c] at hq2
      rcases Nat.eq_zero_or_pos k with hk0 | hk0
      · subst hk0
        have := less_irr (R[4 * i + 4 + 0]).path
        rw [show lessB (R[4 * i + 4 + 0]).path (R[4 * (i + 1)]).path = lessB (R[4 * i + 4 + 0]).path (R[4 * i + 4 + 0]).path from rfl,this] at hq2
        cases hq2
      · have := List.pairwise_iff_getElem.1 h4 (4 * (i + 1)) (4 * i + 4 + k) ha (by omega) (by omega)
        have := less_trans this hq2
        rw [less_irr] at this
        cases this
  have ham := among_part (M := (R.drop (4 * i)).take 4) hA hC
  rw [← hsp] at ham
  rw [descP,leafP_at (by omega),ham]
  rfl
theorem descP_app {p : List Pg} (q : List Pg) (hm : ∀ x ∈ p,mayPg x = true) (hd : ∀ i,(h : i < p.length) → p[i].leaf = false → ∀ n ∈ p[i].pages,0 ≤ n ∧ n < (i : Int)) (s : List UInt8) : ∀ (f i : Nat),i < p.length → descP (p ++ q) s f i = descP p s f i := by
  intro f
  induction f with
  | zero => intro i _;rfl
  | succ f ih =>
    intro i hi
    rw [descP,descP,getD_app hi]
    cases hl : (p.getD i zeroPg).leaf
    · rw [if_neg (by decide),if_neg (by decide)]
      have hT := (tableP_of hm hd).keys (p.getD i zeroPg) (by rw [getD_at hi];exact List.getElem_mem ..) hl
      have hc := childP_lt (p.getD i zeroPg).keys s (by omega)
      rw [hT.1] at hc
      generalize childP (p.getD i zeroPg).keys s = c at *
      rw [getD_at hi] at hl hc ⊢
      have hx : p[i].pages.getD c 0 = p[i].pages[c] := by rw [List.getD_eq_getElem?_getD,List.getElem?_eq_getElem hc];rfl
      have hdn := hd i hi hl p[i].pages[c] (List.getElem_mem ..)
      rw [hx,ih _ (by omega)]
    · rw [if_pos rfl,if_pos rfl]
theorem level_fnd {R : List Rec} {p : List Pg} {a h : Nat} (hI : Inv p a h) (h1 : 1 < p.length - a) (hF : Fnd R p a h) : Fnd R (p ++ levelP p a p.length) p.length (h + 1) := by
  have hl := levelP_len p a p.length
  have hpl : (p ++ levelP p a p.length).length = p.length + (p.length - a + 3) / 4 := by rw [List.length_append,hl]
  have hgd : ∀ i,p.length ≤ i → i < (p ++ levelP p a p.length).length → (p ++ levelP p a p.length).getD i zeroPg = innerP p (a + 4 * (i - p.length)) (min 4 (p.length - (a + 4 * (i - p.length)))) := fun i h1 h2 => by
    rw [List.getD_eq_getElem?_getD,List.getElem?_append_right h1,levelP_at (by omega)];rfl
  have hfi : ∀ i,p.length ≤ i → i < (p ++ levelP p a p.length).length → firstAt (p ++ levelP p a p.length) i = firstAt p (a + 4 * (i - p.length)) := fun i h1 h2 => by
    unfold firstAt
    rw [hgd i h1 h2]
    exact (inner_may hI (by omega) (by omega) (by omega) (by omega)).2
  intro i hi hi2 q hq1 hq2 f hf
  obtain ⟨f,rfl⟩ : ∃ g,f = g + 1 := ⟨f - 1,by omega⟩
  rw [descP,hgd i hi hi2]
  rw [hfi i hi hi2] at hq1
  obtain ⟨j,hj⟩ : ∃ j,j = i - p.length := ⟨_,rfl⟩
  rw [← hj] at hq1 ⊢
  obtain ⟨k,hk⟩ : ∃ k,k = min 4 (p.length - (a + 4 * j)) := ⟨_,rfl⟩
  rw [← hk]
  have hq2' : a + 4 * j + k = p.length ∨ lessB q (firstAt p (a + 4 * j + k)) = true := by
    rcases hq2 with hq2 | hq2
    · left;omega
    · by_cases hlast : i + 1 < (p ++ levelP p a p.length).length
      · right
        rw [hfi (i + 1) (by omega) hlast] at hq2
        rw [show a + 4 * j + k = a + 4 * (i + 1 - p.length) by omega]
        exact hq2
      · left;omega
  have hkey : ∀ c,c < k → (innerP p (a + 4 * j) k).keys[c]? = some (firstAt p (a + 4 * j + c)) := fun c hc => by
    unfold innerP
    simp only [List.getElem?_map]
    rw [List.getElem?_range' hc]
    simp [firstAt]
  have hpg : ∀ c,c < k → (innerP p (a + 4 * j) k).pages.getD c 0 = ((a + 4 * j + c : Nat) : Int) := fun c hc => by
    unfold innerP
    rw [List.getD_eq_getElem?_getD]
    simp only [List.getElem?_map]
    rw [List.getElem?_range' hc]
    simp
  have hkl : (innerP p (a + 4 * j) k).keys.length = k := by unfold innerP;simp
  have hclt := childP_lt (innerP p (a + 4 * j) k).keys q (by omega)
  obtain ⟨g1,g2⟩ := childP_at (innerP p (a + 4 * j) k).keys q (by omega)
  rw [hkl] at hclt g2
  generalize childP (innerP p (a + 4 * j) k).keys q = c at *
  rw [hpg c hclt,Int.toNat_natCast,descP_app _ hI.may hI.down q _ _ (by omega)]
  have hres := hF (a + 4 * j + c) (by omega) (by omega) q ?_ ?_ f (by omega)
  · rw [hres,show (innerP p (a + 4 * j) k).leaf = false from rfl,if_neg (by decide)]
  · rcases g1 with g1 | ⟨y,g1,g3⟩
    · subst g1
      rcases hq1 with hq1 | hq1
      · left;omega
      · right;exact hq1
    · rw [hkey c hclt] at g1
      cases g1
      exact .inr g3
  · rcases g2 with g2 | ⟨y,g2,g3⟩
    · rw [show a + 4 * j + c + 1 = a + 4 * j + k by omega]
      exact hq2'
    · by_cases hck : c + 1 < k
      · rw [hkey (c + 1) hck] at g2
        cases g2
        exact .inr g3
      · rw [show a + 4 * j + c + 1 = a + 4 * j + k by omega]
        exact hq2'
theorem levels_fnd {R : List Rec} : ∀ (n : Nat) {p : List Pg} {a h : Nat},Inv p a h → Fnd R p a h → p.length - a ≤ 4 ^ n → ∃ b,b + 1 = (levelsP n p a).length ∧ Fnd R (levelsP n p a) b (h + upP n (p.length - a))
  | 0,p,a,h,hI,hF,hn => ⟨a,by have := hI.le;rw [Nat.pow_zero] at hn;show a + 1 = p.length;omega,hF⟩
  | n + 1,p,a,h,hI,hF,hn => by
    rw [levelsP,upP]
    by_cases h1 : 1 < p.length - a
    · rw [if_pos h1,if_pos h1]
      have hl := levelP_len p a p.length
      have hpl : (p ++ levelP p a p.length).length - p.length = (p.length - a + 3) / 4 := by rw [List.length_append,hl];omega
      have hn4 : 4 ^ (n + 1) = 4 * 4 ^ n := by rw [Nat.pow_succ,Nat.mul_comm]
      obtain ⟨b,h2,h3⟩ := levels_fnd n (level_inv hI h1) (level_fnd hI h1 hF) (by rw [hpl];omega)
      refine ⟨b,h2,?_⟩
      rw [hpl] at h3
      rwa [show h + (upP n ((p.length - a + 3) / 4) + 1) = h + 1 + upP n ((p.length - a + 3) / 4) by omega]
    · rw [if_neg h1,if_neg h1]
      exact ⟨a,by have := hI.le;omega,hF⟩
theorem build_find {R : List Rec} (h : mayRecs R = true) (q : List UInt8) : findP (buildP R) q = if mayB q = true then (1 + upP 4 ((R.length + 3) / 4),amongP R q) else (0,(zeroRec,false)) := by
  have hl := leavesP_len R
  have h2 := (mayRecs_ok h).2.1
  obtain ⟨b,hb,hF⟩ := levels_fnd (R := R) 4 (leaves_inv h) (leaves_fnd h) (by rw [hl];have : 4 ^ 4 = 256 := rfl;omega)
  have hne : buildP R ≠ [] := by
    intro c
    unfold buildP at c
    rw [c] at hb;cases hb
  unfold findP
  by_cases hq : mayB q = true
  · rw [if_pos ⟨hq,hne⟩,if_pos hq]
    have hb' : b + 1 = (buildP R).length := hb
    have := hF b (Nat.le_refl _) (by omega) q (.inl rfl) (.inl hb) (buildP R).length (by omega)
    rw [hl] at this
    rw [show (buildP R).length - 1 = b by omega]
    exact this
  · rw [if_neg (fun c => hq c.1),if_neg hq]
def lastP (l : List Rec) (p : List UInt8) : Rec × Bool := l.foldl (fun acc r => if r.path = p then (r,true) else acc) (zeroRec,false)
theorem lastP_snoc (l : List Rec) (r : Rec) (p : List UInt8) : lastP (l ++ [r]) p = if r.path = p then (r,true) else lastP l p := by
  unfold lastP
  rw [List.foldl_append];rfl
theorem lastP_take {R : List Rec} {i : Nat} {r : Rec} (h : R[i]? = some r) (p : List UInt8) : lastP (R.take (i + 1)) p = if r.path = p then (r,true) else lastP (R.take i) p := by
  obtain ⟨hi,rfl⟩ := List.getElem?_eq_some_iff.1 h
  rw [List.take_succ_eq_append_getElem hi,lastP_snoc]
theorem last_take {R : List Rec} (h : R.Pairwise fun a b => lessB a.path b.path = true) (p : List UInt8) : ∀ i,i ≤ R.length → lastP (R.take i) p = amongP (R.take i) p
  | 0,_ => rfl
  | i + 1,hi => by
    have hr : R[i]? = some R[i] := List.getElem?_eq_getElem (by omega)
    rw [lastP_take hr,last_take h p i (by omega),List.take_succ_eq_append_getElem (by omega)]
    unfold amongP
    rw [List.find?_append]
    by_cases hp : R[i].path = p
    · rw [if_pos hp]
      have : (R.take i).find? (fun r => decide (r.path = p)) = none := List.find?_eq_none.2 fun x hx c => by
        obtain ⟨k,hk,rfl⟩ := List.mem_iff_getElem.1 hx
        rw [List.length_take] at hk
        have c := of_decide_eq_true c
        rw [List.getElem_take] at c
        have := List.pairwise_iff_getElem.1 h k i (by omega) (by omega) (by omega)
        rw [c,hp,less_irr] at this
        cases this
      rw [this,Option.none_or,List.find?_cons_of_pos (by simpa using hp)]
    · rw [if_neg hp,List.find?_cons_of_neg (by simpa using hp),List.find?_nil,Option.or_none]
theorem last_among {R : List Rec} (h : mayRecs R = true) (p : List UInt8) : lastP R p = amongP R p := by
  have := last_take (mayRecs_ok h).2.2.2 p R.length (Nat.le_refl _)
  rwa [List.take_length] at this
theorem among_mem (R : List Rec) (p : List UInt8) : amongP R p = (zeroRec,false) ∨ (amongP R p).1 ∈ R := by
  unfold amongP
  cases hf : R.find? (fun r => decide (r.path = p)) with
  | none => exact .inl rfl
  | some r => exact .inr (List.mem_of_find?_eq_some hf)
theorem build_found {R : List Rec} (h : mayRecs R = true) (q : List UInt8) : (findP (buildP R) q).2 = lastP R q ∧ (findP (buildP R) q).1 = if mayB q = true then 1 + upP 4 ((R.length + 3) / 4) else 0 := by
  rw [build_find h q,last_among h]
  by_cases hq : mayB q = true
  · rw [if_pos hq,if_pos hq]
    exact ⟨rfl,rfl⟩
  · rw [if_neg hq,if_neg hq]
    refine ⟨?_,rfl⟩
    have : R.find? (fun r => decide (r.path = q)) = none := List.find?_eq_none.2 fun x hx c => by
      have c := of_decide_eq_true c
      exact hq (c ▸ mayRec_path ((mayRecs_ok h).2.2.1 x hx))
    unfold amongP
    rw [this]
end Go.Proofs.YteamlijbkldlhaaGreat.DbSpec
