import Derived.Test.YtpficpldemickaaNVal
set_option linter.unusedSimpArgs false
set_option linter.unusedVariables false
namespace Go.Proofs.Ytpficpldemickaa.NodeSpec
open GSort AclSpec MetaSpec Ext

def clipO (lo hi : Int) (p : Piece) : Bool := decide (max lo p.pos < min hi (p.pos + p.dat.length))
def clip1 (lo hi : Int) (p : Piece) : Piece := ⟨max lo p.pos,(p.dat.take (min hi (p.pos + p.dat.length) - p.pos).toNat).drop (max lo p.pos - p.pos).toNat⟩
def clipP (l : List Piece) (lo hi : Int) : List Piece := (l.filter (clipO lo hi)).map (clip1 lo hi)
theorem clipP_cons (x : Piece) (l : List Piece) (lo hi : Int) : clipP (x :: l) lo hi = (if max lo x.pos < min hi (x.pos + x.dat.length) then [clip1 lo hi x] else []) ++ clipP l lo hi := by
  unfold clipP
  rw [List.filter_cons]
  by_cases h : max lo x.pos < min hi (x.pos + x.dat.length)
  · rw [show clipO lo hi x = true from decide_eq_true h,if_pos rfl,if_pos h];rfl
  · rw [show clipO lo hi x = false from decide_eq_false h,if_neg (by decide),if_neg h];rfl
theorem clipP_take {l : List Piece} {i : Nat} {p : Piece} (lo hi : Int) (h : l[i]? = some p) : clipP (l.take (i + 1)) lo hi = clipP (l.take i) lo hi ++ (if max lo p.pos < min hi (p.pos + p.dat.length) then [clip1 lo hi p] else []) := by
  obtain ⟨hi',rfl⟩ := List.getElem?_eq_some_iff.1 h
  unfold clipP
  rw [List.take_succ_eq_append_getElem hi',List.filter_append,List.map_append]
  congr 1
  by_cases h : max lo l[i].pos < min hi (l[i].pos + l[i].dat.length)
  · rw [if_pos h,List.filter_cons,show clipO lo hi l[i] = true from decide_eq_true h];rfl
  · rw [if_neg h,List.filter_cons,show clipO lo hi l[i] = false from decide_eq_false h];rfl
theorem clipP_len (l : List Piece) (lo hi : Int) : (clipP l lo hi).length ≤ l.length := by
  unfold clipP;rw [List.length_map];exact List.length_filter_le _ _
theorem clip1_len {lo hi : Int} {p : Piece} (h : max lo p.pos < min hi (p.pos + p.dat.length)) : ((clip1 lo hi p).dat.length : Int) = min hi (p.pos + p.dat.length) - max lo p.pos := by
  unfold clip1
  rw [List.length_drop,List.length_take];omega
theorem clip_dis : ∀ {l : List Piece} {lo hi : Int},DisP l → DisP (clipP l lo hi) ∧ ∀ p ∈ clipP l lo hi,(∃ x ∈ l,x.pos ≤ p.pos ∧ p.pos + p.dat.length ≤ x.pos + x.dat.length) ∧ lo ≤ p.pos ∧ p.pos + p.dat.length ≤ hi
  | [],lo,hi,h => ⟨h,fun p hp => by cases hp⟩
  | x :: r,lo,hi,h => by
    obtain ⟨ih,il⟩ := clip_dis (lo := lo) (hi := hi) h.tail
    rw [clipP_cons]
    split
    · rename_i hx
      have hl := clip1_len hx
      have hr := (List.pairwise_cons.1 h.1).1
      obtain ⟨a1,a2,a3⟩ := h.2 x (by simp)
      have hps : (clip1 lo hi x).pos = max lo x.pos := rfl
      rw [List.singleton_append]
      refine ⟨⟨List.pairwise_cons.2 ⟨fun p hp => ?_,ih.1⟩,fun p hp => ?_⟩,fun p hp => ?_⟩
      · obtain ⟨⟨y,hy,hy1,hy2⟩,_⟩ := il p hp
        have := hr y hy
        omega
      · rcases List.mem_cons.1 hp with rfl | hp
        · refine ⟨fun hc => ?_,by omega,by omega⟩
          rw [hc] at hl;simp only [List.length_nil] at hl;omega
        · exact ih.2 p hp
      · rcases List.mem_cons.1 hp with rfl | hp
        · exact ⟨⟨x,by simp,by omega,by omega⟩,by omega,by omega⟩
        · obtain ⟨⟨y,hy,hy1⟩,hy2⟩ := il p hp
          exact ⟨⟨y,by simp [hy],hy1⟩,hy2⟩
    · rw [List.nil_append]
      refine ⟨ih,fun p hp => ?_⟩
      obtain ⟨⟨y,hy,hy1⟩,hy2⟩ := il p hp
      exact ⟨⟨y,by simp [hy],hy1⟩,hy2⟩
theorem clip1_get {lo hi : Int} {p : Piece} {q : Int} (h : InP (clip1 lo hi p) q) (hx : max lo p.pos < min hi (p.pos + p.dat.length)) : (clip1 lo hi p).dat[(q - (clip1 lo hi p).pos).toNat]? = p.dat[(q - p.pos).toNat]? := by
  have hl := clip1_len hx
  unfold InP at h
  rw [hl] at h
  unfold clip1 at h ⊢
  simp only at h ⊢
  rw [List.getElem?_drop,List.getElem?_take_of_lt (by omega)]
  congr 1;omega
theorem clip_val : ∀ {l : List Piece} {lo hi : Int},DisP l → ∀ q,(MemP (clipP l lo hi) q ↔ MemP l q ∧ lo ≤ q ∧ q < hi) ∧ valAt (clipP l lo hi) q = if lo ≤ q ∧ q < hi then valAt l q else 0
  | [],lo,hi,h,q => by
    refine ⟨⟨fun c => absurd c memP_nil,fun c => absurd c.1 memP_nil⟩,?_⟩
    split <;> rfl
  | x :: r,lo,hi,h,q => by
    obtain ⟨i1,i2⟩ := clip_val (lo := lo) (hi := hi) h.tail q
    have hs := (clip_dis (lo := lo) (hi := hi) h).1
    rw [clipP_cons] at hs ⊢
    split
    · rename_i hx
      rw [if_pos hx,List.singleton_append] at hs
      rw [List.singleton_append]
      have hl := clip1_len hx
      have hps : (clip1 lo hi x).pos = max lo x.pos := rfl
      have hin : InP (clip1 lo hi x) q ↔ InP x q ∧ lo ≤ q ∧ q < hi := by
        unfold InP;rw [hl,hps];omega
      rw [memP_cons,memP_cons,hin,i1,valAt_cons hs,valAt_cons h]
      refine ⟨⟨fun c => ?_,fun c => ?_⟩,?_⟩
      · rcases c with c | c
        · exact ⟨.inl c.1,c.2⟩
        · exact ⟨.inr c.1,c.2⟩
      · rcases c.1 with d | d
        · exact .inl ⟨d,c.2⟩
        · exact .inr ⟨d,c.2⟩
      · by_cases hq : lo ≤ q ∧ q < hi
        · rw [if_pos hq]
          by_cases hx2 : InP x q
          · rw [if_pos (hin.2 ⟨hx2,hq⟩),if_pos hx2,clip1_get (hin.2 ⟨hx2,hq⟩) hx]
          · rw [if_neg (fun c => hx2 (hin.1 c).1),if_neg hx2,i2,if_pos hq]
        · rw [if_neg hq,if_neg (fun c => hq (hin.1 c).2),i2,if_neg hq]
    · rename_i hx
      rw [List.nil_append]
      have hno : lo ≤ q ∧ q < hi → ¬ InP x q := by unfold InP;omega
      rw [i1,memP_cons,i2,valAt_cons h]
      refine ⟨⟨fun c => ⟨.inr c.1,c.2⟩,fun c => ?_⟩,?_⟩
      · rcases c.1 with d | d
        · exact absurd d (hno c.2)
        · exact ⟨d,c.2⟩
      · split
        · rename_i hq;rw [if_neg (hno hq)]
        · rfl

def stepJ (out : List Piece) (p : Piece) : List Piece :=
  match out.getLast? with
  | none => out ++ [p]
  | some y => if y.pos + y.dat.length = p.pos then out.dropLast ++ [⟨y.pos,y.dat ++ p.dat⟩] else out ++ [p]
def joinP (l : List Piece) : List Piece := l.foldl stepJ []
theorem stepJ_snoc (r : List Piece) (y p : Piece) : stepJ (r ++ [y]) p = if y.pos + y.dat.length = p.pos then r ++ [⟨y.pos,y.dat ++ p.dat⟩] else r ++ [y] ++ [p] := by
  unfold stepJ;simp
theorem stepJ_len (out : List Piece) (p : Piece) : (stepJ out p).length ≤ out.length + 1 := by
  unfold stepJ
  split
  · simp
  · split
    · simp
    · simp
theorem joinP_len : ∀ (l out : List Piece),(l.foldl stepJ out).length ≤ out.length + l.length
  | [],out => by simp
  | z :: l,out => by
    have h1 := joinP_len l (stepJ out z)
    have h2 := stepJ_len out z
    simp only [List.foldl_cons,List.length_cons];omega
structure Joins (s out : List Piece) : Prop where
  sep : SepP out
  mem : ∀ q,MemP out q ↔ MemP s q
  val : ∀ q,valAt out q = valAt s q
  fin : ∀ y ∈ out,∃ x ∈ s,y.pos + y.dat.length = x.pos + x.dat.length
theorem dis_snoc {l : List Piece} {p : Piece} (h : DisP l) (hp : okP p) (hl : ∀ x ∈ l,x.pos + x.dat.length ≤ p.pos) : DisP (l ++ [p]) := by
  refine ⟨List.pairwise_append.2 ⟨h.1,List.pairwise_singleton _ _,fun a ha b hb => ?_⟩,fun x hx => ?_⟩
  · simp only [List.mem_singleton] at hb;subst hb;exact hl a ha
  · rcases List.mem_append.1 hx with hx | hx
    · exact h.2 x hx
    · simp only [List.mem_singleton] at hx;subst hx;exact hp
theorem valAt_snoc' (l : List Piece) (p : Piece) (q : Int) : valAt (l ++ [p]) q = if InP p q then (p.dat[(q - p.pos).toNat]?).getD 0 else valAt l q := valAt_snoc l p.pos p.dat q
theorem Joins.step {s out : List Piece} {p : Piece} (h : Joins s out) (hp : okP p) (hs : ∀ x ∈ s,x.pos + x.dat.length ≤ p.pos) : Joins (s ++ [p]) (stepJ out p) := by
  have hm : ∀ q,MemP (s ++ [p]) q ↔ MemP s q ∨ InP p q := fun q => by rw [memP_append,memP_one]
  have hle : ∀ y ∈ out,y.pos + y.dat.length ≤ p.pos := fun y hy => by obtain ⟨x,hx,e⟩ := h.fin y hy;rw [e];exact hs x hx
  have hp0 : 0 < p.dat.length := List.length_pos_iff.2 hp.1
  cases hl : out.getLast? with
  | none =>
    have : out = [] := List.getLast?_eq_none_iff.1 hl
    subst this
    have e : stepJ [] p = [p] := rfl
    rw [e]
    refine ⟨⟨List.pairwise_singleton _ _,fun x hx => by simp only [List.mem_singleton] at hx;subst hx;exact hp⟩,fun q => ?_,fun q => ?_,fun y hy => ?_⟩
    · rw [hm,← h.mem,memP_one]
      exact ⟨.inr,fun c => c.elim (fun d => absurd d memP_nil) id⟩
    · rw [valAt_snoc',← h.val];exact valAt_snoc' [] p q
    · simp only [List.mem_singleton] at hy;subst hy;exact ⟨y,by simp,rfl⟩
  | some y =>
    obtain ⟨r,rfl⟩ : ∃ r,out = r ++ [y] := ⟨_,snoc_of_last hl⟩
    rw [stepJ_snoc]
    have hy := h.sep.2 y (by simp)
    have hyl := hle y (by simp)
    have hy0 : 0 < y.dat.length := List.length_pos_iff.2 hy.1
    obtain ⟨hp1,hp2,hp3⟩ := List.pairwise_append.1 h.sep.1
    by_cases c1 : y.pos + y.dat.length = p.pos
    · rw [if_pos c1]
      have hlen : ((y.dat ++ p.dat).length : Int) = y.dat.length + p.dat.length := by simp
      refine ⟨⟨List.pairwise_append.2 ⟨hp1,List.pairwise_singleton _ _,fun a ha b hb => ?_⟩,fun x hx => ?_⟩,fun q => ?_,fun q => ?_,fun x hx => ?_⟩
      · simp only [List.mem_singleton] at hb;subst hb;exact hp3 a ha y (by simp)
      · rcases List.mem_append.1 hx with hx | hx
        · exact h.sep.2 x (by simp [hx])
        · simp only [List.mem_singleton] at hx;subst hx
          refine ⟨fun hc => ?_,hy.2.1,?_⟩
          · simp only at hc
            rw [hc] at hlen;simp only [List.length_nil] at hlen;omega
          · simp only [hlen];have := hp.2.2;omega
      · rw [hm,← h.mem,memP_append,memP_append,memP_one,memP_one]
        have : InP ⟨y.pos,y.dat ++ p.dat⟩ q ↔ InP y q ∨ InP p q := by unfold InP;simp only [hlen];omega
        rw [this,or_assoc]
      · rw [valAt_snoc',valAt_snoc',← h.val,valAt_snoc']
        by_cases i1 : InP p q
        · have i2 : InP ⟨y.pos,y.dat ++ p.dat⟩ q := by unfold InP at *;simp only [hlen];omega
          rw [if_pos i2,if_pos i1]
          simp only
          unfold InP at i1
          rw [List.getElem?_append_right (by omega)]
          congr 2;omega
        · by_cases i3 : InP y q
          · have i2 : InP ⟨y.pos,y.dat ++ p.dat⟩ q := by unfold InP at *;simp only [hlen];omega
            rw [if_pos i2,if_neg i1,if_pos i3]
            simp only
            unfold InP at i3
            rw [List.getElem?_append_left (by omega)]
          · have i2 : ¬ InP ⟨y.pos,y.dat ++ p.dat⟩ q := by unfold InP at *;simp only [hlen];omega
            rw [if_neg i2,if_neg i1,if_neg i3]
      · rcases List.mem_append.1 hx with hx | hx
        · obtain ⟨z,hz,e⟩ := h.fin x (by simp [hx]);exact ⟨z,by simp [hz],e⟩
        · simp only [List.mem_singleton] at hx;subst hx
          exact ⟨p,by simp,by simp only [hlen];omega⟩
    · rw [if_neg c1]
      refine ⟨⟨List.pairwise_append.2 ⟨h.sep.1,List.pairwise_singleton _ _,fun a ha b hb => ?_⟩,fun x hx => ?_⟩,fun q => ?_,fun q => ?_,fun x hx => ?_⟩
      · simp only [List.mem_singleton] at hb;subst hb
        rcases List.mem_append.1 ha with ha | ha
        · have := hp3 a ha y (by simp);omega
        · simp only [List.mem_singleton] at ha;subst ha;omega
      · rcases List.mem_append.1 hx with hx | hx
        · exact h.sep.2 x hx
        · simp only [List.mem_singleton] at hx;subst hx;exact hp
      · rw [hm,← h.mem,memP_append (l := r ++ [y]),memP_one]
      · rw [valAt_snoc' (r ++ [y]),valAt_snoc' s,← h.val]
      · rcases List.mem_append.1 hx with hx | hx
        · obtain ⟨z,hz,e⟩ := h.fin x hx;exact ⟨z,by simp [hz],e⟩
        · simp only [List.mem_singleton] at hx;subst hx;exact ⟨x,by simp,rfl⟩
theorem Joins.nil : Joins [] [] := ⟨⟨List.Pairwise.nil,by simp⟩,fun _ => Iff.rfl,fun _ => rfl,by simp⟩
theorem Joins.fold : ∀ (r s out : List Piece),Joins s out → DisP (s ++ r) → Joins (s ++ r) (r.foldl stepJ out)
  | [],s,out,h,_ => by simpa using h
  | p :: r,s,out,h,hd => by
    have hp := List.pairwise_append.1 hd.1
    have := Joins.fold r (s ++ [p]) (stepJ out p) (h.step (hd.2 p (by simp)) (fun x hx => hp.2.2 x hx p (by simp))) (by simpa using hd)
    simpa using this
theorem joins {l : List Piece} (h : DisP l) : Joins l (joinP l) := by
  have := Joins.fold l [] [] Joins.nil (by simpa using h)
  simpa [joinP] using this
theorem joins_take {l : List Piece} (h : DisP l) (i : Nat) : Joins (l.take i) ((l.take i).foldl stepJ []) := joins ⟨h.1.sublist (List.take_sublist _ _),fun p hp => h.2 p (List.mem_of_mem_take hp)⟩

def aroundP (l : List Piece) (a : Int) (s : List UInt8) : List Piece := clipP l 0 a ++ [⟨a,s⟩] ++ clipP l (a + s.length) 1099511627777
theorem around_dis {l : List Piece} {a : Int} {s : List UInt8} (h : SepP l) (h0 : 0 ≤ a) (h1 : a + s.length ≤ 1099511627776) (hs : s ≠ []) : DisP (aroundP l a s) := by
  obtain ⟨d1,e1⟩ := clip_dis (lo := 0) (hi := a) h.dis
  obtain ⟨d2,e2⟩ := clip_dis (lo := a + s.length) (hi := 1099511627777) h.dis
  unfold aroundP
  have h3 := dis_snoc (p := ⟨a,s⟩) d1 ⟨hs,h0,h1⟩ (fun x hx => (e1 x hx).2.2)
  refine ⟨List.pairwise_append.2 ⟨h3.1,d2.1,fun x hx y hy => ?_⟩,fun x hx => ?_⟩
  · have hy1 := (e2 y hy).2.1
    rcases List.mem_append.1 hx with hx | hx
    · have := (e1 x hx).2.2;omega
    · simp only [List.mem_singleton] at hx;subst hx;exact hy1
  · rcases List.mem_append.1 hx with hx | hx
    · exact h3.2 x hx
    · exact d2.2 x hx
theorem okP_snoc {l : List Piece} {a : Int} {s : List UInt8} (h : ∀ p ∈ l,okP p) (h0 : 0 ≤ a) (h1 : a + s.length ≤ 1099511627776) (hs : s ≠ []) : ∀ p ∈ l ++ [(⟨a,s⟩ : Piece)],okP p := by
  intro p hp
  rcases List.mem_append.1 hp with hp | hp
  · exact h p hp
  · simp only [List.mem_singleton] at hp;subst hp;exact ⟨hs,h0,h1⟩
theorem join_wrote {l : List Piece} {a : Int} {s : List UInt8} (h : SepP l) (h0 : 0 ≤ a) (h1 : a + s.length ≤ 1099511627776) (hs : s ≠ []) : joinP (aroundP l a s) = wroteP (l ++ [⟨a,s⟩]) := by
  have hd := around_dis h h0 h1 hs
  have hok := okP_snoc h.2 h0 h1 hs
  have hj := joins hd
  have hs0 : 0 < s.length := List.length_pos_iff.2 hs
  have hB : ∀ q,MemP l q → 0 ≤ q ∧ q < 1099511627777 := by
    rintro q ⟨p,hp,h1,h2⟩
    have := h.2 p hp
    unfold okP at this;omega
  refine uniqueP hj.sep (wrote_sep hok) (fun q => ?_) (fun q => ?_)
  · rw [hj.mem,wrote_mem hok]
    unfold aroundP
    rw [memP_append,memP_append,(clip_val h.dis q).1,(clip_val h.dis q).1,memP_append,memP_one]
    constructor
    · rintro ((c | c) | c)
      · exact .inl c.1
      · exact .inr c
      · exact .inl c.1
    · rintro (c | c)
      · have hb := hB q c
        by_cases k1 : q < a
        · exact .inl (.inl ⟨c,hb.1,k1⟩)
        · by_cases k2 : q < a + s.length
          · exact .inl (.inr ⟨by simp only;omega,k2⟩)
          · exact .inr ⟨c,by omega,hb.2⟩
      · exact .inl (.inr c)
  · rw [hj.val,wrote_val hok,valAt_snoc]
    by_cases k : a ≤ q ∧ q < a + s.length
    · rw [if_pos k,valAt_in hd (p := ⟨a,s⟩) (by unfold aroundP;simp) k]
    · rw [if_neg k]
      by_cases hm : MemP l q
      · have hb := hB q hm
        have hm1 : ∀ lo hi,lo ≤ q → q < hi → ∃ p ∈ clipP l lo hi,InP p q ∧ (p.dat[(q - p.pos).toNat]?).getD 0 = valAt l q := by
          intro lo hi c1 c2
          obtain ⟨p,hp,hi'⟩ := (clip_val (lo := lo) (hi := hi) h.dis q).1.2 ⟨hm,c1,c2⟩
          have v1 := valAt_in (clip_dis (lo := lo) (hi := hi) h.dis).1 hp hi'
          rw [(clip_val h.dis q).2,if_pos ⟨c1,c2⟩] at v1
          exact ⟨p,hp,hi',v1.symm⟩
        by_cases k1 : q < a
        · obtain ⟨p,hp,i1,v1⟩ := hm1 0 a hb.1 k1
          rw [valAt_in hd (p := p) (by unfold aroundP;simp [hp]) i1,v1]
        · obtain ⟨p,hp,i1,v1⟩ := hm1 (a + s.length) 1099511627777 (by omega) hb.2
          rw [valAt_in hd (p := p) (by unfold aroundP;simp [hp]) i1,v1]
      · rw [valAt_out hm]
        apply valAt_out
        unfold aroundP
        rw [memP_append,memP_append,(clip_val h.dis q).1,(clip_val h.dis q).1,memP_one]
        rintro ((c | c) | c)
        · exact hm c.1
        · exact k c
        · exact hm c.1
theorem bytesP_app (l m : List Piece) : bytesP (l ++ m) = bytesP l + bytesP m := by unfold bytesP;rw [List.map_append,List.sum_append_nat]
theorem bytesP_one (p : Piece) : bytesP [p] = p.dat.length := by simp [bytesP]
theorem stepJ_bytes (out : List Piece) (p : Piece) : bytesP (stepJ out p) = bytesP out + p.dat.length := by
  cases hl : out.getLast? with
  | none =>
    have : out = [] := List.getLast?_eq_none_iff.1 hl
    subst this
    show bytesP [p] = _
    simp [bytesP]
  | some y =>
    obtain ⟨r,rfl⟩ : ∃ r,out = r ++ [y] := ⟨_,snoc_of_last hl⟩
    rw [stepJ_snoc]
    split
    · rw [bytesP_app,bytesP_app,bytesP_one,bytesP_one];simp;omega
    · rw [bytesP_app,bytesP_one]
theorem join_bytes : ∀ (l out : List Piece),bytesP (l.foldl stepJ out) = bytesP out + bytesP l
  | [],out => by simp [bytesP]
  | p :: l,out => by
    rw [List.foldl_cons,join_bytes l,stepJ_bytes]
    have : bytesP (p :: l) = p.dat.length + bytesP l := by simp [bytesP]
    omega
theorem clip2_bytes {a b hi : Int} (hab : a ≤ b) : ∀ l : List Piece,bytesP (clipP l 0 a) + bytesP (clipP l b hi) ≤ bytesP l
  | [] => by simp [bytesP,clipP]
  | x :: r => by
    have ih := clip2_bytes (hi := hi) hab r
    rw [clipP_cons,clipP_cons,bytesP_app,bytesP_app]
    have hx : bytesP (x :: r) = x.dat.length + bytesP r := by simp [bytesP]
    rw [hx]
    by_cases h1 : max 0 x.pos < min a (x.pos + x.dat.length)
    · have e1 := clip1_len h1
      rw [if_pos h1,bytesP_one]
      by_cases h2 : max b x.pos < min hi (x.pos + x.dat.length)
      · have e2 := clip1_len h2
        rw [if_pos h2,bytesP_one];omega
      · rw [if_neg h2,show bytesP [] = 0 from rfl];omega
    · rw [if_neg h1,show bytesP [] = 0 from rfl]
      by_cases h2 : max b x.pos < min hi (x.pos + x.dat.length)
      · have e2 := clip1_len h2
        rw [if_pos h2,bytesP_one];omega
      · rw [if_neg h2,show bytesP [] = 0 from rfl];omega
theorem wrote_small {l : List Piece} {a : Int} {s : List UInt8} (h : SepP l) (h0 : 0 ≤ a) (h1 : a + s.length ≤ 1099511627776) (hs : s ≠ []) : bytesP (wroteP (l ++ [⟨a,s⟩])) ≤ bytesP l + s.length := by
  rw [← join_wrote h h0 h1 hs]
  unfold joinP
  rw [join_bytes]
  unfold aroundP
  rw [bytesP_app,bytesP_app,bytesP_one]
  have := clip2_bytes (a := a) (b := a + s.length) (hi := 1099511627777) (by omega) l
  simp only
  have hn : bytesP ([] : List Piece) = 0 := rfl
  omega
end Go.Proofs.Ytpficpldemickaa.NodeSpec
