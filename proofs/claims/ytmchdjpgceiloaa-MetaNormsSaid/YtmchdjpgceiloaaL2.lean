/-
  OPERATIONS THAT LEAVE THE WORLD ALONE, by what their operands stand for; that they do what they do.
-/
import Derived.Test.YtmchdjpgceiloaaL1
set_option linter.unusedSimpArgs false
set_option linter.unusedVariables false
namespace Go.Proofs.Ytmchdjpgceiloaa
open Go.RowKit

def toLV : Value → LV
  | .slice none 0 0 => .sl 0 [] .nil
  | v => .lit v
theorem rep_toLV {P : Program} {w : World} {g : Gh} (v : Value) : Rep P w g (toLV v) v := by
  unfold toLV
  split
  · exact .nil _
  · exact .lit _ _

/-- The slots and the call's own variables, by what they stand for. -/
structure LSt where
  env : Nat → LV
  box : Nat → Option (List LV)
  row : Nat → Option (TypeId × Nat)
  arr : Nat → Option (List LV)
  mode : Nat → Bool
  val : Nat → Option Value
def LSt.put (st : LSt) (dst : Option Tmp) (x : LV) : LSt :=
  match dst with
  | some d => { st with env := upd st.env d x, val := upd st.val d none }
  | none => st
def evL (env : Nat → LV) : Operand → LV
  | .tmp t => env t
  | .const v => toLV v
  | .global g => .lit (.pointer (some ⟨g, 0, none⟩))
  | .func f => .lit (.func (.func f) #[] #[])

/-! ### Types, as far as they matter -/
def aggL (P : Program) (t : TypeId) : Option Bool :=
  match P.underlying t with
  | some (.struct _) => some true
  | some (.array _ _) => some true
  | some _ => some false
  | none => none
def fieldL (P : Program) (s : TypeId) (f : Nat) : Option (Nat × TypeId) :=
  match P.underlying s with
  | some (.struct fs) =>
    match fs[f]? with
    | some fl => match P.info? fl.type with
      | some i => if i.size = 0 then none else some (fl.offset, fl.type)
      | none => none
    | none => none
  | _ => none
def elemL (P : Program) (t : TypeId) : Option (TypeId × Nat) :=
  match P.underlying t with
  | some (.slice e) => (P.info? e).map fun i => (e, i.size)
  | _ => none
def loadL (P : Program) (t : TypeId) (cs : List LV) : Option LV :=
  match aggL P t with
  | some true => match P.info? t with
    | some i => if i.size ≤ cs.length then some (.agg (cs.take i.size)) else none
    | none => none
  | some false => cs.head?
  | none => none

/-! ### Two literals -/
def binI (op : BinOp) (k : IntKind) (a b : Int) : Option Value :=
  match op with
  | .eql => some (.bool (decide (a = b)))
  | .neq => some (.bool (!decide (a = b)))
  | .lss => some (.bool (decide (a < b)))
  | .leq => some (.bool (decide (a ≤ b)))
  | .gtr => some (.bool (decide (b < a)))
  | .geq => some (.bool (decide (b ≤ a)))
  | .add => some (.int k (k.wrap (a + b)))
  | .sub => some (.int k (k.wrap (a - b)))
  | .mul => some (.int k (k.wrap (a * b)))
  | .and => some (.int k (bits .and k a b))
  | .or => some (.int k (bits .or k a b))
  | .xor => some (.int k (bits .xor k a b))
  | .andNot => some (.int k (bits .andNot k a b))
  | .quo => if b = 0 then none else some (.int k (k.wrap (a.tdiv b)))
  | .rem => if b = 0 then none else some (.int k (a.tmod b))
  | _ => none
def binS (op : BinOp) (a b : List UInt8) : Option Value :=
  match op with
  | .add => if a.length + b.length ≤ 9223372036854775807 then some (.string ⟨(a ++ b).toArray⟩) else none
  | .eql => some (.bool (decide (a = b)))
  | .neq => some (.bool (!decide (a = b)))
  | .lss => some (.bool (Op.bytesLess a b))
  | .leq => some (.bool (Op.bytesLess a b || decide (a = b)))
  | .gtr => some (.bool (!(Op.bytesLess a b || decide (a = b))))
  | .geq => some (.bool (!Op.bytesLess a b))
  | _ => none
def shV (op : BinOp) (k : IntKind) (a b : Int) : Option Value :=
  match op with
  | .shl => if b < 0 then none else some (.int k (k.wrap (a * 2 ^ (min b.toNat k.bits))))
  | .shr => if b < 0 then none else some (.int k (a.fdiv (2 ^ (min b.toNat k.bits))))
  | _ => none
def isSh (op : BinOp) : Bool := match op with | .shl => true | .shr => true | _ => false
def binV (P : Program) (op : BinOp) (t : TypeId) (x y : Value) : Option Value :=
  match x, y with
  | .int k a, .int k' b => if isSh op then shV op k a b else if k = k' then binI op k a b else none
  | .string a, .string b => binS op a.data.toList b.data.toList
  | .bool a, .bool b =>
    match P.underlying t, op with
    | some .bool, .eql => some (.bool (a == b))
    | some .bool, .neq => some (.bool (!(a == b)))
    | _, _ => none
  | .float k a, .float k' b =>
    if k = k' then
      match op with
      | .lss => some (.bool (k.format.order a b == some .lt))
      | .gtr => some (.bool (k.format.order a b == some .gt))
      | .leq => some (.bool (k.format.order a b == some .lt || k.format.order a b == some .eq))
      | .geq => some (.bool (k.format.order a b == some .gt || k.format.order a b == some .eq))
      | .eql => some (.bool (k.format.order a b == some .eq))
      | .neq => some (.bool (k.format.order a b != some .eq))
      | _ => none
    else none
  | .complex k a b, .complex k' c d =>
    if k = k' then
      match op with
      | .eql => some (.bool ((k.format.order a c == some .eq) && (k.format.order b d == some .eq)))
      | .neq => some (.bool !((k.format.order a c == some .eq) && (k.format.order b d == some .eq)))
      | _ => none
    else none
  | _, _ => none
theorem eqGuard_lit {P : Program} {w : World} {op : BinOp} {t : TypeId} {x y : Operand} {a b : Value} {v : Value} (h : binV P op t a b = some v) : (eqGuard op t x y a b).run P w = .ok () w := by
  cases a <;> cases b <;> simp only [binV] at h <;> first | (cases h; done) | (unfold eqGuard; cases op <;> rfl)
theorem toList_eq (s : ByteArray) : s.toList = s.data.toList := by
  exact Lib.toList_data s
section
variable {P : Program} {w : World} {t : TypeId}
theorem binI_run {op : BinOp} {k : IntKind} {a b : Int} {v : Value} (h : binI op k a b = some v) : (binOp op t (.int k a) (.int k b)).run P w = .ok v w := by
  cases op <;> simp only [binI] at h
  case add => cases h; rw [binOp_add]; rfl
  case sub => cases h; rw [binOp_sub]; rfl
  case mul => cases h; rw [binOp_mul]; rfl
  case quo => split at h; · cases h
              · rename_i hb; cases h; rw [binOp_quo]; simp only [Op.intDiv, if_neg hb]; rfl
  case rem => split at h; · cases h
              · rename_i hb; cases h; rw [binOp_rem]; simp only [Op.intDiv, if_neg hb]; rfl
  case and => cases h; rw [binOp_and]; rfl
  case or => cases h; rw [binOp_or]; rfl
  case xor => cases h; rw [binOp_xor]; rfl
  case andNot => cases h; rw [binOp_andNot]; rfl
  case eql => cases h; rw [binOp_eql]; show Result.ok (Value.bool _) w = _; congr 2
  case neq => cases h; rw [binOp_neq]; show Result.ok (Value.bool _) w = _; congr 2
  case lss => cases h; rw [binOp_lss]; rfl
  case leq => cases h; rw [binOp_leq]; rfl
  case gtr => cases h; rw [binOp_gtr]; rfl
  case geq => cases h; rw [binOp_geq]; rfl
  all_goals cases h
theorem shV_run {op : BinOp} {k k' : IntKind} {a b : Int} {v : Value} (h : shV op k a b = some v) : (binOp op t (.int k a) (.int k' b)).run P w = .ok v w := by
  cases op <;> simp only [shV] at h
  case shl => split at h; · cases h
              · rename_i hb; cases h; rw [binOp_shl]; simp only [Op.shift, if_neg hb]; rfl
  case shr => split at h; · cases h
              · rename_i hb; cases h; rw [binOp_shr]; simp only [Op.shift, if_neg hb]; rfl
  all_goals cases h
theorem dec_beq (a b : List UInt8) : (a == b) = decide (a = b) := by
  rw [Bool.eq_iff_iff]; simp
theorem binS_run {op : BinOp} {a b : ByteArray} {v : Value} (h : binS op a.data.toList b.data.toList = some v) : (binOp op t (.string a) (.string b)).run P w = .ok v w := by
  cases op <;> simp only [binS] at h
  case add =>
    split at h
    · cases h
      rename_i hl
      have hl' : ¬ ((a.size + b.size : Nat) : Int) > IntKind.i64.max := by
        have e1 : a.size = a.data.toList.length := by simp
        have e2 : b.size = b.data.toList.length := by simp
        rw [e1, e2]
        show ¬ _ > (9223372036854775807 : Int)
        omega
      rw [binOp_string_add]
      simp only [Op.stringOp, hl', if_false]
      have : a ++ b = ⟨(a.data.toList ++ b.data.toList).toArray⟩ := by apply ByteArray.ext; simp
      rw [this]; rfl
    · cases h
  case eql => cases h; rw [binOp_string_eql, toList_eq, toList_eq, dec_beq]; rfl
  case neq => cases h; rw [binOp_string_neq, toList_eq, toList_eq, dec_beq]; rfl
  case lss => cases h; rw [binOp_string_lss, toList_eq, toList_eq]; rfl
  case leq => cases h; rw [binOp_string_leq, toList_eq, toList_eq, dec_beq]; rfl
  case gtr => cases h; rw [binOp_string_gtr, toList_eq, toList_eq, dec_beq]; rfl
  case geq => cases h; rw [binOp_string_geq, toList_eq, toList_eq]; rfl
  all_goals cases h
theorem binV_run {op : BinOp} {a b v : Value} (h : binV P op t a b = some v) : (binOp op t a b).run P w = .ok v w := by
  cases a <;> cases b <;> simp only [binV] at h <;> try (cases h; done)
  case bool.bool a b =>
    split at h <;> cases h
    · rename_i hu; exact run_eql_bool _ _ _ _ hu
    · rename_i hu; exact run_neq_bool _ _ _ _ hu
  case int.int k a k' b =>
    split at h
    · exact shV_run h
    · split at h
      · rename_i hk; subst hk; exact binI_run h
      · cases h
  case string.string a b => exact binS_run h
  case float.float k a k' b =>
    split at h
    · rename_i hk; subst hk
      cases op <;> simp only at h
      case eql => cases h; rw [binOp_float_cmp_eql]; rfl
      case neq => cases h; rw [binOp_float_cmp_neq]; rfl
      case lss => cases h; rw [binOp_float_cmp_lss]; rfl
      case leq => cases h; rw [binOp_float_cmp_leq]; rfl
      case gtr => cases h; rw [binOp_float_cmp_gtr]; rfl
      case geq => cases h; rw [binOp_float_cmp_geq]; rfl
      all_goals cases h
    · cases h
  case complex.complex k a b k' c d =>
    split at h
    · rename_i hk; subst hk
      cases op <;> simp only at h
      case eql => cases h; exact run_eql_complex _ _ _ _ _ _ _
      case neq => cases h; exact run_neq_complex _ _ _ _ _ _ _
      all_goals cases h
    · cases h
end
end Go.Proofs.Ytmchdjpgceiloaa
