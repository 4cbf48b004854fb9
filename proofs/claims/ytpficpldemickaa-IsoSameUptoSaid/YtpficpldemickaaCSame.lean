/-
  steamerlaw's statement steamerlaw26.IsoSame: where what it reads is of bulk at most 1048576, the call returns true and turns nothing that was there. Conditions: those of the given row alone.
-/
import Derived.Test.YtpficpldemickaaKIM
import Derived.Test.YtpficpldemickaaOAce
import Derived.Test.YtpficpldemickaaUpto
import Derived.Test.YtpficpldemickaaLawS
set_option linter.unusedSimpArgs false
set_option linter.unusedVariables false
namespace Go.Proofs.Ytpficpldemickaa.isoSame
open Go.ChangeShapes Go.WideShapes Go.ChangeAt Go.RowKit Go.Proofs

set_option maxRecDepth 100000 in
theorem contract (H : Type) (enc : TypeId × Value → H) (W : World) (base : Nat) (args : Array Value) (ds gs : List (DataW H)) (before : List MemPlace)
    (hval : ∀ (j : Nat) t v,Try.f4.params[j]? = some t → args[j]? = some v → Value.okWide Try.prog W .any base t v)
    (hW : DataW.Whole enc Try.prog Try.f4.params.toList Rows.isoSameSpec.vars false W args.toList ds gs before) (hsh : W.ShapedOpen Try.prog) (hc : Rows.uptoSmall H (ds ++ gs) = true) :
    Calls Try.prog 4 args W fun e W' => ∃ v,e = .returned v ∧ Rows.isoSameSpec.post enc Try.prog Try.f4 false true false false W args v W' := by
  have hW' := hW
  have hglob : Glob Try.prog W := glob_shaped hsh
  obtain ⟨p,q,hA0,hV,rfl,hfz,hnd⟩ := hW
  have hA : DataW.TrodAll enc Try.prog W 0 (fun _ => true) true Try.f4.params.toList args.toList ds p := hA0
  rw [Try.params4] at hA hval
  obtain ⟨v0,vs0,d0,ds0,p0,q0,hargs,rfl,rfl,h0,r0⟩ := trodAll_cons hA
  obtain ⟨v1,vs1,d1,ds1,p1,q1,rfl,rfl,rfl,h1,r1⟩ := trodAll_cons r0
  obtain ⟨v2,vs2,d2,ds2,p2,q2,rfl,rfl,rfl,h2,r2⟩ := trodAll_cons r1
  obtain ⟨rfl,rfl,rfl⟩ := trodAll_nil r2
  obtain rfl : args = #[v0,v1,v2] := by cases args;simp_all
  obtain ⟨a0,ha0,e0⟩ := arg_slice_upto (len := List.length) (fun a => ⟨_,rfl⟩) Try.underlying32 (opens_ints) (hval 0 32 v0 rfl rfl) h0
  obtain ⟨a1,ha1,e1⟩ := arg_slice_upto (len := List.length) (fun a => ⟨_,rfl⟩) Try.underlying32 (opens_ints) (hval 1 32 v1 rfl rfl) h1
  obtain ⟨a2,ha2,e2⟩ := arg_int Try.underlying3 (hval 2 3 v2 rfl rfl) h2
  obtain ⟨rfl,rfl⟩ := trodVars_none hV
  have hb := of_decide_eq_true (p := Rows.uptoBulkAll _ ≤ 1048576) hc
  simp only [List.append_nil,Rows.uptoBulkAll] at hb
  refine (callsTrue (vs := [v0,v1,v2]) (isoSame_L a0 a1 a2 (by have x0 := ha0.2;have x1 := ha1.2;omega)) hglob ⟨e0,e1,e2,trivial⟩).mono fun e W' ⟨he,hg⟩ => ?_
  subst he
  refine ⟨_,rfl,law_post rfl rfl rfl ?_ hW' hg⟩
  rw [Try.params4]
  intro t ht
  simp only [List.mem_cons,List.not_mem_nil,or_false] at ht
  rcases ht with rfl | rfl | rfl <;> exact ⟨by kernel_rfl,of_decide_eq_true (by kernel_rfl)⟩

theorem laid (os : Os) : laidMet Try.prog Rows.isoSameUptoRow.laid (((World.holding Try.prog os ⟨#[],#[],[]⟩)).forCall (fun _ _ => 0) ⟨#[],#[.slice none 0 0,.slice none 0 0,.int .i64 0],[]⟩).memory :=
  laidMet_of_run' 8 (by kernel_rfl) (by kernel_rfl)
theorem reads (os : Os) {H : Type} (enc : TypeId × Value → H) : ∃ places,DataW.whole enc Try.prog (((World.holding Try.prog os ⟨#[],#[],[]⟩)).forCall (fun _ _ => 0) ⟨#[],#[.slice none 0 0,.slice none 0 0,.int .i64 0],[]⟩).memory Try.f4.params.toList Rows.isoSameSpec.vars false #[Value.slice none 0 0,Value.slice none 0 0,Value.int .i64 0].toList 8 = some ([.nil,.nil,.lit (.int .i64 0)],[],places) :=
  ⟨[],by kernel_rfl⟩

set_option maxRecDepth 100000 in
theorem lifted (os : Os) (started : os.Started) (H : Type) (enc : TypeId × Value → H) (F : Stop.Interp) :
    ReturnsInHanded {} Try.checked os 4 .any ((Rows.OpenSpec.upto Rows.isoSameSpec).preRow enc Try.prog Try.f4 Rows.isoSameUptoRow.domain false Rows.isoSameUptoRow.laid) (((Rows.OpenSpec.upto Rows.isoSameSpec).at F).post enc Try.prog Try.f4 false true false false) := by
  obtain ⟨places,hx⟩ := reads os enc
  refine returnsInHanded_of_row (C := Try.checked) (s := Rows.OpenSpec.upto Rows.isoSameSpec) own started (by kernel_rfl) Try.func4
    (witness_row_at (enc := enc) (C := Try.checked) false (World.holding Try.prog os ⟨#[],#[],[]⟩) #[.slice none 0 0,.slice none 0 0,.int .i64 0] rfl (by kernel_rfl) (by kernel_rfl) (by kernel_rfl)
      (OpenSpec.preRow_of_cond 8 hx (by kernel_rfl) (fun k hk => by cases hk;kernel_rfl) (by kernel_rfl) (laid os))) ?_
  intro W base args ds gs before hval hW _ hc _ hl hsh _
  exact contract H enc W base args ds gs before hval hW hsh (hc _ rfl)

theorem said : Rows.IsoSameUptoSaid :=
  OpenClaim.holds_of_cond 4 Try.f4 rfl rfl rfl rfl rfl rfl rfl ⟨rfl,rfl,rfl,rfl,rfl⟩ rfl rfl rfl rfl rfl (by kernel_rfl) Try.func4 (by kernel_rfl)
    (of_decide_eq_true (by kernel_rfl)) (by unfold Func.isWrapper;first | (rw [if_pos (by decide +kernel)];kernel_rfl) | (rw [if_neg (by decide +kernel)];exact ⟨rfl,rfl⟩))
    (fun os started H enc _ F => by rw [OpenClaim.pre_eq_preRow];exact lifted os started H enc F)
end Go.Proofs.Ytpficpldemickaa.isoSame
