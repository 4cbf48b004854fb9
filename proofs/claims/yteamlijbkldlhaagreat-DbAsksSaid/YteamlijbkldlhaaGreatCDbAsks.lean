/-
  steamerlaw's statement steamerlaw20.DbAsks: whatever comes in, the call returns true and turns nothing that was there. Conditions: those of the given row alone.
-/
import Derived.Test.YteamlijbkldlhaaGreatKDZ
import Derived.Test.YteamlijbkldlhaaGreatORec
import Derived.Test.YteamlijbkldlhaaGreatLawS
set_option linter.unusedSimpArgs false
set_option linter.unusedVariables false
namespace Go.Proofs.YteamlijbkldlhaaGreat.dbAsks
open Go.ChangeShapes Go.WideShapes Go.ChangeAt Go.RowKit Go.Proofs

set_option maxRecDepth 100000 in
theorem contract (H : Type) (enc : TypeId × Value → H) (W : World) (base : Nat) (args : Array Value) (ds gs : List (DataW H)) (before : List MemPlace)
    (hval : ∀ (j : Nat) t v,Tryz.f4.params[j]? = some t → args[j]? = some v → Value.okWide Tryz.prog W .any base t v)
    (hW : DataW.Whole enc Tryz.prog Tryz.f4.params.toList Rows.dbAsksSpec.vars false W args.toList ds gs before) (hsh : W.ShapedOpen Tryz.prog) :
    Calls Tryz.prog 4 args W fun e W' => ∃ v,e = .returned v ∧ Rows.dbAsksSpec.post enc Tryz.prog Tryz.f4 false true false false W args v W' := by
  have hW' := hW
  have hglob : Glob Tryz.prog W := glob_shaped hsh
  obtain ⟨p,q,hA0,hV,rfl,hfz,hnd⟩ := hW
  have hA : DataW.TrodAll enc Tryz.prog W 0 (fun _ => true) true Tryz.f4.params.toList args.toList ds p := hA0
  rw [Tryz.params4] at hA hval
  obtain ⟨v0,vs0,d0,ds0,p0,q0,hargs,rfl,rfl,h0,r0⟩ := trodAll_cons hA
  obtain ⟨rfl,rfl,rfl⟩ := trodAll_nil r0
  obtain rfl : args = #[v0] := by cases args;simp_all
  obtain ⟨a0,ha0,e0⟩ := arg_slice Tryz.underlying23 (opens_recs) (hval 0 23 v0 rfl rfl) h0
  obtain ⟨rfl,rfl⟩ := trodVars_none hV
  refine (callsTrue (vs := [v0]) (dbAsks_L a0 ha0.1 (fun r hr => (ha0.2 r hr).1.1)) hglob ⟨e0,trivial⟩).mono fun e W' ⟨he,hg⟩ => ?_
  subst he
  refine ⟨_,rfl,law_post rfl rfl rfl ?_ hW' hg⟩
  rw [Tryz.params4]
  intro t ht
  simp only [List.mem_cons,List.not_mem_nil,or_false] at ht
  obtain rfl := ht
  exact ⟨by kernel_rfl,of_decide_eq_true (by kernel_rfl)⟩

theorem laid (os : Os) : laidMet Tryz.prog Rows.dbAsksRow.laid (((World.holding Tryz.prog os ⟨#[],#[],[]⟩)).forCall (fun _ _ => 0) ⟨#[],#[.slice none 0 0],[]⟩).memory :=
  laidMet_of_run' 8 (by kernel_rfl) (by kernel_rfl)
theorem reads (os : Os) {H : Type} (enc : TypeId × Value → H) : ∃ places,DataW.whole enc Tryz.prog (((World.holding Tryz.prog os ⟨#[],#[],[]⟩)).forCall (fun _ _ => 0) ⟨#[],#[.slice none 0 0],[]⟩).memory Tryz.f4.params.toList Rows.dbAsksSpec.vars false #[Value.slice none 0 0].toList 8 = some ([.nil],[],places) :=
  ⟨[],by kernel_rfl⟩

set_option maxRecDepth 100000 in
theorem lifted (os : Os) (started : os.Started) (H : Type) (enc : TypeId × Value → H) (F : Stop.Interp) :
    ReturnsInHanded {} Tryz.checked os 4 .any ((OpenSpec.ofChange Rows.dbAsksSpec).preRow enc Tryz.prog Tryz.f4 Rows.dbAsksRow.domain false Rows.dbAsksRow.laid) (((OpenSpec.ofChange Rows.dbAsksSpec).at F).post enc Tryz.prog Tryz.f4 false true false false) := by
  obtain ⟨places,hx⟩ := reads os enc
  refine returnsInHanded_of_row (C := Tryz.checked) (s := OpenSpec.ofChange Rows.dbAsksSpec) own started (by kernel_rfl) Tryz.func4
    (witness_row_at (enc := enc) (C := Tryz.checked) false (World.holding Tryz.prog os ⟨#[],#[],[]⟩) #[.slice none 0 0] rfl (by kernel_rfl) (by kernel_rfl) (by kernel_rfl)
      (OpenSpec.preRow_of_cond 8 hx (by kernel_rfl) (fun k hk => by cases hk) (by kernel_rfl) (laid os))) ?_
  intro W base args ds gs before hval hW _ _ _ hl hsh _
  exact contract H enc W base args ds gs before hval hW hsh

theorem said : Rows.DbAsksSaid :=
  OpenClaim.holds_of_cond 4 Tryz.f4 rfl rfl rfl rfl rfl rfl rfl ⟨rfl,rfl,rfl,rfl,rfl⟩ rfl rfl rfl rfl rfl (by kernel_rfl) Tryz.func4 (by kernel_rfl)
    (of_decide_eq_true (by kernel_rfl)) (by unfold Func.isWrapper;first | (rw [if_pos (by decide +kernel)];kernel_rfl) | (rw [if_neg (by decide +kernel)];exact ⟨rfl,rfl⟩))
    (fun os started H enc _ F => by rw [OpenClaim.pre_eq_preRow];exact lifted os started H enc F)
end Go.Proofs.YteamlijbkldlhaaGreat.dbAsks
