import Derived.Test.YtpficpldemickaaLawS
set_option linter.unusedSimpArgs false
set_option linter.unusedVariables false
namespace Go.Proofs.Ytpficpldemickaa
open Go.RowKit
section
variable {H : Type} {enc : TypeId × Value → H} {P : Program} {w : World}
theorem bulk_pos (d : DataW H) : 1 ≤ Rows.uptoBulk d := by
  cases d with
  | lit l => cases l <;> simp [Rows.uptoBulk]
  | _ => simp [Rows.uptoBulk]
theorem bulk_len : ∀ l : List (DataW H),l.length ≤ Rows.uptoBulkAll l
  | [] => by simp
  | d :: r => by
    have h1 := bulk_pos d
    have h2 := bulk_len r
    rw [Rows.uptoBulkAll,List.length_cons];omega
theorem arg_slice_upto {t e : TypeId} {r : Reach} {b0 : Nat} {v : Value} {d : DataW H} {ps : List MemPlace} {α : Type} {ok : α → Prop} {E : α → LV} {len : α → Nat} (hlen : ∀ a,∃ cs,E a = .sl (len a) cs .no) (ht : P.underlying t = some (.slice e)) (hO : Opens enc P w t ok (fun a => [E a])) (hval : Value.okWide P w r b0 t v) (hd : DataW.Trod enc P w 0 (fun _ => true) true t v d ps) :
    ∃ a,(ok a ∧ len a ≤ Rows.uptoBulk d) ∧ Rep P w (bareGh (allS w)) (E a) v := by
  obtain ⟨a,ha,hr⟩ := arg_slice ht hO hval hd
  refine ⟨a,⟨ha,?_⟩,hr⟩
  obtain ⟨fuel,hf⟩ := hd
  obtain ⟨cs,hE⟩ := hlen a
  rw [hE] at hr
  rcases Go.Deep.open_slice ht hf with ⟨hv,hx⟩ | ⟨a0,n,cap,m,n2,D,Pl,hv,_,hl,hm,hmm,hx,hel⟩
  · have hv2 : v = .slice none 0 0 := by
      rcases hr.inv_no with ⟨p,cap,rfl,_⟩ | ⟨b,off,cap,rfl,_⟩
      · simpa [Value.cells] using hv
      · simp [Value.cells] at hv
    rcases hr.inv_no with ⟨p,cap,_,h0,_⟩ | ⟨b,off,cap,rfl,_⟩
    · omega
    · cases hv2
  · have hv2 : v = .slice (some a0) n cap := by
      rcases hr.inv_no with ⟨p,cap,rfl,_⟩ | ⟨b,off,cap,rfl,_⟩
      · simpa [Value.cells] using hv
      · simpa [Value.cells] using hv
    have hn : len a = n := by
      rcases hr.inv_no with ⟨p,cap2,h1,h0,_⟩ | ⟨b,off,cap2,h1,_⟩
      · rw [h1] at hv2;cases hv2;exact h0
      · rw [h1] at hv2;cases hv2;rfl
    have hd2 : d = .slice ((List.range n).map D) ((List.range (m - n)).map fun j => D (n + j)) := congrArg Prod.fst hx
    rw [hd2,hn,Rows.uptoBulk]
    have := bulk_len ((List.range n).map D)
    rw [List.length_map,List.length_range] at this
    omega
end
end Go.Proofs.Ytpficpldemickaa
