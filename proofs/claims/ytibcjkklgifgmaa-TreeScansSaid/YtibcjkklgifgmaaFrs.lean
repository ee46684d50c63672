/- A call seen over some objects of the store. -/
import Derived.Test.YtibcjkklgifgmaaFlat
set_option linter.unusedVariables false
set_option linter.unusedSimpArgs false
set_option maxRecDepth 20000
set_option maxHeartbeats 20000000
namespace Go.Proofs.Ytibcjkklgifgmaa
open Go Go.Vm Go.Proofs
section
variable {P : Program} {G : Globals}
theorem jl_frs {ops : Array Oper} {i : Nat} {rest : List Nat} {o : Oper} {s : St} {K : St → Prop} {fo : Operand} {xs : Array Operand} {ts : Array TypeId} {f : FuncId} {fs ds cs args0 : List D} {σ0 : Store} {R : D → Store → Prop} (ρ : List Nat)
    (ho : ops[i]? = some o) (hw : wantedD ops s.sl o = some true) (hc : o.op = .call { callee := .value fo, args := xs, argTypes := ts }) (hf : ev G s.sl fo = some (.fn (.func f) fs cs)) (hx : evs G s.sl xs.toList = some ds)
    (h : FC P G f args0 σ0 R) (hargs : fs ++ ds ++ cs = renL (rho ρ s.σ.length) args0) (hσ : ρ.map (fun j => s.σ[j]?) = σ0.map (fun x => some (renS (rho ρ s.σ.length) x))) (hnd : ρ.Nodup) (hlt : ∀ j ∈ ρ, j < s.σ.length)
    (hb : BelL ρ.length args0) (hob : BelS ρ.length σ0)
    (hk : ∀ d0 σ0', R d0 σ0' → okC P G ops (regC P G ops rest (s.put o.dst (renD (rho ρ s.σ.length) d0) (glue ρ s.σ σ0'))) K) : JL P G ops (i :: rest) s K := by
  have hlen : σ0.length = ρ.length := by have := congrArg List.length hσ; simpa using this.symm
  refine jl_fc ho hw hc hf hx (R := fun d σ' => ∃ d0 σ0', R d0 σ0' ∧ ρ.length ≤ σ0'.length ∧ d = renD (rho ρ s.σ.length) d0 ∧ σ' = glue ρ s.σ σ0') ?_ ?_
  · rw [hargs]
    refine fc_frame h ρ s.σ hb (fun i o hi => hob.get hi) hlen hnd hlt fun i j hj => ?_
    have h1 := congrArg (fun l : List (Option (Option Ob)) => l[i]?) hσ
    simp only [List.getElem?_map, hj, Option.map_some] at h1
    have hi : i < σ0.length := by rw [hlen]; exact (List.getElem?_eq_some_iff.1 hj).1
    rw [List.getElem?_eq_getElem hi] at h1 ⊢
    simpa using h1
  · rintro d σ' ⟨d0, σ0', h1, _, rfl, rfl⟩
    exact hk d0 σ0' h1
end
end Go.Proofs.Ytibcjkklgifgmaa
