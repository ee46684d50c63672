/- The end of a function, where an object is told by value first. -/
import Derived.Test.YtibcjkklgifgmaaVmFacts
set_option linter.unusedVariables false
set_option linter.unusedSimpArgs false
set_option maxRecDepth 20000
set_option maxHeartbeats 20000000
namespace Go.Proofs.Ytibcjkklgifgmaa
open Go Go.Vm Go.Proofs
section
variable {P : Program} {G : Globals} {n0 : Nat}
def okRetF (l : Nat) (cs : List D) (k : Nat) (fn : Func) (P : Program) (s : St) (R : D → Store → Prop) : Prop := match retD fn P s with
  | some d => k ≤ (thS l cs s.σ).length ∧ Bel k (thD l cs d) ∧ BelS k ((thS l cs s.σ).take k) ∧ R (thD l cs d) ((thS l cs s.σ).take k)
  | none => False
theorem ret_okF (l k : Nat) {cs : List D} {fn : Func} {s : St} {R : D → Store → Prop} (hl : s.σ[l]? = some (some (.c cs))) (hp : BelL 0 cs) (h : okRetF l cs k fn P s R) (h0 : n0 ≤ k) : ∃ d, retD fn P s = some d ∧ ∃ d' σ', View P G n0 ⟨[d], s.σ⟩ ⟨[d'], σ'⟩ ∧ R d' σ' := by
  unfold okRetF at h
  split at h
  · rename_i d hd
    exact ⟨d, hd, thD l cs d, _, (view_frz (s := ⟨[d], s.σ⟩) l cs hl hp).trans (view_retN k h0 h.1 h.2.1 h.2.2.1), h.2.2.2⟩
  · exact h.elim
end
end Go.Proofs.Ytibcjkklgifgmaa
