/- How the rows read a list of tasks. -/
import Derived.Test.YtkjliaapdjapmaaUnitPure
import Derived.Test.YtkjliaapdjapmaaVmRow
set_option linter.unusedVariables false
set_option linter.unusedSimpArgs false
set_option maxRecDepth 20000
set_option maxHeartbeats 20000000
namespace Go.Proofs.Ytkjliaapdjapmaa
open Go Go.Vm Go.Proofs

theorem okCells_flat {α : Type} {f : α → List D} {σ : Store} (h : ∀ x, okCells σ (f x) = true) : ∀ l : List α, okCells σ (l.flatMap f) = true
  | [] => rfl
  | x :: l => by rw [List.flatMap_cons, okCells_append, h x, okCells_flat h l]; rfl
@[simp] theorem okCells_jobs (σ : Store) (l : List Job) : okCells σ (l.flatMap jobC) = true := okCells_flat (fun _ => rfl) l
@[simp] theorem okCells_rps (σ : Store) (l : List Rp) : okCells σ (l.flatMap rpC) = true := okCells_flat (fun _ => rfl) l

abbrev BytesP : List D → Prop := fun ds => ∃ ls, Vm.Rows (fun ds => ∃ n, (Lit.int .u8 n).wf = true ∧ ds = [.int .u8 n]) ls ∧ ls.length * 1 ≤ 140737488351232 ∧ ls.length ≤ 9223372036854775807 ∧ ds = [.sl false ls.flatten ls.length]
abbrev IntP : List D → Prop := fun ds => ∃ n, (Lit.int .i64 n).wf = true ∧ ds = [.int .i64 n]
abbrev TaskP : List (List D → Prop) := [IntP, IntP, IntP, BytesP]
theorem bytes_of {ds : List D} (h : BytesP ds) : ∃ l : List Int, (∀ n ∈ l, (Lit.int .u8 n).wf = true) ∧ l.length ≤ 140737488351232 ∧ ds = [bytesD l] := by
  obtain ⟨ls, h1, h2, h3, rfl⟩ := h
  obtain ⟨l, k1, k2, k3⟩ := rows_ints h1
  exact ⟨l, k1, by omega, by rw [k2, k3]; rfl⟩
theorem tasks_of : ∀ {ls : List (List D)}, Vm.Rows (Parts TaskP) ls → ∃ l : List Task, (∀ t ∈ l, t.data.length ≤ 140737488351232) ∧ ls.flatten = l.flatMap taskC ∧ ls.length = l.length
  | [], _ => ⟨[], by simp, rfl, rfl⟩
  | _ :: _, .cons _ ls h t => by
    obtain ⟨l, g1, g2, g3⟩ := tasks_of t
    obtain ⟨_, _, ⟨k, _, rfl⟩, ⟨_, _, ⟨a, _, rfl⟩, ⟨_, _, ⟨e, _, rfl⟩, ⟨_, _, hb, rfl, rfl⟩, rfl⟩, rfl⟩, rfl⟩ := h
    obtain ⟨b, _, b2, rfl⟩ := bytes_of hb
    refine ⟨⟨k, a, e, b⟩ :: l, ?_, ?_, by simp [g3]⟩
    · intro t ht
      rcases List.mem_cons.1 ht with rfl | ht
      · exact b2
      · exact g1 t ht
    · simp [taskC, g2]
end Go.Proofs.Ytkjliaapdjapmaa
