/- Lists of truth values. -/
import Derived.Test.YtkokinckknhfiaaKleene
set_option linter.unusedVariables false
set_option linter.unusedSimpArgs false
set_option maxRecDepth 20000
set_option maxHeartbeats 1000000
namespace Go.Proofs.Ytkokinckknhfiaa
open Go Go.Vm Go.Proofs

/-- Least and greatest. -/
theorem foldl_min_le : ∀ (l : List Int) (c : Int), l.foldl min c ≤ c ∧ ∀ x ∈ l, l.foldl min c ≤ x
  | [], c => ⟨Int.le_refl _, by simp⟩
  | y :: l, c => by
    obtain ⟨h1, h2⟩ := foldl_min_le l (min c y)
    simp only [List.foldl_cons]
    refine ⟨by omega, fun x hx => ?_⟩
    rcases List.mem_cons.1 hx with rfl | hx
    · omega
    · exact h2 x hx
theorem foldl_min_mem : ∀ (l : List Int) (c : Int), l.foldl min c = c ∨ l.foldl min c ∈ l
  | [], c => .inl rfl
  | y :: l, c => by
    simp only [List.foldl_cons]
    rcases foldl_min_mem l (min c y) with h | h
    · by_cases hy : c ≤ y
      · left; rw [h]; omega
      · right; rw [h]; simp; left; omega
    · right; simp [h]
theorem foldl_max_le : ∀ (l : List Int) (c : Int), c ≤ l.foldl max c ∧ ∀ x ∈ l, x ≤ l.foldl max c
  | [], c => ⟨Int.le_refl _, by simp⟩
  | y :: l, c => by
    obtain ⟨h1, h2⟩ := foldl_max_le l (max c y)
    simp only [List.foldl_cons]
    refine ⟨by omega, fun x hx => ?_⟩
    rcases List.mem_cons.1 hx with rfl | hx
    · omega
    · exact h2 x hx
theorem foldl_max_mem : ∀ (l : List Int) (c : Int), l.foldl max c = c ∨ l.foldl max c ∈ l
  | [], c => .inl rfl
  | y :: l, c => by
    simp only [List.foldl_cons]
    rcases foldl_max_mem l (max c y) with h | h
    · by_cases hy : y ≤ c
      · left; rw [h]; omega
      · right; rw [h]; simp; left; omega
    · right; simp [h]
def three (l : List Int) : Prop := ∀ x ∈ l, 0 ≤ x ∧ x ≤ 2
theorem foldD_three {op : Int → Int → Int} {c : Int} {l : List Int} (h : three l) : foldD op c l = .tup [.int .i64 (l.foldl op c), .int .i64 0] := by
  unfold foldD
  rw [if_neg]
  simp only [List.any_eq_true, not_exists, not_and]
  intro x hx h1
  have := h x hx
  simp [odd3] at h1; omega

end Go.Proofs.Ytkokinckknhfiaa
