/- lessBytes: by the first that differs. -/
import Derived.Test.YtkjndbfinpfjfaaDoorVmFacts
set_option linter.unusedVariables false
set_option linter.unusedSimpArgs false
set_option maxRecDepth 20000
set_option maxHeartbeats 20000000
namespace Go.Proofs.YtkjndbfinpfjfaaDoor
open Go Go.Vm Go.Proofs

/-- By the first that differs. -/
def lex : List Int → List Int → Bool
  | _, [] => false
  | [], _ :: _ => true
  | x :: xs, y :: ys => if x = y then lex xs ys else decide (x < y)

theorem lex_drop {a b : List Int} {k : Nat} (ha : k < a.length) (hb : k < b.length) : lex (a.drop k) (b.drop k) = if a[k] = b[k] then lex (a.drop (k + 1)) (b.drop (k + 1)) else decide (a[k] < b[k]) := by
  rw [List.drop_eq_getElem_cons ha, List.drop_eq_getElem_cons hb]; rfl
theorem lex_short : ∀ {a b : List Int} {k : Nat}, (a.length ≤ k ∨ b.length ≤ k) → lex a b = lex a b → lex (a.drop k) (b.drop k) = decide (a.length ≤ k ∧ k < b.length) := by
  intro a b k h _
  rcases h with h | h
  · rw [List.drop_of_length_le h]
    by_cases hb : b.length ≤ k
    · rw [List.drop_of_length_le hb]; simp [lex, hb]
    · rw [List.drop_eq_getElem_cons (by omega)]; simp [lex, h]; omega
  · rw [List.drop_of_length_le h]
    have : ∀ l, lex l [] = false := by intro l; cases l <;> rfl
    rw [this]; simp; omega

theorem lessBytes {G : Globals} (a b : List Int) (ha : a.length ≤ 1000000) (hb : b.length ≤ 1000000) : FV Tryd.prog G 16 [bytesD a, bytesD b] (fun r => r = .bool (lex a b)) := by
  refine fv_enter Tryd.func16 rfl rfl fun Q hQ => ?_
  ((repeat refine jw_seq_k fun K hK => ?_); refine jw_reg ?_; simp (maxSteps := 1000000) [Tryd.f16]; (first | (apply hK; clear hK) | (clear hK; apply hK; clear hK) | (clear hK; clear hK; apply hK; clear hK) | (clear hK; clear hK; clear hK; apply hK; clear hK) | (clear hK; clear hK; clear hK; clear hK; apply hK; clear hK) | (clear hK; clear hK; clear hK; clear hK; clear hK; apply hK; clear hK) | (clear hK; clear hK; clear hK; clear hK; clear hK; clear hK; apply hK; clear hK)))
  ((repeat refine jw_seq_k fun K hK => ?_); refine jw_reg ?_; simp (maxSteps := 1000000); (first | (apply hK; clear hK) | (clear hK; apply hK; clear hK) | (clear hK; clear hK; apply hK; clear hK) | (clear hK; clear hK; clear hK; apply hK; clear hK) | (clear hK; clear hK; clear hK; clear hK; apply hK; clear hK) | (clear hK; clear hK; clear hK; clear hK; clear hK; apply hK; clear hK) | (clear hK; clear hK; clear hK; clear hK; clear hK; clear hK; apply hK; clear hK)))
  ((repeat refine jw_seq_k fun K hK => ?_); refine jw_block ?_)
  (repeat refine jw_seq_k fun K hK => ?_); refine jw_loop_k (fun n s => ∃ k : Nat, k ≤ a.length ∧ k ≤ b.length ∧ n = a.length - k ∧ lex a b = lex (a.drop k) (b.drop k) ∧ s = ⟨[bytesD a, bytesD b, .any, .any, .any, .int .i64 k] ++ List.replicate 35 .any, []⟩)
    (sl := [bytesD a, bytesD b, .any, .any, .any, .int .i64 (0 : Nat)] ++ List.replicate 35 .any) (by simp) ⟨0, by simp, by simp, rfl, by simp, rfl⟩ ?_
  rintro n s ⟨k, hk, hkb, rfl, hab, rfl⟩ KL hKL
  by_cases hc : k < a.length ∧ k < b.length
  · obtain ⟨hlt, hlb⟩ := hc
    ((repeat refine jw_seq_k fun K hK => ?_); refine jw_reg ?_; simp (maxSteps := 1000000) [hlt, hlb]; (first | (apply hK; clear hK) | (clear hK; apply hK; clear hK) | (clear hK; clear hK; apply hK; clear hK) | (clear hK; clear hK; clear hK; apply hK; clear hK) | (clear hK; clear hK; clear hK; clear hK; apply hK; clear hK) | (clear hK; clear hK; clear hK; clear hK; clear hK; apply hK; clear hK) | (clear hK; clear hK; clear hK; clear hK; clear hK; clear hK; apply hK; clear hK)))
    (repeat refine jw_seq_k fun K hK => ?_); refine jw_cond (t := true) rfl (fun _ => ?_) (fun h => by cases h)
    (refine jw_skip ?_; simp; (first | (apply hK; clear hK) | (clear hK; apply hK; clear hK) | (clear hK; clear hK; apply hK; clear hK) | (clear hK; clear hK; clear hK; apply hK; clear hK) | (clear hK; clear hK; clear hK; clear hK; apply hK; clear hK) | (clear hK; clear hK; clear hK; clear hK; clear hK; apply hK; clear hK) | (clear hK; clear hK; clear hK; clear hK; clear hK; clear hK; apply hK; clear hK)))
    ((repeat refine jw_seq_k fun K hK => ?_); refine jw_block ?_); ((repeat refine jw_seq_k fun K hK => ?_); refine jw_reg_draw mixed (by kernel_rfl) ?_; simp [hlt, hlb])
    (first | (apply hK; clear hK) | (clear hK; apply hK; clear hK) | (clear hK; clear hK; apply hK; clear hK) | (clear hK; clear hK; clear hK; apply hK; clear hK) | (clear hK; clear hK; clear hK; clear hK; apply hK; clear hK) | (clear hK; clear hK; clear hK; clear hK; clear hK; apply hK; clear hK) | (clear hK; clear hK; clear hK; clear hK; clear hK; clear hK; apply hK; clear hK))
    (repeat refine jw_seq_k fun K hK => ?_); refine jw_cond rfl (fun hne => ?_) (fun hne => ?_)
    · simp at hne
      (refine jw_seq_k fun K hK => ?_); ((repeat refine jw_seq_k fun K hK => ?_); refine jw_reg_draw mixed (by kernel_rfl) ?_; simp [hlt, hlb])
      (first | (apply hK; clear hK) | (clear hK; apply hK; clear hK) | (clear hK; clear hK; apply hK; clear hK) | (clear hK; clear hK; clear hK; apply hK; clear hK) | (clear hK; clear hK; clear hK; clear hK; apply hK; clear hK) | (clear hK; clear hK; clear hK; clear hK; clear hK; apply hK; clear hK) | (clear hK; clear hK; clear hK; clear hK; clear hK; clear hK; apply hK; clear hK))
      (repeat refine jw_seq_k fun K hK => ?_); refine jw_ret ?_
      simp
      refine hQ _ _ (.inr rfl) ⟨5, _, _, rfl, rfl, ?_⟩
      rw [hab, lex_drop hlt hlb, if_neg hne]
    · simp at hne
      (refine jw_skip ?_; simp; (first | (apply hK; clear hK) | (clear hK; apply hK; clear hK) | (clear hK; clear hK; apply hK; clear hK) | (clear hK; clear hK; clear hK; apply hK; clear hK) | (clear hK; clear hK; clear hK; clear hK; apply hK; clear hK) | (clear hK; clear hK; clear hK; clear hK; clear hK; apply hK; clear hK) | (clear hK; clear hK; clear hK; clear hK; clear hK; clear hK; apply hK; clear hK)))
      ((repeat refine jw_seq_k fun K hK => ?_); refine jw_reg ?_; simp (maxSteps := 1000000))
      have hw := wrap_succ hlt (by omega)
      refine hKL (a.length - (k + 1)) _ _ (by omega) ?_ ⟨k + 1, hlt, hlb, rfl, ?_, rfl⟩
      · simp [hw]
      · rw [hab, lex_drop hlt hlb, if_pos hne]
  · (refine jw_seq_k fun K hK => ?_); (refine jw_seq_k fun K hK => ?_)
    by_cases h1 : k < a.length
    all_goals
    ((repeat refine jw_seq_k fun K hK => ?_); refine jw_reg ?_; simp (maxSteps := 1000000) [h1])
    (first | (apply hK; clear hK) | (clear hK; apply hK; clear hK) | (clear hK; clear hK; apply hK; clear hK) | (clear hK; clear hK; clear hK; apply hK; clear hK) | (clear hK; clear hK; clear hK; clear hK; apply hK; clear hK) | (clear hK; clear hK; clear hK; clear hK; clear hK; apply hK; clear hK) | (clear hK; clear hK; clear hK; clear hK; clear hK; clear hK; apply hK; clear hK))
    (repeat refine jw_seq_k fun K hK => ?_); refine jw_cond (t := false) (by simp; try omega) (fun h => by cases h) (fun _ => ?_)
    (refine jw_exit ?_; simp; (first | (apply hK; clear hK) | (clear hK; apply hK; clear hK) | (clear hK; clear hK; apply hK; clear hK) | (clear hK; clear hK; clear hK; apply hK; clear hK) | (clear hK; clear hK; clear hK; clear hK; apply hK; clear hK) | (clear hK; clear hK; clear hK; clear hK; clear hK; apply hK; clear hK) | (clear hK; clear hK; clear hK; clear hK; clear hK; clear hK; apply hK; clear hK)))
    ((repeat refine jw_seq_k fun K hK => ?_); refine jw_reg ?_; simp (maxSteps := 1000000); (first | (apply hK; clear hK) | (clear hK; apply hK; clear hK) | (clear hK; clear hK; apply hK; clear hK) | (clear hK; clear hK; clear hK; apply hK; clear hK) | (clear hK; clear hK; clear hK; clear hK; apply hK; clear hK) | (clear hK; clear hK; clear hK; clear hK; clear hK; apply hK; clear hK) | (clear hK; clear hK; clear hK; clear hK; clear hK; clear hK; apply hK; clear hK)))
    (repeat refine jw_seq_k fun K hK => ?_); refine jw_ret (hQ _ _ (.inr rfl) ⟨5, _, _, rfl, rfl, ?_⟩)
    rw [hab, lex_short (by omega) rfl]
    congr 2
    simp
    omega
end Go.Proofs.YtkjndbfinpfjfaaDoor
