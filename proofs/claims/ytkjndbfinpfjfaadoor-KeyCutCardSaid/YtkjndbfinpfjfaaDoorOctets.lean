/- Octets: a copy, no longer than told. -/
import Derived.Test.YtkjndbfinpfjfaaDoorVmFacts
set_option linter.unusedVariables false
set_option linter.unusedSimpArgs false
set_option maxRecDepth 20000
set_option maxHeartbeats 20000000
namespace Go.Proofs.YtkjndbfinpfjfaaDoor
open Go Go.Vm Go.Proofs

theorem octets {G : Globals} (l : List Int) (n : Nat) (hl : l.length ≤ 140737488355328) (hn : n ≤ 9223372036854775807) : FV Tryd.prog G 18 [bytesD l, .int .i64 n] (fun r => r = bytesD (l.take n)) := by
  refine fv_enter Tryd.func18 rfl rfl fun Q hQ => ?_
  ((repeat refine jw_seq_k fun K hK => ?_); refine jw_reg ?_; simp (maxSteps := 1000000) [Tryd.f18]; (first | (apply hK; clear hK) | (clear hK; apply hK; clear hK) | (clear hK; clear hK; apply hK; clear hK) | (clear hK; clear hK; clear hK; apply hK; clear hK) | (clear hK; clear hK; clear hK; clear hK; apply hK; clear hK) | (clear hK; clear hK; clear hK; clear hK; clear hK; apply hK; clear hK) | (clear hK; clear hK; clear hK; clear hK; clear hK; clear hK; apply hK; clear hK)))
  ((repeat refine jw_seq_k fun K hK => ?_); refine jw_reg ?_; simp (maxSteps := 1000000); (first | (apply hK; clear hK) | (clear hK; apply hK; clear hK) | (clear hK; clear hK; apply hK; clear hK) | (clear hK; clear hK; clear hK; apply hK; clear hK) | (clear hK; clear hK; clear hK; clear hK; apply hK; clear hK) | (clear hK; clear hK; clear hK; clear hK; clear hK; apply hK; clear hK) | (clear hK; clear hK; clear hK; clear hK; clear hK; clear hK; apply hK; clear hK)))
  (repeat refine jw_seq_k fun K hK => ?_); refine jw_cond rfl (fun ht => ?_) (fun ht => ?_)
  · simp at ht
    have h1 : n ≤ l.length := by omega
    ((repeat refine jw_seq_k fun K hK => ?_); refine jw_reg ?_; simp (maxSteps := 1000000) [h1])
    (first | (apply hK; clear hK) | (clear hK; apply hK; clear hK) | (clear hK; clear hK; apply hK; clear hK) | (clear hK; clear hK; clear hK; apply hK; clear hK) | (clear hK; clear hK; clear hK; clear hK; apply hK; clear hK) | (clear hK; clear hK; clear hK; clear hK; clear hK; apply hK; clear hK) | (clear hK; clear hK; clear hK; clear hK; clear hK; clear hK; apply hK; clear hK))
    ((repeat refine jw_seq_k fun K hK => ?_); refine jw_reg ?_; simp (maxSteps := 1000000) [Nat.min_eq_left h1, show n ≤ 140737488355328 by omega]; (first | (apply hK; clear hK) | (clear hK; apply hK; clear hK) | (clear hK; clear hK; apply hK; clear hK) | (clear hK; clear hK; clear hK; apply hK; clear hK) | (clear hK; clear hK; clear hK; clear hK; apply hK; clear hK) | (clear hK; clear hK; clear hK; clear hK; clear hK; apply hK; clear hK) | (clear hK; clear hK; clear hK; clear hK; clear hK; clear hK; apply hK; clear hK)))
    (repeat refine jw_seq_k fun K hK => ?_); refine jw_ret (hQ _ _ (.inr rfl) ⟨5, _, _, rfl, frz_nums (xs := l.take n) rfl ?_ ?_ ?_, rfl⟩) <;> simp <;> omega
  · simp at ht
    (refine jw_skip ?_; simp; (first | (apply hK; clear hK) | (clear hK; apply hK; clear hK) | (clear hK; clear hK; apply hK; clear hK) | (clear hK; clear hK; clear hK; apply hK; clear hK) | (clear hK; clear hK; clear hK; clear hK; apply hK; clear hK) | (clear hK; clear hK; clear hK; clear hK; clear hK; apply hK; clear hK) | (clear hK; clear hK; clear hK; clear hK; clear hK; clear hK; apply hK; clear hK)))
    ((repeat refine jw_seq_k fun K hK => ?_); refine jw_reg ?_; simp (maxSteps := 1000000) [hl]; (first | (apply hK; clear hK) | (clear hK; apply hK; clear hK) | (clear hK; clear hK; apply hK; clear hK) | (clear hK; clear hK; clear hK; apply hK; clear hK) | (clear hK; clear hK; clear hK; clear hK; apply hK; clear hK) | (clear hK; clear hK; clear hK; clear hK; clear hK; apply hK; clear hK) | (clear hK; clear hK; clear hK; clear hK; clear hK; clear hK; apply hK; clear hK)))
    (repeat refine jw_seq_k fun K hK => ?_); refine jw_ret (hQ _ _ (.inr rfl) ⟨5, _, _, rfl, frz_nums rfl rfl rfl rfl, ?_⟩)
    rw [List.take_of_length_le ht]
end Go.Proofs.YtkjndbfinpfjfaaDoor
