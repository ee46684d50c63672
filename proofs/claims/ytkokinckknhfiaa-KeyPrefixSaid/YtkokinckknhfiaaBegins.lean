/- begins. -/
import Derived.Test.YtkokinckknhfiaaSameBytes
namespace Go.Proofs.Ytkokinckknhfiaa
open Go Go.Vm Go.Proofs

theorem begins (a b : List Int) (ha : a.length ≤ 1000000) (hb : b.length ≤ 1000000) : FV Try.prog [] 13 [bytesD a, bytesD b] (fun r => r = .bool (decide (b <+: a))) := by
  refine fv_enter Try.func13 rfl rfl fun Q hQ => ?_
  ((repeat refine jw_seq_k fun K hK => ?_); refine jw_reg ?_; simp [Try.f13]; (first | (apply hK; clear hK) | (clear hK; apply hK; clear hK) | (clear hK; clear hK; apply hK; clear hK) | (clear hK; clear hK; clear hK; apply hK; clear hK) | (clear hK; clear hK; clear hK; clear hK; apply hK; clear hK) | (clear hK; clear hK; clear hK; clear hK; clear hK; apply hK; clear hK) | (clear hK; clear hK; clear hK; clear hK; clear hK; clear hK; apply hK; clear hK)))
  (refine jw_seq_k fun K hK => ?_)
  refine jw_c ?_
  by_cases h : b.length ≤ a.length
  · simp [h]
    refine jl_call (f := 26) rfl rfl rfl rfl rfl (by simpa [Nat.min_eq_left h] using sameBytes (a.take b.length) b (by simp; omega)) (by simp [BelL, Bel]) ?_
    rintro r rfl
    simp
    (first | (apply hK; clear hK) | (clear hK; apply hK; clear hK) | (clear hK; clear hK; apply hK; clear hK) | (clear hK; clear hK; clear hK; apply hK; clear hK) | (clear hK; clear hK; clear hK; clear hK; apply hK; clear hK) | (clear hK; clear hK; clear hK; clear hK; clear hK; apply hK; clear hK) | (clear hK; clear hK; clear hK; clear hK; clear hK; clear hK; apply hK; clear hK))
    refine jw_ret (hQ _ _ (.inr rfl) ⟨5, _, _, rfl, rfl, ?_⟩)
    simp only [List.prefix_iff_eq_take]
    congr 2
    simp [eq_comm]
  · simp [h]
    (first | (apply hK; clear hK) | (clear hK; apply hK; clear hK) | (clear hK; clear hK; apply hK; clear hK) | (clear hK; clear hK; clear hK; apply hK; clear hK) | (clear hK; clear hK; clear hK; clear hK; apply hK; clear hK) | (clear hK; clear hK; clear hK; clear hK; clear hK; apply hK; clear hK) | (clear hK; clear hK; clear hK; clear hK; clear hK; clear hK; apply hK; clear hK))
    refine jw_ret (hQ _ _ (.inr rfl) ⟨5, _, _, rfl, rfl, ?_⟩)
    have : ¬ b <+: a := fun h' => h h'.length_le
    simp [this]

end Go.Proofs.Ytkokinckknhfiaa
