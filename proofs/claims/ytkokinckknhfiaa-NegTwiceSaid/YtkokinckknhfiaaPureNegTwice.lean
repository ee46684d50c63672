/- Negating twice restores the number, and a - b is the negative of b - a, where these do not run over: for all pairs of 64-bit integers. No condition. -/
import Derived.Test.YtkokinckknhfiaaPNegTwicex1
import Derived.Test.YtkokinckknhfiaaNum
namespace Go.Proofs.Ytkokinckknhfiaa.Pure
open Go.RowKit Go.Proofs.Ytkokinckknhfiaa.PNegTwice Go.Proofs.YtkokinckknhfiaaW.PrintWords Go.Proofs.YtkokinckknhfiaaW.PrintLast

theorem sub_eq (a b : Int) (ha : -9223372036854775808 ≤ a ∧ a ≤ 9223372036854775807) (hb : -9223372036854775808 ≤ b ∧ b ≤ 9223372036854775807) :
    num_Sub.f a b = some (if -9223372036854775808 ≤ a - b ∧ a - b ≤ 9223372036854775807 then (a - b, 0) else (0, 10)) := by
  unfold num_Sub.f num_told_int.f
  rw [Num.sub_fine a b ha hb]
  by_cases h : -9223372036854775808 ≤ a - b ∧ a - b ≤ 9223372036854775807
  · have e : wrap64 (a - b) = a - b := by unfold wrap64; omega
    simp [h, e]
  · simp [h]

theorem neg_eq (a : Int) (ha : -9223372036854775808 ≤ a ∧ a ≤ 9223372036854775807) :
    num_Neg.f a = some (if a = -9223372036854775808 then (0, 10) else (-a, 0)) := by
  unfold num_Neg.f num_told_int.f num_least_int.f
  have e0 : wrap64 (1 * 9223372036854775808) = -9223372036854775808 := by unfold wrap64; omega
  simp only [e0, Option.bind_some]
  by_cases h : a = -9223372036854775808
  · simp [h]
  · have e : wrap64 (-a) = -a := by unfold wrap64; omega
    simp [h, e]

theorem NegTwice : commonholdkeep_NegTwice.Pure := by
  intro a b wa wb
  have ha := bounds_i64 wa
  have hb := bounds_i64 wb
  refine ⟨1, ?_⟩
  have hj : commonholdkeep_NegTwice.j0 1 a b = some true := by
    simp only [commonholdkeep_NegTwice.j0]
    rw [sub_eq a b ha hb, sub_eq b a hb ha]
    by_cases h1 : -9223372036854775808 ≤ a - b ∧ a - b ≤ 9223372036854775807
    · by_cases h2 : -9223372036854775808 ≤ b - a ∧ b - a ≤ 9223372036854775807
      · rw [if_pos h1, if_pos h2]
        simp only [Option.bind_some, if_true]
        rw [neg_eq (a - b) h1, if_neg (by omega)]
        simp; omega
      · rw [if_pos h1, if_neg h2]; simp
    · rw [if_neg h1]; split <;> simp
  unfold commonholdkeep_NegTwice.f
  rw [neg_eq a ha]
  by_cases h : a = -9223372036854775808
  · simp only [if_pos h, Option.bind_some, hj]; simp
  · simp only [if_neg h, Option.bind_some, if_true]
    rw [neg_eq (-a) (by omega), if_neg (by omega)]
    simp [hj]

end Go.Proofs.Ytkokinckknhfiaa.Pure
