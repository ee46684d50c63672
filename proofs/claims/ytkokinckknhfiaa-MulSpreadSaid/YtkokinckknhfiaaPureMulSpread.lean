/- Multiplication distributes over addition where nothing overflows: for all triples of 64-bit integers. No condition. -/
import Derived.Test.YtkokinckknhfiaaPMulSpreadx1
import Derived.Test.YtkokinckknhfiaaNum
namespace Go.Proofs.Ytkokinckknhfiaa.Pure
open Go.RowKit Go.Proofs.Ytkokinckknhfiaa.PMulSpread Go.Proofs.YtkokinckknhfiaaW.PrintWords Go.Proofs.YtkokinckknhfiaaW.PrintLast

theorem add_eq (a b : Int) (ha : -9223372036854775808 ≤ a ∧ a ≤ 9223372036854775807) (hb : -9223372036854775808 ≤ b ∧ b ≤ 9223372036854775807) :
    num_Add.f a b = some (if -9223372036854775808 ≤ a + b ∧ a + b ≤ 9223372036854775807 then (a + b, 0) else (0, 10)) := by
  unfold num_Add.f num_told_int.f
  rw [Num.add_fine a b ha hb]
  by_cases h : -9223372036854775808 ≤ a + b ∧ a + b ≤ 9223372036854775807
  · have e : wrap64 (a + b) = a + b := by unfold wrap64; omega
    simp [h, e]
  · simp [h]

theorem neg_eq (a : Int) (ha : -9223372036854775808 ≤ a ∧ a ≤ 9223372036854775807) :
    num_Neg.f a = some (if a = -9223372036854775808 then (0, 10) else (-a, 0)) := by
  unfold num_Neg.f num_told_int.f num_least_int.f
  have e0 : wrap64 (1 * 9223372036854775808) = -9223372036854775808 := by unfold wrap64; omega
  simp only [e0, Option.bind_some]
  by_cases h : a = -9223372036854775808
  · simp [h]
  · have e : wrap64 (-a) = -a := by unfold wrap64; omega
    simp [h, e]

theorem mul_eq (k : Nat) (a b : Int) (ha : -9223372036854775808 ≤ a ∧ a ≤ 9223372036854775807) (hb : -9223372036854775808 ≤ b ∧ b ≤ 9223372036854775807) :
    num_Mul.f (k + 1) a b = some (if -9223372036854775808 ≤ a * b ∧ a * b ≤ 9223372036854775807 then (a * b, 0) else (0, 10)) := by
  unfold num_Mul.f
  by_cases a0 : a = 0
  · subst a0; simp [num_Mul.j0]
  by_cases b0 : b = 0
  · subst b0; simp [num_Mul.j0]
  rw [if_neg a0]
  simp only [num_Mul.j0]
  have b0' : (b == 0) = false := by simpa using b0
  rw [b0', if_neg (by simp)]
  by_cases a1 : a = -1
  · subst a1
    rw [if_pos rfl, neg_eq b hb]
    have e : -1 * b = -b := by omega
    rw [e]
    by_cases h : b = -9223372036854775808
    · subst h; simp
    · have h2 : -9223372036854775808 ≤ -b ∧ -b ≤ 9223372036854775807 := by omega
      simp [h, h2]
  rw [if_neg a1]
  by_cases b1 : b = -1
  · subst b1
    rw [if_pos rfl, neg_eq a ha]
    have e : a * -1 = -a := by omega
    rw [e]
    by_cases h : a = -9223372036854775808
    · subst h; simp
    · have h2 : -9223372036854775808 ≤ -a ∧ -a ≤ 9223372036854775807 := by omega
      simp [h, h2]
  rw [if_neg b1, if_neg b0, Num.mul_fine a b b0 b1 ha hb]
  unfold num_told_int.f
  by_cases h : -9223372036854775808 ≤ a * b ∧ a * b ≤ 9223372036854775807
  · have e : wrap64 (a * b) = a * b := by unfold wrap64; omega
    simp [h, e]
  · simp [h]

theorem MulSpread : commonholdkeep_MulSpread.Pure := by
  intro a b c wa wb wc
  have ha := bounds_i64 wa
  have hb := bounds_i64 wb
  have hc := bounds_i64 wc
  refine ⟨3, ?_⟩
  unfold commonholdkeep_MulSpread.f
  rw [add_eq b c hb hc, mul_eq 2 a b ha hb, mul_eq 2 a c ha hc, mul_eq 2 1 b (by omega) hb]
  have h1 : -9223372036854775808 ≤ 1 * b ∧ 1 * b ≤ 9223372036854775807 := by omega
  rw [if_pos h1]
  have e1 : 1 * b = b := by omega
  simp only [Option.bind_some, e1, if_true]
  by_cases hs : -9223372036854775808 ≤ b + c ∧ b + c ≤ 9223372036854775807
  · by_cases hx : -9223372036854775808 ≤ a * b ∧ a * b ≤ 9223372036854775807
    · by_cases hy : -9223372036854775808 ≤ a * c ∧ a * c ≤ 9223372036854775807
      · rw [if_pos hs, if_pos hx, if_pos hy]
        simp only [commonholdkeep_MulSpread.j0, commonholdkeep_MulSpread.j1, if_true]
        rw [mul_eq 0 a (b + c) ha hs, add_eq (a * b) (a * c) hx hy, Int.mul_add]
        simp
      · rw [if_neg hy]; simp [commonholdkeep_MulSpread.j0, commonholdkeep_MulSpread.j1]
    · rw [if_neg hx]; simp [commonholdkeep_MulSpread.j0, commonholdkeep_MulSpread.j1]
  · rw [if_neg hs]; simp [commonholdkeep_MulSpread.j0, commonholdkeep_MulSpread.j1]

end Go.Proofs.Ytkokinckknhfiaa.Pure
