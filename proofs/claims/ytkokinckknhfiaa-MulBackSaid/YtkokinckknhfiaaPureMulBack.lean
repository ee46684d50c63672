/- A product is divisible by each of its factors without remainder: for all pairs of 64-bit integers. No condition. -/
import Derived.Test.YtkokinckknhfiaaPMulBackx1
import Derived.Test.YtkokinckknhfiaaNum
namespace Go.Proofs.Ytkokinckknhfiaa.Pure
open Go.RowKit Go.Proofs.Ytkokinckknhfiaa.PMulBack Go.Proofs.YtkokinckknhfiaaW.PrintWords Go.Proofs.YtkokinckknhfiaaW.PrintLast

theorem neg_eq (a : Int) (ha : -9223372036854775808 ≤ a ∧ a ≤ 9223372036854775807) :
    num_Neg.f a = some (if a = -9223372036854775808 then (0, 10) else (-a, 0)) := by
  unfold num_Neg.f num_told_int.f num_least_int.f
  have e0 : wrap64 (1 * 9223372036854775808) = -9223372036854775808 := by unfold wrap64; omega
  simp only [e0, Option.bind_some]
  by_cases h : a = -9223372036854775808
  · simp [h]
  · have e : wrap64 (-a) = -a := by unfold wrap64; omega
    simp [h, e]

theorem mul_eq (k : Nat) (a b : Int) (ha : -9223372036854775808 ≤ a ∧ a ≤ 9223372036854775807) (hb : -9223372036854775808 ≤ b ∧ b ≤ 9223372036854775807) :
    num_Mul.f (k + 1) a b = some (if -9223372036854775808 ≤ a * b ∧ a * b ≤ 9223372036854775807 then (a * b, 0) else (0, 10)) := by
  unfold num_Mul.f
  by_cases a0 : a = 0
  · subst a0; simp [num_Mul.j0]
  by_cases b0 : b = 0
  · subst b0; simp [num_Mul.j0]
  rw [if_neg a0]
  simp only [num_Mul.j0]
  have b0' : (b == 0) = false := by simpa using b0
  rw [b0', if_neg (by simp)]
  by_cases a1 : a = -1
  · subst a1
    rw [if_pos rfl, neg_eq b hb]
    have e : -1 * b = -b := by omega
    rw [e]
    by_cases h : b = -9223372036854775808
    · subst h; simp
    · have h2 : -9223372036854775808 ≤ -b ∧ -b ≤ 9223372036854775807 := by omega
      simp [h, h2]
  rw [if_neg a1]
  by_cases b1 : b = -1
  · subst b1
    rw [if_pos rfl, neg_eq a ha]
    have e : a * -1 = -a := by omega
    rw [e]
    by_cases h : a = -9223372036854775808
    · subst h; simp
    · have h2 : -9223372036854775808 ≤ -a ∧ -a ≤ 9223372036854775807 := by omega
      simp [h, h2]
  rw [if_neg b1, if_neg b0, Num.mul_fine a b b0 b1 ha hb]
  unfold num_told_int.f
  by_cases h : -9223372036854775808 ≤ a * b ∧ a * b ≤ 9223372036854775807
  · have e : wrap64 (a * b) = a * b := by unfold wrap64; omega
    simp [h, e]
  · simp [h]

theorem div_eq (a b : Int) (ha : -9223372036854775808 ≤ a ∧ a ≤ 9223372036854775807) (hb : -9223372036854775808 ≤ b ∧ b ≤ 9223372036854775807) :
    num_Div.f a b = some (if b = 0 then (0, 11) else if b = -1 then (if a = -9223372036854775808 then (0, 10) else (-a, 0)) else (Int.tdiv a b, 0)) := by
  unfold num_Div.f
  by_cases b0 : b = 0
  · simp [b0]
  by_cases b1 : b = -1
  · subst b1; rw [if_neg b0, if_pos rfl, neg_eq a ha]; simp
  have := Num.tdiv_bd a b b0 b1 ha
  have e : wrap64 (Int.tdiv a b) = Int.tdiv a b := by unfold wrap64; omega
  simp [b0, b1, e]
theorem mod_eq (a b : Int) : num_Mod.f a b = some (if b = 0 then (0, 11) else if b = -1 then (0, 0) else (Int.tmod a b, 0)) := by
  unfold num_Mod.f
  by_cases b0 : b = 0
  · simp [b0]
  by_cases b1 : b = -1
  · simp [b1]
  simp [b0, b1]

theorem MulBack : commonholdkeep_MulBack.Pure := by
  intro a b wa wb
  have ha := bounds_i64 wa
  have hb := bounds_i64 wb
  refine ⟨1, ?_⟩
  unfold commonholdkeep_MulBack.f
  rw [mul_eq 0 a b ha hb, mul_eq 0 b a hb ha, mul_eq 0 a 1 ha (by omega), Int.mul_comm b a, Int.mul_one, if_pos ha]
  by_cases h : -9223372036854775808 ≤ a * b ∧ a * b ≤ 9223372036854775807
  · rw [if_pos h]
    simp only [Option.bind_some, if_true, commonholdkeep_MulBack.j0]
    by_cases b0 : b = 0
    · simp [b0]
    rw [div_eq (a * b) b h hb, mod_eq (a * b) b]
    by_cases b1 : b = -1
    · subst b1
      have h9 : ¬ (a = 9223372036854775808) := by omega
      simp [h9]
    · rw [if_neg b0, if_neg b0, if_neg b1, if_neg b1, Int.mul_tdiv_cancel _ b0]
      have e : Int.tmod (a * b) b = 0 := Int.mul_tmod_left a b
      simp [b0, e]
  · rw [if_neg h]
    simp [commonholdkeep_MulBack.j0]

end Go.Proofs.Ytkokinckknhfiaa.Pure
