/- Quotient and remainder restore the dividend; the remainder is smaller than the divisor and has the sign of the dividend: for all pairs of 64-bit integers. No condition. -/
import Derived.Test.YtkokinckknhfiaaPDivWholex1
import Derived.Test.YtkokinckknhfiaaNum
namespace Go.Proofs.Ytkokinckknhfiaa.Pure
open Go.RowKit Go.Proofs.Ytkokinckknhfiaa.PDivWhole Go.Proofs.YtkokinckknhfiaaW.PrintWords Go.Proofs.YtkokinckknhfiaaW.PrintLast

theorem add_eq (a b : Int) (ha : -9223372036854775808 ≤ a ∧ a ≤ 9223372036854775807) (hb : -9223372036854775808 ≤ b ∧ b ≤ 9223372036854775807) :
    num_Add.f a b = some (if -9223372036854775808 ≤ a + b ∧ a + b ≤ 9223372036854775807 then (a + b, 0) else (0, 10)) := by
  unfold num_Add.f num_told_int.f
  rw [Num.add_fine a b ha hb]
  by_cases h : -9223372036854775808 ≤ a + b ∧ a + b ≤ 9223372036854775807
  · have e : wrap64 (a + b) = a + b := by unfold wrap64; omega
    simp [h, e]
  · simp [h]

theorem neg_eq (a : Int) (ha : -9223372036854775808 ≤ a ∧ a ≤ 9223372036854775807) :
    num_Neg.f a = some (if a = -9223372036854775808 then (0, 10) else (-a, 0)) := by
  unfold num_Neg.f num_told_int.f num_least_int.f
  have e0 : wrap64 (1 * 9223372036854775808) = -9223372036854775808 := by unfold wrap64; omega
  simp only [e0, Option.bind_some]
  by_cases h : a = -9223372036854775808
  · simp [h]
  · have e : wrap64 (-a) = -a := by unfold wrap64; omega
    simp [h, e]

theorem mul_eq (k : Nat) (a b : Int) (ha : -9223372036854775808 ≤ a ∧ a ≤ 9223372036854775807) (hb : -9223372036854775808 ≤ b ∧ b ≤ 9223372036854775807) :
    num_Mul.f (k + 1) a b = some (if -9223372036854775808 ≤ a * b ∧ a * b ≤ 9223372036854775807 then (a * b, 0) else (0, 10)) := by
  unfold num_Mul.f
  by_cases a0 : a = 0
  · subst a0; simp [num_Mul.j0]
  by_cases b0 : b = 0
  · subst b0; simp [num_Mul.j0]
  rw [if_neg a0]
  simp only [num_Mul.j0]
  have b0' : (b == 0) = false := by simpa using b0
  rw [b0', if_neg (by simp)]
  by_cases a1 : a = -1
  · subst a1
    rw [if_pos rfl, neg_eq b hb]
    have e : -1 * b = -b := by omega
    rw [e]
    by_cases h : b = -9223372036854775808
    · subst h; simp
    · have h2 : -9223372036854775808 ≤ -b ∧ -b ≤ 9223372036854775807 := by omega
      simp [h, h2]
  rw [if_neg a1]
  by_cases b1 : b = -1
  · subst b1
    rw [if_pos rfl, neg_eq a ha]
    have e : a * -1 = -a := by omega
    rw [e]
    by_cases h : a = -9223372036854775808
    · subst h; simp
    · have h2 : -9223372036854775808 ≤ -a ∧ -a ≤ 9223372036854775807 := by omega
      simp [h, h2]
  rw [if_neg b1, if_neg b0, Num.mul_fine a b b0 b1 ha hb]
  unfold num_told_int.f
  by_cases h : -9223372036854775808 ≤ a * b ∧ a * b ≤ 9223372036854775807
  · have e : wrap64 (a * b) = a * b := by unfold wrap64; omega
    simp [h, e]
  · simp [h]

theorem div_eq (a b : Int) (ha : -9223372036854775808 ≤ a ∧ a ≤ 9223372036854775807) (hb : -9223372036854775808 ≤ b ∧ b ≤ 9223372036854775807) :
    num_Div.f a b = some (if b = 0 then (0, 11) else if b = -1 then (if a = -9223372036854775808 then (0, 10) else (-a, 0)) else (Int.tdiv a b, 0)) := by
  unfold num_Div.f
  by_cases b0 : b = 0
  · simp [b0]
  by_cases b1 : b = -1
  · subst b1; rw [if_neg b0, if_pos rfl, neg_eq a ha]; simp
  have := Num.tdiv_bd a b b0 b1 ha
  have e : wrap64 (Int.tdiv a b) = Int.tdiv a b := by unfold wrap64; omega
  simp [b0, b1, e]
theorem mod_eq (a b : Int) : num_Mod.f a b = some (if b = 0 then (0, 11) else if b = -1 then (0, 0) else (Int.tmod a b, 0)) := by
  unfold num_Mod.f
  by_cases b0 : b = 0
  · simp [b0]
  by_cases b1 : b = -1
  · simp [b1]
  simp [b0, b1]

theorem DivWhole : commonholdkeep_DivWhole.Pure := by
  intro a b wa wb
  have ha := bounds_i64 wa
  have hb := bounds_i64 wb
  refine ⟨2, ?_⟩
  unfold commonholdkeep_DivWhole.f
  rw [div_eq a b ha hb, mod_eq a b]
  by_cases b0 : b = 0
  · simp [b0]
  by_cases b1 : b = -1
  · subst b1
    simp only [Option.bind_some, if_neg b0, if_true, commonholdkeep_below.f]
    have e1 : wrap64 (-(0 : Int)) = 0 := by unfold wrap64; omega
    simp only [e1]
    by_cases h : a = -9223372036854775808
    · subst h; simp [commonholdkeep_DivWhole.j0]
    · simp only [if_neg h]
      simp only [commonholdkeep_DivWhole.j0]
      rw [mul_eq 0 (-a) (-1) (by omega) (by omega)]
      have e2 : -a * -1 = a := by omega
      rw [e2, if_pos ha]
      simp only [Option.bind_some]
      have h0 : -9223372036854775808 ≤ a + 0 ∧ a + 0 ≤ 9223372036854775807 := by omega
      rw [add_eq a 0 ha (by omega), if_pos h0]
      simp
  · rw [if_neg b0, if_neg b0, if_neg b1, if_neg b1]
    simp only [Option.bind_some, if_neg b0, if_true, commonholdkeep_below.f]
    have hr := Num.tmod_bd a b b0
    have hs := Num.tmod_sign a b
    have hq := Num.tdiv_bd a b b0 b1 ha
    have hw := Int.mul_tdiv_add_tmod a b
    generalize Int.tmod a b = r at *
    have e1 : (if r < 0 then some r else some (wrap64 (-r))) = some (if r < 0 then r else -r) := by
      split
      · rfl
      · have : wrap64 (-r) = -r := by unfold wrap64; omega
        rw [this]
    have e2 : (if b < 0 then some b else some (wrap64 (-b))) = some (if b < 0 then b else -b) := by
      split
      · rfl
      · have : wrap64 (-b) = -b := by unfold wrap64; omega
        rw [this]
    rw [e1, e2]
    simp only [Option.bind_some]
    rw [if_neg (by split <;> split <;> omega)]
    have hj : commonholdkeep_DivWhole.j0 2 a b (Int.tdiv a b) 0 r false = some true := by
      simp only [commonholdkeep_DivWhole.j0]
      have hm : b * Int.tdiv a b = a - r := by omega
      rw [Int.mul_comm] at hm
      have hm2 : -9223372036854775808 ≤ Int.tdiv a b * b ∧ Int.tdiv a b * b ≤ 9223372036854775807 := by omega
      rw [mul_eq 0 _ b hq hb, if_pos hm2]
      simp only [Option.bind_some]
      have h0 : -9223372036854775808 ≤ a - r + r ∧ a - r + r ≤ 9223372036854775807 := by omega
      rw [add_eq _ r hm2 (by omega), hm, if_pos h0]
      simp
    split
    · exact hj
    · rename_i r0
      have e3 : (decide (r < 0) != decide (a < 0)) = false := by
        by_cases a < 0 <;> by_cases r < 0 <;> simp_all <;> omega
      rw [e3]; exact hj

end Go.Proofs.Ytkokinckknhfiaa.Pure
