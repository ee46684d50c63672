/- Subtraction inverts addition, addition is commutative, and overflow does not depend on the order: for all pairs of 64-bit integers. No condition. -/
import Derived.Test.YtkokinckknhfiaaPAddBackx1
import Derived.Test.YtkokinckknhfiaaNum
namespace Go.Proofs.Ytkokinckknhfiaa.Pure
open Go.RowKit Go.Proofs.Ytkokinckknhfiaa.PAddBack Go.Proofs.YtkokinckknhfiaaW.PrintWords Go.Proofs.YtkokinckknhfiaaW.PrintLast

theorem add_eq (a b : Int) (ha : -9223372036854775808 ≤ a ∧ a ≤ 9223372036854775807) (hb : -9223372036854775808 ≤ b ∧ b ≤ 9223372036854775807) :
    num_Add.f a b = some (if -9223372036854775808 ≤ a + b ∧ a + b ≤ 9223372036854775807 then (a + b, 0) else (0, 10)) := by
  unfold num_Add.f num_told_int.f
  rw [Num.add_fine a b ha hb]
  by_cases h : -9223372036854775808 ≤ a + b ∧ a + b ≤ 9223372036854775807
  · have e : wrap64 (a + b) = a + b := by unfold wrap64; omega
    simp [h, e]
  · simp [h]

theorem sub_eq (a b : Int) (ha : -9223372036854775808 ≤ a ∧ a ≤ 9223372036854775807) (hb : -9223372036854775808 ≤ b ∧ b ≤ 9223372036854775807) :
    num_Sub.f a b = some (if -9223372036854775808 ≤ a - b ∧ a - b ≤ 9223372036854775807 then (a - b, 0) else (0, 10)) := by
  unfold num_Sub.f num_told_int.f
  rw [Num.sub_fine a b ha hb]
  by_cases h : -9223372036854775808 ≤ a - b ∧ a - b ≤ 9223372036854775807
  · have e : wrap64 (a - b) = a - b := by unfold wrap64; omega
    simp [h, e]
  · simp [h]

theorem AddBack : commonholdkeep_AddBack.Pure := by
  intro a b wa wb
  have ha := bounds_i64 wa
  have hb := bounds_i64 wb
  refine ⟨1, ?_⟩
  unfold commonholdkeep_AddBack.f
  rw [add_eq a b ha hb, add_eq b a hb ha, add_eq a 0 ha (by omega)]
  have e : b + a = a + b := by omega
  rw [e]
  by_cases h : -9223372036854775808 ≤ a + b ∧ a + b ≤ 9223372036854775807
  · have h0 : -9223372036854775808 ≤ a + 0 ∧ a + 0 ≤ 9223372036854775807 := by omega
    rw [if_pos h, if_pos h0]
    simp only [Option.bind_some, if_true, commonholdkeep_AddBack.j0]
    rw [sub_eq (a + b) b h hb, sub_eq (a + b) a h ha]
    have h1 : -9223372036854775808 ≤ a + b - b ∧ a + b - b ≤ 9223372036854775807 := by omega
    have h2 : -9223372036854775808 ≤ a + b - a ∧ a + b - a ≤ 9223372036854775807 := by omega
    rw [if_pos h1, if_pos h2]
    have e1 : a + b - b = a := by omega
    have e2 : a + b - a = b := by omega
    simp [e1, e2]
  · have h0 : -9223372036854775808 ≤ a + 0 ∧ a + 0 ≤ 9223372036854775807 := by omega
    rw [if_neg h, if_pos h0]
    simp [commonholdkeep_AddBack.j0]

end Go.Proofs.Ytkokinckknhfiaa.Pure
