/- Plain laws of 64-bit numbers: the sign of & and ^, and what a product and a quotient do. -/
import Derived.Laws.Entries
import Derived.RowKit
import Derived.OpenShut
namespace Go.Proofs.Ytkokinckknhfiaa.Num
open Go.RowKit

theorem wrap_i64 (n : Int) : IntKind.i64.wrap n = wrap64 n := by
  unfold wrap64
  show (if (true && decide (n % (2 ^ 64 : Int) ≥ (2 ^ 63 : Int))) = true then n % (2 ^ 64 : Int) - (2 ^ 64 : Int) else n % (2 ^ 64 : Int)) = _
  by_cases h : n % (2 ^ 64 : Int) ≥ (2 ^ 63 : Int)
  · rw [if_pos (by simpa using h)]; omega
  · rw [if_neg (by simpa using h)]; omega

theorem wrap_toNat (r : BitVec 64) : IntKind.i64.wrap r.toNat = r.toInt := by
  rw [wrap_i64, BitVec.toInt_eq_toNat_cond]
  have := r.isLt
  unfold wrap64
  split <;> omega

theorem toInt_ofInt (n : Int) (h : -9223372036854775808 ≤ n ∧ n ≤ 9223372036854775807) : (BitVec.ofInt 64 n).toInt = n := by
  rw [BitVec.toInt_ofInt]
  simp only [Int.bmod]; omega

theorem msb_ofInt (n : Int) (h : -9223372036854775808 ≤ n ∧ n ≤ 9223372036854775807) : (BitVec.ofInt 64 n).msb = decide (n < 0) := by
  rw [BitVec.msb_eq_toInt, toInt_ofInt n h]

theorem bits_lo (r : BitVec 64) : -9223372036854775808 ≤ r.toInt ∧ r.toInt ≤ 9223372036854775807 := by
  have := r.toInt_lt; have := r.le_toInt; omega

theorem xor_bd (a b : Int) : -9223372036854775808 ≤ Go.bits .xor .i64 a b ∧ Go.bits .xor .i64 a b ≤ 9223372036854775807 := by
  show _ ≤ IntKind.i64.wrap ((BitVec.ofInt 64 a ^^^ BitVec.ofInt 64 b).toNat) ∧ IntKind.i64.wrap ((BitVec.ofInt 64 a ^^^ BitVec.ofInt 64 b).toNat) ≤ _
  rw [wrap_toNat]; exact bits_lo _

theorem xor_neg (a b : Int) (ha : -9223372036854775808 ≤ a ∧ a ≤ 9223372036854775807) (hb : -9223372036854775808 ≤ b ∧ b ≤ 9223372036854775807) :
    Go.bits .xor .i64 a b < 0 ↔ ((a < 0) ↔ ¬ (b < 0)) := by
  show IntKind.i64.wrap ((BitVec.ofInt 64 a ^^^ BitVec.ofInt 64 b).toNat) < 0 ↔ _
  rw [wrap_toNat]
  have e : (BitVec.ofInt 64 a ^^^ BitVec.ofInt 64 b).msb = (decide (a < 0) ^^ decide (b < 0)) := by rw [BitVec.msb_xor, msb_ofInt a ha, msb_ofInt b hb]
  rw [BitVec.msb_eq_toInt] at e
  by_cases h1 : a < 0 <;> by_cases h2 : b < 0 <;> simp [h1, h2] at e ⊢ <;> omega

theorem and_neg (a b : Int) (ha : -9223372036854775808 ≤ a ∧ a ≤ 9223372036854775807) (hb : -9223372036854775808 ≤ b ∧ b ≤ 9223372036854775807) :
    Go.bits .and .i64 a b < 0 ↔ (a < 0 ∧ b < 0) := by
  show IntKind.i64.wrap ((BitVec.ofInt 64 a &&& BitVec.ofInt 64 b).toNat) < 0 ↔ _
  rw [wrap_toNat]
  have e : (BitVec.ofInt 64 a &&& BitVec.ofInt 64 b).msb = (decide (a < 0) && decide (b < 0)) := by rw [BitVec.msb_and, msb_ofInt a ha, msb_ofInt b hb]
  rw [BitVec.msb_eq_toInt] at e
  by_cases h1 : a < 0 <;> by_cases h2 : b < 0 <;> simp [h1, h2] at e ⊢ <;> omega

/-- no overflow, as the signs tell it -/
theorem add_fine (a b : Int) (ha : -9223372036854775808 ≤ a ∧ a ≤ 9223372036854775807) (hb : -9223372036854775808 ≤ b ∧ b ≤ 9223372036854775807) :
    decide (Go.bits .and .i64 (Go.bits .xor .i64 a (wrap64 (a + b))) (Go.bits .xor .i64 b (wrap64 (a + b))) ≥ 0) = decide (-9223372036854775808 ≤ a + b ∧ a + b ≤ 9223372036854775807) := by
  have hc : -9223372036854775808 ≤ wrap64 (a + b) ∧ wrap64 (a + b) ≤ 9223372036854775807 := by unfold wrap64; omega
  have h1 := and_neg _ _ (xor_bd a (wrap64 (a + b))) (xor_bd b (wrap64 (a + b)))
  rw [xor_neg a _ ha hc, xor_neg b _ hb hc] at h1
  rw [decide_eq_decide]
  rw [ge_iff_le, ← Int.not_lt, h1]
  unfold wrap64; omega

theorem sub_fine (a b : Int) (ha : -9223372036854775808 ≤ a ∧ a ≤ 9223372036854775807) (hb : -9223372036854775808 ≤ b ∧ b ≤ 9223372036854775807) :
    decide (Go.bits .and .i64 (Go.bits .xor .i64 a b) (Go.bits .xor .i64 a (wrap64 (a - b))) ≥ 0) = decide (-9223372036854775808 ≤ a - b ∧ a - b ≤ 9223372036854775807) := by
  have hc : -9223372036854775808 ≤ wrap64 (a - b) ∧ wrap64 (a - b) ≤ 9223372036854775807 := by unfold wrap64; omega
  have h1 := and_neg _ _ (xor_bd a b) (xor_bd a (wrap64 (a - b)))
  rw [xor_neg a _ ha hb, xor_neg a _ ha hc] at h1
  rw [decide_eq_decide]
  rw [ge_iff_le, ← Int.not_lt, h1]
  unfold wrap64; omega

/-- a product fits, as its quotient tells it -/
theorem mul_fine (a b : Int) (hb0 : b ≠ 0) (hb1 : b ≠ -1) (ha : -9223372036854775808 ≤ a ∧ a ≤ 9223372036854775807) (hb : -9223372036854775808 ≤ b ∧ b ≤ 9223372036854775807) :
    (wrap64 (Int.tdiv (wrap64 (a * b)) b) == a) = decide (-9223372036854775808 ≤ a * b ∧ a * b ≤ 9223372036854775807) := by
  have hc : -9223372036854775808 ≤ wrap64 (a * b) ∧ wrap64 (a * b) ≤ 9223372036854775807 := by unfold wrap64; omega
  by_cases h : -9223372036854775808 ≤ a * b ∧ a * b ≤ 9223372036854775807
  · have e : wrap64 (a * b) = a * b := by unfold wrap64; omega
    rw [e, Int.mul_tdiv_cancel _ hb0]
    have e2 : wrap64 a = a := by unfold wrap64; omega
    rw [e2]; simp [h]
  · rw [decide_eq_false h]
    rw [beq_eq_false_iff_ne]
    intro he
    generalize hw : wrap64 (a * b) = c at *
    have hbnd : (Int.tdiv c b).natAbs ≤ c.natAbs := by
      rw [Int.natAbs_tdiv]; exact Nat.div_le_self _ _
    have hq : wrap64 (Int.tdiv c b) = Int.tdiv c b := by
      have : Int.tdiv c b ≠ 9223372036854775808 := by
        intro hh
        have h1 : (Int.tdiv c b).natAbs = 9223372036854775808 := by rw [hh]; rfl
        rw [Int.natAbs_tdiv] at h1
        have hb2 : 2 ≤ b.natAbs ∨ b = 1 := by omega
        rcases hb2 with hb2 | rfl
        · have := Nat.div_le_div_left (a := c.natAbs) hb2 (by decide)
          have h4 : c.natAbs / b.natAbs = 9223372036854775808 := h1
          generalize c.natAbs / b.natAbs = q at *
          subst h4
          omega
        · simp at hh; omega
      unfold wrap64; omega
    rw [hq] at he
    -- c = b * a + r, |r| < |b|, c ≡ a*b mod 2^64, so r is a multiple of 2^64
    have hdiv := Int.mul_tdiv_add_tmod c b
    rw [he] at hdiv
    have hr : (Int.tmod c b).natAbs < b.natAbs := by rw [Int.natAbs_tmod]; exact Nat.mod_lt _ (by omega)
    have hmod : (a * b - c) % 18446744073709551616 = 0 := by rw [← hw]; unfold wrap64; omega
    rw [Int.mul_comm b a] at hdiv
    generalize a * b = p at *
    omega

theorem tdiv_bd (a b : Int) (hb0 : b ≠ 0) (hb1 : b ≠ -1) (ha : -9223372036854775808 ≤ a ∧ a ≤ 9223372036854775807) :
    -9223372036854775808 ≤ Int.tdiv a b ∧ Int.tdiv a b ≤ 9223372036854775807 := by
  have hbnd : (Int.tdiv a b).natAbs ≤ a.natAbs := by
    rw [Int.natAbs_tdiv]; exact Nat.div_le_self _ _
  have : Int.tdiv a b ≠ 9223372036854775808 := by
    intro hh
    have h1 : (Int.tdiv a b).natAbs = 9223372036854775808 := by rw [hh]; rfl
    rw [Int.natAbs_tdiv] at h1
    have hb2 : 2 ≤ b.natAbs ∨ b = 1 := by omega
    rcases hb2 with hb2 | rfl
    · have := Nat.div_le_div_left (a := a.natAbs) hb2 (by decide)
      have h4 : a.natAbs / b.natAbs = 9223372036854775808 := h1
      generalize a.natAbs / b.natAbs = q at *
      subst h4
      omega
    · simp at hh; omega
  omega

theorem tmod_bd (a b : Int) (hb0 : b ≠ 0) : (Int.tmod a b).natAbs < b.natAbs := by
  rw [Int.natAbs_tmod]; exact Nat.mod_lt _ (by omega)

theorem tmod_sign (a b : Int) : (0 ≤ a → 0 ≤ Int.tmod a b) ∧ (a ≤ 0 → Int.tmod a b ≤ 0) := by
  refine ⟨fun h => Int.tmod_nonneg b h, fun h => ?_⟩
  have h2 := Int.tmod_nonneg b (a := -a) (by omega)
  rw [Int.neg_tmod] at h2; omega
end Go.Proofs.Ytkokinckknhfiaa.Num
