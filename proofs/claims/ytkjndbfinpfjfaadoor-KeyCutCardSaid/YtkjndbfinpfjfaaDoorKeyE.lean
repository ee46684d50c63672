/- Keys: a value as bytes; grow. -/
import Derived.Test.YtkjndbfinpfjfaaDoorOrder
set_option linter.unusedVariables false
set_option linter.unusedSimpArgs false
set_option maxRecDepth 20000
set_option maxHeartbeats 20000000
namespace Go.Proofs.YtkjndbfinpfjfaaDoor
open Go Go.Vm Go.Proofs

def be64 (n : Nat) : List Nat := [n / 72057594037927936 % 256, n / 281474976710656 % 256, n / 1099511627776 % 256, n / 4294967296 % 256, n / 16777216 % 256, n / 65536 % 256, n / 256 % 256, n % 256]
def esc : List Nat → List Nat
  | [] => []
  | x :: l => if x = 0 then 0 :: 255 :: esc l else x :: esc l
def encV (k i : Int) (L : List Nat) : List Nat := if k = 0 then [1] else if k = 1 then [2 + i.toNat] else if k = 2 then 4 :: be64 (i + 9223372036854775808).toNat else 5 :: (esc L ++ [0, 1])
theorem esc_append : ∀ a b, esc (a ++ b) = esc a ++ esc b
  | [], _ => rfl
  | x :: a, b => by
    simp only [List.cons_append, esc, esc_append a b]
    split <;> rfl
theorem esc_len : ∀ a, (esc a).length ≤ 2 * a.length
  | [] => by simp [esc]
  | x :: a => by
    have := esc_len a
    unfold esc
    split <;> simp <;> omega
theorem xor63 (x : Nat) (h : x < 18446744073709551616) : x ^^^ 9223372036854775808 = if x < 9223372036854775808 then x + 9223372036854775808 else x - 9223372036854775808 := by
  have e1 : (x ^^^ 9223372036854775808) / 2 ^ 63 = (x / 2 ^ 63) ^^^ (9223372036854775808 / 2 ^ 63) := Nat.xor_div_two_pow
  have e2 : (x ^^^ 9223372036854775808) % 2 ^ 63 = (x % 2 ^ 63) ^^^ (9223372036854775808 % 2 ^ 63) := Nat.xor_mod_two_pow
  rw [show (9223372036854775808 : Nat) % 2 ^ 63 = 0 from rfl, Nat.xor_zero] at e2
  rw [show (9223372036854775808 : Nat) / 2 ^ 63 = 1 from rfl] at e1
  generalize x ^^^ 9223372036854775808 = y at *
  rw [show (2 : Nat) ^ 63 = 9223372036854775808 from rfl] at e1 e2
  split
  · rw [show x / 9223372036854775808 = 0 by omega] at e1
    rw [show (0 ^^^ 1 : Nat) = 1 from rfl] at e1
    omega
  · rw [show x / 9223372036854775808 = 1 by omega] at e1
    rw [show (1 ^^^ 1 : Nat) = 0 from rfl] at e1
    omega
theorem xorI (i : Int) (h1 : -9223372036854775808 ≤ i) (h2 : i ≤ 9223372036854775807) : bits .xor .u64 (IntKind.u64.wrap i) 9223372036854775808 = ((i + 9223372036854775808).toNat : Int) := by
  obtain ⟨x, hx, e⟩ : ∃ x : Nat, x < 18446744073709551616 ∧ IntKind.u64.wrap i = (x : Int) ∧ (x : Int) = i % 18446744073709551616 := by
    refine ⟨(i % 18446744073709551616).toNat, by omega, ?_, by omega⟩
    have : IntKind.u64.wrap i = i % 18446744073709551616 := by
      unfold IntKind.wrap
      simp [IntKind.signed, IntKind.bits]
    rw [this]; omega
  rw [e.1]
  have := u64_xor_nat x 9223372036854775808 hx (by decide)
  rw [show ((9223372036854775808 : Nat) : Int) = 9223372036854775808 from rfl] at this
  rw [this, xor63 x hx]
  split <;> omega
end Go.Proofs.YtkjndbfinpfjfaaDoor
