/- The checksum bit by bit. -/
import Derived.Test.YtjkijjellghlhaaDoorCrc
set_option linter.unusedVariables false
set_option linter.unusedSimpArgs false
set_option maxRecDepth 20000
set_option maxHeartbeats 1000000
namespace Go.Proofs.YtjkijjellghlhaaDoor

def step (x : Nat) : Nat := if x % 2 = 1 then x / 2 ^^^ 3988292384 else x / 2
theorem xor_div2 (x y : Nat) : (x ^^^ y) / 2 = x / 2 ^^^ y / 2 := by
  have := Nat.shiftRight_xor_distrib (a := x) (b := y) (i := 1)
  simpa [Nat.shiftRight_eq_div_pow] using this
theorem xor_mod2 (x y : Nat) : (x ^^^ y) % 2 = x % 2 ^^^ y % 2 := Nat.xor_mod_two_pow (n := 1)
theorem step_xor (x y : Nat) : step (x ^^^ y) = step x ^^^ step y := by
  unfold step
  rw [xor_div2, xor_mod2]
  rcases Nat.mod_two_eq_zero_or_one x with h1 | h1 <;> rcases Nat.mod_two_eq_zero_or_one y with h2 | h2 <;> simp [h1, h2]
  · ac_rfl
  · ac_rfl
  · rw [show x / 2 ^^^ 3988292384 ^^^ (y / 2 ^^^ 3988292384) = x / 2 ^^^ y / 2 ^^^ (3988292384 ^^^ 3988292384) by ac_rfl]; simp
def steps : Nat → Nat → Nat
  | 0, x => x
  | n + 1, x => steps n (step x)
theorem steps_xor : ∀ (n x y : Nat), steps n (x ^^^ y) = steps n x ^^^ steps n y
  | 0, _, _ => rfl
  | n + 1, x, y => by simp only [steps]; rw [step_xor, steps_xor n]
theorem steps_add : ∀ (m n x : Nat), steps (m + n) x = steps n (steps m x)
  | 0, n, x => by simp [steps]
  | m + 1, n, x => by rw [show m + 1 + n = m + n + 1 by omega]; simp only [steps]; exact steps_add m n _
theorem step_double (x : Nat) : step (2 * x) = x := by unfold step; simp
theorem steps_pow : ∀ (n x : Nat), steps n (2 ^ n * x) = x
  | 0, x => by simp [steps]
  | n + 1, x => by
    simp only [steps]
    rw [show 2 ^ (n + 1) * x = 2 * (2 ^ n * x) by rw [Nat.pow_succ, Nat.mul_comm (2 ^ n) 2, Nat.mul_assoc], step_double]
    exact steps_pow n x
theorem split16 (x : Nat) : (2 ^ 4 * (x / 16)) ^^^ (x % 16) = x := by
  have h1 : ((2 ^ 4 * (x / 16)) ^^^ (x % 16)) / 16 = (2 ^ 4 * (x / 16)) / 16 ^^^ (x % 16) / 16 := by
    have := Nat.shiftRight_xor_distrib (a := 2 ^ 4 * (x / 16)) (b := x % 16) (i := 4)
    simpa [Nat.shiftRight_eq_div_pow] using this
  have h2 : ((2 ^ 4 * (x / 16)) ^^^ (x % 16)) % 16 = (2 ^ 4 * (x / 16)) % 16 ^^^ (x % 16) % 16 := Nat.xor_mod_two_pow (n := 4)
  have e1 : (2 ^ 4 * (x / 16)) / 16 = x / 16 := by omega
  have e2 : (x % 16) / 16 = 0 := by omega
  have e3 : (2 ^ 4 * (x / 16)) % 16 = 0 := by omega
  have e4 : (x % 16) % 16 = x % 16 := by omega
  rw [e1, e2, Nat.xor_zero] at h1
  rw [e3, e4, Nat.zero_xor] at h2
  generalize (2 ^ 4 * (x / 16)) ^^^ (x % 16) = y at h1 h2
  omega
theorem nib_steps (x : Nat) : nib x = steps 4 x := by
  have ht : ∀ r : Fin 16, crcTab.getD r.val 0 = steps 4 r.val := by decide +kernel
  have := steps_xor 4 (2 ^ 4 * (x / 16)) (x % 16)
  rw [split16, steps_pow, ← ht ⟨x % 16, Nat.mod_lt _ (by decide)⟩] at this
  rw [this]; rfl
theorem byteStep_steps (c b : Nat) : byteStep c b = steps 8 (c ^^^ b) := by
  unfold byteStep
  rw [nib_steps, nib_steps, ← steps_add]
/-- The bytes as one number, the first the least. -/
def big : List Nat → Nat
  | [] => 0
  | b :: l => b ^^^ 2 ^ 8 * big l
theorem crcRaw_big : ∀ (l : List Nat) (c : Nat), crcRaw c l = steps (8 * l.length) (c ^^^ big l)
  | [], c => by simp [crcRaw, big, steps]
  | b :: l, c => by
    show crcRaw (byteStep c b) l = _
    rw [crcRaw_big l, byteStep_steps, List.length_cons, show 8 * (l.length + 1) = 8 + 8 * l.length by omega, steps_add, big, ← Nat.xor_assoc, steps_xor 8 (c ^^^ b), steps_pow]
theorem step_lt {x : Nat} (h : x < 4294967296) : step x < 4294967296 := by
  unfold step
  split
  · exact Nat.xor_lt_two_pow (n := 32) (by omega) (by decide)
  · omega
theorem step_ne {x : Nat} (h : x < 4294967296) (h0 : x ≠ 0) : step x ≠ 0 := by
  unfold step
  split
  · intro he
    have h1 : x / 2 ^^^ 3988292384 ^^^ 3988292384 = 3988292384 := by rw [he, Nat.zero_xor]
    rw [Nat.xor_assoc, Nat.xor_self, Nat.xor_zero] at h1
    omega
  · omega
theorem steps_ne : ∀ (n : Nat) {x : Nat}, x < 4294967296 → x ≠ 0 → steps n x ≠ 0
  | 0, _, _, h0 => h0
  | n + 1, _, h, h0 => steps_ne n (step_lt h) (step_ne h h0)
end Go.Proofs.YtjkijjellghlhaaDoor
