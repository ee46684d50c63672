/- Bits that are turned over: the pure law, and the walk. -/
import Derived.Test.YtjkijjellghlhaaDoorNats
import Derived.Test.YtjkijjellghlhaaDoorCrcStep
set_option linter.unusedVariables false
set_option linter.unusedSimpArgs false
set_option maxRecDepth 20000
set_option maxHeartbeats 1000000
namespace Go.Proofs.YtjkijjellghlhaaDoor
open Go Go.Vm Go.Proofs

theorem big_set : ∀ {x : List Nat} {j : Nat} (v : Nat) (h : j < x.length), big (x.set j (x[j] ^^^ v)) = big x ^^^ 2 ^ (8 * j) * v
  | b :: x, 0, v, _ => by
    simp only [List.set_cons_zero, List.getElem_cons_zero, big, Nat.mul_zero, Nat.pow_zero, Nat.one_mul]
    ac_rfl
  | b :: x, j + 1, v, h => by
    have ih := big_set (x := x) (j := j) v (by simpa using h)
    simp only [List.set_cons_succ, List.getElem_cons_succ, big]
    rw [ih, show 2 ^ (8 * (j + 1)) * v = 2 ^ 8 * (2 ^ (8 * j) * v) by rw [show 8 * (j + 1) = 8 + 8 * j by omega, Nat.pow_add, Nat.mul_assoc]]
    have e : ∀ p q : Nat, 2 ^ 8 * (p ^^^ q) = 2 ^ 8 * p ^^^ 2 ^ 8 * q := fun p q => by
      have := Nat.shiftLeft_xor_distrib (a := p) (b := q) (i := 8)
      simpa [Nat.shiftLeft_eq, Nat.mul_comm] using this
    rw [e]; ac_rfl
theorem mul_pow_xor (p q f : Nat) : (p ^^^ q) * 2 ^ f = p * 2 ^ f ^^^ q * 2 ^ f := by
  have := Nat.shiftLeft_xor_distrib (a := p) (b := q) (i := f)
  simpa [Nat.shiftLeft_eq] using this
theorem add_pow_xor {v k : Nat} (h : v < 2 ^ k) : v ^^^ 2 ^ k = v + 2 ^ k := by
  have := Nat.two_pow_add_eq_or_of_lt h 1
  have h2 : v ^^^ 2 ^ k = 2 ^ k * 1 ||| v := by
    refine Nat.eq_of_testBit_eq fun i => ?_
    rw [Nat.testBit_xor, Nat.testBit_or, Nat.mul_one, Nat.testBit_two_pow]
    by_cases hi : k = i
    · subst hi; simp [Nat.testBit_lt_two_pow h]
    · simp [hi]
  rw [h2, ← this]; omega
/-- A change within 32 bits is seen. -/
theorem burst {l x : List Nat} {f v : Nat} (hx : x.length = l.length) (hf : f ≤ 8 * l.length) (hv : v < 4294967296) (h : big x = big l ^^^ v * 2 ^ f) : (crcMore 0 l = crcMore 0 x ↔ v = 0) := by
  have hs : steps (8 * l.length) (v * 2 ^ f) = steps (8 * l.length - f) v := by
    have := steps_add f (8 * l.length - f) (2 ^ f * v)
    rw [steps_pow, show f + (8 * l.length - f) = 8 * l.length by omega, Nat.mul_comm (2 ^ f) v] at this
    exact this
  have e : crcMore 0 x = crcMore 0 l ^^^ steps (8 * l.length - f) v := by
    unfold crcMore
    rw [crcRaw_big, crcRaw_big, hx, h, ← Nat.xor_assoc, steps_xor, hs]
    ac_rfl
  rw [e]
  constructor
  · intro h1
    have h2 : crcMore 0 l ^^^ (crcMore 0 l ^^^ steps (8 * l.length - f) v) = 0 := by rw [← h1, Nat.xor_self]
    rw [← Nat.xor_assoc, Nat.xor_self, Nat.zero_xor] at h2
    by_cases h0 : v = 0
    · exact h0
    · exact absurd h2 (steps_ne _ hv h0)
  · rintro rfl
    have h0 : ∀ n, steps n 0 = 0 := fun n => by induction n with
      | zero => rfl
      | succ n ih => exact ih
    rw [h0, Nat.xor_zero]
theorem pickedF {G : Globals} (a : Int) (m : Nat) (ha : -9223372036854775808 ≤ a ∧ a ≤ 9223372036854775807) (hm : 0 < m) (hm2 : m ≤ 9223372036854775807) :
    FV Tryd.prog G 12 [.int .i64 a, .int .i64 m] (fun r => ∃ f : Nat, f < m ∧ r = .int .i64 f) := by
  have h1 : -(m : Int) < a.tmod m := by have := Int.lt_tmod_of_pos a (b := m) (by omega); omega
  have h2 : a.tmod m < m := Int.tmod_lt_of_pos a (by omega)
  refine fv_enter Tryd.func12 rfl rfl fun Q hQ => ?_
  ((repeat refine jw_seq_k fun K hK => ?_); refine jw_reg ?_; simp [Tryd.f12]; (first | (apply hK; clear hK) | (clear hK; apply hK; clear hK) | (clear hK; clear hK; apply hK; clear hK) | (clear hK; clear hK; clear hK; apply hK; clear hK) | (clear hK; clear hK; clear hK; clear hK; apply hK; clear hK) | (clear hK; clear hK; clear hK; clear hK; clear hK; apply hK; clear hK) | (clear hK; clear hK; clear hK; clear hK; clear hK; clear hK; apply hK; clear hK)))
  ((repeat refine jw_seq_k fun K hK => ?_); refine jw_reg ?_; simp [show m ≠ 0 by omega]; (first | (apply hK; clear hK) | (clear hK; apply hK; clear hK) | (clear hK; clear hK; apply hK; clear hK) | (clear hK; clear hK; clear hK; apply hK; clear hK) | (clear hK; clear hK; clear hK; clear hK; apply hK; clear hK) | (clear hK; clear hK; clear hK; clear hK; clear hK; apply hK; clear hK) | (clear hK; clear hK; clear hK; clear hK; clear hK; clear hK; apply hK; clear hK)))
  ((repeat refine jw_seq_k fun K hK => ?_); refine jw_reg ?_; simp; (first | (apply hK; clear hK) | (clear hK; apply hK; clear hK) | (clear hK; clear hK; apply hK; clear hK) | (clear hK; clear hK; clear hK; apply hK; clear hK) | (clear hK; clear hK; clear hK; clear hK; apply hK; clear hK) | (clear hK; clear hK; clear hK; clear hK; clear hK; apply hK; clear hK) | (clear hK; clear hK; clear hK; clear hK; clear hK; clear hK; apply hK; clear hK)))
  generalize a.tmod m = t at h1 h2 ⊢
  (repeat refine jw_seq_k fun K hK => ?_); refine jw_cond rfl (fun hlt => ?_) (fun hlt => ?_)
  · simp at hlt
    ((repeat refine jw_seq_k fun K hK => ?_); refine jw_reg ?_; simp [wrap_i64 (n := t + m) (by omega) (by omega)]; (first | (apply hK; clear hK) | (clear hK; apply hK; clear hK) | (clear hK; clear hK; apply hK; clear hK) | (clear hK; clear hK; clear hK; apply hK; clear hK) | (clear hK; clear hK; clear hK; clear hK; apply hK; clear hK) | (clear hK; clear hK; clear hK; clear hK; clear hK; apply hK; clear hK) | (clear hK; clear hK; clear hK; clear hK; clear hK; clear hK; apply hK; clear hK)))
    exact jw_ret (hQ _ _ (.inr rfl) ⟨5, _, _, rfl, rfl, (t + m).toNat, by omega, by simp; omega⟩)
  · simp at hlt
    (refine jw_skip ?_; simp; (first | (apply hK; clear hK) | (clear hK; apply hK; clear hK) | (clear hK; clear hK; apply hK; clear hK) | (clear hK; clear hK; clear hK; apply hK; clear hK) | (clear hK; clear hK; clear hK; clear hK; apply hK; clear hK) | (clear hK; clear hK; clear hK; clear hK; clear hK; apply hK; clear hK) | (clear hK; clear hK; clear hK; clear hK; clear hK; clear hK; apply hK; clear hK)))
    ((repeat refine jw_seq_k fun K hK => ?_); refine jw_reg ?_; simp; (first | (apply hK; clear hK) | (clear hK; apply hK; clear hK) | (clear hK; clear hK; apply hK; clear hK) | (clear hK; clear hK; clear hK; apply hK; clear hK) | (clear hK; clear hK; clear hK; clear hK; apply hK; clear hK) | (clear hK; clear hK; clear hK; clear hK; clear hK; apply hK; clear hK) | (clear hK; clear hK; clear hK; clear hK; clear hK; clear hK; apply hK; clear hK)))
    exact jw_ret (hQ _ _ (.inr rfl) ⟨5, _, _, rfl, rfl, t.toNat, by omega, by simp; omega⟩)

def TurnedR (l : List Nat) (r : D) : Prop := ∃ (x : List Nat) (f v n : Nat), r = .tup [natsD x, .int .i64 n] ∧ x.length = l.length ∧ (∀ b ∈ x, b < 256) ∧ v < 4294967296 ∧ (n = 0 ↔ v = 0) ∧ f ≤ 8 * l.length ∧ big x = big l ^^^ v * 2 ^ f

theorem turnedF (l : List Nat) (hl : ∀ b ∈ l, b < 256) (hlen : l.length ≤ 2000) (a w : Int) (ha : -9223372036854775808 ≤ a ∧ a ≤ 9223372036854775807) :
    FV Tryd.prog tabG 13 [natsD l, .int .i64 a, .int .i64 w] (TurnedR l) := by
  refine fv_enter Tryd.func13 rfl rfl fun Q hQ => ?_
  ((repeat refine jw_seq_k fun K hK => ?_); refine jw_reg ?_; simp [Tryd.f13]; (first | (apply hK; clear hK) | (clear hK; apply hK; clear hK) | (clear hK; clear hK; apply hK; clear hK) | (clear hK; clear hK; clear hK; apply hK; clear hK) | (clear hK; clear hK; clear hK; clear hK; apply hK; clear hK) | (clear hK; clear hK; clear hK; clear hK; clear hK; apply hK; clear hK) | (clear hK; clear hK; clear hK; clear hK; clear hK; clear hK; apply hK; clear hK)))
  ((repeat refine jw_seq_k fun K hK => ?_); refine jw_reg ?_; simp [natsD, show l.length ≤ 140737488355328 by omega]; (first | (apply hK; clear hK) | (clear hK; apply hK; clear hK) | (clear hK; clear hK; apply hK; clear hK) | (clear hK; clear hK; clear hK; apply hK; clear hK) | (clear hK; clear hK; clear hK; clear hK; apply hK; clear hK) | (clear hK; clear hK; clear hK; clear hK; clear hK; apply hK; clear hK) | (clear hK; clear hK; clear hK; clear hK; clear hK; clear hK; apply hK; clear hK)))
  ((repeat refine jw_seq_k fun K hK => ?_); refine jw_reg ?_; simp; (first | (apply hK; clear hK) | (clear hK; apply hK; clear hK) | (clear hK; clear hK; apply hK; clear hK) | (clear hK; clear hK; clear hK; apply hK; clear hK) | (clear hK; clear hK; clear hK; clear hK; apply hK; clear hK) | (clear hK; clear hK; clear hK; clear hK; clear hK; apply hK; clear hK) | (clear hK; clear hK; clear hK; clear hK; clear hK; clear hK; apply hK; clear hK)))
  ((repeat refine jw_seq_k fun K hK => ?_); refine jw_reg ?_; simp [natsD]; (first | (apply hK; clear hK) | (clear hK; apply hK; clear hK) | (clear hK; clear hK; apply hK; clear hK) | (clear hK; clear hK; clear hK; apply hK; clear hK) | (clear hK; clear hK; clear hK; clear hK; apply hK; clear hK) | (clear hK; clear hK; clear hK; clear hK; clear hK; apply hK; clear hK) | (clear hK; clear hK; clear hK; clear hK; clear hK; clear hK; apply hK; clear hK)))
  (repeat refine jw_seq_k fun K hK => ?_); refine jw_cond rfl (fun h0 => ?_) (fun h0 => ?_)
  · simp at h0
    subst h0
    ((repeat refine jw_seq_k fun K hK => ?_); refine jw_reg ?_; simp; (first | (apply hK; clear hK) | (clear hK; apply hK; clear hK) | (clear hK; clear hK; apply hK; clear hK) | (clear hK; clear hK; clear hK; apply hK; clear hK) | (clear hK; clear hK; clear hK; clear hK; apply hK; clear hK) | (clear hK; clear hK; clear hK; clear hK; clear hK; apply hK; clear hK) | (clear hK; clear hK; clear hK; clear hK; clear hK; clear hK; apply hK; clear hK)))
    exact jw_ret (hQ _ _ (.inr rfl) ⟨5, _, _, rfl, rfl, [], 0, 0, 0, rfl, rfl, by simp, by decide, by simp, by simp, by simp⟩)
  (refine jw_skip ?_; simp; (first | (apply hK; clear hK) | (clear hK; apply hK; clear hK) | (clear hK; clear hK; apply hK; clear hK) | (clear hK; clear hK; clear hK; apply hK; clear hK) | (clear hK; clear hK; clear hK; clear hK; apply hK; clear hK) | (clear hK; clear hK; clear hK; clear hK; clear hK; apply hK; clear hK) | (clear hK; clear hK; clear hK; clear hK; clear hK; clear hK; apply hK; clear hK)))
  have hl0 : 0 < l.length := by
    rcases Nat.eq_zero_or_pos l.length with h | h
    · simp [h] at h0
    · exact h
  have w8 : IntKind.i64.wrap (8 * (l.length : Int)) = ((8 * l.length : Nat) : Int) := by rw [wrap_i64 (by omega) (by omega)]; omega
  obtain ⟨L8, hL8⟩ : ∃ L8, L8 = 8 * l.length := ⟨_, rfl⟩
  rw [← hL8] at w8
  ((repeat refine jw_seq_k fun K hK => ?_); refine jw_c ?_; simp [natsD, w8])
  refine jl_call (f := 12) rfl rfl rfl rfl rfl (pickedF a L8 ha (by omega) (by omega)) (by simp [BelL, Bel]) ?_
  rintro r ⟨f, hf, rfl⟩
  simp
  (first | (apply hK; clear hK) | (clear hK; apply hK; clear hK) | (clear hK; clear hK; apply hK; clear hK) | (clear hK; clear hK; clear hK; apply hK; clear hK) | (clear hK; clear hK; clear hK; clear hK; apply hK; clear hK) | (clear hK; clear hK; clear hK; clear hK; clear hK; apply hK; clear hK) | (clear hK; clear hK; clear hK; clear hK; clear hK; clear hK; apply hK; clear hK))
  ((repeat refine jw_seq_k fun K hK => ?_); refine jw_reg ?_; simp; (first | (apply hK; clear hK) | (clear hK; apply hK; clear hK) | (clear hK; clear hK; apply hK; clear hK) | (clear hK; clear hK; clear hK; apply hK; clear hK) | (clear hK; clear hK; clear hK; clear hK; apply hK; clear hK) | (clear hK; clear hK; clear hK; clear hK; clear hK; apply hK; clear hK) | (clear hK; clear hK; clear hK; clear hK; clear hK; clear hK; apply hK; clear hK)))
  ((repeat refine jw_seq_k fun K hK => ?_); refine jw_block ?_)
  (repeat refine jw_seq_k fun K hK => ?_); refine jw_loop_k (fun m s => ∃ (k n v : Nat) (x : List Nat) (M : List D), k ≤ 32 ∧ 32 - k = m ∧ n ≤ k ∧ x.length = l.length ∧ (∀ b ∈ x, b < 256) ∧ v < 2 ^ k ∧ (n = 0 ↔ v = 0) ∧ big x = big l ^^^ v * 2 ^ f ∧ M = (x.map fun b : Nat => D.int .u8 b) ∧
      s = ⟨[natsD l, .any, .int .i64 w, .any, .any, .any, .any, .any, .ms 0 l.length 0 l.length 1, .int .i64 n, .int .i64 f, .int .i64 k] ++ List.replicate 47 .any, [some M]⟩)
    (sl := [natsD l, .any, .int .i64 w, .any, .any, .any, .any, .any, .ms 0 l.length 0 l.length 1, .int .i64 (0 : Nat), .int .i64 f, .int .i64 (0 : Nat)] ++ List.replicate 47 .any) (by simp [natsD])
    ⟨0, 0, 0, l, _, by simp, rfl, by simp, rfl, hl, by simp, by simp, by simp, rfl, rfl⟩ ?_
  rintro m s ⟨k, n, v, x, M, hk, rfl, hn, hx, hxl, hv, hnv, hbig, hM, rfl⟩ KL hKL
  by_cases h32 : k < 32
  · obtain ⟨p, hp⟩ : ∃ p, p = f + k := ⟨_, rfl⟩
    have wp : IntKind.i64.wrap ((f : Int) + k) = ((p : Nat) : Int) := by rw [wrap_i64 (by omega) (by omega)]; omega
    ((repeat refine jw_seq_k fun K hK => ?_); refine jw_reg ?_; simp [natsD, h32, show (k : Int) < 32 by omega, wp, w8]; (first | (apply hK; clear hK) | (clear hK; apply hK; clear hK) | (clear hK; clear hK; apply hK; clear hK) | (clear hK; clear hK; clear hK; apply hK; clear hK) | (clear hK; clear hK; clear hK; clear hK; apply hK; clear hK) | (clear hK; clear hK; clear hK; clear hK; clear hK; apply hK; clear hK) | (clear hK; clear hK; clear hK; clear hK; clear hK; clear hK; apply hK; clear hK)))
    (repeat refine jw_seq_k fun K hK => ?_); refine jw_cond rfl (fun hlt => ?_) (fun hlt => ?_)
    · simp at hlt
      (refine jw_skip ?_; simp; (first | (apply hK; clear hK) | (clear hK; apply hK; clear hK) | (clear hK; clear hK; apply hK; clear hK) | (clear hK; clear hK; clear hK; apply hK; clear hK) | (clear hK; clear hK; clear hK; clear hK; apply hK; clear hK) | (clear hK; clear hK; clear hK; clear hK; clear hK; apply hK; clear hK) | (clear hK; clear hK; clear hK; clear hK; clear hK; clear hK; apply hK; clear hK)))
      ((repeat refine jw_seq_k fun K hK => ?_); refine jw_block ?_)
      ((repeat refine jw_seq_k fun K hK => ?_); refine jw_reg ?_; simp; (first | (apply hK; clear hK) | (clear hK; apply hK; clear hK) | (clear hK; clear hK; apply hK; clear hK) | (clear hK; clear hK; clear hK; apply hK; clear hK) | (clear hK; clear hK; clear hK; clear hK; apply hK; clear hK) | (clear hK; clear hK; clear hK; clear hK; clear hK; apply hK; clear hK) | (clear hK; clear hK; clear hK; clear hK; clear hK; clear hK; apply hK; clear hK)))
      have hw := wrap_succ h32 (by omega)
      (repeat refine jw_seq_k fun K hK => ?_); refine jw_cond rfl (fun hb => ?_) (fun hb => ?_)
      · clear hb
        obtain ⟨j, hj⟩ : ∃ j, j = p / 8 := ⟨_, rfl⟩
        obtain ⟨r, hr⟩ : ∃ r, r = p % 8 := ⟨_, rfl⟩
        obtain ⟨q, hq⟩ : ∃ q, q = 2 ^ r := ⟨_, rfl⟩
        have hr8 : r < 8 := by omega
        have hq8 : q < 256 := by
          have := Nat.pow_lt_pow_right (a := 2) (by decide) hr8
          rw [hq]; exact this
        have d1 : IntKind.i64.wrap ((p : Int) / 8) = ((j : Nat) : Int) := by
          rw [wrap_i64 (by omega) (by omega)]; omega
        have d2 : (p : Int).tmod 8 = ((r : Nat) : Int) := by rw [Int.tmod_eq_emod_of_nonneg (by omega)]; omega
        have d3 : IntKind.u8.wrap (2 ^ min r IntKind.u8.bits) = ((q : Nat) : Int) := by
          have e1 : min r IntKind.u8.bits = r := Nat.min_eq_left (by show r ≤ 8; omega)
          rw [e1, hq]
          have e2 : ((2 ^ r : Nat) : Int) = 2 ^ r := by simp
          rw [← e2, ← hq, wrap_u8 (by omega) (by omega)]
        have jx : j < x.length := by omega
        have jl : j < l.length := by omega
        have d4 : bits .xor .u8 (x[j] : Int) (q : Int) = ((x[j] ^^^ q : Nat) : Int) := u8_xor_nat _ _ (hxl _ (List.getElem_mem _)) hq8
        have lM : M.length = l.length := by rw [hM]; simp [hx]
        have gM : M[j]? = some (D.int .u8 (x[j] : Int)) := by rw [hM, List.getElem?_map, List.getElem?_eq_getElem jx]; rfl
        have jM : j < M.length := by omega
        have gM2 : M[j] = D.int .u8 (x[j] : Int) := by rw [List.getElem?_eq_getElem jM] at gM; exact Option.some.inj gM
        (repeat refine jw_seq_k fun K hK => ?_); refine jw_reg_tail 14 mixed (by kernel_rfl) ?_; simp [natsD, wp, d1, d2, d3, lM, gM, gM2, d4, jl, show j + 1 ≤ l.length by omega]
        (first | (apply hK; clear hK) | (clear hK; apply hK; clear hK) | (clear hK; clear hK; apply hK; clear hK) | (clear hK; clear hK; clear hK; apply hK; clear hK) | (clear hK; clear hK; clear hK; clear hK; apply hK; clear hK) | (clear hK; clear hK; clear hK; clear hK; clear hK; apply hK; clear hK) | (clear hK; clear hK; clear hK; clear hK; clear hK; clear hK; apply hK; clear hK))
        ((repeat refine jw_seq_k fun K hK => ?_); refine jw_reg ?_; simp [wrap_succ (show n < 32 by omega) (by omega)]; (first | (apply hK; clear hK) | (clear hK; apply hK; clear hK) | (clear hK; clear hK; apply hK; clear hK) | (clear hK; clear hK; clear hK; apply hK; clear hK) | (clear hK; clear hK; clear hK; clear hK; apply hK; clear hK) | (clear hK; clear hK; clear hK; clear hK; clear hK; apply hK; clear hK) | (clear hK; clear hK; clear hK; clear hK; clear hK; clear hK; apply hK; clear hK)))
        ((repeat refine jw_seq_k fun K hK => ?_); refine jw_reg ?_; simp [hw])
        have hset : M.take j ++ D.int .u8 ((x[j] ^^^ q : Nat) : Int) :: M.drop (j + 1) = (x.set j (x[j] ^^^ q)).map fun b : Nat => D.int .u8 b := by
          rw [put_eq_set (by omega), hM, List.map_set]
        have hpow : v * 2 ^ f ^^^ 2 ^ (8 * j) * q = (v + 2 ^ k) * 2 ^ f := by
          rw [← add_pow_xor hv, mul_pow_xor, hq, ← Nat.pow_add, ← Nat.pow_add, show 8 * j + r = k + f by omega]
        have hx1 : ∀ b ∈ x.set j (x[j] ^^^ q), b < 256 := by
          intro b hb
          rcases List.mem_or_eq_of_mem_set hb with hb | rfl
          · exact hxl b hb
          · exact Nat.xor_lt_two_pow (n := 8) (hxl _ (List.getElem_mem _)) hq8
        have hv1 : v + 2 ^ k < 2 ^ (k + 1) := by rw [Nat.pow_succ]; omega
        have hnv1 : n + 1 = 0 ↔ v + 2 ^ k = 0 := by have := Nat.two_pow_pos k; omega
        have hbig1 : big (x.set j (x[j] ^^^ q)) = big l ^^^ (v + 2 ^ k) * 2 ^ f := by rw [big_set q jx, hbig, Nat.xor_assoc, hpow]
        refine hKL (32 - (k + 1)) _ _ (by omega) ?_ ⟨k + 1, n + 1, v + 2 ^ k, x.set j (x[j] ^^^ q), _, h32, rfl, by omega, by simpa using hx, hx1, hv1, hnv1, hbig1, hset, rfl⟩
        simp [natsD]
      · (refine jw_skip ?_; simp; (first | (apply hK; clear hK) | (clear hK; apply hK; clear hK) | (clear hK; clear hK; apply hK; clear hK) | (clear hK; clear hK; clear hK; apply hK; clear hK) | (clear hK; clear hK; clear hK; clear hK; apply hK; clear hK) | (clear hK; clear hK; clear hK; clear hK; clear hK; apply hK; clear hK) | (clear hK; clear hK; clear hK; clear hK; clear hK; clear hK; apply hK; clear hK)))
        ((repeat refine jw_seq_k fun K hK => ?_); refine jw_reg ?_; simp [hw])
        refine hKL (32 - (k + 1)) _ _ (by omega) ?_ ⟨k + 1, n, v, x, _, h32, rfl, by omega, hx, hxl, by rw [Nat.pow_succ]; omega, hnv, hbig, hM, rfl⟩
        simp [natsD]
    · simp at hlt
      (refine jw_exit ?_; simp; (first | (apply hK; clear hK) | (clear hK; apply hK; clear hK) | (clear hK; clear hK; apply hK; clear hK) | (clear hK; clear hK; clear hK; apply hK; clear hK) | (clear hK; clear hK; clear hK; clear hK; apply hK; clear hK) | (clear hK; clear hK; clear hK; clear hK; clear hK; apply hK; clear hK) | (clear hK; clear hK; clear hK; clear hK; clear hK; clear hK; apply hK; clear hK)))
      ((repeat refine jw_seq_k fun K hK => ?_); refine jw_reg ?_; simp; (first | (apply hK; clear hK) | (clear hK; apply hK; clear hK) | (clear hK; clear hK; apply hK; clear hK) | (clear hK; clear hK; clear hK; apply hK; clear hK) | (clear hK; clear hK; clear hK; clear hK; apply hK; clear hK) | (clear hK; clear hK; clear hK; clear hK; clear hK; apply hK; clear hK) | (clear hK; clear hK; clear hK; clear hK; clear hK; clear hK; apply hK; clear hK)))
      (repeat refine jw_seq_k fun K hK => ?_); refine jw_ret (hQ _ _ (.inr rfl) ⟨5, _, _, rfl, ?_, x, f, v, n, rfl, hx, hxl, ?_, hnv, by omega, hbig⟩)
      · exact frz_tup2 (frz_natsW rfl hM hx rfl) rfl
      · exact Nat.lt_of_lt_of_le hv (Nat.pow_le_pow_right (n := 2) (by decide) hk)
  · ((repeat refine jw_seq_k fun K hK => ?_); refine jw_reg ?_; simp [natsD, h32, show ¬ (k : Int) < 32 by omega]; (first | (apply hK; clear hK) | (clear hK; apply hK; clear hK) | (clear hK; clear hK; apply hK; clear hK) | (clear hK; clear hK; clear hK; apply hK; clear hK) | (clear hK; clear hK; clear hK; clear hK; apply hK; clear hK) | (clear hK; clear hK; clear hK; clear hK; clear hK; apply hK; clear hK) | (clear hK; clear hK; clear hK; clear hK; clear hK; clear hK; apply hK; clear hK)))
    (repeat refine jw_seq_k fun K hK => ?_); refine jw_cond (t := false) rfl (fun h => by cases h) (fun _ => ?_)
    (refine jw_exit ?_; simp; (first | (apply hK; clear hK) | (clear hK; apply hK; clear hK) | (clear hK; clear hK; apply hK; clear hK) | (clear hK; clear hK; clear hK; apply hK; clear hK) | (clear hK; clear hK; clear hK; clear hK; apply hK; clear hK) | (clear hK; clear hK; clear hK; clear hK; clear hK; apply hK; clear hK) | (clear hK; clear hK; clear hK; clear hK; clear hK; clear hK; apply hK; clear hK)))
    ((repeat refine jw_seq_k fun K hK => ?_); refine jw_reg ?_; simp; (first | (apply hK; clear hK) | (clear hK; apply hK; clear hK) | (clear hK; clear hK; apply hK; clear hK) | (clear hK; clear hK; clear hK; apply hK; clear hK) | (clear hK; clear hK; clear hK; clear hK; apply hK; clear hK) | (clear hK; clear hK; clear hK; clear hK; clear hK; apply hK; clear hK) | (clear hK; clear hK; clear hK; clear hK; clear hK; clear hK; apply hK; clear hK)))
    (repeat refine jw_seq_k fun K hK => ?_); refine jw_ret (hQ _ _ (.inr rfl) ⟨5, _, _, rfl, ?_, x, f, v, n, rfl, hx, hxl, ?_, hnv, by omega, hbig⟩)
    · exact frz_tup2 (frz_natsW rfl hM hx rfl) rfl
    · exact Nat.lt_of_lt_of_le hv (Nat.pow_le_pow_right (n := 2) (by decide) hk)

end Go.Proofs.YtjkijjellghlhaaDoor
