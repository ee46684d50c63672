/- sum.More, sum.Of: the walks. -/
import Derived.Test.YtjkijjellghlhaaDoorVmFacts
import Derived.Test.YtjkijjellghlhaaDoorCrc
set_option linter.unusedVariables false
set_option linter.unusedSimpArgs false
set_option maxRecDepth 20000
set_option maxHeartbeats 1000000
namespace Go.Proofs.YtjkijjellghlhaaDoor
open Go Go.Vm Go.Proofs

/-- What the listed variable holds. -/
def tabG : Globals := [(0, (crcTab.map fun n : Nat => (n : Int)).map (D.int .u32))]

def tabTl : List D := ((crcTab.map fun n : Nat => (n : Int)).map (D.int .u32)).tail
theorem tab_look : List.lookup 0 tabG = some (.int .u32 0 :: tabTl) := rfl
theorem tab_len : tabTl.length = 15 := rfl
def tabAt (i : Nat) : Nat := crcTab.getD i 0
theorem tab_get {i : Nat} (h : i < 16) : (D.int .u32 0 :: tabTl)[i]? = some (.int .u32 ((tabAt i : Nat) : Int)) := by
  have : ((crcTab.map fun n : Nat => (n : Int)).map (D.int .u32))[i]? = some (.int .u32 ((crcTab.getD i 0 : Nat) : Int)) := by
    rw [List.getElem?_map, List.getElem?_map, List.getD_eq_getElem?_getD, List.getElem?_eq_getElem (show i < crcTab.length from h)]; rfl
  exact this
theorem fdiv16 (y : Nat) : ((y : Nat) : Int).fdiv (2 ^ min 4 IntKind.u32.bits) = ((y / 16 : Nat) : Int) := by
  show (y : Int).fdiv 16 = _
  rw [Int.fdiv_eq_ediv_of_nonneg _ (by decide)]; omega
theorem and15 {y : Nat} (h : y < 4294967296) : bits .and .u32 (y : Int) 15 = ((y % 16 : Nat) : Int) := by
  have := u32_and_nat y 15 h (by decide)
  rw [show ((15 : Nat) : Int) = 15 from rfl] at this
  rw [this, Nat.and_two_pow_sub_one_eq_mod y 4]

def natsD (l : List Nat) : D := bytesD (l.map fun n : Nat => (n : Int))

theorem sumMore (c : Nat) (hc : c < 4294967296) (l : List Nat) (hl : ∀ b ∈ l, b < 256) (hlen : l.length ≤ 9223372036854775807) :
    FV Tryd.prog tabG 21 [.int .i64 c, natsD l] (fun r => r = .tup [.int .i64 (crcMore c l), .int .i64 0]) := by
  refine fv_enter Tryd.func21 rfl rfl fun Q hQ => ?_
  ((repeat refine jw_seq_k fun K hK => ?_); refine jw_reg ?_; simp [Tryd.f21]; (first | (apply hK; clear hK) | (clear hK; apply hK; clear hK) | (clear hK; clear hK; apply hK; clear hK) | (clear hK; clear hK; clear hK; apply hK; clear hK) | (clear hK; clear hK; clear hK; clear hK; apply hK; clear hK) | (clear hK; clear hK; clear hK; clear hK; clear hK; apply hK; clear hK) | (clear hK; clear hK; clear hK; clear hK; clear hK; clear hK; apply hK; clear hK)))
  have e1 : IntKind.u64.wrap (c : Int) = c := wrap_u64 (by omega) (by omega)
  have e2 : (c : Int).fdiv (2 ^ min 32 IntKind.u64.bits) = 0 := by
    show (c : Int).fdiv 4294967296 = 0
    rw [Int.fdiv_eq_ediv_of_nonneg _ (by decide)]; omega
  ((repeat refine jw_seq_k fun K hK => ?_); refine jw_reg ?_; simp [e1, e2]; (first | (apply hK; clear hK) | (clear hK; apply hK; clear hK) | (clear hK; clear hK; apply hK; clear hK) | (clear hK; clear hK; clear hK; apply hK; clear hK) | (clear hK; clear hK; clear hK; clear hK; apply hK; clear hK) | (clear hK; clear hK; clear hK; clear hK; clear hK; apply hK; clear hK) | (clear hK; clear hK; clear hK; clear hK; clear hK; clear hK; apply hK; clear hK)))
  (repeat refine jw_seq_k fun K hK => ?_); refine jw_cond (t := false) rfl (fun h => by cases h) (fun _ => ?_)
  (refine jw_skip ?_; simp; (first | (apply hK; clear hK) | (clear hK; apply hK; clear hK) | (clear hK; clear hK; apply hK; clear hK) | (clear hK; clear hK; clear hK; apply hK; clear hK) | (clear hK; clear hK; clear hK; clear hK; apply hK; clear hK) | (clear hK; clear hK; clear hK; clear hK; clear hK; apply hK; clear hK) | (clear hK; clear hK; clear hK; clear hK; clear hK; clear hK; apply hK; clear hK)))
  have e3 : IntKind.u32.wrap (c : Int) = c := wrap_u32 (by omega) (by omega)
  have e4 : bits .xor .u32 4294967295 (c : Int) = ((4294967295 ^^^ c : Nat) : Int) := u32_xor_nat 4294967295 c (by decide) hc
  have e5 : (if IntKind.u32.signed = true then (-1 : Int) else IntKind.u32.max) = 4294967295 := rfl
  ((repeat refine jw_seq_k fun K hK => ?_); refine jw_reg ?_; simp [e3, e5, e4]; (first | (apply hK; clear hK) | (clear hK; apply hK; clear hK) | (clear hK; clear hK; apply hK; clear hK) | (clear hK; clear hK; clear hK; apply hK; clear hK) | (clear hK; clear hK; clear hK; clear hK; apply hK; clear hK) | (clear hK; clear hK; clear hK; clear hK; clear hK; apply hK; clear hK) | (clear hK; clear hK; clear hK; clear hK; clear hK; clear hK; apply hK; clear hK)))
  have hc0 : 4294967295 ^^^ c < 4294967296 := Nat.xor_lt_two_pow (n := 32) (by decide) hc
  ((repeat refine jw_seq_k fun K hK => ?_); refine jw_reg ?_; simp [natsD]; (first | (apply hK; clear hK) | (clear hK; apply hK; clear hK) | (clear hK; clear hK; apply hK; clear hK) | (clear hK; clear hK; clear hK; apply hK; clear hK) | (clear hK; clear hK; clear hK; clear hK; apply hK; clear hK) | (clear hK; clear hK; clear hK; clear hK; clear hK; apply hK; clear hK) | (clear hK; clear hK; clear hK; clear hK; clear hK; clear hK; apply hK; clear hK)))
  ((repeat refine jw_seq_k fun K hK => ?_); refine jw_block ?_)
  (repeat refine jw_seq_k fun K hK => ?_); refine jw_loop_k (fun n s => ∃ (k x : Nat), k ≤ l.length ∧ l.length - k = n ∧ x < 4294967296 ∧ crcRaw (4294967295 ^^^ c) (l.take k) = x ∧
      s = ⟨[.any, .any, .any, .any, .any, .any, .int .u32 x, .any, .any, .any, .any, .any, .any, .any, .any, .any, natsD l, .int .i64 (l.length : Nat), .int .i64 k] ++ List.replicate 25 .any, []⟩)
    (sl := [.any, .any, .any, .any, .any, .any, .int .u32 ((4294967295 ^^^ c : Nat) : Int), .any, .any, .any, .any, .any, .any, .any, .any, .any, natsD l, .int .i64 (l.length : Nat), .int .i64 (0 : Nat)] ++ List.replicate 25 .any) (by simp [natsD])
    ⟨0, 4294967295 ^^^ c, by simp, rfl, hc0, rfl, by simp⟩ ?_
  rintro n s ⟨k, x, hk, rfl, hx, hcr, rfl⟩ KL hKL
  ((repeat refine jw_seq_k fun K hK => ?_); refine jw_reg ?_; simp; (first | (apply hK; clear hK) | (clear hK; apply hK; clear hK) | (clear hK; clear hK; apply hK; clear hK) | (clear hK; clear hK; clear hK; apply hK; clear hK) | (clear hK; clear hK; clear hK; clear hK; apply hK; clear hK) | (clear hK; clear hK; clear hK; clear hK; clear hK; apply hK; clear hK) | (clear hK; clear hK; clear hK; clear hK; clear hK; clear hK; apply hK; clear hK)))
  (repeat refine jw_seq_k fun K hK => ?_); refine jw_cond rfl (fun hlt => ?_) (fun hlt => ?_)
  · simp at hlt
    (refine jw_skip ?_; simp; (first | (apply hK; clear hK) | (clear hK; apply hK; clear hK) | (clear hK; clear hK; apply hK; clear hK) | (clear hK; clear hK; clear hK; apply hK; clear hK) | (clear hK; clear hK; clear hK; clear hK; apply hK; clear hK) | (clear hK; clear hK; clear hK; clear hK; clear hK; apply hK; clear hK) | (clear hK; clear hK; clear hK; clear hK; clear hK; clear hK; apply hK; clear hK)))
    ((repeat refine jw_seq_k fun K hK => ?_); refine jw_block ?_)
    ((repeat refine jw_seq_k fun K hK => ?_); refine jw_reg ?_; simp [natsD, hlt]; (first | (apply hK; clear hK) | (clear hK; apply hK; clear hK) | (clear hK; clear hK; apply hK; clear hK) | (clear hK; clear hK; clear hK; apply hK; clear hK) | (clear hK; clear hK; clear hK; clear hK; apply hK; clear hK) | (clear hK; clear hK; clear hK; clear hK; clear hK; apply hK; clear hK) | (clear hK; clear hK; clear hK; clear hK; clear hK; clear hK; apply hK; clear hK)))
    have hb := hl l[k] (List.getElem_mem _)
    have f1 : IntKind.u32.wrap ((l[k] : Nat) : Int) = (l[k] : Nat) := wrap_u32 (by omega) (by omega)
    have f2 : bits .xor .u32 (x : Int) ((l[k] : Nat) : Int) = ((x ^^^ l[k] : Nat) : Int) := u32_xor_nat x l[k] hx (by omega)
    ((repeat refine jw_seq_k fun K hK => ?_); refine jw_reg ?_; simp [f1, f2]; (first | (apply hK; clear hK) | (clear hK; apply hK; clear hK) | (clear hK; clear hK; apply hK; clear hK) | (clear hK; clear hK; clear hK; apply hK; clear hK) | (clear hK; clear hK; clear hK; clear hK; apply hK; clear hK) | (clear hK; clear hK; clear hK; clear hK; clear hK; apply hK; clear hK) | (clear hK; clear hK; clear hK; clear hK; clear hK; clear hK; apply hK; clear hK)))
    have hy : x ^^^ l[k] < 4294967296 := Nat.xor_lt_two_pow (n := 32) hx (by omega)
    generalize hyx : x ^^^ l[k] = y at hy
    have step : ∀ y : Nat, y < 4294967296 → ∃ q r : Nat, ((y : Nat) : Int).fdiv (2 ^ min 4 IntKind.u32.bits) = q ∧ bits .and .u32 (y : Int) 15 = r ∧ r < 16 ∧
        bits .xor .u32 (q : Int) ((tabAt r : Nat) : Int) = ((nib y : Nat) : Int) := fun y hy =>
      ⟨y / 16, y % 16, fdiv16 y, and15 hy, Nat.mod_lt _ (by decide), u32_xor_nat _ _ (by omega) (tab_lt _)⟩
    obtain ⟨q, r, g1, g2, g3, g4⟩ := step y hy
    have ri : (r : Int) < 16 := by omega
    ((repeat refine jw_seq_k fun K hK => ?_); refine jw_reg ?_; simp [g1, g2, tab_look, tab_len, tab_get g3, g3, g4, ri]; (first | (apply hK; clear hK) | (clear hK; apply hK; clear hK) | (clear hK; clear hK; apply hK; clear hK) | (clear hK; clear hK; clear hK; apply hK; clear hK) | (clear hK; clear hK; clear hK; clear hK; apply hK; clear hK) | (clear hK; clear hK; clear hK; clear hK; clear hK; apply hK; clear hK) | (clear hK; clear hK; clear hK; clear hK; clear hK; clear hK; apply hK; clear hK)))
    obtain ⟨q2, r2, k1, k2, k3, k4⟩ := step (nib y) (nib_lt hy)
    have ri2 : (r2 : Int) < 16 := by omega
    ((repeat refine jw_seq_k fun K hK => ?_); refine jw_reg ?_; simp [k1, k2, tab_look, tab_len, tab_get k3, k3, k4, ri2]; (first | (apply hK; clear hK) | (clear hK; apply hK; clear hK) | (clear hK; clear hK; apply hK; clear hK) | (clear hK; clear hK; clear hK; apply hK; clear hK) | (clear hK; clear hK; clear hK; clear hK; apply hK; clear hK) | (clear hK; clear hK; clear hK; clear hK; clear hK; apply hK; clear hK) | (clear hK; clear hK; clear hK; clear hK; clear hK; clear hK; apply hK; clear hK)))
    have hw := wrap_succ hlt (by omega)
    ((repeat refine jw_seq_k fun K hK => ?_); refine jw_reg ?_; simp [hw])
    refine hKL (l.length - (k + 1)) _ _ (by omega) ?_ ⟨k + 1, nib (nib y), hlt, rfl, nib_lt (nib_lt hy), ?_, rfl⟩
    · simp [natsD]
    · rw [List.take_succ_eq_append_getElem hlt]
      unfold crcRaw at hcr ⊢
      rw [List.foldl_append, hcr]
      subst hyx; rfl
  · simp at hlt
    (refine jw_exit ?_; simp; (first | (apply hK; clear hK) | (clear hK; apply hK; clear hK) | (clear hK; clear hK; apply hK; clear hK) | (clear hK; clear hK; clear hK; apply hK; clear hK) | (clear hK; clear hK; clear hK; clear hK; apply hK; clear hK) | (clear hK; clear hK; clear hK; clear hK; clear hK; apply hK; clear hK) | (clear hK; clear hK; clear hK; clear hK; clear hK; clear hK; apply hK; clear hK)))
    rw [List.take_of_length_le hlt] at hcr
    have e6 : bits .xor .u32 4294967295 (x : Int) = ((4294967295 ^^^ x : Nat) : Int) := u32_xor_nat 4294967295 x (by decide) hx
    have e7 : 4294967295 ^^^ x < 4294967296 := Nat.xor_lt_two_pow (n := 32) (by decide) hx
    ((repeat refine jw_seq_k fun K hK => ?_); refine jw_reg ?_; simp [e5, e6, wrap_i64 (n := ((4294967295 ^^^ x : Nat) : Int)) (by omega) (by omega)]; (first | (apply hK; clear hK) | (clear hK; apply hK; clear hK) | (clear hK; clear hK; apply hK; clear hK) | (clear hK; clear hK; clear hK; apply hK; clear hK) | (clear hK; clear hK; clear hK; clear hK; apply hK; clear hK) | (clear hK; clear hK; clear hK; clear hK; clear hK; apply hK; clear hK) | (clear hK; clear hK; clear hK; clear hK; clear hK; clear hK; apply hK; clear hK)))
    (repeat refine jw_seq_k fun K hK => ?_); refine jw_ret (hQ _ _ (.inr rfl) ⟨5, _, _, rfl, rfl, ?_⟩)
    rw [← hcr]; rfl

@[simp] theorem bel_nats (l : List Nat) (n : Nat) : Bel n (natsD l) := belL_int .u8 _ n

theorem sumOf (l : List Nat) (hl : ∀ b ∈ l, b < 256) (hlen : l.length ≤ 9223372036854775807) :
    FV Tryd.prog tabG 17 [natsD l] (fun r => r = .int .i64 (crcMore 0 l)) := by
  refine fv_enter Tryd.func17 rfl rfl fun Q hQ => ?_
  ((repeat refine jw_seq_k fun K hK => ?_); refine jw_reg ?_; simp [Tryd.f17]; (first | (apply hK; clear hK) | (clear hK; apply hK; clear hK) | (clear hK; clear hK; apply hK; clear hK) | (clear hK; clear hK; clear hK; apply hK; clear hK) | (clear hK; clear hK; clear hK; clear hK; apply hK; clear hK) | (clear hK; clear hK; clear hK; clear hK; clear hK; apply hK; clear hK) | (clear hK; clear hK; clear hK; clear hK; clear hK; clear hK; apply hK; clear hK)))
  ((repeat refine jw_seq_k fun K hK => ?_); refine jw_c ?_; simp)
  refine jl_call (f := 21) rfl rfl rfl rfl rfl (sumMore 0 (by decide) l hl hlen) (by simp [BelL, Bel]) ?_
  rintro r rfl
  simp
  (first | (apply hK; clear hK) | (clear hK; apply hK; clear hK) | (clear hK; clear hK; apply hK; clear hK) | (clear hK; clear hK; clear hK; apply hK; clear hK) | (clear hK; clear hK; clear hK; clear hK; apply hK; clear hK) | (clear hK; clear hK; clear hK; clear hK; clear hK; apply hK; clear hK) | (clear hK; clear hK; clear hK; clear hK; clear hK; clear hK; apply hK; clear hK))
  ((repeat refine jw_seq_k fun K hK => ?_); refine jw_reg ?_; simp; (first | (apply hK; clear hK) | (clear hK; apply hK; clear hK) | (clear hK; clear hK; apply hK; clear hK) | (clear hK; clear hK; clear hK; apply hK; clear hK) | (clear hK; clear hK; clear hK; clear hK; apply hK; clear hK) | (clear hK; clear hK; clear hK; clear hK; clear hK; apply hK; clear hK) | (clear hK; clear hK; clear hK; clear hK; clear hK; clear hK; apply hK; clear hK)))
  exact jw_ret (hQ _ _ (.inr rfl) ⟨5, _, _, rfl, rfl, rfl⟩)
end Go.Proofs.YtjkijjellghlhaaDoor
