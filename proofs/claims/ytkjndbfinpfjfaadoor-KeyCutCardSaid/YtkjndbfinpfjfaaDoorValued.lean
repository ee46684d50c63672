/- Picked, Valued: the walk. -/
import Derived.Test.YtkjndbfinpfjfaaDoorClean
set_option linter.unusedVariables false
set_option linter.unusedSimpArgs false
set_option maxRecDepth 20000
set_option maxHeartbeats 20000000
namespace Go.Proofs.YtkjndbfinpfjfaaDoor
open Go Go.Vm Go.Proofs

def vaD (k i : Int) (L : List Nat) : D := .agg [.int .i64 k, .int .i64 i, .str (bytesS L)]
/-- What Check lets through. -/
def Txt (L : List Nat) : Prop := (∀ b ∈ L, b < 256) ∧ Lib.validD (L.map UInt8.ofNat) = true
theorem txt_nil : Txt [] := ⟨by simp, rfl⟩
theorem Clean.txt {L : List Nat} (h : Clean L) : Txt L := ⟨h.lt, h.valid⟩
def OkV (k i : Int) (L : List Nat) : Prop := Txt L ∧ L.length ≤ 40 ∧ -9223372036854775808 ≤ i ∧ i ≤ 9223372036854775807 ∧ (k = 0 ∧ i = 0 ∧ L = [] ∨ k = 1 ∧ (i = 0 ∨ i = 1) ∧ L = [] ∨ k = 2 ∧ L = [] ∨ k = 3 ∧ i = 0)

theorem pickedG {G : Globals} (x m : Int) (h1 : 0 < m) (h2 : m ≤ 9223372036854775807) : FV Tryd.prog G 14 [.int .i64 x, .int .i64 m] (fun r => r = .int .i64 (x % m)) := by
  have hm : m ≠ 0 := by omega
  have h3 := Int.emod_nonneg x hm
  have h4 := Int.emod_lt_of_pos x h1
  have h5 : x.tmod m = x % m ∨ x.tmod m = x % m - m := by
    rw [Int.tmod_eq_emod]
    split
    · left; omega
    · right; omega
  refine fv_enter Tryd.func14 rfl rfl fun Q hQ => ?_
  ((repeat refine jw_seq_k fun K hK => ?_); refine jw_reg ?_; simp (maxSteps := 1000000) [Tryd.f14]; (first | (apply hK; clear hK) | (clear hK; apply hK; clear hK) | (clear hK; clear hK; apply hK; clear hK) | (clear hK; clear hK; clear hK; apply hK; clear hK) | (clear hK; clear hK; clear hK; clear hK; apply hK; clear hK) | (clear hK; clear hK; clear hK; clear hK; clear hK; apply hK; clear hK) | (clear hK; clear hK; clear hK; clear hK; clear hK; clear hK; apply hK; clear hK)))
  ((repeat refine jw_seq_k fun K hK => ?_); refine jw_reg ?_; simp (maxSteps := 1000000) [hm]; (first | (apply hK; clear hK) | (clear hK; apply hK; clear hK) | (clear hK; clear hK; apply hK; clear hK) | (clear hK; clear hK; clear hK; apply hK; clear hK) | (clear hK; clear hK; clear hK; clear hK; apply hK; clear hK) | (clear hK; clear hK; clear hK; clear hK; clear hK; apply hK; clear hK) | (clear hK; clear hK; clear hK; clear hK; clear hK; clear hK; apply hK; clear hK)))
  ((repeat refine jw_seq_k fun K hK => ?_); refine jw_reg ?_; simp (maxSteps := 1000000); (first | (apply hK; clear hK) | (clear hK; apply hK; clear hK) | (clear hK; clear hK; apply hK; clear hK) | (clear hK; clear hK; clear hK; apply hK; clear hK) | (clear hK; clear hK; clear hK; clear hK; apply hK; clear hK) | (clear hK; clear hK; clear hK; clear hK; clear hK; apply hK; clear hK) | (clear hK; clear hK; clear hK; clear hK; clear hK; clear hK; apply hK; clear hK)))
  (repeat refine jw_seq_k fun K hK => ?_); refine jw_cond rfl (fun ht => ?_) (fun ht => ?_)
  · simp at ht
    ((repeat refine jw_seq_k fun K hK => ?_); refine jw_reg ?_; simp (maxSteps := 1000000); (first | (apply hK; clear hK) | (clear hK; apply hK; clear hK) | (clear hK; clear hK; apply hK; clear hK) | (clear hK; clear hK; clear hK; apply hK; clear hK) | (clear hK; clear hK; clear hK; clear hK; apply hK; clear hK) | (clear hK; clear hK; clear hK; clear hK; clear hK; apply hK; clear hK) | (clear hK; clear hK; clear hK; clear hK; clear hK; clear hK; apply hK; clear hK)))
    (repeat refine jw_seq_k fun K hK => ?_); refine jw_ret ?_
    simp
    refine hQ _ _ (.inr rfl) ⟨5, _, _, rfl, rfl, ?_⟩
    have e : x.tmod m + m = x % m := by omega
    rw [e, wrap_i64 (by omega) (by omega)]
  · simp at ht
    (refine jw_skip ?_; simp; (first | (apply hK; clear hK) | (clear hK; apply hK; clear hK) | (clear hK; clear hK; apply hK; clear hK) | (clear hK; clear hK; clear hK; apply hK; clear hK) | (clear hK; clear hK; clear hK; clear hK; apply hK; clear hK) | (clear hK; clear hK; clear hK; clear hK; clear hK; apply hK; clear hK) | (clear hK; clear hK; clear hK; clear hK; clear hK; clear hK; apply hK; clear hK)))
    ((repeat refine jw_seq_k fun K hK => ?_); refine jw_reg ?_; simp (maxSteps := 1000000); (first | (apply hK; clear hK) | (clear hK; apply hK; clear hK) | (clear hK; clear hK; apply hK; clear hK) | (clear hK; clear hK; clear hK; apply hK; clear hK) | (clear hK; clear hK; clear hK; clear hK; apply hK; clear hK) | (clear hK; clear hK; clear hK; clear hK; clear hK; apply hK; clear hK) | (clear hK; clear hK; clear hK; clear hK; clear hK; clear hK; apply hK; clear hK)))
    (repeat refine jw_seq_k fun K hK => ?_); refine jw_ret ?_
    refine hQ _ _ (.inr rfl) ⟨5, _, _, rfl, rfl, ?_⟩
    have e : x.tmod m = x % m := by omega
    rw [e]

theorem valuedF {G : Globals} (a b : Int) (s : ByteArray) (hb1 : -9223372036854775808 ≤ b) (hb2 : b ≤ 9223372036854775807) (hs : s.size ≤ 9223372036854775807) :
    FV Tryd.prog G 11 [.agg [.int .i64 a, .int .i64 b, .str s]] (fun r => ∃ k i L, OkV k i L ∧ r = vaD k i L) := by
  refine fv_enter Tryd.func11 rfl rfl fun Q hQ => ?_
  ((repeat refine jw_seq_k fun K hK => ?_); refine jw_reg ?_; simp (maxSteps := 1000000) [Tryd.f11]; (first | (apply hK; clear hK) | (clear hK; apply hK; clear hK) | (clear hK; clear hK; apply hK; clear hK) | (clear hK; clear hK; clear hK; apply hK; clear hK) | (clear hK; clear hK; clear hK; clear hK; apply hK; clear hK) | (clear hK; clear hK; clear hK; clear hK; clear hK; apply hK; clear hK) | (clear hK; clear hK; clear hK; clear hK; clear hK; clear hK; apply hK; clear hK)))
  ((repeat refine jw_seq_k fun K hK => ?_); refine jw_c ?_; simp (maxSteps := 1000000))
  refine jl_call (f := 14) rfl rfl rfl rfl rfl (pickedG a 4 (by decide) (by decide)) (by simp [BelL, Bel]) ?_
  rintro r rfl
  simp
  (first | (apply hK; clear hK) | (clear hK; apply hK; clear hK) | (clear hK; clear hK; apply hK; clear hK) | (clear hK; clear hK; clear hK; apply hK; clear hK) | (clear hK; clear hK; clear hK; clear hK; apply hK; clear hK) | (clear hK; clear hK; clear hK; clear hK; clear hK; apply hK; clear hK) | (clear hK; clear hK; clear hK; clear hK; clear hK; clear hK; apply hK; clear hK))
  ((repeat refine jw_seq_k fun K hK => ?_); refine jw_block ?_)
  ((repeat refine jw_seq_k fun K hK => ?_); refine jw_reg ?_; simp (maxSteps := 1000000); (first | (apply hK; clear hK) | (clear hK; apply hK; clear hK) | (clear hK; clear hK; apply hK; clear hK) | (clear hK; clear hK; clear hK; apply hK; clear hK) | (clear hK; clear hK; clear hK; clear hK; apply hK; clear hK) | (clear hK; clear hK; clear hK; clear hK; clear hK; apply hK; clear hK) | (clear hK; clear hK; clear hK; clear hK; clear hK; clear hK; apply hK; clear hK)))
  (repeat refine jw_seq_k fun K hK => ?_); refine jw_cond rfl (fun h1 => ?_) (fun h1 => ?_)
  · ((repeat refine jw_seq_k fun K hK => ?_); refine jw_c ?_; simp (maxSteps := 1000000))
    refine jl_call (f := 14) rfl rfl rfl rfl rfl (pickedG b 2 (by decide) (by decide)) (by simp [BelL, Bel]) ?_
    rintro r rfl
    simp
    (first | (apply hK; clear hK) | (clear hK; apply hK; clear hK) | (clear hK; clear hK; apply hK; clear hK) | (clear hK; clear hK; clear hK; apply hK; clear hK) | (clear hK; clear hK; clear hK; clear hK; apply hK; clear hK) | (clear hK; clear hK; clear hK; clear hK; clear hK; apply hK; clear hK) | (clear hK; clear hK; clear hK; clear hK; clear hK; clear hK; apply hK; clear hK))
    exact jw_ret (hQ _ _ (.inr rfl) ⟨5, _, _, rfl, rfl, 1, b % 2, [], ⟨txt_nil, by simp, by omega, by omega, .inr (.inl ⟨rfl, by omega, rfl⟩)⟩, rfl⟩)
  · simp at h1
    ((repeat refine jw_seq_k fun K hK => ?_); refine jw_reg ?_; simp (maxSteps := 1000000); (first | (apply hK; clear hK) | (clear hK; apply hK; clear hK) | (clear hK; clear hK; apply hK; clear hK) | (clear hK; clear hK; clear hK; apply hK; clear hK) | (clear hK; clear hK; clear hK; clear hK; apply hK; clear hK) | (clear hK; clear hK; clear hK; clear hK; clear hK; apply hK; clear hK) | (clear hK; clear hK; clear hK; clear hK; clear hK; clear hK; apply hK; clear hK)))
    (repeat refine jw_seq_k fun K hK => ?_); refine jw_cond rfl (fun h2 => ?_) (fun h2 => ?_)
    · ((repeat refine jw_seq_k fun K hK => ?_); refine jw_reg ?_; simp (maxSteps := 1000000); (first | (apply hK; clear hK) | (clear hK; apply hK; clear hK) | (clear hK; clear hK; apply hK; clear hK) | (clear hK; clear hK; clear hK; apply hK; clear hK) | (clear hK; clear hK; clear hK; clear hK; apply hK; clear hK) | (clear hK; clear hK; clear hK; clear hK; clear hK; apply hK; clear hK) | (clear hK; clear hK; clear hK; clear hK; clear hK; clear hK; apply hK; clear hK)))
      exact jw_ret (hQ _ _ (.inr rfl) ⟨5, _, _, rfl, rfl, 2, b, [], ⟨txt_nil, by simp, by omega, by omega, .inr (.inr (.inl ⟨rfl, rfl⟩))⟩, rfl⟩)
    · simp at h2
      ((repeat refine jw_seq_k fun K hK => ?_); refine jw_reg ?_; simp (maxSteps := 1000000); (first | (apply hK; clear hK) | (clear hK; apply hK; clear hK) | (clear hK; clear hK; apply hK; clear hK) | (clear hK; clear hK; clear hK; apply hK; clear hK) | (clear hK; clear hK; clear hK; clear hK; apply hK; clear hK) | (clear hK; clear hK; clear hK; clear hK; clear hK; apply hK; clear hK) | (clear hK; clear hK; clear hK; clear hK; clear hK; clear hK; apply hK; clear hK)))
      (repeat refine jw_seq_k fun K hK => ?_); refine jw_cond rfl (fun h3 => ?_) (fun h3 => ?_)
      · ((repeat refine jw_seq_k fun K hK => ?_); refine jw_c ?_; simp (maxSteps := 1000000))
        refine jl_call (f := 24) rfl rfl rfl rfl rfl (cleanF s hs 40 (by decide)) (by simp [BelL, Bel]) ?_
        rintro r ⟨L, hL, hl, rfl⟩
        simp
        (first | (apply hK; clear hK) | (clear hK; apply hK; clear hK) | (clear hK; clear hK; apply hK; clear hK) | (clear hK; clear hK; clear hK; apply hK; clear hK) | (clear hK; clear hK; clear hK; clear hK; apply hK; clear hK) | (clear hK; clear hK; clear hK; clear hK; clear hK; apply hK; clear hK) | (clear hK; clear hK; clear hK; clear hK; clear hK; clear hK; apply hK; clear hK))
        exact jw_ret (hQ _ _ (.inr rfl) ⟨5, _, _, rfl, rfl, 3, 0, L, ⟨hL.txt, hl, by omega, by omega, .inr (.inr (.inr ⟨rfl, rfl⟩))⟩, rfl⟩)
      · simp at h3
        (refine jw_skip ?_; simp; (first | (apply hK; clear hK) | (clear hK; apply hK; clear hK) | (clear hK; clear hK; apply hK; clear hK) | (clear hK; clear hK; clear hK; apply hK; clear hK) | (clear hK; clear hK; clear hK; clear hK; apply hK; clear hK) | (clear hK; clear hK; clear hK; clear hK; clear hK; apply hK; clear hK) | (clear hK; clear hK; clear hK; clear hK; clear hK; clear hK; apply hK; clear hK)))
        ((repeat refine jw_seq_k fun K hK => ?_); refine jw_reg ?_; simp (maxSteps := 1000000); (first | (apply hK; clear hK) | (clear hK; apply hK; clear hK) | (clear hK; clear hK; apply hK; clear hK) | (clear hK; clear hK; clear hK; apply hK; clear hK) | (clear hK; clear hK; clear hK; clear hK; apply hK; clear hK) | (clear hK; clear hK; clear hK; clear hK; clear hK; apply hK; clear hK) | (clear hK; clear hK; clear hK; clear hK; clear hK; clear hK; apply hK; clear hK)))
        exact jw_ret (hQ _ _ (.inr rfl) ⟨5, _, _, rfl, rfl, 0, 0, [], ⟨txt_nil, by simp, by omega, by omega, .inl ⟨rfl, rfl, rfl⟩⟩, rfl⟩)
end Go.Proofs.YtkjndbfinpfjfaaDoor
