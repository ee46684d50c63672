/- Picked, Valued: the walk. -/
import Derived.Test.YtmgoekfgdgejiaaDoorClean
set_option linter.unusedVariables false
set_option linter.unusedSimpArgs false
set_option maxRecDepth 20000
set_option maxHeartbeats 20000000
namespace Go.Proofs.YtmgoekfgdgejiaaDoor
open Go Go.Vm Go.Proofs

def vaD (k i : Int) (L : List Nat) : D := .agg [.int .i64 k, .int .i64 i, .str (bytesS L)]
/-- What Check lets through. -/
def Txt (L : List Nat) : Prop := (∀ b ∈ L, b < 256) ∧ Lib.validD (L.map UInt8.ofNat) = true
theorem txt_nil : Txt [] := ⟨by simp, rfl⟩
theorem Clean.txt {L : List Nat} (h : Clean L) : Txt L := ⟨h.lt, h.valid⟩
def OkV (k i : Int) (L : List Nat) : Prop := Txt L ∧ L.length ≤ 40 ∧ -9223372036854775808 ≤ i ∧ i ≤ 9223372036854775807 ∧ (k = 0 ∧ i = 0 ∧ L = [] ∨ k = 1 ∧ (i = 0 ∨ i = 1) ∧ L = [] ∨ k = 2 ∧ L = [] ∨ k = 3 ∧ i = 0)

theorem pickedG {G : Globals} (x m : Int) (h1 : 0 < m) (h2 : m ≤ 9223372036854775807) : FV Tryd.prog G 8 [.int .i64 x, .int .i64 m] (fun r => r = .int .i64 (x % m)) := by
  have hm : m ≠ 0 := by omega
  have h3 := Int.emod_nonneg x hm
  have h4 := Int.emod_lt_of_pos x h1
  have h5 : x.tmod m = x % m ∨ x.tmod m = x % m - m := by
    rw [Int.tmod_eq_emod]
    split
    · left; omega
    · right; omega
  refine fv_enter Tryd.func8 rfl rfl fun Q hQ => ?_
  ((repeat refine jw_seq_k fun K hK => ?_); refine jw_reg ?_; simp (maxSteps := 1000000) [Tryd.f8]; (first | (apply hK; clear hK) | (clear hK; apply hK; clear hK) | (clear hK; clear hK; apply hK; clear hK) | (clear hK; clear hK; clear hK; apply hK; clear hK) | (clear hK; clear hK; clear hK; clear hK; apply hK; clear hK) | (clear hK; clear hK; clear hK; clear hK; clear hK; apply hK; clear hK) | (clear hK; clear hK; clear hK; clear hK; clear hK; clear hK; apply hK; clear hK)))
  ((repeat refine jw_seq_k fun K hK => ?_); refine jw_reg ?_; simp (maxSteps := 1000000) [hm]; (first | (apply hK; clear hK) | (clear hK; apply hK; clear hK) | (clear hK; clear hK; apply hK; clear hK) | (clear hK; clear hK; clear hK; apply hK; clear hK) | (clear hK; clear hK; clear hK; clear hK; apply hK; clear hK) | (clear hK; clear hK; clear hK; clear hK; clear hK; apply hK; clear hK) | (clear hK; clear hK; clear hK; clear hK; clear hK; clear hK; apply hK; clear hK)))
  ((repeat refine jw_seq_k fun K hK => ?_); refine jw_reg ?_; simp (maxSteps := 1000000); (first | (apply hK; clear hK) | (clear hK; apply hK; clear hK) | (clear hK; clear hK; apply hK; clear hK) | (clear hK; clear hK; clear hK; apply hK; clear hK) | (clear hK; clear hK; clear hK; clear hK; apply hK; clear hK) | (clear hK; clear hK; clear hK; clear hK; clear hK; apply hK; clear hK) | (clear hK; clear hK; clear hK; clear hK; clear hK; clear hK; apply hK; clear hK)))
  (repeat refine jw_seq_k fun K hK => ?_); refine jw_cond rfl (fun ht => ?_) (fun ht => ?_)
  · simp at ht
    ((repeat refine jw_seq_k fun K hK => ?_); refine jw_reg ?_; simp (maxSteps := 1000000); (first | (apply hK; clear hK) | (clear hK; apply hK; clear hK) | (clear hK; clear hK; apply hK; clear hK) | (clear hK; clear hK; clear hK; apply hK; clear hK) | (clear hK; clear hK; clear hK; clear hK; apply hK; clear hK) | (clear hK; clear hK; clear hK; clear hK; clear hK; apply hK; clear hK) | (clear hK; clear hK; clear hK; clear hK; clear hK; clear hK; apply hK; clear hK)))
    (repeat refine jw_seq_k fun K hK => ?_); refine jw_ret ?_
    simp
    refine hQ _ _ (.inr rfl) ⟨5, _, _, rfl, rfl, ?_⟩
    have e : x.tmod m + m = x % m := by omega
    rw [e, wrap_i64 (by omega) (by omega)]
  · simp at ht
    (refine jw_skip ?_; simp; (first | (apply hK; clear hK) | (clear hK; apply hK; clear hK) | (clear hK; clear hK; apply hK; clear hK) | (clear hK; clear hK; clear hK; apply hK; clear hK) | (clear hK; clear hK; clear hK; clear hK; apply hK; clear hK) | (clear hK; clear hK; clear hK; clear hK; clear hK; apply hK; clear hK) | (clear hK; clear hK; clear hK; clear hK; clear hK; clear hK; apply hK; clear hK)))
    ((repeat refine jw_seq_k fun K hK => ?_); refine jw_reg ?_; simp (maxSteps := 1000000); (first | (apply hK; clear hK) | (clear hK; apply hK; clear hK) | (clear hK; clear hK; apply hK; clear hK) | (clear hK; clear hK; clear hK; apply hK; clear hK) | (clear hK; clear hK; clear hK; clear hK; apply hK; clear hK) | (clear hK; clear hK; clear hK; clear hK; clear hK; apply hK; clear hK) | (clear hK; clear hK; clear hK; clear hK; clear hK; clear hK; apply hK; clear hK)))
    (repeat refine jw_seq_k fun K hK => ?_); refine jw_ret ?_
    refine hQ _ _ (.inr rfl) ⟨5, _, _, rfl, rfl, ?_⟩
    have e : x.tmod m = x % m := by omega
    rw [e]

end Go.Proofs.YtmgoekfgdgejiaaDoor
