/- value.fold, And, Or, Not; Picked. -/
import Derived.Test.YtkokinckknhfiaaVmFacts
set_option linter.unusedVariables false
set_option linter.unusedSimpArgs false
namespace Go.Proofs.Ytkokinckknhfiaa
open Go Go.Vm Go.Proofs

def odd3 (x : Int) : Bool := decide (x < 0) || decide (2 < x)
def foldD (op : Int → Int → Int) (c : Int) (l : List Int) : D := if l.any odd3 then .tup [.int .i64 0, .int .i64 2] else .tup [.int .i64 (l.foldl op c), .int .i64 0]

theorem fold {g : Nat} {op : Int → Int → Int} (hg : ∀ x y, FV Try.prog [] g [.int .i64 x, .int .i64 y] (fun r => r = .int .i64 (op x y))) (c : Int) (l : List Int) (hl : l.length ≤ 9223372036854775807) :
    FV Try.prog [] 28 [.int .i64 c, numsD .i64 l, .fn (.func g) [] []] (fun r => r = foldD op c l) := by
  refine fv_enter Try.func28 rfl rfl fun Q hQ => ?_
  ((repeat refine jw_seq_k fun K hK => ?_); refine jw_reg ?_; simp [Try.f28]; (first | (apply hK; clear hK) | (clear hK; apply hK; clear hK) | (clear hK; clear hK; apply hK; clear hK) | (clear hK; clear hK; clear hK; apply hK; clear hK) | (clear hK; clear hK; clear hK; clear hK; apply hK; clear hK) | (clear hK; clear hK; clear hK; clear hK; clear hK; apply hK; clear hK) | (clear hK; clear hK; clear hK; clear hK; clear hK; clear hK; apply hK; clear hK)))
  ((repeat refine jw_seq_k fun K hK => ?_); refine jw_reg ?_; simp; (first | (apply hK; clear hK) | (clear hK; apply hK; clear hK) | (clear hK; clear hK; apply hK; clear hK) | (clear hK; clear hK; clear hK; apply hK; clear hK) | (clear hK; clear hK; clear hK; clear hK; apply hK; clear hK) | (clear hK; clear hK; clear hK; clear hK; clear hK; apply hK; clear hK) | (clear hK; clear hK; clear hK; clear hK; clear hK; clear hK; apply hK; clear hK)))
  ((repeat refine jw_seq_k fun K hK => ?_); refine jw_reg ?_; simp; (first | (apply hK; clear hK) | (clear hK; apply hK; clear hK) | (clear hK; clear hK; apply hK; clear hK) | (clear hK; clear hK; clear hK; apply hK; clear hK) | (clear hK; clear hK; clear hK; clear hK; apply hK; clear hK) | (clear hK; clear hK; clear hK; clear hK; clear hK; apply hK; clear hK) | (clear hK; clear hK; clear hK; clear hK; clear hK; clear hK; apply hK; clear hK)))
  ((repeat refine jw_seq_k fun K hK => ?_); refine jw_block ?_)
  (repeat refine jw_seq_k fun K hK => ?_); refine jw_loop_k (fun n s => ∃ (k : Nat) (acc : Int) (bad : Bool), k ≤ l.length ∧ l.length - k = n ∧ acc = (l.take k).foldl op c ∧ bad = (l.take k).any odd3 ∧
      s = ⟨[.any, .any, .fn (.func g) [] [], .any, .any, .any, .any, .any, .int .i64 acc, .bool bad, .any, .any, .any, numsD .i64 l, .int .i64 (l.length : Nat), .int .i64 k] ++ List.replicate 19 .any, []⟩)
    (sl := [.any, .any, .fn (.func g) [] [], .any, .any, .any, .any, .any, .int .i64 c, .bool false, .any, .any, .any, numsD .i64 l, .int .i64 (l.length : Nat), .int .i64 (0 : Nat)] ++ List.replicate 19 .any) (by simp)
    ⟨0, c, false, by simp, rfl, by simp, by simp, by simp⟩ ?_
  rintro n s ⟨k, acc, bad, hk, rfl, hacc, hbad, rfl⟩ KL hKL
  ((repeat refine jw_seq_k fun K hK => ?_); refine jw_reg ?_; simp; (first | (apply hK; clear hK) | (clear hK; apply hK; clear hK) | (clear hK; clear hK; apply hK; clear hK) | (clear hK; clear hK; clear hK; apply hK; clear hK) | (clear hK; clear hK; clear hK; clear hK; apply hK; clear hK) | (clear hK; clear hK; clear hK; clear hK; clear hK; apply hK; clear hK) | (clear hK; clear hK; clear hK; clear hK; clear hK; clear hK; apply hK; clear hK)))
  (repeat refine jw_seq_k fun K hK => ?_); refine jw_cond rfl (fun hlt => ?_) (fun hlt => ?_)
  · simp at hlt
    (refine jw_skip ?_; simp; (first | (apply hK; clear hK) | (clear hK; apply hK; clear hK) | (clear hK; clear hK; apply hK; clear hK) | (clear hK; clear hK; clear hK; apply hK; clear hK) | (clear hK; clear hK; clear hK; clear hK; apply hK; clear hK) | (clear hK; clear hK; clear hK; clear hK; clear hK; apply hK; clear hK) | (clear hK; clear hK; clear hK; clear hK; clear hK; clear hK; apply hK; clear hK)))
    ((repeat refine jw_seq_k fun K hK => ?_); refine jw_block ?_)
    ((repeat refine jw_seq_k fun K hK => ?_); refine jw_reg ?_; simp [hlt]; (first | (apply hK; clear hK) | (clear hK; apply hK; clear hK) | (clear hK; clear hK; apply hK; clear hK) | (clear hK; clear hK; clear hK; apply hK; clear hK) | (clear hK; clear hK; clear hK; clear hK; apply hK; clear hK) | (clear hK; clear hK; clear hK; clear hK; clear hK; apply hK; clear hK) | (clear hK; clear hK; clear hK; clear hK; clear hK; clear hK; apply hK; clear hK)))
    have step : ∀ (bad' : Bool) (s' : St), bad' = (l.take (k + 1)).any odd3 → Wk s'.sl ([.any, .any, .fn (.func g) [] [], .any, .any, .any, .any, .any, .int .i64 (op acc l[k]), .bool bad', .any, .any, .any, numsD .i64 l, .int .i64 (l.length : Nat), .int .i64 ((k + 1 : Nat) : Int)] ++ List.replicate 19 .any) → s'.σ = [] → KL s' := by
      intro bad' s' hb hw hσ
      refine hKL (l.length - (k + 1)) _ _ (by omega) hw ⟨k + 1, _, bad', hlt, rfl, ?_, hb, by rw [hσ]⟩
      rw [List.take_succ_eq_append_getElem hlt, List.foldl_append, ← hacc]; rfl
    have hany : (l.take (k + 1)).any odd3 = (bad || odd3 l[k]) := by
      rw [List.take_succ_eq_append_getElem hlt, List.any_append, ← hbad]; simp
    have hw := wrap_succ hlt (by omega)
    cases bad with
    | true =>
      ((repeat refine jw_seq_k fun K hK => ?_); refine jw_reg ?_; simp; (first | (apply hK; clear hK) | (clear hK; apply hK; clear hK) | (clear hK; clear hK; apply hK; clear hK) | (clear hK; clear hK; clear hK; apply hK; clear hK) | (clear hK; clear hK; clear hK; clear hK; apply hK; clear hK) | (clear hK; clear hK; clear hK; clear hK; clear hK; apply hK; clear hK) | (clear hK; clear hK; clear hK; clear hK; clear hK; clear hK; apply hK; clear hK)))
      ((repeat refine jw_seq_k fun K hK => ?_); refine jw_c ?_; simp)
      refine jl_call (f := g) rfl rfl rfl rfl rfl (hg acc l[k]) (by simp [BelL, Bel]) ?_
      rintro r rfl
      simp
      (first | (apply hK; clear hK) | (clear hK; apply hK; clear hK) | (clear hK; clear hK; apply hK; clear hK) | (clear hK; clear hK; clear hK; apply hK; clear hK) | (clear hK; clear hK; clear hK; clear hK; apply hK; clear hK) | (clear hK; clear hK; clear hK; clear hK; clear hK; apply hK; clear hK) | (clear hK; clear hK; clear hK; clear hK; clear hK; clear hK; apply hK; clear hK))
      ((repeat refine jw_seq_k fun K hK => ?_); refine jw_reg ?_; simp [hw])
      exact step true _ (by rw [hany]; rfl) (by simp) rfl
    | false =>
      by_cases h1 : l[k] < 0
      · ((repeat refine jw_seq_k fun K hK => ?_); refine jw_reg ?_; simp [h1]; (first | (apply hK; clear hK) | (clear hK; apply hK; clear hK) | (clear hK; clear hK; apply hK; clear hK) | (clear hK; clear hK; clear hK; apply hK; clear hK) | (clear hK; clear hK; clear hK; clear hK; apply hK; clear hK) | (clear hK; clear hK; clear hK; clear hK; clear hK; apply hK; clear hK) | (clear hK; clear hK; clear hK; clear hK; clear hK; clear hK; apply hK; clear hK)))
        ((repeat refine jw_seq_k fun K hK => ?_); refine jw_c ?_; simp)
        refine jl_call (f := g) rfl rfl rfl rfl rfl (hg acc l[k]) (by simp [BelL, Bel]) ?_
        rintro r rfl
        simp
        (first | (apply hK; clear hK) | (clear hK; apply hK; clear hK) | (clear hK; clear hK; apply hK; clear hK) | (clear hK; clear hK; clear hK; apply hK; clear hK) | (clear hK; clear hK; clear hK; clear hK; apply hK; clear hK) | (clear hK; clear hK; clear hK; clear hK; clear hK; apply hK; clear hK) | (clear hK; clear hK; clear hK; clear hK; clear hK; clear hK; apply hK; clear hK))
        ((repeat refine jw_seq_k fun K hK => ?_); refine jw_reg ?_; simp [hw])
        exact step true _ (by rw [hany]; simp [odd3, h1]) (by simp) rfl
      · ((repeat refine jw_seq_k fun K hK => ?_); refine jw_reg ?_; simp [h1]; (first | (apply hK; clear hK) | (clear hK; apply hK; clear hK) | (clear hK; clear hK; apply hK; clear hK) | (clear hK; clear hK; clear hK; apply hK; clear hK) | (clear hK; clear hK; clear hK; clear hK; apply hK; clear hK) | (clear hK; clear hK; clear hK; clear hK; clear hK; apply hK; clear hK) | (clear hK; clear hK; clear hK; clear hK; clear hK; clear hK; apply hK; clear hK)))
        ((repeat refine jw_seq_k fun K hK => ?_); refine jw_c ?_; simp)
        refine jl_call (f := g) rfl rfl rfl rfl rfl (hg acc l[k]) (by simp [BelL, Bel]) ?_
        rintro r rfl
        simp
        (first | (apply hK; clear hK) | (clear hK; apply hK; clear hK) | (clear hK; clear hK; apply hK; clear hK) | (clear hK; clear hK; clear hK; apply hK; clear hK) | (clear hK; clear hK; clear hK; clear hK; apply hK; clear hK) | (clear hK; clear hK; clear hK; clear hK; clear hK; apply hK; clear hK) | (clear hK; clear hK; clear hK; clear hK; clear hK; clear hK; apply hK; clear hK))
        ((repeat refine jw_seq_k fun K hK => ?_); refine jw_reg ?_; simp [hw])
        exact step (decide (2 < l[k])) _ (by rw [hany]; simp [odd3, h1]) (by simp) rfl
  · simp at hlt
    (refine jw_exit ?_; simp; (first | (apply hK; clear hK) | (clear hK; apply hK; clear hK) | (clear hK; clear hK; apply hK; clear hK) | (clear hK; clear hK; clear hK; apply hK; clear hK) | (clear hK; clear hK; clear hK; clear hK; apply hK; clear hK) | (clear hK; clear hK; clear hK; clear hK; clear hK; apply hK; clear hK) | (clear hK; clear hK; clear hK; clear hK; clear hK; clear hK; apply hK; clear hK)))
    rw [List.take_of_length_le hlt] at hacc hbad
    ((repeat refine jw_seq_k fun K hK => ?_); refine jw_reg ?_; simp; (first | (apply hK; clear hK) | (clear hK; apply hK; clear hK) | (clear hK; clear hK; apply hK; clear hK) | (clear hK; clear hK; clear hK; apply hK; clear hK) | (clear hK; clear hK; clear hK; clear hK; apply hK; clear hK) | (clear hK; clear hK; clear hK; clear hK; clear hK; apply hK; clear hK) | (clear hK; clear hK; clear hK; clear hK; clear hK; clear hK; apply hK; clear hK)))
    (repeat refine jw_seq_k fun K hK => ?_); refine jw_cond rfl (fun ht => ?_) (fun ht => ?_)
    · ((repeat refine jw_seq_k fun K hK => ?_); refine jw_reg ?_; simp; (first | (apply hK; clear hK) | (clear hK; apply hK; clear hK) | (clear hK; clear hK; apply hK; clear hK) | (clear hK; clear hK; clear hK; apply hK; clear hK) | (clear hK; clear hK; clear hK; clear hK; apply hK; clear hK) | (clear hK; clear hK; clear hK; clear hK; clear hK; apply hK; clear hK) | (clear hK; clear hK; clear hK; clear hK; clear hK; clear hK; apply hK; clear hK)))
      (repeat refine jw_seq_k fun K hK => ?_); refine jw_ret ?_
      simp
      refine hQ _ _ (.inr rfl) ⟨5, _, _, rfl, rfl, ?_⟩
      unfold foldD
      rw [← hbad, ht]; rfl
    · (refine jw_skip ?_; simp; (first | (apply hK; clear hK) | (clear hK; apply hK; clear hK) | (clear hK; clear hK; apply hK; clear hK) | (clear hK; clear hK; clear hK; apply hK; clear hK) | (clear hK; clear hK; clear hK; clear hK; apply hK; clear hK) | (clear hK; clear hK; clear hK; clear hK; clear hK; apply hK; clear hK) | (clear hK; clear hK; clear hK; clear hK; clear hK; clear hK; apply hK; clear hK)))
      ((repeat refine jw_seq_k fun K hK => ?_); refine jw_reg ?_; simp; (first | (apply hK; clear hK) | (clear hK; apply hK; clear hK) | (clear hK; clear hK; apply hK; clear hK) | (clear hK; clear hK; clear hK; apply hK; clear hK) | (clear hK; clear hK; clear hK; clear hK; apply hK; clear hK) | (clear hK; clear hK; clear hK; clear hK; clear hK; apply hK; clear hK) | (clear hK; clear hK; clear hK; clear hK; clear hK; clear hK; apply hK; clear hK)))
      (repeat refine jw_seq_k fun K hK => ?_); refine jw_ret (hQ _ _ (.inr rfl) ⟨5, _, _, rfl, rfl, ?_⟩)
      unfold foldD
      rw [← hbad, ht, hacc]; rfl
end Go.Proofs.Ytkokinckknhfiaa
