/- Tail: one more than the greatest written position. -/
import Derived.Test.YtaoohkfocajdcaaLayFor
set_option linter.unusedVariables false
set_option linter.unusedSimpArgs false
set_option maxRecDepth 20000
set_option maxHeartbeats 20000000
namespace Go.Proofs.Ytaoohkfocajdcaa
open Go Go.Vm Go.Proofs

/-- One chain's part of the tail. -/
def tailAt (n i : Nat) (t : Int) (out : Int) : Int := if 0 < t then max out ((t - 1) * n + i + 1) else out
/-- The tail after some chains. -/
def tailTo (n : Nat) (ts : List Int) : Nat → Int
  | 0 => 0
  | i + 1 => tailAt n i (ts.getD i 0) (tailTo n ts i)
theorem tailTo_range (n : Nat) (ts : List Int) (h : ∀ t ∈ ts, 0 ≤ t ∧ t ≤ 64) (hn : ts.length ≤ n) (i : Nat) (hi : i ≤ ts.length) : 0 ≤ tailTo n ts i ∧ tailTo n ts i ≤ 64 * n := by
  induction i with
  | zero => simp [tailTo]; omega
  | succ i ih =>
    have := ih (by omega)
    unfold tailTo tailAt
    have ht := h (ts.getD i 0) (by rw [List.getD_eq_getElem?_getD, List.getElem?_eq_getElem (by omega)]; simp)
    have : (ts.getD i 0 - 1) * n ≤ 63 * n := Int.mul_le_mul_of_nonneg_right (by omega) (by omega)
    split <;> omega

theorem tailF {G : Globals} (e : Int) (cs : List (List Int)) (h : LayOk e cs) (ts : List Int) (ht : ts.length = cs.length) (hr : ∀ t ∈ ts, 0 ≤ t ∧ t ≤ 64) : FV Try.prog G 12 [layD e cs, numsD .i64 ts]
    (fun r => r = .tup [.int .i64 (tailTo cs.length ts cs.length), .int .i64 0]) := by
  have h3 := h.2.2.2.1
  refine fv_enter Try.func12 rfl rfl fun Q hQ => ?_
  repeat' first
    | refine jw_ret (hQ _ _ (.inr rfl) ⟨5, _, _, rfl, rfl, ?_⟩)
    | refine jw_ret (hQ _ _ (.inr rfl) ⟨_, rfl, ?_⟩)
    | refine jw_seq_k fun K hK => ?_
    | refine jw_block ?_
    | (refine jw_skip ?_; simp)
    | (refine jw_exit ?_; simp)
    | (refine jw_cond rfl (fun hc => ?_) (fun hc => ?_) <;> (try simp at hc) <;> (try (exfalso; first | omega | exact absurd hc (by assumption))))
    | (refine jw_c ?_; simp (maxSteps := 1000000) [Try.f12, layD, chainsD, numsD, ht])
    | (refine jw_draw_j mixed (by kernel_rfl) ?_; simp (maxSteps := 1000000) [Try.f12, layD, chainsD, numsD, ht])
    | (first | (apply hK; clear hK) | (clear hK; apply hK; clear hK) | (clear hK; clear hK; apply hK; clear hK) | (clear hK; clear hK; clear hK; apply hK; clear hK))
    | exact hQ _ _ (.inl rfl) ⟨5, _, _, rfl, rfl, rfl⟩
    | refine hQ _ _ (.inl rfl) ⟨5, _, _, rfl, rfl, ?_⟩
    | refine hQ _ _ (.inl rfl) ⟨_, rfl, ?_⟩
    | (refine jl_call (f := 11) rfl rfl rfl rfl rfl (mayF e cs h) (by simp [BelL, Bel]) ?_; rintro r rfl; simp (maxSteps := 1000000) [Try.f12, layD, chainsD, numsD, ht])
    | (refine jd_call (f := 11) rfl rfl rfl rfl rfl (mayF e cs h) (by simp [BelL, Bel]) ?_; simp (maxSteps := 1000000) [Try.f12, layD, chainsD, numsD, ht])
    | (refine jd_newc rfl rfl (by simp) ?_; simp (maxSteps := 1000000) [thD, thL, Try.f12, layD, chainsD, numsD, ht])
    | (refine okN_or ?_; simp (maxSteps := 1000000) [thD, thL, Try.f12, layD, chainsD, numsD, ht])
    | (refine okC_guard (fun hc => ?_) (fun hc => ?_) <;> (first | simp (maxSteps := 1000000) [hc, of_decide_eq_true hc, Try.f12, layD, chainsD, numsD, ht] | simp (maxSteps := 1000000) [hc, of_decide_eq_false hc, Try.f12, layD, chainsD, numsD, ht] | simp (maxSteps := 1000000) [hc, Try.f12, layD, chainsD, numsD, ht]) <;> (try simp at hc) <;> (try (exfalso; first | omega | exact absurd hc (by assumption))))
    | (refine okJ_guard (fun hc => ?_) (fun hc => ?_) <;> (first | simp (maxSteps := 1000000) [hc, of_decide_eq_true hc, Try.f12, layD, chainsD, numsD, ht] | simp (maxSteps := 1000000) [hc, of_decide_eq_false hc, Try.f12, layD, chainsD, numsD, ht] | simp (maxSteps := 1000000) [hc, Try.f12, layD, chainsD, numsD, ht]) <;> (try simp at hc) <;> (try (exfalso; first | omega | exact absurd hc (by assumption))))
    | (refine And.intro (by first | assumption | omega | (simp [BelL, Bel]; done) | (simp; omega)) ?_; try simp (maxSteps := 1000000) [Try.f12, layD, chainsD, numsD, ht])
    | (refine okC_or ?_; simp (maxSteps := 1000000) [Try.f12, layD, chainsD, numsD, ht])
  refine jw_loop_v (fun m z => ∃ (i : Nat), (i ≤ cs.length) ∧ cs.length - i = m ∧ z = ⟨[.any, numsD .i64 ts] ++ List.replicate 4 .any ++ [.int .i64 (tailTo cs.length ts i)] ++ List.replicate 11 .any ++ [numsD .i64 ts, .int .i64 cs.length, .int .i64 i] ++ List.replicate 24 .any, []⟩) ⟨[.any, numsD .i64 ts] ++ List.replicate 4 .any ++ [.int .i64 (tailTo cs.length ts (0))] ++ List.replicate 11 .any ++ [numsD .i64 ts, .int .i64 cs.length, .int .i64 (0)] ++ List.replicate 24 .any, []⟩ (view_takeE (sl := [.any, numsD .i64 ts] ++ List.replicate 4 .any ++ [.int .i64 (tailTo cs.length ts (0))] ++ List.replicate 11 .any ++ [numsD .i64 ts, .int .i64 cs.length, .int .i64 (0)] ++ List.replicate 24 .any) (σ0 := []) 0 (by simp [ht, tailTo]) (by first | omega | simp) (by first | omega | (simp [ht, tailTo]; done) | (simp [ht, tailTo]; omega)) (by first | rfl | simp [ht, tailTo]) (by simp [BelL, Bel, ht, tailTo]) (by simp [BelS, BelOb, BelL, Bel, ht, tailTo])) ⟨(0), ?_, rfl, rfl⟩ ?_
  rotate_left
  rintro m z ⟨i, hA, rfl, rfl⟩ KA hKA
  · have hw := wrap_i64 (n := (i : Int) + 1) (by omega) (by omega)
    have hi : i ≤ ts.length := by omega
    have hb := tailTo_range cs.length ts hr (by omega) i hi
    by_cases hlt : i < cs.length
    · have hti := hr ts[i] (List.getElem_mem (by omega))
      have hm : (ts[i] - 1) * cs.length ≤ 63 * cs.length := Int.mul_le_mul_of_nonneg_right (by omega) (by omega)
      have hm0 : ts[i] * cs.length ≤ 64 * cs.length := Int.mul_le_mul_of_nonneg_right (by omega) (by omega)
      have hl2 : i < ts.length := by omega
      have hn1 : ¬ ts[i] < 0 := by omega
      have hn2 : ¬ 64 < ts[i] := by omega
      have hw1 := wrap_i64 (n := ts[i] - 1) (by omega) (by omega)
      have hT : tailTo cs.length ts (i + 1) = if 0 < ts[i] then max (tailTo cs.length ts i) ((ts[i] - 1) * cs.length + i + 1) else tailTo cs.length ts i := by
        show tailAt cs.length i (ts.getD i 0) (tailTo cs.length ts i) = _
        unfold tailAt
        rw [List.getD_eq_getElem?_getD, List.getElem?_eq_getElem hl2]
        rfl
      by_cases hp : 0 < ts[i]
      · have hz : 0 ≤ (ts[i] - 1) * (cs.length : Int) := Int.mul_nonneg (by omega) (by omega)
        have hw2 := wrap_i64 (n := (ts[i] - 1) * cs.length) (by omega) (by omega)
        have hw3 := wrap_i64 (n := (ts[i] - 1) * cs.length + i) (by omega) (by omega)
        have hw4 := wrap_i64 (n := (ts[i] - 1) * cs.length + i + 1) (by omega) (by omega)
        have hm : (if (ts[i] - 1) * (cs.length : Int) + i + 1 > tailTo cs.length ts i then (ts[i] - 1) * (cs.length : Int) + i + 1 else tailTo cs.length ts i) = tailTo cs.length ts (i + 1) := by
          rw [hT, if_pos hp]; omega
        repeat' first
          | refine jw_ret (hQ _ _ (.inr rfl) ⟨5, _, _, rfl, rfl, ?_⟩)
          | refine jw_ret (hQ _ _ (.inr rfl) ⟨_, rfl, ?_⟩)
          | refine jw_seq_k fun K hK => ?_
          | refine jw_block ?_
          | (refine jw_skip ?_; simp)
          | (refine jw_exit ?_; simp)
          | (refine jw_cond rfl (fun hc => ?_) (fun hc => ?_) <;> (try simp at hc) <;> (try (exfalso; first | omega | exact absurd hc (by assumption))))
          | (refine jw_c ?_; simp (maxSteps := 1000000) [hlt, hl2, numsD, hw, hn1, hn2, hp, hw1, hw2, hw3, hw4, ht])
          | (refine jw_draw_j mixed (by kernel_rfl) ?_; simp (maxSteps := 1000000) [hlt, hl2, numsD, hw, hn1, hn2, hp, hw1, hw2, hw3, hw4, ht])
          | (first | (apply hK; clear hK) | (clear hK; apply hK; clear hK) | (clear hK; clear hK; apply hK; clear hK) | (clear hK; clear hK; clear hK; apply hK; clear hK))
          | exact hQ _ _ (.inl rfl) ⟨5, _, _, rfl, rfl, rfl⟩
          | refine hQ _ _ (.inl rfl) ⟨5, _, _, rfl, rfl, ?_⟩
          | refine hQ _ _ (.inl rfl) ⟨_, rfl, ?_⟩
          | (refine jd_newc rfl rfl (by simp) ?_; simp (maxSteps := 1000000) [thD, thL, hlt, hl2, numsD, hw, hn1, hn2, hp, hw1, hw2, hw3, hw4, ht])
          | (refine okN_or ?_; simp (maxSteps := 1000000) [thD, thL, hlt, hl2, numsD, hw, hn1, hn2, hp, hw1, hw2, hw3, hw4, ht])
          | (refine okC_guard (fun hc => ?_) (fun hc => ?_) <;> (first | simp (maxSteps := 1000000) [hc, of_decide_eq_true hc, hlt, hl2, numsD, hw, hn1, hn2, hp, hw1, hw2, hw3, hw4, ht] | simp (maxSteps := 1000000) [hc, of_decide_eq_false hc, hlt, hl2, numsD, hw, hn1, hn2, hp, hw1, hw2, hw3, hw4, ht] | simp (maxSteps := 1000000) [hc, hlt, hl2, numsD, hw, hn1, hn2, hp, hw1, hw2, hw3, hw4, ht]) <;> (try simp at hc) <;> (try (exfalso; first | omega | exact absurd hc (by assumption))))
          | (refine okJ_guard (fun hc => ?_) (fun hc => ?_) <;> (first | simp (maxSteps := 1000000) [hc, of_decide_eq_true hc, hlt, hl2, numsD, hw, hn1, hn2, hp, hw1, hw2, hw3, hw4, ht] | simp (maxSteps := 1000000) [hc, of_decide_eq_false hc, hlt, hl2, numsD, hw, hn1, hn2, hp, hw1, hw2, hw3, hw4, ht] | simp (maxSteps := 1000000) [hc, hlt, hl2, numsD, hw, hn1, hn2, hp, hw1, hw2, hw3, hw4, ht]) <;> (try simp at hc) <;> (try (exfalso; first | omega | exact absurd hc (by assumption))))
          | (refine And.intro (by first | assumption | omega | (simp [BelL, Bel]; done) | (simp; omega)) ?_; try simp (maxSteps := 1000000) [hlt, hl2, numsD, hw, hn1, hn2, hp, hw1, hw2, hw3, hw4, ht])
          | (refine okC_or ?_; simp (maxSteps := 1000000) [hlt, hl2, numsD, hw, hn1, hn2, hp, hw1, hw2, hw3, hw4, ht])
        refine hKA (cs.length - (i + 1)) _ ⟨[.any, numsD .i64 ts] ++ List.replicate 4 .any ++ [.int .i64 (tailTo cs.length ts (i + 1))] ++ List.replicate 11 .any ++ [numsD .i64 ts, .int .i64 cs.length, .int .i64 (i + 1)] ++ List.replicate 24 .any, []⟩ (by omega) (view_takeE (sl := [.any, numsD .i64 ts] ++ List.replicate 4 .any ++ [.int .i64 (tailTo cs.length ts (i + 1))] ++ List.replicate 11 .any ++ [numsD .i64 ts, .int .i64 cs.length, .int .i64 (i + 1)] ++ List.replicate 24 .any) (σ0 := []) 0 (by simp [← hm, ht]) (by first | omega | simp) (by first | omega | (simp [← hm, ht]; done) | (simp [← hm, ht]; omega)) (by first | rfl | simp [← hm, ht]) (by simp [BelL, Bel, ← hm, ht]) (by simp [BelS, BelOb, BelL, Bel, ← hm, ht])) ⟨(i + 1), ?_, rfl, rfl⟩
        omega
      · rw [if_neg hp] at hT
        repeat' first
          | refine jw_ret (hQ _ _ (.inr rfl) ⟨5, _, _, rfl, rfl, ?_⟩)
          | refine jw_ret (hQ _ _ (.inr rfl) ⟨_, rfl, ?_⟩)
          | refine jw_seq_k fun K hK => ?_
          | refine jw_block ?_
          | (refine jw_skip ?_; simp)
          | (refine jw_exit ?_; simp)
          | (refine jw_cond rfl (fun hc => ?_) (fun hc => ?_) <;> (try simp at hc) <;> (try (exfalso; first | omega | exact absurd hc (by assumption))))
          | (refine jw_c ?_; simp (maxSteps := 1000000) [hlt, hl2, numsD, hw, hn1, hn2, hp])
          | (refine jw_draw_j mixed (by kernel_rfl) ?_; simp (maxSteps := 1000000) [hlt, hl2, numsD, hw, hn1, hn2, hp])
          | (first | (apply hK; clear hK) | (clear hK; apply hK; clear hK) | (clear hK; clear hK; apply hK; clear hK) | (clear hK; clear hK; clear hK; apply hK; clear hK))
          | exact hQ _ _ (.inl rfl) ⟨5, _, _, rfl, rfl, rfl⟩
          | refine hQ _ _ (.inl rfl) ⟨5, _, _, rfl, rfl, ?_⟩
          | refine hQ _ _ (.inl rfl) ⟨_, rfl, ?_⟩
          | (refine jd_newc rfl rfl (by simp) ?_; simp (maxSteps := 1000000) [thD, thL, hlt, hl2, numsD, hw, hn1, hn2, hp])
          | (refine okN_or ?_; simp (maxSteps := 1000000) [thD, thL, hlt, hl2, numsD, hw, hn1, hn2, hp])
          | (refine okC_guard (fun hc => ?_) (fun hc => ?_) <;> (first | simp (maxSteps := 1000000) [hc, of_decide_eq_true hc, hlt, hl2, numsD, hw, hn1, hn2, hp] | simp (maxSteps := 1000000) [hc, of_decide_eq_false hc, hlt, hl2, numsD, hw, hn1, hn2, hp] | simp (maxSteps := 1000000) [hc, hlt, hl2, numsD, hw, hn1, hn2, hp]) <;> (try simp at hc) <;> (try (exfalso; first | omega | exact absurd hc (by assumption))))
          | (refine okJ_guard (fun hc => ?_) (fun hc => ?_) <;> (first | simp (maxSteps := 1000000) [hc, of_decide_eq_true hc, hlt, hl2, numsD, hw, hn1, hn2, hp] | simp (maxSteps := 1000000) [hc, of_decide_eq_false hc, hlt, hl2, numsD, hw, hn1, hn2, hp] | simp (maxSteps := 1000000) [hc, hlt, hl2, numsD, hw, hn1, hn2, hp]) <;> (try simp at hc) <;> (try (exfalso; first | omega | exact absurd hc (by assumption))))
          | (refine And.intro (by first | assumption | omega | (simp [BelL, Bel]; done) | (simp; omega)) ?_; try simp (maxSteps := 1000000) [hlt, hl2, numsD, hw, hn1, hn2, hp])
          | (refine okC_or ?_; simp (maxSteps := 1000000) [hlt, hl2, numsD, hw, hn1, hn2, hp])
        refine hKA (cs.length - (i + 1)) _ ⟨[.any, numsD .i64 ts] ++ List.replicate 4 .any ++ [.int .i64 (tailTo cs.length ts (i + 1))] ++ List.replicate 11 .any ++ [numsD .i64 ts, .int .i64 cs.length, .int .i64 (i + 1)] ++ List.replicate 24 .any, []⟩ (by omega) (view_takeE (sl := [.any, numsD .i64 ts] ++ List.replicate 4 .any ++ [.int .i64 (tailTo cs.length ts (i + 1))] ++ List.replicate 11 .any ++ [numsD .i64 ts, .int .i64 cs.length, .int .i64 (i + 1)] ++ List.replicate 24 .any) (σ0 := []) 0 (by simp [hT]) (by first | omega | simp) (by first | omega | (simp [hT]; done) | (simp [hT]; omega)) (by first | rfl | simp [hT]) (by simp [BelL, Bel, hT]) (by simp [BelS, BelOb, BelL, Bel, hT])) ⟨(i + 1), ?_, rfl, rfl⟩
        omega
    · repeat' first
        | refine jw_ret (hQ _ _ (.inr rfl) ⟨5, _, _, rfl, rfl, ?_⟩)
        | refine jw_ret (hQ _ _ (.inr rfl) ⟨_, rfl, ?_⟩)
        | refine jw_seq_k fun K hK => ?_
        | refine jw_block ?_
        | (refine jw_skip ?_; simp)
        | (refine jw_exit ?_; simp)
        | (refine jw_cond rfl (fun hc => ?_) (fun hc => ?_) <;> (try simp at hc) <;> (try (exfalso; first | omega | exact absurd hc (by assumption))))
        | (refine jw_c ?_; simp (maxSteps := 1000000) [hlt])
        | (refine jw_draw_j mixed (by kernel_rfl) ?_; simp (maxSteps := 1000000) [hlt])
        | (first | (apply hK; clear hK) | (clear hK; apply hK; clear hK) | (clear hK; clear hK; apply hK; clear hK) | (clear hK; clear hK; clear hK; apply hK; clear hK))
        | exact hQ _ _ (.inl rfl) ⟨5, _, _, rfl, rfl, rfl⟩
        | refine hQ _ _ (.inl rfl) ⟨5, _, _, rfl, rfl, ?_⟩
        | refine hQ _ _ (.inl rfl) ⟨_, rfl, ?_⟩
        | (refine jd_newc rfl rfl (by simp) ?_; simp (maxSteps := 1000000) [thD, thL, hlt])
        | (refine okN_or ?_; simp (maxSteps := 1000000) [thD, thL, hlt])
        | (refine okC_guard (fun hc => ?_) (fun hc => ?_) <;> (first | simp (maxSteps := 1000000) [hc, of_decide_eq_true hc, hlt] | simp (maxSteps := 1000000) [hc, of_decide_eq_false hc, hlt] | simp (maxSteps := 1000000) [hc, hlt]) <;> (try simp at hc) <;> (try (exfalso; first | omega | exact absurd hc (by assumption))))
        | (refine okJ_guard (fun hc => ?_) (fun hc => ?_) <;> (first | simp (maxSteps := 1000000) [hc, of_decide_eq_true hc, hlt] | simp (maxSteps := 1000000) [hc, of_decide_eq_false hc, hlt] | simp (maxSteps := 1000000) [hc, hlt]) <;> (try simp at hc) <;> (try (exfalso; first | omega | exact absurd hc (by assumption))))
        | (refine And.intro (by first | assumption | omega | (simp [BelL, Bel]; done) | (simp; omega)) ?_; try simp (maxSteps := 1000000) [hlt])
        | (refine okC_or ?_; simp (maxSteps := 1000000) [hlt])
      rw [show i = cs.length by omega]
      rfl
  · omega
end Go.Proofs.Ytaoohkfocajdcaa
