/- Picked, Place, Pos. -/
import Derived.Test.YtaoohkfocajdcaaMay
set_option linter.unusedVariables false
set_option linter.unusedSimpArgs false
set_option maxRecDepth 20000
set_option maxHeartbeats 20000000
namespace Go.Proofs.Ytaoohkfocajdcaa
open Go Go.Vm Go.Proofs

theorem pickedG {G : Globals} (x m : Int) (h1 : 0 < m) (h2 : m ≤ 9223372036854775807) : FV Try.prog G 8 [.int .i64 x, .int .i64 m] (fun r => r = .int .i64 (x % m)) := by
  have hm : m ≠ 0 := by omega
  have h3 := Int.emod_nonneg x hm
  have h4 := Int.emod_lt_of_pos x h1
  have h5 : x.tmod m = x % m ∨ x.tmod m = x % m - m := by
    rw [Int.tmod_eq_emod]
    split
    · left; omega
    · right; omega
  refine fv_enter Try.func8 rfl rfl fun Q hQ => ?_
  ((repeat refine jw_seq_k fun K hK => ?_); refine jw_reg ?_; simp (maxSteps := 1000000) [Try.f8]; (first | (apply hK; clear hK) | (clear hK; apply hK; clear hK) | (clear hK; clear hK; apply hK; clear hK) | (clear hK; clear hK; clear hK; apply hK; clear hK) | (clear hK; clear hK; clear hK; clear hK; apply hK; clear hK) | (clear hK; clear hK; clear hK; clear hK; clear hK; apply hK; clear hK) | (clear hK; clear hK; clear hK; clear hK; clear hK; clear hK; apply hK; clear hK)))
  ((repeat refine jw_seq_k fun K hK => ?_); refine jw_reg ?_; simp (maxSteps := 1000000) [hm]; (first | (apply hK; clear hK) | (clear hK; apply hK; clear hK) | (clear hK; clear hK; apply hK; clear hK) | (clear hK; clear hK; clear hK; apply hK; clear hK) | (clear hK; clear hK; clear hK; clear hK; apply hK; clear hK) | (clear hK; clear hK; clear hK; clear hK; clear hK; apply hK; clear hK) | (clear hK; clear hK; clear hK; clear hK; clear hK; clear hK; apply hK; clear hK)))
  ((repeat refine jw_seq_k fun K hK => ?_); refine jw_reg ?_; simp (maxSteps := 1000000); (first | (apply hK; clear hK) | (clear hK; apply hK; clear hK) | (clear hK; clear hK; apply hK; clear hK) | (clear hK; clear hK; clear hK; apply hK; clear hK) | (clear hK; clear hK; clear hK; clear hK; apply hK; clear hK) | (clear hK; clear hK; clear hK; clear hK; clear hK; apply hK; clear hK) | (clear hK; clear hK; clear hK; clear hK; clear hK; clear hK; apply hK; clear hK)))
  (repeat refine jw_seq_k fun K hK => ?_); refine jw_cond rfl (fun ht => ?_) (fun ht => ?_)
  · simp at ht
    ((repeat refine jw_seq_k fun K hK => ?_); refine jw_reg ?_; simp (maxSteps := 1000000); (first | (apply hK; clear hK) | (clear hK; apply hK; clear hK) | (clear hK; clear hK; apply hK; clear hK) | (clear hK; clear hK; clear hK; apply hK; clear hK) | (clear hK; clear hK; clear hK; clear hK; apply hK; clear hK) | (clear hK; clear hK; clear hK; clear hK; clear hK; apply hK; clear hK) | (clear hK; clear hK; clear hK; clear hK; clear hK; clear hK; apply hK; clear hK)))
    (repeat refine jw_seq_k fun K hK => ?_); refine jw_ret ?_
    simp
    refine hQ _ _ (.inr rfl) ⟨5, _, _, rfl, rfl, ?_⟩
    have e : x.tmod m + m = x % m := by omega
    rw [e, wrap_i64 (by omega) (by omega)]
  · simp at ht
    (refine jw_skip ?_; simp; (first | (apply hK; clear hK) | (clear hK; apply hK; clear hK) | (clear hK; clear hK; apply hK; clear hK) | (clear hK; clear hK; clear hK; apply hK; clear hK) | (clear hK; clear hK; clear hK; clear hK; apply hK; clear hK) | (clear hK; clear hK; clear hK; clear hK; clear hK; apply hK; clear hK) | (clear hK; clear hK; clear hK; clear hK; clear hK; clear hK; apply hK; clear hK)))
    ((repeat refine jw_seq_k fun K hK => ?_); refine jw_reg ?_; simp (maxSteps := 1000000); (first | (apply hK; clear hK) | (clear hK; apply hK; clear hK) | (clear hK; clear hK; apply hK; clear hK) | (clear hK; clear hK; clear hK; apply hK; clear hK) | (clear hK; clear hK; clear hK; clear hK; apply hK; clear hK) | (clear hK; clear hK; clear hK; clear hK; clear hK; apply hK; clear hK) | (clear hK; clear hK; clear hK; clear hK; clear hK; clear hK; apply hK; clear hK)))
    (repeat refine jw_seq_k fun K hK => ?_); refine jw_ret ?_
    refine hQ _ _ (.inr rfl) ⟨5, _, _, rfl, rfl, ?_⟩
    have e : x.tmod m = x % m := by omega
    rw [e]

theorem placeF {G : Globals} (e : Int) (cs : List (List Int)) (h : LayOk e cs) (p : Int) (hp : 0 ≤ p ∧ p ≤ 100000) : FV Try.prog G 9 [layD e cs, .int .i64 p]
    (fun r => r = if p < 64 * cs.length then .tup [.int .i64 (p % cs.length), .int .i64 (p / cs.length), .int .i64 0] else .tup [.int .i64 0, .int .i64 0, .int .i64 2]) := by
  obtain ⟨h0, h1, h2, h3, h4, h5, h6⟩ := id h
  have hn : (cs.length : Int) ≠ 0 := by omega
  have hq : p.tdiv cs.length = p / cs.length := Int.tdiv_eq_ediv_of_nonneg hp.1
  have hm : p.tmod cs.length = p % cs.length := Int.tmod_eq_emod_of_nonneg hp.1
  have hlt : p / cs.length < 64 ↔ p < 64 * cs.length := Int.ediv_lt_iff_lt_mul (by omega)
  have hne : cs ≠ [] := by intro h; rw [h] at h2; simp at h2
  have hq0 : 0 ≤ p / cs.length := Int.ediv_nonneg hp.1 (by omega)
  have hq1 : p / cs.length ≤ p := Int.ediv_le_self _ hp.1
  have hwq := wrap_i64 (n := p / cs.length) (by omega) (by omega)
  refine fv_enter Try.func9 rfl rfl fun Q hQ => ?_
  repeat' first
    | refine jw_ret (hQ _ _ (.inr rfl) ⟨5, _, _, rfl, rfl, ?_⟩)
    | refine jw_ret (hQ _ _ (.inr rfl) ⟨_, rfl, ?_⟩)
    | (refine jw_ret (hQ _ _ (.inr rfl) (res_ok 9 ?_)); simp (maxSteps := 1000000) [okRes, -List.mapM_map, -List.mapM_append, Try.f9, layD, chainsD, hn, hne, hq, hm, hp.1, hwq])
    | refine jw_seq_k fun K hK => ?_
    | refine jw_block ?_
    | (refine jw_skip ?_; try simp)
    | (refine jw_exit ?_; try simp)
    | (refine jw_cond rfl (fun hc => ?_) (fun hc => ?_) <;> (try simp at hc) <;> (try (exfalso; first | omega | exact absurd hc (by assumption))))
    | (refine jw_c ?_; simp (maxSteps := 1000000) [Try.f9, layD, chainsD, hn, hne, hq, hm, hp.1, hwq])
    | (refine jw_draw_j mixed (by kernel_rfl) ?_; simp (maxSteps := 1000000) [Try.f9, layD, chainsD, hn, hne, hq, hm, hp.1, hwq])
    | (first | (apply hK; clear hK) | (clear hK; apply hK; clear hK) | (clear hK; clear hK; apply hK; clear hK) | (clear hK; clear hK; clear hK; apply hK; clear hK))
    | exact hQ _ _ (.inl rfl) ⟨5, _, _, rfl, rfl, rfl⟩
    | refine hQ _ _ (.inl rfl) ⟨5, _, _, rfl, rfl, ?_⟩
    | refine hQ _ _ (.inl rfl) ⟨_, rfl, ?_⟩
    | (refine hQ _ _ (.inl rfl) (res_ok 9 ?_); simp (maxSteps := 1000000) [okRes, -List.mapM_map, -List.mapM_append, Try.f9, layD, chainsD, hn, hne, hq, hm, hp.1, hwq])
    | (refine jl_call (f := 11) rfl rfl rfl rfl rfl (mayF e cs h) (by simp [BelL, Bel]) ?_; rintro r rfl; simp (maxSteps := 1000000) [Try.f9, layD, chainsD, hn, hne, hq, hm, hp.1, hwq])
    | (refine jd_call (f := 11) rfl rfl rfl rfl rfl (mayF e cs h) (by simp [BelL, Bel]) ?_; simp (maxSteps := 1000000) [Try.f9, layD, chainsD, hn, hne, hq, hm, hp.1, hwq])
    | (refine jd_newc rfl rfl (by simp) ?_; simp (maxSteps := 1000000) [thD, thL, Try.f9, layD, chainsD, hn, hne, hq, hm, hp.1, hwq])
    | (refine okN_or ?_; simp (maxSteps := 1000000) [thD, thL, Try.f9, layD, chainsD, hn, hne, hq, hm, hp.1, hwq])
    | (refine okC_guard (fun hc => ?_) (fun hc => ?_) <;> (first | simp (maxSteps := 1000000) [hc, of_decide_eq_true hc, Try.f9, layD, chainsD, hn, hne, hq, hm, hp.1, hwq] | simp (maxSteps := 1000000) [hc, of_decide_eq_false hc, Try.f9, layD, chainsD, hn, hne, hq, hm, hp.1, hwq] | simp (maxSteps := 1000000) [hc, Try.f9, layD, chainsD, hn, hne, hq, hm, hp.1, hwq]) <;> (try simp at hc) <;> (try (exfalso; first | omega | exact absurd hc (by assumption))))
    | (refine okJ_guard (fun hc => ?_) (fun hc => ?_) <;> (first | simp (maxSteps := 1000000) [hc, of_decide_eq_true hc, Try.f9, layD, chainsD, hn, hne, hq, hm, hp.1, hwq] | simp (maxSteps := 1000000) [hc, of_decide_eq_false hc, Try.f9, layD, chainsD, hn, hne, hq, hm, hp.1, hwq] | simp (maxSteps := 1000000) [hc, Try.f9, layD, chainsD, hn, hne, hq, hm, hp.1, hwq]) <;> (try simp at hc) <;> (try (exfalso; first | omega | exact absurd hc (by assumption))))
    | (refine And.intro (by first | assumption | omega | (simp [BelL, Bel]; done) | (simp; omega)) ?_; try simp (maxSteps := 1000000) [Try.f9, layD, chainsD, hn, hne, hq, hm, hp.1, hwq])
    | (refine okC_or ?_; simp (maxSteps := 1000000) [Try.f9, layD, chainsD, hn, hne, hq, hm, hp.1, hwq])
  · rw [if_neg (by omega)]; rfl
  · rw [if_pos (by omega)]; rfl

theorem posF {G : Globals} (e : Int) (cs : List (List Int)) (h : LayOk e cs) (c a : Int) (hch : 0 ≤ c ∧ c < cs.length) (had : 0 ≤ a ∧ a < 64) : FV Try.prog G 10 [layD e cs, .int .i64 c, .int .i64 a]
    (fun r => r = .tup [.int .i64 (a * cs.length + c), .int .i64 0]) := by
  obtain ⟨h0, h1, h2, h3, h4, h5, h6⟩ := id h
  have hm0 : 0 ≤ a * cs.length := Int.mul_nonneg had.1 (by omega)
  have hm1 : a * cs.length ≤ 63 * 6 := Int.mul_le_mul (by omega) (by omega) (by omega) (by omega)
  have hw1 := wrap_i64 (n := a * cs.length) (by omega) (by omega)
  have hw2 := wrap_i64 (n := a * cs.length + c) (by omega) (by omega)
  refine fv_enter Try.func10 rfl rfl fun Q hQ => ?_
  repeat' first
    | refine jw_ret (hQ _ _ (.inr rfl) ⟨5, _, _, rfl, rfl, ?_⟩)
    | refine jw_ret (hQ _ _ (.inr rfl) ⟨_, rfl, ?_⟩)
    | (refine jw_ret (hQ _ _ (.inr rfl) (res_ok 9 ?_)); simp (maxSteps := 1000000) [okRes, -List.mapM_map, -List.mapM_append, Try.f10, layD, chainsD, hch.1, hch.2, had.1, had.2, hw1, hw2])
    | refine jw_seq_k fun K hK => ?_
    | refine jw_block ?_
    | (refine jw_skip ?_; try simp)
    | (refine jw_exit ?_; try simp)
    | (refine jw_cond rfl (fun hc => ?_) (fun hc => ?_) <;> (try simp at hc) <;> (try (exfalso; first | omega | exact absurd hc (by assumption))))
    | (refine jw_c ?_; simp (maxSteps := 1000000) [Try.f10, layD, chainsD, hch.1, hch.2, had.1, had.2, hw1, hw2])
    | (refine jw_draw_j mixed (by kernel_rfl) ?_; simp (maxSteps := 1000000) [Try.f10, layD, chainsD, hch.1, hch.2, had.1, had.2, hw1, hw2])
    | (first | (apply hK; clear hK) | (clear hK; apply hK; clear hK) | (clear hK; clear hK; apply hK; clear hK) | (clear hK; clear hK; clear hK; apply hK; clear hK))
    | exact hQ _ _ (.inl rfl) ⟨5, _, _, rfl, rfl, rfl⟩
    | refine hQ _ _ (.inl rfl) ⟨5, _, _, rfl, rfl, ?_⟩
    | refine hQ _ _ (.inl rfl) ⟨_, rfl, ?_⟩
    | (refine hQ _ _ (.inl rfl) (res_ok 9 ?_); simp (maxSteps := 1000000) [okRes, -List.mapM_map, -List.mapM_append, Try.f10, layD, chainsD, hch.1, hch.2, had.1, had.2, hw1, hw2])
    | (refine jl_call (f := 11) rfl rfl rfl rfl rfl (mayF e cs h) (by simp [BelL, Bel]) ?_; rintro r rfl; simp (maxSteps := 1000000) [Try.f10, layD, chainsD, hch.1, hch.2, had.1, had.2, hw1, hw2])
    | (refine jd_call (f := 11) rfl rfl rfl rfl rfl (mayF e cs h) (by simp [BelL, Bel]) ?_; simp (maxSteps := 1000000) [Try.f10, layD, chainsD, hch.1, hch.2, had.1, had.2, hw1, hw2])
    | (refine jd_newc rfl rfl (by simp) ?_; simp (maxSteps := 1000000) [thD, thL, Try.f10, layD, chainsD, hch.1, hch.2, had.1, had.2, hw1, hw2])
    | (refine okN_or ?_; simp (maxSteps := 1000000) [thD, thL, Try.f10, layD, chainsD, hch.1, hch.2, had.1, had.2, hw1, hw2])
    | (refine okC_guard (fun hc => ?_) (fun hc => ?_) <;> (first | simp (maxSteps := 1000000) [hc, of_decide_eq_true hc, Try.f10, layD, chainsD, hch.1, hch.2, had.1, had.2, hw1, hw2] | simp (maxSteps := 1000000) [hc, of_decide_eq_false hc, Try.f10, layD, chainsD, hch.1, hch.2, had.1, had.2, hw1, hw2] | simp (maxSteps := 1000000) [hc, Try.f10, layD, chainsD, hch.1, hch.2, had.1, had.2, hw1, hw2]) <;> (try simp at hc) <;> (try (exfalso; first | omega | exact absurd hc (by assumption))))
    | (refine okJ_guard (fun hc => ?_) (fun hc => ?_) <;> (first | simp (maxSteps := 1000000) [hc, of_decide_eq_true hc, Try.f10, layD, chainsD, hch.1, hch.2, had.1, had.2, hw1, hw2] | simp (maxSteps := 1000000) [hc, of_decide_eq_false hc, Try.f10, layD, chainsD, hch.1, hch.2, had.1, had.2, hw1, hw2] | simp (maxSteps := 1000000) [hc, Try.f10, layD, chainsD, hch.1, hch.2, had.1, had.2, hw1, hw2]) <;> (try simp at hc) <;> (try (exfalso; first | omega | exact absurd hc (by assumption))))
    | (refine And.intro (by first | assumption | omega | (simp [BelL, Bel]; done) | (simp; omega)) ?_; try simp (maxSteps := 1000000) [Try.f10, layD, chainsD, hch.1, hch.2, had.1, had.2, hw1, hw2])
    | (refine okC_or ?_; simp (maxSteps := 1000000) [Try.f10, layD, chainsD, hch.1, hch.2, had.1, had.2, hw1, hw2])
  all_goals (first | clear hQ hK | clear hQ)
  all_goals simp_all
end Go.Proofs.Ytaoohkfocajdcaa
