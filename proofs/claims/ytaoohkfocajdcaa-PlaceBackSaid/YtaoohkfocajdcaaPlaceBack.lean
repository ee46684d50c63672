/- PlaceBack: the walk and the law. -/
import Derived.Test.YtaoohkfocajdcaaLayFor
set_option linter.unusedVariables false
set_option linter.unusedSimpArgs false
set_option maxRecDepth 20000
set_option maxHeartbeats 20000000
namespace Go.Proofs.Ytaoohkfocajdcaa
open Go Go.Vm Go.Proofs

theorem placeBack (a : List Int) (aw : ∀ n ∈ a, (Lit.int .i64 n).wf = true) (az : a.length * 8 ≤ 140737488351232) (_ : a.length ≤ 9223372036854775807) (t : Int) (tw : (Lit.int .i64 t).wf = true) (p : Int) (pw : (Lit.int .i64 p).wf = true)
    (c : Int) (cw : (Lit.int .i64 c).wf = true) (d : Int) (dw : (Lit.int .i64 d).wf = true) :
    FV Try.prog [] 4 [numsD .i64 a, .int .i64 t, .int .i64 p, .int .i64 c, .int .i64 d] (fun r => r = .bool true) := by
  refine fv_enter Try.func4 rfl rfl fun Q hQ => ?_
  repeat' first
    | refine jw_ret (hQ _ _ (.inr rfl) ⟨5, _, _, rfl, rfl, ?_⟩)
    | refine jw_ret (hQ _ _ (.inr rfl) ⟨_, rfl, ?_⟩)
    | refine jw_seq_k fun K hK => ?_
    | refine jw_block ?_
    | (refine jw_skip ?_; simp)
    | (refine jw_exit ?_; simp)
    | (refine jw_cond rfl (fun hc => ?_) (fun hc => ?_) <;> (try simp at hc) <;> (try (exfalso; first | omega | exact absurd hc (by assumption))))
    | (refine jw_c ?_; simp (maxSteps := 1000000) [Try.f4])
    | (refine jw_draw_j mixed (by kernel_rfl) ?_; simp (maxSteps := 1000000) [Try.f4])
    | (first | (apply hK; clear hK) | (clear hK; apply hK; clear hK) | (clear hK; clear hK; apply hK; clear hK) | (clear hK; clear hK; clear hK; apply hK; clear hK))
    | exact hQ _ _ (.inl rfl) ⟨5, _, _, rfl, rfl, rfl⟩
    | refine hQ _ _ (.inl rfl) ⟨5, _, _, rfl, rfl, ?_⟩
    | refine hQ _ _ (.inl rfl) ⟨_, rfl, ?_⟩
    | (refine jl_call (f := 7) rfl rfl rfl rfl rfl (layForF a az 0 t) (by simp [BelL, Bel]) ?_; rintro r ⟨cs, rfl, hok, hn5⟩; simp (maxSteps := 1000000) [Try.f4])
    | (refine jd_newc rfl rfl (by simp) ?_; simp (maxSteps := 1000000) [thD, thL, Try.f4])
    | (refine okN_or ?_; simp (maxSteps := 1000000) [thD, thL, Try.f4])
    | (refine okC_guard (fun hc => ?_) (fun hc => ?_) <;> (first | simp (maxSteps := 1000000) [hc, of_decide_eq_true hc, Try.f4] | simp (maxSteps := 1000000) [hc, of_decide_eq_false hc, Try.f4] | simp (maxSteps := 1000000) [hc, Try.f4]) <;> (try simp at hc) <;> (try (exfalso; first | omega | exact absurd hc (by assumption))))
    | (refine okJ_guard (fun hc => ?_) (fun hc => ?_) <;> (first | simp (maxSteps := 1000000) [hc, of_decide_eq_true hc, Try.f4] | simp (maxSteps := 1000000) [hc, of_decide_eq_false hc, Try.f4] | simp (maxSteps := 1000000) [hc, Try.f4]) <;> (try simp at hc) <;> (try (exfalso; first | omega | exact absurd hc (by assumption))))
    | (refine And.intro (by first | assumption | omega | (simp [BelL, Bel]; done) | (simp; omega)) ?_; try simp (maxSteps := 1000000) [Try.f4])
    | (refine okC_or ?_; simp (maxSteps := 1000000) [Try.f4])
  have h2 := hok.2.2.1
  have h3 := hok.2.2.2.1
  have hw1 := wrap_i64 (n := (cs.length : Int) * 64) (by omega) (by omega)
  rw [hw1]
  refine jl_call (f := 8) rfl rfl rfl rfl rfl (pickedN p _ (by omega) (by omega)) (by simp [BelL, Bel]) ?_
  rintro r ⟨f, ⟨hf0, hf1⟩, rfl⟩
  have hnz : (cs.length : Int) ≠ 0 := by omega
  have hd0 : 0 ≤ f / cs.length := Int.ediv_nonneg hf0 (by omega)
  have hm0 : 0 ≤ f % cs.length := Int.emod_nonneg f (by omega)
  have hm1 : f % cs.length < cs.length := Int.emod_lt_of_pos f (by omega)
  have hd1 : f / cs.length < 64 := Int.ediv_lt_of_lt_mul (by omega) (by rw [Int.mul_comm]; exact hf1)
  have he := Int.mul_ediv_add_emod f cs.length
  rw [Int.mul_comm] at he
  simp
  repeat' first
    | refine jw_ret (hQ _ _ (.inr rfl) ⟨5, _, _, rfl, rfl, ?_⟩)
    | refine jw_ret (hQ _ _ (.inr rfl) ⟨_, rfl, ?_⟩)
    | refine jw_seq_k fun K hK => ?_
    | refine jw_block ?_
    | (refine jw_skip ?_; simp)
    | (refine jw_exit ?_; simp)
    | (refine jw_cond rfl (fun hc => ?_) (fun hc => ?_) <;> (try simp at hc) <;> (try (exfalso; first | omega | exact absurd hc (by assumption))))
    | (refine jw_c ?_; simp (maxSteps := 1000000) [hw1])
    | (refine jw_draw_j mixed (by kernel_rfl) ?_; simp (maxSteps := 1000000) [hw1])
    | (first | (apply hK; clear hK) | (clear hK; apply hK; clear hK) | (clear hK; clear hK; apply hK; clear hK) | (clear hK; clear hK; clear hK; apply hK; clear hK))
    | exact hQ _ _ (.inl rfl) ⟨5, _, _, rfl, rfl, rfl⟩
    | refine hQ _ _ (.inl rfl) ⟨5, _, _, rfl, rfl, ?_⟩
    | refine hQ _ _ (.inl rfl) ⟨_, rfl, ?_⟩
    | (refine jl_call (f := 9) rfl rfl rfl rfl rfl (placeOk 0 cs hok _ (by omega)) (by simp [BelL, Bel]) ?_; rintro r rfl; simp (maxSteps := 1000000) [hw1])
    | (refine jd_call (f := 9) rfl rfl rfl rfl rfl (placeOk 0 cs hok _ (by omega)) (by simp [BelL, Bel]) ?_; simp (maxSteps := 1000000) [hw1])
    | (refine jl_call (f := 10) rfl rfl rfl rfl rfl (posF 0 cs hok _ _ (by omega) (by omega)) (by simp [BelL, Bel]) ?_; rintro r rfl; simp (maxSteps := 1000000) [hw1])
    | (refine jd_call (f := 10) rfl rfl rfl rfl rfl (posF 0 cs hok _ _ (by omega) (by omega)) (by simp [BelL, Bel]) ?_; simp (maxSteps := 1000000) [hw1])
    | (refine jd_newc rfl rfl (by simp) ?_; simp (maxSteps := 1000000) [thD, thL, hw1])
    | (refine okN_or ?_; simp (maxSteps := 1000000) [thD, thL, hw1])
    | (refine okC_guard (fun hc => ?_) (fun hc => ?_) <;> (first | simp (maxSteps := 1000000) [hc, of_decide_eq_true hc, hw1] | simp (maxSteps := 1000000) [hc, of_decide_eq_false hc, hw1] | simp (maxSteps := 1000000) [hc, hw1]) <;> (try simp at hc) <;> (try (exfalso; first | omega | exact absurd hc (by assumption))))
    | (refine okJ_guard (fun hc => ?_) (fun hc => ?_) <;> (first | simp (maxSteps := 1000000) [hc, of_decide_eq_true hc, hw1] | simp (maxSteps := 1000000) [hc, of_decide_eq_false hc, hw1] | simp (maxSteps := 1000000) [hc, hw1]) <;> (try simp at hc) <;> (try (exfalso; first | omega | exact absurd hc (by assumption))))
    | (refine And.intro (by first | assumption | omega | (simp [BelL, Bel]; done) | (simp; omega)) ?_; try simp (maxSteps := 1000000) [hw1])
    | (refine okC_or ?_; simp (maxSteps := 1000000) [hw1])
  refine jl_call (f := 8) rfl rfl rfl rfl rfl (pickedN c _ (by omega) (by omega)) (by simp [BelL, Bel]) ?_
  rintro r ⟨x, ⟨hx0, hx1⟩, rfl⟩
  simp
  repeat' first
    | refine jw_ret (hQ _ _ (.inr rfl) ⟨5, _, _, rfl, rfl, ?_⟩)
    | refine jw_ret (hQ _ _ (.inr rfl) ⟨_, rfl, ?_⟩)
    | refine jw_seq_k fun K hK => ?_
    | refine jw_block ?_
    | (refine jw_skip ?_; simp)
    | (refine jw_exit ?_; simp)
    | (refine jw_cond rfl (fun hc => ?_) (fun hc => ?_) <;> (try simp at hc) <;> (try (exfalso; first | omega | exact absurd hc (by assumption))))
    | (refine jw_c ?_; simp (maxSteps := 1000000) [hw1])
    | (refine jw_draw_j mixed (by kernel_rfl) ?_; simp (maxSteps := 1000000) [hw1])
    | (first | (apply hK; clear hK) | (clear hK; apply hK; clear hK) | (clear hK; clear hK; apply hK; clear hK) | (clear hK; clear hK; clear hK; apply hK; clear hK))
    | exact hQ _ _ (.inl rfl) ⟨5, _, _, rfl, rfl, rfl⟩
    | refine hQ _ _ (.inl rfl) ⟨5, _, _, rfl, rfl, ?_⟩
    | refine hQ _ _ (.inl rfl) ⟨_, rfl, ?_⟩
    | (refine jd_newc rfl rfl (by simp) ?_; simp (maxSteps := 1000000) [thD, thL, hw1])
    | (refine okN_or ?_; simp (maxSteps := 1000000) [thD, thL, hw1])
    | (refine okC_guard (fun hc => ?_) (fun hc => ?_) <;> (first | simp (maxSteps := 1000000) [hc, of_decide_eq_true hc, hw1] | simp (maxSteps := 1000000) [hc, of_decide_eq_false hc, hw1] | simp (maxSteps := 1000000) [hc, hw1]) <;> (try simp at hc) <;> (try (exfalso; first | omega | exact absurd hc (by assumption))))
    | (refine okJ_guard (fun hc => ?_) (fun hc => ?_) <;> (first | simp (maxSteps := 1000000) [hc, of_decide_eq_true hc, hw1] | simp (maxSteps := 1000000) [hc, of_decide_eq_false hc, hw1] | simp (maxSteps := 1000000) [hc, hw1]) <;> (try simp at hc) <;> (try (exfalso; first | omega | exact absurd hc (by assumption))))
    | (refine And.intro (by first | assumption | omega | (simp [BelL, Bel]; done) | (simp; omega)) ?_; try simp (maxSteps := 1000000) [hw1])
    | (refine okC_or ?_; simp (maxSteps := 1000000) [hw1])
  refine jl_call (f := 8) rfl rfl rfl rfl rfl (pickedN d _ (by omega) (by omega)) (by simp [BelL, Bel]) ?_
  rintro r ⟨y, ⟨hy0, hy1⟩, rfl⟩
  have hq0 : 0 ≤ y * cs.length := Int.mul_nonneg hy0 (by omega)
  have hq1 : y * cs.length ≤ 63 * cs.length := Int.mul_le_mul_of_nonneg_right (by omega) (by omega)
  have hqm : (y * cs.length + x) % cs.length = x := by
    rw [Int.add_comm, Int.add_mul_emod_self_right, Int.emod_eq_of_lt hx0 hx1]
  have hqd : (y * cs.length + x) / cs.length = y := by
    rw [Int.add_comm, Int.add_mul_ediv_right _ _ hnz, Int.ediv_eq_zero_of_lt hx0 hx1]; simp
  have hlt : y * (cs.length : Int) + x < cs.length * 64 := by omega
  simp
  repeat' first
    | refine jw_ret (hQ _ _ (.inr rfl) ⟨5, _, _, rfl, rfl, ?_⟩)
    | refine jw_ret (hQ _ _ (.inr rfl) ⟨_, rfl, ?_⟩)
    | refine jw_seq_k fun K hK => ?_
    | refine jw_block ?_
    | (refine jw_skip ?_; simp)
    | (refine jw_exit ?_; simp)
    | (refine jw_cond rfl (fun hc => ?_) (fun hc => ?_) <;> (try simp at hc) <;> (try (exfalso; first | omega | exact absurd hc (by assumption))))
    | (refine jw_c ?_; simp (maxSteps := 1000000) [hw1, he, hqm, hqd, hlt])
    | (refine jw_draw_j mixed (by kernel_rfl) ?_; simp (maxSteps := 1000000) [hw1, he, hqm, hqd, hlt])
    | (first | (apply hK; clear hK) | (clear hK; apply hK; clear hK) | (clear hK; clear hK; apply hK; clear hK) | (clear hK; clear hK; clear hK; apply hK; clear hK))
    | exact hQ _ _ (.inl rfl) ⟨5, _, _, rfl, rfl, rfl⟩
    | refine hQ _ _ (.inl rfl) ⟨5, _, _, rfl, rfl, ?_⟩
    | refine hQ _ _ (.inl rfl) ⟨_, rfl, ?_⟩
    | (refine jl_call (f := 9) rfl rfl rfl rfl rfl (placeOk 0 cs hok _ (by omega)) (by simp [BelL, Bel]) ?_; rintro r rfl; simp (maxSteps := 1000000) [hw1, he, hqm, hqd, hlt])
    | (refine jd_call (f := 9) rfl rfl rfl rfl rfl (placeOk 0 cs hok _ (by omega)) (by simp [BelL, Bel]) ?_; simp (maxSteps := 1000000) [hw1, he, hqm, hqd, hlt])
    | (refine jl_call (f := 10) rfl rfl rfl rfl rfl (posF 0 cs hok _ _ (by omega) (by omega)) (by simp [BelL, Bel]) ?_; rintro r rfl; simp (maxSteps := 1000000) [hw1, he, hqm, hqd, hlt])
    | (refine jd_call (f := 10) rfl rfl rfl rfl rfl (posF 0 cs hok _ _ (by omega) (by omega)) (by simp [BelL, Bel]) ?_; simp (maxSteps := 1000000) [hw1, he, hqm, hqd, hlt])
    | (refine jl_call (f := 11) rfl rfl rfl rfl rfl (mayF 0 cs hok) (by simp [BelL, Bel]) ?_; rintro r rfl; simp (maxSteps := 1000000) [hw1, he, hqm, hqd, hlt])
    | (refine jd_call (f := 11) rfl rfl rfl rfl rfl (mayF 0 cs hok) (by simp [BelL, Bel]) ?_; simp (maxSteps := 1000000) [hw1, he, hqm, hqd, hlt])
    | (refine jd_newc rfl rfl (by simp) ?_; simp (maxSteps := 1000000) [thD, thL, hw1, he, hqm, hqd, hlt])
    | (refine okN_or ?_; simp (maxSteps := 1000000) [thD, thL, hw1, he, hqm, hqd, hlt])
    | (refine okC_guard (fun hc => ?_) (fun hc => ?_) <;> (first | simp (maxSteps := 1000000) [hc, of_decide_eq_true hc, hw1, he, hqm, hqd, hlt] | simp (maxSteps := 1000000) [hc, of_decide_eq_false hc, hw1, he, hqm, hqd, hlt] | simp (maxSteps := 1000000) [hc, hw1, he, hqm, hqd, hlt]) <;> (try simp at hc) <;> (try (exfalso; first | omega | exact absurd hc (by assumption))))
    | (refine okJ_guard (fun hc => ?_) (fun hc => ?_) <;> (first | simp (maxSteps := 1000000) [hc, of_decide_eq_true hc, hw1, he, hqm, hqd, hlt] | simp (maxSteps := 1000000) [hc, of_decide_eq_false hc, hw1, he, hqm, hqd, hlt] | simp (maxSteps := 1000000) [hc, hw1, he, hqm, hqd, hlt]) <;> (try simp at hc) <;> (try (exfalso; first | omega | exact absurd hc (by assumption))))
    | (refine And.intro (by first | assumption | omega | (simp [BelL, Bel]; done) | (simp; omega)) ?_; try simp (maxSteps := 1000000) [hw1, he, hqm, hqd, hlt])
    | (refine okC_or ?_; simp (maxSteps := 1000000) [hw1, he, hqm, hqd, hlt])
  rfl
end Go.Proofs.Ytaoohkfocajdcaa
