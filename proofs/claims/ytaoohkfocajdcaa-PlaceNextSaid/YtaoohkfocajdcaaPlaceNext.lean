/- PlaceNext: the walk and the law. -/
import Derived.Test.YtaoohkfocajdcaaLayFor
set_option linter.unusedVariables false
set_option linter.unusedSimpArgs false
set_option maxRecDepth 20000
set_option maxHeartbeats 20000000
namespace Go.Proofs.Ytaoohkfocajdcaa
open Go Go.Vm Go.Proofs

theorem next_place (n : Nat) (h : 1 ≤ n ∧ n ≤ 6) (f : Int) (hf : 0 ≤ f) : (f % n + 1 < n ∧ (f + 1) / n = f / n ∧ (f + 1) % n = f % n + 1 ∧ (f % n + 1).tmod n = f % n + 1) ∨ (f % n + 1 = n ∧ (f + 1) / n = f / n + 1 ∧ (f + 1) % n = 0 ∧ (f % n + 1).tmod n = 0) := by
  obtain rfl | rfl | rfl | rfl | rfl | rfl : n = 1 ∨ n = 2 ∨ n = 3 ∨ n = 4 ∨ n = 5 ∨ n = 6 := by omega
  all_goals rw [Int.tmod_eq_emod_of_nonneg (by omega)]; omega

theorem placeNext (a : List Int) (aw : ∀ n ∈ a, (Lit.int .i64 n).wf = true) (az : a.length * 8 ≤ 140737488351232) (_ : a.length ≤ 9223372036854775807) (t : Int) (tw : (Lit.int .i64 t).wf = true) (p : Int) (pw : (Lit.int .i64 p).wf = true) :
    FV Try.prog [] 3 [numsD .i64 a, .int .i64 t, .int .i64 p] (fun r => r = .bool true) := by
  refine fv_enter Try.func3 rfl rfl fun Q hQ => ?_
  repeat' first
    | refine jw_ret (hQ _ _ (.inr rfl) ⟨5, _, _, rfl, rfl, ?_⟩)
    | refine jw_ret (hQ _ _ (.inr rfl) ⟨_, rfl, ?_⟩)
    | refine jw_seq_k fun K hK => ?_
    | refine jw_block ?_
    | (refine jw_skip ?_; simp)
    | (refine jw_exit ?_; simp)
    | (refine jw_cond rfl (fun hc => ?_) (fun hc => ?_) <;> (try simp at hc) <;> (try (exfalso; first | omega | exact absurd hc (by assumption))))
    | (refine jw_c ?_; simp (maxSteps := 1000000) [Try.f3])
    | (refine jw_draw_q mixed (by kernel_rfl) ?_; simp (maxSteps := 1000000) [Try.f3])
    | (first | (apply hK; clear hK) | (clear hK; apply hK; clear hK) | (clear hK; clear hK; apply hK; clear hK) | (clear hK; clear hK; clear hK; apply hK; clear hK))
    | exact hQ _ _ (.inl rfl) ⟨5, _, _, rfl, rfl, rfl⟩
    | refine hQ _ _ (.inl rfl) ⟨5, _, _, rfl, rfl, ?_⟩
    | refine hQ _ _ (.inl rfl) ⟨_, rfl, ?_⟩
    | (refine jl_call (f := 7) rfl rfl rfl rfl rfl (layForF a az 0 t) (by simp [BelL, Bel]) ?_; rintro r ⟨cs, rfl, hok, hn5⟩; simp (maxSteps := 1000000) [Try.f3])
    | (refine okC_guard (fun hc => ?_) (fun hc => ?_) <;> (first | simp (maxSteps := 1000000) [hc, of_decide_eq_true hc, Try.f3] | simp (maxSteps := 1000000) [hc, of_decide_eq_false hc, Try.f3] | simp (maxSteps := 1000000) [hc, Try.f3]) <;> (try simp at hc) <;> (try (exfalso; first | omega | exact absurd hc (by assumption))))
    | (refine okQ_guard (fun hc => ?_) (fun hc => ?_) <;> (first | simp (maxSteps := 1000000) [hc, of_decide_eq_true hc, Try.f3] | simp (maxSteps := 1000000) [hc, of_decide_eq_false hc, Try.f3] | simp (maxSteps := 1000000) [hc, Try.f3]) <;> (try simp at hc) <;> (try (exfalso; first | omega | exact absurd hc (by assumption))))
    | (refine And.intro (by first | assumption | omega | (simp; omega)) ?_; try simp (maxSteps := 1000000) [Try.f3])
    | (refine okC_or ?_; simp (maxSteps := 1000000) [Try.f3])
  have h2 := hok.2.2.1
  have h3 := hok.2.2.2.1
  have hw1 := wrap_i64 (n := (cs.length : Int) * 64) (by omega) (by omega)
  have hw2 := wrap_i64 (n := (cs.length : Int) * 64 - 1) (by omega) (by omega)
  rw [hw1, hw2]
  refine jl_call (f := 8) rfl rfl rfl rfl rfl (pickedN p _ (by omega) (by omega)) (by simp [BelL, Bel]) ?_
  rintro r ⟨f, ⟨hf0, hf1⟩, rfl⟩
  have hw3 := wrap_i64 (n := f + 1) (by omega) (by omega)
  have hd0 : 0 ≤ f / cs.length := Int.ediv_nonneg hf0 (by omega)
  have hd1 : f / cs.length ≤ f := Int.ediv_le_self _ hf0
  have hm0 : 0 ≤ f % cs.length := Int.emod_nonneg f (by omega)
  have hm1 : f % cs.length < cs.length := Int.emod_lt_of_pos f (by omega)
  have hw4 := wrap_i64 (n := f % cs.length + 1) (by omega) (by omega)
  have hw5 := wrap_i64 (n := f / cs.length + 1) (by omega) (by omega)
  have hne : cs ≠ [] := by intro h; rw [h] at h2; simp at h2
  have hnz : (cs.length : Int) ≠ 0 := by omega
  have hnp := next_place cs.length ⟨h2, h3⟩ f hf0
  simp
  repeat' first
    | refine jw_ret (hQ _ _ (.inr rfl) ⟨5, _, _, rfl, rfl, ?_⟩)
    | refine jw_ret (hQ _ _ (.inr rfl) ⟨_, rfl, ?_⟩)
    | refine jw_seq_k fun K hK => ?_
    | refine jw_block ?_
    | (refine jw_skip ?_; simp)
    | (refine jw_exit ?_; simp)
    | (refine jw_cond rfl (fun hc => ?_) (fun hc => ?_) <;> (try simp at hc) <;> (try (exfalso; first | omega | exact absurd hc (by assumption))))
    | ((fail_if_success (refine jw_c (id := 7) ?_)); (refine jw_c ?_; simp (maxSteps := 1000000) [hw1, hw2, hw3, hne, hnz]))
    | (refine jw_draw_q mixed (by kernel_rfl) ?_; simp (maxSteps := 1000000) [hw1, hw2, hw3, hne, hnz])
    | (first | (apply hK; clear hK) | (clear hK; apply hK; clear hK) | (clear hK; clear hK; apply hK; clear hK) | (clear hK; clear hK; clear hK; apply hK; clear hK))
    | exact hQ _ _ (.inl rfl) ⟨5, _, _, rfl, rfl, rfl⟩
    | refine hQ _ _ (.inl rfl) ⟨5, _, _, rfl, rfl, ?_⟩
    | refine hQ _ _ (.inl rfl) ⟨_, rfl, ?_⟩
    | (refine jl_call (f := 9) rfl rfl rfl rfl rfl (placeOk 0 cs hok _ (by omega)) (by simp [BelL, Bel]) ?_; rintro r rfl; simp (maxSteps := 1000000) [hw1, hw2, hw3, hne, hnz])
    | (refine jq_call (f := 9) rfl rfl rfl rfl (placeOk 0 cs hok _ (by omega)) (by simp [BelL, Bel]) rfl ?_; simp (maxSteps := 1000000) [hw1, hw2, hw3, hne, hnz])
    | (refine jl_call (f := 9) rfl rfl rfl rfl rfl (placeBad 0 cs hok _ (by omega)) (by simp [BelL, Bel]) ?_; rintro r rfl; simp (maxSteps := 1000000) [hw1, hw2, hw3, hne, hnz])
    | (refine jq_call (f := 9) rfl rfl rfl rfl (placeBad 0 cs hok _ (by omega)) (by simp [BelL, Bel]) rfl ?_; simp (maxSteps := 1000000) [hw1, hw2, hw3, hne, hnz])
    | (refine okC_guard (fun hc => ?_) (fun hc => ?_) <;> (first | simp (maxSteps := 1000000) [hc, of_decide_eq_true hc, hw1, hw2, hw3, hne, hnz] | simp (maxSteps := 1000000) [hc, of_decide_eq_false hc, hw1, hw2, hw3, hne, hnz] | simp (maxSteps := 1000000) [hc, hw1, hw2, hw3, hne, hnz]) <;> (try simp at hc) <;> (try (exfalso; first | omega | exact absurd hc (by assumption))))
    | (refine okQ_guard (fun hc => ?_) (fun hc => ?_) <;> (first | simp (maxSteps := 1000000) [hc, of_decide_eq_true hc, hw1, hw2, hw3, hne, hnz] | simp (maxSteps := 1000000) [hc, of_decide_eq_false hc, hw1, hw2, hw3, hne, hnz] | simp (maxSteps := 1000000) [hc, hw1, hw2, hw3, hne, hnz]) <;> (try simp at hc) <;> (try (exfalso; first | omega | exact absurd hc (by assumption))))
    | (refine And.intro (by first | assumption | omega | (simp; omega)) ?_; try simp (maxSteps := 1000000) [hw1, hw2, hw3, hne, hnz])
    | (refine okC_or ?_; simp (maxSteps := 1000000) [hw1, hw2, hw3, hne, hnz])
  refine jw_wk (sl := [.any, .any, .any, .any, .any, .any, .any, .any, .int .i64 cs.length, .any, .int .i64 (f % cs.length), .int .i64 (f / cs.length), .int .i64 0, .int .i64 ((f + 1) % cs.length), .int .i64 ((f + 1) / cs.length), .int .i64 0, .any, .any, .int .i64 2] ++ List.replicate 75 .any) (by simp) ?_
  clear hw1 hw2 hw3
  generalize f % (cs.length : Int) = c at *
  generalize f / (cs.length : Int) = q at *
  generalize (f + 1) % (cs.length : Int) = c' at *
  generalize (f + 1) / (cs.length : Int) = q' at *
  generalize (cs.length : Int) = n at *
  generalize [some (Ob.c [D.int .i64 0, chainsD cs])] = σ
  rcases hnp with ⟨k1, rfl, k3, k4⟩ | ⟨k1, rfl, k3, k4⟩
  · as_aux_lemma =>
      repeat' first
        | refine jw_ret (hQ _ _ (.inr rfl) ⟨5, _, _, rfl, rfl, ?_⟩)
        | refine jw_ret (hQ _ _ (.inr rfl) ⟨_, rfl, ?_⟩)
        | refine jw_seq_k fun K hK => ?_
        | refine jw_block ?_
        | (refine jw_skip ?_; simp)
        | (refine jw_exit ?_; simp)
        | (refine jw_cond rfl (fun hc => ?_) (fun hc => ?_) <;> (try simp at hc) <;> (try (exfalso; first | omega | exact absurd hc (by assumption))))
        | (refine jw_c ?_; simp (maxSteps := 1000000) [hw4, hw5, k1, k3, k4, hnz])
        | (refine jw_draw_q mixed (by kernel_rfl) ?_; simp (maxSteps := 1000000) [hw4, hw5, k1, k3, k4, hnz])
        | (first | (apply hK; clear hK) | (clear hK; apply hK; clear hK) | (clear hK; clear hK; apply hK; clear hK) | (clear hK; clear hK; clear hK; apply hK; clear hK))
        | exact hQ _ _ (.inl rfl) ⟨5, _, _, rfl, rfl, rfl⟩
        | refine hQ _ _ (.inl rfl) ⟨5, _, _, rfl, rfl, ?_⟩
        | refine hQ _ _ (.inl rfl) ⟨_, rfl, ?_⟩
        | (refine okC_guard (fun hc => ?_) (fun hc => ?_) <;> (first | simp (maxSteps := 1000000) [hc, of_decide_eq_true hc, hw4, hw5, k1, k3, k4, hnz] | simp (maxSteps := 1000000) [hc, of_decide_eq_false hc, hw4, hw5, k1, k3, k4, hnz] | simp (maxSteps := 1000000) [hc, hw4, hw5, k1, k3, k4, hnz]) <;> (try simp at hc) <;> (try (exfalso; first | omega | exact absurd hc (by assumption))))
        | (refine okQ_guard (fun hc => ?_) (fun hc => ?_) <;> (first | simp (maxSteps := 1000000) [hc, of_decide_eq_true hc, hw4, hw5, k1, k3, k4, hnz] | simp (maxSteps := 1000000) [hc, of_decide_eq_false hc, hw4, hw5, k1, k3, k4, hnz] | simp (maxSteps := 1000000) [hc, hw4, hw5, k1, k3, k4, hnz]) <;> (try simp at hc) <;> (try (exfalso; first | omega | exact absurd hc (by assumption))))
        | (refine And.intro (by first | assumption | omega | (simp; omega)) ?_; try simp (maxSteps := 1000000) [hw4, hw5, k1, k3, k4, hnz])
        | (refine okC_or ?_; simp (maxSteps := 1000000) [hw4, hw5, k1, k3, k4, hnz])
      rfl
  · as_aux_lemma =>
      have k5 : ¬ c + 1 < n := by omega
      repeat' first
        | refine jw_ret (hQ _ _ (.inr rfl) ⟨5, _, _, rfl, rfl, ?_⟩)
        | refine jw_ret (hQ _ _ (.inr rfl) ⟨_, rfl, ?_⟩)
        | refine jw_seq_k fun K hK => ?_
        | refine jw_block ?_
        | (refine jw_skip ?_; simp)
        | (refine jw_exit ?_; simp)
        | (refine jw_cond rfl (fun hc => ?_) (fun hc => ?_) <;> (try simp at hc) <;> (try (exfalso; first | omega | exact absurd hc (by assumption))))
        | (refine jw_c ?_; simp (maxSteps := 1000000) [hw4, hw5, eq_true k1, k5, k3, k4, hnz])
        | (refine jw_draw_q mixed (by kernel_rfl) ?_; simp (maxSteps := 1000000) [hw4, hw5, eq_true k1, k5, k3, k4, hnz])
        | (first | (apply hK; clear hK) | (clear hK; apply hK; clear hK) | (clear hK; clear hK; apply hK; clear hK) | (clear hK; clear hK; clear hK; apply hK; clear hK))
        | exact hQ _ _ (.inl rfl) ⟨5, _, _, rfl, rfl, rfl⟩
        | refine hQ _ _ (.inl rfl) ⟨5, _, _, rfl, rfl, ?_⟩
        | refine hQ _ _ (.inl rfl) ⟨_, rfl, ?_⟩
        | (refine okC_guard (fun hc => ?_) (fun hc => ?_) <;> (first | simp (maxSteps := 1000000) [hc, of_decide_eq_true hc, hw4, hw5, eq_true k1, k5, k3, k4, hnz] | simp (maxSteps := 1000000) [hc, of_decide_eq_false hc, hw4, hw5, eq_true k1, k5, k3, k4, hnz] | simp (maxSteps := 1000000) [hc, hw4, hw5, eq_true k1, k5, k3, k4, hnz]) <;> (try simp at hc) <;> (try (exfalso; first | omega | exact absurd hc (by assumption))))
        | (refine okQ_guard (fun hc => ?_) (fun hc => ?_) <;> (first | simp (maxSteps := 1000000) [hc, of_decide_eq_true hc, hw4, hw5, eq_true k1, k5, k3, k4, hnz] | simp (maxSteps := 1000000) [hc, of_decide_eq_false hc, hw4, hw5, eq_true k1, k5, k3, k4, hnz] | simp (maxSteps := 1000000) [hc, hw4, hw5, eq_true k1, k5, k3, k4, hnz]) <;> (try simp at hc) <;> (try (exfalso; first | omega | exact absurd hc (by assumption))))
        | (refine And.intro (by first | assumption | omega | (simp; omega)) ?_; try simp (maxSteps := 1000000) [hw4, hw5, eq_true k1, k5, k3, k4, hnz])
        | (refine okC_or ?_; simp (maxSteps := 1000000) [hw4, hw5, eq_true k1, k5, k3, k4, hnz])
      rfl
end Go.Proofs.Ytaoohkfocajdcaa
