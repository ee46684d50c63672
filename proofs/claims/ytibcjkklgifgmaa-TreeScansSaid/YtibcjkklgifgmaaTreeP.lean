/- Trees: leaves, knots, joined, grown, put. The walks. -/
import Derived.Test.YtibcjkklgifgmaaTreeR
set_option linter.unusedVariables false
set_option linter.unusedSimpArgs false
set_option maxRecDepth 20000
set_option maxHeartbeats 20000000
namespace Go.Proofs.Ytibcjkklgifgmaa
open Go Go.Vm Go.Proofs

theorem halves_cases {α : Type} (l : List α) : halves l = [l] ∨ (4 < l.length ∧ ∃ a b, halves l = [a, b] ∧ a ≠ [] ∧ b ≠ []) := by
  unfold halves
  split
  · exact .inl rfl
  · rename_i h
    refine .inr ⟨by omega, _, _, rfl, ?_, ?_⟩
    · intro e; have := congrArg List.length e; rw [List.length_take, List.length_nil] at this; omega
    · intro e; have := congrArg List.length e; rw [List.length_drop, List.length_nil] at this; omega
theorem okC_t (σ : Store) (t : T) : okCell σ (tD t) = true := by rw [tD_eq]; rfl
theorem leavesF {G : Globals} (f : Bool) (es : List En) (hl : es.length ≤ 100000) : FV Try.prog G 35 [ensD f es] (fun r => r = ksD false ((halves es).map leafT)) := by
  have hH := halvesE (G := G) f es hl
  have hL := fun x => leafF (G := G) false x
  refine fv_enter_v Try.func35 rfl rfl fun Q hQ => ?_
  rcases halves_cases es with e | ⟨_, a, b, e, _, _⟩
  · rw [e] at hH hQ
    repeat' first
      | refine jw_ret (hQ _ _ (.inr rfl) ⟨5, _, _, rfl, rfl, ?_⟩)
      | refine jw_ret (hQ _ _ (.inr rfl) ⟨_, rfl, ?_⟩)
      | refine jw_seq_k fun K hK => ?_
      | refine jw_block ?_
      | ((first | refine jw_skip ?_ | refine jw_exit ?_); try simp)
      | (refine jw_cond rfl (fun hc => ?_) (fun hc => ?_) <;> (try simp at hc) <;> (try (exfalso; first | omega | exact absurd hc (by assumption))))
      | ((first | refine jw_c ?_ | refine jw_draw_j mixed (by kernel_rfl) ?_ | (refine jl_call (f := 45) rfl rfl rfl rfl rfl (hH) (by simp [BelL, Bel]) ?_; rintro r rfl) | refine jd_call (f := 45) rfl rfl rfl rfl rfl (hH) (by simp [BelL, Bel]) ?_); simp (maxSteps := 1000000) [Try.f35])
      | (first | (apply hK; clear hK) | (clear hK; apply hK; clear hK) | (clear hK; clear hK; apply hK; clear hK) | (clear hK; clear hK; clear hK; apply hK; clear hK))
      | exact hQ _ _ (.inl rfl) ⟨5, _, _, rfl, rfl, rfl⟩
      | refine hQ _ _ (.inl rfl) ⟨5, _, _, rfl, rfl, ?_⟩
      | refine hQ _ _ (.inl rfl) ⟨_, rfl, ?_⟩
      | ((first | refine jd_newc rfl rfl (by simp) ?_ | refine okN_or ?_); simp (maxSteps := 1000000) [thD, thL, Try.f35])
      | ((first | refine okC_guard (fun hc => ?_) (fun hc => ?_) | refine okJ_guard (fun hc => ?_) (fun hc => ?_)) <;> (first | have hd := of_decide_eq_true hc | have hd := of_decide_eq_false hc | have hd := hc) <;> simp (maxSteps := 1000000) [hc, hd, Try.f35] <;> (try simp at hc) <;> (try (exfalso; first | omega | exact absurd hc (by assumption))))
      | (refine And.intro (by first | assumption | omega | (simp [BelL, Bel]; done) | (simp; omega)) ?_; try simp (maxSteps := 1000000) [Try.f35])
      | (refine okC_or ?_; simp (maxSteps := 1000000) [Try.f35])
    refine jw_nil 2 1 rfl ?_
    simp
    repeat' first
      | refine jw_ret (hQ _ _ (.inr rfl) ⟨5, _, _, rfl, rfl, ?_⟩)
      | refine jw_ret (hQ _ _ (.inr rfl) ⟨_, rfl, ?_⟩)
      | refine jw_seq_k fun K hK => ?_
      | refine jw_block ?_
      | ((first | refine jw_skip ?_ | refine jw_exit ?_); try simp)
      | (refine jw_cond rfl (fun hc => ?_) (fun hc => ?_) <;> (try simp at hc) <;> (try (exfalso; first | omega | exact absurd hc (by assumption))))
      | ((fail_if_success (refine jw_c (id := 6) ?_)); (refine jw_c ?_; simp (maxSteps := 1000000) [tD_eq, okCell]))
      | ((fail_if_success (refine jw_draw_j (id := 6) mixed (by kernel_rfl) ?_)); (refine jw_draw_j mixed (by kernel_rfl) ?_; simp (maxSteps := 1000000) [tD_eq, okCell]))
      | (first | (apply hK; clear hK) | (clear hK; apply hK; clear hK) | (clear hK; clear hK; apply hK; clear hK) | (clear hK; clear hK; clear hK; apply hK; clear hK))
      | exact hQ _ _ (.inl rfl) ⟨5, _, _, rfl, rfl, rfl⟩
      | refine hQ _ _ (.inl rfl) ⟨5, _, _, rfl, rfl, ?_⟩
      | refine hQ _ _ (.inl rfl) ⟨_, rfl, ?_⟩
      | refine jw_unroll 2 ?_
      | refine ul_k fun K hK => ?_
      | ((first | (refine jl_call (f := 22) rfl rfl rfl rfl rfl (hL _) (by simp [BelL, Bel]) ?_; rintro r rfl) | refine jd_call (f := 22) rfl rfl rfl rfl rfl (hL _) (by simp [BelL, Bel]) ?_); simp (maxSteps := 1000000) [tD_eq, okCell])
      | ((first | refine jd_newc rfl rfl (by simp) ?_ | refine okN_or ?_); simp (maxSteps := 1000000) [thD, thL, tD_eq, okCell])
      | ((first | refine okC_guard (fun hc => ?_) (fun hc => ?_) | refine okJ_guard (fun hc => ?_) (fun hc => ?_)) <;> (first | have hd := of_decide_eq_true hc | have hd := of_decide_eq_false hc | have hd := hc) <;> simp (maxSteps := 1000000) [hc, hd, tD_eq, okCell] <;> (try simp at hc) <;> (try (exfalso; first | omega | exact absurd hc (by assumption))))
      | (refine And.intro (by first | assumption | omega | (simp [BelL, Bel]; done) | (simp; omega)) ?_; try simp (maxSteps := 1000000) [tD_eq, okCell])
      | (refine okC_or ?_; simp (maxSteps := 1000000) [tD_eq, okCell])
    (refine jw_view (view_frz 0 _ rfl (by simp [BelL, Bel, thL_flat])) ?_; simp (maxSteps := 1000000) [thL, thD, thS, thOb, thL_flat])
    repeat' first
      | refine jw_seq_k fun K hK => ?_
      | refine jw_block ?_
      | ((first | refine jw_skip ?_ | refine jw_exit ?_); try simp)
      | (refine jw_cond rfl (fun hc => ?_) (fun hc => ?_) <;> (try simp at hc) <;> (try (exfalso; first | omega | exact absurd hc (by assumption))))
      | ((first | refine jw_c ?_ | refine jw_draw_j mixed (by kernel_rfl) ?_); simp (maxSteps := 1000000) [tD_eq])
      | (first | (apply hK; clear hK) | (clear hK; apply hK; clear hK) | (clear hK; clear hK; apply hK; clear hK) | (clear hK; clear hK; clear hK; apply hK; clear hK))
      | ((first | refine jw_ret (hQ _ _ (.inr rfl) (ret_ok 0 ?_ (by first | omega | simp))) | refine hQ _ _ (.inl rfl) (ret_ok 0 ?_ (by first | omega | simp))); simp (maxSteps := 1000000) [okRet, BelL, Bel, BelS, BelOb, tD_eq])
      | ((first | refine jd_newc rfl rfl (by simp) ?_ | refine okN_or ?_); simp (maxSteps := 1000000) [thD, thL, tD_eq])
      | ((first | refine okC_guard (fun hc => ?_) (fun hc => ?_) | refine okJ_guard (fun hc => ?_) (fun hc => ?_)) <;> (first | have hd := of_decide_eq_true hc | have hd := of_decide_eq_false hc | have hd := hc) <;> simp (maxSteps := 1000000) [hc, hd, tD_eq] <;> (try simp at hc) <;> (try (exfalso; first | omega | exact absurd hc (by assumption))))
      | (refine And.intro (by first | assumption | omega | (simp [BelL, Bel]; done) | (simp; omega)) ?_; try simp (maxSteps := 1000000) [tD_eq])
      | (refine okC_or ?_; simp (maxSteps := 1000000) [tD_eq])
    all_goals (unfold ksD; simp only [tDs, tD_eq]; rfl)
  · rw [e] at hH hQ
    repeat' first
      | refine jw_ret (hQ _ _ (.inr rfl) ⟨5, _, _, rfl, rfl, ?_⟩)
      | refine jw_ret (hQ _ _ (.inr rfl) ⟨_, rfl, ?_⟩)
      | refine jw_seq_k fun K hK => ?_
      | refine jw_block ?_
      | ((first | refine jw_skip ?_ | refine jw_exit ?_); try simp)
      | (refine jw_cond rfl (fun hc => ?_) (fun hc => ?_) <;> (try simp at hc) <;> (try (exfalso; first | omega | exact absurd hc (by assumption))))
      | ((first | refine jw_c ?_ | refine jw_draw_j mixed (by kernel_rfl) ?_ | (refine jl_call (f := 45) rfl rfl rfl rfl rfl (hH) (by simp [BelL, Bel]) ?_; rintro r rfl) | refine jd_call (f := 45) rfl rfl rfl rfl rfl (hH) (by simp [BelL, Bel]) ?_); simp (maxSteps := 1000000) [Try.f35])
      | (first | (apply hK; clear hK) | (clear hK; apply hK; clear hK) | (clear hK; clear hK; apply hK; clear hK) | (clear hK; clear hK; clear hK; apply hK; clear hK))
      | exact hQ _ _ (.inl rfl) ⟨5, _, _, rfl, rfl, rfl⟩
      | refine hQ _ _ (.inl rfl) ⟨5, _, _, rfl, rfl, ?_⟩
      | refine hQ _ _ (.inl rfl) ⟨_, rfl, ?_⟩
      | ((first | refine jd_newc rfl rfl (by simp) ?_ | refine okN_or ?_); simp (maxSteps := 1000000) [thD, thL, Try.f35])
      | ((first | refine okC_guard (fun hc => ?_) (fun hc => ?_) | refine okJ_guard (fun hc => ?_) (fun hc => ?_)) <;> (first | have hd := of_decide_eq_true hc | have hd := of_decide_eq_false hc | have hd := hc) <;> simp (maxSteps := 1000000) [hc, hd, Try.f35] <;> (try simp at hc) <;> (try (exfalso; first | omega | exact absurd hc (by assumption))))
      | (refine And.intro (by first | assumption | omega | (simp [BelL, Bel]; done) | (simp; omega)) ?_; try simp (maxSteps := 1000000) [Try.f35])
      | (refine okC_or ?_; simp (maxSteps := 1000000) [Try.f35])
    refine jw_nil 2 1 rfl ?_
    simp
    repeat' first
      | refine jw_ret (hQ _ _ (.inr rfl) ⟨5, _, _, rfl, rfl, ?_⟩)
      | refine jw_ret (hQ _ _ (.inr rfl) ⟨_, rfl, ?_⟩)
      | refine jw_seq_k fun K hK => ?_
      | refine jw_block ?_
      | ((first | refine jw_skip ?_ | refine jw_exit ?_); try simp)
      | (refine jw_cond rfl (fun hc => ?_) (fun hc => ?_) <;> (try simp at hc) <;> (try (exfalso; first | omega | exact absurd hc (by assumption))))
      | ((fail_if_success (refine jw_c (id := 6) ?_)); (refine jw_c ?_; simp (maxSteps := 1000000) [tD_eq, okCell]))
      | ((fail_if_success (refine jw_draw_j (id := 6) mixed (by kernel_rfl) ?_)); (refine jw_draw_j mixed (by kernel_rfl) ?_; simp (maxSteps := 1000000) [tD_eq, okCell]))
      | (first | (apply hK; clear hK) | (clear hK; apply hK; clear hK) | (clear hK; clear hK; apply hK; clear hK) | (clear hK; clear hK; clear hK; apply hK; clear hK))
      | exact hQ _ _ (.inl rfl) ⟨5, _, _, rfl, rfl, rfl⟩
      | refine hQ _ _ (.inl rfl) ⟨5, _, _, rfl, rfl, ?_⟩
      | refine hQ _ _ (.inl rfl) ⟨_, rfl, ?_⟩
      | refine jw_unroll 3 ?_
      | refine ul_k fun K hK => ?_
      | ((first | (refine jl_call (f := 22) rfl rfl rfl rfl rfl (hL _) (by simp [BelL, Bel]) ?_; rintro r rfl) | refine jd_call (f := 22) rfl rfl rfl rfl rfl (hL _) (by simp [BelL, Bel]) ?_); simp (maxSteps := 1000000) [tD_eq, okCell])
      | ((first | refine jd_newc rfl rfl (by simp) ?_ | refine okN_or ?_); simp (maxSteps := 1000000) [thD, thL, tD_eq, okCell])
      | ((first | refine okC_guard (fun hc => ?_) (fun hc => ?_) | refine okJ_guard (fun hc => ?_) (fun hc => ?_)) <;> (first | have hd := of_decide_eq_true hc | have hd := of_decide_eq_false hc | have hd := hc) <;> simp (maxSteps := 1000000) [hc, hd, tD_eq, okCell] <;> (try simp at hc) <;> (try (exfalso; first | omega | exact absurd hc (by assumption))))
      | (refine And.intro (by first | assumption | omega | (simp [BelL, Bel]; done) | (simp; omega)) ?_; try simp (maxSteps := 1000000) [tD_eq, okCell])
      | (refine okC_or ?_; simp (maxSteps := 1000000) [tD_eq, okCell])
    (refine jw_view (view_frz 0 _ rfl (by simp [BelL, Bel, thL_flat])) ?_; simp (maxSteps := 1000000) [thL, thD, thS, thOb, thL_flat])
    repeat' first
      | refine jw_seq_k fun K hK => ?_
      | refine jw_block ?_
      | ((first | refine jw_skip ?_ | refine jw_exit ?_); try simp)
      | (refine jw_cond rfl (fun hc => ?_) (fun hc => ?_) <;> (try simp at hc) <;> (try (exfalso; first | omega | exact absurd hc (by assumption))))
      | ((first | refine jw_c ?_ | refine jw_draw_j mixed (by kernel_rfl) ?_); simp (maxSteps := 1000000) [tD_eq])
      | (first | (apply hK; clear hK) | (clear hK; apply hK; clear hK) | (clear hK; clear hK; apply hK; clear hK) | (clear hK; clear hK; clear hK; apply hK; clear hK))
      | ((first | refine jw_ret (hQ _ _ (.inr rfl) (ret_ok 0 ?_ (by first | omega | simp))) | refine hQ _ _ (.inl rfl) (ret_ok 0 ?_ (by first | omega | simp))); simp (maxSteps := 1000000) [okRet, BelL, Bel, BelS, BelOb, tD_eq])
      | ((first | refine jd_newc rfl rfl (by simp) ?_ | refine okN_or ?_); simp (maxSteps := 1000000) [thD, thL, tD_eq])
      | ((first | refine okC_guard (fun hc => ?_) (fun hc => ?_) | refine okJ_guard (fun hc => ?_) (fun hc => ?_)) <;> (first | have hd := of_decide_eq_true hc | have hd := of_decide_eq_false hc | have hd := hc) <;> simp (maxSteps := 1000000) [hc, hd, tD_eq] <;> (try simp at hc) <;> (try (exfalso; first | omega | exact absurd hc (by assumption))))
      | (refine And.intro (by first | assumption | omega | (simp [BelL, Bel]; done) | (simp; omega)) ?_; try simp (maxSteps := 1000000) [tD_eq])
      | (refine okC_or ?_; simp (maxSteps := 1000000) [tD_eq])
    all_goals (unfold ksD; simp only [tDs, tD_eq]; rfl)
theorem knotsF {G : Globals} (f : Bool) (ks : List T) (h0 : ks ≠ []) (hl : ks.length ≤ 100000) : FV Try.prog G 32 [ksD f ks] (fun r => r = ksD false ((halves ks).map knotT)) := by
  have hH := halvesK (G := G) f ks hl
  refine fv_enter_v Try.func32 rfl rfl fun Q hQ => ?_
  rcases halves_cases ks with e | ⟨_, a, b, e, ha, hb⟩
  · have hL := knotF (G := G) false ks h0
    rw [e] at hH hQ
    repeat' first
      | refine jw_ret (hQ _ _ (.inr rfl) ⟨5, _, _, rfl, rfl, ?_⟩)
      | refine jw_ret (hQ _ _ (.inr rfl) ⟨_, rfl, ?_⟩)
      | refine jw_seq_k fun K hK => ?_
      | refine jw_block ?_
      | ((first | refine jw_skip ?_ | refine jw_exit ?_); try simp)
      | (refine jw_cond rfl (fun hc => ?_) (fun hc => ?_) <;> (try simp at hc) <;> (try (exfalso; first | omega | exact absurd hc (by assumption))))
      | ((first | refine jw_c ?_ | refine jw_draw_j mixed (by kernel_rfl) ?_ | (refine jl_call (f := 41) rfl rfl rfl rfl rfl (hH) (by simp [BelL, Bel]) ?_; rintro r rfl) | refine jd_call (f := 41) rfl rfl rfl rfl rfl (hH) (by simp [BelL, Bel]) ?_); simp (maxSteps := 1000000) [Try.f32])
      | (first | (apply hK; clear hK) | (clear hK; apply hK; clear hK) | (clear hK; clear hK; apply hK; clear hK) | (clear hK; clear hK; clear hK; apply hK; clear hK))
      | exact hQ _ _ (.inl rfl) ⟨5, _, _, rfl, rfl, rfl⟩
      | refine hQ _ _ (.inl rfl) ⟨5, _, _, rfl, rfl, ?_⟩
      | refine hQ _ _ (.inl rfl) ⟨_, rfl, ?_⟩
      | ((first | refine jd_newc rfl rfl (by simp) ?_ | refine okN_or ?_); simp (maxSteps := 1000000) [thD, thL, Try.f32])
      | ((first | refine okC_guard (fun hc => ?_) (fun hc => ?_) | refine okJ_guard (fun hc => ?_) (fun hc => ?_)) <;> (first | have hd := of_decide_eq_true hc | have hd := of_decide_eq_false hc | have hd := hc) <;> simp (maxSteps := 1000000) [hc, hd, Try.f32] <;> (try simp at hc) <;> (try (exfalso; first | omega | exact absurd hc (by assumption))))
      | (refine And.intro (by first | assumption | omega | (simp [BelL, Bel]; done) | (simp; omega)) ?_; try simp (maxSteps := 1000000) [Try.f32])
      | (refine okC_or ?_; simp (maxSteps := 1000000) [Try.f32])
    refine jw_nil 2 1 rfl ?_
    simp
    repeat' first
      | refine jw_ret (hQ _ _ (.inr rfl) ⟨5, _, _, rfl, rfl, ?_⟩)
      | refine jw_ret (hQ _ _ (.inr rfl) ⟨_, rfl, ?_⟩)
      | refine jw_seq_k fun K hK => ?_
      | refine jw_block ?_
      | ((first | refine jw_skip ?_ | refine jw_exit ?_); try simp)
      | (refine jw_cond rfl (fun hc => ?_) (fun hc => ?_) <;> (try simp at hc) <;> (try (exfalso; first | omega | exact absurd hc (by assumption))))
      | ((fail_if_success (refine jw_c (id := 6) ?_)); (refine jw_c ?_; simp (maxSteps := 1000000) [tD_eq, okCell]))
      | ((fail_if_success (refine jw_draw_j (id := 6) mixed (by kernel_rfl) ?_)); (refine jw_draw_j mixed (by kernel_rfl) ?_; simp (maxSteps := 1000000) [tD_eq, okCell]))
      | (first | (apply hK; clear hK) | (clear hK; apply hK; clear hK) | (clear hK; clear hK; apply hK; clear hK) | (clear hK; clear hK; clear hK; apply hK; clear hK))
      | exact hQ _ _ (.inl rfl) ⟨5, _, _, rfl, rfl, rfl⟩
      | refine hQ _ _ (.inl rfl) ⟨5, _, _, rfl, rfl, ?_⟩
      | refine hQ _ _ (.inl rfl) ⟨_, rfl, ?_⟩
      | refine jw_unroll 2 ?_
      | refine ul_k fun K hK => ?_
      | ((first | (refine jl_call (f := 30) rfl rfl rfl rfl rfl (hL) (by simp [BelL, Bel]) ?_; rintro r rfl) | refine jd_call (f := 30) rfl rfl rfl rfl rfl (hL) (by simp [BelL, Bel]) ?_); simp (maxSteps := 1000000) [tD_eq, okCell])
      | ((first | refine jd_newc rfl rfl (by simp) ?_ | refine okN_or ?_); simp (maxSteps := 1000000) [thD, thL, tD_eq, okCell])
      | ((first | refine okC_guard (fun hc => ?_) (fun hc => ?_) | refine okJ_guard (fun hc => ?_) (fun hc => ?_)) <;> (first | have hd := of_decide_eq_true hc | have hd := of_decide_eq_false hc | have hd := hc) <;> simp (maxSteps := 1000000) [hc, hd, tD_eq, okCell] <;> (try simp at hc) <;> (try (exfalso; first | omega | exact absurd hc (by assumption))))
      | (refine And.intro (by first | assumption | omega | (simp [BelL, Bel]; done) | (simp; omega)) ?_; try simp (maxSteps := 1000000) [tD_eq, okCell])
      | (refine okC_or ?_; simp (maxSteps := 1000000) [tD_eq, okCell])
    (refine jw_view (view_frz 0 _ rfl (by simp [BelL, Bel, thL_flat])) ?_; simp (maxSteps := 1000000) [thL, thD, thS, thOb, thL_flat])
    repeat' first
      | refine jw_seq_k fun K hK => ?_
      | refine jw_block ?_
      | ((first | refine jw_skip ?_ | refine jw_exit ?_); try simp)
      | (refine jw_cond rfl (fun hc => ?_) (fun hc => ?_) <;> (try simp at hc) <;> (try (exfalso; first | omega | exact absurd hc (by assumption))))
      | ((first | refine jw_c ?_ | refine jw_draw_j mixed (by kernel_rfl) ?_); simp (maxSteps := 1000000) [tD_eq])
      | (first | (apply hK; clear hK) | (clear hK; apply hK; clear hK) | (clear hK; clear hK; apply hK; clear hK) | (clear hK; clear hK; clear hK; apply hK; clear hK))
      | ((first | refine jw_ret (hQ _ _ (.inr rfl) (ret_ok 0 ?_ (by first | omega | simp))) | refine hQ _ _ (.inl rfl) (ret_ok 0 ?_ (by first | omega | simp))); simp (maxSteps := 1000000) [okRet, BelL, Bel, BelS, BelOb, tD_eq])
      | ((first | refine jd_newc rfl rfl (by simp) ?_ | refine okN_or ?_); simp (maxSteps := 1000000) [thD, thL, tD_eq])
      | ((first | refine okC_guard (fun hc => ?_) (fun hc => ?_) | refine okJ_guard (fun hc => ?_) (fun hc => ?_)) <;> (first | have hd := of_decide_eq_true hc | have hd := of_decide_eq_false hc | have hd := hc) <;> simp (maxSteps := 1000000) [hc, hd, tD_eq] <;> (try simp at hc) <;> (try (exfalso; first | omega | exact absurd hc (by assumption))))
      | (refine And.intro (by first | assumption | omega | (simp [BelL, Bel]; done) | (simp; omega)) ?_; try simp (maxSteps := 1000000) [tD_eq])
      | (refine okC_or ?_; simp (maxSteps := 1000000) [tD_eq])
    all_goals (unfold ksD; simp only [tDs, tD_eq]; rfl)
  · have hL := knotF (G := G) false a ha
    have hL2 := knotF (G := G) false b hb
    rw [e] at hH hQ
    repeat' first
      | refine jw_ret (hQ _ _ (.inr rfl) ⟨5, _, _, rfl, rfl, ?_⟩)
      | refine jw_ret (hQ _ _ (.inr rfl) ⟨_, rfl, ?_⟩)
      | refine jw_seq_k fun K hK => ?_
      | refine jw_block ?_
      | ((first | refine jw_skip ?_ | refine jw_exit ?_); try simp)
      | (refine jw_cond rfl (fun hc => ?_) (fun hc => ?_) <;> (try simp at hc) <;> (try (exfalso; first | omega | exact absurd hc (by assumption))))
      | ((first | refine jw_c ?_ | refine jw_draw_j mixed (by kernel_rfl) ?_ | (refine jl_call (f := 41) rfl rfl rfl rfl rfl (hH) (by simp [BelL, Bel]) ?_; rintro r rfl) | refine jd_call (f := 41) rfl rfl rfl rfl rfl (hH) (by simp [BelL, Bel]) ?_); simp (maxSteps := 1000000) [Try.f32])
      | (first | (apply hK; clear hK) | (clear hK; apply hK; clear hK) | (clear hK; clear hK; apply hK; clear hK) | (clear hK; clear hK; clear hK; apply hK; clear hK))
      | exact hQ _ _ (.inl rfl) ⟨5, _, _, rfl, rfl, rfl⟩
      | refine hQ _ _ (.inl rfl) ⟨5, _, _, rfl, rfl, ?_⟩
      | refine hQ _ _ (.inl rfl) ⟨_, rfl, ?_⟩
      | ((first | refine jd_newc rfl rfl (by simp) ?_ | refine okN_or ?_); simp (maxSteps := 1000000) [thD, thL, Try.f32])
      | ((first | refine okC_guard (fun hc => ?_) (fun hc => ?_) | refine okJ_guard (fun hc => ?_) (fun hc => ?_)) <;> (first | have hd := of_decide_eq_true hc | have hd := of_decide_eq_false hc | have hd := hc) <;> simp (maxSteps := 1000000) [hc, hd, Try.f32] <;> (try simp at hc) <;> (try (exfalso; first | omega | exact absurd hc (by assumption))))
      | (refine And.intro (by first | assumption | omega | (simp [BelL, Bel]; done) | (simp; omega)) ?_; try simp (maxSteps := 1000000) [Try.f32])
      | (refine okC_or ?_; simp (maxSteps := 1000000) [Try.f32])
    refine jw_nil 2 1 rfl ?_
    simp
    repeat' first
      | refine jw_ret (hQ _ _ (.inr rfl) ⟨5, _, _, rfl, rfl, ?_⟩)
      | refine jw_ret (hQ _ _ (.inr rfl) ⟨_, rfl, ?_⟩)
      | refine jw_seq_k fun K hK => ?_
      | refine jw_block ?_
      | ((first | refine jw_skip ?_ | refine jw_exit ?_); try simp)
      | (refine jw_cond rfl (fun hc => ?_) (fun hc => ?_) <;> (try simp at hc) <;> (try (exfalso; first | omega | exact absurd hc (by assumption))))
      | ((fail_if_success (refine jw_c (id := 6) ?_)); (refine jw_c ?_; simp (maxSteps := 1000000) [tD_eq, okCell]))
      | ((fail_if_success (refine jw_draw_j (id := 6) mixed (by kernel_rfl) ?_)); (refine jw_draw_j mixed (by kernel_rfl) ?_; simp (maxSteps := 1000000) [tD_eq, okCell]))
      | (first | (apply hK; clear hK) | (clear hK; apply hK; clear hK) | (clear hK; clear hK; apply hK; clear hK) | (clear hK; clear hK; clear hK; apply hK; clear hK))
      | exact hQ _ _ (.inl rfl) ⟨5, _, _, rfl, rfl, rfl⟩
      | refine hQ _ _ (.inl rfl) ⟨5, _, _, rfl, rfl, ?_⟩
      | refine hQ _ _ (.inl rfl) ⟨_, rfl, ?_⟩
      | refine jw_unroll 3 ?_
      | refine ul_k fun K hK => ?_
      | ((first | (refine jl_call (f := 30) rfl rfl rfl rfl rfl (hL) (by simp [BelL, Bel]) ?_; rintro r rfl) | refine jd_call (f := 30) rfl rfl rfl rfl rfl (hL) (by simp [BelL, Bel]) ?_ | (refine jl_call (f := 30) rfl rfl rfl rfl rfl (hL2) (by simp [BelL, Bel]) ?_; rintro r rfl) | refine jd_call (f := 30) rfl rfl rfl rfl rfl (hL2) (by simp [BelL, Bel]) ?_); simp (maxSteps := 1000000) [tD_eq, okCell])
      | ((first | refine jd_newc rfl rfl (by simp) ?_ | refine okN_or ?_); simp (maxSteps := 1000000) [thD, thL, tD_eq, okCell])
      | ((first | refine okC_guard (fun hc => ?_) (fun hc => ?_) | refine okJ_guard (fun hc => ?_) (fun hc => ?_)) <;> (first | have hd := of_decide_eq_true hc | have hd := of_decide_eq_false hc | have hd := hc) <;> simp (maxSteps := 1000000) [hc, hd, tD_eq, okCell] <;> (try simp at hc) <;> (try (exfalso; first | omega | exact absurd hc (by assumption))))
      | (refine And.intro (by first | assumption | omega | (simp [BelL, Bel]; done) | (simp; omega)) ?_; try simp (maxSteps := 1000000) [tD_eq, okCell])
      | (refine okC_or ?_; simp (maxSteps := 1000000) [tD_eq, okCell])
    (refine jw_view (view_frz 0 _ rfl (by simp [BelL, Bel, thL_flat])) ?_; simp (maxSteps := 1000000) [thL, thD, thS, thOb, thL_flat])
    repeat' first
      | refine jw_seq_k fun K hK => ?_
      | refine jw_block ?_
      | ((first | refine jw_skip ?_ | refine jw_exit ?_); try simp)
      | (refine jw_cond rfl (fun hc => ?_) (fun hc => ?_) <;> (try simp at hc) <;> (try (exfalso; first | omega | exact absurd hc (by assumption))))
      | ((first | refine jw_c ?_ | refine jw_draw_j mixed (by kernel_rfl) ?_); simp (maxSteps := 1000000) [tD_eq])
      | (first | (apply hK; clear hK) | (clear hK; apply hK; clear hK) | (clear hK; clear hK; apply hK; clear hK) | (clear hK; clear hK; clear hK; apply hK; clear hK))
      | ((first | refine jw_ret (hQ _ _ (.inr rfl) (ret_ok 0 ?_ (by first | omega | simp))) | refine hQ _ _ (.inl rfl) (ret_ok 0 ?_ (by first | omega | simp))); simp (maxSteps := 1000000) [okRet, BelL, Bel, BelS, BelOb, tD_eq])
      | ((first | refine jd_newc rfl rfl (by simp) ?_ | refine okN_or ?_); simp (maxSteps := 1000000) [thD, thL, tD_eq])
      | ((first | refine okC_guard (fun hc => ?_) (fun hc => ?_) | refine okJ_guard (fun hc => ?_) (fun hc => ?_)) <;> (first | have hd := of_decide_eq_true hc | have hd := of_decide_eq_false hc | have hd := hc) <;> simp (maxSteps := 1000000) [hc, hd, tD_eq] <;> (try simp at hc) <;> (try (exfalso; first | omega | exact absurd hc (by assumption))))
      | (refine And.intro (by first | assumption | omega | (simp [BelL, Bel]; done) | (simp; omega)) ?_; try simp (maxSteps := 1000000) [tD_eq])
      | (refine okC_or ?_; simp (maxSteps := 1000000) [tD_eq])
    all_goals (unfold ksD; simp only [tDs, tD_eq]; rfl)
def joinT (a b : T) : List T := if 0 < a.ks.length then (halves (a.ks ++ b.ks)).map knotT else (halves (a.es ++ b.es)).map leafT
theorem joinedF {G : Globals} (a b : T) (ha : a.size ≤ 1000) (hb : b.size ≤ 1000) : FV Try.prog G 40 [tD a, tD b] (fun r => r = ksD false (joinT a b)) := by
  unfold T.size at ha hb
  refine fv_enter_v Try.func40 rfl rfl fun Q hQ => ?_
  rw [tD_eq, tD_eq]
  by_cases h : 0 < a.ks.length
  · have e : joinT a b = (halves (a.ks ++ b.ks)).map knotT := if_pos h
    rw [e] at hQ
    have hC := fun fl f1 f2 => concat2K (G := G) fl f1 f2 a.ks b.ks (by omega)
    have hKn := knotsF (G := G) false (a.ks ++ b.ks) (by intro e; have := congrArg List.length e; simp at this; rw [this.1] at h; simp at h) (by simp; omega)
    generalize a.ks ++ b.ks = M at *
    repeat' first
      | refine jw_seq_k fun K hK => ?_
      | refine jw_block ?_
      | ((first | refine jw_skip ?_ | refine jw_exit ?_); try simp)
      | (refine jw_cond rfl (fun hc => ?_) (fun hc => ?_) <;> (try simp at hc) <;> (try (exfalso; first | omega | exact absurd hc (by assumption))))
      | ((first | refine jw_c ?_ | refine jw_draw_j mixed (by kernel_rfl) ?_ | (refine jl_call (f := 42) rfl rfl rfl rfl rfl (hC _ _ _) (by simp [BelL, Bel]) ?_; rintro r rfl) | refine jd_call (f := 42) rfl rfl rfl rfl rfl (hC _ _ _) (by simp [BelL, Bel]) ?_ | (refine jl_call (f := 32) rfl rfl rfl rfl rfl (hKn) (by simp [BelL, Bel]) ?_; rintro r rfl) | refine jd_call (f := 32) rfl rfl rfl rfl rfl (hKn) (by simp [BelL, Bel]) ?_); simp (maxSteps := 1000000) [Try.f40, ksD, ensD, h, okCell])
      | (first | (apply hK; clear hK) | (clear hK; apply hK; clear hK) | (clear hK; clear hK; apply hK; clear hK) | (clear hK; clear hK; clear hK; apply hK; clear hK))
      | ((first | refine jw_ret (hQ _ _ (.inr rfl) (ret_ok 0 ?_ (by first | omega | simp))) | refine hQ _ _ (.inl rfl) (ret_ok 0 ?_ (by first | omega | simp))); simp (maxSteps := 1000000) [okRet, BelL, Bel, BelS, BelOb, Try.f40, ksD, ensD, h, okCell])
      | ((first | refine jd_newc rfl rfl (by simp) ?_ | refine okN_or ?_); simp (maxSteps := 1000000) [thD, thL, Try.f40, ksD, ensD, h, okCell])
      | ((first | refine okC_guard (fun hc => ?_) (fun hc => ?_) | refine okJ_guard (fun hc => ?_) (fun hc => ?_)) <;> (first | have hd := of_decide_eq_true hc | have hd := of_decide_eq_false hc | have hd := hc) <;> simp (maxSteps := 1000000) [hc, hd, Try.f40, ksD, ensD, h, okCell] <;> (try simp at hc) <;> (try (exfalso; first | omega | exact absurd hc (by assumption))))
      | (refine And.intro (by first | assumption | omega | (simp [BelL, Bel]; done) | (simp; omega)) ?_; try simp (maxSteps := 1000000) [Try.f40, ksD, ensD, h, okCell])
      | (refine okC_or ?_; simp (maxSteps := 1000000) [Try.f40, ksD, ensD, h, okCell])
  · have e : joinT a b = (halves (a.es ++ b.es)).map leafT := if_neg h
    rw [e] at hQ
    have hC := fun fl f1 f2 => concat2E (G := G) fl f1 f2 a.es b.es (by omega)
    have hKn := leavesF (G := G) false (a.es ++ b.es) (by simp; omega)
    generalize a.es ++ b.es = M at *
    repeat' first
      | refine jw_seq_k fun K hK => ?_
      | refine jw_block ?_
      | ((first | refine jw_skip ?_ | refine jw_exit ?_); try simp)
      | (refine jw_cond rfl (fun hc => ?_) (fun hc => ?_) <;> (try simp at hc) <;> (try (exfalso; first | omega | exact absurd hc (by assumption))))
      | ((first | refine jw_c ?_ | refine jw_draw_j mixed (by kernel_rfl) ?_ | (refine jl_call (f := 46) rfl rfl rfl rfl rfl (hC _ _ _) (by simp [BelL, Bel]) ?_; rintro r rfl) | refine jd_call (f := 46) rfl rfl rfl rfl rfl (hC _ _ _) (by simp [BelL, Bel]) ?_ | (refine jl_call (f := 35) rfl rfl rfl rfl rfl (hKn) (by simp [BelL, Bel]) ?_; rintro r rfl) | refine jd_call (f := 35) rfl rfl rfl rfl rfl (hKn) (by simp [BelL, Bel]) ?_); simp (maxSteps := 1000000) [Try.f40, ksD, ensD, h, okCell])
      | (first | (apply hK; clear hK) | (clear hK; apply hK; clear hK) | (clear hK; clear hK; apply hK; clear hK) | (clear hK; clear hK; clear hK; apply hK; clear hK))
      | ((first | refine jw_ret (hQ _ _ (.inr rfl) (ret_ok 0 ?_ (by first | omega | simp))) | refine hQ _ _ (.inl rfl) (ret_ok 0 ?_ (by first | omega | simp))); simp (maxSteps := 1000000) [okRet, BelL, Bel, BelS, BelOb, Try.f40, ksD, ensD, h, okCell])
      | ((first | refine jd_newc rfl rfl (by simp) ?_ | refine okN_or ?_); simp (maxSteps := 1000000) [thD, thL, Try.f40, ksD, ensD, h, okCell])
      | ((first | refine okC_guard (fun hc => ?_) (fun hc => ?_) | refine okJ_guard (fun hc => ?_) (fun hc => ?_)) <;> (first | have hd := of_decide_eq_true hc | have hd := of_decide_eq_false hc | have hd := hc) <;> simp (maxSteps := 1000000) [hc, hd, Try.f40, ksD, ensD, h, okCell] <;> (try simp at hc) <;> (try (exfalso; first | omega | exact absurd hc (by assumption))))
      | (refine And.intro (by first | assumption | omega | (simp [BelL, Bel]; done) | (simp; omega)) ?_; try simp (maxSteps := 1000000) [Try.f40, ksD, ensD, h, okCell])
      | (refine okC_or ?_; simp (maxSteps := 1000000) [Try.f40, ksD, ensD, h, okCell])
def grownT : List T → T
  | [t] => t
  | l => knotT l
theorem grownF {G : Globals} (l : List T) (h0 : l ≠ []) : FV Try.prog G 25 [ksD false l] (fun r => r = tD (grownT l)) := by
  refine fv_enter_v Try.func25 rfl rfl fun Q hQ => ?_
  match l, h0 with
  | [t], _ =>
    unfold grownT at hQ
    repeat' first
      | refine jw_seq_k fun K hK => ?_
      | refine jw_block ?_
      | ((first | refine jw_skip ?_ | refine jw_exit ?_); try simp)
      | (refine jw_cond rfl (fun hc => ?_) (fun hc => ?_) <;> (try simp at hc) <;> (try (exfalso; first | omega | exact absurd hc (by assumption))))
      | ((first | refine jw_c ?_ | refine jw_draw_j mixed (by kernel_rfl) ?_); simp (maxSteps := 1000000) [Try.f25, ksD, tDs])
      | (first | (apply hK; clear hK) | (clear hK; apply hK; clear hK) | (clear hK; clear hK; apply hK; clear hK) | (clear hK; clear hK; clear hK; apply hK; clear hK))
      | ((first | refine jw_ret (hQ _ _ (.inr rfl) (ret_ok 0 ?_ (by first | omega | simp))) | refine hQ _ _ (.inl rfl) (ret_ok 0 ?_ (by first | omega | simp))); simp (maxSteps := 1000000) [okRet, BelL, Bel, BelS, BelOb, Try.f25, ksD, tDs])
      | ((first | refine jd_newc rfl rfl (by simp) ?_ | refine okN_or ?_); simp (maxSteps := 1000000) [thD, thL, Try.f25, ksD, tDs])
      | ((first | refine okC_guard (fun hc => ?_) (fun hc => ?_) | refine okJ_guard (fun hc => ?_) (fun hc => ?_)) <;> (first | have hd := of_decide_eq_true hc | have hd := of_decide_eq_false hc | have hd := hc) <;> simp (maxSteps := 1000000) [hc, hd, Try.f25, ksD, tDs] <;> (try simp at hc) <;> (try (exfalso; first | omega | exact absurd hc (by assumption))))
      | (refine And.intro (by first | assumption | omega | (simp [BelL, Bel]; done) | (simp; omega)) ?_; try simp (maxSteps := 1000000) [Try.f25, ksD, tDs])
      | (refine okC_or ?_; simp (maxSteps := 1000000) [Try.f25, ksD, tDs])
  | t :: u :: ts, _ =>
    have hKn := knotF (G := G) false (t :: u :: ts) (by simp)
    unfold grownT at hQ
    unfold ksD at hKn
    simp only [tDs, List.length_cons] at hKn
    repeat' first
      | refine jw_seq_k fun K hK => ?_
      | refine jw_block ?_
      | ((first | refine jw_skip ?_ | refine jw_exit ?_); try simp)
      | (refine jw_cond rfl (fun hc => ?_) (fun hc => ?_) <;> (try simp at hc) <;> (try (exfalso; first | omega | exact absurd hc (by assumption))))
      | ((first | refine jw_c ?_ | refine jw_draw_j mixed (by kernel_rfl) ?_ | (refine jl_call (f := 30) rfl rfl rfl rfl rfl (hKn) (by simp [BelL, Bel]) ?_; rintro r rfl) | refine jd_call (f := 30) rfl rfl rfl rfl rfl (hKn) (by simp [BelL, Bel]) ?_); simp (maxSteps := 1000000) [Try.f25, ksD, tDs, show ¬ (ts.length : Int) + 1 + 1 = 1 by omega])
      | (first | (apply hK; clear hK) | (clear hK; apply hK; clear hK) | (clear hK; clear hK; apply hK; clear hK) | (clear hK; clear hK; clear hK; apply hK; clear hK))
      | ((first | refine jw_ret (hQ _ _ (.inr rfl) (ret_ok 0 ?_ (by first | omega | simp))) | refine hQ _ _ (.inl rfl) (ret_ok 0 ?_ (by first | omega | simp))); simp (maxSteps := 1000000) [okRet, BelL, Bel, BelS, BelOb, Try.f25, ksD, tDs, show ¬ (ts.length : Int) + 1 + 1 = 1 by omega])
      | ((first | refine jd_newc rfl rfl (by simp) ?_ | refine okN_or ?_); simp (maxSteps := 1000000) [thD, thL, Try.f25, ksD, tDs, show ¬ (ts.length : Int) + 1 + 1 = 1 by omega])
      | ((first | refine okC_guard (fun hc => ?_) (fun hc => ?_) | refine okJ_guard (fun hc => ?_) (fun hc => ?_)) <;> (first | have hd := of_decide_eq_true hc | have hd := of_decide_eq_false hc | have hd := hc) <;> simp (maxSteps := 1000000) [hc, hd, Try.f25, ksD, tDs, show ¬ (ts.length : Int) + 1 + 1 = 1 by omega] <;> (try simp at hc) <;> (try (exfalso; first | omega | exact absurd hc (by assumption))))
      | (refine And.intro (by first | assumption | omega | (simp [BelL, Bel]; done) | (simp; omega)) ?_; try simp (maxSteps := 1000000) [Try.f25, ksD, tDs, show ¬ (ts.length : Int) + 1 + 1 = 1 by omega])
      | (refine okC_or ?_; simp (maxSteps := 1000000) [Try.f25, ksD, tDs, show ¬ (ts.length : Int) + 1 + 1 = 1 by omega])
def enD (e : En) : D := .agg (enC e)
theorem putF {G : Globals} : ∀ (d : Nat) (t : T) (e : En), Ok d t → Srt t.en → FV Try.prog G 26 [tD t, enD e] (fun r => r = ksD false (putT d t e))
  | 0, t, e, h, hs => by
    have hen : t.en = t.es := by rw [en_eq, h.1]; simp
    rw [hen] at hs
    have h4 := h.2.1
    have hA := atFn (G := G) false t.es e.k hs (by omega)
    have hle := atE_le t.es e.k
    have hF : atE t.es e.k + (atF t.es e.k).toNat ≤ t.es.length := by
      cases hF : atF t.es e.k with
      | false => simpa using hle
      | true => have := atF_bd hF; simp only [Bool.toNat_true]; omega
    have hi : ins t.es e = t.es.take (atE t.es e.k) ++ [e] ++ t.es.drop (atE t.es e.k + (atF t.es e.k).toNat) := by unfold ins; simp
    have hR := fun g => replacedE (G := G) false g t.es [e] (atE t.es e.k) (atE t.es e.k + (atF t.es e.k).toNat) (by omega) hF (by simp; omega)
    rw [← hi] at hR
    have hli := (ins_len (es := t.es) e).2
    have hL := leavesF (G := G) false (ins t.es e) (by omega)
    have hp : putT 0 t e = (halves (ins t.es e)).map leafT := rfl
    rw [hp]
    have hk := h.1
    refine fv_enter_v Try.func26 rfl rfl fun Q hQ => ?_
    rw [tD_eq, hk]
    generalize atE t.es e.k = i at *
    have hw := wrap_i64 (n := (i : Int) + 1) (by omega) (by omega)
    have e1 : [e].flatMap enC = [bytesD e.k, bytesD e.v] := rfl
    cases hB : atF t.es e.k with
    | false =>
      rw [hB] at hA hR
      simp only [Bool.toNat_false, Nat.add_zero] at hR
      repeat' first
        | refine jw_ret (hQ _ _ (.inr rfl) ⟨5, _, _, rfl, rfl, ?_⟩)
        | refine jw_ret (hQ _ _ (.inr rfl) ⟨_, rfl, ?_⟩)
        | refine jw_seq_k fun K hK => ?_
        | refine jw_block ?_
        | ((first | refine jw_skip ?_ | refine jw_exit ?_); try simp)
        | (refine jw_cond rfl (fun hc => ?_) (fun hc => ?_) <;> (try simp at hc) <;> (try (exfalso; first | omega | exact absurd hc (by assumption))))
        | ((fail_if_success (refine jw_c (id := 4) ?_)); (refine jw_c ?_; simp (maxSteps := 1000000) [Try.f26, enD, enC, ksD, tDs]))
        | ((fail_if_success (refine jw_draw_j (id := 4) mixed (by kernel_rfl) ?_)); (refine jw_draw_j mixed (by kernel_rfl) ?_; simp (maxSteps := 1000000) [Try.f26, enD, enC, ksD, tDs]))
        | (first | (apply hK; clear hK) | (clear hK; apply hK; clear hK) | (clear hK; clear hK; apply hK; clear hK) | (clear hK; clear hK; clear hK; apply hK; clear hK))
        | exact hQ _ _ (.inl rfl) ⟨5, _, _, rfl, rfl, rfl⟩
        | refine hQ _ _ (.inl rfl) ⟨5, _, _, rfl, rfl, ?_⟩
        | refine hQ _ _ (.inl rfl) ⟨_, rfl, ?_⟩
        | ((first | refine jd_newc rfl rfl (by simp) ?_ | refine okN_or ?_); simp (maxSteps := 1000000) [thD, thL, Try.f26, enD, enC, ksD, tDs])
        | ((first | refine okC_guard (fun hc => ?_) (fun hc => ?_) | refine okJ_guard (fun hc => ?_) (fun hc => ?_)) <;> (first | have hd := of_decide_eq_true hc | have hd := of_decide_eq_false hc | have hd := hc) <;> simp (maxSteps := 1000000) [hc, hd, Try.f26, enD, enC, ksD, tDs] <;> (try simp at hc) <;> (try (exfalso; first | omega | exact absurd hc (by assumption))))
        | (refine And.intro (by first | assumption | omega | (simp [BelL, Bel]; done) | (simp; omega)) ?_; try simp (maxSteps := 1000000) [Try.f26, enD, enC, ksD, tDs])
        | (refine okC_or ?_; simp (maxSteps := 1000000) [Try.f26, enD, enC, ksD, tDs])
      (refine jw_view (view_frz 0 _ rfl (by simp [BelL, Bel, thL_flat, thD_ens, thD_ks])) ?_; simp (maxSteps := 1000000) [thL, thD, thS, thOb, thL_flat, thD_ens, thD_ks])
      unfold ensD at hR
      rw [e1] at hR
      repeat' first
        | refine jw_seq_k fun K hK => ?_
        | refine jw_block ?_
        | ((first | refine jw_skip ?_ | refine jw_exit ?_); try simp)
        | (refine jw_cond rfl (fun hc => ?_) (fun hc => ?_) <;> (try simp at hc) <;> (try (exfalso; first | omega | exact absurd hc (by assumption))))
        | ((first | refine jw_c ?_ | refine jw_draw_j mixed (by kernel_rfl) ?_ | (refine jl_call (f := 34) rfl rfl rfl rfl rfl (hA) (by simp [BelL, Bel]) ?_; rintro r rfl) | refine jd_call (f := 34) rfl rfl rfl rfl rfl (hA) (by simp [BelL, Bel]) ?_ | (refine jl_call (f := 36) rfl rfl rfl rfl rfl (hR _) (by simp [BelL, Bel]) ?_; rintro r rfl) | refine jd_call (f := 36) rfl rfl rfl rfl rfl (hR _) (by simp [BelL, Bel]) ?_ | (refine jl_call (f := 35) rfl rfl rfl rfl rfl (hL) (by simp [BelL, Bel]) ?_; rintro r rfl) | refine jd_call (f := 35) rfl rfl rfl rfl rfl (hL) (by simp [BelL, Bel]) ?_); simp (maxSteps := 1000000) [ensD, okCell])
        | (first | (apply hK; clear hK) | (clear hK; apply hK; clear hK) | (clear hK; clear hK; apply hK; clear hK) | (clear hK; clear hK; clear hK; apply hK; clear hK))
        | ((first | refine jw_ret (hQ _ _ (.inr rfl) (ret_ok 0 ?_ (by first | omega | simp))) | refine hQ _ _ (.inl rfl) (ret_ok 0 ?_ (by first | omega | simp))); simp (maxSteps := 1000000) [okRet, BelL, Bel, BelS, BelOb, ensD, okCell])
        | ((first | refine jd_newc rfl rfl (by simp) ?_ | refine okN_or ?_); simp (maxSteps := 1000000) [thD, thL, ensD, okCell])
        | ((first | refine okC_guard (fun hc => ?_) (fun hc => ?_) | refine okJ_guard (fun hc => ?_) (fun hc => ?_)) <;> (first | have hd := of_decide_eq_true hc | have hd := of_decide_eq_false hc | have hd := hc) <;> simp (maxSteps := 1000000) [hc, hd, ensD, okCell] <;> (try simp at hc) <;> (try (exfalso; first | omega | exact absurd hc (by assumption))))
        | (refine And.intro (by first | assumption | omega | (simp [BelL, Bel]; done) | (simp; omega)) ?_; try simp (maxSteps := 1000000) [ensD, okCell])
        | (refine okC_or ?_; simp (maxSteps := 1000000) [ensD, okCell])
    | true =>
      rw [hB] at hA hR
      simp only [Bool.toNat_true] at hR
      repeat' first
        | refine jw_ret (hQ _ _ (.inr rfl) ⟨5, _, _, rfl, rfl, ?_⟩)
        | refine jw_ret (hQ _ _ (.inr rfl) ⟨_, rfl, ?_⟩)
        | refine jw_seq_k fun K hK => ?_
        | refine jw_block ?_
        | ((first | refine jw_skip ?_ | refine jw_exit ?_); try simp)
        | (refine jw_cond rfl (fun hc => ?_) (fun hc => ?_) <;> (try simp at hc) <;> (try (exfalso; first | omega | exact absurd hc (by assumption))))
        | ((fail_if_success (refine jw_c (id := 4) ?_)); (refine jw_c ?_; simp (maxSteps := 1000000) [Try.f26, enD, enC, ksD, tDs]))
        | ((fail_if_success (refine jw_draw_j (id := 4) mixed (by kernel_rfl) ?_)); (refine jw_draw_j mixed (by kernel_rfl) ?_; simp (maxSteps := 1000000) [Try.f26, enD, enC, ksD, tDs]))
        | (first | (apply hK; clear hK) | (clear hK; apply hK; clear hK) | (clear hK; clear hK; apply hK; clear hK) | (clear hK; clear hK; clear hK; apply hK; clear hK))
        | exact hQ _ _ (.inl rfl) ⟨5, _, _, rfl, rfl, rfl⟩
        | refine hQ _ _ (.inl rfl) ⟨5, _, _, rfl, rfl, ?_⟩
        | refine hQ _ _ (.inl rfl) ⟨_, rfl, ?_⟩
        | ((first | refine jd_newc rfl rfl (by simp) ?_ | refine okN_or ?_); simp (maxSteps := 1000000) [thD, thL, Try.f26, enD, enC, ksD, tDs])
        | ((first | refine okC_guard (fun hc => ?_) (fun hc => ?_) | refine okJ_guard (fun hc => ?_) (fun hc => ?_)) <;> (first | have hd := of_decide_eq_true hc | have hd := of_decide_eq_false hc | have hd := hc) <;> simp (maxSteps := 1000000) [hc, hd, Try.f26, enD, enC, ksD, tDs] <;> (try simp at hc) <;> (try (exfalso; first | omega | exact absurd hc (by assumption))))
        | (refine And.intro (by first | assumption | omega | (simp [BelL, Bel]; done) | (simp; omega)) ?_; try simp (maxSteps := 1000000) [Try.f26, enD, enC, ksD, tDs])
        | (refine okC_or ?_; simp (maxSteps := 1000000) [Try.f26, enD, enC, ksD, tDs])
      (refine jw_view (view_frz 0 _ rfl (by simp [BelL, Bel, thL_flat, thD_ens, thD_ks])) ?_; simp (maxSteps := 1000000) [thL, thD, thS, thOb, thL_flat, thD_ens, thD_ks])
      unfold ensD at hR
      rw [e1] at hR
      repeat' first
        | refine jw_seq_k fun K hK => ?_
        | refine jw_block ?_
        | ((first | refine jw_skip ?_ | refine jw_exit ?_); try simp)
        | (refine jw_cond rfl (fun hc => ?_) (fun hc => ?_) <;> (try simp at hc) <;> (try (exfalso; first | omega | exact absurd hc (by assumption))))
        | ((first | refine jw_c ?_ | refine jw_draw_j mixed (by kernel_rfl) ?_ | (refine jl_call (f := 34) rfl rfl rfl rfl rfl (hA) (by simp [BelL, Bel]) ?_; rintro r rfl) | refine jd_call (f := 34) rfl rfl rfl rfl rfl (hA) (by simp [BelL, Bel]) ?_ | (refine jl_call (f := 36) rfl rfl rfl rfl rfl (hR _) (by simp [BelL, Bel]) ?_; rintro r rfl) | refine jd_call (f := 36) rfl rfl rfl rfl rfl (hR _) (by simp [BelL, Bel]) ?_ | (refine jl_call (f := 35) rfl rfl rfl rfl rfl (hL) (by simp [BelL, Bel]) ?_; rintro r rfl) | refine jd_call (f := 35) rfl rfl rfl rfl rfl (hL) (by simp [BelL, Bel]) ?_); simp (maxSteps := 1000000) [ensD, okCell, hw])
        | (first | (apply hK; clear hK) | (clear hK; apply hK; clear hK) | (clear hK; clear hK; apply hK; clear hK) | (clear hK; clear hK; clear hK; apply hK; clear hK))
        | ((first | refine jw_ret (hQ _ _ (.inr rfl) (ret_ok 0 ?_ (by first | omega | simp))) | refine hQ _ _ (.inl rfl) (ret_ok 0 ?_ (by first | omega | simp))); simp (maxSteps := 1000000) [okRet, BelL, Bel, BelS, BelOb, ensD, okCell, hw])
        | ((first | refine jd_newc rfl rfl (by simp) ?_ | refine okN_or ?_); simp (maxSteps := 1000000) [thD, thL, ensD, okCell, hw])
        | ((first | refine okC_guard (fun hc => ?_) (fun hc => ?_) | refine okJ_guard (fun hc => ?_) (fun hc => ?_)) <;> (first | have hd := of_decide_eq_true hc | have hd := of_decide_eq_false hc | have hd := hc) <;> simp (maxSteps := 1000000) [hc, hd, ensD, okCell, hw] <;> (try simp at hc) <;> (try (exfalso; first | omega | exact absurd hc (by assumption))))
        | (refine And.intro (by first | assumption | omega | (simp [BelL, Bel]; done) | (simp; omega)) ?_; try simp (maxSteps := 1000000) [ensD, okCell, hw])
        | (refine okC_or ?_; simp (maxSteps := 1000000) [ensD, okCell, hw])
  | d + 1, t, e, h, hs => by
    have hen : t.en = T.ens t.ks := by rw [en_eq, h.1]; rfl
    obtain ⟨hes, h0, h4, _, hk⟩ := h
    rw [hen] at hs
    obtain ⟨l, u, r, h1, h2, _, _⟩ := way_law hk h0 hs e.k
    have hu := hk u (by rw [h1]; simp)
    have hsu : Srt u.en := by
      rw [h1, ens_app, ens_cons] at hs
      exact (List.pairwise_append.1 (List.pairwise_append.1 hs).2.1).1
    have hW := wayF (G := G) t e.k h0 (by omega)
    have hP := putF (G := G) d u e hu.1 hsu
    have hp := (put_law e hu.1 hsu).1
    have hg : t.ks[wayT t.ks e.k]? = some u := by rw [← h2, h1]; simp
    have hpt : putT (d + 1) t e = (halves (t.ks.take (wayT t.ks e.k) ++ putT d u e ++ t.ks.drop (wayT t.ks e.k + 1))).map knotT := by
      show (halves _).map knotT = _
      rw [hg]
    have hil : wayT t.ks e.k < t.ks.length := by rw [← h2, h1]; simp
    rw [hpt]
    have hpl : 1 ≤ (putT d u e).length ∧ (putT d u e).length ≤ 2 := by
      rcases hp with ⟨w, e1, _⟩ | ⟨w, w', e1, _⟩ <;> rw [e1] <;> simp
    have hR := replacedK (G := G) false false t.ks (putT d u e) (wayT t.ks e.k) (wayT t.ks e.k + 1) (by omega) (by omega) (by omega)
    have hKn := knotsF (G := G) false (t.ks.take (wayT t.ks e.k) ++ putT d u e ++ t.ks.drop (wayT t.ks e.k + 1)) (by intro e0; have := congrArg List.length e0; simp only [List.length_append, List.length_nil] at this; omega) (by simp only [List.length_append, List.length_take, List.length_drop]; omega)
    have hgD : (tDs t.ks)[wayT t.ks e.k]? = some (tD u) := by rw [tDs_map, List.getElem?_map, hg]; rfl
    have hgg := fun h => get_of hgD h
    have hlen := tDs_len t.ks
    have hpos := List.length_pos_iff.2 h0
    rw [tD_eq] at hW
    refine fv_enter_v Try.func26 rfl rfl fun Q hQ => ?_
    rw [tD_eq]
    generalize t.ks.take (wayT t.ks e.k) ++ putT d u e ++ t.ks.drop (wayT t.ks e.k + 1) = N at *
    generalize putT d u e = M at *
    generalize wayT t.ks e.k = i at *
    have hw := wrap_i64 (n := (i : Int) + 1) (by omega) (by omega)
    have hi1 : ((i + 1 : Nat) : Int) = (i : Int) + 1 := by omega
    rw [hi1] at hR
    repeat' first
      | refine jw_ret (hQ _ _ (.inr rfl) ⟨5, _, _, rfl, rfl, ?_⟩)
      | refine jw_ret (hQ _ _ (.inr rfl) ⟨_, rfl, ?_⟩)
      | refine jw_seq_k fun K hK => ?_
      | refine jw_block ?_
      | ((first | refine jw_skip ?_ | refine jw_exit ?_); try simp)
      | (refine jw_cond rfl (fun hc => ?_) (fun hc => ?_) <;> (try simp at hc) <;> (try (exfalso; first | omega | exact absurd hc (by assumption))))
      | ((fail_if_success (refine jw_c (id := 1) ?_)); (refine jw_c ?_; simp (maxSteps := 1000000) [Try.f26, enD, enC]))
      | ((fail_if_success (refine jw_draw_j (id := 1) mixed (by kernel_rfl) ?_)); (refine jw_draw_j mixed (by kernel_rfl) ?_; simp (maxSteps := 1000000) [Try.f26, enD, enC]))
      | (first | (apply hK; clear hK) | (clear hK; apply hK; clear hK) | (clear hK; clear hK; apply hK; clear hK) | (clear hK; clear hK; clear hK; apply hK; clear hK))
      | exact hQ _ _ (.inl rfl) ⟨5, _, _, rfl, rfl, rfl⟩
      | refine hQ _ _ (.inl rfl) ⟨5, _, _, rfl, rfl, ?_⟩
      | refine hQ _ _ (.inl rfl) ⟨_, rfl, ?_⟩
      | ((first | refine jd_newc rfl rfl (by simp) ?_ | refine okN_or ?_); simp (maxSteps := 1000000) [thD, thL, Try.f26, enD, enC])
      | ((first | refine okC_guard (fun hc => ?_) (fun hc => ?_) | refine okJ_guard (fun hc => ?_) (fun hc => ?_)) <;> (first | have hd := of_decide_eq_true hc | have hd := of_decide_eq_false hc | have hd := hc) <;> simp (maxSteps := 1000000) [hc, hd, Try.f26, enD, enC] <;> (try simp at hc) <;> (try (exfalso; first | omega | exact absurd hc (by assumption))))
      | (refine And.intro (by first | assumption | omega | (simp [BelL, Bel]; done) | (simp; omega)) ?_; try simp (maxSteps := 1000000) [Try.f26, enD, enC])
      | (refine okC_or ?_; simp (maxSteps := 1000000) [Try.f26, enD, enC])
    (refine jw_view (view_frz 0 _ rfl (by simp [BelL, Bel, thL_flat, thD_ens, thD_ks])) ?_; simp (maxSteps := 1000000) [thL, thD, thS, thOb, thL_flat, thD_ens, thD_ks])
    unfold ksD at hR hW
    repeat' first
      | refine jw_seq_k fun K hK => ?_
      | refine jw_block ?_
      | ((first | refine jw_skip ?_ | refine jw_exit ?_); try simp)
      | (refine jw_cond rfl (fun hc => ?_) (fun hc => ?_) <;> (try simp at hc) <;> (try (exfalso; first | omega | exact absurd hc (by assumption))))
      | ((first | refine jw_c ?_ | refine jw_draw_j mixed (by kernel_rfl) ?_ | (refine jl_call (f := 31) rfl rfl rfl rfl rfl (hW) (by simp [BelL, Bel]) ?_; rintro r rfl) | refine jd_call (f := 31) rfl rfl rfl rfl rfl (hW) (by simp [BelL, Bel]) ?_ | (refine jl_call (f := 26) rfl rfl rfl rfl rfl (hP) (by simp [BelL, Bel]) ?_; rintro r rfl) | refine jd_call (f := 26) rfl rfl rfl rfl rfl (hP) (by simp [BelL, Bel]) ?_ | (refine jl_call (f := 33) rfl rfl rfl rfl rfl (hR) (by simp [BelL, Bel]) ?_; rintro r rfl) | refine jd_call (f := 33) rfl rfl rfl rfl rfl (hR) (by simp [BelL, Bel]) ?_ | (refine jl_call (f := 32) rfl rfl rfl rfl rfl (hKn) (by simp [BelL, Bel]) ?_; rintro r rfl) | refine jd_call (f := 32) rfl rfl rfl rfl rfl (hKn) (by simp [BelL, Bel]) ?_); simp (maxSteps := 1000000) [ksD, hlen, hpos, hgD, hgg, hw, hil, show (i : Int) < t.ks.length by omega, okCell])
      | (first | (apply hK; clear hK) | (clear hK; apply hK; clear hK) | (clear hK; clear hK; apply hK; clear hK) | (clear hK; clear hK; clear hK; apply hK; clear hK))
      | ((first | refine jw_ret (hQ _ _ (.inr rfl) (ret_ok 0 ?_ (by first | omega | simp))) | refine hQ _ _ (.inl rfl) (ret_ok 0 ?_ (by first | omega | simp))); simp (maxSteps := 1000000) [okRet, BelL, Bel, BelS, BelOb, ksD, hlen, hpos, hgD, hgg, hw, hil, show (i : Int) < t.ks.length by omega, okCell])
      | ((first | refine jd_newc rfl rfl (by simp) ?_ | refine okN_or ?_); simp (maxSteps := 1000000) [thD, thL, ksD, hlen, hpos, hgD, hgg, hw, hil, show (i : Int) < t.ks.length by omega, okCell])
      | ((first | refine okC_guard (fun hc => ?_) (fun hc => ?_) | refine okJ_guard (fun hc => ?_) (fun hc => ?_)) <;> (first | have hd := of_decide_eq_true hc | have hd := of_decide_eq_false hc | have hd := hc) <;> simp (maxSteps := 1000000) [hc, hd, ksD, hlen, hpos, hgD, hgg, hw, hil, show (i : Int) < t.ks.length by omega, okCell] <;> (try simp at hc) <;> (try (exfalso; first | omega | exact absurd hc (by assumption))))
      | (refine And.intro (by first | assumption | omega | (simp [BelL, Bel]; done) | (simp; omega)) ?_; try simp (maxSteps := 1000000) [ksD, hlen, hpos, hgD, hgg, hw, hil, show (i : Int) < t.ks.length by omega, okCell])
      | (refine okC_or ?_; simp (maxSteps := 1000000) [ksD, hlen, hpos, hgD, hgg, hw, hil, show (i : Int) < t.ks.length by omega, okCell])
end Go.Proofs.Ytibcjkklgifgmaa
