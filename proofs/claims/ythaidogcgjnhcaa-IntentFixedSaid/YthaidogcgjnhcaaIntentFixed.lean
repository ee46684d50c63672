/- IntentFixed: the walk. -/
import Derived.Test.YthaidogcgjnhcaaIntentBack
import Derived.Test.YthaidogcgjnhcaaOctets
set_option linter.unusedVariables false
set_option linter.unusedSimpArgs false
set_option maxRecDepth 20000
set_option maxHeartbeats 20000000
namespace Go.Proofs.Ythaidogcgjnhcaa
open Go Go.Vm Go.Proofs

theorem intentFixedW (b : List Int) (hb : Bytes b) (hl : b.length ≤ 140737488351232) : FV Try.prog [] 5 [bytesD b] (fun r => r = .bool true) := by
  have hO := octets (G := []) b b.length (by omega) (by omega)
  rw [List.take_length] at hO
  have hI : FV Try.prog [] 6 [.agg [.int .i64 0, .int .i64 0, .int .i64 0, .nsl, .nsl, .bool false]] (fun r => r = itD (intentOf 0 0 0 [] [] false)) :=
    fv_arg (show LewL _ [wishD 0 0 0 [] [] false] by simp [wishD, numsD]) (intentOfF (G := []) 0 0 0 [] [] false (by simp) (by simp) (by simp))
  have hM := mayF (G := []) (intentOf 0 0 0 [] [] false) (by decide) (by decide)
  rw [may_of] at hM
  have hD := decodeF (G := []) b hb hl
  generalize intentOf 0 0 0 [] [] false = x at *
  obtain ⟨xc, xn, xb, R, W⟩ := x
  cases h : decOk b with
  | false =>
    rw [h] at hD
    simp only [Bool.false_eq_true, if_false] at hD
    unfold itD itC rgsD wrsD it0 at *
    dsimp only at hI hM hD
    refine fv_enter_v Try.func5 rfl rfl fun Q hQ => ?_
    repeat' first
      | refine jw_seq_k fun K hK => ?_
      | refine jw_block ?_
      | (refine jw_skip ?_; try simp)
      | (refine jw_exit ?_; try simp)
      | (refine jw_cond rfl (fun hc => ?_) (fun hc => ?_) <;> (try simp at hc) <;> (try (exfalso; first | omega | exact absurd hc (by assumption))))
      | (refine jw_c ?_; simp (maxSteps := 1000000) [Try.f5, numsD, okCell])
      | (refine jw_draw_j mixed (by kernel_rfl) ?_; simp (maxSteps := 1000000) [Try.f5, numsD, okCell])
      | (first | (apply hK; clear hK) | (clear hK; apply hK; clear hK) | (clear hK; clear hK; apply hK; clear hK) | (clear hK; clear hK; clear hK; apply hK; clear hK))
      | (refine jl_call (f := 12) rfl rfl rfl rfl rfl (hO) (by simp [BelL, Bel]) ?_; rintro r rfl; simp (maxSteps := 1000000) [Try.f5, numsD, okCell])
      | (refine jd_call (f := 12) rfl rfl rfl rfl rfl (hO) (by simp [BelL, Bel]) ?_; simp (maxSteps := 1000000) [Try.f5, numsD, okCell])
      | (refine jl_call (f := 6) rfl rfl rfl rfl rfl (hI) (by simp [BelL, Bel]) ?_; rintro r rfl; simp (maxSteps := 1000000) [Try.f5, numsD, okCell])
      | (refine jd_call (f := 6) rfl rfl rfl rfl rfl (hI) (by simp [BelL, Bel]) ?_; simp (maxSteps := 1000000) [Try.f5, numsD, okCell])
      | (refine jl_call (f := 10) rfl rfl rfl rfl rfl (hD) (by simp [BelL, Bel]) ?_; rintro r rfl; simp (maxSteps := 1000000) [Try.f5, numsD, okCell])
      | (refine jd_call (f := 10) rfl rfl rfl rfl rfl (hD) (by simp [BelL, Bel]) ?_; simp (maxSteps := 1000000) [Try.f5, numsD, okCell])
      | (refine jl_call (f := 7) rfl rfl rfl rfl rfl (hM) (by simp [BelL, Bel]) ?_; rintro r rfl; simp (maxSteps := 1000000) [Try.f5, numsD, okCell])
      | (refine jd_call (f := 7) rfl rfl rfl rfl rfl (hM) (by simp [BelL, Bel]) ?_; simp (maxSteps := 1000000) [Try.f5, numsD, okCell])
      | (refine jw_ret (hQ _ _ (.inr rfl) (ret_ok 0 ?_ (by first | omega | simp))); simp (maxSteps := 1000000) [okRet, BelL, Bel, BelS, BelOb, Try.f5, numsD, okCell])
      | (refine hQ _ _ (.inl rfl) (ret_ok 0 ?_ (by first | omega | simp)); simp (maxSteps := 1000000) [okRet, BelL, Bel, BelS, BelOb, Try.f5, numsD, okCell])
      | (refine jd_newc rfl rfl (by simp) ?_; simp (maxSteps := 1000000) [thD, thL, Try.f5, numsD, okCell])
      | (refine okN_or ?_; simp (maxSteps := 1000000) [thD, thL, Try.f5, numsD, okCell])
      | (refine okC_guard (fun hc => ?_) (fun hc => ?_) <;> (first | simp (maxSteps := 1000000) [hc, of_decide_eq_true hc, Try.f5, numsD, okCell] | simp (maxSteps := 1000000) [hc, of_decide_eq_false hc, Try.f5, numsD, okCell] | simp (maxSteps := 1000000) [hc, Try.f5, numsD, okCell]) <;> (try simp at hc) <;> (try (exfalso; first | omega | exact absurd hc (by assumption))))
      | (refine okJ_guard (fun hc => ?_) (fun hc => ?_) <;> (first | simp (maxSteps := 1000000) [hc, of_decide_eq_true hc, Try.f5, numsD, okCell] | simp (maxSteps := 1000000) [hc, of_decide_eq_false hc, Try.f5, numsD, okCell] | simp (maxSteps := 1000000) [hc, Try.f5, numsD, okCell]) <;> (try simp at hc) <;> (try (exfalso; first | omega | exact absurd hc (by assumption))))
      | (refine And.intro (by first | assumption | omega | (simp [BelL, Bel]; done) | (simp; omega)) ?_; try simp (maxSteps := 1000000) [Try.f5, numsD, okCell])
      | (refine okC_or ?_; simp (maxSteps := 1000000) [Try.f5, numsD, okCell])
  | true =>
    rw [h, if_pos rfl] at hD
    have h0 := h
    unfold decOk at h0
    simp only [Bool.and_eq_true, decide_eq_true_eq, Bool.not_eq_true'] at h0
    obtain ⟨⟨⟨⟨h4, h1⟩, h2⟩, h3⟩, hm⟩ := h0
    have hs := dec_split (b := b) hb h1 h2
    rw [List.length_eq_zero_iff.1 h3, List.append_nil] at hs
    have hE := encodeF (G := []) (decR b).1 hm
    rw [← hs, if_pos h4] at hE
    have hS := sameSelf (G := []) b (by omega)
    clear h1 h2 h3 hm hs h
    generalize (decR b).1 = y at *
    obtain ⟨yc, yn, yb, YR, YW⟩ := y
    unfold itD itC rgsD wrsD at *
    dsimp only at hI hM hD hE
    refine fv_enter_v Try.func5 rfl rfl fun Q hQ => ?_
    repeat' first
      | refine jw_seq_k fun K hK => ?_
      | refine jw_block ?_
      | (refine jw_skip ?_; try simp)
      | (refine jw_exit ?_; try simp)
      | (refine jw_cond rfl (fun hc => ?_) (fun hc => ?_) <;> (try simp at hc) <;> (try (exfalso; first | omega | exact absurd hc (by assumption))))
      | (refine jw_c ?_; simp (maxSteps := 1000000) [Try.f5, numsD, okCell])
      | (refine jw_draw_j mixed (by kernel_rfl) ?_; simp (maxSteps := 1000000) [Try.f5, numsD, okCell])
      | (first | (apply hK; clear hK) | (clear hK; apply hK; clear hK) | (clear hK; clear hK; apply hK; clear hK) | (clear hK; clear hK; clear hK; apply hK; clear hK))
      | (refine jl_call (f := 12) rfl rfl rfl rfl rfl (hO) (by simp [BelL, Bel]) ?_; rintro r rfl; simp (maxSteps := 1000000) [Try.f5, numsD, okCell])
      | (refine jd_call (f := 12) rfl rfl rfl rfl rfl (hO) (by simp [BelL, Bel]) ?_; simp (maxSteps := 1000000) [Try.f5, numsD, okCell])
      | (refine jl_call (f := 6) rfl rfl rfl rfl rfl (hI) (by simp [BelL, Bel]) ?_; rintro r rfl; simp (maxSteps := 1000000) [Try.f5, numsD, okCell])
      | (refine jd_call (f := 6) rfl rfl rfl rfl rfl (hI) (by simp [BelL, Bel]) ?_; simp (maxSteps := 1000000) [Try.f5, numsD, okCell])
      | (refine jl_call (f := 10) rfl rfl rfl rfl rfl (hD) (by simp [BelL, Bel]) ?_; rintro r rfl; simp (maxSteps := 1000000) [Try.f5, numsD, okCell])
      | (refine jd_call (f := 10) rfl rfl rfl rfl rfl (hD) (by simp [BelL, Bel]) ?_; simp (maxSteps := 1000000) [Try.f5, numsD, okCell])
      | (refine jl_call (f := 7) rfl rfl rfl rfl rfl (hM) (by simp [BelL, Bel]) ?_; rintro r rfl; simp (maxSteps := 1000000) [Try.f5, numsD, okCell])
      | (refine jd_call (f := 7) rfl rfl rfl rfl rfl (hM) (by simp [BelL, Bel]) ?_; simp (maxSteps := 1000000) [Try.f5, numsD, okCell])
      | (refine jl_call (f := 9) rfl rfl rfl rfl rfl (hE) (by simp [BelL, Bel]) ?_; rintro r rfl; simp (maxSteps := 1000000) [Try.f5, numsD, okCell])
      | (refine jd_call (f := 9) rfl rfl rfl rfl rfl (hE) (by simp [BelL, Bel]) ?_; simp (maxSteps := 1000000) [Try.f5, numsD, okCell])
      | (refine jl_call (f := 13) rfl rfl rfl rfl rfl (hS) (by simp [BelL, Bel]) ?_; rintro r rfl; simp (maxSteps := 1000000) [Try.f5, numsD, okCell])
      | (refine jd_call (f := 13) rfl rfl rfl rfl rfl (hS) (by simp [BelL, Bel]) ?_; simp (maxSteps := 1000000) [Try.f5, numsD, okCell])
      | (refine jw_ret (hQ _ _ (.inr rfl) (ret_ok 0 ?_ (by first | omega | simp))); simp (maxSteps := 1000000) [okRet, BelL, Bel, BelS, BelOb, Try.f5, numsD, okCell])
      | (refine hQ _ _ (.inl rfl) (ret_ok 0 ?_ (by first | omega | simp)); simp (maxSteps := 1000000) [okRet, BelL, Bel, BelS, BelOb, Try.f5, numsD, okCell])
      | (refine jd_newc rfl rfl (by simp) ?_; simp (maxSteps := 1000000) [thD, thL, Try.f5, numsD, okCell])
      | (refine okN_or ?_; simp (maxSteps := 1000000) [thD, thL, Try.f5, numsD, okCell])
      | (refine okC_guard (fun hc => ?_) (fun hc => ?_) <;> (first | simp (maxSteps := 1000000) [hc, of_decide_eq_true hc, Try.f5, numsD, okCell] | simp (maxSteps := 1000000) [hc, of_decide_eq_false hc, Try.f5, numsD, okCell] | simp (maxSteps := 1000000) [hc, Try.f5, numsD, okCell]) <;> (try simp at hc) <;> (try (exfalso; first | omega | exact absurd hc (by assumption))))
      | (refine okJ_guard (fun hc => ?_) (fun hc => ?_) <;> (first | simp (maxSteps := 1000000) [hc, of_decide_eq_true hc, Try.f5, numsD, okCell] | simp (maxSteps := 1000000) [hc, of_decide_eq_false hc, Try.f5, numsD, okCell] | simp (maxSteps := 1000000) [hc, Try.f5, numsD, okCell]) <;> (try simp at hc) <;> (try (exfalso; first | omega | exact absurd hc (by assumption))))
      | (refine And.intro (by first | assumption | omega | (simp [BelL, Bel]; done) | (simp; omega)) ?_; try simp (maxSteps := 1000000) [Try.f5, numsD, okCell])
      | (refine okC_or ?_; simp (maxSteps := 1000000) [Try.f5, numsD, okCell])
theorem intentFixed (b : List Int) (hb : ∀ n ∈ b, (Lit.int .u8 n).wf = true) (hl : b.length * 1 ≤ 140737488351232) (_ : b.length ≤ 9223372036854775807) : FV Try.prog [] 5 [numsD .u8 b] (fun r => r = .bool true) :=
  intentFixedW b (fun x hx => wf_u8 (hb x hx)) (by omega)
end Go.Proofs.Ythaidogcgjnhcaa
