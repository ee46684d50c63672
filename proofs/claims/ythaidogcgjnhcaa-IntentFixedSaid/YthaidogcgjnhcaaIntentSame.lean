/- An intent is the same as itself: the walk. -/
import Derived.Test.YthaidogcgjnhcaaIntentOf
import Derived.Test.YthaidogcgjnhcaaSameBytes
set_option linter.unusedVariables false
set_option linter.unusedSimpArgs false
set_option maxRecDepth 20000
set_option maxHeartbeats 20000000
namespace Go.Proofs.Ythaidogcgjnhcaa
open Go Go.Vm Go.Proofs

theorem sameSelf {G : Globals} (a : List Int) (h : a.length ≤ 1000000) : FV Try.prog G 13 [bytesD a, bytesD a] (fun r => r = .bool true) := by
  have := sameBytes (G := G) a a h
  simpa using this
theorem sameRangesF {G : Globals} (l : List Rg) (hl : l.length ≤ 1000000) (h : ∀ g ∈ l, g.low.length ≤ 1000000 ∧ g.high.length ≤ 1000000) : FV Try.prog G 26 [rgsD l, rgsD l] (fun r => r = .bool true) := by
  refine fv_enter_v Try.func26 rfl rfl fun Q hQ => ?_
  repeat' first
    | refine jw_ret (hQ _ _ (.inr rfl) ⟨5, _, _, rfl, rfl, ?_⟩)
    | refine jw_ret (hQ _ _ (.inr rfl) ⟨_, rfl, ?_⟩)
    | refine jw_seq_k fun K hK => ?_
    | refine jw_block ?_
    | (refine jw_skip ?_; try simp)
    | (refine jw_exit ?_; try simp)
    | (refine jw_cond rfl (fun hc => ?_) (fun hc => ?_) <;> (try simp at hc) <;> (try (exfalso; first | omega | exact absurd hc (by assumption))))
    | (refine jw_c ?_; simp (maxSteps := 1000000) [Try.f26, rgsD])
    | (refine jw_draw_j mixed (by kernel_rfl) ?_; simp (maxSteps := 1000000) [Try.f26, rgsD])
    | (first | (apply hK; clear hK) | (clear hK; apply hK; clear hK) | (clear hK; clear hK; apply hK; clear hK) | (clear hK; clear hK; clear hK; apply hK; clear hK))
    | exact hQ _ _ (.inl rfl) ⟨5, _, _, rfl, rfl, rfl⟩
    | refine hQ _ _ (.inl rfl) ⟨5, _, _, rfl, rfl, ?_⟩
    | refine hQ _ _ (.inl rfl) ⟨_, rfl, ?_⟩
    | (refine jd_newc rfl rfl (by simp) ?_; simp (maxSteps := 1000000) [thD, thL, Try.f26, rgsD])
    | (refine okN_or ?_; simp (maxSteps := 1000000) [thD, thL, Try.f26, rgsD])
    | (refine okC_guard (fun hc => ?_) (fun hc => ?_) <;> (first | simp (maxSteps := 1000000) [hc, of_decide_eq_true hc, Try.f26, rgsD] | simp (maxSteps := 1000000) [hc, of_decide_eq_false hc, Try.f26, rgsD] | simp (maxSteps := 1000000) [hc, Try.f26, rgsD]) <;> (try simp at hc) <;> (try (exfalso; first | omega | exact absurd hc (by assumption))))
    | (refine okJ_guard (fun hc => ?_) (fun hc => ?_) <;> (first | simp (maxSteps := 1000000) [hc, of_decide_eq_true hc, Try.f26, rgsD] | simp (maxSteps := 1000000) [hc, of_decide_eq_false hc, Try.f26, rgsD] | simp (maxSteps := 1000000) [hc, Try.f26, rgsD]) <;> (try simp at hc) <;> (try (exfalso; first | omega | exact absurd hc (by assumption))))
    | (refine And.intro (by first | assumption | omega | (simp [BelL, Bel]; done) | (simp; omega)) ?_; try simp (maxSteps := 1000000) [Try.f26, rgsD])
    | (refine okC_or ?_; simp (maxSteps := 1000000) [Try.f26, rgsD])
  refine jw_loop_v (fun m z => ∃ (i : Nat), (i ≤ l.length) ∧ l.length - i = m ∧ z = ⟨[rgsD l, rgsD l, .any, .any, .any, .int .i64 i] ++ List.replicate 37 .any, []⟩) ⟨[rgsD l, rgsD l, .any, .any, .any, .int .i64 (0)] ++ List.replicate 37 .any, []⟩ (view_takeE (sl := [rgsD l, rgsD l, .any, .any, .any, .int .i64 (0)] ++ List.replicate 37 .any) (σ0 := []) 0 (by simp [rgsD]) (by first | omega | simp) (by first | omega | (simp [rgsD]; done) | (simp [rgsD]; omega)) (by first | exact LewS.refl _ | simp [rgsD]) (by simp [BelL, Bel, rgsD]) (by simp [BelS, BelOb, BelL, Bel, rgsD])) ⟨(0), ?_, rfl, rfl⟩ ?_
  rotate_left
  rintro m z ⟨i, hA, rfl, rfl⟩ KA hKA
  · have hw := wrap_i64 (n := (i : Int) + 1) (by omega) (by omega)
    by_cases hlt : i < l.length
    · have hdr := flat_drop rgC_len l i hlt
      have hlen := rgs_len l
      have hok := h _ (List.getElem_mem hlt)
      obtain ⟨⟨lo, hi⟩, hx⟩ : ∃ y, l[i] = y := ⟨_, rfl⟩
      rw [hx] at hok
      dsimp only at hok
      have s1 := sameSelf (G := G) lo hok.1
      have s2 := sameSelf (G := G) hi hok.2
      repeat' first
        | refine jw_ret (hQ _ _ (.inr rfl) ⟨5, _, _, rfl, rfl, ?_⟩)
        | refine jw_ret (hQ _ _ (.inr rfl) ⟨_, rfl, ?_⟩)
        | refine jw_seq_k fun K hK => ?_
        | refine jw_block ?_
        | (refine jw_skip ?_; try simp)
        | (refine jw_exit ?_; try simp)
        | (refine jw_cond rfl (fun hc => ?_) (fun hc => ?_) <;> (try simp at hc) <;> (try (exfalso; first | omega | exact absurd hc (by assumption))))
        | (refine jw_c ?_; simp (maxSteps := 1000000) [hlt, rgsD, hdr, hx, hlen, rgC, numsD, hw, show i * 2 < l.length * 2 by omega])
        | (refine jw_draw_j mixed (by kernel_rfl) ?_; simp (maxSteps := 1000000) [hlt, rgsD, hdr, hx, hlen, rgC, numsD, hw, show i * 2 < l.length * 2 by omega])
        | (first | (apply hK; clear hK) | (clear hK; apply hK; clear hK) | (clear hK; clear hK; apply hK; clear hK) | (clear hK; clear hK; clear hK; apply hK; clear hK))
        | exact hQ _ _ (.inl rfl) ⟨5, _, _, rfl, rfl, rfl⟩
        | refine hQ _ _ (.inl rfl) ⟨5, _, _, rfl, rfl, ?_⟩
        | refine hQ _ _ (.inl rfl) ⟨_, rfl, ?_⟩
        | (refine jl_call (f := 13) rfl rfl rfl rfl rfl (s1) (by simp [BelL, Bel]) ?_; rintro r rfl; simp (maxSteps := 1000000) [hlt, rgsD, hdr, hx, hlen, rgC, numsD, hw, show i * 2 < l.length * 2 by omega])
        | (refine jd_call (f := 13) rfl rfl rfl rfl rfl (s1) (by simp [BelL, Bel]) ?_; simp (maxSteps := 1000000) [hlt, rgsD, hdr, hx, hlen, rgC, numsD, hw, show i * 2 < l.length * 2 by omega])
        | (refine jl_call (f := 13) rfl rfl rfl rfl rfl (s2) (by simp [BelL, Bel]) ?_; rintro r rfl; simp (maxSteps := 1000000) [hlt, rgsD, hdr, hx, hlen, rgC, numsD, hw, show i * 2 < l.length * 2 by omega])
        | (refine jd_call (f := 13) rfl rfl rfl rfl rfl (s2) (by simp [BelL, Bel]) ?_; simp (maxSteps := 1000000) [hlt, rgsD, hdr, hx, hlen, rgC, numsD, hw, show i * 2 < l.length * 2 by omega])
        | (refine jd_newc rfl rfl (by simp) ?_; simp (maxSteps := 1000000) [thD, thL, hlt, rgsD, hdr, hx, hlen, rgC, numsD, hw, show i * 2 < l.length * 2 by omega])
        | (refine okN_or ?_; simp (maxSteps := 1000000) [thD, thL, hlt, rgsD, hdr, hx, hlen, rgC, numsD, hw, show i * 2 < l.length * 2 by omega])
        | (refine okC_guard (fun hc => ?_) (fun hc => ?_) <;> (first | simp (maxSteps := 1000000) [hc, of_decide_eq_true hc, hlt, rgsD, hdr, hx, hlen, rgC, numsD, hw, show i * 2 < l.length * 2 by omega] | simp (maxSteps := 1000000) [hc, of_decide_eq_false hc, hlt, rgsD, hdr, hx, hlen, rgC, numsD, hw, show i * 2 < l.length * 2 by omega] | simp (maxSteps := 1000000) [hc, hlt, rgsD, hdr, hx, hlen, rgC, numsD, hw, show i * 2 < l.length * 2 by omega]) <;> (try simp at hc) <;> (try (exfalso; first | omega | exact absurd hc (by assumption))))
        | (refine okJ_guard (fun hc => ?_) (fun hc => ?_) <;> (first | simp (maxSteps := 1000000) [hc, of_decide_eq_true hc, hlt, rgsD, hdr, hx, hlen, rgC, numsD, hw, show i * 2 < l.length * 2 by omega] | simp (maxSteps := 1000000) [hc, of_decide_eq_false hc, hlt, rgsD, hdr, hx, hlen, rgC, numsD, hw, show i * 2 < l.length * 2 by omega] | simp (maxSteps := 1000000) [hc, hlt, rgsD, hdr, hx, hlen, rgC, numsD, hw, show i * 2 < l.length * 2 by omega]) <;> (try simp at hc) <;> (try (exfalso; first | omega | exact absurd hc (by assumption))))
        | (refine And.intro (by first | assumption | omega | (simp [BelL, Bel]; done) | (simp; omega)) ?_; try simp (maxSteps := 1000000) [hlt, rgsD, hdr, hx, hlen, rgC, numsD, hw, show i * 2 < l.length * 2 by omega])
        | (refine okC_or ?_; simp (maxSteps := 1000000) [hlt, rgsD, hdr, hx, hlen, rgC, numsD, hw, show i * 2 < l.length * 2 by omega])
      refine hKA (l.length - (i + 1)) _ ⟨[rgsD l, rgsD l, .any, .any, .any, .int .i64 (i + 1)] ++ List.replicate 37 .any, []⟩ (by omega) (view_takeE (sl := [rgsD l, rgsD l, .any, .any, .any, .int .i64 (i + 1)] ++ List.replicate 37 .any) (σ0 := []) 0 (by simp [rgsD]) (by first | omega | simp) (by first | omega | (simp [rgsD]; done) | (simp [rgsD]; omega)) (by first | exact LewS.refl _ | simp [rgsD]) (by simp [BelL, Bel, rgsD]) (by simp [BelS, BelOb, BelL, Bel, rgsD])) ⟨(i + 1), ?_, rfl, rfl⟩
      omega
    · repeat' first
        | refine jw_seq_k fun K hK => ?_
        | refine jw_block ?_
        | (refine jw_skip ?_; try simp)
        | (refine jw_exit ?_; try simp)
        | (refine jw_cond rfl (fun hc => ?_) (fun hc => ?_) <;> (try simp at hc) <;> (try (exfalso; first | omega | exact absurd hc (by assumption))))
        | (refine jw_c ?_; simp (maxSteps := 1000000) [hlt, rgsD])
        | (refine jw_draw_j mixed (by kernel_rfl) ?_; simp (maxSteps := 1000000) [hlt, rgsD])
        | (first | (apply hK; clear hK) | (clear hK; apply hK; clear hK) | (clear hK; clear hK; apply hK; clear hK) | (clear hK; clear hK; clear hK; apply hK; clear hK))
        | (refine jw_ret (hQ _ _ (.inr rfl) (ret_ok 0 ?_ (by first | omega | simp))); simp (maxSteps := 1000000) [okRet, BelL, Bel, BelS, BelOb, hlt, rgsD])
        | (refine hQ _ _ (.inl rfl) (ret_ok 0 ?_ (by first | omega | simp)); simp (maxSteps := 1000000) [okRet, BelL, Bel, BelS, BelOb, hlt, rgsD])
        | (refine jd_newc rfl rfl (by simp) ?_; simp (maxSteps := 1000000) [thD, thL, hlt, rgsD])
        | (refine okN_or ?_; simp (maxSteps := 1000000) [thD, thL, hlt, rgsD])
        | (refine okC_guard (fun hc => ?_) (fun hc => ?_) <;> (first | simp (maxSteps := 1000000) [hc, of_decide_eq_true hc, hlt, rgsD] | simp (maxSteps := 1000000) [hc, of_decide_eq_false hc, hlt, rgsD] | simp (maxSteps := 1000000) [hc, hlt, rgsD]) <;> (try simp at hc) <;> (try (exfalso; first | omega | exact absurd hc (by assumption))))
        | (refine okJ_guard (fun hc => ?_) (fun hc => ?_) <;> (first | simp (maxSteps := 1000000) [hc, of_decide_eq_true hc, hlt, rgsD] | simp (maxSteps := 1000000) [hc, of_decide_eq_false hc, hlt, rgsD] | simp (maxSteps := 1000000) [hc, hlt, rgsD]) <;> (try simp at hc) <;> (try (exfalso; first | omega | exact absurd hc (by assumption))))
        | (refine And.intro (by first | assumption | omega | (simp [BelL, Bel]; done) | (simp; omega)) ?_; try simp (maxSteps := 1000000) [hlt, rgsD])
        | (refine okC_or ?_; simp (maxSteps := 1000000) [hlt, rgsD])
  · omega
theorem sameWritesF {G : Globals} (l : List Wr) (hl : l.length ≤ 1000000) (h : ∀ g ∈ l, g.key.length ≤ 1000000 ∧ g.val.length ≤ 1000000) : FV Try.prog G 27 [wrsD l, wrsD l] (fun r => r = .bool true) := by
  refine fv_enter_v Try.func27 rfl rfl fun Q hQ => ?_
  repeat' first
    | refine jw_ret (hQ _ _ (.inr rfl) ⟨5, _, _, rfl, rfl, ?_⟩)
    | refine jw_ret (hQ _ _ (.inr rfl) ⟨_, rfl, ?_⟩)
    | refine jw_seq_k fun K hK => ?_
    | refine jw_block ?_
    | (refine jw_skip ?_; try simp)
    | (refine jw_exit ?_; try simp)
    | (refine jw_cond rfl (fun hc => ?_) (fun hc => ?_) <;> (try simp at hc) <;> (try (exfalso; first | omega | exact absurd hc (by assumption))))
    | (refine jw_c ?_; simp (maxSteps := 1000000) [Try.f27, wrsD])
    | (refine jw_draw_j mixed (by kernel_rfl) ?_; simp (maxSteps := 1000000) [Try.f27, wrsD])
    | (first | (apply hK; clear hK) | (clear hK; apply hK; clear hK) | (clear hK; clear hK; apply hK; clear hK) | (clear hK; clear hK; clear hK; apply hK; clear hK))
    | exact hQ _ _ (.inl rfl) ⟨5, _, _, rfl, rfl, rfl⟩
    | refine hQ _ _ (.inl rfl) ⟨5, _, _, rfl, rfl, ?_⟩
    | refine hQ _ _ (.inl rfl) ⟨_, rfl, ?_⟩
    | (refine jd_newc rfl rfl (by simp) ?_; simp (maxSteps := 1000000) [thD, thL, Try.f27, wrsD])
    | (refine okN_or ?_; simp (maxSteps := 1000000) [thD, thL, Try.f27, wrsD])
    | (refine okC_guard (fun hc => ?_) (fun hc => ?_) <;> (first | simp (maxSteps := 1000000) [hc, of_decide_eq_true hc, Try.f27, wrsD] | simp (maxSteps := 1000000) [hc, of_decide_eq_false hc, Try.f27, wrsD] | simp (maxSteps := 1000000) [hc, Try.f27, wrsD]) <;> (try simp at hc) <;> (try (exfalso; first | omega | exact absurd hc (by assumption))))
    | (refine okJ_guard (fun hc => ?_) (fun hc => ?_) <;> (first | simp (maxSteps := 1000000) [hc, of_decide_eq_true hc, Try.f27, wrsD] | simp (maxSteps := 1000000) [hc, of_decide_eq_false hc, Try.f27, wrsD] | simp (maxSteps := 1000000) [hc, Try.f27, wrsD]) <;> (try simp at hc) <;> (try (exfalso; first | omega | exact absurd hc (by assumption))))
    | (refine And.intro (by first | assumption | omega | (simp [BelL, Bel]; done) | (simp; omega)) ?_; try simp (maxSteps := 1000000) [Try.f27, wrsD])
    | (refine okC_or ?_; simp (maxSteps := 1000000) [Try.f27, wrsD])
  refine jw_loop_v (fun m z => ∃ (i : Nat), (i ≤ l.length) ∧ l.length - i = m ∧ z = ⟨[wrsD l, wrsD l, .any, .any, .any, .int .i64 i] ++ List.replicate 50 .any, []⟩) ⟨[wrsD l, wrsD l, .any, .any, .any, .int .i64 (0)] ++ List.replicate 50 .any, []⟩ (view_takeE (sl := [wrsD l, wrsD l, .any, .any, .any, .int .i64 (0)] ++ List.replicate 50 .any) (σ0 := []) 0 (by simp [wrsD]) (by first | omega | simp) (by first | omega | (simp [wrsD]; done) | (simp [wrsD]; omega)) (by first | exact LewS.refl _ | simp [wrsD]) (by simp [BelL, Bel, wrsD]) (by simp [BelS, BelOb, BelL, Bel, wrsD])) ⟨(0), ?_, rfl, rfl⟩ ?_
  rotate_left
  rintro m z ⟨i, hA, rfl, rfl⟩ KA hKA
  · have hw := wrap_i64 (n := (i : Int) + 1) (by omega) (by omega)
    by_cases hlt : i < l.length
    · have hdr := flat_drop wrC_len l i hlt
      have hlen := wrs_len l
      have hok := h _ (List.getElem_mem hlt)
      obtain ⟨⟨key, val, g⟩, hx⟩ : ∃ y, l[i] = y := ⟨_, rfl⟩
      rw [hx] at hok
      dsimp only at hok
      have s1 := sameSelf (G := G) key hok.1
      have s2 := sameSelf (G := G) val hok.2
      cases g
      all_goals
        repeat' first
          | refine jw_ret (hQ _ _ (.inr rfl) ⟨5, _, _, rfl, rfl, ?_⟩)
          | refine jw_ret (hQ _ _ (.inr rfl) ⟨_, rfl, ?_⟩)
          | refine jw_seq_k fun K hK => ?_
          | refine jw_block ?_
          | (refine jw_skip ?_; try simp)
          | (refine jw_exit ?_; try simp)
          | (refine jw_cond rfl (fun hc => ?_) (fun hc => ?_) <;> (try simp at hc) <;> (try (exfalso; first | omega | exact absurd hc (by assumption))))
          | (refine jw_c ?_; simp (maxSteps := 1000000) [hlt, wrsD, hdr, hx, hlen, wrC, numsD, hw, show i * 3 < l.length * 3 by omega])
          | (refine jw_draw_j mixed (by kernel_rfl) ?_; simp (maxSteps := 1000000) [hlt, wrsD, hdr, hx, hlen, wrC, numsD, hw, show i * 3 < l.length * 3 by omega])
          | (first | (apply hK; clear hK) | (clear hK; apply hK; clear hK) | (clear hK; clear hK; apply hK; clear hK) | (clear hK; clear hK; clear hK; apply hK; clear hK))
          | exact hQ _ _ (.inl rfl) ⟨5, _, _, rfl, rfl, rfl⟩
          | refine hQ _ _ (.inl rfl) ⟨5, _, _, rfl, rfl, ?_⟩
          | refine hQ _ _ (.inl rfl) ⟨_, rfl, ?_⟩
          | (refine jl_call (f := 13) rfl rfl rfl rfl rfl (s1) (by simp [BelL, Bel]) ?_; rintro r rfl; simp (maxSteps := 1000000) [hlt, wrsD, hdr, hx, hlen, wrC, numsD, hw, show i * 3 < l.length * 3 by omega])
          | (refine jd_call (f := 13) rfl rfl rfl rfl rfl (s1) (by simp [BelL, Bel]) ?_; simp (maxSteps := 1000000) [hlt, wrsD, hdr, hx, hlen, wrC, numsD, hw, show i * 3 < l.length * 3 by omega])
          | (refine jl_call (f := 13) rfl rfl rfl rfl rfl (s2) (by simp [BelL, Bel]) ?_; rintro r rfl; simp (maxSteps := 1000000) [hlt, wrsD, hdr, hx, hlen, wrC, numsD, hw, show i * 3 < l.length * 3 by omega])
          | (refine jd_call (f := 13) rfl rfl rfl rfl rfl (s2) (by simp [BelL, Bel]) ?_; simp (maxSteps := 1000000) [hlt, wrsD, hdr, hx, hlen, wrC, numsD, hw, show i * 3 < l.length * 3 by omega])
          | (refine jd_newc rfl rfl (by simp) ?_; simp (maxSteps := 1000000) [thD, thL, hlt, wrsD, hdr, hx, hlen, wrC, numsD, hw, show i * 3 < l.length * 3 by omega])
          | (refine okN_or ?_; simp (maxSteps := 1000000) [thD, thL, hlt, wrsD, hdr, hx, hlen, wrC, numsD, hw, show i * 3 < l.length * 3 by omega])
          | (refine okC_guard (fun hc => ?_) (fun hc => ?_) <;> (first | simp (maxSteps := 1000000) [hc, of_decide_eq_true hc, hlt, wrsD, hdr, hx, hlen, wrC, numsD, hw, show i * 3 < l.length * 3 by omega] | simp (maxSteps := 1000000) [hc, of_decide_eq_false hc, hlt, wrsD, hdr, hx, hlen, wrC, numsD, hw, show i * 3 < l.length * 3 by omega] | simp (maxSteps := 1000000) [hc, hlt, wrsD, hdr, hx, hlen, wrC, numsD, hw, show i * 3 < l.length * 3 by omega]) <;> (try simp at hc) <;> (try (exfalso; first | omega | exact absurd hc (by assumption))))
          | (refine okJ_guard (fun hc => ?_) (fun hc => ?_) <;> (first | simp (maxSteps := 1000000) [hc, of_decide_eq_true hc, hlt, wrsD, hdr, hx, hlen, wrC, numsD, hw, show i * 3 < l.length * 3 by omega] | simp (maxSteps := 1000000) [hc, of_decide_eq_false hc, hlt, wrsD, hdr, hx, hlen, wrC, numsD, hw, show i * 3 < l.length * 3 by omega] | simp (maxSteps := 1000000) [hc, hlt, wrsD, hdr, hx, hlen, wrC, numsD, hw, show i * 3 < l.length * 3 by omega]) <;> (try simp at hc) <;> (try (exfalso; first | omega | exact absurd hc (by assumption))))
          | (refine And.intro (by first | assumption | omega | (simp [BelL, Bel]; done) | (simp; omega)) ?_; try simp (maxSteps := 1000000) [hlt, wrsD, hdr, hx, hlen, wrC, numsD, hw, show i * 3 < l.length * 3 by omega])
          | (refine okC_or ?_; simp (maxSteps := 1000000) [hlt, wrsD, hdr, hx, hlen, wrC, numsD, hw, show i * 3 < l.length * 3 by omega])
        refine hKA (l.length - (i + 1)) _ ⟨[wrsD l, wrsD l, .any, .any, .any, .int .i64 (i + 1)] ++ List.replicate 50 .any, []⟩ (by omega) (view_takeE (sl := [wrsD l, wrsD l, .any, .any, .any, .int .i64 (i + 1)] ++ List.replicate 50 .any) (σ0 := []) 0 (by simp [wrsD]) (by first | omega | simp) (by first | omega | (simp [wrsD]; done) | (simp [wrsD]; omega)) (by first | exact LewS.refl _ | simp [wrsD]) (by simp [BelL, Bel, wrsD]) (by simp [BelS, BelOb, BelL, Bel, wrsD])) ⟨(i + 1), ?_, rfl, rfl⟩
        omega
    · repeat' first
        | refine jw_seq_k fun K hK => ?_
        | refine jw_block ?_
        | (refine jw_skip ?_; try simp)
        | (refine jw_exit ?_; try simp)
        | (refine jw_cond rfl (fun hc => ?_) (fun hc => ?_) <;> (try simp at hc) <;> (try (exfalso; first | omega | exact absurd hc (by assumption))))
        | (refine jw_c ?_; simp (maxSteps := 1000000) [hlt, wrsD])
        | (refine jw_draw_j mixed (by kernel_rfl) ?_; simp (maxSteps := 1000000) [hlt, wrsD])
        | (first | (apply hK; clear hK) | (clear hK; apply hK; clear hK) | (clear hK; clear hK; apply hK; clear hK) | (clear hK; clear hK; clear hK; apply hK; clear hK))
        | (refine jw_ret (hQ _ _ (.inr rfl) (ret_ok 0 ?_ (by first | omega | simp))); simp (maxSteps := 1000000) [okRet, BelL, Bel, BelS, BelOb, hlt, wrsD])
        | (refine hQ _ _ (.inl rfl) (ret_ok 0 ?_ (by first | omega | simp)); simp (maxSteps := 1000000) [okRet, BelL, Bel, BelS, BelOb, hlt, wrsD])
        | (refine jd_newc rfl rfl (by simp) ?_; simp (maxSteps := 1000000) [thD, thL, hlt, wrsD])
        | (refine okN_or ?_; simp (maxSteps := 1000000) [thD, thL, hlt, wrsD])
        | (refine okC_guard (fun hc => ?_) (fun hc => ?_) <;> (first | simp (maxSteps := 1000000) [hc, of_decide_eq_true hc, hlt, wrsD] | simp (maxSteps := 1000000) [hc, of_decide_eq_false hc, hlt, wrsD] | simp (maxSteps := 1000000) [hc, hlt, wrsD]) <;> (try simp at hc) <;> (try (exfalso; first | omega | exact absurd hc (by assumption))))
        | (refine okJ_guard (fun hc => ?_) (fun hc => ?_) <;> (first | simp (maxSteps := 1000000) [hc, of_decide_eq_true hc, hlt, wrsD] | simp (maxSteps := 1000000) [hc, of_decide_eq_false hc, hlt, wrsD] | simp (maxSteps := 1000000) [hc, hlt, wrsD]) <;> (try simp at hc) <;> (try (exfalso; first | omega | exact absurd hc (by assumption))))
        | (refine And.intro (by first | assumption | omega | (simp [BelL, Bel]; done) | (simp; omega)) ?_; try simp (maxSteps := 1000000) [hlt, wrsD])
        | (refine okC_or ?_; simp (maxSteps := 1000000) [hlt, wrsD])
  · omega
theorem sameIntentF {G : Globals} (x : It) (h1 : x.reads.length ≤ 1000000) (h2 : x.writes.length ≤ 1000000) (h3 : ∀ g ∈ x.reads, g.low.length ≤ 1000000 ∧ g.high.length ≤ 1000000) (h4 : ∀ g ∈ x.writes, g.key.length ≤ 1000000 ∧ g.val.length ≤ 1000000) :
    FV Try.prog G 11 [itD x, itD x] (fun r => r = .bool true) := by
  have s1 := sameRangesF (G := G) x.reads h1 h3
  have s2 := sameWritesF (G := G) x.writes h2 h4
  obtain ⟨c, n, b, rs, ws⟩ := x
  dsimp only at s1 s2
  unfold rgsD at s1
  unfold wrsD at s2
  refine fv_enter_v Try.func11 rfl rfl fun Q hQ => ?_
  repeat' first
    | refine jw_seq_k fun K hK => ?_
    | refine jw_block ?_
    | (refine jw_skip ?_; try simp)
    | (refine jw_exit ?_; try simp)
    | (refine jw_cond rfl (fun hc => ?_) (fun hc => ?_) <;> (try simp at hc) <;> (try (exfalso; first | omega | exact absurd hc (by assumption))))
    | (refine jw_c ?_; simp (maxSteps := 1000000) [Try.f11, itD, itC, rgsD, wrsD])
    | (refine jw_draw_j mixed (by kernel_rfl) ?_; simp (maxSteps := 1000000) [Try.f11, itD, itC, rgsD, wrsD])
    | (first | (apply hK; clear hK) | (clear hK; apply hK; clear hK) | (clear hK; clear hK; apply hK; clear hK) | (clear hK; clear hK; clear hK; apply hK; clear hK))
    | (refine jl_call (f := 26) rfl rfl rfl rfl rfl (s1) (by simp [BelL, Bel]) ?_; rintro r rfl; simp (maxSteps := 1000000) [Try.f11, itD, itC, rgsD, wrsD])
    | (refine jd_call (f := 26) rfl rfl rfl rfl rfl (s1) (by simp [BelL, Bel]) ?_; simp (maxSteps := 1000000) [Try.f11, itD, itC, rgsD, wrsD])
    | (refine jl_call (f := 27) rfl rfl rfl rfl rfl (s2) (by simp [BelL, Bel]) ?_; rintro r rfl; simp (maxSteps := 1000000) [Try.f11, itD, itC, rgsD, wrsD])
    | (refine jd_call (f := 27) rfl rfl rfl rfl rfl (s2) (by simp [BelL, Bel]) ?_; simp (maxSteps := 1000000) [Try.f11, itD, itC, rgsD, wrsD])
    | (refine jw_ret (hQ _ _ (.inr rfl) (ret_ok 0 ?_ (by first | omega | simp))); simp (maxSteps := 1000000) [okRet, BelL, Bel, BelS, BelOb, Try.f11, itD, itC, rgsD, wrsD])
    | (refine hQ _ _ (.inl rfl) (ret_ok 0 ?_ (by first | omega | simp)); simp (maxSteps := 1000000) [okRet, BelL, Bel, BelS, BelOb, Try.f11, itD, itC, rgsD, wrsD])
    | (refine jd_newc rfl rfl (by simp) ?_; simp (maxSteps := 1000000) [thD, thL, Try.f11, itD, itC, rgsD, wrsD])
    | (refine okN_or ?_; simp (maxSteps := 1000000) [thD, thL, Try.f11, itD, itC, rgsD, wrsD])
    | (refine okC_guard (fun hc => ?_) (fun hc => ?_) <;> (first | simp (maxSteps := 1000000) [hc, of_decide_eq_true hc, Try.f11, itD, itC, rgsD, wrsD] | simp (maxSteps := 1000000) [hc, of_decide_eq_false hc, Try.f11, itD, itC, rgsD, wrsD] | simp (maxSteps := 1000000) [hc, Try.f11, itD, itC, rgsD, wrsD]) <;> (try simp at hc) <;> (try (exfalso; first | omega | exact absurd hc (by assumption))))
    | (refine okJ_guard (fun hc => ?_) (fun hc => ?_) <;> (first | simp (maxSteps := 1000000) [hc, of_decide_eq_true hc, Try.f11, itD, itC, rgsD, wrsD] | simp (maxSteps := 1000000) [hc, of_decide_eq_false hc, Try.f11, itD, itC, rgsD, wrsD] | simp (maxSteps := 1000000) [hc, Try.f11, itD, itC, rgsD, wrsD]) <;> (try simp at hc) <;> (try (exfalso; first | omega | exact absurd hc (by assumption))))
    | (refine And.intro (by first | assumption | omega | (simp [BelL, Bel]; done) | (simp; omega)) ?_; try simp (maxSteps := 1000000) [Try.f11, itD, itC, rgsD, wrsD])
    | (refine okC_or ?_; simp (maxSteps := 1000000) [Try.f11, itD, itC, rgsD, wrsD])
end Go.Proofs.Ythaidogcgjnhcaa
