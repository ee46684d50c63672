/- SpanApart: the walk. -/
import Derived.Test.YtkjndbfinpfjfaaDoorSpan
set_option linter.unusedVariables false
set_option linter.unusedSimpArgs false
set_option maxRecDepth 20000
set_option maxHeartbeats 20000000
namespace Go.Proofs.YtkjndbfinpfjfaaDoor
open Go Go.Vm Go.Proofs

theorem span_low (a i : Nat) (s : List Int) : lex (spanL a i ++ s) (spanL a i) = false := by
  have : ∀ t : List Int, lex t [] = false := fun t => by cases t <;> rfl
  simp [spanL, spanN, lex, this]
theorem span_high (a i : Nat) (s : List Int) : lex (spanL a i ++ s) (spanL a (i + 1)) = true := by
  have h : ¬ (i : Int) = (i : Int) + 1 := by omega
  simp [spanL, spanN, lex, h]
  omega
theorem span_asc (a i : Nat) : lex (spanL a i) (spanL a (i + 1)) = true := by
  have := span_high a i []
  rwa [List.append_nil] at this
theorem span_apart (a i b k : Nat) (s : List Int) (h : ¬ (a = b ∧ i = k)) : lex (spanL a i ++ s) (spanL b k) = true ∨ lex (spanL a i ++ s) (spanL b (k + 1)) = false := by
  have hn : ∀ t : List Int, lex t [] = false := fun t => by cases t <;> rfl
  by_cases hab : a = b
  · subst hab
    have hik : ¬ i = k := fun e => h ⟨rfl, e⟩
    by_cases hlt : i < k
    · left
      have h1 : ¬ (i : Int) = k := by omega
      simp [spanL, spanN, lex, h1]
      omega
    · right
      by_cases he : i = k + 1
      · subst he
        simp [spanL, spanN, lex, hn]
      · have h1 : ¬ (i : Int) = (k : Int) + 1 := by omega
        simp [spanL, spanN, lex, h1]
        omega
  · by_cases hlt : a < b
    · left
      have h1 : ¬ (a : Int) = b := by omega
      simp [spanL, spanN, lex, h1]
      omega
    · right
      have h1 : ¬ (a : Int) = b := by omega
      simp [spanL, spanN, lex, h1]
      omega
theorem spanL_len (a i : Nat) : (spanL a i).length = 18 := rfl

theorem withinF {G : Globals} (w l h : List Int) (hw : w.length ≤ 1000000) (hl : l.length ≤ 1000000) (hh : h.length ≤ 1000000) : FV Tryd.prog G 19 [bytesD w, .agg [bytesD l, bytesD h]] (fun r => r = .bool (!lex w l && lex w h)) := by
  have h1 := lessBytes (G := G) w l hw hl
  have h2 := lessBytes (G := G) w h hw hh
  refine fv_enter_v Tryd.func19 rfl rfl fun Q hQ => ?_
  cases hb : lex w l with
  | true =>
    rw [hb] at hQ h1
    repeat' first
      | refine jw_seq_k fun K hK => ?_
      | refine jw_block ?_
      | (refine jw_skip ?_; try simp)
      | (refine jw_exit ?_; try simp)
      | (refine jw_cond rfl (fun hc => ?_) (fun hc => ?_) <;> (try simp at hc) <;> (try (exfalso; first | omega | exact absurd hc (by assumption))))
      | (refine jw_c ?_; simp (maxSteps := 1000000) [Tryd.f19])
      | (refine jw_draw_j mixed (by kernel_rfl) ?_; simp (maxSteps := 1000000) [Tryd.f19])
      | (first | (apply hK; clear hK) | (clear hK; apply hK; clear hK) | (clear hK; clear hK; apply hK; clear hK) | (clear hK; clear hK; clear hK; apply hK; clear hK))
      | (refine jl_call (f := 16) rfl rfl rfl rfl rfl (h1) (by simp [BelL, Bel]) ?_; rintro r rfl; simp (maxSteps := 1000000) [Tryd.f19])
      | (refine jd_call (f := 16) rfl rfl rfl rfl rfl (h1) (by simp [BelL, Bel]) ?_; simp (maxSteps := 1000000) [Tryd.f19])
      | (refine jl_call (f := 16) rfl rfl rfl rfl rfl (h2) (by simp [BelL, Bel]) ?_; rintro r rfl; simp (maxSteps := 1000000) [Tryd.f19])
      | (refine jd_call (f := 16) rfl rfl rfl rfl rfl (h2) (by simp [BelL, Bel]) ?_; simp (maxSteps := 1000000) [Tryd.f19])
      | (refine jw_ret (hQ _ _ (.inr rfl) (ret_ok 0 ?_ (by first | omega | simp))); simp (maxSteps := 1000000) [okRet, BelL, Bel, BelS, BelOb, Tryd.f19])
      | (refine hQ _ _ (.inl rfl) (ret_ok 0 ?_ (by first | omega | simp)); simp (maxSteps := 1000000) [okRet, BelL, Bel, BelS, BelOb, Tryd.f19])
      | (refine jd_newc rfl rfl (by simp) ?_; simp (maxSteps := 1000000) [thD, thL, Tryd.f19])
      | (refine okN_or ?_; simp (maxSteps := 1000000) [thD, thL, Tryd.f19])
      | (refine okC_guard (fun hc => ?_) (fun hc => ?_) <;> (first | simp (maxSteps := 1000000) [hc, of_decide_eq_true hc, Tryd.f19] | simp (maxSteps := 1000000) [hc, of_decide_eq_false hc, Tryd.f19] | simp (maxSteps := 1000000) [hc, Tryd.f19]) <;> (try simp at hc) <;> (try (exfalso; first | omega | exact absurd hc (by assumption))))
      | (refine okJ_guard (fun hc => ?_) (fun hc => ?_) <;> (first | simp (maxSteps := 1000000) [hc, of_decide_eq_true hc, Tryd.f19] | simp (maxSteps := 1000000) [hc, of_decide_eq_false hc, Tryd.f19] | simp (maxSteps := 1000000) [hc, Tryd.f19]) <;> (try simp at hc) <;> (try (exfalso; first | omega | exact absurd hc (by assumption))))
      | (refine And.intro (by first | assumption | omega | (simp [BelL, Bel]; done) | (simp; omega)) ?_; try simp (maxSteps := 1000000) [Tryd.f19])
      | (refine okC_or ?_; simp (maxSteps := 1000000) [Tryd.f19])
  | false =>
    rw [hb] at hQ h1
    repeat' first
      | refine jw_seq_k fun K hK => ?_
      | refine jw_block ?_
      | (refine jw_skip ?_; try simp)
      | (refine jw_exit ?_; try simp)
      | (refine jw_cond rfl (fun hc => ?_) (fun hc => ?_) <;> (try simp at hc) <;> (try (exfalso; first | omega | exact absurd hc (by assumption))))
      | (refine jw_c ?_; simp (maxSteps := 1000000) [Tryd.f19])
      | (refine jw_draw_j mixed (by kernel_rfl) ?_; simp (maxSteps := 1000000) [Tryd.f19])
      | (first | (apply hK; clear hK) | (clear hK; apply hK; clear hK) | (clear hK; clear hK; apply hK; clear hK) | (clear hK; clear hK; clear hK; apply hK; clear hK))
      | (refine jl_call (f := 16) rfl rfl rfl rfl rfl (h1) (by simp [BelL, Bel]) ?_; rintro r rfl; simp (maxSteps := 1000000) [Tryd.f19])
      | (refine jd_call (f := 16) rfl rfl rfl rfl rfl (h1) (by simp [BelL, Bel]) ?_; simp (maxSteps := 1000000) [Tryd.f19])
      | (refine jl_call (f := 16) rfl rfl rfl rfl rfl (h2) (by simp [BelL, Bel]) ?_; rintro r rfl; simp (maxSteps := 1000000) [Tryd.f19])
      | (refine jd_call (f := 16) rfl rfl rfl rfl rfl (h2) (by simp [BelL, Bel]) ?_; simp (maxSteps := 1000000) [Tryd.f19])
      | (refine jw_ret (hQ _ _ (.inr rfl) (ret_ok 0 ?_ (by first | omega | simp))); simp (maxSteps := 1000000) [okRet, BelL, Bel, BelS, BelOb, Tryd.f19])
      | (refine hQ _ _ (.inl rfl) (ret_ok 0 ?_ (by first | omega | simp)); simp (maxSteps := 1000000) [okRet, BelL, Bel, BelS, BelOb, Tryd.f19])
      | (refine jd_newc rfl rfl (by simp) ?_; simp (maxSteps := 1000000) [thD, thL, Tryd.f19])
      | (refine okN_or ?_; simp (maxSteps := 1000000) [thD, thL, Tryd.f19])
      | (refine okC_guard (fun hc => ?_) (fun hc => ?_) <;> (first | simp (maxSteps := 1000000) [hc, of_decide_eq_true hc, Tryd.f19] | simp (maxSteps := 1000000) [hc, of_decide_eq_false hc, Tryd.f19] | simp (maxSteps := 1000000) [hc, Tryd.f19]) <;> (try simp at hc) <;> (try (exfalso; first | omega | exact absurd hc (by assumption))))
      | (refine okJ_guard (fun hc => ?_) (fun hc => ?_) <;> (first | simp (maxSteps := 1000000) [hc, of_decide_eq_true hc, Tryd.f19] | simp (maxSteps := 1000000) [hc, of_decide_eq_false hc, Tryd.f19] | simp (maxSteps := 1000000) [hc, Tryd.f19]) <;> (try simp at hc) <;> (try (exfalso; first | omega | exact absurd hc (by assumption))))
      | (refine And.intro (by first | assumption | omega | (simp [BelL, Bel]; done) | (simp; omega)) ?_; try simp (maxSteps := 1000000) [Tryd.f19])
      | (refine okC_or ?_; simp (maxSteps := 1000000) [Tryd.f19])

theorem spanApartW (a' i' b' k' : Int) (key : List Int) (hk : key.length ≤ 140737488351232) : FV Tryd.prog utfG 6 [.int .i64 a', .int .i64 i', .int .i64 b', .int .i64 k', bytesD key] (fun r => r = .bool true) := by
  have nat : ∀ (x : Int) (m : Nat), 0 < m → ∃ n : Nat, x % (m : Int) = n ∧ n < m := fun x m h => by
    have := Int.emod_nonneg x (show (m : Int) ≠ 0 by omega)
    have := Int.emod_lt_of_pos x (show (0 : Int) < m by omega)
    exact ⟨(x % (m : Int)).toNat, by omega, by omega⟩
  obtain ⟨a, ea, ha⟩ := nat a' 4 (by omega)
  obtain ⟨i, ei, hi⟩ := nat i' 3 (by omega)
  obtain ⟨b, eb, hb⟩ := nat b' 4 (by omega)
  obtain ⟨k, ek, hkk⟩ := nat k' 3 (by omega)
  have p1 := pickedG (G := utfG) a' 4 (by omega) (by omega)
  have p2 := pickedG (G := utfG) i' 3 (by omega) (by omega)
  have p3 := pickedG (G := utfG) b' 4 (by omega) (by omega)
  have p4 := pickedG (G := utfG) k' 3 (by omega) (by omega)
  have e4 : ((4 : Nat) : Int) = 4 := rfl
  have e3 : ((3 : Nat) : Int) = 3 := rfl
  rw [e4] at ea eb
  rw [e3] at ei ek
  rw [ea] at p1
  rw [ei] at p2
  rw [eb] at p3
  rw [ek] at p4
  have s1 := spanF a i ha hi
  have s2 := spanF b k hb hkk
  have hasc := lessBytes (G := utfG) (spanL a i) (spanL a (i + 1)) (by simp [spanL_len]) (by simp [spanL_len])
  rw [span_asc] at hasc
  have hoc := octets (G := utfG) key 100 (by omega) (by omega)
  obtain ⟨O, hO⟩ : ∃ O, key.take 100 = O := ⟨_, rfl⟩
  have hOl : O.length ≤ 100 := by rw [← hO]; simp; omega
  rw [hO] at hoc
  have w1 := withinF (G := utfG) (spanL a i ++ O) (spanL a i) (spanL a (i + 1)) (by simp [spanL_len]; omega) (by simp [spanL_len]) (by simp [spanL_len])
  rw [span_low, span_high] at w1
  have w2 := withinF (G := utfG) (spanL a i ++ O) (spanL b k) (spanL b (k + 1)) (by simp [spanL_len]; omega) (by simp [spanL_len]) (by simp [spanL_len])
  have sb := sameBytes (G := utfG) (spanL a i) (spanL a i) (by simp [spanL_len])
  have sc := sameBytes (G := utfG) (spanL a (i + 1)) (spanL a (i + 1)) (by simp [spanL_len])
  have hap := span_apart a i b k O
  have hl := spanL_len a i
  refine fv_enter_v Tryd.func6 rfl rfl fun Q hQ => ?_
  repeat' first
    | refine jw_ret (hQ _ _ (.inr rfl) ⟨5, _, _, rfl, rfl, ?_⟩)
    | refine jw_ret (hQ _ _ (.inr rfl) ⟨_, rfl, ?_⟩)
    | refine jw_seq_k fun K hK => ?_
    | refine jw_block ?_
    | (refine jw_skip ?_; try simp)
    | (refine jw_exit ?_; try simp)
    | (refine jw_cond rfl (fun hc => ?_) (fun hc => ?_) <;> (try simp at hc) <;> (try (exfalso; first | omega | exact absurd hc (by assumption))))
    | ((fail_if_success (refine jw_c (id := 3) ?_)); (refine jw_c ?_; simp (maxSteps := 1000000) [Tryd.f6]))
    | ((fail_if_success (refine jw_draw_j (id := 3) mixed (by kernel_rfl) ?_)); (refine jw_draw_j mixed (by kernel_rfl) ?_; simp (maxSteps := 1000000) [Tryd.f6]))
    | (first | (apply hK; clear hK) | (clear hK; apply hK; clear hK) | (clear hK; clear hK; apply hK; clear hK) | (clear hK; clear hK; clear hK; apply hK; clear hK))
    | exact hQ _ _ (.inl rfl) ⟨5, _, _, rfl, rfl, rfl⟩
    | refine hQ _ _ (.inl rfl) ⟨5, _, _, rfl, rfl, ?_⟩
    | refine hQ _ _ (.inl rfl) ⟨_, rfl, ?_⟩
    | (refine jl_call (f := 14) rfl rfl rfl rfl rfl (p1) (by simp [BelL, Bel]) ?_; rintro r rfl; simp (maxSteps := 1000000) [Tryd.f6])
    | (refine jd_call (f := 14) rfl rfl rfl rfl rfl (p1) (by simp [BelL, Bel]) ?_; simp (maxSteps := 1000000) [Tryd.f6])
    | (refine jl_call (f := 14) rfl rfl rfl rfl rfl (p2) (by simp [BelL, Bel]) ?_; rintro r rfl; simp (maxSteps := 1000000) [Tryd.f6])
    | (refine jd_call (f := 14) rfl rfl rfl rfl rfl (p2) (by simp [BelL, Bel]) ?_; simp (maxSteps := 1000000) [Tryd.f6])
    | (refine jl_call (f := 14) rfl rfl rfl rfl rfl (p3) (by simp [BelL, Bel]) ?_; rintro r rfl; simp (maxSteps := 1000000) [Tryd.f6])
    | (refine jd_call (f := 14) rfl rfl rfl rfl rfl (p3) (by simp [BelL, Bel]) ?_; simp (maxSteps := 1000000) [Tryd.f6])
    | (refine jl_call (f := 14) rfl rfl rfl rfl rfl (p4) (by simp [BelL, Bel]) ?_; rintro r rfl; simp (maxSteps := 1000000) [Tryd.f6])
    | (refine jd_call (f := 14) rfl rfl rfl rfl rfl (p4) (by simp [BelL, Bel]) ?_; simp (maxSteps := 1000000) [Tryd.f6])
    | (refine jd_newc rfl rfl (by simp) ?_; simp (maxSteps := 1000000) [thD, thL, Tryd.f6])
    | (refine okN_or ?_; simp (maxSteps := 1000000) [thD, thL, Tryd.f6])
    | (refine okC_guard (fun hc => ?_) (fun hc => ?_) <;> (first | simp (maxSteps := 1000000) [hc, of_decide_eq_true hc, Tryd.f6] | simp (maxSteps := 1000000) [hc, of_decide_eq_false hc, Tryd.f6] | simp (maxSteps := 1000000) [hc, Tryd.f6]) <;> (try simp at hc) <;> (try (exfalso; first | omega | exact absurd hc (by assumption))))
    | (refine okJ_guard (fun hc => ?_) (fun hc => ?_) <;> (first | simp (maxSteps := 1000000) [hc, of_decide_eq_true hc, Tryd.f6] | simp (maxSteps := 1000000) [hc, of_decide_eq_false hc, Tryd.f6] | simp (maxSteps := 1000000) [hc, Tryd.f6]) <;> (try simp at hc) <;> (try (exfalso; first | omega | exact absurd hc (by assumption))))
    | (refine And.intro (by first | assumption | omega | (simp [BelL, Bel]; done) | (simp; omega)) ?_; try simp (maxSteps := 1000000) [Tryd.f6])
    | (refine okC_or ?_; simp (maxSteps := 1000000) [Tryd.f6])
  (refine jw_view (view_frz 0 _ rfl (by simp [BelL, Bel, thL_flat, thD_flat])) ?_; simp (maxSteps := 1000000) [thL, thD, thS, thOb, thL_flat, thD_flat])
  (refine jw_view (view_frz 1 _ rfl (by simp [BelL, Bel, thL_flat, thD_flat])) ?_; simp (maxSteps := 1000000) [thL, thD, thS, thOb, thL_flat, thD_flat])
  repeat' first
    | refine jw_ret (hQ _ _ (.inr rfl) ⟨5, _, _, rfl, rfl, ?_⟩)
    | refine jw_ret (hQ _ _ (.inr rfl) ⟨_, rfl, ?_⟩)
    | refine jw_seq_k fun K hK => ?_
    | refine jw_block ?_
    | (refine jw_skip ?_; try simp)
    | (refine jw_exit ?_; try simp)
    | (refine jw_cond rfl (fun hc => ?_) (fun hc => ?_) <;> (try simp at hc) <;> (try (exfalso; first | omega | exact absurd hc (by assumption))))
    | ((fail_if_success (refine jw_c (id := 5) ?_)); (refine jw_c ?_; simp (maxSteps := 1000000) [okCell]))
    | (refine jw_draw_e (id := 3) [(10, 2), (11, 2)] mixed (by kernel_rfl) (by kernel_rfl) ?_; simp (maxSteps := 1000000) [okCell])
    | (refine jw_draw_e (id := 4) [(10, 2), (11, 2)] mixed (by kernel_rfl) (by kernel_rfl) ?_; simp (maxSteps := 1000000) [okCell])
    | ((fail_if_success (refine jw_draw_j (id := 5) mixed (by kernel_rfl) ?_)); (refine jw_draw_j mixed (by kernel_rfl) ?_; simp (maxSteps := 1000000) [okCell]))
    | (first | (apply hK; clear hK) | (clear hK; apply hK; clear hK) | (clear hK; clear hK; apply hK; clear hK) | (clear hK; clear hK; clear hK; apply hK; clear hK))
    | exact hQ _ _ (.inl rfl) ⟨5, _, _, rfl, rfl, rfl⟩
    | refine hQ _ _ (.inl rfl) ⟨5, _, _, rfl, rfl, ?_⟩
    | refine hQ _ _ (.inl rfl) ⟨_, rfl, ?_⟩
    | (refine jl_call (f := 15) rfl rfl rfl rfl rfl (s1) (by simp [BelL, Bel]) ?_; rintro r rfl; simp (maxSteps := 1000000) [okCell])
    | (refine jd_call (f := 15) rfl rfl rfl rfl rfl (s1) (by simp [BelL, Bel]) ?_; simp (maxSteps := 1000000) [okCell])
    | (refine js_call (f := 15) rfl rfl rfl rfl rfl (s1) (by simp [BelL, Bel]) rfl ?_; simp (maxSteps := 1000000) [okCell])
    | (refine jl_call (f := 15) rfl rfl rfl rfl rfl (s2) (by simp [BelL, Bel]) ?_; rintro r rfl; simp (maxSteps := 1000000) [okCell])
    | (refine jd_call (f := 15) rfl rfl rfl rfl rfl (s2) (by simp [BelL, Bel]) ?_; simp (maxSteps := 1000000) [okCell])
    | (refine js_call (f := 15) rfl rfl rfl rfl rfl (s2) (by simp [BelL, Bel]) rfl ?_; simp (maxSteps := 1000000) [okCell])
    | (refine jd_newc rfl rfl (by simp) ?_; simp (maxSteps := 1000000) [thD, thL, okCell])
    | (refine okN_or ?_; simp (maxSteps := 1000000) [thD, thL, okCell])
    | (refine js_newc rfl rfl (by simp) rfl ?_; simp (maxSteps := 1000000) [okCell])
    | (refine okM_or ?_; simp (maxSteps := 1000000) [okCell])
    | (refine okS_or ?_; simp (maxSteps := 1000000) [okCell])
    | (refine okS_guard (fun hc => ?_) (fun hc => ?_) <;> (first | simp (maxSteps := 1000000) [hc, of_decide_eq_true hc, okCell] | simp (maxSteps := 1000000) [hc, of_decide_eq_false hc, okCell] | simp (maxSteps := 1000000) [hc, okCell]) <;> (try simp at hc) <;> (try (exfalso; first | omega | exact absurd hc (by assumption))))
    | (refine okC_guard (fun hc => ?_) (fun hc => ?_) <;> (first | simp (maxSteps := 1000000) [hc, of_decide_eq_true hc, okCell] | simp (maxSteps := 1000000) [hc, of_decide_eq_false hc, okCell] | simp (maxSteps := 1000000) [hc, okCell]) <;> (try simp at hc) <;> (try (exfalso; first | omega | exact absurd hc (by assumption))))
    | (refine okJ_guard (fun hc => ?_) (fun hc => ?_) <;> (first | simp (maxSteps := 1000000) [hc, of_decide_eq_true hc, okCell] | simp (maxSteps := 1000000) [hc, of_decide_eq_false hc, okCell] | simp (maxSteps := 1000000) [hc, okCell]) <;> (try simp at hc) <;> (try (exfalso; first | omega | exact absurd hc (by assumption))))
    | (refine And.intro (by first | assumption | omega | (simp [BelL, Bel]; done) | (simp; omega)) ?_; try simp (maxSteps := 1000000) [okCell])
    | (refine okC_or ?_; simp (maxSteps := 1000000) [okCell])
  (refine jw_view (view_frz 2 _ rfl (by simp [BelL, Bel, thL_flat, thD_flat])) ?_; simp (maxSteps := 1000000) [thL, thD, thS, thOb, thL_flat, thD_flat])
  (refine jw_view (view_frz 3 _ rfl (by simp [BelL, Bel, thL_flat, thD_flat])) ?_; simp (maxSteps := 1000000) [thL, thD, thS, thOb, thL_flat, thD_flat])
  rw [hl, spanL_len, spanL_len, spanL_len]
  by_cases he : a = b ∧ i = k
  · obtain ⟨rfl, rfl⟩ := he
    repeat' first
      | refine jw_seq_k fun K hK => ?_
      | refine jw_block ?_
      | (refine jw_skip ?_; try simp)
      | (refine jw_exit ?_; try simp)
      | (refine jw_cond rfl (fun hc => ?_) (fun hc => ?_) <;> (try simp at hc) <;> (try (exfalso; first | omega | exact absurd hc (by assumption))))
      | (refine jw_c ?_; simp (maxSteps := 1000000) [numsD, hl, spanL_len])
      | (refine jw_draw_j mixed (by kernel_rfl) ?_; simp (maxSteps := 1000000) [numsD, hl, spanL_len])
      | (first | (apply hK; clear hK) | (clear hK; apply hK; clear hK) | (clear hK; clear hK; apply hK; clear hK) | (clear hK; clear hK; clear hK; apply hK; clear hK))
      | (refine jl_call (f := 16) rfl rfl rfl rfl rfl (hasc) (by simp [BelL, Bel]) ?_; rintro r rfl; simp (maxSteps := 1000000) [numsD, hl, spanL_len])
      | (refine jd_call (f := 16) rfl rfl rfl rfl rfl (hasc) (by simp [BelL, Bel]) ?_; simp (maxSteps := 1000000) [numsD, hl, spanL_len])
      | (refine jl_call (f := 17) rfl rfl rfl rfl rfl (sb) (by simp [BelL, Bel]) ?_; rintro r rfl; simp (maxSteps := 1000000) [numsD, hl, spanL_len])
      | (refine jd_call (f := 17) rfl rfl rfl rfl rfl (sb) (by simp [BelL, Bel]) ?_; simp (maxSteps := 1000000) [numsD, hl, spanL_len])
      | (refine jl_call (f := 17) rfl rfl rfl rfl rfl (sc) (by simp [BelL, Bel]) ?_; rintro r rfl; simp (maxSteps := 1000000) [numsD, hl, spanL_len])
      | (refine jd_call (f := 17) rfl rfl rfl rfl rfl (sc) (by simp [BelL, Bel]) ?_; simp (maxSteps := 1000000) [numsD, hl, spanL_len])
      | (refine jw_ret (hQ _ _ (.inr rfl) (ret_ok 0 ?_ (by first | omega | simp))); simp (maxSteps := 1000000) [okRet, BelL, Bel, BelS, BelOb, numsD, hl, spanL_len])
      | (refine hQ _ _ (.inl rfl) (ret_ok 0 ?_ (by first | omega | simp)); simp (maxSteps := 1000000) [okRet, BelL, Bel, BelS, BelOb, numsD, hl, spanL_len])
      | (refine jd_newc rfl rfl (by simp) ?_; simp (maxSteps := 1000000) [thD, thL, numsD, hl, spanL_len])
      | (refine okN_or ?_; simp (maxSteps := 1000000) [thD, thL, numsD, hl, spanL_len])
      | (refine okC_guard (fun hc => ?_) (fun hc => ?_) <;> (first | simp (maxSteps := 1000000) [hc, of_decide_eq_true hc, numsD, hl, spanL_len] | simp (maxSteps := 1000000) [hc, of_decide_eq_false hc, numsD, hl, spanL_len] | simp (maxSteps := 1000000) [hc, numsD, hl, spanL_len]) <;> (try simp at hc) <;> (try (exfalso; first | omega | exact absurd hc (by assumption))))
      | (refine okJ_guard (fun hc => ?_) (fun hc => ?_) <;> (first | simp (maxSteps := 1000000) [hc, of_decide_eq_true hc, numsD, hl, spanL_len] | simp (maxSteps := 1000000) [hc, of_decide_eq_false hc, numsD, hl, spanL_len] | simp (maxSteps := 1000000) [hc, numsD, hl, spanL_len]) <;> (try simp at hc) <;> (try (exfalso; first | omega | exact absurd hc (by assumption))))
      | (refine And.intro (by first | assumption | omega | (simp [BelL, Bel]; done) | (simp; omega)) ?_; try simp (maxSteps := 1000000) [numsD, hl, spanL_len])
      | (refine okC_or ?_; simp (maxSteps := 1000000) [numsD, hl, spanL_len])
  · have hap := hap he
    have w2' : FV Tryd.prog utfG 19 [bytesD (spanL a i ++ O), .agg [bytesD (spanL b k), bytesD (spanL b (k + 1))]] (fun r => r = .bool false) := by
      rcases hap with h | h
      · rw [h] at w2; exact w2
      · rw [h, Bool.and_false] at w2; exact w2
    clear w2
    simp only [numsD, List.map_append, List.length_append, hl, spanL_len] at w1 w2' hoc
    repeat' first
      | refine jw_ret (hQ _ _ (.inr rfl) ⟨5, _, _, rfl, rfl, ?_⟩)
      | refine jw_ret (hQ _ _ (.inr rfl) ⟨_, rfl, ?_⟩)
      | refine jw_seq_k fun K hK => ?_
      | refine jw_block ?_
      | (refine jw_skip ?_; try simp)
      | (refine jw_exit ?_; try simp)
      | (refine jw_cond rfl (fun hc => ?_) (fun hc => ?_) <;> (try simp at hc) <;> (try (exfalso; first | omega | exact absurd hc (by assumption))))
      | ((fail_if_success (refine jw_c (id := 9) ?_)); (refine jw_c ?_; simp (maxSteps := 1000000) [numsD, hl, spanL_len]))
      | ((fail_if_success (refine jw_draw_j (id := 9) mixed (by kernel_rfl) ?_)); (refine jw_draw_j mixed (by kernel_rfl) ?_; simp (maxSteps := 1000000) [numsD, hl, spanL_len]))
      | (first | (apply hK; clear hK) | (clear hK; apply hK; clear hK) | (clear hK; clear hK; apply hK; clear hK) | (clear hK; clear hK; clear hK; apply hK; clear hK))
      | exact hQ _ _ (.inl rfl) ⟨5, _, _, rfl, rfl, rfl⟩
      | refine hQ _ _ (.inl rfl) ⟨5, _, _, rfl, rfl, ?_⟩
      | refine hQ _ _ (.inl rfl) ⟨_, rfl, ?_⟩
      | (refine jl_call (f := 16) rfl rfl rfl rfl rfl (hasc) (by simp [BelL, Bel]) ?_; rintro r rfl; simp (maxSteps := 1000000) [numsD, hl, spanL_len])
      | (refine jd_call (f := 16) rfl rfl rfl rfl rfl (hasc) (by simp [BelL, Bel]) ?_; simp (maxSteps := 1000000) [numsD, hl, spanL_len])
      | (refine jd_newc rfl rfl (by simp) ?_; simp (maxSteps := 1000000) [thD, thL, numsD, hl, spanL_len])
      | (refine okN_or ?_; simp (maxSteps := 1000000) [thD, thL, numsD, hl, spanL_len])
      | (refine okC_guard (fun hc => ?_) (fun hc => ?_) <;> (first | simp (maxSteps := 1000000) [hc, of_decide_eq_true hc, numsD, hl, spanL_len] | simp (maxSteps := 1000000) [hc, of_decide_eq_false hc, numsD, hl, spanL_len] | simp (maxSteps := 1000000) [hc, numsD, hl, spanL_len]) <;> (try simp at hc) <;> (try (exfalso; first | omega | exact absurd hc (by assumption))))
      | (refine okJ_guard (fun hc => ?_) (fun hc => ?_) <;> (first | simp (maxSteps := 1000000) [hc, of_decide_eq_true hc, numsD, hl, spanL_len] | simp (maxSteps := 1000000) [hc, of_decide_eq_false hc, numsD, hl, spanL_len] | simp (maxSteps := 1000000) [hc, numsD, hl, spanL_len]) <;> (try simp at hc) <;> (try (exfalso; first | omega | exact absurd hc (by assumption))))
      | (refine And.intro (by first | assumption | omega | (simp [BelL, Bel]; done) | (simp; omega)) ?_; try simp (maxSteps := 1000000) [numsD, hl, spanL_len])
      | (refine okC_or ?_; simp (maxSteps := 1000000) [numsD, hl, spanL_len])
    all_goals
      clear hap hasc s1 s2 sb sc p1 p2 p3 p4
      repeat' first
        | refine jw_ret (hQ _ _ (.inr rfl) ⟨5, _, _, rfl, rfl, ?_⟩)
        | refine jw_ret (hQ _ _ (.inr rfl) ⟨_, rfl, ?_⟩)
        | refine jw_seq_k fun K hK => ?_
        | refine jw_block ?_
        | (refine jw_skip ?_; try simp)
        | (refine jw_exit ?_; try simp)
        | (refine jw_cond rfl (fun hc => ?_) (fun hc => ?_) <;> (try simp at hc) <;> (try (exfalso; first | omega | exact absurd hc (by assumption))))
        | ((fail_if_success (refine jw_c (id := 10) ?_)); (refine jw_c ?_; simp (maxSteps := 1000000) [hl, okCell, show O.length ≤ 140737488355310 by omega, show 18 + O.length ≤ 140737488355328 by omega]))
        | ((fail_if_success (refine jw_draw_j (id := 10) mixed (by kernel_rfl) ?_)); (refine jw_draw_j mixed (by kernel_rfl) ?_; simp (maxSteps := 1000000) [hl, okCell, show O.length ≤ 140737488355310 by omega, show 18 + O.length ≤ 140737488355328 by omega]))
        | (first | (apply hK; clear hK) | (clear hK; apply hK; clear hK) | (clear hK; clear hK; apply hK; clear hK) | (clear hK; clear hK; clear hK; apply hK; clear hK))
        | exact hQ _ _ (.inl rfl) ⟨5, _, _, rfl, rfl, rfl⟩
        | refine hQ _ _ (.inl rfl) ⟨5, _, _, rfl, rfl, ?_⟩
        | refine hQ _ _ (.inl rfl) ⟨_, rfl, ?_⟩
        | (refine jl_call (f := 18) rfl rfl rfl rfl rfl (hoc) (by simp [BelL, Bel]) ?_; rintro r rfl; simp (maxSteps := 1000000) [hl, okCell, show O.length ≤ 140737488355310 by omega, show 18 + O.length ≤ 140737488355328 by omega])
        | (refine jd_call (f := 18) rfl rfl rfl rfl rfl (hoc) (by simp [BelL, Bel]) ?_; simp (maxSteps := 1000000) [hl, okCell, show O.length ≤ 140737488355310 by omega, show 18 + O.length ≤ 140737488355328 by omega])
        | (refine jd_newc rfl rfl (by simp) ?_; simp (maxSteps := 1000000) [thD, thL, hl, okCell, show O.length ≤ 140737488355310 by omega, show 18 + O.length ≤ 140737488355328 by omega])
        | (refine okN_or ?_; simp (maxSteps := 1000000) [thD, thL, hl, okCell, show O.length ≤ 140737488355310 by omega, show 18 + O.length ≤ 140737488355328 by omega])
        | (refine okC_guard (fun hc => ?_) (fun hc => ?_) <;> (first | simp (maxSteps := 1000000) [hc, of_decide_eq_true hc, hl, okCell, show O.length ≤ 140737488355310 by omega, show 18 + O.length ≤ 140737488355328 by omega] | simp (maxSteps := 1000000) [hc, of_decide_eq_false hc, hl, okCell, show O.length ≤ 140737488355310 by omega, show 18 + O.length ≤ 140737488355328 by omega] | simp (maxSteps := 1000000) [hc, hl, okCell, show O.length ≤ 140737488355310 by omega, show 18 + O.length ≤ 140737488355328 by omega]) <;> (try simp at hc) <;> (try (exfalso; first | omega | exact absurd hc (by assumption))))
        | (refine okJ_guard (fun hc => ?_) (fun hc => ?_) <;> (first | simp (maxSteps := 1000000) [hc, of_decide_eq_true hc, hl, okCell, show O.length ≤ 140737488355310 by omega, show 18 + O.length ≤ 140737488355328 by omega] | simp (maxSteps := 1000000) [hc, of_decide_eq_false hc, hl, okCell, show O.length ≤ 140737488355310 by omega, show 18 + O.length ≤ 140737488355328 by omega] | simp (maxSteps := 1000000) [hc, hl, okCell, show O.length ≤ 140737488355310 by omega, show 18 + O.length ≤ 140737488355328 by omega]) <;> (try simp at hc) <;> (try (exfalso; first | omega | exact absurd hc (by assumption))))
        | (refine And.intro (by first | assumption | omega | (simp [BelL, Bel]; done) | (simp; omega)) ?_; try simp (maxSteps := 1000000) [hl, okCell, show O.length ≤ 140737488355310 by omega, show 18 + O.length ≤ 140737488355328 by omega])
        | (refine okC_or ?_; simp (maxSteps := 1000000) [hl, okCell, show O.length ≤ 140737488355310 by omega, show 18 + O.length ≤ 140737488355328 by omega])
      (refine jw_view (view_frz 4 _ rfl (by simp [BelL, Bel, thL_flat, thD_flat, hl, List.take_of_length_le])) ?_; simp (maxSteps := 1000000) [thL, thD, thS, thOb, thL_flat, thD_flat, hl, List.take_of_length_le])
      repeat' first
        | refine jw_seq_k fun K hK => ?_
        | refine jw_block ?_
        | (refine jw_skip ?_; try simp)
        | (refine jw_exit ?_; try simp)
        | (refine jw_cond rfl (fun hc => ?_) (fun hc => ?_) <;> (try simp at hc) <;> (try (exfalso; first | omega | exact absurd hc (by assumption))))
        | (refine jw_c ?_; simp (maxSteps := 1000000))
        | (refine jw_draw_j mixed (by kernel_rfl) ?_; simp (maxSteps := 1000000))
        | (first | (apply hK; clear hK) | (clear hK; apply hK; clear hK) | (clear hK; clear hK; apply hK; clear hK) | (clear hK; clear hK; clear hK; apply hK; clear hK))
        | (refine jl_call (f := 19) rfl rfl rfl rfl rfl (w1) (by simp [BelL, Bel]) ?_; rintro r rfl; simp (maxSteps := 1000000))
        | (refine jd_call (f := 19) rfl rfl rfl rfl rfl (w1) (by simp [BelL, Bel]) ?_; simp (maxSteps := 1000000))
        | (refine jl_call (f := 19) rfl rfl rfl rfl rfl (w2') (by simp [BelL, Bel]) ?_; rintro r rfl; simp (maxSteps := 1000000))
        | (refine jd_call (f := 19) rfl rfl rfl rfl rfl (w2') (by simp [BelL, Bel]) ?_; simp (maxSteps := 1000000))
        | (refine jw_ret (hQ _ _ (.inr rfl) (ret_ok 0 ?_ (by first | omega | simp))); simp (maxSteps := 1000000) [okRet, BelL, Bel, BelS, BelOb])
        | (refine hQ _ _ (.inl rfl) (ret_ok 0 ?_ (by first | omega | simp)); simp (maxSteps := 1000000) [okRet, BelL, Bel, BelS, BelOb])
        | (refine jd_newc rfl rfl (by simp) ?_; simp (maxSteps := 1000000) [thD, thL])
        | (refine okN_or ?_; simp (maxSteps := 1000000) [thD, thL])
        | (refine okC_guard (fun hc => ?_) (fun hc => ?_) <;> (first | simp (maxSteps := 1000000) [hc, of_decide_eq_true hc] | simp (maxSteps := 1000000) [hc, of_decide_eq_false hc] | simp (maxSteps := 1000000) [hc]) <;> (try simp at hc) <;> (try (exfalso; first | omega | exact absurd hc (by assumption))))
        | (refine okJ_guard (fun hc => ?_) (fun hc => ?_) <;> (first | simp (maxSteps := 1000000) [hc, of_decide_eq_true hc] | simp (maxSteps := 1000000) [hc, of_decide_eq_false hc] | simp (maxSteps := 1000000) [hc]) <;> (try simp at hc) <;> (try (exfalso; first | omega | exact absurd hc (by assumption))))
        | (refine And.intro (by first | assumption | omega | (simp [BelL, Bel]; done) | (simp; omega)) ?_; try simp (maxSteps := 1000000))
        | (refine okC_or ?_; simp (maxSteps := 1000000))
theorem spanApart (a : Int) (_ : (Lit.int .i64 a).wf = true) (i : Int) (_ : (Lit.int .i64 i).wf = true) (b : Int) (_ : (Lit.int .i64 b).wf = true) (k : Int) (_ : (Lit.int .i64 k).wf = true)
    (key : List Int) (_ : ∀ n ∈ key, (Lit.int .u8 n).wf = true) (hk : key.length * 1 ≤ 140737488351232) (_ : key.length ≤ 9223372036854775807) :
    FV Tryd.prog utfG 6 [.int .i64 a, .int .i64 i, .int .i64 b, .int .i64 k, numsD .u8 key] (fun r => r = .bool true) := spanApartW a i b k key (by omega)
end Go.Proofs.YtkjndbfinpfjfaaDoor
