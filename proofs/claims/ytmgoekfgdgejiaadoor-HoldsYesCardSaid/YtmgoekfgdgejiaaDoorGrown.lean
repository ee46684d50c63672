/- Expressions that are made step by step: step, Grown. The walks. -/
import Derived.Test.YtmgoekfgdgejiaaDoorGrowAll
set_option linter.unusedVariables false
set_option linter.unusedSimpArgs false
set_option maxRecDepth 20000
set_option maxHeartbeats 20000000
namespace Go.Proofs.YtmgoekfgdgejiaaDoor
open Go Go.Vm Go.Proofs

theorem natF {G : Globals} (n : Int) (h1 : -9223372036854775808 ≤ n) (h2 : n ≤ 9223372036854775807) : FV Tryd.prog G 36 [.int .i64 n] (fun r => r = .int .i64 (natR n)) := by
  refine fv_enter_v Tryd.func36 rfl rfl fun Q hQ => ?_
  unfold natR at hQ
  by_cases h : n < 0
  · have hw := wrap_i64 (n := n + 1) (by omega) (by omega)
    have hw2 := wrap_i64 (n := -(n + 1)) (by omega) (by omega)
    rw [if_pos h] at hQ
    repeat' first
      | refine jw_seq_k fun K hK => ?_
      | refine jw_block ?_
      | ((first | refine jw_skip ?_ | refine jw_exit ?_); try simp)
      | (refine jw_cond rfl (fun hc => ?_) (fun hc => ?_) <;> (try simp at hc) <;> (try (exfalso; first | omega | exact absurd hc (by assumption))))
      | ((first | refine jw_c ?_ | refine jw_draw_j mixed (by kernel_rfl) ?_); simp (maxSteps := 1000000) [Tryd.f36, h, hw, hw2])
      | (first | (apply hK; clear hK) | (clear hK; apply hK; clear hK) | (clear hK; clear hK; apply hK; clear hK) | (clear hK; clear hK; clear hK; apply hK; clear hK))
      | ((first | refine jw_ret (hQ _ _ (.inr rfl) (ret_ok 0 ?_ (by first | omega | simp))) | refine hQ _ _ (.inl rfl) (ret_ok 0 ?_ (by first | omega | simp))); simp (maxSteps := 1000000) [okRet, BelL, Bel, BelS, BelOb, Tryd.f36, h, hw, hw2])
      | ((first | refine jd_newc rfl rfl (by simp) ?_ | refine okN_or ?_); simp (maxSteps := 1000000) [thD, thL, Tryd.f36, h, hw, hw2])
      | ((first | refine okC_guard (fun hc => ?_) (fun hc => ?_) | refine okJ_guard (fun hc => ?_) (fun hc => ?_)) <;> (first | have hd := of_decide_eq_true hc | have hd := of_decide_eq_false hc | have hd := hc) <;> simp (maxSteps := 1000000) [hc, hd, Tryd.f36, h, hw, hw2] <;> (try simp at hc) <;> (try (exfalso; first | omega | exact absurd hc (by assumption))))
      | (refine And.intro (by first | assumption | omega | (simp [BelL, Bel]; done) | (simp; omega)) ?_; try simp (maxSteps := 1000000) [Tryd.f36, h, hw, hw2])
      | (refine okC_or ?_; simp (maxSteps := 1000000) [Tryd.f36, h, hw, hw2])
  · rw [if_neg h] at hQ
    repeat' first
      | refine jw_seq_k fun K hK => ?_
      | refine jw_block ?_
      | ((first | refine jw_skip ?_ | refine jw_exit ?_); try simp)
      | (refine jw_cond rfl (fun hc => ?_) (fun hc => ?_) <;> (try simp at hc) <;> (try (exfalso; first | omega | exact absurd hc (by assumption))))
      | ((first | refine jw_c ?_ | refine jw_draw_j mixed (by kernel_rfl) ?_); simp (maxSteps := 1000000) [Tryd.f36, h])
      | (first | (apply hK; clear hK) | (clear hK; apply hK; clear hK) | (clear hK; clear hK; apply hK; clear hK) | (clear hK; clear hK; clear hK; apply hK; clear hK))
      | ((first | refine jw_ret (hQ _ _ (.inr rfl) (ret_ok 0 ?_ (by first | omega | simp))) | refine hQ _ _ (.inl rfl) (ret_ok 0 ?_ (by first | omega | simp))); simp (maxSteps := 1000000) [okRet, BelL, Bel, BelS, BelOb, Tryd.f36, h])
      | ((first | refine jd_newc rfl rfl (by simp) ?_ | refine okN_or ?_); simp (maxSteps := 1000000) [thD, thL, Tryd.f36, h])
      | ((first | refine okC_guard (fun hc => ?_) (fun hc => ?_) | refine okJ_guard (fun hc => ?_) (fun hc => ?_)) <;> (first | have hd := of_decide_eq_true hc | have hd := of_decide_eq_false hc | have hd := hc) <;> simp (maxSteps := 1000000) [hc, hd, Tryd.f36, h] <;> (try simp at hc) <;> (try (exfalso; first | omega | exact absurd hc (by assumption))))
      | (refine And.intro (by first | assumption | omega | (simp [BelL, Bel]; done) | (simp; omega)) ?_; try simp (maxSteps := 1000000) [Tryd.f36, h])
      | (refine okC_or ?_; simp (maxSteps := 1000000) [Tryd.f36, h])
theorem stepW {G : Globals} {ts : List Int} (hts : ∀ t ∈ ts, t = 1 ∨ t = 2 ∨ t = 3) (htl : ts.length ≤ 1000) {n : Nat} {S : Nat → List Ex} (hS : Inv ts n S) (hn : n ≤ 800) (w : Tw) (hw : TwOk w) :
    FC Tryd.prog G 22 [.ptr 0 4 0, .agg (twC w), numsD .i64 ts] [some (.c (stkC S))] (fun d σ' => d = .tup [] ∧ σ' = [some (.c (stkC (stepR ts S w)))]) := by
  obtain ⟨op, num, txt⟩ := w
  obtain ⟨n1, n2, n3⟩ := hw
  dsimp only at n1 n2 n3
  have p24 := pickedG (G := G) op 24 (by omega) (by omega)
  have p7 := pickedG (G := G) num 7 (by omega) (by omega)
  have p2 := pickedG (G := G) num 2 (by omega) (by omega)
  have p3 := pickedG (G := G) num 3 (by omega) (by omega)
  have p6 := pickedG (G := G) num 6 (by omega) (by omega)
  have m3 := Int.emod_nonneg num (show (3 : Int) ≠ 0 by omega)
  have m3' := Int.emod_lt_of_pos num (show (0 : Int) < 3 by omega)
  have m6 := Int.emod_nonneg num (show (6 : Int) ≠ 0 by omega)
  have m6' := Int.emod_lt_of_pos num (show (0 : Int) < 6 by omega)
  have k0 : 0 ≤ op % 24 := by omega
  have k24 : op % 24 < 24 := by omega
  unfold stepR
  dsimp only
  generalize op % 24 = k at *
  unfold stepK
  dsimp only
  have w3 := wrap_i64 (n := 1 + num % 3) (by omega) (by omega)
  have w6 := wrap_i64 (n := 13 + num % 6) (by omega) (by omega)
  have c3 : 1 + num % 3 = ((1 + num % 3).toNat : Int) := by omega
  have d3 : (1 + num % 3).toNat = 1 ∨ (1 + num % 3).toNat = 2 ∨ (1 + num % 3).toNat = 3 := by omega
  have hl := fun t => hS.len t
  refine fc_enter_v Tryd.func22 rfl rfl fun Q hQ => ?_
  unfold twC numsD at *
  repeat' first
    | refine jw_ret (hQ _ _ (.inr rfl) ⟨5, _, _, rfl, rfl, ?_⟩)
    | refine jw_ret (hQ _ _ (.inr rfl) ⟨_, rfl, ?_⟩)
    | refine jw_seq_k fun K hK => ?_
    | refine jw_block ?_
    | ((first | refine jw_skip ?_ | refine jw_exit ?_); try simp)
    | (refine jw_cond rfl (fun hc => ?_) (fun hc => ?_) <;> (try simp at hc) <;> (try (exfalso; first | omega | exact absurd hc (by assumption))))
    | ((fail_if_success (refine jw_c (id := 1) ?_)); (refine jw_c ?_; simp (maxSteps := 1000000) [Tryd.f22]))
    | ((fail_if_success (refine jw_draw_j (id := 1) mixed (by kernel_rfl) ?_)); (refine jw_draw_j mixed (by kernel_rfl) ?_; simp (maxSteps := 1000000) [Tryd.f22]))
    | (first | (apply hK; clear hK) | (clear hK; apply hK; clear hK) | (clear hK; clear hK; apply hK; clear hK) | (clear hK; clear hK; clear hK; apply hK; clear hK))
    | exact hQ _ _ (.inl rfl) ⟨5, _, _, rfl, rfl, rfl⟩
    | refine hQ _ _ (.inl rfl) ⟨5, _, _, rfl, rfl, ?_⟩
    | refine hQ _ _ (.inl rfl) ⟨_, rfl, ?_⟩
    | ((first | refine jd_newc rfl rfl (by simp) ?_ | refine okN_or ?_); simp (maxSteps := 1000000) [thD, thL, Tryd.f22])
    | ((first | refine okC_guard (fun hc => ?_) (fun hc => ?_) | refine okJ_guard (fun hc => ?_) (fun hc => ?_)) <;> (first | have hd := of_decide_eq_true hc | have hd := of_decide_eq_false hc | have hd := hc) <;> simp (maxSteps := 1000000) [hc, hd, Tryd.f22] <;> (try simp at hc) <;> (try (exfalso; first | omega | exact absurd hc (by assumption))))
    | (refine And.intro (by first | assumption | omega | (simp [BelL, Bel]; done) | (simp; omega)) ?_; try simp (maxSteps := 1000000) [Tryd.f22])
    | (refine okC_or ?_; simp (maxSteps := 1000000) [Tryd.f22])
  (refine jw_view (view_frz 1 _ rfl (by simp [BelL, Bel, thL_flat])) ?_; simp (maxSteps := 1000000) [thL, thD, thS, thOb, thL_flat])
  by_cases h0 : k = 0
  · rw [if_pos h0] at hQ
    have hN := natF (G := G) num n1 n2
    have hC := constF (G := G) ⟨2, natR num, []⟩
    have hU := pushF (G := G) S (t := 2) (ti := 2) rfl (by omega) (by have := hl 2; omega) (.con ⟨2, natR num, []⟩)
    unfold pushR at hQ
    unfold vlD vlC exD exC at *
    rw [show bytesS [] = ⟨#[]⟩ from rfl] at *
    repeat' first
      | refine jw_seq_k fun K hK => ?_
      | refine jw_block ?_
      | ((first | refine jw_skip ?_ | refine jw_exit ?_); try simp)
      | (refine jw_cond rfl (fun hc => ?_) (fun hc => ?_) <;> (try simp at hc) <;> (try (exfalso; first | omega | exact absurd hc (by assumption))))
      | ((first | refine jw_c ?_ | refine jw_draw_j mixed (by kernel_rfl) ?_ | (refine jl_call (f := 8) rfl rfl rfl rfl rfl (p24) (by simp [BelL, Bel]) ?_; rintro r rfl) | refine jd_call (f := 8) rfl rfl rfl rfl rfl (p24) (by simp [BelL, Bel]) ?_ | (refine jl_call (f := 36) rfl rfl rfl rfl rfl (hN) (by simp [BelL, Bel]) ?_; rintro r rfl) | refine jd_call (f := 36) rfl rfl rfl rfl rfl (hN) (by simp [BelL, Bel]) ?_ | (refine jl_call (f := 9) rfl rfl rfl rfl rfl (hC) (by simp [BelL, Bel]) ?_; rintro r rfl) | refine jd_call (f := 9) rfl rfl rfl rfl rfl (hC) (by simp [BelL, Bel]) ?_); simp (maxSteps := 1000000) [h0])
      | (first | (apply hK; clear hK) | (clear hK; apply hK; clear hK) | (clear hK; clear hK; apply hK; clear hK) | (clear hK; clear hK; clear hK; apply hK; clear hK))
      | (refine jl_fr (f := 35) 0 rfl rfl rfl rfl rfl (hU) (by simp [renL, renD, renD_flat, renL_flat, h0]) rfl (by simp [BelL, Bel]) (by simp [BelOb, BelL, Bel]) ?_; rintro d0 x g ⟨rfl, hg⟩; obtain ⟨rfl, rfl⟩ := List.cons.inj hg; simp (maxSteps := 1000000) [renOb, renL, renD, renD_flat, renL_flat, h0])
      | ((first | refine jw_ret (hQ _ _ (.inr rfl) (ret_ok 1 ?_ (by first | omega | simp))) | refine hQ _ _ (.inl rfl) (ret_ok 1 ?_ (by first | omega | simp))); simp (maxSteps := 1000000) [okRet, BelL, Bel, BelS, BelOb, h0])
      | ((first | refine jd_newc rfl rfl (by simp) ?_ | refine okN_or ?_); simp (maxSteps := 1000000) [thD, thL, h0])
      | ((first | refine okC_guard (fun hc => ?_) (fun hc => ?_) | refine okJ_guard (fun hc => ?_) (fun hc => ?_)) <;> (first | have hd := of_decide_eq_true hc | have hd := of_decide_eq_false hc | have hd := hc) <;> simp (maxSteps := 1000000) [hc, hd, h0] <;> (try simp at hc) <;> (try (exfalso; first | omega | exact absurd hc (by assumption))))
      | (refine And.intro (by first | assumption | omega | (simp [BelL, Bel]; done) | (simp; omega)) ?_; try simp (maxSteps := 1000000) [h0])
      | (refine okC_or ?_; simp (maxSteps := 1000000) [h0])
  rw [if_neg h0] at hQ
  by_cases h1 : k = 1
  · rw [if_pos h1] at hQ
    have hC := constF (G := G) ⟨2, num % 7, []⟩
    have hU := pushF (G := G) S (t := 2) (ti := 2) rfl (by omega) (by have := hl 2; omega) (.con ⟨2, num % 7, []⟩)
    unfold pushR at hQ
    unfold vlD vlC exD exC at *
    try rw [show bytesS [] = ⟨#[]⟩ from rfl] at *
    repeat' first
      | refine jw_seq_k fun K hK => ?_
      | refine jw_block ?_
      | ((first | refine jw_skip ?_ | refine jw_exit ?_); try simp)
      | (refine jw_cond rfl (fun hc => ?_) (fun hc => ?_) <;> (try simp at hc) <;> (try (exfalso; first | omega | exact absurd hc (by assumption))))
      | ((first | refine jw_c ?_ | refine jw_draw_j mixed (by kernel_rfl) ?_ | (refine jl_call (f := 8) rfl rfl rfl rfl rfl (p24) (by simp [BelL, Bel]) ?_; rintro r rfl) | refine jd_call (f := 8) rfl rfl rfl rfl rfl (p24) (by simp [BelL, Bel]) ?_ | (refine jl_call (f := 8) rfl rfl rfl rfl rfl (p7) (by simp [BelL, Bel]) ?_; rintro r rfl) | refine jd_call (f := 8) rfl rfl rfl rfl rfl (p7) (by simp [BelL, Bel]) ?_ | (refine jl_call (f := 9) rfl rfl rfl rfl rfl (hC) (by simp [BelL, Bel]) ?_; rintro r rfl) | refine jd_call (f := 9) rfl rfl rfl rfl rfl (hC) (by simp [BelL, Bel]) ?_); simp (maxSteps := 1000000) [h0, h1])
      | (first | (apply hK; clear hK) | (clear hK; apply hK; clear hK) | (clear hK; clear hK; apply hK; clear hK) | (clear hK; clear hK; clear hK; apply hK; clear hK))
      | (refine jl_fr (f := 35) 0 rfl rfl rfl rfl rfl (hU) (by simp [renL, renD, renD_flat, renL_flat, h0, h1]) rfl (by simp [BelL, Bel]) (by simp [BelOb, BelL, Bel]) ?_; rintro d0 x g ⟨rfl, hg⟩; obtain ⟨rfl, rfl⟩ := List.cons.inj hg; simp (maxSteps := 1000000) [renOb, renL, renD, renD_flat, renL_flat, h0, h1])
      | ((first | refine jw_ret (hQ _ _ (.inr rfl) (ret_ok 1 ?_ (by first | omega | simp))) | refine hQ _ _ (.inl rfl) (ret_ok 1 ?_ (by first | omega | simp))); simp (maxSteps := 1000000) [okRet, BelL, Bel, BelS, BelOb, h0, h1])
      | ((first | refine jd_newc rfl rfl (by simp) ?_ | refine okN_or ?_); simp (maxSteps := 1000000) [thD, thL, h0, h1])
      | ((first | refine okC_guard (fun hc => ?_) (fun hc => ?_) | refine okJ_guard (fun hc => ?_) (fun hc => ?_)) <;> (first | have hd := of_decide_eq_true hc | have hd := of_decide_eq_false hc | have hd := hc) <;> simp (maxSteps := 1000000) [hc, hd, h0, h1] <;> (try simp at hc) <;> (try (exfalso; first | omega | exact absurd hc (by assumption))))
      | (refine And.intro (by first | assumption | omega | (simp [BelL, Bel]; done) | (simp; omega)) ?_; try simp (maxSteps := 1000000) [h0, h1])
      | (refine okC_or ?_; simp (maxSteps := 1000000) [h0, h1])
  rw [if_neg h1] at hQ
  by_cases h2 : k = 2
  · rw [if_pos h2] at hQ
    have hK8 := cleanG (G := G) txt n3 8 (by omega)
    have hC := constF (G := G) ⟨3, 0, cleanR txt 8⟩
    have hU := pushF (G := G) S (t := 3) (ti := 3) rfl (by omega) (by have := hl 3; omega) (.con ⟨3, 0, cleanR txt 8⟩)
    unfold pushR at hQ
    unfold vlD vlC exD exC at *
    repeat' first
      | refine jw_seq_k fun K hK => ?_
      | refine jw_block ?_
      | ((first | refine jw_skip ?_ | refine jw_exit ?_); try simp)
      | (refine jw_cond rfl (fun hc => ?_) (fun hc => ?_) <;> (try simp at hc) <;> (try (exfalso; first | omega | exact absurd hc (by assumption))))
      | ((first | refine jw_c ?_ | refine jw_draw_j mixed (by kernel_rfl) ?_ | (refine jl_call (f := 8) rfl rfl rfl rfl rfl (p24) (by simp [BelL, Bel]) ?_; rintro r rfl) | refine jd_call (f := 8) rfl rfl rfl rfl rfl (p24) (by simp [BelL, Bel]) ?_ | (refine jl_call (f := 24) rfl rfl rfl rfl rfl (hK8) (by simp [BelL, Bel]) ?_; rintro r rfl) | refine jd_call (f := 24) rfl rfl rfl rfl rfl (hK8) (by simp [BelL, Bel]) ?_ | (refine jl_call (f := 9) rfl rfl rfl rfl rfl (hC) (by simp [BelL, Bel]) ?_; rintro r rfl) | refine jd_call (f := 9) rfl rfl rfl rfl rfl (hC) (by simp [BelL, Bel]) ?_); simp (maxSteps := 1000000) [h0, h1, h2])
      | (first | (apply hK; clear hK) | (clear hK; apply hK; clear hK) | (clear hK; clear hK; apply hK; clear hK) | (clear hK; clear hK; clear hK; apply hK; clear hK))
      | (refine jl_fr (f := 35) 0 rfl rfl rfl rfl rfl (hU) (by simp [renL, renD, renD_flat, renL_flat, h0, h1, h2]) rfl (by simp [BelL, Bel]) (by simp [BelOb, BelL, Bel]) ?_; rintro d0 x g ⟨rfl, hg⟩; obtain ⟨rfl, rfl⟩ := List.cons.inj hg; simp (maxSteps := 1000000) [renOb, renL, renD, renD_flat, renL_flat, h0, h1, h2])
      | ((first | refine jw_ret (hQ _ _ (.inr rfl) (ret_ok 1 ?_ (by first | omega | simp))) | refine hQ _ _ (.inl rfl) (ret_ok 1 ?_ (by first | omega | simp))); simp (maxSteps := 1000000) [okRet, BelL, Bel, BelS, BelOb, h0, h1, h2])
      | ((first | refine jd_newc rfl rfl (by simp) ?_ | refine okN_or ?_); simp (maxSteps := 1000000) [thD, thL, h0, h1, h2])
      | ((first | refine okC_guard (fun hc => ?_) (fun hc => ?_) | refine okJ_guard (fun hc => ?_) (fun hc => ?_)) <;> (first | have hd := of_decide_eq_true hc | have hd := of_decide_eq_false hc | have hd := hc) <;> simp (maxSteps := 1000000) [hc, hd, h0, h1, h2] <;> (try simp at hc) <;> (try (exfalso; first | omega | exact absurd hc (by assumption))))
      | (refine And.intro (by first | assumption | omega | (simp [BelL, Bel]; done) | (simp; omega)) ?_; try simp (maxSteps := 1000000) [h0, h1, h2])
      | (refine okC_or ?_; simp (maxSteps := 1000000) [h0, h1, h2])
  rw [if_neg h2] at hQ
  by_cases h3 : k = 3
  · rw [if_pos h3] at hQ
    have hC := constF (G := G) ⟨1, num % 2, []⟩
    have hU := pushF (G := G) S (t := 1) (ti := 1) rfl (by omega) (by have := hl 1; omega) (.con ⟨1, num % 2, []⟩)
    unfold pushR at hQ
    unfold vlD vlC exD exC at *
    try rw [show bytesS [] = ⟨#[]⟩ from rfl] at *
    repeat' first
      | refine jw_seq_k fun K hK => ?_
      | refine jw_block ?_
      | ((first | refine jw_skip ?_ | refine jw_exit ?_); try simp)
      | (refine jw_cond rfl (fun hc => ?_) (fun hc => ?_) <;> (try simp at hc) <;> (try (exfalso; first | omega | exact absurd hc (by assumption))))
      | ((first | refine jw_c ?_ | refine jw_draw_j mixed (by kernel_rfl) ?_ | (refine jl_call (f := 8) rfl rfl rfl rfl rfl (p24) (by simp [BelL, Bel]) ?_; rintro r rfl) | refine jd_call (f := 8) rfl rfl rfl rfl rfl (p24) (by simp [BelL, Bel]) ?_ | (refine jl_call (f := 8) rfl rfl rfl rfl rfl (p2) (by simp [BelL, Bel]) ?_; rintro r rfl) | refine jd_call (f := 8) rfl rfl rfl rfl rfl (p2) (by simp [BelL, Bel]) ?_ | (refine jl_call (f := 9) rfl rfl rfl rfl rfl (hC) (by simp [BelL, Bel]) ?_; rintro r rfl) | refine jd_call (f := 9) rfl rfl rfl rfl rfl (hC) (by simp [BelL, Bel]) ?_); simp (maxSteps := 1000000) [h0, h1, h2, h3])
      | (first | (apply hK; clear hK) | (clear hK; apply hK; clear hK) | (clear hK; clear hK; apply hK; clear hK) | (clear hK; clear hK; clear hK; apply hK; clear hK))
      | (refine jl_fr (f := 35) 0 rfl rfl rfl rfl rfl (hU) (by simp [renL, renD, renD_flat, renL_flat, h0, h1, h2, h3]) rfl (by simp [BelL, Bel]) (by simp [BelOb, BelL, Bel]) ?_; rintro d0 x g ⟨rfl, hg⟩; obtain ⟨rfl, rfl⟩ := List.cons.inj hg; simp (maxSteps := 1000000) [renOb, renL, renD, renD_flat, renL_flat, h0, h1, h2, h3])
      | ((first | refine jw_ret (hQ _ _ (.inr rfl) (ret_ok 1 ?_ (by first | omega | simp))) | refine hQ _ _ (.inl rfl) (ret_ok 1 ?_ (by first | omega | simp))); simp (maxSteps := 1000000) [okRet, BelL, Bel, BelS, BelOb, h0, h1, h2, h3])
      | ((first | refine jd_newc rfl rfl (by simp) ?_ | refine okN_or ?_); simp (maxSteps := 1000000) [thD, thL, h0, h1, h2, h3])
      | ((first | refine okC_guard (fun hc => ?_) (fun hc => ?_) | refine okJ_guard (fun hc => ?_) (fun hc => ?_)) <;> (first | have hd := of_decide_eq_true hc | have hd := of_decide_eq_false hc | have hd := hc) <;> simp (maxSteps := 1000000) [hc, hd, h0, h1, h2, h3] <;> (try simp at hc) <;> (try (exfalso; first | omega | exact absurd hc (by assumption))))
      | (refine And.intro (by first | assumption | omega | (simp [BelL, Bel]; done) | (simp; omega)) ?_; try simp (maxSteps := 1000000) [h0, h1, h2, h3])
      | (refine okC_or ?_; simp (maxSteps := 1000000) [h0, h1, h2, h3])
  rw [if_neg h3] at hQ
  by_cases h4 : k = 4
  · rw [if_pos h4] at hQ
    have hC := constF (G := G) vl0
    have hU := pushF (G := G) S (t := (1 + num % 3).toNat) (ti := 1 + num % 3) c3 d3 (by have := hl (1 + num % 3).toNat; omega) (.con vl0)
    unfold pushR at hQ
    unfold vlD vlC exD exC vl0 at *
    try rw [show bytesS [] = ⟨#[]⟩ from rfl] at *
    repeat' first
      | refine jw_seq_k fun K hK => ?_
      | refine jw_block ?_
      | ((first | refine jw_skip ?_ | refine jw_exit ?_); try simp)
      | (refine jw_cond rfl (fun hc => ?_) (fun hc => ?_) <;> (try simp at hc) <;> (try (exfalso; first | omega | exact absurd hc (by assumption))))
      | ((first | refine jw_c ?_ | refine jw_draw_j mixed (by kernel_rfl) ?_ | (refine jl_call (f := 8) rfl rfl rfl rfl rfl (p24) (by simp [BelL, Bel]) ?_; rintro r rfl) | refine jd_call (f := 8) rfl rfl rfl rfl rfl (p24) (by simp [BelL, Bel]) ?_ | (refine jl_call (f := 8) rfl rfl rfl rfl rfl (p3) (by simp [BelL, Bel]) ?_; rintro r rfl) | refine jd_call (f := 8) rfl rfl rfl rfl rfl (p3) (by simp [BelL, Bel]) ?_ | (refine jl_call (f := 9) rfl rfl rfl rfl rfl (hC) (by simp [BelL, Bel]) ?_; rintro r rfl) | refine jd_call (f := 9) rfl rfl rfl rfl rfl (hC) (by simp [BelL, Bel]) ?_); simp (maxSteps := 1000000) [h0, h1, h2, h3, h4, w3])
      | (first | (apply hK; clear hK) | (clear hK; apply hK; clear hK) | (clear hK; clear hK; apply hK; clear hK) | (clear hK; clear hK; clear hK; apply hK; clear hK))
      | (refine jl_fr (f := 35) 0 rfl rfl rfl rfl rfl (hU) (by simp [renL, renD, renD_flat, renL_flat, h0, h1, h2, h3, h4, w3]) rfl (by simp [BelL, Bel]) (by simp [BelOb, BelL, Bel]) ?_; rintro d0 x g ⟨rfl, hg⟩; obtain ⟨rfl, rfl⟩ := List.cons.inj hg; simp (maxSteps := 1000000) [renOb, renL, renD, renD_flat, renL_flat, h0, h1, h2, h3, h4, w3])
      | ((first | refine jw_ret (hQ _ _ (.inr rfl) (ret_ok 1 ?_ (by first | omega | simp))) | refine hQ _ _ (.inl rfl) (ret_ok 1 ?_ (by first | omega | simp))); simp (maxSteps := 1000000) [okRet, BelL, Bel, BelS, BelOb, h0, h1, h2, h3, h4, w3])
      | ((first | refine jd_newc rfl rfl (by simp) ?_ | refine okN_or ?_); simp (maxSteps := 1000000) [thD, thL, h0, h1, h2, h3, h4, w3])
      | ((first | refine okC_guard (fun hc => ?_) (fun hc => ?_) | refine okJ_guard (fun hc => ?_) (fun hc => ?_)) <;> (first | have hd := of_decide_eq_true hc | have hd := of_decide_eq_false hc | have hd := hc) <;> simp (maxSteps := 1000000) [hc, hd, h0, h1, h2, h3, h4, w3] <;> (try simp at hc) <;> (try (exfalso; first | omega | exact absurd hc (by assumption))))
      | (refine And.intro (by first | assumption | omega | (simp [BelL, Bel]; done) | (simp; omega)) ?_; try simp (maxSteps := 1000000) [h0, h1, h2, h3, h4, w3])
      | (refine okC_or ?_; simp (maxSteps := 1000000) [h0, h1, h2, h3, h4, w3])
  rw [if_neg h4] at hQ
  by_cases h9 : k ≤ 9
  · rw [if_pos h9] at hQ
    by_cases hne : ts = []
    · subst hne
      rw [if_pos rfl] at hQ
      repeat' first
        | refine jw_seq_k fun K hK => ?_
        | refine jw_block ?_
        | ((first | refine jw_skip ?_ | refine jw_exit ?_); try simp)
        | (refine jw_cond rfl (fun hc => ?_) (fun hc => ?_) <;> (try simp at hc) <;> (try (exfalso; first | omega | exact absurd hc (by assumption))))
        | ((first | refine jw_c ?_ | refine jw_draw_j mixed (by kernel_rfl) ?_ | (refine jl_call (f := 8) rfl rfl rfl rfl rfl (p24) (by simp [BelL, Bel]) ?_; rintro r rfl) | refine jd_call (f := 8) rfl rfl rfl rfl rfl (p24) (by simp [BelL, Bel]) ?_); simp (maxSteps := 1000000) [h0, h1, h2, h3, h4, h9])
        | (first | (apply hK; clear hK) | (clear hK; apply hK; clear hK) | (clear hK; clear hK; apply hK; clear hK) | (clear hK; clear hK; clear hK; apply hK; clear hK))
        | ((first | refine jw_ret (hQ _ _ (.inr rfl) (ret_ok 1 ?_ (by first | omega | simp))) | refine hQ _ _ (.inl rfl) (ret_ok 1 ?_ (by first | omega | simp))); simp (maxSteps := 1000000) [okRet, BelL, Bel, BelS, BelOb, h0, h1, h2, h3, h4, h9])
        | ((first | refine jd_newc rfl rfl (by simp) ?_ | refine okN_or ?_); simp (maxSteps := 1000000) [thD, thL, h0, h1, h2, h3, h4, h9])
        | ((first | refine okC_guard (fun hc => ?_) (fun hc => ?_) | refine okJ_guard (fun hc => ?_) (fun hc => ?_)) <;> (first | have hd := of_decide_eq_true hc | have hd := of_decide_eq_false hc | have hd := hc) <;> simp (maxSteps := 1000000) [hc, hd, h0, h1, h2, h3, h4, h9] <;> (try simp at hc) <;> (try (exfalso; first | omega | exact absurd hc (by assumption))))
        | (refine And.intro (by first | assumption | omega | (simp [BelL, Bel]; done) | (simp; omega)) ?_; try simp (maxSteps := 1000000) [h0, h1, h2, h3, h4, h9])
        | (refine okC_or ?_; simp (maxSteps := 1000000) [h0, h1, h2, h3, h4, h9])
    · rw [if_neg hne] at hQ
      have hpos : 0 < ts.length := List.length_pos_iff.2 hne
      have q0 := Int.emod_nonneg num (show (ts.length : Int) ≠ 0 by omega)
      have q1 := Int.emod_lt_of_pos num (show (0 : Int) < ts.length by omega)
      have pT := pickedG (G := G) num ts.length (by omega) (by omega)
      obtain ⟨pn, hp⟩ : ∃ pn : Nat, num % ts.length = pn := ⟨(num % ts.length).toNat, by omega⟩
      rw [hp] at hQ pT q1
      rw [Int.toNat_natCast] at hQ
      have hpl : pn < ts.length := by omega
      have hgD : ts.getD pn 0 = ts[pn] := by rw [List.getD_eq_getElem?_getD, List.getElem?_eq_getElem hpl]; rfl
      rw [hgD] at hQ
      have hti := hts _ (List.getElem_mem hpl)
      have htg : (ts.map (D.int .i64))[pn]? = some (.int .i64 ts[pn]) := by rw [List.getElem?_map, List.getElem?_eq_getElem hpl]; rfl
      have htg2 := fun h => get_of htg h
      obtain ⟨t, htt⟩ : ∃ t, ts[pn] = t := ⟨_, rfl⟩
      rw [htt] at hti htg hQ
      simp only [htt] at htg2
      have hU := pushF (G := G) S (t := t.toNat) (ti := t) (by omega) (by omega) (by have := hl t.toNat; omega) (.plc pn)
      unfold pushR at hQ
      unfold exD exC at hU
      repeat' first
        | refine jw_seq_k fun K hK => ?_
        | refine jw_block ?_
        | ((first | refine jw_skip ?_ | refine jw_exit ?_); try simp)
        | (refine jw_cond rfl (fun hc => ?_) (fun hc => ?_) <;> (try simp at hc) <;> (try (exfalso; first | omega | exact absurd hc (by assumption))))
        | ((first | refine jw_c ?_ | refine jw_draw_j mixed (by kernel_rfl) ?_ | (refine jl_call (f := 8) rfl rfl rfl rfl rfl (p24) (by simp [BelL, Bel]) ?_; rintro r rfl) | refine jd_call (f := 8) rfl rfl rfl rfl rfl (p24) (by simp [BelL, Bel]) ?_ | (refine jl_call (f := 8) rfl rfl rfl rfl rfl (pT) (by simp [BelL, Bel]) ?_; rintro r rfl) | refine jd_call (f := 8) rfl rfl rfl rfl rfl (pT) (by simp [BelL, Bel]) ?_); simp (maxSteps := 1000000) [h0, h1, h2, h3, h4, h9, htg, htg2, hpos, hpl, show (0 : Int) < ts.length by omega, show (pn : Int) < ts.length by omega])
        | (first | (apply hK; clear hK) | (clear hK; apply hK; clear hK) | (clear hK; clear hK; apply hK; clear hK) | (clear hK; clear hK; clear hK; apply hK; clear hK))
        | (refine jl_fr (f := 35) 0 rfl rfl rfl rfl rfl (hU) (by simp [renL, renD, renD_flat, renL_flat, h0, h1, h2, h3, h4, h9, htg, htg2, hpos, hpl, show (0 : Int) < ts.length by omega, show (pn : Int) < ts.length by omega]) rfl (by simp [BelL, Bel]) (by simp [BelOb, BelL, Bel]) ?_; rintro d0 x g ⟨rfl, hg⟩; obtain ⟨rfl, rfl⟩ := List.cons.inj hg; simp (maxSteps := 1000000) [renOb, renL, renD, renD_flat, renL_flat, h0, h1, h2, h3, h4, h9, htg, htg2, hpos, hpl, show (0 : Int) < ts.length by omega, show (pn : Int) < ts.length by omega])
        | ((first | refine jw_ret (hQ _ _ (.inr rfl) (ret_ok 1 ?_ (by first | omega | simp))) | refine hQ _ _ (.inl rfl) (ret_ok 1 ?_ (by first | omega | simp))); simp (maxSteps := 1000000) [okRet, BelL, Bel, BelS, BelOb, h0, h1, h2, h3, h4, h9, htg, htg2, hpos, hpl, show (0 : Int) < ts.length by omega, show (pn : Int) < ts.length by omega])
        | ((first | refine jd_newc rfl rfl (by simp) ?_ | refine okN_or ?_); simp (maxSteps := 1000000) [thD, thL, h0, h1, h2, h3, h4, h9, htg, htg2, hpos, hpl, show (0 : Int) < ts.length by omega, show (pn : Int) < ts.length by omega])
        | ((first | refine okC_guard (fun hc => ?_) (fun hc => ?_) | refine okJ_guard (fun hc => ?_) (fun hc => ?_)) <;> (first | have hd := of_decide_eq_true hc | have hd := of_decide_eq_false hc | have hd := hc) <;> simp (maxSteps := 1000000) [hc, hd, h0, h1, h2, h3, h4, h9, htg, htg2, hpos, hpl, show (0 : Int) < ts.length by omega, show (pn : Int) < ts.length by omega] <;> (try simp at hc) <;> (try (exfalso; first | omega | exact absurd hc (by assumption))))
        | (refine And.intro (by first | assumption | omega | (simp [BelL, Bel]; done) | (simp; omega)) ?_; try simp (maxSteps := 1000000) [h0, h1, h2, h3, h4, h9, htg, htg2, hpos, hpl, show (0 : Int) < ts.length by omega, show (pn : Int) < ts.length by omega])
        | (refine okC_or ?_; simp (maxSteps := 1000000) [h0, h1, h2, h3, h4, h9, htg, htg2, hpos, hpl, show (0 : Int) < ts.length by omega, show (pn : Int) < ts.length by omega])
  rw [if_neg h9] at hQ
  by_cases h10 : k = 10
  · rw [if_pos h10] at hQ
    have hM := make1W (G := G) hS (by omega) (out := 2) (inn := 2) (oi := 2) (ii := 2) rfl rfl (by omega) (by omega) 4
    repeat' first
      | refine jw_seq_k fun K hK => ?_
      | refine jw_block ?_
      | ((first | refine jw_skip ?_ | refine jw_exit ?_); try simp)
      | (refine jw_cond rfl (fun hc => ?_) (fun hc => ?_) <;> (try simp at hc) <;> (try (exfalso; first | omega | exact absurd hc (by assumption))))
      | ((first | refine jw_c ?_ | refine jw_draw_j mixed (by kernel_rfl) ?_ | (refine jl_call (f := 8) rfl rfl rfl rfl rfl (p24) (by simp [BelL, Bel]) ?_; rintro r rfl) | refine jd_call (f := 8) rfl rfl rfl rfl rfl (p24) (by simp [BelL, Bel]) ?_); simp (maxSteps := 1000000) [h0, h1, h2, h3, h4, h9, h10])
      | (first | (apply hK; clear hK) | (clear hK; apply hK; clear hK) | (clear hK; clear hK; apply hK; clear hK) | (clear hK; clear hK; clear hK; apply hK; clear hK))
      | (refine jl_fr (f := 37) 0 rfl rfl rfl rfl rfl (hM) (by simp [renL, renD, renD_flat, renL_flat, h0, h1, h2, h3, h4, h9, h10]) rfl (by simp [BelL, Bel]) (by simp [BelOb, BelL, Bel]) ?_; rintro d0 x g ⟨rfl, hg⟩; obtain ⟨rfl, rfl⟩ := List.cons.inj hg; simp (maxSteps := 1000000) [renOb, renL, renD, renD_flat, renL_flat, h0, h1, h2, h3, h4, h9, h10])
      | ((first | refine jw_ret (hQ _ _ (.inr rfl) (ret_ok 1 ?_ (by first | omega | simp))) | refine hQ _ _ (.inl rfl) (ret_ok 1 ?_ (by first | omega | simp))); simp (maxSteps := 1000000) [okRet, BelL, Bel, BelS, BelOb, h0, h1, h2, h3, h4, h9, h10])
      | ((first | refine jd_newc rfl rfl (by simp) ?_ | refine okN_or ?_); simp (maxSteps := 1000000) [thD, thL, h0, h1, h2, h3, h4, h9, h10])
      | ((first | refine okC_guard (fun hc => ?_) (fun hc => ?_) | refine okJ_guard (fun hc => ?_) (fun hc => ?_)) <;> (first | have hd := of_decide_eq_true hc | have hd := of_decide_eq_false hc | have hd := hc) <;> simp (maxSteps := 1000000) [hc, hd, h0, h1, h2, h3, h4, h9, h10] <;> (try simp at hc) <;> (try (exfalso; first | omega | exact absurd hc (by assumption))))
      | (refine And.intro (by first | assumption | omega | (simp [BelL, Bel]; done) | (simp; omega)) ?_; try simp (maxSteps := 1000000) [h0, h1, h2, h3, h4, h9, h10])
      | (refine okC_or ?_; simp (maxSteps := 1000000) [h0, h1, h2, h3, h4, h9, h10])
  rw [if_neg h10] at hQ
  by_cases h15 : k ≤ 15
  · rw [if_pos h15] at hQ
    have hM := make2W (G := G) hS (by omega) (out := 2) (inn := 2) (oi := 2) (ii := 2) rfl rfl (by omega) (by omega) (8 + k - 11)
    have u1 := wrap_i64 (n := 8 + k) (by omega) (by omega)
    have u2 := wrap_i64 (n := 8 + k - 11) (by omega) (by omega)
    repeat' first
      | refine jw_seq_k fun K hK => ?_
      | refine jw_block ?_
      | ((first | refine jw_skip ?_ | refine jw_exit ?_); try simp)
      | (refine jw_cond rfl (fun hc => ?_) (fun hc => ?_) <;> (try simp at hc) <;> (try (exfalso; first | omega | exact absurd hc (by assumption))))
      | ((first | refine jw_c ?_ | refine jw_draw_j mixed (by kernel_rfl) ?_ | (refine jl_call (f := 8) rfl rfl rfl rfl rfl (p24) (by simp [BelL, Bel]) ?_; rintro r rfl) | refine jd_call (f := 8) rfl rfl rfl rfl rfl (p24) (by simp [BelL, Bel]) ?_); simp (maxSteps := 1000000) [h0, h1, h2, h3, h4, h9, h10, h15, u1, u2])
      | (first | (apply hK; clear hK) | (clear hK; apply hK; clear hK) | (clear hK; clear hK; apply hK; clear hK) | (clear hK; clear hK; clear hK; apply hK; clear hK))
      | (refine jl_fr (f := 37) 0 rfl rfl rfl rfl rfl (hM) (by simp [renL, renD, renD_flat, renL_flat, h0, h1, h2, h3, h4, h9, h10, h15, u1, u2]) rfl (by simp [BelL, Bel]) (by simp [BelOb, BelL, Bel]) ?_; rintro d0 x g ⟨rfl, hg⟩; obtain ⟨rfl, rfl⟩ := List.cons.inj hg; simp (maxSteps := 1000000) [renOb, renL, renD, renD_flat, renL_flat, h0, h1, h2, h3, h4, h9, h10, h15, u1, u2])
      | ((first | refine jw_ret (hQ _ _ (.inr rfl) (ret_ok 1 ?_ (by first | omega | simp))) | refine hQ _ _ (.inl rfl) (ret_ok 1 ?_ (by first | omega | simp))); simp (maxSteps := 1000000) [okRet, BelL, Bel, BelS, BelOb, h0, h1, h2, h3, h4, h9, h10, h15, u1, u2])
      | ((first | refine jd_newc rfl rfl (by simp) ?_ | refine okN_or ?_); simp (maxSteps := 1000000) [thD, thL, h0, h1, h2, h3, h4, h9, h10, h15, u1, u2])
      | ((first | refine okC_guard (fun hc => ?_) (fun hc => ?_) | refine okJ_guard (fun hc => ?_) (fun hc => ?_)) <;> (first | have hd := of_decide_eq_true hc | have hd := of_decide_eq_false hc | have hd := hc) <;> simp (maxSteps := 1000000) [hc, hd, h0, h1, h2, h3, h4, h9, h10, h15, u1, u2] <;> (try simp at hc) <;> (try (exfalso; first | omega | exact absurd hc (by assumption))))
      | (refine And.intro (by first | assumption | omega | (simp [BelL, Bel]; done) | (simp; omega)) ?_; try simp (maxSteps := 1000000) [h0, h1, h2, h3, h4, h9, h10, h15, u1, u2])
      | (refine okC_or ?_; simp (maxSteps := 1000000) [h0, h1, h2, h3, h4, h9, h10, h15, u1, u2])
  rw [if_neg h15] at hQ
  by_cases h18 : k ≤ 18
  · rw [if_pos h18] at hQ
    have hM := make2W (G := G) hS (by omega) (out := 1) (inn := (1 + k - 16).toNat) (oi := 1) (ii := 1 + k - 16) rfl (by omega) (by omega) (by omega) (13 + num % 6)
    have u1 := wrap_i64 (n := 1 + k) (by omega) (by omega)
    have u2 := wrap_i64 (n := 1 + k - 16) (by omega) (by omega)
    repeat' first
      | refine jw_seq_k fun K hK => ?_
      | refine jw_block ?_
      | ((first | refine jw_skip ?_ | refine jw_exit ?_); try simp)
      | (refine jw_cond rfl (fun hc => ?_) (fun hc => ?_) <;> (try simp at hc) <;> (try (exfalso; first | omega | exact absurd hc (by assumption))))
      | ((first | refine jw_c ?_ | refine jw_draw_j mixed (by kernel_rfl) ?_ | (refine jl_call (f := 8) rfl rfl rfl rfl rfl (p24) (by simp [BelL, Bel]) ?_; rintro r rfl) | refine jd_call (f := 8) rfl rfl rfl rfl rfl (p24) (by simp [BelL, Bel]) ?_ | (refine jl_call (f := 8) rfl rfl rfl rfl rfl (p6) (by simp [BelL, Bel]) ?_; rintro r rfl) | refine jd_call (f := 8) rfl rfl rfl rfl rfl (p6) (by simp [BelL, Bel]) ?_); simp (maxSteps := 1000000) [h0, h1, h2, h3, h4, h9, h10, h15, h18, u1, u2, w6])
      | (first | (apply hK; clear hK) | (clear hK; apply hK; clear hK) | (clear hK; clear hK; apply hK; clear hK) | (clear hK; clear hK; clear hK; apply hK; clear hK))
      | (refine jl_fr (f := 37) 0 rfl rfl rfl rfl rfl (hM) (by simp [renL, renD, renD_flat, renL_flat, h0, h1, h2, h3, h4, h9, h10, h15, h18, u1, u2, w6]) rfl (by simp [BelL, Bel]) (by simp [BelOb, BelL, Bel]) ?_; rintro d0 x g ⟨rfl, hg⟩; obtain ⟨rfl, rfl⟩ := List.cons.inj hg; simp (maxSteps := 1000000) [renOb, renL, renD, renD_flat, renL_flat, h0, h1, h2, h3, h4, h9, h10, h15, h18, u1, u2, w6])
      | ((first | refine jw_ret (hQ _ _ (.inr rfl) (ret_ok 1 ?_ (by first | omega | simp))) | refine hQ _ _ (.inl rfl) (ret_ok 1 ?_ (by first | omega | simp))); simp (maxSteps := 1000000) [okRet, BelL, Bel, BelS, BelOb, h0, h1, h2, h3, h4, h9, h10, h15, h18, u1, u2, w6])
      | ((first | refine jd_newc rfl rfl (by simp) ?_ | refine okN_or ?_); simp (maxSteps := 1000000) [thD, thL, h0, h1, h2, h3, h4, h9, h10, h15, h18, u1, u2, w6])
      | ((first | refine okC_guard (fun hc => ?_) (fun hc => ?_) | refine okJ_guard (fun hc => ?_) (fun hc => ?_)) <;> (first | have hd := of_decide_eq_true hc | have hd := of_decide_eq_false hc | have hd := hc) <;> simp (maxSteps := 1000000) [hc, hd, h0, h1, h2, h3, h4, h9, h10, h15, h18, u1, u2, w6] <;> (try simp at hc) <;> (try (exfalso; first | omega | exact absurd hc (by assumption))))
      | (refine And.intro (by first | assumption | omega | (simp [BelL, Bel]; done) | (simp; omega)) ?_; try simp (maxSteps := 1000000) [h0, h1, h2, h3, h4, h9, h10, h15, h18, u1, u2, w6])
      | (refine okC_or ?_; simp (maxSteps := 1000000) [h0, h1, h2, h3, h4, h9, h10, h15, h18, u1, u2, w6])
  rw [if_neg h18] at hQ
  by_cases h19 : k = 19
  · rw [if_pos h19] at hQ
    have hM := make2W (G := G) hS (by omega) (out := 1) (inn := 1) (oi := 1) (ii := 1) rfl rfl (by omega) (by omega) 19
    repeat' first
      | refine jw_seq_k fun K hK => ?_
      | refine jw_block ?_
      | ((first | refine jw_skip ?_ | refine jw_exit ?_); try simp)
      | (refine jw_cond rfl (fun hc => ?_) (fun hc => ?_) <;> (try simp at hc) <;> (try (exfalso; first | omega | exact absurd hc (by assumption))))
      | ((first | refine jw_c ?_ | refine jw_draw_j mixed (by kernel_rfl) ?_ | (refine jl_call (f := 8) rfl rfl rfl rfl rfl (p24) (by simp [BelL, Bel]) ?_; rintro r rfl) | refine jd_call (f := 8) rfl rfl rfl rfl rfl (p24) (by simp [BelL, Bel]) ?_); simp (maxSteps := 1000000) [h0, h1, h2, h3, h4, h9, h10, h15, h18, h19])
      | (first | (apply hK; clear hK) | (clear hK; apply hK; clear hK) | (clear hK; clear hK; apply hK; clear hK) | (clear hK; clear hK; clear hK; apply hK; clear hK))
      | (refine jl_fr (f := 37) 0 rfl rfl rfl rfl rfl (hM) (by simp [renL, renD, renD_flat, renL_flat, h0, h1, h2, h3, h4, h9, h10, h15, h18, h19]) rfl (by simp [BelL, Bel]) (by simp [BelOb, BelL, Bel]) ?_; rintro d0 x g ⟨rfl, hg⟩; obtain ⟨rfl, rfl⟩ := List.cons.inj hg; simp (maxSteps := 1000000) [renOb, renL, renD, renD_flat, renL_flat, h0, h1, h2, h3, h4, h9, h10, h15, h18, h19])
      | ((first | refine jw_ret (hQ _ _ (.inr rfl) (ret_ok 1 ?_ (by first | omega | simp))) | refine hQ _ _ (.inl rfl) (ret_ok 1 ?_ (by first | omega | simp))); simp (maxSteps := 1000000) [okRet, BelL, Bel, BelS, BelOb, h0, h1, h2, h3, h4, h9, h10, h15, h18, h19])
      | ((first | refine jd_newc rfl rfl (by simp) ?_ | refine okN_or ?_); simp (maxSteps := 1000000) [thD, thL, h0, h1, h2, h3, h4, h9, h10, h15, h18, h19])
      | ((first | refine okC_guard (fun hc => ?_) (fun hc => ?_) | refine okJ_guard (fun hc => ?_) (fun hc => ?_)) <;> (first | have hd := of_decide_eq_true hc | have hd := of_decide_eq_false hc | have hd := hc) <;> simp (maxSteps := 1000000) [hc, hd, h0, h1, h2, h3, h4, h9, h10, h15, h18, h19] <;> (try simp at hc) <;> (try (exfalso; first | omega | exact absurd hc (by assumption))))
      | (refine And.intro (by first | assumption | omega | (simp [BelL, Bel]; done) | (simp; omega)) ?_; try simp (maxSteps := 1000000) [h0, h1, h2, h3, h4, h9, h10, h15, h18, h19])
      | (refine okC_or ?_; simp (maxSteps := 1000000) [h0, h1, h2, h3, h4, h9, h10, h15, h18, h19])
  rw [if_neg h19] at hQ
  by_cases h20 : k = 20
  · rw [if_pos h20] at hQ
    have hM := make2W (G := G) hS (by omega) (out := 1) (inn := 1) (oi := 1) (ii := 1) rfl rfl (by omega) (by omega) 20
    repeat' first
      | refine jw_seq_k fun K hK => ?_
      | refine jw_block ?_
      | ((first | refine jw_skip ?_ | refine jw_exit ?_); try simp)
      | (refine jw_cond rfl (fun hc => ?_) (fun hc => ?_) <;> (try simp at hc) <;> (try (exfalso; first | omega | exact absurd hc (by assumption))))
      | ((first | refine jw_c ?_ | refine jw_draw_j mixed (by kernel_rfl) ?_ | (refine jl_call (f := 8) rfl rfl rfl rfl rfl (p24) (by simp [BelL, Bel]) ?_; rintro r rfl) | refine jd_call (f := 8) rfl rfl rfl rfl rfl (p24) (by simp [BelL, Bel]) ?_); simp (maxSteps := 1000000) [h0, h1, h2, h3, h4, h9, h10, h15, h18, h19, h20])
      | (first | (apply hK; clear hK) | (clear hK; apply hK; clear hK) | (clear hK; clear hK; apply hK; clear hK) | (clear hK; clear hK; clear hK; apply hK; clear hK))
      | (refine jl_fr (f := 37) 0 rfl rfl rfl rfl rfl (hM) (by simp [renL, renD, renD_flat, renL_flat, h0, h1, h2, h3, h4, h9, h10, h15, h18, h19, h20]) rfl (by simp [BelL, Bel]) (by simp [BelOb, BelL, Bel]) ?_; rintro d0 x g ⟨rfl, hg⟩; obtain ⟨rfl, rfl⟩ := List.cons.inj hg; simp (maxSteps := 1000000) [renOb, renL, renD, renD_flat, renL_flat, h0, h1, h2, h3, h4, h9, h10, h15, h18, h19, h20])
      | ((first | refine jw_ret (hQ _ _ (.inr rfl) (ret_ok 1 ?_ (by first | omega | simp))) | refine hQ _ _ (.inl rfl) (ret_ok 1 ?_ (by first | omega | simp))); simp (maxSteps := 1000000) [okRet, BelL, Bel, BelS, BelOb, h0, h1, h2, h3, h4, h9, h10, h15, h18, h19, h20])
      | ((first | refine jd_newc rfl rfl (by simp) ?_ | refine okN_or ?_); simp (maxSteps := 1000000) [thD, thL, h0, h1, h2, h3, h4, h9, h10, h15, h18, h19, h20])
      | ((first | refine okC_guard (fun hc => ?_) (fun hc => ?_) | refine okJ_guard (fun hc => ?_) (fun hc => ?_)) <;> (first | have hd := of_decide_eq_true hc | have hd := of_decide_eq_false hc | have hd := hc) <;> simp (maxSteps := 1000000) [hc, hd, h0, h1, h2, h3, h4, h9, h10, h15, h18, h19, h20] <;> (try simp at hc) <;> (try (exfalso; first | omega | exact absurd hc (by assumption))))
      | (refine And.intro (by first | assumption | omega | (simp [BelL, Bel]; done) | (simp; omega)) ?_; try simp (maxSteps := 1000000) [h0, h1, h2, h3, h4, h9, h10, h15, h18, h19, h20])
      | (refine okC_or ?_; simp (maxSteps := 1000000) [h0, h1, h2, h3, h4, h9, h10, h15, h18, h19, h20])
  rw [if_neg h20] at hQ
  by_cases h21 : k = 21
  · rw [if_pos h21] at hQ
    have hM := make1W (G := G) hS (by omega) (out := 1) (inn := 1) (oi := 1) (ii := 1) rfl rfl (by omega) (by omega) 5
    repeat' first
      | refine jw_seq_k fun K hK => ?_
      | refine jw_block ?_
      | ((first | refine jw_skip ?_ | refine jw_exit ?_); try simp)
      | (refine jw_cond rfl (fun hc => ?_) (fun hc => ?_) <;> (try simp at hc) <;> (try (exfalso; first | omega | exact absurd hc (by assumption))))
      | ((first | refine jw_c ?_ | refine jw_draw_j mixed (by kernel_rfl) ?_ | (refine jl_call (f := 8) rfl rfl rfl rfl rfl (p24) (by simp [BelL, Bel]) ?_; rintro r rfl) | refine jd_call (f := 8) rfl rfl rfl rfl rfl (p24) (by simp [BelL, Bel]) ?_); simp (maxSteps := 1000000) [h0, h1, h2, h3, h4, h9, h10, h15, h18, h19, h20, h21])
      | (first | (apply hK; clear hK) | (clear hK; apply hK; clear hK) | (clear hK; clear hK; apply hK; clear hK) | (clear hK; clear hK; clear hK; apply hK; clear hK))
      | (refine jl_fr (f := 37) 0 rfl rfl rfl rfl rfl (hM) (by simp [renL, renD, renD_flat, renL_flat, h0, h1, h2, h3, h4, h9, h10, h15, h18, h19, h20, h21]) rfl (by simp [BelL, Bel]) (by simp [BelOb, BelL, Bel]) ?_; rintro d0 x g ⟨rfl, hg⟩; obtain ⟨rfl, rfl⟩ := List.cons.inj hg; simp (maxSteps := 1000000) [renOb, renL, renD, renD_flat, renL_flat, h0, h1, h2, h3, h4, h9, h10, h15, h18, h19, h20, h21])
      | ((first | refine jw_ret (hQ _ _ (.inr rfl) (ret_ok 1 ?_ (by first | omega | simp))) | refine hQ _ _ (.inl rfl) (ret_ok 1 ?_ (by first | omega | simp))); simp (maxSteps := 1000000) [okRet, BelL, Bel, BelS, BelOb, h0, h1, h2, h3, h4, h9, h10, h15, h18, h19, h20, h21])
      | ((first | refine jd_newc rfl rfl (by simp) ?_ | refine okN_or ?_); simp (maxSteps := 1000000) [thD, thL, h0, h1, h2, h3, h4, h9, h10, h15, h18, h19, h20, h21])
      | ((first | refine okC_guard (fun hc => ?_) (fun hc => ?_) | refine okJ_guard (fun hc => ?_) (fun hc => ?_)) <;> (first | have hd := of_decide_eq_true hc | have hd := of_decide_eq_false hc | have hd := hc) <;> simp (maxSteps := 1000000) [hc, hd, h0, h1, h2, h3, h4, h9, h10, h15, h18, h19, h20, h21] <;> (try simp at hc) <;> (try (exfalso; first | omega | exact absurd hc (by assumption))))
      | (refine And.intro (by first | assumption | omega | (simp [BelL, Bel]; done) | (simp; omega)) ?_; try simp (maxSteps := 1000000) [h0, h1, h2, h3, h4, h9, h10, h15, h18, h19, h20, h21])
      | (refine okC_or ?_; simp (maxSteps := 1000000) [h0, h1, h2, h3, h4, h9, h10, h15, h18, h19, h20, h21])
  rw [if_neg h21] at hQ
  by_cases h22 : k = 22
  · rw [if_pos h22] at hQ
    have hM := make1W (G := G) hS (by omega) (out := 1) (inn := (1 + num % 3).toNat) (oi := 1) (ii := 1 + num % 3) rfl c3 (by omega) d3 6
    repeat' first
      | refine jw_seq_k fun K hK => ?_
      | refine jw_block ?_
      | ((first | refine jw_skip ?_ | refine jw_exit ?_); try simp)
      | (refine jw_cond rfl (fun hc => ?_) (fun hc => ?_) <;> (try simp at hc) <;> (try (exfalso; first | omega | exact absurd hc (by assumption))))
      | ((first | refine jw_c ?_ | refine jw_draw_j mixed (by kernel_rfl) ?_ | (refine jl_call (f := 8) rfl rfl rfl rfl rfl (p24) (by simp [BelL, Bel]) ?_; rintro r rfl) | refine jd_call (f := 8) rfl rfl rfl rfl rfl (p24) (by simp [BelL, Bel]) ?_ | (refine jl_call (f := 8) rfl rfl rfl rfl rfl (p3) (by simp [BelL, Bel]) ?_; rintro r rfl) | refine jd_call (f := 8) rfl rfl rfl rfl rfl (p3) (by simp [BelL, Bel]) ?_); simp (maxSteps := 1000000) [h0, h1, h2, h3, h4, h9, h10, h15, h18, h19, h20, h21, h22, w3])
      | (first | (apply hK; clear hK) | (clear hK; apply hK; clear hK) | (clear hK; clear hK; apply hK; clear hK) | (clear hK; clear hK; clear hK; apply hK; clear hK))
      | (refine jl_fr (f := 37) 0 rfl rfl rfl rfl rfl (hM) (by simp [renL, renD, renD_flat, renL_flat, h0, h1, h2, h3, h4, h9, h10, h15, h18, h19, h20, h21, h22, w3]) rfl (by simp [BelL, Bel]) (by simp [BelOb, BelL, Bel]) ?_; rintro d0 x g ⟨rfl, hg⟩; obtain ⟨rfl, rfl⟩ := List.cons.inj hg; simp (maxSteps := 1000000) [renOb, renL, renD, renD_flat, renL_flat, h0, h1, h2, h3, h4, h9, h10, h15, h18, h19, h20, h21, h22, w3])
      | ((first | refine jw_ret (hQ _ _ (.inr rfl) (ret_ok 1 ?_ (by first | omega | simp))) | refine hQ _ _ (.inl rfl) (ret_ok 1 ?_ (by first | omega | simp))); simp (maxSteps := 1000000) [okRet, BelL, Bel, BelS, BelOb, h0, h1, h2, h3, h4, h9, h10, h15, h18, h19, h20, h21, h22, w3])
      | ((first | refine jd_newc rfl rfl (by simp) ?_ | refine okN_or ?_); simp (maxSteps := 1000000) [thD, thL, h0, h1, h2, h3, h4, h9, h10, h15, h18, h19, h20, h21, h22, w3])
      | ((first | refine okC_guard (fun hc => ?_) (fun hc => ?_) | refine okJ_guard (fun hc => ?_) (fun hc => ?_)) <;> (first | have hd := of_decide_eq_true hc | have hd := of_decide_eq_false hc | have hd := hc) <;> simp (maxSteps := 1000000) [hc, hd, h0, h1, h2, h3, h4, h9, h10, h15, h18, h19, h20, h21, h22, w3] <;> (try simp at hc) <;> (try (exfalso; first | omega | exact absurd hc (by assumption))))
      | (refine And.intro (by first | assumption | omega | (simp [BelL, Bel]; done) | (simp; omega)) ?_; try simp (maxSteps := 1000000) [h0, h1, h2, h3, h4, h9, h10, h15, h18, h19, h20, h21, h22, w3])
      | (refine okC_or ?_; simp (maxSteps := 1000000) [h0, h1, h2, h3, h4, h9, h10, h15, h18, h19, h20, h21, h22, w3])
  · rw [if_neg h22] at hQ
    have hM := make1W (G := G) hS (by omega) (out := 1) (inn := (1 + num % 3).toNat) (oi := 1) (ii := 1 + num % 3) rfl c3 (by omega) d3 7
    repeat' first
      | refine jw_seq_k fun K hK => ?_
      | refine jw_block ?_
      | ((first | refine jw_skip ?_ | refine jw_exit ?_); try simp)
      | (refine jw_cond rfl (fun hc => ?_) (fun hc => ?_) <;> (try simp at hc) <;> (try (exfalso; first | omega | exact absurd hc (by assumption))))
      | ((first | refine jw_c ?_ | refine jw_draw_j mixed (by kernel_rfl) ?_ | (refine jl_call (f := 8) rfl rfl rfl rfl rfl (p24) (by simp [BelL, Bel]) ?_; rintro r rfl) | refine jd_call (f := 8) rfl rfl rfl rfl rfl (p24) (by simp [BelL, Bel]) ?_ | (refine jl_call (f := 8) rfl rfl rfl rfl rfl (p3) (by simp [BelL, Bel]) ?_; rintro r rfl) | refine jd_call (f := 8) rfl rfl rfl rfl rfl (p3) (by simp [BelL, Bel]) ?_); simp (maxSteps := 1000000) [h0, h1, h2, h3, h4, h9, h10, h15, h18, h19, h20, h21, h22, w3])
      | (first | (apply hK; clear hK) | (clear hK; apply hK; clear hK) | (clear hK; clear hK; apply hK; clear hK) | (clear hK; clear hK; clear hK; apply hK; clear hK))
      | (refine jl_fr (f := 37) 0 rfl rfl rfl rfl rfl (hM) (by simp [renL, renD, renD_flat, renL_flat, h0, h1, h2, h3, h4, h9, h10, h15, h18, h19, h20, h21, h22, w3]) rfl (by simp [BelL, Bel]) (by simp [BelOb, BelL, Bel]) ?_; rintro d0 x g ⟨rfl, hg⟩; obtain ⟨rfl, rfl⟩ := List.cons.inj hg; simp (maxSteps := 1000000) [renOb, renL, renD, renD_flat, renL_flat, h0, h1, h2, h3, h4, h9, h10, h15, h18, h19, h20, h21, h22, w3])
      | ((first | refine jw_ret (hQ _ _ (.inr rfl) (ret_ok 1 ?_ (by first | omega | simp))) | refine hQ _ _ (.inl rfl) (ret_ok 1 ?_ (by first | omega | simp))); simp (maxSteps := 1000000) [okRet, BelL, Bel, BelS, BelOb, h0, h1, h2, h3, h4, h9, h10, h15, h18, h19, h20, h21, h22, w3])
      | ((first | refine jd_newc rfl rfl (by simp) ?_ | refine okN_or ?_); simp (maxSteps := 1000000) [thD, thL, h0, h1, h2, h3, h4, h9, h10, h15, h18, h19, h20, h21, h22, w3])
      | ((first | refine okC_guard (fun hc => ?_) (fun hc => ?_) | refine okJ_guard (fun hc => ?_) (fun hc => ?_)) <;> (first | have hd := of_decide_eq_true hc | have hd := of_decide_eq_false hc | have hd := hc) <;> simp (maxSteps := 1000000) [hc, hd, h0, h1, h2, h3, h4, h9, h10, h15, h18, h19, h20, h21, h22, w3] <;> (try simp at hc) <;> (try (exfalso; first | omega | exact absurd hc (by assumption))))
      | (refine And.intro (by first | assumption | omega | (simp [BelL, Bel]; done) | (simp; omega)) ?_; try simp (maxSteps := 1000000) [h0, h1, h2, h3, h4, h9, h10, h15, h18, h19, h20, h21, h22, w3])
      | (refine okC_or ?_; simp (maxSteps := 1000000) [h0, h1, h2, h3, h4, h9, h10, h15, h18, h19, h20, h21, h22, w3])
def twsD (l : List Tw) : D := .sl false (l.flatMap twC) l.length
theorem belL_tw (n : Nat) (w : Tw) : BelL n (twC w) := ⟨trivial, trivial, trivial, trivial⟩
@[simp] theorem belL_tws (n : Nat) (l : List Tw) : BelL n (l.flatMap twC) := belL_flat (belL_tw n) l
theorem grownF {G : Globals} {ts : List Int} (hts : ∀ t ∈ ts, t = 1 ∨ t = 2 ∨ t = 3) (htl : ts.length ≤ 1000) (ws : List Tw) (hw : ∀ w ∈ ws, TwOk w) (hwl : ws.length ≤ 140737488351232) (n : Nat) (hn : n ≤ 700) {want : Nat} (hwant : want = 1 ∨ want = 2 ∨ want = 3) :
    FV Tryd.prog G 11 [twsD ws, .int .i64 n, numsD .i64 ts, .int .i64 want] (fun r => r = exD (popR (growR ts ws n) want).1) := by
  have hlw := flat_len twC_len ws
  refine fv_enter_v Tryd.func11 rfl rfl fun Q hQ => ?_
  unfold twsD numsD
  repeat' first
    | refine jw_ret (hQ _ _ (.inr rfl) ⟨5, _, _, rfl, rfl, ?_⟩)
    | refine jw_ret (hQ _ _ (.inr rfl) ⟨_, rfl, ?_⟩)
    | refine jw_seq_k fun K hK => ?_
    | refine jw_block ?_
    | ((first | refine jw_skip ?_ | refine jw_exit ?_); try simp)
    | (refine jw_cond rfl (fun hc => ?_) (fun hc => ?_) <;> (try simp at hc) <;> (try (exfalso; first | omega | exact absurd hc (by assumption))))
    | ((fail_if_success (refine jw_c (id := 2) ?_)); (refine jw_c ?_; simp (maxSteps := 1000000) [Tryd.f11, okCell]))
    | ((fail_if_success (refine jw_draw_j (id := 2) mixed (by kernel_rfl) ?_)); (refine jw_draw_j mixed (by kernel_rfl) ?_; simp (maxSteps := 1000000) [Tryd.f11, okCell]))
    | (first | (apply hK; clear hK) | (clear hK; apply hK; clear hK) | (clear hK; clear hK; apply hK; clear hK) | (clear hK; clear hK; clear hK; apply hK; clear hK))
    | exact hQ _ _ (.inl rfl) ⟨5, _, _, rfl, rfl, rfl⟩
    | refine hQ _ _ (.inl rfl) ⟨5, _, _, rfl, rfl, ?_⟩
    | refine hQ _ _ (.inl rfl) ⟨_, rfl, ?_⟩
    | ((first | refine jd_newc rfl rfl (by simp) ?_ | refine okN_or ?_); simp (maxSteps := 1000000) [thD, thL, Tryd.f11, okCell])
    | ((first | refine okC_guard (fun hc => ?_) (fun hc => ?_) | refine okJ_guard (fun hc => ?_) (fun hc => ?_)) <;> (first | have hd := of_decide_eq_true hc | have hd := of_decide_eq_false hc | have hd := hc) <;> simp (maxSteps := 1000000) [hc, hd, Tryd.f11, okCell] <;> (try simp at hc) <;> (try (exfalso; first | omega | exact absurd hc (by assumption))))
    | (refine And.intro (by first | assumption | omega | (simp [BelL, Bel]; done) | (simp; omega)) ?_; try simp (maxSteps := 1000000) [Tryd.f11, okCell])
    | (refine okC_or ?_; simp (maxSteps := 1000000) [Tryd.f11, okCell])
  refine jw_view (s0 := ⟨_, [some (.c [.int .i64 0, .int .i64 0, .int .i64 0, .str ⟨#[]⟩, .str ⟨#[]⟩, .str ⟨#[]⟩, .int .i64 0, .nsl]), some (.c (stkC (growR ts ws 0)))]⟩) (view_lewS (by simp [stkC, slE, growR])) ?_
  repeat' first
    | refine jw_ret (hQ _ _ (.inr rfl) ⟨5, _, _, rfl, rfl, ?_⟩)
    | refine jw_ret (hQ _ _ (.inr rfl) ⟨_, rfl, ?_⟩)
    | refine jw_seq_k fun K hK => ?_
    | refine jw_block ?_
    | ((first | refine jw_skip ?_ | refine jw_exit ?_); try simp)
    | (refine jw_cond rfl (fun hc => ?_) (fun hc => ?_) <;> (try simp at hc) <;> (try (exfalso; first | omega | exact absurd hc (by assumption))))
    | ((first | refine jw_c ?_ | refine jw_draw_j mixed (by kernel_rfl) ?_); simp (maxSteps := 1000000))
    | (first | (apply hK; clear hK) | (clear hK; apply hK; clear hK) | (clear hK; clear hK; apply hK; clear hK) | (clear hK; clear hK; clear hK; apply hK; clear hK))
    | exact hQ _ _ (.inl rfl) ⟨5, _, _, rfl, rfl, rfl⟩
    | refine hQ _ _ (.inl rfl) ⟨5, _, _, rfl, rfl, ?_⟩
    | refine hQ _ _ (.inl rfl) ⟨_, rfl, ?_⟩
    | ((first | refine jd_newc rfl rfl (by simp) ?_ | refine okN_or ?_); simp (maxSteps := 1000000) [thD, thL])
    | ((first | refine okC_guard (fun hc => ?_) (fun hc => ?_) | refine okJ_guard (fun hc => ?_) (fun hc => ?_)) <;> (first | have hd := of_decide_eq_true hc | have hd := of_decide_eq_false hc | have hd := hc) <;> simp (maxSteps := 1000000) [hc, hd] <;> (try simp at hc) <;> (try (exfalso; first | omega | exact absurd hc (by assumption))))
    | (refine And.intro (by first | assumption | omega | (simp [BelL, Bel]; done) | (simp; omega)) ?_; try simp (maxSteps := 1000000))
    | (refine okC_or ?_; simp (maxSteps := 1000000))
  refine jw_loop_v (fun m z => ∃ (i : Nat), (i ≤ n) ∧ n - i = m ∧ z = ⟨[.sl false (ws.flatMap twC) ws.length, .int .i64 n, .sl false (ts.map (D.int .i64)) ts.length, .int .i64 want] ++ List.replicate 4 .any ++ [.ptr 0 8 0, .ptr 1 4 0, .int .i64 i] ++ List.replicate 23 .any, [some (.c [.int .i64 0, .int .i64 0, .int .i64 0, .str ⟨#[]⟩, .str ⟨#[]⟩, .str ⟨#[]⟩, .int .i64 0, .nsl]), some (.c (stkC (growR ts ws i)))]⟩) ⟨[.sl false (ws.flatMap twC) ws.length, .int .i64 n, .sl false (ts.map (D.int .i64)) ts.length, .int .i64 want] ++ List.replicate 4 .any ++ [.ptr 0 8 0, .ptr 1 4 0, .int .i64 (0)] ++ List.replicate 23 .any, [some (.c [.int .i64 0, .int .i64 0, .int .i64 0, .str ⟨#[]⟩, .str ⟨#[]⟩, .str ⟨#[]⟩, .int .i64 0, .nsl]), some (.c (stkC (growR ts ws (0))))]⟩ (view_takeE (sl := [.sl false (ws.flatMap twC) ws.length, .int .i64 n, .sl false (ts.map (D.int .i64)) ts.length, .int .i64 want] ++ List.replicate 4 .any ++ [.ptr 0 8 0, .ptr 1 4 0, .int .i64 (0)] ++ List.replicate 23 .any) (σ0 := [some (.c [.int .i64 0, .int .i64 0, .int .i64 0, .str ⟨#[]⟩, .str ⟨#[]⟩, .str ⟨#[]⟩, .int .i64 0, .nsl]), some (.c (stkC (growR ts ws (0))))]) 2 (by simp) (by first | omega | simp) (by first | omega | (simp; done) | (simp; omega)) (by first | exact LewS.refl _ | simp) (by simp [BelL, Bel]) (by simp [BelS, BelOb, BelL, Bel])) ⟨(0), ?_, rfl, rfl⟩ ?_
  rotate_left
  rintro m z ⟨i, hA, rfl, rfl⟩ KA hKA
  · have hI := grow_inv hts ws hw i
    have hw1 := wrap_i64 (n := (i : Int) + 1) (by omega) (by omega)
    have done : i = n ∨ ¬ i < ws.length → growR ts ws n = growR ts ws i := by
      rintro (rfl | h)
      · rfl
      · unfold growR
        rw [List.take_of_length_le (by omega), List.take_of_length_le (by omega)]
    have hP := popF (G := G) (growR ts ws i) (t := want) (ti := want) rfl hwant (by have := hI.len want; omega)
    by_cases h1 : i < ws.length
    · by_cases h2 : i < n
      · have e : growR ts ws (i + 1) = stepR ts (growR ts ws i) ws[i] := by
          unfold growR
          rw [List.take_succ_eq_append_getElem h1, List.foldl_append]; rfl
        have hSt := stepW (G := G) hts htl hI (by omega) ws[i] (hw _ (List.getElem_mem h1))
        rw [← e] at hSt
        have hdr := flat_drop twC_len ws i h1
        obtain ⟨w, hww⟩ : ∃ w, ws[i] = w := ⟨_, rfl⟩
        rw [hww] at hSt hdr
        rw [show twC w = [.int .i64 w.op, .int .i64 w.num, .str w.txt] from rfl] at hSt hdr
        unfold numsD at hSt
        repeat' first
          | refine jw_ret (hQ _ _ (.inr rfl) ⟨5, _, _, rfl, rfl, ?_⟩)
          | refine jw_ret (hQ _ _ (.inr rfl) ⟨_, rfl, ?_⟩)
          | refine jw_seq_k fun K hK => ?_
          | refine jw_block ?_
          | ((first | refine jw_skip ?_ | refine jw_exit ?_); try simp)
          | (refine jw_cond rfl (fun hc => ?_) (fun hc => ?_) <;> (try simp at hc) <;> (try (exfalso; first | omega | exact absurd hc (by assumption))))
          | ((first | refine jw_c ?_ | refine jw_draw_j mixed (by kernel_rfl) ?_); simp (maxSteps := 1000000) [h1, h2, hdr, hlw, hw1, show (i : Int) < ws.length by omega, show (i : Int) < n by omega, show i * 3 < ws.length * 3 by omega])
          | (first | (apply hK; clear hK) | (clear hK; apply hK; clear hK) | (clear hK; clear hK; apply hK; clear hK) | (clear hK; clear hK; clear hK; apply hK; clear hK))
          | exact hQ _ _ (.inl rfl) ⟨5, _, _, rfl, rfl, rfl⟩
          | refine hQ _ _ (.inl rfl) ⟨5, _, _, rfl, rfl, ?_⟩
          | refine hQ _ _ (.inl rfl) ⟨_, rfl, ?_⟩
          | (refine jl_fr (f := 22) 1 rfl rfl rfl rfl rfl (hSt) (by simp [renL, renD, renD_flat, renL_flat, h1, h2, hdr, hlw, hw1, show (i : Int) < ws.length by omega, show (i : Int) < n by omega, show i * 3 < ws.length * 3 by omega]) rfl (by simp [BelL, Bel]) (by simp [BelOb, BelL, Bel]) ?_; rintro d0 x g ⟨rfl, hg⟩; obtain ⟨rfl, rfl⟩ := List.cons.inj hg; simp (maxSteps := 1000000) [renOb, renL, renD, renD_flat, renL_flat, h1, h2, hdr, hlw, hw1, show (i : Int) < ws.length by omega, show (i : Int) < n by omega, show i * 3 < ws.length * 3 by omega])
          | ((first | refine jd_newc rfl rfl (by simp) ?_ | refine okN_or ?_); simp (maxSteps := 1000000) [thD, thL, h1, h2, hdr, hlw, hw1, show (i : Int) < ws.length by omega, show (i : Int) < n by omega, show i * 3 < ws.length * 3 by omega])
          | ((first | refine okC_guard (fun hc => ?_) (fun hc => ?_) | refine okJ_guard (fun hc => ?_) (fun hc => ?_)) <;> (first | have hd := of_decide_eq_true hc | have hd := of_decide_eq_false hc | have hd := hc) <;> simp (maxSteps := 1000000) [hc, hd, h1, h2, hdr, hlw, hw1, show (i : Int) < ws.length by omega, show (i : Int) < n by omega, show i * 3 < ws.length * 3 by omega] <;> (try simp at hc) <;> (try (exfalso; first | omega | exact absurd hc (by assumption))))
          | (refine And.intro (by first | assumption | omega | (simp [BelL, Bel]; done) | (simp; omega)) ?_; try simp (maxSteps := 1000000) [h1, h2, hdr, hlw, hw1, show (i : Int) < ws.length by omega, show (i : Int) < n by omega, show i * 3 < ws.length * 3 by omega])
          | (refine okC_or ?_; simp (maxSteps := 1000000) [h1, h2, hdr, hlw, hw1, show (i : Int) < ws.length by omega, show (i : Int) < n by omega, show i * 3 < ws.length * 3 by omega])
        refine hKA (n - (i + 1)) _ ⟨[.sl false (ws.flatMap twC) ws.length, .int .i64 n, .sl false (ts.map (D.int .i64)) ts.length, .int .i64 want] ++ List.replicate 4 .any ++ [.ptr 0 8 0, .ptr 1 4 0, .int .i64 (i + 1)] ++ List.replicate 23 .any, [some (.c [.int .i64 0, .int .i64 0, .int .i64 0, .str ⟨#[]⟩, .str ⟨#[]⟩, .str ⟨#[]⟩, .int .i64 0, .nsl]), some (.c (stkC (growR ts ws (i + 1))))]⟩ (by omega) (view_takeE (sl := [.sl false (ws.flatMap twC) ws.length, .int .i64 n, .sl false (ts.map (D.int .i64)) ts.length, .int .i64 want] ++ List.replicate 4 .any ++ [.ptr 0 8 0, .ptr 1 4 0, .int .i64 (i + 1)] ++ List.replicate 23 .any) (σ0 := [some (.c [.int .i64 0, .int .i64 0, .int .i64 0, .str ⟨#[]⟩, .str ⟨#[]⟩, .str ⟨#[]⟩, .int .i64 0, .nsl]), some (.c (stkC (growR ts ws (i + 1))))]) 2 (by simp) (by first | omega | simp) (by first | omega | (simp; done) | (simp; omega)) (by first | exact LewS.refl _ | simp) (by simp [BelL, Bel]) (by simp [BelS, BelOb, BelL, Bel])) ⟨(i + 1), ?_, rfl, rfl⟩
        omega
      · rw [done (.inl (by omega))] at hQ
        generalize (popR (growR ts ws i) want).2 = S2 at *
        generalize (popR (growR ts ws i) want).1 = x at *
        have t3 := exC_all x
        unfold exD at *
        repeat' first
          | refine jw_seq_k fun K hK => ?_
          | refine jw_block ?_
          | ((first | refine jw_skip ?_ | refine jw_exit ?_); try simp)
          | (refine jw_cond rfl (fun hc => ?_) (fun hc => ?_) <;> (try simp at hc) <;> (try (exfalso; first | omega | exact absurd hc (by assumption))))
          | ((first | refine jw_c ?_ | refine jw_draw_j mixed (by kernel_rfl) ?_); simp (maxSteps := 1000000) [h1, h2, okCell, t3, show (i : Int) < ws.length by omega, show ¬ (i : Int) < n by omega])
          | (first | (apply hK; clear hK) | (clear hK; apply hK; clear hK) | (clear hK; clear hK; apply hK; clear hK) | (clear hK; clear hK; clear hK; apply hK; clear hK))
          | (refine jl_fr (f := 23) 1 rfl rfl rfl rfl rfl (hP) (by simp [renL, renD, renD_flat, renL_flat, h1, h2, okCell, t3, show (i : Int) < ws.length by omega, show ¬ (i : Int) < n by omega]) rfl (by simp [BelL, Bel]) (by simp [BelOb, BelL, Bel]) ?_; rintro d0 x g ⟨rfl, hg⟩; obtain ⟨rfl, rfl⟩ := List.cons.inj hg; simp (maxSteps := 1000000) [renOb, renL, renD, renD_flat, renL_flat, h1, h2, okCell, t3, show (i : Int) < ws.length by omega, show ¬ (i : Int) < n by omega])
          | ((first | refine jw_ret (hQ _ _ (.inr rfl) (ret_ok 0 ?_ (by first | omega | simp))) | refine hQ _ _ (.inl rfl) (ret_ok 0 ?_ (by first | omega | simp))); simp (maxSteps := 1000000) [okRet, BelL, Bel, BelS, BelOb, h1, h2, okCell, t3, show (i : Int) < ws.length by omega, show ¬ (i : Int) < n by omega])
          | ((first | refine jd_newc rfl rfl (by simp) ?_ | refine okN_or ?_); simp (maxSteps := 1000000) [thD, thL, h1, h2, okCell, t3, show (i : Int) < ws.length by omega, show ¬ (i : Int) < n by omega])
          | ((first | refine okC_guard (fun hc => ?_) (fun hc => ?_) | refine okJ_guard (fun hc => ?_) (fun hc => ?_)) <;> (first | have hd := of_decide_eq_true hc | have hd := of_decide_eq_false hc | have hd := hc) <;> simp (maxSteps := 1000000) [hc, hd, h1, h2, okCell, t3, show (i : Int) < ws.length by omega, show ¬ (i : Int) < n by omega] <;> (try simp at hc) <;> (try (exfalso; first | omega | exact absurd hc (by assumption))))
          | (refine And.intro (by first | assumption | omega | (simp [BelL, Bel]; done) | (simp; omega)) ?_; try simp (maxSteps := 1000000) [h1, h2, okCell, t3, show (i : Int) < ws.length by omega, show ¬ (i : Int) < n by omega])
          | (refine okC_or ?_; simp (maxSteps := 1000000) [h1, h2, okCell, t3, show (i : Int) < ws.length by omega, show ¬ (i : Int) < n by omega])
    · rw [done (.inr h1)] at hQ
      generalize (popR (growR ts ws i) want).2 = S2 at *
      generalize (popR (growR ts ws i) want).1 = x at *
      have t3 := exC_all x
      unfold exD at *
      repeat' first
        | refine jw_seq_k fun K hK => ?_
        | refine jw_block ?_
        | ((first | refine jw_skip ?_ | refine jw_exit ?_); try simp)
        | (refine jw_cond rfl (fun hc => ?_) (fun hc => ?_) <;> (try simp at hc) <;> (try (exfalso; first | omega | exact absurd hc (by assumption))))
        | ((first | refine jw_c ?_ | refine jw_draw_j mixed (by kernel_rfl) ?_); simp (maxSteps := 1000000) [h1, okCell, t3, show ¬ (i : Int) < ws.length by omega])
        | (first | (apply hK; clear hK) | (clear hK; apply hK; clear hK) | (clear hK; clear hK; apply hK; clear hK) | (clear hK; clear hK; clear hK; apply hK; clear hK))
        | (refine jl_fr (f := 23) 1 rfl rfl rfl rfl rfl (hP) (by simp [renL, renD, renD_flat, renL_flat, h1, okCell, t3, show ¬ (i : Int) < ws.length by omega]) rfl (by simp [BelL, Bel]) (by simp [BelOb, BelL, Bel]) ?_; rintro d0 x g ⟨rfl, hg⟩; obtain ⟨rfl, rfl⟩ := List.cons.inj hg; simp (maxSteps := 1000000) [renOb, renL, renD, renD_flat, renL_flat, h1, okCell, t3, show ¬ (i : Int) < ws.length by omega])
        | ((first | refine jw_ret (hQ _ _ (.inr rfl) (ret_ok 0 ?_ (by first | omega | simp))) | refine hQ _ _ (.inl rfl) (ret_ok 0 ?_ (by first | omega | simp))); simp (maxSteps := 1000000) [okRet, BelL, Bel, BelS, BelOb, h1, okCell, t3, show ¬ (i : Int) < ws.length by omega])
        | ((first | refine jd_newc rfl rfl (by simp) ?_ | refine okN_or ?_); simp (maxSteps := 1000000) [thD, thL, h1, okCell, t3, show ¬ (i : Int) < ws.length by omega])
        | ((first | refine okC_guard (fun hc => ?_) (fun hc => ?_) | refine okJ_guard (fun hc => ?_) (fun hc => ?_)) <;> (first | have hd := of_decide_eq_true hc | have hd := of_decide_eq_false hc | have hd := hc) <;> simp (maxSteps := 1000000) [hc, hd, h1, okCell, t3, show ¬ (i : Int) < ws.length by omega] <;> (try simp at hc) <;> (try (exfalso; first | omega | exact absurd hc (by assumption))))
        | (refine And.intro (by first | assumption | omega | (simp [BelL, Bel]; done) | (simp; omega)) ?_; try simp (maxSteps := 1000000) [h1, okCell, t3, show ¬ (i : Int) < ws.length by omega])
        | (refine okC_or ?_; simp (maxSteps := 1000000) [h1, okCell, t3, show ¬ (i : Int) < ws.length by omega])
  · omega
end Go.Proofs.YtmgoekfgdgejiaaDoor
