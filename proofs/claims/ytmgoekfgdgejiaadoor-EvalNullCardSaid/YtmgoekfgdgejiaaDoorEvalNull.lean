/- EvalNull: the walk. -/
import Derived.Test.YtmgoekfgdgejiaaDoorEvTop
import Derived.Test.YtmgoekfgdgejiaaDoorRaw
set_option linter.unusedVariables false
set_option linter.unusedSimpArgs false
set_option maxRecDepth 20000
set_option maxHeartbeats 20000000
namespace Go.Proofs.YtmgoekfgdgejiaaDoor
open Go Go.Vm Go.Proofs

theorem constOfF {G : Globals} (v : Vl) : FV Tryd.prog G 9 [vlD v] (fun r => r = exD (.con v)) := by
  unfold exD exC vlD vlC
  refine fv_enter_v Tryd.func9 rfl rfl fun Q hQ => ?_
  repeat' first
    | refine jw_seq_k fun K hK => ?_
    | refine jw_block ?_
    | ((first | refine jw_skip ?_ | refine jw_exit ?_); try simp)
    | (refine jw_cond rfl (fun hc => ?_) (fun hc => ?_) <;> (try simp at hc) <;> (try (exfalso; first | omega | exact absurd hc (by assumption))))
    | ((first | refine jw_c ?_ | refine jw_draw_j mixed (by kernel_rfl) ?_); simp (maxSteps := 1000000) [Tryd.f9])
    | (first | (apply hK; clear hK) | (clear hK; apply hK; clear hK) | (clear hK; clear hK; apply hK; clear hK) | (clear hK; clear hK; clear hK; apply hK; clear hK))
    | ((first | refine jw_ret (hQ _ _ (.inr rfl) (ret_ok 0 ?_ (by first | omega | simp))) | refine hQ _ _ (.inl rfl) (ret_ok 0 ?_ (by first | omega | simp))); simp (maxSteps := 1000000) [okRet, BelL, Bel, BelS, BelOb, Tryd.f9])
    | ((first | refine jd_newc rfl rfl (by simp) ?_ | refine okN_or ?_); simp (maxSteps := 1000000) [thD, thL, Tryd.f9])
    | ((first | refine okC_guard (fun hc => ?_) (fun hc => ?_) | refine okJ_guard (fun hc => ?_) (fun hc => ?_)) <;> (first | have hd := of_decide_eq_true hc | have hd := of_decide_eq_false hc | have hd := hc) <;> simp (maxSteps := 1000000) [hc, hd, Tryd.f9] <;> (try simp at hc) <;> (try (exfalso; first | omega | exact absurd hc (by assumption))))
    | (refine And.intro (by first | assumption | omega | (simp [BelL, Bel]; done) | (simp; omega)) ?_; try simp (maxSteps := 1000000) [Tryd.f9])
    | (refine okC_or ?_; simp (maxSteps := 1000000) [Tryd.f9])
theorem rowOk_nil : RowOk [] [] := ⟨rfl, fun p t h => by simp at h⟩
theorem evalNil {G : Globals} (hV : VStr G) {e : Ex} {t : Int} (h : wt [] e t) (hd : dp e ≤ 12) : FV Tryd.prog G 10 [exD e, .nsl] (fun r => r = vrD (evE [] e)) :=
  fv_arg (by simp [rowD]) (evalTopF hV rowOk_nil (by simp) (by simp) h hd)
theorem evalNull {G : Globals} (hV : VStr G) (op : Int) (_ : (Lit.int .i64 op).wf = true) (n : Int) (hn : (Lit.int .i64 n).wf = true) (swap : Bool) :
    FV Tryd.prog G 3 [.int .i64 op, .int .i64 n, .bool swap] (fun r => r = .bool true) := by
  have hn2 := wf_i64 hn
  have p1 := pickedG (G := G) op 11 (by omega) (by omega)
  have k0 := Int.emod_nonneg op (show (11 : Int) ≠ 0 by omega)
  have k1 := Int.emod_lt_of_pos op (show (0 : Int) < 11 by omega)
  generalize op % 11 = k at *
  have hw := wrap_i64 (n := 8 + k) (by omega) (by omega)
  have hok : VlOk ⟨2, n, []⟩ := ⟨txt_nil, by simp, hn2.1, hn2.2, .inr (.inr (.inl ⟨rfl, rfl⟩))⟩
  have c1 := constOfF (G := G) vl0
  have c2 := constOfF (G := G) ⟨2, n, []⟩
  have w1 : ∀ u, wt [] (.con vl0) u := fun u => ⟨vl0_ok, .inl rfl⟩
  have w2 : wt [] (.con ⟨2, n, []⟩) 2 := ⟨hok, .inr rfl⟩
  have hb : ∀ a b : Vl, (a.k = 0 ∨ b.k = 0) → evE [] (.bin (8 + k) (.con a) (.con b)) = (vl0, 0) := by
    intro a b hab
    unfold evE
    rw [if_neg (by omega)]
    simp only [evE, if_true]
    unfold binR
    split
    · exact if_pos hab
    · unfold cmpD
      rw [if_pos hab]; rfl
  have hwb : ∀ a b : Ex, wt [] a 2 → wt [] b 2 → ∃ t, wt [] (.bin (8 + k) a b) t := by
    intro a b ha hb
    by_cases h : k ≤ 4
    · exact ⟨2, .inl ⟨by omega, by omega, rfl, ha, hb⟩⟩
    · exact ⟨1, .inr (.inl ⟨by omega, by omega, rfl, 2, by omega, by omega, ha, hb⟩)⟩
  have e0 : exC (.con vl0) = [.int .i64 1, .int .i64 0, .int .i64 0, .str ⟨#[]⟩, .str ⟨#[]⟩, .str ⟨#[]⟩, .int .i64 0, .nsl] := rfl
  have e1 : exC (.con ⟨2, n, []⟩) = [.int .i64 1, .int .i64 2, .int .i64 n, .str ⟨#[]⟩, .str ⟨#[]⟩, .str ⟨#[]⟩, .int .i64 0, .nsl] := rfl
  have v0 : vlC vl0 = [.int .i64 0, .int .i64 0, .str ⟨#[]⟩] := rfl
  have v1 : vlC ⟨2, n, []⟩ = [.int .i64 2, .int .i64 n, .str ⟨#[]⟩] := rfl
  refine fv_enter_v Tryd.func3 rfl rfl fun Q hQ => ?_
  cases swap with
  | false =>
    obtain ⟨t, ht⟩ := hwb _ _ (w1 2) w2
    have h1 := evalNil (G := G) hV ht (by simp [dp])
    have h2 := evalNil (G := G) hV (e := .un 6 (.con vl0)) (t := 1) (.inr (.inr ⟨.inl rfl, rfl, 1, by omega, by omega, w1 1⟩)) (by simp [dp])
    have h3 := evalNil (G := G) hV (e := .un 7 (.con vl0)) (t := 1) (.inr (.inr ⟨.inr rfl, rfl, 1, by omega, by omega, w1 1⟩)) (by simp [dp])
    rw [hb _ _ (.inl rfl)] at h1
    rw [show evE [] (.un 6 (.con vl0)) = (⟨1, 1, []⟩, 0) from rfl] at h2
    rw [show evE [] (.un 7 (.con vl0)) = (⟨1, 0, []⟩, 0) from rfl] at h3
    unfold exD vrD vlD at *
    simp only [exC.eq_3, exC.eq_4, e0, e1, v0, v1, List.cons_append, List.nil_append, show vlC ⟨1, 1, []⟩ = [.int .i64 1, .int .i64 1, .str ⟨#[]⟩] from rfl, show vlC ⟨1, 0, []⟩ = [.int .i64 1, .int .i64 0, .str ⟨#[]⟩] from rfl] at h1 h2 h3 c1 c2
    repeat' first
      | refine jw_ret (hQ _ _ (.inr rfl) ⟨5, _, _, rfl, rfl, ?_⟩)
      | refine jw_ret (hQ _ _ (.inr rfl) ⟨_, rfl, ?_⟩)
      | refine jw_seq_k fun K hK => ?_
      | refine jw_block ?_
      | ((first | refine jw_skip ?_ | refine jw_exit ?_); try simp)
      | (refine jw_cond rfl (fun hc => ?_) (fun hc => ?_) <;> (try simp at hc) <;> (try (exfalso; first | omega | exact absurd hc (by assumption))))
      | ((fail_if_success (refine jw_c (id := 3) ?_)); (refine jw_c ?_; simp (maxSteps := 1000000) [Tryd.f3, hw, okCell]))
      | ((fail_if_success (refine jw_draw_j (id := 3) mixed (by kernel_rfl) ?_)); (refine jw_draw_j mixed (by kernel_rfl) ?_; simp (maxSteps := 1000000) [Tryd.f3, hw, okCell]))
      | (first | (apply hK; clear hK) | (clear hK; apply hK; clear hK) | (clear hK; clear hK; apply hK; clear hK) | (clear hK; clear hK; clear hK; apply hK; clear hK))
      | exact hQ _ _ (.inl rfl) ⟨5, _, _, rfl, rfl, rfl⟩
      | refine hQ _ _ (.inl rfl) ⟨5, _, _, rfl, rfl, ?_⟩
      | refine hQ _ _ (.inl rfl) ⟨_, rfl, ?_⟩
      | ((first | (refine jl_call (f := 8) rfl rfl rfl rfl rfl (p1) (by simp [BelL, Bel]) ?_; rintro r rfl) | refine jd_call (f := 8) rfl rfl rfl rfl rfl (p1) (by simp [BelL, Bel]) ?_ | (refine jl_call (f := 9) rfl rfl rfl rfl rfl (c1) (by simp [BelL, Bel]) ?_; rintro r rfl) | refine jd_call (f := 9) rfl rfl rfl rfl rfl (c1) (by simp [BelL, Bel]) ?_ | (refine jl_call (f := 9) rfl rfl rfl rfl rfl (c2) (by simp [BelL, Bel]) ?_; rintro r rfl) | refine jd_call (f := 9) rfl rfl rfl rfl rfl (c2) (by simp [BelL, Bel]) ?_); simp (maxSteps := 1000000) [Tryd.f3, hw, okCell])
      | ((first | refine jd_newc rfl rfl (by simp) ?_ | refine okN_or ?_); simp (maxSteps := 1000000) [thD, thL, Tryd.f3, hw, okCell])
      | ((first | refine okC_guard (fun hc => ?_) (fun hc => ?_) | refine okJ_guard (fun hc => ?_) (fun hc => ?_)) <;> (first | have hd := of_decide_eq_true hc | have hd := of_decide_eq_false hc | have hd := hc) <;> simp (maxSteps := 1000000) [hc, hd, Tryd.f3, hw, okCell] <;> (try simp at hc) <;> (try (exfalso; first | omega | exact absurd hc (by assumption))))
      | (refine And.intro (by first | assumption | omega | (simp [BelL, Bel]; done) | (simp; omega)) ?_; try simp (maxSteps := 1000000) [Tryd.f3, hw, okCell])
      | (refine okC_or ?_; simp (maxSteps := 1000000) [Tryd.f3, hw, okCell])
    (refine jw_view (view_frz 0 _ rfl (by simp [BelL, Bel, thL_flat])) ?_; simp (maxSteps := 1000000) [thL, thD, thS, thOb, thL_flat])
    repeat' first
      | refine jw_seq_k fun K hK => ?_
      | refine jw_block ?_
      | ((first | refine jw_skip ?_ | refine jw_exit ?_); try simp)
      | (refine jw_cond rfl (fun hc => ?_) (fun hc => ?_) <;> (try simp at hc) <;> (try (exfalso; first | omega | exact absurd hc (by assumption))))
      | ((first | refine jw_c ?_ | refine jw_draw_j mixed (by kernel_rfl) ?_ | (refine jl_call (f := 10) rfl rfl rfl rfl rfl (h1) (by simp [BelL, Bel]) ?_; rintro r rfl) | refine jd_call (f := 10) rfl rfl rfl rfl rfl (h1) (by simp [BelL, Bel]) ?_ | (refine jl_call (f := 10) rfl rfl rfl rfl rfl (h2) (by simp [BelL, Bel]) ?_; rintro r rfl) | refine jd_call (f := 10) rfl rfl rfl rfl rfl (h2) (by simp [BelL, Bel]) ?_ | (refine jl_call (f := 10) rfl rfl rfl rfl rfl (h3) (by simp [BelL, Bel]) ?_; rintro r rfl) | refine jd_call (f := 10) rfl rfl rfl rfl rfl (h3) (by simp [BelL, Bel]) ?_); simp (maxSteps := 1000000) [hw, okCell, ba0])
      | (first | (apply hK; clear hK) | (clear hK; apply hK; clear hK) | (clear hK; clear hK; apply hK; clear hK) | (clear hK; clear hK; clear hK; apply hK; clear hK))
      | ((first | refine jw_ret (hQ _ _ (.inr rfl) (ret_ok 0 ?_ (by first | omega | simp))) | refine hQ _ _ (.inl rfl) (ret_ok 0 ?_ (by first | omega | simp))); simp (maxSteps := 1000000) [okRet, BelL, Bel, BelS, BelOb, hw, okCell, ba0])
      | ((first | refine jd_newc rfl rfl (by simp) ?_ | refine okN_or ?_); simp (maxSteps := 1000000) [thD, thL, hw, okCell, ba0])
      | ((first | refine okC_guard (fun hc => ?_) (fun hc => ?_) | refine okJ_guard (fun hc => ?_) (fun hc => ?_)) <;> (first | have hd := of_decide_eq_true hc | have hd := of_decide_eq_false hc | have hd := hc) <;> simp (maxSteps := 1000000) [hc, hd, hw, okCell, ba0] <;> (try simp at hc) <;> (try (exfalso; first | omega | exact absurd hc (by assumption))))
      | (refine And.intro (by first | assumption | omega | (simp [BelL, Bel]; done) | (simp; omega)) ?_; try simp (maxSteps := 1000000) [hw, okCell, ba0])
      | (refine okC_or ?_; simp (maxSteps := 1000000) [hw, okCell, ba0])
  | true =>
    obtain ⟨t, ht⟩ := hwb _ _ w2 (w1 2)
    have h1 := evalNil (G := G) hV ht (by simp [dp])
    have h2 := evalNil (G := G) hV (e := .un 6 (.con ⟨2, n, []⟩)) (t := 1) (.inr (.inr ⟨.inl rfl, rfl, 2, by omega, by omega, w2⟩)) (by simp [dp])
    have h3 := evalNil (G := G) hV (e := .un 7 (.con ⟨2, n, []⟩)) (t := 1) (.inr (.inr ⟨.inr rfl, rfl, 2, by omega, by omega, w2⟩)) (by simp [dp])
    rw [hb _ _ (.inr rfl)] at h1
    rw [show evE [] (.un 6 (.con ⟨2, n, []⟩)) = (⟨1, 0, []⟩, 0) from rfl] at h2
    rw [show evE [] (.un 7 (.con ⟨2, n, []⟩)) = (⟨1, 1, []⟩, 0) from rfl] at h3
    unfold exD vrD vlD at *
    simp only [exC.eq_3, exC.eq_4, e0, e1, v0, v1, List.cons_append, List.nil_append, show vlC ⟨1, 1, []⟩ = [.int .i64 1, .int .i64 1, .str ⟨#[]⟩] from rfl, show vlC ⟨1, 0, []⟩ = [.int .i64 1, .int .i64 0, .str ⟨#[]⟩] from rfl] at h1 h2 h3 c1 c2
    repeat' first
      | refine jw_ret (hQ _ _ (.inr rfl) ⟨5, _, _, rfl, rfl, ?_⟩)
      | refine jw_ret (hQ _ _ (.inr rfl) ⟨_, rfl, ?_⟩)
      | refine jw_seq_k fun K hK => ?_
      | refine jw_block ?_
      | ((first | refine jw_skip ?_ | refine jw_exit ?_); try simp)
      | (refine jw_cond rfl (fun hc => ?_) (fun hc => ?_) <;> (try simp at hc) <;> (try (exfalso; first | omega | exact absurd hc (by assumption))))
      | ((fail_if_success (refine jw_c (id := 3) ?_)); (refine jw_c ?_; simp (maxSteps := 1000000) [Tryd.f3, hw, okCell]))
      | ((fail_if_success (refine jw_draw_j (id := 3) mixed (by kernel_rfl) ?_)); (refine jw_draw_j mixed (by kernel_rfl) ?_; simp (maxSteps := 1000000) [Tryd.f3, hw, okCell]))
      | (first | (apply hK; clear hK) | (clear hK; apply hK; clear hK) | (clear hK; clear hK; apply hK; clear hK) | (clear hK; clear hK; clear hK; apply hK; clear hK))
      | exact hQ _ _ (.inl rfl) ⟨5, _, _, rfl, rfl, rfl⟩
      | refine hQ _ _ (.inl rfl) ⟨5, _, _, rfl, rfl, ?_⟩
      | refine hQ _ _ (.inl rfl) ⟨_, rfl, ?_⟩
      | ((first | (refine jl_call (f := 8) rfl rfl rfl rfl rfl (p1) (by simp [BelL, Bel]) ?_; rintro r rfl) | refine jd_call (f := 8) rfl rfl rfl rfl rfl (p1) (by simp [BelL, Bel]) ?_ | (refine jl_call (f := 9) rfl rfl rfl rfl rfl (c1) (by simp [BelL, Bel]) ?_; rintro r rfl) | refine jd_call (f := 9) rfl rfl rfl rfl rfl (c1) (by simp [BelL, Bel]) ?_ | (refine jl_call (f := 9) rfl rfl rfl rfl rfl (c2) (by simp [BelL, Bel]) ?_; rintro r rfl) | refine jd_call (f := 9) rfl rfl rfl rfl rfl (c2) (by simp [BelL, Bel]) ?_); simp (maxSteps := 1000000) [Tryd.f3, hw, okCell])
      | ((first | refine jd_newc rfl rfl (by simp) ?_ | refine okN_or ?_); simp (maxSteps := 1000000) [thD, thL, Tryd.f3, hw, okCell])
      | ((first | refine okC_guard (fun hc => ?_) (fun hc => ?_) | refine okJ_guard (fun hc => ?_) (fun hc => ?_)) <;> (first | have hd := of_decide_eq_true hc | have hd := of_decide_eq_false hc | have hd := hc) <;> simp (maxSteps := 1000000) [hc, hd, Tryd.f3, hw, okCell] <;> (try simp at hc) <;> (try (exfalso; first | omega | exact absurd hc (by assumption))))
      | (refine And.intro (by first | assumption | omega | (simp [BelL, Bel]; done) | (simp; omega)) ?_; try simp (maxSteps := 1000000) [Tryd.f3, hw, okCell])
      | (refine okC_or ?_; simp (maxSteps := 1000000) [Tryd.f3, hw, okCell])
    (refine jw_view (view_frz 0 _ rfl (by simp [BelL, Bel, thL_flat])) ?_; simp (maxSteps := 1000000) [thL, thD, thS, thOb, thL_flat])
    repeat' first
      | refine jw_seq_k fun K hK => ?_
      | refine jw_block ?_
      | ((first | refine jw_skip ?_ | refine jw_exit ?_); try simp)
      | (refine jw_cond rfl (fun hc => ?_) (fun hc => ?_) <;> (try simp at hc) <;> (try (exfalso; first | omega | exact absurd hc (by assumption))))
      | ((first | refine jw_c ?_ | refine jw_draw_j mixed (by kernel_rfl) ?_ | (refine jl_call (f := 10) rfl rfl rfl rfl rfl (h1) (by simp [BelL, Bel]) ?_; rintro r rfl) | refine jd_call (f := 10) rfl rfl rfl rfl rfl (h1) (by simp [BelL, Bel]) ?_ | (refine jl_call (f := 10) rfl rfl rfl rfl rfl (h2) (by simp [BelL, Bel]) ?_; rintro r rfl) | refine jd_call (f := 10) rfl rfl rfl rfl rfl (h2) (by simp [BelL, Bel]) ?_ | (refine jl_call (f := 10) rfl rfl rfl rfl rfl (h3) (by simp [BelL, Bel]) ?_; rintro r rfl) | refine jd_call (f := 10) rfl rfl rfl rfl rfl (h3) (by simp [BelL, Bel]) ?_); simp (maxSteps := 1000000) [hw, okCell, ba0])
      | (first | (apply hK; clear hK) | (clear hK; apply hK; clear hK) | (clear hK; clear hK; apply hK; clear hK) | (clear hK; clear hK; clear hK; apply hK; clear hK))
      | ((first | refine jw_ret (hQ _ _ (.inr rfl) (ret_ok 0 ?_ (by first | omega | simp))) | refine hQ _ _ (.inl rfl) (ret_ok 0 ?_ (by first | omega | simp))); simp (maxSteps := 1000000) [okRet, BelL, Bel, BelS, BelOb, hw, okCell, ba0])
      | ((first | refine jd_newc rfl rfl (by simp) ?_ | refine okN_or ?_); simp (maxSteps := 1000000) [thD, thL, hw, okCell, ba0])
      | ((first | refine okC_guard (fun hc => ?_) (fun hc => ?_) | refine okJ_guard (fun hc => ?_) (fun hc => ?_)) <;> (first | have hd := of_decide_eq_true hc | have hd := of_decide_eq_false hc | have hd := hc) <;> simp (maxSteps := 1000000) [hc, hd, hw, okCell, ba0] <;> (try simp at hc) <;> (try (exfalso; first | omega | exact absurd hc (by assumption))))
      | (refine And.intro (by first | assumption | omega | (simp [BelL, Bel]; done) | (simp; omega)) ?_; try simp (maxSteps := 1000000) [hw, okCell, ba0])
      | (refine okC_or ?_; simp (maxSteps := 1000000) [hw, okCell, ba0])
theorem evalNull_row (op : Int) (h1 : (Lit.int .i64 op).wf = true) (n : Int) (h2 : (Lit.int .i64 n).wf = true) (swap : Bool) :
    FV Tryd.prog utfG 3 [.int .i64 op, .int .i64 n, .bool swap] (fun r => r = .bool true) := evalNull vstr op h1 n h2 swap
end Go.Proofs.YtmgoekfgdgejiaaDoor
