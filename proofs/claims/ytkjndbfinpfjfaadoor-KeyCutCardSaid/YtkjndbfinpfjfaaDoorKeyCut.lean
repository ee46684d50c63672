/- KeyCut: the walk. -/
import Derived.Test.YtkjndbfinpfjfaaDoorKeyBack
set_option linter.unusedVariables false
set_option linter.unusedSimpArgs false
set_option maxRecDepth 20000
set_option maxHeartbeats 20000000
namespace Go.Proofs.YtkjndbfinpfjfaaDoor
open Go Go.Vm Go.Proofs

theorem va_take (l : List Va) (j : Nat) : List.take (j * 3) (l.flatMap vaC) = (l.take j).flatMap vaC := flat_take vaC_len l j
theorem keyCutW (hvalid : HValid) (l : List Rw) (hl : l.length ≤ 140737488351232) (h : ∀ v ∈ l, RwOk v) (at' : Int) :
    FV Tryd.prog utfG 10 [rwsD l, .int .i64 at'] (fun r => r = .bool true) := by
  refine fv_enter_v Tryd.func10 rfl rfl fun Q hQ => ?_
  repeat' first
    | refine jw_ret (hQ _ _ (.inr rfl) ⟨5, _, _, rfl, rfl, ?_⟩)
    | refine jw_ret (hQ _ _ (.inr rfl) ⟨_, rfl, ?_⟩)
    | refine jw_seq_k fun K hK => ?_
    | refine jw_block ?_
    | (refine jw_skip ?_; try simp)
    | (refine jw_exit ?_; try simp)
    | (refine jw_cond rfl (fun hc => ?_) (fun hc => ?_) <;> (try simp at hc) <;> (try (exfalso; first | omega | exact absurd hc (by assumption))))
    | ((fail_if_success (refine jw_c (id := 2) ?_)); (refine jw_c ?_; simp (maxSteps := 1000000) [Tryd.f10]))
    | ((fail_if_success (refine jw_draw_j (id := 2) mixed (by kernel_rfl) ?_)); (refine jw_draw_j mixed (by kernel_rfl) ?_; simp (maxSteps := 1000000) [Tryd.f10]))
    | (first | (apply hK; clear hK) | (clear hK; apply hK; clear hK) | (clear hK; clear hK; apply hK; clear hK) | (clear hK; clear hK; clear hK; apply hK; clear hK))
    | exact hQ _ _ (.inl rfl) ⟨5, _, _, rfl, rfl, rfl⟩
    | refine hQ _ _ (.inl rfl) ⟨5, _, _, rfl, rfl, ?_⟩
    | refine hQ _ _ (.inl rfl) ⟨_, rfl, ?_⟩
    | (refine jl_call (f := 20) rfl rfl rfl rfl rfl (valuesOfF l h hl 14 (by omega)) (by simp [BelL, Bel]) ?_; rintro r ⟨x, hx, hxl, rfl⟩; simp (maxSteps := 1000000) [Tryd.f10])
    | (refine jd_newc rfl rfl (by simp) ?_; simp (maxSteps := 1000000) [thD, thL, Tryd.f10])
    | (refine okN_or ?_; simp (maxSteps := 1000000) [thD, thL, Tryd.f10])
    | (refine okC_guard (fun hc => ?_) (fun hc => ?_) <;> (first | simp (maxSteps := 1000000) [hc, of_decide_eq_true hc, Tryd.f10] | simp (maxSteps := 1000000) [hc, of_decide_eq_false hc, Tryd.f10] | simp (maxSteps := 1000000) [hc, Tryd.f10]) <;> (try simp at hc) <;> (try (exfalso; first | omega | exact absurd hc (by assumption))))
    | (refine okJ_guard (fun hc => ?_) (fun hc => ?_) <;> (first | simp (maxSteps := 1000000) [hc, of_decide_eq_true hc, Tryd.f10] | simp (maxSteps := 1000000) [hc, of_decide_eq_false hc, Tryd.f10] | simp (maxSteps := 1000000) [hc, Tryd.f10]) <;> (try simp at hc) <;> (try (exfalso; first | omega | exact absurd hc (by assumption))))
    | (refine And.intro (by first | assumption | omega | (simp [BelL, Bel]; done) | (simp; omega)) ?_; try simp (maxSteps := 1000000) [Tryd.f10])
    | (refine okC_or ?_; simp (maxSteps := 1000000) [Tryd.f10])
  have hex := encodeF x (by omega) hx
  have hbx := encL_len hx
  have hby := encL_bytes hx
  obtain ⟨L, hL⟩ : ∃ L, encL x = L := ⟨_, rfl⟩
  have hp := pickedG (G := utfG) at' ((L.length : Int) + 1) (by omega) (by rw [hL] at hbx; omega)
  have i0 := Int.emod_nonneg at' (show (L.length : Int) + 1 ≠ 0 by omega)
  have i1 := Int.emod_lt_of_pos at' (show (0 : Int) < (L.length : Int) + 1 by omega)
  obtain ⟨n, hn⟩ : ∃ n : Nat, at' % ((L.length : Int) + 1) = n := ⟨(at' % ((L.length : Int) + 1)).toNat, by omega⟩
  rw [hn] at hp i1
  have hw := wrap_i64 (n := (L.length : Int) + 1) (by omega) (by rw [hL] at hbx; omega)
  have hO := octN (G := utfG) L n (by rw [hL] at hbx; omega) (by rw [hL] at hbx; omega)
  have hD := decodeF hvalid (L.take n) (fun y hy => hby y (by rw [hL]; exact List.mem_of_mem_take hy)) (by rw [hL] at hbx; simp; omega)
  have hcut := fun {d : D} {q c : Int} (hR : DecR (L.take n) d q c) => dec_cutR hx hxl (n := n) (by rw [hL]; exact hR)
  rw [hL] at hex hbx hcut
  generalize L.take n = T at *
  repeat' first
    | refine jw_ret (hQ _ _ (.inr rfl) ⟨5, _, _, rfl, rfl, ?_⟩)
    | refine jw_ret (hQ _ _ (.inr rfl) ⟨_, rfl, ?_⟩)
    | refine jw_seq_k fun K hK => ?_
    | refine jw_block ?_
    | (refine jw_skip ?_; try simp)
    | (refine jw_exit ?_; try simp)
    | (refine jw_cond rfl (fun hc => ?_) (fun hc => ?_) <;> (try simp at hc) <;> (try (exfalso; first | omega | exact absurd hc (by assumption))))
    | ((fail_if_success (refine jw_c (id := 7) ?_)); (refine jw_c ?_; simp (maxSteps := 1000000) [vasD, natsD, hw, show ¬ (L.length : Int) < x.length by omega, show ¬ L.length < x.length by omega]))
    | ((fail_if_success (refine jw_draw_j (id := 7) mixed (by kernel_rfl) ?_)); (refine jw_draw_j mixed (by kernel_rfl) ?_; simp (maxSteps := 1000000) [vasD, natsD, hw, show ¬ (L.length : Int) < x.length by omega, show ¬ L.length < x.length by omega]))
    | (first | (apply hK; clear hK) | (clear hK; apply hK; clear hK) | (clear hK; clear hK; apply hK; clear hK) | (clear hK; clear hK; clear hK; apply hK; clear hK))
    | exact hQ _ _ (.inl rfl) ⟨5, _, _, rfl, rfl, rfl⟩
    | refine hQ _ _ (.inl rfl) ⟨5, _, _, rfl, rfl, ?_⟩
    | refine hQ _ _ (.inl rfl) ⟨_, rfl, ?_⟩
    | (refine jl_call (f := 21) rfl rfl rfl rfl rfl (hex) (by simp [BelL, Bel]) ?_; rintro r rfl; simp (maxSteps := 1000000) [vasD, natsD, hw, show ¬ (L.length : Int) < x.length by omega, show ¬ L.length < x.length by omega])
    | (refine jd_call (f := 21) rfl rfl rfl rfl rfl (hex) (by simp [BelL, Bel]) ?_; simp (maxSteps := 1000000) [vasD, natsD, hw, show ¬ (L.length : Int) < x.length by omega, show ¬ L.length < x.length by omega])
    | (refine jl_call (f := 14) rfl rfl rfl rfl rfl (hp) (by simp [BelL, Bel]) ?_; rintro r rfl; simp (maxSteps := 1000000) [vasD, natsD, hw, show ¬ (L.length : Int) < x.length by omega, show ¬ L.length < x.length by omega])
    | (refine jd_call (f := 14) rfl rfl rfl rfl rfl (hp) (by simp [BelL, Bel]) ?_; simp (maxSteps := 1000000) [vasD, natsD, hw, show ¬ (L.length : Int) < x.length by omega, show ¬ L.length < x.length by omega])
    | (refine jl_call (f := 18) rfl rfl rfl rfl rfl (hO) (by simp [BelL, Bel]) ?_; rintro r rfl; simp (maxSteps := 1000000) [vasD, natsD, hw, show ¬ (L.length : Int) < x.length by omega, show ¬ L.length < x.length by omega])
    | (refine jd_call (f := 18) rfl rfl rfl rfl rfl (hO) (by simp [BelL, Bel]) ?_; simp (maxSteps := 1000000) [vasD, natsD, hw, show ¬ (L.length : Int) < x.length by omega, show ¬ L.length < x.length by omega])
    | (refine jl_call (f := 22) rfl rfl rfl rfl rfl (hD) (by simp [BelL, Bel]) ?_; rintro r ⟨dd, q, c, hR, rfl⟩; simp (maxSteps := 1000000) [vasD, natsD, hw, show ¬ (L.length : Int) < x.length by omega, show ¬ L.length < x.length by omega])
    | (refine jd_newc rfl rfl (by simp) ?_; simp (maxSteps := 1000000) [thD, thL, vasD, natsD, hw, show ¬ (L.length : Int) < x.length by omega, show ¬ L.length < x.length by omega])
    | (refine okN_or ?_; simp (maxSteps := 1000000) [thD, thL, vasD, natsD, hw, show ¬ (L.length : Int) < x.length by omega, show ¬ L.length < x.length by omega])
    | (refine okC_guard (fun hc => ?_) (fun hc => ?_) <;> (first | simp (maxSteps := 1000000) [hc, of_decide_eq_true hc, vasD, natsD, hw, show ¬ (L.length : Int) < x.length by omega, show ¬ L.length < x.length by omega] | simp (maxSteps := 1000000) [hc, of_decide_eq_false hc, vasD, natsD, hw, show ¬ (L.length : Int) < x.length by omega, show ¬ L.length < x.length by omega] | simp (maxSteps := 1000000) [hc, vasD, natsD, hw, show ¬ (L.length : Int) < x.length by omega, show ¬ L.length < x.length by omega]) <;> (try simp at hc) <;> (try (exfalso; first | omega | exact absurd hc (by assumption))))
    | (refine okJ_guard (fun hc => ?_) (fun hc => ?_) <;> (first | simp (maxSteps := 1000000) [hc, of_decide_eq_true hc, vasD, natsD, hw, show ¬ (L.length : Int) < x.length by omega, show ¬ L.length < x.length by omega] | simp (maxSteps := 1000000) [hc, of_decide_eq_false hc, vasD, natsD, hw, show ¬ (L.length : Int) < x.length by omega, show ¬ L.length < x.length by omega] | simp (maxSteps := 1000000) [hc, vasD, natsD, hw, show ¬ (L.length : Int) < x.length by omega, show ¬ L.length < x.length by omega]) <;> (try simp at hc) <;> (try (exfalso; first | omega | exact absurd hc (by assumption))))
    | (refine And.intro (by first | assumption | omega | (simp [BelL, Bel]; done) | (simp; omega)) ?_; try simp (maxSteps := 1000000) [vasD, natsD, hw, show ¬ (L.length : Int) < x.length by omega, show ¬ L.length < x.length by omega])
    | (refine okC_or ?_; simp (maxSteps := 1000000) [vasD, natsD, hw, show ¬ (L.length : Int) < x.length by omega, show ¬ L.length < x.length by omega])
  have hlx := vas_len x
  rcases hcut hR with ⟨rfl, rfl, j, hj, rfl, _⟩ | ⟨rfl, rfl, j, hj, rfl, hjn, hjl, hjt⟩
  · have hS := sameVals (G := utfG) (x.take j) (by simp; omega)
    have hlj : (x.take j).length = j := by simp; omega
    rw [vasD, hlj] at hS
    repeat' first
      | refine jw_seq_k fun K hK => ?_
      | refine jw_block ?_
      | (refine jw_skip ?_; try simp)
      | (refine jw_exit ?_; try simp)
      | (refine jw_cond rfl (fun hc => ?_) (fun hc => ?_) <;> (try simp at hc) <;> (try (exfalso; first | omega | exact absurd hc (by assumption))))
      | (refine jw_c ?_; simp (maxSteps := 1000000) [vasD, hlj, hj, hlx, va_take, show (j : Int) ≤ x.length by omega, show j * 3 ≤ x.length * 3 by omega])
      | (refine jw_draw_j mixed (by kernel_rfl) ?_; simp (maxSteps := 1000000) [vasD, hlj, hj, hlx, va_take, show (j : Int) ≤ x.length by omega, show j * 3 ≤ x.length * 3 by omega])
      | (first | (apply hK; clear hK) | (clear hK; apply hK; clear hK) | (clear hK; clear hK; apply hK; clear hK) | (clear hK; clear hK; clear hK; apply hK; clear hK))
      | (refine jl_call (f := 23) rfl rfl rfl rfl rfl (hS) (by simp [BelL, Bel]) ?_; rintro r rfl; simp (maxSteps := 1000000) [vasD, hlj, hj, hlx, va_take, show (j : Int) ≤ x.length by omega, show j * 3 ≤ x.length * 3 by omega])
      | (refine jd_call (f := 23) rfl rfl rfl rfl rfl (hS) (by simp [BelL, Bel]) ?_; simp (maxSteps := 1000000) [vasD, hlj, hj, hlx, va_take, show (j : Int) ≤ x.length by omega, show j * 3 ≤ x.length * 3 by omega])
      | (refine jw_ret (hQ _ _ (.inr rfl) (ret_ok 0 ?_ (by first | omega | simp))); simp (maxSteps := 1000000) [okRet, BelL, Bel, BelS, BelOb, vasD, hlj, hj, hlx, va_take, show (j : Int) ≤ x.length by omega, show j * 3 ≤ x.length * 3 by omega])
      | (refine hQ _ _ (.inl rfl) (ret_ok 0 ?_ (by first | omega | simp)); simp (maxSteps := 1000000) [okRet, BelL, Bel, BelS, BelOb, vasD, hlj, hj, hlx, va_take, show (j : Int) ≤ x.length by omega, show j * 3 ≤ x.length * 3 by omega])
      | (refine jd_newc rfl rfl (by simp) ?_; simp (maxSteps := 1000000) [thD, thL, vasD, hlj, hj, hlx, va_take, show (j : Int) ≤ x.length by omega, show j * 3 ≤ x.length * 3 by omega])
      | (refine okN_or ?_; simp (maxSteps := 1000000) [thD, thL, vasD, hlj, hj, hlx, va_take, show (j : Int) ≤ x.length by omega, show j * 3 ≤ x.length * 3 by omega])
      | (refine okC_guard (fun hc => ?_) (fun hc => ?_) <;> (first | simp (maxSteps := 1000000) [hc, of_decide_eq_true hc, vasD, hlj, hj, hlx, va_take, show (j : Int) ≤ x.length by omega, show j * 3 ≤ x.length * 3 by omega] | simp (maxSteps := 1000000) [hc, of_decide_eq_false hc, vasD, hlj, hj, hlx, va_take, show (j : Int) ≤ x.length by omega, show j * 3 ≤ x.length * 3 by omega] | simp (maxSteps := 1000000) [hc, vasD, hlj, hj, hlx, va_take, show (j : Int) ≤ x.length by omega, show j * 3 ≤ x.length * 3 by omega]) <;> (try simp at hc) <;> (try (exfalso; first | omega | exact absurd hc (by assumption))))
      | (refine okJ_guard (fun hc => ?_) (fun hc => ?_) <;> (first | simp (maxSteps := 1000000) [hc, of_decide_eq_true hc, vasD, hlj, hj, hlx, va_take, show (j : Int) ≤ x.length by omega, show j * 3 ≤ x.length * 3 by omega] | simp (maxSteps := 1000000) [hc, of_decide_eq_false hc, vasD, hlj, hj, hlx, va_take, show (j : Int) ≤ x.length by omega, show j * 3 ≤ x.length * 3 by omega] | simp (maxSteps := 1000000) [hc, vasD, hlj, hj, hlx, va_take, show (j : Int) ≤ x.length by omega, show j * 3 ≤ x.length * 3 by omega]) <;> (try simp at hc) <;> (try (exfalso; first | omega | exact absurd hc (by assumption))))
      | (refine And.intro (by first | assumption | omega | (simp [BelL, Bel]; done) | (simp; omega)) ?_; try simp (maxSteps := 1000000) [vasD, hlj, hj, hlx, va_take, show (j : Int) ≤ x.length by omega, show j * 3 ≤ x.length * 3 by omega])
      | (refine okC_or ?_; simp (maxSteps := 1000000) [vasD, hlj, hj, hlx, va_take, show (j : Int) ≤ x.length by omega, show j * 3 ≤ x.length * 3 by omega])
  · have hy : ∀ v ∈ x.take j, VOk v := fun v hv => hx v (List.mem_of_mem_take hv)
    have hO2 := octN (G := utfG) L (encL (x.take j)).length (by omega) (by omega)
    rw [hjt] at hO2
    have hD2 := decodeF hvalid (encL (x.take j)) (encL_bytes hy) (by omega)
    have hS := sameVals (G := utfG) (x.take j) (by simp; omega)
    have hlj : (x.take j).length = j := by simp; omega
    rw [vasD, hlj] at hS
    generalize hY : encL (x.take j) = Y at *
    repeat' first
      | refine jw_ret (hQ _ _ (.inr rfl) ⟨5, _, _, rfl, rfl, ?_⟩)
      | refine jw_ret (hQ _ _ (.inr rfl) ⟨_, rfl, ?_⟩)
      | refine jw_seq_k fun K hK => ?_
      | refine jw_block ?_
      | (refine jw_skip ?_; try simp)
      | (refine jw_exit ?_; try simp)
      | (refine jw_cond rfl (fun hc => ?_) (fun hc => ?_) <;> (try simp at hc) <;> (try (exfalso; first | omega | exact absurd hc (by assumption))))
      | ((fail_if_success (refine jw_c (id := 12) ?_)); (refine jw_c ?_; simp (maxSteps := 1000000) [vasD, natsD, hjn, hjl, show ¬ (n : Int) ≤ Y.length by omega, show ¬ n ≤ Y.length by omega]))
      | ((fail_if_success (refine jw_draw_j (id := 12) mixed (by kernel_rfl) ?_)); (refine jw_draw_j mixed (by kernel_rfl) ?_; simp (maxSteps := 1000000) [vasD, natsD, hjn, hjl, show ¬ (n : Int) ≤ Y.length by omega, show ¬ n ≤ Y.length by omega]))
      | (first | (apply hK; clear hK) | (clear hK; apply hK; clear hK) | (clear hK; clear hK; apply hK; clear hK) | (clear hK; clear hK; clear hK; apply hK; clear hK))
      | exact hQ _ _ (.inl rfl) ⟨5, _, _, rfl, rfl, rfl⟩
      | refine hQ _ _ (.inl rfl) ⟨5, _, _, rfl, rfl, ?_⟩
      | refine hQ _ _ (.inl rfl) ⟨_, rfl, ?_⟩
      | (refine jl_call (f := 18) rfl rfl rfl rfl rfl (hO2) (by simp [BelL, Bel]) ?_; rintro r rfl; simp (maxSteps := 1000000) [vasD, natsD, hjn, hjl, show ¬ (n : Int) ≤ Y.length by omega, show ¬ n ≤ Y.length by omega])
      | (refine jd_call (f := 18) rfl rfl rfl rfl rfl (hO2) (by simp [BelL, Bel]) ?_; simp (maxSteps := 1000000) [vasD, natsD, hjn, hjl, show ¬ (n : Int) ≤ Y.length by omega, show ¬ n ≤ Y.length by omega])
      | (refine jl_call (f := 22) rfl rfl rfl rfl rfl (hD2) (by simp [BelL, Bel]) ?_; rintro r ⟨dd, q, c, hR2, rfl⟩; simp (maxSteps := 1000000) [vasD, natsD, hjn, hjl, show ¬ (n : Int) ≤ Y.length by omega, show ¬ n ≤ Y.length by omega])
      | (refine jd_newc rfl rfl (by simp) ?_; simp (maxSteps := 1000000) [thD, thL, vasD, natsD, hjn, hjl, show ¬ (n : Int) ≤ Y.length by omega, show ¬ n ≤ Y.length by omega])
      | (refine okN_or ?_; simp (maxSteps := 1000000) [thD, thL, vasD, natsD, hjn, hjl, show ¬ (n : Int) ≤ Y.length by omega, show ¬ n ≤ Y.length by omega])
      | (refine okC_guard (fun hc => ?_) (fun hc => ?_) <;> (first | simp (maxSteps := 1000000) [hc, of_decide_eq_true hc, vasD, natsD, hjn, hjl, show ¬ (n : Int) ≤ Y.length by omega, show ¬ n ≤ Y.length by omega] | simp (maxSteps := 1000000) [hc, of_decide_eq_false hc, vasD, natsD, hjn, hjl, show ¬ (n : Int) ≤ Y.length by omega, show ¬ n ≤ Y.length by omega] | simp (maxSteps := 1000000) [hc, vasD, natsD, hjn, hjl, show ¬ (n : Int) ≤ Y.length by omega, show ¬ n ≤ Y.length by omega]) <;> (try simp at hc) <;> (try (exfalso; first | omega | exact absurd hc (by assumption))))
      | (refine okJ_guard (fun hc => ?_) (fun hc => ?_) <;> (first | simp (maxSteps := 1000000) [hc, of_decide_eq_true hc, vasD, natsD, hjn, hjl, show ¬ (n : Int) ≤ Y.length by omega, show ¬ n ≤ Y.length by omega] | simp (maxSteps := 1000000) [hc, of_decide_eq_false hc, vasD, natsD, hjn, hjl, show ¬ (n : Int) ≤ Y.length by omega, show ¬ n ≤ Y.length by omega] | simp (maxSteps := 1000000) [hc, vasD, natsD, hjn, hjl, show ¬ (n : Int) ≤ Y.length by omega, show ¬ n ≤ Y.length by omega]) <;> (try simp at hc) <;> (try (exfalso; first | omega | exact absurd hc (by assumption))))
      | (refine And.intro (by first | assumption | omega | (simp [BelL, Bel]; done) | (simp; omega)) ?_; try simp (maxSteps := 1000000) [vasD, natsD, hjn, hjl, show ¬ (n : Int) ≤ Y.length by omega, show ¬ n ≤ Y.length by omega])
      | (refine okC_or ?_; simp (maxSteps := 1000000) [vasD, natsD, hjn, hjl, show ¬ (n : Int) ≤ Y.length by omega, show ¬ n ≤ Y.length by omega])
    rw [← hY] at hR2
    obtain ⟨rfl, rfl, rfl⟩ := dec_self hy (by simp; omega) hR2
    repeat' first
      | refine jw_seq_k fun K hK => ?_
      | refine jw_block ?_
      | (refine jw_skip ?_; try simp)
      | (refine jw_exit ?_; try simp)
      | (refine jw_cond rfl (fun hc => ?_) (fun hc => ?_) <;> (try simp at hc) <;> (try (exfalso; first | omega | exact absurd hc (by assumption))))
      | (refine jw_c ?_; simp (maxSteps := 1000000) [vasD, hlj, hj, hlx, va_take, show (j : Int) ≤ x.length by omega, show (j : Int) < x.length by omega, show j ≤ x.length by omega, show j * 3 ≤ x.length * 3 by omega])
      | (refine jw_draw_j mixed (by kernel_rfl) ?_; simp (maxSteps := 1000000) [vasD, hlj, hj, hlx, va_take, show (j : Int) ≤ x.length by omega, show (j : Int) < x.length by omega, show j ≤ x.length by omega, show j * 3 ≤ x.length * 3 by omega])
      | (first | (apply hK; clear hK) | (clear hK; apply hK; clear hK) | (clear hK; clear hK; apply hK; clear hK) | (clear hK; clear hK; clear hK; apply hK; clear hK))
      | (refine jl_call (f := 23) rfl rfl rfl rfl rfl (hS) (by simp [BelL, Bel]) ?_; rintro r rfl; simp (maxSteps := 1000000) [vasD, hlj, hj, hlx, va_take, show (j : Int) ≤ x.length by omega, show (j : Int) < x.length by omega, show j ≤ x.length by omega, show j * 3 ≤ x.length * 3 by omega])
      | (refine jd_call (f := 23) rfl rfl rfl rfl rfl (hS) (by simp [BelL, Bel]) ?_; simp (maxSteps := 1000000) [vasD, hlj, hj, hlx, va_take, show (j : Int) ≤ x.length by omega, show (j : Int) < x.length by omega, show j ≤ x.length by omega, show j * 3 ≤ x.length * 3 by omega])
      | (refine jw_ret (hQ _ _ (.inr rfl) (ret_ok 0 ?_ (by first | omega | simp))); simp (maxSteps := 1000000) [okRet, BelL, Bel, BelS, BelOb, vasD, hlj, hj, hlx, va_take, show (j : Int) ≤ x.length by omega, show (j : Int) < x.length by omega, show j ≤ x.length by omega, show j * 3 ≤ x.length * 3 by omega])
      | (refine hQ _ _ (.inl rfl) (ret_ok 0 ?_ (by first | omega | simp)); simp (maxSteps := 1000000) [okRet, BelL, Bel, BelS, BelOb, vasD, hlj, hj, hlx, va_take, show (j : Int) ≤ x.length by omega, show (j : Int) < x.length by omega, show j ≤ x.length by omega, show j * 3 ≤ x.length * 3 by omega])
      | (refine jd_newc rfl rfl (by simp) ?_; simp (maxSteps := 1000000) [thD, thL, vasD, hlj, hj, hlx, va_take, show (j : Int) ≤ x.length by omega, show (j : Int) < x.length by omega, show j ≤ x.length by omega, show j * 3 ≤ x.length * 3 by omega])
      | (refine okN_or ?_; simp (maxSteps := 1000000) [thD, thL, vasD, hlj, hj, hlx, va_take, show (j : Int) ≤ x.length by omega, show (j : Int) < x.length by omega, show j ≤ x.length by omega, show j * 3 ≤ x.length * 3 by omega])
      | (refine okC_guard (fun hc => ?_) (fun hc => ?_) <;> (first | simp (maxSteps := 1000000) [hc, of_decide_eq_true hc, vasD, hlj, hj, hlx, va_take, show (j : Int) ≤ x.length by omega, show (j : Int) < x.length by omega, show j ≤ x.length by omega, show j * 3 ≤ x.length * 3 by omega] | simp (maxSteps := 1000000) [hc, of_decide_eq_false hc, vasD, hlj, hj, hlx, va_take, show (j : Int) ≤ x.length by omega, show (j : Int) < x.length by omega, show j ≤ x.length by omega, show j * 3 ≤ x.length * 3 by omega] | simp (maxSteps := 1000000) [hc, vasD, hlj, hj, hlx, va_take, show (j : Int) ≤ x.length by omega, show (j : Int) < x.length by omega, show j ≤ x.length by omega, show j * 3 ≤ x.length * 3 by omega]) <;> (try simp at hc) <;> (try (exfalso; first | omega | exact absurd hc (by assumption))))
      | (refine okJ_guard (fun hc => ?_) (fun hc => ?_) <;> (first | simp (maxSteps := 1000000) [hc, of_decide_eq_true hc, vasD, hlj, hj, hlx, va_take, show (j : Int) ≤ x.length by omega, show (j : Int) < x.length by omega, show j ≤ x.length by omega, show j * 3 ≤ x.length * 3 by omega] | simp (maxSteps := 1000000) [hc, of_decide_eq_false hc, vasD, hlj, hj, hlx, va_take, show (j : Int) ≤ x.length by omega, show (j : Int) < x.length by omega, show j ≤ x.length by omega, show j * 3 ≤ x.length * 3 by omega] | simp (maxSteps := 1000000) [hc, vasD, hlj, hj, hlx, va_take, show (j : Int) ≤ x.length by omega, show (j : Int) < x.length by omega, show j ≤ x.length by omega, show j * 3 ≤ x.length * 3 by omega]) <;> (try simp at hc) <;> (try (exfalso; first | omega | exact absurd hc (by assumption))))
      | (refine And.intro (by first | assumption | omega | (simp [BelL, Bel]; done) | (simp; omega)) ?_; try simp (maxSteps := 1000000) [vasD, hlj, hj, hlx, va_take, show (j : Int) ≤ x.length by omega, show (j : Int) < x.length by omega, show j ≤ x.length by omega, show j * 3 ≤ x.length * 3 by omega])
      | (refine okC_or ?_; simp (maxSteps := 1000000) [vasD, hlj, hj, hlx, va_take, show (j : Int) ≤ x.length by omega, show (j : Int) < x.length by omega, show j ≤ x.length by omega, show j * 3 ≤ x.length * 3 by omega])
theorem keyCut (ls : List (List D)) (hr : Vm.Rows (Parts RawP) ls) (hz : ls.length * 32 ≤ 140737488351232) (_ : ls.length ≤ 9223372036854775807) (n : Int) (_ : (Lit.int .i64 n).wf = true) :
    FV Tryd.prog utfG 10 [.sl false ls.flatten ls.length, .int .i64 n] (fun r => r = .bool true) := by
  obtain ⟨l, h1, h2, h3⟩ := rws_of hr
  rw [h2, h3]
  exact keyCutW hvalid l (by omega) h1 n
end Go.Proofs.YtkjndbfinpfjfaaDoor
