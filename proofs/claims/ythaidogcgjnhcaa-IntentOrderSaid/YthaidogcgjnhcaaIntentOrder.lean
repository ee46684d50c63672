/- IntentOrder: the walk. -/
import Derived.Test.YthaidogcgjnhcaaIntentPure
import Derived.Test.YthaidogcgjnhcaaIntentRow
set_option linter.unusedVariables false
set_option linter.unusedSimpArgs false
set_option maxRecDepth 20000
set_option maxHeartbeats 20000000
namespace Go.Proofs.Ythaidogcgjnhcaa
open Go Go.Vm Go.Proofs

/-- What may not be is not encoded. -/
theorem encodeNo {G : Globals} (x : It) (hr : x.reads.length ≤ 140737488351232) (hw : x.writes.length ≤ 140737488351232) (h : mayB x = false) : FV Try.prog G 9 [itD x] (fun r => r = .tup [.sl false [] 0, .int .i64 4]) := by
  have hm := mayF (G := G) x hr hw
  rw [h] at hm
  refine fv_to ?_
  refine fv_enter_v Try.func9 rfl rfl fun Q hQ => ?_
  unfold itD itC rgsD wrsD at hm
  repeat' first
    | refine jw_ret (hQ _ _ (.inr rfl) ⟨5, _, _, rfl, rfl, ?_⟩)
    | refine jw_ret (hQ _ _ (.inr rfl) ⟨_, rfl, ?_⟩)
    | refine jw_seq_k fun K hK => ?_
    | refine jw_block ?_
    | (refine jw_skip ?_; try simp)
    | (refine jw_exit ?_; try simp)
    | (refine jw_cond rfl (fun hc => ?_) (fun hc => ?_) <;> (try simp at hc) <;> (try (exfalso; first | omega | exact absurd hc (by assumption))))
    | ((fail_if_success (refine jw_c (id := 1) ?_)); (refine jw_c ?_; simp (maxSteps := 1000000) [Try.f9, itD, itC, rgsD, wrsD]))
    | ((fail_if_success (refine jw_draw_j (id := 1) mixed (by kernel_rfl) ?_)); (refine jw_draw_j mixed (by kernel_rfl) ?_; simp (maxSteps := 1000000) [Try.f9, itD, itC, rgsD, wrsD]))
    | (first | (apply hK; clear hK) | (clear hK; apply hK; clear hK) | (clear hK; clear hK; apply hK; clear hK) | (clear hK; clear hK; clear hK; apply hK; clear hK))
    | exact hQ _ _ (.inl rfl) ⟨5, _, _, rfl, rfl, rfl⟩
    | refine hQ _ _ (.inl rfl) ⟨5, _, _, rfl, rfl, ?_⟩
    | refine hQ _ _ (.inl rfl) ⟨_, rfl, ?_⟩
    | (refine jd_newc rfl rfl (by simp) ?_; simp (maxSteps := 1000000) [thD, thL, Try.f9, itD, itC, rgsD, wrsD])
    | (refine okN_or ?_; simp (maxSteps := 1000000) [thD, thL, Try.f9, itD, itC, rgsD, wrsD])
    | (refine okC_guard (fun hc => ?_) (fun hc => ?_) <;> (first | simp (maxSteps := 1000000) [hc, of_decide_eq_true hc, Try.f9, itD, itC, rgsD, wrsD] | simp (maxSteps := 1000000) [hc, of_decide_eq_false hc, Try.f9, itD, itC, rgsD, wrsD] | simp (maxSteps := 1000000) [hc, Try.f9, itD, itC, rgsD, wrsD]) <;> (try simp at hc) <;> (try (exfalso; first | omega | exact absurd hc (by assumption))))
    | (refine okJ_guard (fun hc => ?_) (fun hc => ?_) <;> (first | simp (maxSteps := 1000000) [hc, of_decide_eq_true hc, Try.f9, itD, itC, rgsD, wrsD] | simp (maxSteps := 1000000) [hc, of_decide_eq_false hc, Try.f9, itD, itC, rgsD, wrsD] | simp (maxSteps := 1000000) [hc, Try.f9, itD, itC, rgsD, wrsD]) <;> (try simp at hc) <;> (try (exfalso; first | omega | exact absurd hc (by assumption))))
    | (refine And.intro (by first | assumption | omega | (simp [BelL, Bel]; done) | (simp; omega)) ?_; try simp (maxSteps := 1000000) [Try.f9, itD, itC, rgsD, wrsD])
    | (refine okC_or ?_; simp (maxSteps := 1000000) [Try.f9, itD, itC, rgsD, wrsD])
  (refine jw_view (view_frz 0 _ rfl (by simp [BelL, Bel])) ?_; simp (maxSteps := 1000000) [thL, thD, thS, thOb])
  repeat' first
    | refine jw_seq_k fun K hK => ?_
    | refine jw_block ?_
    | (refine jw_skip ?_; try simp)
    | (refine jw_exit ?_; try simp)
    | (refine jw_cond rfl (fun hc => ?_) (fun hc => ?_) <;> (try simp at hc) <;> (try (exfalso; first | omega | exact absurd hc (by assumption))))
    | (refine jw_c ?_; simp (maxSteps := 1000000))
    | (refine jw_draw_j mixed (by kernel_rfl) ?_; simp (maxSteps := 1000000))
    | (first | (apply hK; clear hK) | (clear hK; apply hK; clear hK) | (clear hK; clear hK; apply hK; clear hK) | (clear hK; clear hK; clear hK; apply hK; clear hK))
    | (refine jl_call (f := 7) rfl rfl rfl rfl rfl (hm) (by simp [BelL, Bel]) ?_; rintro r rfl; simp (maxSteps := 1000000))
    | (refine jd_call (f := 7) rfl rfl rfl rfl rfl (hm) (by simp [BelL, Bel]) ?_; simp (maxSteps := 1000000))
    | (refine jw_ret (hQ _ _ (.inr rfl) (ret_ok 0 ?_ (by first | omega | simp))); simp (maxSteps := 1000000) [okRet, BelL, Bel, BelS, BelOb])
    | (refine hQ _ _ (.inl rfl) (ret_ok 0 ?_ (by first | omega | simp)); simp (maxSteps := 1000000) [okRet, BelL, Bel, BelS, BelOb])
    | (refine jd_newc rfl rfl (by simp) ?_; simp (maxSteps := 1000000) [thD, thL])
    | (refine okN_or ?_; simp (maxSteps := 1000000) [thD, thL])
    | (refine okC_guard (fun hc => ?_) (fun hc => ?_) <;> (first | simp (maxSteps := 1000000) [hc, of_decide_eq_true hc] | simp (maxSteps := 1000000) [hc, of_decide_eq_false hc] | simp (maxSteps := 1000000) [hc]) <;> (try simp at hc) <;> (try (exfalso; first | omega | exact absurd hc (by assumption))))
    | (refine okJ_guard (fun hc => ?_) (fun hc => ?_) <;> (first | simp (maxSteps := 1000000) [hc, of_decide_eq_true hc] | simp (maxSteps := 1000000) [hc, of_decide_eq_false hc] | simp (maxSteps := 1000000) [hc]) <;> (try simp at hc) <;> (try (exfalso; first | omega | exact absurd hc (by assumption))))
    | (refine And.intro (by first | assumption | omega | (simp [BelL, Bel]; done) | (simp; omega)) ?_; try simp (maxSteps := 1000000))
    | (refine okC_or ?_; simp (maxSteps := 1000000))

theorem itD_eq (x : It) : itD x = .agg [.int .i64 x.client, .int .i64 x.number, .int .i64 x.base, .sl false (x.reads.flatMap rgC) x.reads.length, .sl false (x.writes.flatMap wrC) x.writes.length] := rfl
theorem intentOrderW (c n b : Int) (rs ws : List Int) (g : Bool) (hr : rs.length ≤ 140737488351232) (hri : ∀ x ∈ rs, -9223372036854775808 ≤ x ∧ x ≤ 9223372036854775807) (hw : ws.length ≤ 140737488351232) (at' : Int) :
    FV Try.prog [] 3 [wishD c n b rs ws g, .int .i64 at'] (fun r => r = .bool true) := by
  have hI := intentOfF (G := []) c n b rs ws g hr hri hw
  have hok := may_of c n b rs ws g
  have hwl : (intentOf c n b rs ws g).writes.length ≤ 12 := wrsTo_len _ _ _ _ _
  have hrl : (intentOf c n b rs ws g).reads.length ≤ 4 := by simp [intentOf]; omega
  generalize intentOf c n b rs ws g = x at *
  have hM := mayF (G := []) x (by omega) (by omega)
  rw [hok] at hM
  have hD := dup_no x
  obtain ⟨xc, xn, xb, R, W⟩ := x
  dsimp only at hwl hrl hD
  simp only [itD_eq] at hI hM
  refine fv_enter_v Try.func3 rfl rfl fun Q hQ => ?_
  by_cases h0 : W.length = 0
  · have hW : W = [] := List.length_eq_zero_iff.1 h0
    subst hW
    repeat' first
      | refine jw_seq_k fun K hK => ?_
      | refine jw_block ?_
      | (refine jw_skip ?_; try simp)
      | (refine jw_exit ?_; try simp)
      | (refine jw_cond rfl (fun hc => ?_) (fun hc => ?_) <;> (try simp at hc) <;> (try (exfalso; first | omega | exact absurd hc (by assumption))))
      | (refine jw_c ?_; simp (maxSteps := 1000000) [Try.f3, wishD])
      | (refine jw_draw_j mixed (by kernel_rfl) ?_; simp (maxSteps := 1000000) [Try.f3, wishD])
      | (first | (apply hK; clear hK) | (clear hK; apply hK; clear hK) | (clear hK; clear hK; apply hK; clear hK) | (clear hK; clear hK; clear hK; apply hK; clear hK))
      | (refine jl_call (f := 6) rfl rfl rfl rfl rfl (hI) (by simp [BelL, Bel]) ?_; rintro r rfl; simp (maxSteps := 1000000) [Try.f3, wishD])
      | (refine jd_call (f := 6) rfl rfl rfl rfl rfl (hI) (by simp [BelL, Bel]) ?_; simp (maxSteps := 1000000) [Try.f3, wishD])
      | (refine jl_call (f := 7) rfl rfl rfl rfl rfl (hM) (by simp [BelL, Bel]) ?_; rintro r rfl; simp (maxSteps := 1000000) [Try.f3, wishD])
      | (refine jd_call (f := 7) rfl rfl rfl rfl rfl (hM) (by simp [BelL, Bel]) ?_; simp (maxSteps := 1000000) [Try.f3, wishD])
      | (refine jw_ret (hQ _ _ (.inr rfl) (ret_ok 0 ?_ (by first | omega | simp))); simp (maxSteps := 1000000) [okRet, BelL, Bel, BelS, BelOb, Try.f3, wishD])
      | (refine hQ _ _ (.inl rfl) (ret_ok 0 ?_ (by first | omega | simp)); simp (maxSteps := 1000000) [okRet, BelL, Bel, BelS, BelOb, Try.f3, wishD])
      | (refine jd_newc rfl rfl (by simp) ?_; simp (maxSteps := 1000000) [thD, thL, Try.f3, wishD])
      | (refine okN_or ?_; simp (maxSteps := 1000000) [thD, thL, Try.f3, wishD])
      | (refine okC_guard (fun hc => ?_) (fun hc => ?_) <;> (first | simp (maxSteps := 1000000) [hc, of_decide_eq_true hc, Try.f3, wishD] | simp (maxSteps := 1000000) [hc, of_decide_eq_false hc, Try.f3, wishD] | simp (maxSteps := 1000000) [hc, Try.f3, wishD]) <;> (try simp at hc) <;> (try (exfalso; first | omega | exact absurd hc (by assumption))))
      | (refine okJ_guard (fun hc => ?_) (fun hc => ?_) <;> (first | simp (maxSteps := 1000000) [hc, of_decide_eq_true hc, Try.f3, wishD] | simp (maxSteps := 1000000) [hc, of_decide_eq_false hc, Try.f3, wishD] | simp (maxSteps := 1000000) [hc, Try.f3, wishD]) <;> (try simp at hc) <;> (try (exfalso; first | omega | exact absurd hc (by assumption))))
      | (refine And.intro (by first | assumption | omega | (simp [BelL, Bel]; done) | (simp; omega)) ?_; try simp (maxSteps := 1000000) [Try.f3, wishD])
      | (refine okC_or ?_; simp (maxSteps := 1000000) [Try.f3, wishD])
  · have i0 := Int.emod_nonneg at' (show (W.length : Int) ≠ 0 by omega)
    have i1 := Int.emod_lt_of_pos at' (show (0 : Int) < W.length by omega)
    have hp := pickedG (G := []) at' W.length (by omega) (by omega)
    obtain ⟨i, hi⟩ : ∃ i : Nat, at' % (W.length : Int) = i := ⟨(at' % (W.length : Int)).toNat, by omega⟩
    rw [hi] at hp i1
    have hlt : i < W.length := by omega
    have hD := hD i hlt
    have hdr := flat_drop wrC_len W i hlt
    have hdr2 := flat_drop wrC_len W i hlt
    have hlen := wrs_len W
    have hw1 := wrap_i64 (n := (i : Int) + 1) (by omega) (by omega)
    have hb0 : ((W.length : Int) == 0) = false := by
      rw [beq_eq_false_iff_ne]
      omega
    have hno : mayB ⟨xc, xn, xb, R, W.take (i + 1) ++ [W[i]] ++ W.drop (i + 1)⟩ = false := hD
    obtain ⟨w, hx⟩ : ∃ w, W[i] = w := ⟨_, rfl⟩
    obtain ⟨Y, hY⟩ : ∃ Y, W.take (i + 1) ++ [w] ++ W.drop (i + 1) = Y := ⟨_, rfl⟩
    rw [hx, hY] at hno
    rw [hx] at hdr
    have hYl : Y.length = W.length + 1 := by rw [← hY]; simp only [List.length_append, List.length_take, List.length_drop, List.length_singleton]; omega
    have hYf : (W.take (i + 1)).flatMap wrC ++ D.sl false (w.key.map (D.int .u8)) w.key.length :: D.sl false (w.val.map (D.int .u8)) w.val.length :: D.bool w.gone :: (W.drop (i + 1)).flatMap wrC = Y.flatMap wrC := by rw [← hY]; simp [wrC, numsD]
    have hYn := wrs_len Y
    rw [hYl] at hYn
    have hYt : List.take ((W.length + 1) * 3) (Y.flatMap wrC) = Y.flatMap wrC := List.take_of_length_le (by omega)
    have hMY := mayF (G := []) ⟨xc, xn, xb, R, Y⟩ (by dsimp only; omega) (by dsimp only; omega)
    have hEY := encodeNo (G := []) ⟨xc, xn, xb, R, Y⟩ (by dsimp only; omega) (by dsimp only; omega) hno
    rw [hno] at hMY
    simp only [itD_eq] at hMY hEY
    rw [hYl] at hMY hEY
    have ht1 : List.take ((i + 1) * 3) (W.flatMap wrC) = (W.take (i + 1)).flatMap wrC := flat_take wrC_len W (i + 1)
    have hl1 : ((W.take (i + 1)).flatMap wrC).length = (i + 1) * 3 := by rw [wrs_len]; simp; omega
    have hd1 : List.drop ((i + 1) * 3) (W.flatMap wrC) = (W.drop (i + 1)).flatMap wrC := by
      have h1 := List.take_append_drop ((i + 1) * 3) (W.flatMap wrC)
      rw [ht1] at h1
      have h2 : W.flatMap wrC = (W.take (i + 1)).flatMap wrC ++ (W.drop (i + 1)).flatMap wrC := by rw [← List.flatMap_append, List.take_append_drop]
      conv at h1 => rhs; rw [h2]
      exact List.append_cancel_left h1
    have hl2 : ((W.drop (i + 1)).flatMap wrC).length = (W.length - (i + 1)) * 3 := by rw [wrs_len]; simp
    have hdt : List.take ((W.length - (i + 1)) * 3) ((W.drop (i + 1)).flatMap wrC) = (W.drop (i + 1)).flatMap wrC := List.take_of_length_le (by omega)
    repeat' first
      | refine jw_ret (hQ _ _ (.inr rfl) ⟨5, _, _, rfl, rfl, ?_⟩)
      | refine jw_ret (hQ _ _ (.inr rfl) ⟨_, rfl, ?_⟩)
      | refine jw_seq_k fun K hK => ?_
      | refine jw_block ?_
      | (refine jw_skip ?_; try simp)
      | (refine jw_exit ?_; try simp)
      | (refine jw_cond rfl (fun hc => ?_) (fun hc => ?_) <;> (try simp at hc) <;> (try (exfalso; first | omega | exact absurd hc (by assumption))))
      | ((fail_if_success (refine jw_c (id := 8) ?_)); (refine jw_c ?_; simp (maxSteps := 1000000) [Try.f3, wishD, hb0]))
      | ((fail_if_success (refine jw_draw_j (id := 8) mixed (by kernel_rfl) ?_)); (refine jw_draw_j mixed (by kernel_rfl) ?_; simp (maxSteps := 1000000) [Try.f3, wishD, hb0]))
      | (first | (apply hK; clear hK) | (clear hK; apply hK; clear hK) | (clear hK; clear hK; apply hK; clear hK) | (clear hK; clear hK; clear hK; apply hK; clear hK))
      | exact hQ _ _ (.inl rfl) ⟨5, _, _, rfl, rfl, rfl⟩
      | refine hQ _ _ (.inl rfl) ⟨5, _, _, rfl, rfl, ?_⟩
      | refine hQ _ _ (.inl rfl) ⟨_, rfl, ?_⟩
      | (refine jl_call (f := 6) rfl rfl rfl rfl rfl (hI) (by simp [BelL, Bel]) ?_; rintro r rfl; simp (maxSteps := 1000000) [Try.f3, wishD, hb0])
      | (refine jd_call (f := 6) rfl rfl rfl rfl rfl (hI) (by simp [BelL, Bel]) ?_; simp (maxSteps := 1000000) [Try.f3, wishD, hb0])
      | (refine jl_call (f := 7) rfl rfl rfl rfl rfl (hM) (by simp [BelL, Bel]) ?_; rintro r rfl; simp (maxSteps := 1000000) [Try.f3, wishD, hb0])
      | (refine jd_call (f := 7) rfl rfl rfl rfl rfl (hM) (by simp [BelL, Bel]) ?_; simp (maxSteps := 1000000) [Try.f3, wishD, hb0])
      | (refine jl_call (f := 8) rfl rfl rfl rfl rfl (hp) (by simp [BelL, Bel]) ?_; rintro r rfl; simp (maxSteps := 1000000) [Try.f3, wishD, hb0])
      | (refine jd_call (f := 8) rfl rfl rfl rfl rfl (hp) (by simp [BelL, Bel]) ?_; simp (maxSteps := 1000000) [Try.f3, wishD, hb0])
      | (refine jd_newc rfl rfl (by simp) ?_; simp (maxSteps := 1000000) [thD, thL, Try.f3, wishD, hb0])
      | (refine okN_or ?_; simp (maxSteps := 1000000) [thD, thL, Try.f3, wishD, hb0])
      | (refine okC_guard (fun hc => ?_) (fun hc => ?_) <;> (first | simp (maxSteps := 1000000) [hc, of_decide_eq_true hc, Try.f3, wishD, hb0] | simp (maxSteps := 1000000) [hc, of_decide_eq_false hc, Try.f3, wishD, hb0] | simp (maxSteps := 1000000) [hc, Try.f3, wishD, hb0]) <;> (try simp at hc) <;> (try (exfalso; first | omega | exact absurd hc (by assumption))))
      | (refine okJ_guard (fun hc => ?_) (fun hc => ?_) <;> (first | simp (maxSteps := 1000000) [hc, of_decide_eq_true hc, Try.f3, wishD, hb0] | simp (maxSteps := 1000000) [hc, of_decide_eq_false hc, Try.f3, wishD, hb0] | simp (maxSteps := 1000000) [hc, Try.f3, wishD, hb0]) <;> (try simp at hc) <;> (try (exfalso; first | omega | exact absurd hc (by assumption))))
      | (refine And.intro (by first | assumption | omega | (simp [BelL, Bel]; done) | (simp; omega)) ?_; try simp (maxSteps := 1000000) [Try.f3, wishD, hb0])
      | (refine okC_or ?_; simp (maxSteps := 1000000) [Try.f3, wishD, hb0])
    (refine jw_view (view_frz 0 _ rfl (by simp [BelL, Bel, thL_flat, thD_flat])) ?_; simp (maxSteps := 1000000) [thL, thD, thS, thOb, thL_flat, thD_flat])
    (refine jw_view (view_frz 1 _ rfl (by simp [BelL, Bel, thL_flat, thD_flat])) ?_; simp (maxSteps := 1000000) [thL, thD, thS, thOb, thL_flat, thD_flat])
    clear hD hI hM hp
    repeat' first
      | refine jw_ret (hQ _ _ (.inr rfl) ⟨5, _, _, rfl, rfl, ?_⟩)
      | refine jw_ret (hQ _ _ (.inr rfl) ⟨_, rfl, ?_⟩)
      | refine jw_seq_k fun K hK => ?_
      | refine jw_block ?_
      | (refine jw_skip ?_; try simp)
      | (refine jw_exit ?_; try simp)
      | (refine jw_cond rfl (fun hc => ?_) (fun hc => ?_) <;> (try simp at hc) <;> (try (exfalso; first | omega | exact absurd hc (by assumption))))
      | ((fail_if_success (refine jw_c (id := 9) ?_)); (refine jw_c ?_; simp (maxSteps := 1000000) [hw1, i1, show i + 1 ≤ W.length by omega, hdr, hx, hlen, ht1, hl1, hd1, hl2, hYf, okCell, wrC, show (i : Int) + 1 ≤ W.length by omega, show i * 3 < W.length * 3 by omega, show (0 : Int) ≤ (i : Int) + 1 by omega, show i + 1 ≤ 100 by omega, show i + 1 + 1 ≤ 100 by omega, show ((i : Int) + 1).toNat = i + 1 by omega, show (i + 1) * 3 + 3 = (i + 1 + 1) * 3 by omega, show i + 1 + 1 + (W.length - (i + 1)) = W.length + 1 by omega, show (i + 1 + 1) * 3 + (W.length - (i + 1)) * 3 = (W.length + 1) * 3 by omega, show W.length + 1 ≤ 100 by omega, show (W.length + 1) * 56 ≤ 140737488355328 by omega, hdt, hYn, numsD]))
      | (refine jw_draw_e (id := 8) [(5, 13), (12, 13), (18, 13), (19, 9), (20, 2)] mixed (by kernel_rfl) (by kernel_rfl) ?_; simp (maxSteps := 1000000) [hw1, i1, show i + 1 ≤ W.length by omega, hdr, hx, hlen, ht1, hl1, hd1, hl2, hYf, okCell, wrC, show (i : Int) + 1 ≤ W.length by omega, show i * 3 < W.length * 3 by omega, show (0 : Int) ≤ (i : Int) + 1 by omega, show i + 1 ≤ 100 by omega, show i + 1 + 1 ≤ 100 by omega, show ((i : Int) + 1).toNat = i + 1 by omega, show (i + 1) * 3 + 3 = (i + 1 + 1) * 3 by omega, show i + 1 + 1 + (W.length - (i + 1)) = W.length + 1 by omega, show (i + 1 + 1) * 3 + (W.length - (i + 1)) * 3 = (W.length + 1) * 3 by omega, show W.length + 1 ≤ 100 by omega, show (W.length + 1) * 56 ≤ 140737488355328 by omega, hdt, hYn, numsD])
      | ((fail_if_success (refine jw_draw_j (id := 9) mixed (by kernel_rfl) ?_)); (refine jw_draw_j mixed (by kernel_rfl) ?_; simp (maxSteps := 1000000) [hw1, i1, show i + 1 ≤ W.length by omega, hdr, hx, hlen, ht1, hl1, hd1, hl2, hYf, okCell, wrC, show (i : Int) + 1 ≤ W.length by omega, show i * 3 < W.length * 3 by omega, show (0 : Int) ≤ (i : Int) + 1 by omega, show i + 1 ≤ 100 by omega, show i + 1 + 1 ≤ 100 by omega, show ((i : Int) + 1).toNat = i + 1 by omega, show (i + 1) * 3 + 3 = (i + 1 + 1) * 3 by omega, show i + 1 + 1 + (W.length - (i + 1)) = W.length + 1 by omega, show (i + 1 + 1) * 3 + (W.length - (i + 1)) * 3 = (W.length + 1) * 3 by omega, show W.length + 1 ≤ 100 by omega, show (W.length + 1) * 56 ≤ 140737488355328 by omega, hdt, hYn, numsD]))
      | (first | (apply hK; clear hK) | (clear hK; apply hK; clear hK) | (clear hK; clear hK; apply hK; clear hK) | (clear hK; clear hK; clear hK; apply hK; clear hK))
      | exact hQ _ _ (.inl rfl) ⟨5, _, _, rfl, rfl, rfl⟩
      | refine hQ _ _ (.inl rfl) ⟨5, _, _, rfl, rfl, ?_⟩
      | refine hQ _ _ (.inl rfl) ⟨_, rfl, ?_⟩
      | (refine jd_newc rfl rfl (by simp) ?_; simp (maxSteps := 1000000) [thD, thL, hw1, i1, show i + 1 ≤ W.length by omega, hdr, hx, hlen, ht1, hl1, hd1, hl2, hYf, okCell, wrC, show (i : Int) + 1 ≤ W.length by omega, show i * 3 < W.length * 3 by omega, show (0 : Int) ≤ (i : Int) + 1 by omega, show i + 1 ≤ 100 by omega, show i + 1 + 1 ≤ 100 by omega, show ((i : Int) + 1).toNat = i + 1 by omega, show (i + 1) * 3 + 3 = (i + 1 + 1) * 3 by omega, show i + 1 + 1 + (W.length - (i + 1)) = W.length + 1 by omega, show (i + 1 + 1) * 3 + (W.length - (i + 1)) * 3 = (W.length + 1) * 3 by omega, show W.length + 1 ≤ 100 by omega, show (W.length + 1) * 56 ≤ 140737488355328 by omega, hdt, hYn, numsD])
      | (refine okN_or ?_; simp (maxSteps := 1000000) [thD, thL, hw1, i1, show i + 1 ≤ W.length by omega, hdr, hx, hlen, ht1, hl1, hd1, hl2, hYf, okCell, wrC, show (i : Int) + 1 ≤ W.length by omega, show i * 3 < W.length * 3 by omega, show (0 : Int) ≤ (i : Int) + 1 by omega, show i + 1 ≤ 100 by omega, show i + 1 + 1 ≤ 100 by omega, show ((i : Int) + 1).toNat = i + 1 by omega, show (i + 1) * 3 + 3 = (i + 1 + 1) * 3 by omega, show i + 1 + 1 + (W.length - (i + 1)) = W.length + 1 by omega, show (i + 1 + 1) * 3 + (W.length - (i + 1)) * 3 = (W.length + 1) * 3 by omega, show W.length + 1 ≤ 100 by omega, show (W.length + 1) * 56 ≤ 140737488355328 by omega, hdt, hYn, numsD])
      | (refine js_newc rfl rfl (by simp) rfl ?_; simp (maxSteps := 1000000) [hw1, i1, show i + 1 ≤ W.length by omega, hdr, hx, hlen, ht1, hl1, hd1, hl2, hYf, okCell, wrC, show (i : Int) + 1 ≤ W.length by omega, show i * 3 < W.length * 3 by omega, show (0 : Int) ≤ (i : Int) + 1 by omega, show i + 1 ≤ 100 by omega, show i + 1 + 1 ≤ 100 by omega, show ((i : Int) + 1).toNat = i + 1 by omega, show (i + 1) * 3 + 3 = (i + 1 + 1) * 3 by omega, show i + 1 + 1 + (W.length - (i + 1)) = W.length + 1 by omega, show (i + 1 + 1) * 3 + (W.length - (i + 1)) * 3 = (W.length + 1) * 3 by omega, show W.length + 1 ≤ 100 by omega, show (W.length + 1) * 56 ≤ 140737488355328 by omega, hdt, hYn, numsD])
      | (refine okM_or ?_; simp (maxSteps := 1000000) [hw1, i1, show i + 1 ≤ W.length by omega, hdr, hx, hlen, ht1, hl1, hd1, hl2, hYf, okCell, wrC, show (i : Int) + 1 ≤ W.length by omega, show i * 3 < W.length * 3 by omega, show (0 : Int) ≤ (i : Int) + 1 by omega, show i + 1 ≤ 100 by omega, show i + 1 + 1 ≤ 100 by omega, show ((i : Int) + 1).toNat = i + 1 by omega, show (i + 1) * 3 + 3 = (i + 1 + 1) * 3 by omega, show i + 1 + 1 + (W.length - (i + 1)) = W.length + 1 by omega, show (i + 1 + 1) * 3 + (W.length - (i + 1)) * 3 = (W.length + 1) * 3 by omega, show W.length + 1 ≤ 100 by omega, show (W.length + 1) * 56 ≤ 140737488355328 by omega, hdt, hYn, numsD])
      | (refine okS_or ?_; simp (maxSteps := 1000000) [hw1, i1, show i + 1 ≤ W.length by omega, hdr, hx, hlen, ht1, hl1, hd1, hl2, hYf, okCell, wrC, show (i : Int) + 1 ≤ W.length by omega, show i * 3 < W.length * 3 by omega, show (0 : Int) ≤ (i : Int) + 1 by omega, show i + 1 ≤ 100 by omega, show i + 1 + 1 ≤ 100 by omega, show ((i : Int) + 1).toNat = i + 1 by omega, show (i + 1) * 3 + 3 = (i + 1 + 1) * 3 by omega, show i + 1 + 1 + (W.length - (i + 1)) = W.length + 1 by omega, show (i + 1 + 1) * 3 + (W.length - (i + 1)) * 3 = (W.length + 1) * 3 by omega, show W.length + 1 ≤ 100 by omega, show (W.length + 1) * 56 ≤ 140737488355328 by omega, hdt, hYn, numsD])
      | (refine okS_guard (fun hc => ?_) (fun hc => ?_) <;> (first | simp (maxSteps := 1000000) [hc, of_decide_eq_true hc, hw1, i1, show i + 1 ≤ W.length by omega, hdr, hx, hlen, ht1, hl1, hd1, hl2, hYf, okCell, wrC, show (i : Int) + 1 ≤ W.length by omega, show i * 3 < W.length * 3 by omega, show (0 : Int) ≤ (i : Int) + 1 by omega, show i + 1 ≤ 100 by omega, show i + 1 + 1 ≤ 100 by omega, show ((i : Int) + 1).toNat = i + 1 by omega, show (i + 1) * 3 + 3 = (i + 1 + 1) * 3 by omega, show i + 1 + 1 + (W.length - (i + 1)) = W.length + 1 by omega, show (i + 1 + 1) * 3 + (W.length - (i + 1)) * 3 = (W.length + 1) * 3 by omega, show W.length + 1 ≤ 100 by omega, show (W.length + 1) * 56 ≤ 140737488355328 by omega, hdt, hYn, numsD] | simp (maxSteps := 1000000) [hc, of_decide_eq_false hc, hw1, i1, show i + 1 ≤ W.length by omega, hdr, hx, hlen, ht1, hl1, hd1, hl2, hYf, okCell, wrC, show (i : Int) + 1 ≤ W.length by omega, show i * 3 < W.length * 3 by omega, show (0 : Int) ≤ (i : Int) + 1 by omega, show i + 1 ≤ 100 by omega, show i + 1 + 1 ≤ 100 by omega, show ((i : Int) + 1).toNat = i + 1 by omega, show (i + 1) * 3 + 3 = (i + 1 + 1) * 3 by omega, show i + 1 + 1 + (W.length - (i + 1)) = W.length + 1 by omega, show (i + 1 + 1) * 3 + (W.length - (i + 1)) * 3 = (W.length + 1) * 3 by omega, show W.length + 1 ≤ 100 by omega, show (W.length + 1) * 56 ≤ 140737488355328 by omega, hdt, hYn, numsD] | simp (maxSteps := 1000000) [hc, hw1, i1, show i + 1 ≤ W.length by omega, hdr, hx, hlen, ht1, hl1, hd1, hl2, hYf, okCell, wrC, show (i : Int) + 1 ≤ W.length by omega, show i * 3 < W.length * 3 by omega, show (0 : Int) ≤ (i : Int) + 1 by omega, show i + 1 ≤ 100 by omega, show i + 1 + 1 ≤ 100 by omega, show ((i : Int) + 1).toNat = i + 1 by omega, show (i + 1) * 3 + 3 = (i + 1 + 1) * 3 by omega, show i + 1 + 1 + (W.length - (i + 1)) = W.length + 1 by omega, show (i + 1 + 1) * 3 + (W.length - (i + 1)) * 3 = (W.length + 1) * 3 by omega, show W.length + 1 ≤ 100 by omega, show (W.length + 1) * 56 ≤ 140737488355328 by omega, hdt, hYn, numsD]) <;> (try simp at hc) <;> (try (exfalso; first | omega | exact absurd hc (by assumption))))
      | (refine okC_guard (fun hc => ?_) (fun hc => ?_) <;> (first | simp (maxSteps := 1000000) [hc, of_decide_eq_true hc, hw1, i1, show i + 1 ≤ W.length by omega, hdr, hx, hlen, ht1, hl1, hd1, hl2, hYf, okCell, wrC, show (i : Int) + 1 ≤ W.length by omega, show i * 3 < W.length * 3 by omega, show (0 : Int) ≤ (i : Int) + 1 by omega, show i + 1 ≤ 100 by omega, show i + 1 + 1 ≤ 100 by omega, show ((i : Int) + 1).toNat = i + 1 by omega, show (i + 1) * 3 + 3 = (i + 1 + 1) * 3 by omega, show i + 1 + 1 + (W.length - (i + 1)) = W.length + 1 by omega, show (i + 1 + 1) * 3 + (W.length - (i + 1)) * 3 = (W.length + 1) * 3 by omega, show W.length + 1 ≤ 100 by omega, show (W.length + 1) * 56 ≤ 140737488355328 by omega, hdt, hYn, numsD] | simp (maxSteps := 1000000) [hc, of_decide_eq_false hc, hw1, i1, show i + 1 ≤ W.length by omega, hdr, hx, hlen, ht1, hl1, hd1, hl2, hYf, okCell, wrC, show (i : Int) + 1 ≤ W.length by omega, show i * 3 < W.length * 3 by omega, show (0 : Int) ≤ (i : Int) + 1 by omega, show i + 1 ≤ 100 by omega, show i + 1 + 1 ≤ 100 by omega, show ((i : Int) + 1).toNat = i + 1 by omega, show (i + 1) * 3 + 3 = (i + 1 + 1) * 3 by omega, show i + 1 + 1 + (W.length - (i + 1)) = W.length + 1 by omega, show (i + 1 + 1) * 3 + (W.length - (i + 1)) * 3 = (W.length + 1) * 3 by omega, show W.length + 1 ≤ 100 by omega, show (W.length + 1) * 56 ≤ 140737488355328 by omega, hdt, hYn, numsD] | simp (maxSteps := 1000000) [hc, hw1, i1, show i + 1 ≤ W.length by omega, hdr, hx, hlen, ht1, hl1, hd1, hl2, hYf, okCell, wrC, show (i : Int) + 1 ≤ W.length by omega, show i * 3 < W.length * 3 by omega, show (0 : Int) ≤ (i : Int) + 1 by omega, show i + 1 ≤ 100 by omega, show i + 1 + 1 ≤ 100 by omega, show ((i : Int) + 1).toNat = i + 1 by omega, show (i + 1) * 3 + 3 = (i + 1 + 1) * 3 by omega, show i + 1 + 1 + (W.length - (i + 1)) = W.length + 1 by omega, show (i + 1 + 1) * 3 + (W.length - (i + 1)) * 3 = (W.length + 1) * 3 by omega, show W.length + 1 ≤ 100 by omega, show (W.length + 1) * 56 ≤ 140737488355328 by omega, hdt, hYn, numsD]) <;> (try simp at hc) <;> (try (exfalso; first | omega | exact absurd hc (by assumption))))
      | (refine okJ_guard (fun hc => ?_) (fun hc => ?_) <;> (first | simp (maxSteps := 1000000) [hc, of_decide_eq_true hc, hw1, i1, show i + 1 ≤ W.length by omega, hdr, hx, hlen, ht1, hl1, hd1, hl2, hYf, okCell, wrC, show (i : Int) + 1 ≤ W.length by omega, show i * 3 < W.length * 3 by omega, show (0 : Int) ≤ (i : Int) + 1 by omega, show i + 1 ≤ 100 by omega, show i + 1 + 1 ≤ 100 by omega, show ((i : Int) + 1).toNat = i + 1 by omega, show (i + 1) * 3 + 3 = (i + 1 + 1) * 3 by omega, show i + 1 + 1 + (W.length - (i + 1)) = W.length + 1 by omega, show (i + 1 + 1) * 3 + (W.length - (i + 1)) * 3 = (W.length + 1) * 3 by omega, show W.length + 1 ≤ 100 by omega, show (W.length + 1) * 56 ≤ 140737488355328 by omega, hdt, hYn, numsD] | simp (maxSteps := 1000000) [hc, of_decide_eq_false hc, hw1, i1, show i + 1 ≤ W.length by omega, hdr, hx, hlen, ht1, hl1, hd1, hl2, hYf, okCell, wrC, show (i : Int) + 1 ≤ W.length by omega, show i * 3 < W.length * 3 by omega, show (0 : Int) ≤ (i : Int) + 1 by omega, show i + 1 ≤ 100 by omega, show i + 1 + 1 ≤ 100 by omega, show ((i : Int) + 1).toNat = i + 1 by omega, show (i + 1) * 3 + 3 = (i + 1 + 1) * 3 by omega, show i + 1 + 1 + (W.length - (i + 1)) = W.length + 1 by omega, show (i + 1 + 1) * 3 + (W.length - (i + 1)) * 3 = (W.length + 1) * 3 by omega, show W.length + 1 ≤ 100 by omega, show (W.length + 1) * 56 ≤ 140737488355328 by omega, hdt, hYn, numsD] | simp (maxSteps := 1000000) [hc, hw1, i1, show i + 1 ≤ W.length by omega, hdr, hx, hlen, ht1, hl1, hd1, hl2, hYf, okCell, wrC, show (i : Int) + 1 ≤ W.length by omega, show i * 3 < W.length * 3 by omega, show (0 : Int) ≤ (i : Int) + 1 by omega, show i + 1 ≤ 100 by omega, show i + 1 + 1 ≤ 100 by omega, show ((i : Int) + 1).toNat = i + 1 by omega, show (i + 1) * 3 + 3 = (i + 1 + 1) * 3 by omega, show i + 1 + 1 + (W.length - (i + 1)) = W.length + 1 by omega, show (i + 1 + 1) * 3 + (W.length - (i + 1)) * 3 = (W.length + 1) * 3 by omega, show W.length + 1 ≤ 100 by omega, show (W.length + 1) * 56 ≤ 140737488355328 by omega, hdt, hYn, numsD]) <;> (try simp at hc) <;> (try (exfalso; first | omega | exact absurd hc (by assumption))))
      | (refine And.intro (by first | assumption | omega | (simp [BelL, Bel]; done) | (simp; omega)) ?_; try simp (maxSteps := 1000000) [hw1, i1, show i + 1 ≤ W.length by omega, hdr, hx, hlen, ht1, hl1, hd1, hl2, hYf, okCell, wrC, show (i : Int) + 1 ≤ W.length by omega, show i * 3 < W.length * 3 by omega, show (0 : Int) ≤ (i : Int) + 1 by omega, show i + 1 ≤ 100 by omega, show i + 1 + 1 ≤ 100 by omega, show ((i : Int) + 1).toNat = i + 1 by omega, show (i + 1) * 3 + 3 = (i + 1 + 1) * 3 by omega, show i + 1 + 1 + (W.length - (i + 1)) = W.length + 1 by omega, show (i + 1 + 1) * 3 + (W.length - (i + 1)) * 3 = (W.length + 1) * 3 by omega, show W.length + 1 ≤ 100 by omega, show (W.length + 1) * 56 ≤ 140737488355328 by omega, hdt, hYn, numsD])
      | (refine okC_or ?_; simp (maxSteps := 1000000) [hw1, i1, show i + 1 ≤ W.length by omega, hdr, hx, hlen, ht1, hl1, hd1, hl2, hYf, okCell, wrC, show (i : Int) + 1 ≤ W.length by omega, show i * 3 < W.length * 3 by omega, show (0 : Int) ≤ (i : Int) + 1 by omega, show i + 1 ≤ 100 by omega, show i + 1 + 1 ≤ 100 by omega, show ((i : Int) + 1).toNat = i + 1 by omega, show (i + 1) * 3 + 3 = (i + 1 + 1) * 3 by omega, show i + 1 + 1 + (W.length - (i + 1)) = W.length + 1 by omega, show (i + 1 + 1) * 3 + (W.length - (i + 1)) * 3 = (W.length + 1) * 3 by omega, show W.length + 1 ≤ 100 by omega, show (W.length + 1) * 56 ≤ 140737488355328 by omega, hdt, hYn, numsD])
    (refine jw_view (view_frz 3 _ rfl (by simp [BelL, Bel, thL_flat, thD_flat, hYn, hYt])) ?_; simp (maxSteps := 1000000) [thL, thD, thS, thOb, thL_flat, thD_flat, hYn, hYt])
    repeat' first
      | refine jw_seq_k fun K hK => ?_
      | refine jw_block ?_
      | (refine jw_skip ?_; try simp)
      | (refine jw_exit ?_; try simp)
      | (refine jw_cond rfl (fun hc => ?_) (fun hc => ?_) <;> (try simp at hc) <;> (try (exfalso; first | omega | exact absurd hc (by assumption))))
      | (refine jw_c ?_; simp (maxSteps := 1000000))
      | (refine jw_draw_j mixed (by kernel_rfl) ?_; simp (maxSteps := 1000000))
      | (first | (apply hK; clear hK) | (clear hK; apply hK; clear hK) | (clear hK; clear hK; apply hK; clear hK) | (clear hK; clear hK; clear hK; apply hK; clear hK))
      | (refine jl_call (f := 9) rfl rfl rfl rfl rfl (hEY) (by simp [BelL, Bel]) ?_; rintro r rfl; simp (maxSteps := 1000000))
      | (refine jd_call (f := 9) rfl rfl rfl rfl rfl (hEY) (by simp [BelL, Bel]) ?_; simp (maxSteps := 1000000))
      | (refine jl_call (f := 7) rfl rfl rfl rfl rfl (hMY) (by simp [BelL, Bel]) ?_; rintro r rfl; simp (maxSteps := 1000000))
      | (refine jd_call (f := 7) rfl rfl rfl rfl rfl (hMY) (by simp [BelL, Bel]) ?_; simp (maxSteps := 1000000))
      | (refine jw_ret (hQ _ _ (.inr rfl) (ret_ok 0 ?_ (by first | omega | simp))); simp (maxSteps := 1000000) [okRet, BelL, Bel, BelS, BelOb])
      | (refine hQ _ _ (.inl rfl) (ret_ok 0 ?_ (by first | omega | simp)); simp (maxSteps := 1000000) [okRet, BelL, Bel, BelS, BelOb])
      | (refine jd_newc rfl rfl (by simp) ?_; simp (maxSteps := 1000000) [thD, thL])
      | (refine okN_or ?_; simp (maxSteps := 1000000) [thD, thL])
      | (refine okC_guard (fun hc => ?_) (fun hc => ?_) <;> (first | simp (maxSteps := 1000000) [hc, of_decide_eq_true hc] | simp (maxSteps := 1000000) [hc, of_decide_eq_false hc] | simp (maxSteps := 1000000) [hc]) <;> (try simp at hc) <;> (try (exfalso; first | omega | exact absurd hc (by assumption))))
      | (refine okJ_guard (fun hc => ?_) (fun hc => ?_) <;> (first | simp (maxSteps := 1000000) [hc, of_decide_eq_true hc] | simp (maxSteps := 1000000) [hc, of_decide_eq_false hc] | simp (maxSteps := 1000000) [hc]) <;> (try simp at hc) <;> (try (exfalso; first | omega | exact absurd hc (by assumption))))
      | (refine And.intro (by first | assumption | omega | (simp [BelL, Bel]; done) | (simp; omega)) ?_; try simp (maxSteps := 1000000))
      | (refine okC_or ?_; simp (maxSteps := 1000000))
theorem intentOrder (a : List D) (ap : Parts WishP a) (i : Int) (_ : (Lit.int .i64 i).wf = true) : FV Try.prog [] 3 [.agg a, .int .i64 i] (fun r => r = .bool true) := by
  obtain ⟨c, n, b, rs, ws, g, h1, h2, h3, e⟩ := wish_of ap
  rw [e]
  exact intentOrderW c n b rs ws g h1 h2 h3 i
end Go.Proofs.Ythaidogcgjnhcaa
