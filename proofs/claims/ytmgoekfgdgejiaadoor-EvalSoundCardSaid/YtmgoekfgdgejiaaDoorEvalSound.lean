/- EvalSound: the walk. -/
import Derived.Test.YtmgoekfgdgejiaaDoorGrown
import Derived.Test.YtmgoekfgdgejiaaDoorRaw
set_option linter.unusedVariables false
set_option linter.unusedSimpArgs false
set_option maxRecDepth 20000
set_option maxHeartbeats 20000000
namespace Go.Proofs.YtmgoekfgdgejiaaDoor
open Go Go.Vm Go.Proofs

theorem raws_of : ∀ {ls : List (List D)}, Vm.Rows (Parts RawP) ls → ∃ l : List Rw, ls.flatten = l.flatMap rwC ∧ ls.length = l.length ∧ ∀ w ∈ l, RwOk w
  | [], _ => ⟨[], rfl, rfl, by simp⟩
  | _ :: _, .cons _ ls h t => by
    obtain ⟨l, g2, g3, g4⟩ := raws_of t
    obtain ⟨_, _, ⟨k, hk, rfl⟩, ⟨_, _, ⟨i, hi, rfl⟩, ⟨_, _, ⟨s, hs, rfl⟩, rfl, rfl⟩, rfl⟩, rfl⟩ := h
    have hi2 := wf_i64 hi
    refine ⟨⟨k, i, s⟩ :: l, by simp [rwC, g2], by simp [g3], fun w hw => ?_⟩
    rcases List.mem_cons.1 hw with rfl | hw
    · exact ⟨hi2.1, hi2.2, by dsimp only; omega⟩
    · exact g4 w hw
theorem tws_of : ∀ {ls : List (List D)}, Vm.Rows (Parts RawP) ls → ∃ l : List Tw, ls.flatten = l.flatMap twC ∧ ls.length = l.length ∧ ∀ w ∈ l, TwOk w
  | [], _ => ⟨[], rfl, rfl, by simp⟩
  | _ :: _, .cons _ ls h t => by
    obtain ⟨l, g2, g3, g4⟩ := tws_of t
    obtain ⟨_, _, ⟨k, hk, rfl⟩, ⟨_, _, ⟨i, hi, rfl⟩, ⟨_, _, ⟨s, hs, rfl⟩, rfl, rfl⟩, rfl⟩, rfl⟩ := h
    have hi2 := wf_i64 hi
    refine ⟨⟨k, i, s⟩ :: l, by simp [twC, g2], by simp [g3], fun w hw => ?_⟩
    rcases List.mem_cons.1 hw with rfl | hw
    · exact ⟨hi2.1, hi2.2, by dsimp only; omega⟩
    · exact g4 w hw
abbrev sT : List Int := [2, 3, 1, 2]
theorem sT_ok : ∀ t ∈ sT, t = 1 ∨ t = 2 ∨ t = 3 := by
  intro t h
  simp at h
  omega
theorem someF {G : Globals} : FV Tryd.prog G 12 [] (fun r => r = numsD .i64 sT) := by
  refine fv_enter_v Tryd.func12 rfl rfl fun Q hQ => ?_
  repeat' first
    | refine jw_seq_k fun K hK => ?_
    | refine jw_block ?_
    | ((first | refine jw_skip ?_ | refine jw_exit ?_); try simp)
    | (refine jw_cond rfl (fun hc => ?_) (fun hc => ?_) <;> (try simp at hc) <;> (try (exfalso; first | omega | exact absurd hc (by assumption))))
    | ((first | refine jw_c ?_ | refine jw_draw_j mixed (by kernel_rfl) ?_); simp (maxSteps := 1000000) [Tryd.f12, numsD])
    | (first | (apply hK; clear hK) | (clear hK; apply hK; clear hK) | (clear hK; clear hK; apply hK; clear hK) | (clear hK; clear hK; clear hK; apply hK; clear hK))
    | ((first | refine jw_ret (hQ _ _ (.inr rfl) (ret_okF 0 0 rfl (by simp [BelL, Bel, Tryd.f12, numsD]) ?_ (by first | omega | simp))) | refine hQ _ _ (.inl rfl) (ret_okF 0 0 rfl (by simp [BelL, Bel, Tryd.f12, numsD]) ?_ (by first | omega | simp))); simp (maxSteps := 1000000) [okRetF, thS, thOb, thD, thL, BelL, Bel, BelS, BelOb, Tryd.f12, numsD])
    | ((first | refine jd_newc rfl rfl (by simp) ?_ | refine okN_or ?_); simp (maxSteps := 1000000) [thD, thL, Tryd.f12, numsD])
    | ((first | refine okC_guard (fun hc => ?_) (fun hc => ?_) | refine okJ_guard (fun hc => ?_) (fun hc => ?_)) <;> (first | have hd := of_decide_eq_true hc | have hd := of_decide_eq_false hc | have hd := hc) <;> simp (maxSteps := 1000000) [hc, hd, Tryd.f12, numsD] <;> (try simp at hc) <;> (try (exfalso; first | omega | exact absurd hc (by assumption))))
    | (refine And.intro (by first | assumption | omega | (simp [BelL, Bel]; done) | (simp; omega)) ?_; try simp (maxSteps := 1000000) [Tryd.f12, numsD])
    | (refine okC_or ?_; simp (maxSteps := 1000000) [Tryd.f12, numsD])
/-- An expression that grew. -/
theorem grown_ok {tws : List Tw} (hw : ∀ w ∈ tws, TwOk w) {n t : Nat} (h1 : 1 ≤ t) (h3 : t ≤ 3) : ∃ x, (popR (growR sT tws n) t).1 = x ∧ wt sT x t ∧ dp x ≤ 10 := by
  obtain ⟨a, b, _⟩ := inv_pop (grow_inv sT_ok tws hw n) h1 h3
  exact ⟨_, rfl, a, b⟩
theorem evalSound {G : Globals} (hV : VStr G) (tws : List Tw) (hw : ∀ w ∈ tws, TwOk w) (hl : tws.length ≤ 140737488351232) (rws : List Rw) (hr : ∀ w ∈ rws, RwOk w) (hrl : rws.length ≤ 140737488351232) (want : Int) :
    FV Tryd.prog G 5 [twsD tws, rwsD rws, .int .i64 want] (fun r => r = .bool true) := by
  have p1 := pickedG (G := G) want 3 (by omega) (by omega)
  have m0 := Int.emod_nonneg want (show (3 : Int) ≠ 0 by omega)
  have m1 := Int.emod_lt_of_pos want (show (0 : Int) < 3 by omega)
  obtain ⟨t, ht⟩ : ∃ t : Nat, 1 + want % 3 = t := ⟨(1 + want % 3).toNat, by omega⟩
  have hwr : IntKind.i64.wrap (1 + want % 3) = (t : Int) := by rw [wrap_i64 (by omega) (by omega)]; exact ht
  have ht0 : 0 < t := by omega
  obtain ⟨x, hx, hwt, hdp⟩ := grown_ok hw (n := 30) (t := t) (by omega) (by omega)
  have hG := grownF (G := G) sT_ok (by simp) tws hw hl 30 (by omega) (want := t) (by omega)
  rw [hx] at hG
  have hS := someF (G := G)
  have hR := rowOfF (G := G) sT sT_ok (by simp) rws hr hrl
  obtain ⟨ro, rv⟩ := rowR_ok sT_ok hr
  have hE := evalTopF (G := G) hV ro rv (by rw [rowR_len]; simp) hwt (by omega)
  have hM := mayTopF (G := G) hV hwt (by omega)
  rw [show ((sT.length : Nat) : Int) = 4 from rfl] at hM
  have hce := sound ro x t hwt
  have t3 := exC_all x
  generalize evE (rowR sT rws) x = R at *
  generalize rowR sT rws = row at *
  unfold twsD rwsD exD rowD at *
  refine fv_enter_v Tryd.func5 rfl rfl fun Q hQ => ?_
  repeat' first
    | refine jw_ret (hQ _ _ (.inr rfl) ⟨5, _, _, rfl, rfl, ?_⟩)
    | refine jw_ret (hQ _ _ (.inr rfl) ⟨_, rfl, ?_⟩)
    | refine jw_seq_k fun K hK => ?_
    | refine jw_block ?_
    | ((first | refine jw_skip ?_ | refine jw_exit ?_); try simp)
    | (refine jw_cond rfl (fun hc => ?_) (fun hc => ?_) <;> (try simp at hc) <;> (try (exfalso; first | omega | exact absurd hc (by assumption))))
    | ((fail_if_success (refine jw_c (id := 3) ?_)); (refine jw_c ?_; simp (maxSteps := 1000000) [Tryd.f5, hwr, okCell, t3]))
    | ((fail_if_success (refine jw_draw_j (id := 3) mixed (by kernel_rfl) ?_)); (refine jw_draw_j mixed (by kernel_rfl) ?_; simp (maxSteps := 1000000) [Tryd.f5, hwr, okCell, t3]))
    | (first | (apply hK; clear hK) | (clear hK; apply hK; clear hK) | (clear hK; clear hK; apply hK; clear hK) | (clear hK; clear hK; clear hK; apply hK; clear hK))
    | exact hQ _ _ (.inl rfl) ⟨5, _, _, rfl, rfl, rfl⟩
    | refine hQ _ _ (.inl rfl) ⟨5, _, _, rfl, rfl, ?_⟩
    | refine hQ _ _ (.inl rfl) ⟨_, rfl, ?_⟩
    | ((first | (refine jl_call (f := 8) rfl rfl rfl rfl rfl (p1) (by simp [BelL, Bel]) ?_; rintro r rfl) | refine jd_call (f := 8) rfl rfl rfl rfl rfl (p1) (by simp [BelL, Bel]) ?_ | (refine jl_call (f := 12) rfl rfl rfl rfl rfl (hS) (by simp [BelL, Bel]) ?_; rintro r rfl) | refine jd_call (f := 12) rfl rfl rfl rfl rfl (hS) (by simp [BelL, Bel]) ?_ | (refine jl_call (f := 11) rfl rfl rfl rfl rfl (hG) (by simp [BelL, Bel]) ?_; rintro r rfl) | refine jd_call (f := 11) rfl rfl rfl rfl rfl (hG) (by simp [BelL, Bel]) ?_); simp (maxSteps := 1000000) [Tryd.f5, hwr, okCell, t3])
    | ((first | refine jd_newc rfl rfl (by simp) ?_ | refine okN_or ?_); simp (maxSteps := 1000000) [thD, thL, Tryd.f5, hwr, okCell, t3])
    | ((first | refine okC_guard (fun hc => ?_) (fun hc => ?_) | refine okJ_guard (fun hc => ?_) (fun hc => ?_)) <;> (first | have hd := of_decide_eq_true hc | have hd := of_decide_eq_false hc | have hd := hc) <;> simp (maxSteps := 1000000) [hc, hd, Tryd.f5, hwr, okCell, t3] <;> (try simp at hc) <;> (try (exfalso; first | omega | exact absurd hc (by assumption))))
    | (refine And.intro (by first | assumption | omega | (simp [BelL, Bel]; done) | (simp; omega)) ?_; try simp (maxSteps := 1000000) [Tryd.f5, hwr, okCell, t3])
    | (refine okC_or ?_; simp (maxSteps := 1000000) [Tryd.f5, hwr, okCell, t3])
  (refine jw_view (view_frz 0 _ rfl (by simp [BelL, Bel, thL_flat])) ?_; simp (maxSteps := 1000000) [thL, thD, thS, thOb, thL_flat])
  rcases hce with ⟨h0, hok, hk⟩ | ⟨hv, h10⟩
  · have hC := checkV hV hok
    unfold vrD vlD at *
    unfold vlC at hC
    rcases hk with hk | hk
    · rw [hk] at hC
      repeat' first
        | refine jw_seq_k fun K hK => ?_
        | refine jw_block ?_
        | ((first | refine jw_skip ?_ | refine jw_exit ?_); try simp)
        | (refine jw_cond rfl (fun hc => ?_) (fun hc => ?_) <;> (try simp at hc) <;> (try (exfalso; first | omega | exact absurd hc (by assumption))))
        | ((first | refine jw_c ?_ | refine jw_draw_e (id := 3) [(8, 2), (9, 2)] mixed (by kernel_rfl) (by kernel_rfl) ?_ | refine jw_draw_j mixed (by kernel_rfl) ?_ | (refine jl_call (f := 12) rfl rfl rfl rfl rfl (hS) (by simp [BelL, Bel]) ?_; rintro r rfl) | refine jd_call (f := 12) rfl rfl rfl rfl rfl (hS) (by simp [BelL, Bel]) ?_ | refine js_call (f := 12) rfl rfl rfl rfl rfl (hS) (by simp [BelL, Bel]) rfl ?_ | (refine jl_call (f := 13) rfl rfl rfl rfl rfl (hR) (by simp [BelL, Bel]) ?_; rintro r rfl) | refine jd_call (f := 13) rfl rfl rfl rfl rfl (hR) (by simp [BelL, Bel]) ?_ | refine js_call (f := 13) rfl rfl rfl rfl rfl (hR) (by simp [BelL, Bel]) rfl ?_ | (refine jl_call (f := 10) rfl rfl rfl rfl rfl (hE) (by simp [BelL, Bel]) ?_; rintro r rfl) | refine jd_call (f := 10) rfl rfl rfl rfl rfl (hE) (by simp [BelL, Bel]) ?_ | refine js_call (f := 10) rfl rfl rfl rfl rfl (hE) (by simp [BelL, Bel]) rfl ?_ | (refine jl_call (f := 15) rfl rfl rfl rfl rfl (hM) (by simp [BelL, Bel]) ?_; rintro r rfl) | refine jd_call (f := 15) rfl rfl rfl rfl rfl (hM) (by simp [BelL, Bel]) ?_ | refine js_call (f := 15) rfl rfl rfl rfl rfl (hM) (by simp [BelL, Bel]) rfl ?_ | (refine jl_call (f := 16) rfl rfl rfl rfl rfl (hC) (by simp [BelL, Bel]) ?_; rintro r rfl) | refine jd_call (f := 16) rfl rfl rfl rfl rfl (hC) (by simp [BelL, Bel]) ?_ | refine js_call (f := 16) rfl rfl rfl rfl rfl (hC) (by simp [BelL, Bel]) rfl ?_ | refine js_newc rfl rfl (by simp) rfl ?_ | refine okM_or ?_ | refine okS_or ?_); simp (maxSteps := 1000000) [vlC, okCell, t3, h0, hk, ht0, show ¬ t = 0 by omega, show ¬ (0 : Int) = t by omega])
        | (first | (apply hK; clear hK) | (clear hK; apply hK; clear hK) | (clear hK; clear hK; apply hK; clear hK) | (clear hK; clear hK; clear hK; apply hK; clear hK))
        | ((first | refine jw_ret (hQ _ _ (.inr rfl) (ret_ok 0 ?_ (by first | omega | simp))) | refine hQ _ _ (.inl rfl) (ret_ok 0 ?_ (by first | omega | simp))); simp (maxSteps := 1000000) [okRet, BelL, Bel, BelS, BelOb, vlC, okCell, t3, h0, hk, ht0, show ¬ t = 0 by omega, show ¬ (0 : Int) = t by omega])
        | ((first | refine jd_newc rfl rfl (by simp) ?_ | refine okN_or ?_); simp (maxSteps := 1000000) [thD, thL, vlC, okCell, t3, h0, hk, ht0, show ¬ t = 0 by omega, show ¬ (0 : Int) = t by omega])
        | ((first | refine okS_guard (fun hc => ?_) (fun hc => ?_) | refine okC_guard (fun hc => ?_) (fun hc => ?_) | refine okJ_guard (fun hc => ?_) (fun hc => ?_)) <;> (first | have hd := of_decide_eq_true hc | have hd := of_decide_eq_false hc | have hd := hc) <;> simp (maxSteps := 1000000) [hc, hd, vlC, okCell, t3, h0, hk, ht0, show ¬ t = 0 by omega, show ¬ (0 : Int) = t by omega] <;> (try simp at hc) <;> (try (exfalso; first | omega | exact absurd hc (by assumption))))
        | (refine And.intro (by first | assumption | omega | (simp [BelL, Bel]; done) | (simp; omega)) ?_; try simp (maxSteps := 1000000) [vlC, okCell, t3, h0, hk, ht0, show ¬ t = 0 by omega, show ¬ (0 : Int) = t by omega])
        | (refine okC_or ?_; simp (maxSteps := 1000000) [vlC, okCell, t3, h0, hk, ht0, show ¬ t = 0 by omega, show ¬ (0 : Int) = t by omega])
    · rw [hk] at hC
      repeat' first
        | refine jw_seq_k fun K hK => ?_
        | refine jw_block ?_
        | ((first | refine jw_skip ?_ | refine jw_exit ?_); try simp)
        | (refine jw_cond rfl (fun hc => ?_) (fun hc => ?_) <;> (try simp at hc) <;> (try (exfalso; first | omega | exact absurd hc (by assumption))))
        | ((first | refine jw_c ?_ | refine jw_draw_e (id := 3) [(8, 2), (9, 2)] mixed (by kernel_rfl) (by kernel_rfl) ?_ | refine jw_draw_j mixed (by kernel_rfl) ?_ | (refine jl_call (f := 12) rfl rfl rfl rfl rfl (hS) (by simp [BelL, Bel]) ?_; rintro r rfl) | refine jd_call (f := 12) rfl rfl rfl rfl rfl (hS) (by simp [BelL, Bel]) ?_ | refine js_call (f := 12) rfl rfl rfl rfl rfl (hS) (by simp [BelL, Bel]) rfl ?_ | (refine jl_call (f := 13) rfl rfl rfl rfl rfl (hR) (by simp [BelL, Bel]) ?_; rintro r rfl) | refine jd_call (f := 13) rfl rfl rfl rfl rfl (hR) (by simp [BelL, Bel]) ?_ | refine js_call (f := 13) rfl rfl rfl rfl rfl (hR) (by simp [BelL, Bel]) rfl ?_ | (refine jl_call (f := 10) rfl rfl rfl rfl rfl (hE) (by simp [BelL, Bel]) ?_; rintro r rfl) | refine jd_call (f := 10) rfl rfl rfl rfl rfl (hE) (by simp [BelL, Bel]) ?_ | refine js_call (f := 10) rfl rfl rfl rfl rfl (hE) (by simp [BelL, Bel]) rfl ?_ | (refine jl_call (f := 15) rfl rfl rfl rfl rfl (hM) (by simp [BelL, Bel]) ?_; rintro r rfl) | refine jd_call (f := 15) rfl rfl rfl rfl rfl (hM) (by simp [BelL, Bel]) ?_ | refine js_call (f := 15) rfl rfl rfl rfl rfl (hM) (by simp [BelL, Bel]) rfl ?_ | (refine jl_call (f := 16) rfl rfl rfl rfl rfl (hC) (by simp [BelL, Bel]) ?_; rintro r rfl) | refine jd_call (f := 16) rfl rfl rfl rfl rfl (hC) (by simp [BelL, Bel]) ?_ | refine js_call (f := 16) rfl rfl rfl rfl rfl (hC) (by simp [BelL, Bel]) rfl ?_ | refine js_newc rfl rfl (by simp) rfl ?_ | refine okM_or ?_ | refine okS_or ?_); simp (maxSteps := 1000000) [vlC, okCell, t3, h0, hk, ht0])
        | (first | (apply hK; clear hK) | (clear hK; apply hK; clear hK) | (clear hK; clear hK; apply hK; clear hK) | (clear hK; clear hK; clear hK; apply hK; clear hK))
        | ((first | refine jw_ret (hQ _ _ (.inr rfl) (ret_ok 0 ?_ (by first | omega | simp))) | refine hQ _ _ (.inl rfl) (ret_ok 0 ?_ (by first | omega | simp))); simp (maxSteps := 1000000) [okRet, BelL, Bel, BelS, BelOb, vlC, okCell, t3, h0, hk, ht0])
        | ((first | refine jd_newc rfl rfl (by simp) ?_ | refine okN_or ?_); simp (maxSteps := 1000000) [thD, thL, vlC, okCell, t3, h0, hk, ht0])
        | ((first | refine okS_guard (fun hc => ?_) (fun hc => ?_) | refine okC_guard (fun hc => ?_) (fun hc => ?_) | refine okJ_guard (fun hc => ?_) (fun hc => ?_)) <;> (first | have hd := of_decide_eq_true hc | have hd := of_decide_eq_false hc | have hd := hc) <;> simp (maxSteps := 1000000) [hc, hd, vlC, okCell, t3, h0, hk, ht0] <;> (try simp at hc) <;> (try (exfalso; first | omega | exact absurd hc (by assumption))))
        | (refine And.intro (by first | assumption | omega | (simp [BelL, Bel]; done) | (simp; omega)) ?_; try simp (maxSteps := 1000000) [vlC, okCell, t3, h0, hk, ht0])
        | (refine okC_or ?_; simp (maxSteps := 1000000) [vlC, okCell, t3, h0, hk, ht0])
  · obtain ⟨Rv, Re⟩ := R
    dsimp only at hv h10
    subst hv
    unfold vrD vlD at *
    rcases h10 with rfl | rfl
    · repeat' first
        | refine jw_seq_k fun K hK => ?_
        | refine jw_block ?_
        | ((first | refine jw_skip ?_ | refine jw_exit ?_); try simp)
        | (refine jw_cond rfl (fun hc => ?_) (fun hc => ?_) <;> (try simp at hc) <;> (try (exfalso; first | omega | exact absurd hc (by assumption))))
        | ((first | refine jw_c ?_ | refine jw_draw_e (id := 3) [(8, 2), (9, 2)] mixed (by kernel_rfl) (by kernel_rfl) ?_ | refine jw_draw_j mixed (by kernel_rfl) ?_ | (refine jl_call (f := 12) rfl rfl rfl rfl rfl (hS) (by simp [BelL, Bel]) ?_; rintro r rfl) | refine jd_call (f := 12) rfl rfl rfl rfl rfl (hS) (by simp [BelL, Bel]) ?_ | refine js_call (f := 12) rfl rfl rfl rfl rfl (hS) (by simp [BelL, Bel]) rfl ?_ | (refine jl_call (f := 13) rfl rfl rfl rfl rfl (hR) (by simp [BelL, Bel]) ?_; rintro r rfl) | refine jd_call (f := 13) rfl rfl rfl rfl rfl (hR) (by simp [BelL, Bel]) ?_ | refine js_call (f := 13) rfl rfl rfl rfl rfl (hR) (by simp [BelL, Bel]) rfl ?_ | (refine jl_call (f := 10) rfl rfl rfl rfl rfl (hE) (by simp [BelL, Bel]) ?_; rintro r rfl) | refine jd_call (f := 10) rfl rfl rfl rfl rfl (hE) (by simp [BelL, Bel]) ?_ | refine js_call (f := 10) rfl rfl rfl rfl rfl (hE) (by simp [BelL, Bel]) rfl ?_ | (refine jl_call (f := 15) rfl rfl rfl rfl rfl (hM) (by simp [BelL, Bel]) ?_; rintro r rfl) | refine jd_call (f := 15) rfl rfl rfl rfl rfl (hM) (by simp [BelL, Bel]) ?_ | refine js_call (f := 15) rfl rfl rfl rfl rfl (hM) (by simp [BelL, Bel]) rfl ?_ | refine js_newc rfl rfl (by simp) rfl ?_ | refine okM_or ?_ | refine okS_or ?_); simp (maxSteps := 1000000) [vlC, vl0, okCell, t3, ba0, show (bytesS []).toList = [] from ByteArray.toList_eq _])
        | (first | (apply hK; clear hK) | (clear hK; apply hK; clear hK) | (clear hK; clear hK; apply hK; clear hK) | (clear hK; clear hK; clear hK; apply hK; clear hK))
        | ((first | refine jw_ret (hQ _ _ (.inr rfl) (ret_ok 0 ?_ (by first | omega | simp))) | refine hQ _ _ (.inl rfl) (ret_ok 0 ?_ (by first | omega | simp))); simp (maxSteps := 1000000) [okRet, BelL, Bel, BelS, BelOb, vlC, vl0, okCell, t3, ba0, show (bytesS []).toList = [] from ByteArray.toList_eq _])
        | ((first | refine jd_newc rfl rfl (by simp) ?_ | refine okN_or ?_); simp (maxSteps := 1000000) [thD, thL, vlC, vl0, okCell, t3, ba0, show (bytesS []).toList = [] from ByteArray.toList_eq _])
        | ((first | refine okS_guard (fun hc => ?_) (fun hc => ?_) | refine okC_guard (fun hc => ?_) (fun hc => ?_) | refine okJ_guard (fun hc => ?_) (fun hc => ?_)) <;> (first | have hd := of_decide_eq_true hc | have hd := of_decide_eq_false hc | have hd := hc) <;> simp (maxSteps := 1000000) [hc, hd, vlC, vl0, okCell, t3, ba0, show (bytesS []).toList = [] from ByteArray.toList_eq _] <;> (try simp at hc) <;> (try (exfalso; first | omega | exact absurd hc (by assumption))))
        | (refine And.intro (by first | assumption | omega | (simp [BelL, Bel]; done) | (simp; omega)) ?_; try simp (maxSteps := 1000000) [vlC, vl0, okCell, t3, ba0, show (bytesS []).toList = [] from ByteArray.toList_eq _])
        | (refine okC_or ?_; simp (maxSteps := 1000000) [vlC, vl0, okCell, t3, ba0, show (bytesS []).toList = [] from ByteArray.toList_eq _])
    · repeat' first
        | refine jw_seq_k fun K hK => ?_
        | refine jw_block ?_
        | ((first | refine jw_skip ?_ | refine jw_exit ?_); try simp)
        | (refine jw_cond rfl (fun hc => ?_) (fun hc => ?_) <;> (try simp at hc) <;> (try (exfalso; first | omega | exact absurd hc (by assumption))))
        | ((first | refine jw_c ?_ | refine jw_draw_e (id := 3) [(8, 2), (9, 2)] mixed (by kernel_rfl) (by kernel_rfl) ?_ | refine jw_draw_j mixed (by kernel_rfl) ?_ | (refine jl_call (f := 12) rfl rfl rfl rfl rfl (hS) (by simp [BelL, Bel]) ?_; rintro r rfl) | refine jd_call (f := 12) rfl rfl rfl rfl rfl (hS) (by simp [BelL, Bel]) ?_ | refine js_call (f := 12) rfl rfl rfl rfl rfl (hS) (by simp [BelL, Bel]) rfl ?_ | (refine jl_call (f := 13) rfl rfl rfl rfl rfl (hR) (by simp [BelL, Bel]) ?_; rintro r rfl) | refine jd_call (f := 13) rfl rfl rfl rfl rfl (hR) (by simp [BelL, Bel]) ?_ | refine js_call (f := 13) rfl rfl rfl rfl rfl (hR) (by simp [BelL, Bel]) rfl ?_ | (refine jl_call (f := 10) rfl rfl rfl rfl rfl (hE) (by simp [BelL, Bel]) ?_; rintro r rfl) | refine jd_call (f := 10) rfl rfl rfl rfl rfl (hE) (by simp [BelL, Bel]) ?_ | refine js_call (f := 10) rfl rfl rfl rfl rfl (hE) (by simp [BelL, Bel]) rfl ?_ | (refine jl_call (f := 15) rfl rfl rfl rfl rfl (hM) (by simp [BelL, Bel]) ?_; rintro r rfl) | refine jd_call (f := 15) rfl rfl rfl rfl rfl (hM) (by simp [BelL, Bel]) ?_ | refine js_call (f := 15) rfl rfl rfl rfl rfl (hM) (by simp [BelL, Bel]) rfl ?_ | refine js_newc rfl rfl (by simp) rfl ?_ | refine okM_or ?_ | refine okS_or ?_); simp (maxSteps := 1000000) [vlC, vl0, okCell, t3, ba0, show (bytesS []).toList = [] from ByteArray.toList_eq _])
        | (first | (apply hK; clear hK) | (clear hK; apply hK; clear hK) | (clear hK; clear hK; apply hK; clear hK) | (clear hK; clear hK; clear hK; apply hK; clear hK))
        | ((first | refine jw_ret (hQ _ _ (.inr rfl) (ret_ok 0 ?_ (by first | omega | simp))) | refine hQ _ _ (.inl rfl) (ret_ok 0 ?_ (by first | omega | simp))); simp (maxSteps := 1000000) [okRet, BelL, Bel, BelS, BelOb, vlC, vl0, okCell, t3, ba0, show (bytesS []).toList = [] from ByteArray.toList_eq _])
        | ((first | refine jd_newc rfl rfl (by simp) ?_ | refine okN_or ?_); simp (maxSteps := 1000000) [thD, thL, vlC, vl0, okCell, t3, ba0, show (bytesS []).toList = [] from ByteArray.toList_eq _])
        | ((first | refine okS_guard (fun hc => ?_) (fun hc => ?_) | refine okC_guard (fun hc => ?_) (fun hc => ?_) | refine okJ_guard (fun hc => ?_) (fun hc => ?_)) <;> (first | have hd := of_decide_eq_true hc | have hd := of_decide_eq_false hc | have hd := hc) <;> simp (maxSteps := 1000000) [hc, hd, vlC, vl0, okCell, t3, ba0, show (bytesS []).toList = [] from ByteArray.toList_eq _] <;> (try simp at hc) <;> (try (exfalso; first | omega | exact absurd hc (by assumption))))
        | (refine And.intro (by first | assumption | omega | (simp [BelL, Bel]; done) | (simp; omega)) ?_; try simp (maxSteps := 1000000) [vlC, vl0, okCell, t3, ba0, show (bytesS []).toList = [] from ByteArray.toList_eq _])
        | (refine okC_or ?_; simp (maxSteps := 1000000) [vlC, vl0, okCell, t3, ba0, show (bytesS []).toList = [] from ByteArray.toList_eq _])
theorem evalSound_row (ls : List (List D)) (h : Vm.Rows (Parts RawP) ls) (hz : ls.length * 32 ≤ 140737488351232) (_ : ls.length ≤ 9223372036854775807) (rs : List (List D)) (h' : Vm.Rows (Parts RawP) rs) (hz' : rs.length * 32 ≤ 140737488351232) (_ : rs.length ≤ 9223372036854775807) (want : Int) (_ : (Lit.int .i64 want).wf = true) :
    FV Tryd.prog utfG 5 [.sl false ls.flatten ls.length, .sl false rs.flatten rs.length, .int .i64 want] (fun r => r = .bool true) := by
  obtain ⟨l, h2, h3, h4⟩ := tws_of h
  obtain ⟨r, g2, g3, g4⟩ := raws_of h'
  have := evalSound vstr l h4 (by omega) r g4 (by omega) want
  unfold twsD rwsD at this
  rw [h2, h3, g2, g3]
  exact this
end Go.Proofs.YtmgoekfgdgejiaaDoor
