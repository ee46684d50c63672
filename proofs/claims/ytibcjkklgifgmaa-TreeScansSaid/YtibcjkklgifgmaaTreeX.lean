/- Trees: drop, look. The walks. -/
import Derived.Test.YtibcjkklgifgmaaTreeU
set_option linter.unusedVariables false
set_option linter.unusedSimpArgs false
set_option maxRecDepth 20000
set_option maxHeartbeats 20000000
namespace Go.Proofs.Ytibcjkklgifgmaa
open Go Go.Vm Go.Proofs

theorem put_mid {α : Type} (l : List α) (x : List α) : l ++ [] ++ x = l ++ x := by simp
theorem dropF {G : Globals} : ∀ (d : Nat) (t : T) (k : List Int), Ok d t → (0 < d → 2 ≤ t.size) → Srt t.en → atF t.en k = true → FV Try.prog G 29 [tD t, bytesD k] (fun r => r = tD (dropT d t k))
  | 0, t, k, h, _, hs, hf => by
    have hen : t.en = t.es := by rw [en_eq, h.1]; simp
    rw [hen] at hs hf
    have h4 := h.2.1
    have hA := atFn (G := G) false t.es k hs (by omega)
    have hb := atF_bd hf
    rw [hf] at hA
    have hR := replacedE (G := G) false false t.es [] (atE t.es k) (atE t.es k + 1) (by omega) (by omega) (by simp; omega)
    have hi : t.es.take (atE t.es k) ++ [] ++ t.es.drop (atE t.es k + 1) = del t.es k := put_mid _ _
    rw [hi] at hR
    have hL := leafF (G := G) false (del t.es k)
    have hp : dropT 0 t k = leafT (del t.es k) := rfl
    rw [hp]
    have hk := h.1
    refine fv_enter_v Try.func29 rfl rfl fun Q hQ => ?_
    rw [tD_eq, hk]
    generalize atE t.es k = i at *
    generalize del t.es k = N at *
    have hw := wrap_i64 (n := (i : Int) + 1) (by omega) (by omega)
    have hi1 : ((i + 1 : Nat) : Int) = (i : Int) + 1 := by omega
    rw [hi1] at hR
    have hR' : FV Try.prog G 36 [ensD false t.es, .int .i64 i, .int .i64 ((i : Int) + 1), .nsl] (fun r => r = ensD false N) := fv_arg (by simp [ensD]) hR
    unfold ensD at hR'
    repeat' first
      | refine jw_seq_k fun K hK => ?_
      | refine jw_block ?_
      | ((first | refine jw_skip ?_ | refine jw_exit ?_); try simp)
      | (refine jw_cond rfl (fun hc => ?_) (fun hc => ?_) <;> (try simp at hc) <;> (try (exfalso; first | omega | exact absurd hc (by assumption))))
      | ((first | refine jw_c ?_ | refine jw_draw_j mixed (by kernel_rfl) ?_ | (refine jl_call (f := 34) rfl rfl rfl rfl rfl (hA) (by simp [BelL, Bel]) ?_; rintro r rfl) | refine jd_call (f := 34) rfl rfl rfl rfl rfl (hA) (by simp [BelL, Bel]) ?_ | (refine jl_call (f := 36) rfl rfl rfl rfl rfl (hR') (by simp [BelL, Bel]) ?_; rintro r rfl) | refine jd_call (f := 36) rfl rfl rfl rfl rfl (hR') (by simp [BelL, Bel]) ?_ | (refine jl_call (f := 22) rfl rfl rfl rfl rfl (hL) (by simp [BelL, Bel]) ?_; rintro r rfl) | refine jd_call (f := 22) rfl rfl rfl rfl rfl (hL) (by simp [BelL, Bel]) ?_); simp (maxSteps := 1000000) [Try.f29, ksD, tDs, ensD, hw])
      | (first | (apply hK; clear hK) | (clear hK; apply hK; clear hK) | (clear hK; clear hK; apply hK; clear hK) | (clear hK; clear hK; clear hK; apply hK; clear hK))
      | ((first | refine jw_ret (hQ _ _ (.inr rfl) (ret_ok 0 ?_ (by first | omega | simp))) | refine hQ _ _ (.inl rfl) (ret_ok 0 ?_ (by first | omega | simp))); simp (maxSteps := 1000000) [okRet, BelL, Bel, BelS, BelOb, Try.f29, ksD, tDs, ensD, hw])
      | ((first | refine jd_newc rfl rfl (by simp) ?_ | refine okN_or ?_); simp (maxSteps := 1000000) [thD, thL, Try.f29, ksD, tDs, ensD, hw])
      | ((first | refine okC_guard (fun hc => ?_) (fun hc => ?_) | refine okJ_guard (fun hc => ?_) (fun hc => ?_)) <;> (first | have hd := of_decide_eq_true hc | have hd := of_decide_eq_false hc | have hd := hc) <;> simp (maxSteps := 1000000) [hc, hd, Try.f29, ksD, tDs, ensD, hw] <;> (try simp at hc) <;> (try (exfalso; first | omega | exact absurd hc (by assumption))))
      | (refine And.intro (by first | assumption | omega | (simp [BelL, Bel]; done) | (simp; omega)) ?_; try simp (maxSteps := 1000000) [Try.f29, ksD, tDs, ensD, hw])
      | (refine okC_or ?_; simp (maxSteps := 1000000) [Try.f29, ksD, tDs, ensD, hw])
  | d + 1, t, k, h, h2, hs, hf => by
    have h' := h
    obtain ⟨hes, h0, h4, _, hk⟩ := h
    have hsz : t.size = t.ks.length := by unfold T.size; rw [hes]; simp
    have hl2 := h2 (by omega)
    rw [hsz] at hl2
    have hen : t.en = T.ens t.ks := by rw [en_eq, hes]; rfl
    have hdl := (drop_law h' h2 hs hf).1
    rw [hen] at hs hf
    obtain ⟨l, u, r, h1, hlw, h3, h5⟩ := way_law hk h0 hs k
    have hu := hk u (by rw [h1]; simp)
    have hsu : Srt u.en := by
      rw [h1, ens_app, ens_cons] at hs
      exact srt_mid hs
    have hfu : atF u.en k = true := by
      rw [h1, ens_app, ens_cons, atF_lt h3, atF_gt h5] at hf
      exact hf
    have hW := wayF (G := G) t k h0 (by omega)
    have hP := dropF (G := G) d u k hu.1 (fun _ => hu.2) hsu hfu
    obtain ⟨x1, _, x3⟩ := drop_law hu.1 (fun _ => hu.2) hsu hfu
    have hx4 := ok_size x1
    have hg : t.ks[wayT t.ks k]? = some u := by rw [← hlw, h1]; simp
    have e0 : dropT (d + 1) t k = knotT (fixD t.ks (wayT t.ks k) (dropT d u k)) := by
      show (match t.ks[wayT t.ks k]? with | some u => _ | none => _) = _
      rw [hg]
    have hne : fixD t.ks (wayT t.ks k) (dropT d u k) ≠ [] := by
      rw [e0] at hdl
      exact hdl.2.1
    have hKn := knotF (G := G) false (fixD t.ks (wayT t.ks k) (dropT d u k)) hne
    rw [e0]
    have hil : wayT t.ks k < t.ks.length := by rw [← hlw, h1]; simp
    have hgD : (tDs t.ks)[wayT t.ks k]? = some (tD u) := by rw [tDs_map, List.getElem?_map, hg]; rfl
    have hgg := fun h => get_of hgD h
    have hlen := tDs_len t.ks
    have hpos := List.length_pos_iff.2 h0
    have hS := sizeF (G := G) (dropT d u k) (by omega)
    rw [tD_eq] at hW
    refine fv_enter_v Try.func29 rfl rfl fun Q hQ => ?_
    rw [tD_eq]
    have okT : ∀ j w, t.ks[j]? = some w → Ok d w := fun j w hw => (hk w (List.mem_of_getElem? hw)).1
    generalize dropT d u k = x at *
    have hFX : fixD t.ks (wayT t.ks k) x = fixD t.ks (wayT t.ks k) x := rfl
    generalize hi : wayT t.ks k = i at *
    have hw := wrap_i64 (n := (i : Int) + 1) (by omega) (by omega)
    have hi1 : ((i + 1 : Nat) : Int) = (i : Int) + 1 := by omega
    unfold ksD at hW
    by_cases hx : 2 ≤ x.size
    · have hR := fun g => replacedK (G := G) false g t.ks [x] i (i + 1) (by omega) (by omega) (by simp; omega)
      have ef : fixD t.ks i x = t.ks.take i ++ [x] ++ t.ks.drop (i + 1) := if_pos hx
      rw [ef] at hKn hQ
      generalize t.ks.take i ++ [x] ++ t.ks.drop (i + 1) = N at *
      rw [hi1] at hR
      unfold ksD at hR
      simp only [tDs, tD_eq x] at hR hP hS
      repeat' first
        | refine jw_ret (hQ _ _ (.inr rfl) ⟨5, _, _, rfl, rfl, ?_⟩)
        | refine jw_ret (hQ _ _ (.inr rfl) ⟨_, rfl, ?_⟩)
        | refine jw_seq_k fun K hK => ?_
        | refine jw_block ?_
        | ((first | refine jw_skip ?_ | refine jw_exit ?_); try simp)
        | (refine jw_cond rfl (fun hc => ?_) (fun hc => ?_) <;> (try simp at hc) <;> (try (exfalso; first | omega | exact absurd hc (by assumption))))
        | ((first | refine jw_c ?_ | refine jw_draw_j mixed (by kernel_rfl) ?_ | (refine jl_call (f := 31) rfl rfl rfl rfl rfl (hW) (by simp [BelL, Bel]) ?_; rintro r rfl) | refine jd_call (f := 31) rfl rfl rfl rfl rfl (hW) (by simp [BelL, Bel]) ?_ | (refine jl_call (f := 29) rfl rfl rfl rfl rfl (hP) (by simp [BelL, Bel]) ?_; rintro r rfl) | refine jd_call (f := 29) rfl rfl rfl rfl rfl (hP) (by simp [BelL, Bel]) ?_ | (refine jl_call (f := 39) rfl rfl rfl rfl rfl (hS) (by simp [BelL, Bel]) ?_; rintro r rfl) | refine jd_call (f := 39) rfl rfl rfl rfl rfl (hS) (by simp [BelL, Bel]) ?_); simp (maxSteps := 1000000) [Try.f29, ksD, hlen, hpos, hgD, hgg, hw, hil, hx, tD_eq x, show (i : Int) < t.ks.length by omega, show ¬ (t.ks.length : Int) = 0 by omega, show ¬ t.ks.length = 0 by omega, show (2 : Int) ≤ x.size by omega, okCell, h0])
        | (first | (apply hK; clear hK) | (clear hK; apply hK; clear hK) | (clear hK; clear hK; apply hK; clear hK) | (clear hK; clear hK; clear hK; apply hK; clear hK))
        | exact hQ _ _ (.inl rfl) ⟨5, _, _, rfl, rfl, rfl⟩
        | refine hQ _ _ (.inl rfl) ⟨5, _, _, rfl, rfl, ?_⟩
        | refine hQ _ _ (.inl rfl) ⟨_, rfl, ?_⟩
        | ((first | refine jd_newc rfl rfl (by simp) ?_ | refine okN_or ?_); simp (maxSteps := 1000000) [thD, thL, Try.f29, ksD, hlen, hpos, hgD, hgg, hw, hil, hx, tD_eq x, show (i : Int) < t.ks.length by omega, show ¬ (t.ks.length : Int) = 0 by omega, show ¬ t.ks.length = 0 by omega, show (2 : Int) ≤ x.size by omega, okCell, h0])
        | ((first | refine okC_guard (fun hc => ?_) (fun hc => ?_) | refine okJ_guard (fun hc => ?_) (fun hc => ?_)) <;> (first | have hd := of_decide_eq_true hc | have hd := of_decide_eq_false hc | have hd := hc) <;> simp (maxSteps := 1000000) [hc, hd, Try.f29, ksD, hlen, hpos, hgD, hgg, hw, hil, hx, tD_eq x, show (i : Int) < t.ks.length by omega, show ¬ (t.ks.length : Int) = 0 by omega, show ¬ t.ks.length = 0 by omega, show (2 : Int) ≤ x.size by omega, okCell, h0] <;> (try simp at hc) <;> (try (exfalso; first | omega | exact absurd hc (by assumption))))
        | (refine And.intro (by first | assumption | omega | (simp [BelL, Bel]; done) | (simp; omega)) ?_; try simp (maxSteps := 1000000) [Try.f29, ksD, hlen, hpos, hgD, hgg, hw, hil, hx, tD_eq x, show (i : Int) < t.ks.length by omega, show ¬ (t.ks.length : Int) = 0 by omega, show ¬ t.ks.length = 0 by omega, show (2 : Int) ≤ x.size by omega, okCell, h0])
        | (refine okC_or ?_; simp (maxSteps := 1000000) [Try.f29, ksD, hlen, hpos, hgD, hgg, hw, hil, hx, tD_eq x, show (i : Int) < t.ks.length by omega, show ¬ (t.ks.length : Int) = 0 by omega, show ¬ t.ks.length = 0 by omega, show (2 : Int) ≤ x.size by omega, okCell, h0])
      (refine jl_view (view_frz 0 _ rfl (by simp [BelL, Bel, thL_flat, thD_ens, thD_ks, thD_t])) ?_; simp (maxSteps := 1000000) [thL, thD, thS, thOb, thL_flat, thD_ens, thD_ks, thD_t])
      repeat' first
        | refine jw_seq_k fun K hK => ?_
        | refine jw_block ?_
        | ((first | refine jw_skip ?_ | refine jw_exit ?_); try simp)
        | (refine jw_cond rfl (fun hc => ?_) (fun hc => ?_) <;> (try simp at hc) <;> (try (exfalso; first | omega | exact absurd hc (by assumption))))
        | ((first | refine jw_c ?_ | refine jw_draw_j mixed (by kernel_rfl) ?_ | (refine jl_call (f := 33) rfl rfl rfl rfl rfl (hR _) (by simp [BelL, Bel]) ?_; rintro r rfl) | refine jd_call (f := 33) rfl rfl rfl rfl rfl (hR _) (by simp [BelL, Bel]) ?_ | (refine jl_call (f := 30) rfl rfl rfl rfl rfl (hKn) (by simp [BelL, Bel]) ?_; rintro r rfl) | refine jd_call (f := 30) rfl rfl rfl rfl rfl (hKn) (by simp [BelL, Bel]) ?_); simp (maxSteps := 1000000))
        | (first | (apply hK; clear hK) | (clear hK; apply hK; clear hK) | (clear hK; clear hK; apply hK; clear hK) | (clear hK; clear hK; clear hK; apply hK; clear hK))
        | ((first | refine jw_ret (hQ _ _ (.inr rfl) (ret_ok 0 ?_ (by first | omega | simp))) | refine hQ _ _ (.inl rfl) (ret_ok 0 ?_ (by first | omega | simp))); simp (maxSteps := 1000000) [okRet, BelL, Bel, BelS, BelOb])
        | ((first | refine jd_newc rfl rfl (by simp) ?_ | refine okN_or ?_); simp (maxSteps := 1000000) [thD, thL])
        | ((first | refine okC_guard (fun hc => ?_) (fun hc => ?_) | refine okJ_guard (fun hc => ?_) (fun hc => ?_)) <;> (first | have hd := of_decide_eq_true hc | have hd := of_decide_eq_false hc | have hd := hc) <;> simp (maxSteps := 1000000) [hc, hd] <;> (try simp at hc) <;> (try (exfalso; first | omega | exact absurd hc (by assumption))))
        | (refine And.intro (by first | assumption | omega | (simp [BelL, Bel]; done) | (simp; omega)) ?_; try simp (maxSteps := 1000000))
        | (refine okC_or ?_; simp (maxSteps := 1000000))
    · by_cases hr : i + 1 < t.ks.length
      · obtain ⟨v, hv⟩ : ∃ v, t.ks[i + 1]? = some v := ⟨_, List.getElem?_eq_getElem hr⟩
        have hvD : (tDs t.ks)[i + 1]? = some (tD v) := by rw [tDs_map, List.getElem?_map, hv]; rfl
        have hvg := fun h => get_of hvD h
        have hv4 := ok_size (okT _ _ hv)
        have hJ := joinedF (G := G) x v (by omega) (by omega)
        have ef : fixD t.ks i x = t.ks.take i ++ joinT x v ++ t.ks.drop (i + 2) := by unfold fixD; rw [if_neg hx, hv]
        rw [ef] at hKn hQ hne
        have hjl : (joinT x v).length ≤ 2 := by unfold joinT halves; split <;> split <;> simp
        have hR := replacedK (G := G) false false t.ks (joinT x v) i (i + 2) (by omega) (by omega) (by omega)
        generalize t.ks.take i ++ joinT x v ++ t.ks.drop (i + 2) = N at *
        generalize joinT x v = J at *
        have hw2 := wrap_i64 (n := (i : Int) + 1 + 1) (by omega) (by omega)
        have hi2 : ((i + 2 : Nat) : Int) = (i : Int) + 1 + 1 := by omega
        rw [hi2] at hR
        unfold ksD at hR
        repeat' first
          | refine jw_seq_k fun K hK => ?_
          | refine jw_block ?_
          | ((first | refine jw_skip ?_ | refine jw_exit ?_); try simp)
          | (refine jw_cond rfl (fun hc => ?_) (fun hc => ?_) <;> (try simp at hc) <;> (try (exfalso; first | omega | exact absurd hc (by assumption))))
          | ((first | refine jw_c ?_ | refine jw_draw_j mixed (by kernel_rfl) ?_ | (refine jl_call (f := 31) rfl rfl rfl rfl rfl (hW) (by simp [BelL, Bel]) ?_; rintro r rfl) | refine jd_call (f := 31) rfl rfl rfl rfl rfl (hW) (by simp [BelL, Bel]) ?_ | (refine jl_call (f := 29) rfl rfl rfl rfl rfl (hP) (by simp [BelL, Bel]) ?_; rintro r rfl) | refine jd_call (f := 29) rfl rfl rfl rfl rfl (hP) (by simp [BelL, Bel]) ?_ | (refine jl_call (f := 39) rfl rfl rfl rfl rfl (hS) (by simp [BelL, Bel]) ?_; rintro r rfl) | refine jd_call (f := 39) rfl rfl rfl rfl rfl (hS) (by simp [BelL, Bel]) ?_ | (refine jl_call (f := 40) rfl rfl rfl rfl rfl (hJ) (by simp [BelL, Bel]) ?_; rintro r rfl) | refine jd_call (f := 40) rfl rfl rfl rfl rfl (hJ) (by simp [BelL, Bel]) ?_ | (refine jl_call (f := 33) rfl rfl rfl rfl rfl (hR) (by simp [BelL, Bel]) ?_; rintro r rfl) | refine jd_call (f := 33) rfl rfl rfl rfl rfl (hR) (by simp [BelL, Bel]) ?_ | (refine jl_call (f := 30) rfl rfl rfl rfl rfl (hKn) (by simp [BelL, Bel]) ?_; rintro r rfl) | refine jd_call (f := 30) rfl rfl rfl rfl rfl (hKn) (by simp [BelL, Bel]) ?_); simp (maxSteps := 1000000) [Try.f29, ksD, hlen, hpos, hgD, hgg, hvD, hvg, hw, hw2, hil, hx, hr, show (i : Int) < t.ks.length by omega, show (i : Int) + 1 < t.ks.length by omega, show ¬ (t.ks.length : Int) = 0 by omega, show ¬ t.ks.length = 0 by omega, show ¬ (2 : Int) ≤ x.size by omega, okCell, h0])
          | (first | (apply hK; clear hK) | (clear hK; apply hK; clear hK) | (clear hK; clear hK; apply hK; clear hK) | (clear hK; clear hK; clear hK; apply hK; clear hK))
          | ((first | refine jw_ret (hQ _ _ (.inr rfl) (ret_ok 0 ?_ (by first | omega | simp))) | refine hQ _ _ (.inl rfl) (ret_ok 0 ?_ (by first | omega | simp))); simp (maxSteps := 1000000) [okRet, BelL, Bel, BelS, BelOb, Try.f29, ksD, hlen, hpos, hgD, hgg, hvD, hvg, hw, hw2, hil, hx, hr, show (i : Int) < t.ks.length by omega, show (i : Int) + 1 < t.ks.length by omega, show ¬ (t.ks.length : Int) = 0 by omega, show ¬ t.ks.length = 0 by omega, show ¬ (2 : Int) ≤ x.size by omega, okCell, h0])
          | ((first | refine jd_newc rfl rfl (by simp) ?_ | refine okN_or ?_); simp (maxSteps := 1000000) [thD, thL, Try.f29, ksD, hlen, hpos, hgD, hgg, hvD, hvg, hw, hw2, hil, hx, hr, show (i : Int) < t.ks.length by omega, show (i : Int) + 1 < t.ks.length by omega, show ¬ (t.ks.length : Int) = 0 by omega, show ¬ t.ks.length = 0 by omega, show ¬ (2 : Int) ≤ x.size by omega, okCell, h0])
          | ((first | refine okC_guard (fun hc => ?_) (fun hc => ?_) | refine okJ_guard (fun hc => ?_) (fun hc => ?_)) <;> (first | have hd := of_decide_eq_true hc | have hd := of_decide_eq_false hc | have hd := hc) <;> simp (maxSteps := 1000000) [hc, hd, Try.f29, ksD, hlen, hpos, hgD, hgg, hvD, hvg, hw, hw2, hil, hx, hr, show (i : Int) < t.ks.length by omega, show (i : Int) + 1 < t.ks.length by omega, show ¬ (t.ks.length : Int) = 0 by omega, show ¬ t.ks.length = 0 by omega, show ¬ (2 : Int) ≤ x.size by omega, okCell, h0] <;> (try simp at hc) <;> (try (exfalso; first | omega | exact absurd hc (by assumption))))
          | (refine And.intro (by first | assumption | omega | (simp [BelL, Bel]; done) | (simp; omega)) ?_; try simp (maxSteps := 1000000) [Try.f29, ksD, hlen, hpos, hgD, hgg, hvD, hvg, hw, hw2, hil, hx, hr, show (i : Int) < t.ks.length by omega, show (i : Int) + 1 < t.ks.length by omega, show ¬ (t.ks.length : Int) = 0 by omega, show ¬ t.ks.length = 0 by omega, show ¬ (2 : Int) ≤ x.size by omega, okCell, h0])
          | (refine okC_or ?_; simp (maxSteps := 1000000) [Try.f29, ksD, hlen, hpos, hgD, hgg, hvD, hvg, hw, hw2, hil, hx, hr, show (i : Int) < t.ks.length by omega, show (i : Int) + 1 < t.ks.length by omega, show ¬ (t.ks.length : Int) = 0 by omega, show ¬ t.ks.length = 0 by omega, show ¬ (2 : Int) ≤ x.size by omega, okCell, h0])
      · obtain ⟨j, rfl⟩ : ∃ j, i = j + 1 := ⟨i - 1, by omega⟩
        have hjl0 : j < t.ks.length := by omega
        obtain ⟨v, hv⟩ : ∃ v, t.ks[j]? = some v := ⟨_, List.getElem?_eq_getElem hjl0⟩
        have hvD : (tDs t.ks)[j]? = some (tD v) := by rw [tDs_map, List.getElem?_map, hv]; rfl
        have hvg := fun h => get_of hvD h
        have hv4 := ok_size (okT _ _ hv)
        have hJ := joinedF (G := G) v x (by omega) (by omega)
        have ef : fixD t.ks (j + 1) x = t.ks.take j ++ joinT v x ++ t.ks.drop (j + 2) := by
          unfold fixD
          rw [if_neg hx, List.getElem?_eq_none (by omega), show j + 1 - 1 = j by omega, hv]
        rw [ef] at hKn hQ hne
        have hjl : (joinT v x).length ≤ 2 := by unfold joinT halves; split <;> split <;> simp
        have hR := replacedK (G := G) false false t.ks (joinT v x) j (j + 2) (by omega) (by omega) (by omega)
        generalize t.ks.take j ++ joinT v x ++ t.ks.drop (j + 2) = N at *
        generalize joinT v x = J at *
        have hw2 := wrap_i64 (n := ((j + 1 : Nat) : Int) - 1) (by omega) (by omega)
        have hj1 : ((j + 1 : Nat) : Int) - 1 = j := by omega
        rw [hj1] at hw2
        have hi2 : ((j + 2 : Nat) : Int) = ((j + 1 : Nat) : Int) + 1 := by omega
        rw [hi2] at hR
        unfold ksD at hR
        generalize hI : ((j + 1 : Nat) : Int) = I at *
        repeat' first
          | refine jw_seq_k fun K hK => ?_
          | refine jw_block ?_
          | ((first | refine jw_skip ?_ | refine jw_exit ?_); try simp)
          | (refine jw_cond rfl (fun hc => ?_) (fun hc => ?_) <;> (try simp at hc) <;> (try (exfalso; first | omega | exact absurd hc (by assumption))))
          | ((first | refine jw_c ?_ | refine jw_draw_j mixed (by kernel_rfl) ?_ | (refine jl_call (f := 31) rfl rfl rfl rfl rfl (hW) (by simp [BelL, Bel]) ?_; rintro r rfl) | refine jd_call (f := 31) rfl rfl rfl rfl rfl (hW) (by simp [BelL, Bel]) ?_ | (refine jl_call (f := 29) rfl rfl rfl rfl rfl (hP) (by simp [BelL, Bel]) ?_; rintro r rfl) | refine jd_call (f := 29) rfl rfl rfl rfl rfl (hP) (by simp [BelL, Bel]) ?_ | (refine jl_call (f := 39) rfl rfl rfl rfl rfl (hS) (by simp [BelL, Bel]) ?_; rintro r rfl) | refine jd_call (f := 39) rfl rfl rfl rfl rfl (hS) (by simp [BelL, Bel]) ?_ | (refine jl_call (f := 40) rfl rfl rfl rfl rfl (hJ) (by simp [BelL, Bel]) ?_; rintro r rfl) | refine jd_call (f := 40) rfl rfl rfl rfl rfl (hJ) (by simp [BelL, Bel]) ?_ | (refine jl_call (f := 33) rfl rfl rfl rfl rfl (hR) (by simp [BelL, Bel]) ?_; rintro r rfl) | refine jd_call (f := 33) rfl rfl rfl rfl rfl (hR) (by simp [BelL, Bel]) ?_ | (refine jl_call (f := 30) rfl rfl rfl rfl rfl (hKn) (by simp [BelL, Bel]) ?_; rintro r rfl) | refine jd_call (f := 30) rfl rfl rfl rfl rfl (hKn) (by simp [BelL, Bel]) ?_); simp (maxSteps := 1000000) [Try.f29, ksD, hlen, hpos, hgD, hgg, hvD, hvg, hw, hw2, hj1, hil, hx, show 0 ≤ I by omega, show I.toNat = j + 1 by omega, show I < t.ks.length by omega, show ¬ I + 1 < t.ks.length by omega, show (j : Int) < t.ks.length by omega, hjl0, show ¬ (t.ks.length : Int) = 0 by omega, show ¬ t.ks.length = 0 by omega, show ¬ (2 : Int) ≤ x.size by omega, okCell, h0])
          | (first | (apply hK; clear hK) | (clear hK; apply hK; clear hK) | (clear hK; clear hK; apply hK; clear hK) | (clear hK; clear hK; clear hK; apply hK; clear hK))
          | ((first | refine jw_ret (hQ _ _ (.inr rfl) (ret_ok 0 ?_ (by first | omega | simp))) | refine hQ _ _ (.inl rfl) (ret_ok 0 ?_ (by first | omega | simp))); simp (maxSteps := 1000000) [okRet, BelL, Bel, BelS, BelOb, Try.f29, ksD, hlen, hpos, hgD, hgg, hvD, hvg, hw, hw2, hj1, hil, hx, show 0 ≤ I by omega, show I.toNat = j + 1 by omega, show I < t.ks.length by omega, show ¬ I + 1 < t.ks.length by omega, show (j : Int) < t.ks.length by omega, hjl0, show ¬ (t.ks.length : Int) = 0 by omega, show ¬ t.ks.length = 0 by omega, show ¬ (2 : Int) ≤ x.size by omega, okCell, h0])
          | ((first | refine jd_newc rfl rfl (by simp) ?_ | refine okN_or ?_); simp (maxSteps := 1000000) [thD, thL, Try.f29, ksD, hlen, hpos, hgD, hgg, hvD, hvg, hw, hw2, hj1, hil, hx, show 0 ≤ I by omega, show I.toNat = j + 1 by omega, show I < t.ks.length by omega, show ¬ I + 1 < t.ks.length by omega, show (j : Int) < t.ks.length by omega, hjl0, show ¬ (t.ks.length : Int) = 0 by omega, show ¬ t.ks.length = 0 by omega, show ¬ (2 : Int) ≤ x.size by omega, okCell, h0])
          | ((first | refine okC_guard (fun hc => ?_) (fun hc => ?_) | refine okJ_guard (fun hc => ?_) (fun hc => ?_)) <;> (first | have hd := of_decide_eq_true hc | have hd := of_decide_eq_false hc | have hd := hc) <;> simp (maxSteps := 1000000) [hc, hd, Try.f29, ksD, hlen, hpos, hgD, hgg, hvD, hvg, hw, hw2, hj1, hil, hx, show 0 ≤ I by omega, show I.toNat = j + 1 by omega, show I < t.ks.length by omega, show ¬ I + 1 < t.ks.length by omega, show (j : Int) < t.ks.length by omega, hjl0, show ¬ (t.ks.length : Int) = 0 by omega, show ¬ t.ks.length = 0 by omega, show ¬ (2 : Int) ≤ x.size by omega, okCell, h0] <;> (try simp at hc) <;> (try (exfalso; first | omega | exact absurd hc (by assumption))))
          | (refine And.intro (by first | assumption | omega | (simp [BelL, Bel]; done) | (simp; omega)) ?_; try simp (maxSteps := 1000000) [Try.f29, ksD, hlen, hpos, hgD, hgg, hvD, hvg, hw, hw2, hj1, hil, hx, show 0 ≤ I by omega, show I.toNat = j + 1 by omega, show I < t.ks.length by omega, show ¬ I + 1 < t.ks.length by omega, show (j : Int) < t.ks.length by omega, hjl0, show ¬ (t.ks.length : Int) = 0 by omega, show ¬ t.ks.length = 0 by omega, show ¬ (2 : Int) ≤ x.size by omega, okCell, h0])
          | (refine okC_or ?_; simp (maxSteps := 1000000) [Try.f29, ksD, hlen, hpos, hgD, hgg, hvD, hvg, hw, hw2, hj1, hil, hx, show 0 ≤ I by omega, show I.toNat = j + 1 by omega, show I < t.ks.length by omega, show ¬ I + 1 < t.ks.length by omega, show (j : Int) < t.ks.length by omega, hjl0, show ¬ (t.ks.length : Int) = 0 by omega, show ¬ t.ks.length = 0 by omega, show ¬ (2 : Int) ≤ x.size by omega, okCell, h0])
end Go.Proofs.Ytibcjkklgifgmaa
