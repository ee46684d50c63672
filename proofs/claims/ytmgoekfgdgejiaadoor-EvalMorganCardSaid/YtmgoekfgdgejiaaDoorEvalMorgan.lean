/- EvalMorgan: the law and the walk. -/
import Derived.Test.YtmgoekfgdgejiaaDoorGrown
import Derived.Test.YtmgoekfgdgejiaaDoorRaw
set_option linter.unusedVariables false
set_option linter.unusedSimpArgs false
set_option maxRecDepth 20000
set_option maxHeartbeats 20000000
namespace Go.Proofs.YtmgoekfgdgejiaaDoor
open Go Go.Vm Go.Proofs

theorem raws_of : ∀ {ls : List (List D)}, Vm.Rows (Parts RawP) ls → ∃ l : List Rw, ls.flatten = l.flatMap rwC ∧ ls.length = l.length ∧ ∀ w ∈ l, RwOk w
  | [], _ => ⟨[], rfl, rfl, by simp⟩
  | _ :: _, .cons _ ls h t => by
    obtain ⟨l, g2, g3, g4⟩ := raws_of t
    obtain ⟨_, _, ⟨k, hk, rfl⟩, ⟨_, _, ⟨i, hi, rfl⟩, ⟨_, _, ⟨s, hs, rfl⟩, rfl, rfl⟩, rfl⟩, rfl⟩ := h
    have hi2 := wf_i64 hi
    refine ⟨⟨k, i, s⟩ :: l, by simp [rwC, g2], by simp [g3], fun w hw => ?_⟩
    rcases List.mem_cons.1 hw with rfl | hw
    · exact ⟨hi2.1, hi2.2, by dsimp only; omega⟩
    · exact g4 w hw
theorem tws_of : ∀ {ls : List (List D)}, Vm.Rows (Parts RawP) ls → ∃ l : List Tw, ls.flatten = l.flatMap twC ∧ ls.length = l.length ∧ ∀ w ∈ l, TwOk w
  | [], _ => ⟨[], rfl, rfl, by simp⟩
  | _ :: _, .cons _ ls h t => by
    obtain ⟨l, g2, g3, g4⟩ := tws_of t
    obtain ⟨_, _, ⟨k, hk, rfl⟩, ⟨_, _, ⟨i, hi, rfl⟩, ⟨_, _, ⟨s, hs, rfl⟩, rfl, rfl⟩, rfl⟩, rfl⟩ := h
    have hi2 := wf_i64 hi
    refine ⟨⟨k, i, s⟩ :: l, by simp [twC, g2], by simp [g3], fun w hw => ?_⟩
    rcases List.mem_cons.1 hw with rfl | hw
    · exact ⟨hi2.1, hi2.2, by dsimp only; omega⟩
    · exact g4 w hw
abbrev sT : List Int := [2, 3, 1, 2]
theorem sT_ok : ∀ t ∈ sT, t = 1 ∨ t = 2 ∨ t = 3 := by
  intro t h
  simp at h
  omega
theorem someF {G : Globals} : FV Tryd.prog G 12 [] (fun r => r = numsD .i64 sT) := by
  refine fv_enter_v Tryd.func12 rfl rfl fun Q hQ => ?_
  repeat' first
    | refine jw_seq_k fun K hK => ?_
    | refine jw_block ?_
    | ((first | refine jw_skip ?_ | refine jw_exit ?_); try simp)
    | (refine jw_cond rfl (fun hc => ?_) (fun hc => ?_) <;> (try simp at hc) <;> (try (exfalso; first | omega | exact absurd hc (by assumption))))
    | ((first | refine jw_c ?_ | refine jw_draw_j mixed (by kernel_rfl) ?_); simp (maxSteps := 1000000) [Tryd.f12, numsD])
    | (first | (apply hK; clear hK) | (clear hK; apply hK; clear hK) | (clear hK; clear hK; apply hK; clear hK) | (clear hK; clear hK; clear hK; apply hK; clear hK))
    | ((first | refine jw_ret (hQ _ _ (.inr rfl) (ret_okF 0 0 rfl (by simp [BelL, Bel, Tryd.f12, numsD]) ?_ (by first | omega | simp))) | refine hQ _ _ (.inl rfl) (ret_okF 0 0 rfl (by simp [BelL, Bel, Tryd.f12, numsD]) ?_ (by first | omega | simp))); simp (maxSteps := 1000000) [okRetF, thS, thOb, thD, thL, BelL, Bel, BelS, BelOb, Tryd.f12, numsD])
    | ((first | refine jd_newc rfl rfl (by simp) ?_ | refine okN_or ?_); simp (maxSteps := 1000000) [thD, thL, Tryd.f12, numsD])
    | ((first | refine okC_guard (fun hc => ?_) (fun hc => ?_) | refine okJ_guard (fun hc => ?_) (fun hc => ?_)) <;> (first | have hd := of_decide_eq_true hc | have hd := of_decide_eq_false hc | have hd := hc) <;> simp (maxSteps := 1000000) [hc, hd, Tryd.f12, numsD] <;> (try simp at hc) <;> (try (exfalso; first | omega | exact absurd hc (by assumption))))
    | (refine And.intro (by first | assumption | omega | (simp [BelL, Bel]; done) | (simp; omega)) ?_; try simp (maxSteps := 1000000) [Tryd.f12, numsD])
    | (refine okC_or ?_; simp (maxSteps := 1000000) [Tryd.f12, numsD])
/-- An expression that grew. -/
theorem grown_ok {tws : List Tw} (hw : ∀ w ∈ tws, TwOk w) {n t : Nat} (h1 : 1 ≤ t) (h3 : t ≤ 3) : ∃ x, (popR (growR sT tws n) t).1 = x ∧ wt sT x t ∧ dp x ≤ 10 := by
  obtain ⟨a, b, _⟩ := inv_pop (grow_inv sT_ok tws hw n) h1 h3
  exact ⟨_, rfl, a, b⟩
theorem isT_truth {t : Int} (h : t = 0 ∨ t = 1 ∨ t = 2) : isT (truthV t) = t := by
  rcases h with rfl | rfl | rfl <;> rfl
theorem evE_not (row : List Vl) (a : Ex) : evE row (.un 5 a) = if (evE row a).2 = 0 then (truthV (2 - isT (evE row a).1), 0) else evE row a := by
  conv => lhs; unfold evE
  split
  · unfold unR
    rw [if_neg (by omega), if_pos rfl]
  · rfl
theorem evE_and (row : List Vl) (op : Int) (ho : op = 19 ∨ op = 20) (a b : Ex) : evE row (.bin op a b) = lazyR op (evE row a) (evE row b) := by
  unfold lazyR
  conv => lhs; unfold evE; rw [if_pos ho]
theorem morgan {row : List Vl} {x y : Ex} (cx : Came 1 (evE row x)) (cy : Came 1 (evE row y)) : evE row (.un 5 (.bin 19 x y)) = evE row (.bin 20 (.un 5 x) (.un 5 y)) := by
  rw [evE_and row 20 (.inr rfl), evE_not, evE_not, evE_not, evE_and row 19 (.inl rfl)]
  generalize evE row x = ra at *
  generalize evE row y = rb at *
  have a0 := isT_truth (t := 0) (by simp)
  have a1 := isT_truth (t := 1) (by simp)
  have a2 := isT_truth (t := 2) (by simp)
  by_cases h0 : ra.2 = 0
  · obtain ⟨oka, ka⟩ := came_ok cx h0
    by_cases h2 : rb.2 = 0
    · obtain ⟨okb, kb⟩ := came_ok cy h2
      rcases isT_range oka ka with hp | hp | hp <;> rcases isT_range okb kb with hq | hq | hq <;> simp [lazyR, h0, h2, hp, hq, a0, a1, a2, Int.min_def, Int.max_def]
    · rcases isT_range oka ka with hp | hp | hp <;> simp [lazyR, h0, h2, hp, a0, a1, a2]
  · simp [lazyR, h0]
theorem notExF {G : Globals} (e : Ex) : FV Tryd.prog G 14 [exD e] (fun r => r = exD (.un 5 e)) := by
  have t3 := exC_all e
  unfold exD
  refine fv_enter_v Tryd.func14 rfl rfl fun Q hQ => ?_
  rw [show exC (.un 5 e) = [.int .i64 5, .int .i64 0, .int .i64 0, .str ⟨#[]⟩, .str ⟨#[]⟩, .str ⟨#[]⟩, .int .i64 0, .sl false (exC e) 1] from rfl] at hQ
  repeat' first
    | refine jw_seq_k fun K hK => ?_
    | refine jw_block ?_
    | ((first | refine jw_skip ?_ | refine jw_exit ?_); try simp)
    | (refine jw_cond rfl (fun hc => ?_) (fun hc => ?_) <;> (try simp at hc) <;> (try (exfalso; first | omega | exact absurd hc (by assumption))))
    | ((first | refine jw_c ?_ | refine jw_draw_j mixed (by kernel_rfl) ?_); simp (maxSteps := 1000000) [Tryd.f14, okCell, t3, thL_flat])
    | (first | (apply hK; clear hK) | (clear hK; apply hK; clear hK) | (clear hK; clear hK; apply hK; clear hK) | (clear hK; clear hK; clear hK; apply hK; clear hK))
    | ((first | refine jw_ret (hQ _ _ (.inr rfl) (ret_okF 2 0 rfl (by simp [BelL, Bel, Tryd.f14, okCell, t3, thL_flat]) ?_ (by first | omega | simp))) | refine hQ _ _ (.inl rfl) (ret_okF 2 0 rfl (by simp [BelL, Bel, Tryd.f14, okCell, t3, thL_flat]) ?_ (by first | omega | simp))); simp (maxSteps := 1000000) [okRetF, thS, thOb, thD, thL, BelL, Bel, BelS, BelOb, Tryd.f14, okCell, t3, thL_flat])
    | ((first | refine jd_newc rfl rfl (by simp) ?_ | refine okN_or ?_); simp (maxSteps := 1000000) [thD, thL, Tryd.f14, okCell, t3, thL_flat])
    | ((first | refine okC_guard (fun hc => ?_) (fun hc => ?_) | refine okJ_guard (fun hc => ?_) (fun hc => ?_)) <;> (first | have hd := of_decide_eq_true hc | have hd := of_decide_eq_false hc | have hd := hc) <;> simp (maxSteps := 1000000) [hc, hd, Tryd.f14, okCell, t3, thL_flat] <;> (try simp at hc) <;> (try (exfalso; first | omega | exact absurd hc (by assumption))))
    | (refine And.intro (by first | assumption | omega | (simp [BelL, Bel]; done) | (simp; omega)) ?_; try simp (maxSteps := 1000000) [Tryd.f14, okCell, t3, thL_flat])
    | (refine okC_or ?_; simp (maxSteps := 1000000) [Tryd.f14, okCell, t3, thL_flat])
theorem evalMorgan {G : Globals} (hV : VStr G) (aws : List Tw) (ha : ∀ w ∈ aws, TwOk w) (hal : aws.length ≤ 140737488351232) (bws : List Tw) (hb : ∀ w ∈ bws, TwOk w) (hbl : bws.length ≤ 140737488351232) (rws : List Rw) (hr : ∀ w ∈ rws, RwOk w) (hrl : rws.length ≤ 140737488351232) :
    FV Tryd.prog G 4 [twsD aws, twsD bws, rwsD rws] (fun r => r = .bool true) := by
  obtain ⟨x, hx, hwx, hdx⟩ := grown_ok ha (n := 12) (t := 1) (by omega) (by omega)
  obtain ⟨y, hy, hwy, hdy⟩ := grown_ok hb (n := 12) (t := 1) (by omega) (by omega)
  have hG1 := grownF (G := G) sT_ok (by simp) aws ha hal 12 (by omega) (want := 1) (by omega)
  have hG2 := grownF (G := G) sT_ok (by simp) bws hb hbl 12 (by omega) (want := 1) (by omega)
  rw [hx] at hG1
  rw [hy] at hG2
  have hS := someF (G := G)
  have hR := rowOfF (G := G) sT sT_ok (by simp) rws hr hrl
  obtain ⟨ro, rv⟩ := rowR_ok sT_ok hr
  have w1 : wt sT (.un 5 (.bin 19 x y)) 1 := .inr (.inl ⟨rfl, rfl, .inr (.inr ⟨.inl rfl, rfl, hwx, hwy⟩)⟩)
  have w2 : wt sT (.bin 20 (.un 5 x) (.un 5 y)) 1 := .inr (.inr ⟨.inr rfl, rfl, .inr (.inl ⟨rfl, rfl, hwx⟩), .inr (.inl ⟨rfl, rfl, hwy⟩)⟩)
  have d1 : dp (.un 5 (.bin 19 x y)) ≤ 12 := by simp only [dp]; omega
  have d2 : dp (.bin 20 (.un 5 x) (.un 5 y)) ≤ 12 := by simp only [dp]; omega
  have hE1 := evalTopF (G := G) hV ro rv (by rw [rowR_len]; simp) w1 d1
  have hE2 := evalTopF (G := G) hV ro rv (by rw [rowR_len]; simp) w2 d2
  rw [← morgan (sound ro x 1 hwx) (sound ro y 1 hwy)] at hE2
  have hM1 := mayTopF (G := G) hV w1 d1
  have hM2 := mayTopF (G := G) hV w2 d2
  rw [show ((sT.length : Nat) : Int) = 4 from rfl] at hM1 hM2
  have hce := sound ro _ 1 w1
  have n1 := notExF (G := G) x
  have n2 := notExF (G := G) y
  have n3 := notExF (G := G) (.bin 19 x y)
  have hc2 := constF (G := G) ⟨2, 2, []⟩
  have hE3 : FV Tryd.prog G 10 [exD (.con ⟨2, 2, []⟩), .nsl] (fun r => r = vrD (⟨2, 2, []⟩, 0)) :=
    fv_arg (by simp [rowD]) (evalTopF (ts := []) (row := []) (t := 2) hV ⟨rfl, fun p t h => by simp at h⟩ (by simp) (by simp) (e := .con ⟨2, 2, []⟩) ⟨⟨txt_nil, by simp, by simp, by simp, .inr (.inr (.inl ⟨rfl, rfl⟩))⟩, .inr rfl⟩ (by simp [dp]))
  have t3 := exC_all x
  have t4 := exC_all y
  have t16 : List.take 16 (exC x ++ exC y) = exC x ++ exC y := List.take_of_length_le (by simp)
  generalize evE (rowR sT rws) (.un 5 (.bin 19 x y)) = R at *
  generalize rowR sT rws = row at *
  unfold twsD rwsD rowD vrD vlD exD at *
  rw [show vlC ⟨2, 2, []⟩ = [.int .i64 2, .int .i64 2, .str ⟨#[]⟩] from rfl] at *
  rw [show exC (.con ⟨2, 2, []⟩) = [.int .i64 1, .int .i64 2, .int .i64 2, .str ⟨#[]⟩, .str ⟨#[]⟩, .str ⟨#[]⟩, .int .i64 0, .nsl] from rfl] at *
  refine fv_enter_v Tryd.func4 rfl rfl fun Q hQ => ?_
  repeat' first
    | refine jw_ret (hQ _ _ (.inr rfl) ⟨5, _, _, rfl, rfl, ?_⟩)
    | refine jw_ret (hQ _ _ (.inr rfl) ⟨_, rfl, ?_⟩)
    | refine jw_seq_k fun K hK => ?_
    | refine jw_block ?_
    | ((first | refine jw_skip ?_ | refine jw_exit ?_); try simp)
    | (refine jw_cond rfl (fun hc => ?_) (fun hc => ?_) <;> (try simp at hc) <;> (try (exfalso; first | omega | exact absurd hc (by assumption))))
    | ((fail_if_success (refine jw_c (id := 4) ?_)); (refine jw_c ?_; simp (maxSteps := 1000000) [Tryd.f4, okCell, t3, t4]))
    | ((fail_if_success (refine jw_draw_j (id := 4) mixed (by kernel_rfl) ?_)); (refine jw_draw_j mixed (by kernel_rfl) ?_; simp (maxSteps := 1000000) [Tryd.f4, okCell, t3, t4]))
    | (first | (apply hK; clear hK) | (clear hK; apply hK; clear hK) | (clear hK; clear hK; apply hK; clear hK) | (clear hK; clear hK; clear hK; apply hK; clear hK))
    | exact hQ _ _ (.inl rfl) ⟨5, _, _, rfl, rfl, rfl⟩
    | refine hQ _ _ (.inl rfl) ⟨5, _, _, rfl, rfl, ?_⟩
    | refine hQ _ _ (.inl rfl) ⟨_, rfl, ?_⟩
    | ((first | (refine jl_call (f := 12) rfl rfl rfl rfl rfl (hS) (by simp [BelL, Bel]) ?_; rintro r rfl) | refine jd_call (f := 12) rfl rfl rfl rfl rfl (hS) (by simp [BelL, Bel]) ?_ | (refine jl_call (f := 11) rfl rfl rfl rfl rfl (hG1) (by simp [BelL, Bel]) ?_; rintro r rfl) | refine jd_call (f := 11) rfl rfl rfl rfl rfl (hG1) (by simp [BelL, Bel]) ?_ | (refine jl_call (f := 11) rfl rfl rfl rfl rfl (hG2) (by simp [BelL, Bel]) ?_; rintro r rfl) | refine jd_call (f := 11) rfl rfl rfl rfl rfl (hG2) (by simp [BelL, Bel]) ?_ | (refine jl_call (f := 13) rfl rfl rfl rfl rfl (hR) (by simp [BelL, Bel]) ?_; rintro r rfl) | refine jd_call (f := 13) rfl rfl rfl rfl rfl (hR) (by simp [BelL, Bel]) ?_); simp (maxSteps := 1000000) [Tryd.f4, okCell, t3, t4])
    | ((first | refine jd_newc rfl rfl (by simp) ?_ | refine okN_or ?_); simp (maxSteps := 1000000) [thD, thL, Tryd.f4, okCell, t3, t4])
    | ((first | refine okC_guard (fun hc => ?_) (fun hc => ?_) | refine okJ_guard (fun hc => ?_) (fun hc => ?_)) <;> (first | have hd := of_decide_eq_true hc | have hd := of_decide_eq_false hc | have hd := hc) <;> simp (maxSteps := 1000000) [hc, hd, Tryd.f4, okCell, t3, t4] <;> (try simp at hc) <;> (try (exfalso; first | omega | exact absurd hc (by assumption))))
    | (refine And.intro (by first | assumption | omega | (simp [BelL, Bel]; done) | (simp; omega)) ?_; try simp (maxSteps := 1000000) [Tryd.f4, okCell, t3, t4])
    | (refine okC_or ?_; simp (maxSteps := 1000000) [Tryd.f4, okCell, t3, t4])
  (refine jw_view (view_frz 0 _ rfl (by simp [BelL, Bel, thL_flat])) ?_; simp (maxSteps := 1000000) [thL, thD, thS, thOb, thL_flat])
  (refine jw_view (view_frz 1 _ rfl (by simp [BelL, Bel, thL_flat])) ?_; simp (maxSteps := 1000000) [thL, thD, thS, thOb, thL_flat])
  repeat' first
    | refine jw_ret (hQ _ _ (.inr rfl) ⟨5, _, _, rfl, rfl, ?_⟩)
    | refine jw_ret (hQ _ _ (.inr rfl) ⟨_, rfl, ?_⟩)
    | refine jw_seq_k fun K hK => ?_
    | refine jw_block ?_
    | ((first | refine jw_skip ?_ | refine jw_exit ?_); try simp)
    | (refine jw_cond rfl (fun hc => ?_) (fun hc => ?_) <;> (try simp at hc) <;> (try (exfalso; first | omega | exact absurd hc (by assumption))))
    | ((fail_if_success (refine jw_c (id := 6) ?_)); (refine jw_c ?_; simp (maxSteps := 1000000) [okCell, t3, t4]))
    | ((fail_if_success (refine jw_draw_j (id := 6) mixed (by kernel_rfl) ?_)); (refine jw_draw_j mixed (by kernel_rfl) ?_; simp (maxSteps := 1000000) [okCell, t3, t4]))
    | (first | (apply hK; clear hK) | (clear hK; apply hK; clear hK) | (clear hK; clear hK; apply hK; clear hK) | (clear hK; clear hK; clear hK; apply hK; clear hK))
    | exact hQ _ _ (.inl rfl) ⟨5, _, _, rfl, rfl, rfl⟩
    | refine hQ _ _ (.inl rfl) ⟨5, _, _, rfl, rfl, ?_⟩
    | refine hQ _ _ (.inl rfl) ⟨_, rfl, ?_⟩
    | ((first | refine jd_newc rfl rfl (by simp) ?_ | refine okN_or ?_); simp (maxSteps := 1000000) [thD, thL, okCell, t3, t4])
    | ((first | refine okC_guard (fun hc => ?_) (fun hc => ?_) | refine okJ_guard (fun hc => ?_) (fun hc => ?_)) <;> (first | have hd := of_decide_eq_true hc | have hd := of_decide_eq_false hc | have hd := hc) <;> simp (maxSteps := 1000000) [hc, hd, okCell, t3, t4] <;> (try simp at hc) <;> (try (exfalso; first | omega | exact absurd hc (by assumption))))
    | (refine And.intro (by first | assumption | omega | (simp [BelL, Bel]; done) | (simp; omega)) ?_; try simp (maxSteps := 1000000) [okCell, t3, t4])
    | (refine okC_or ?_; simp (maxSteps := 1000000) [okCell, t3, t4])
  (refine jw_view (view_frz 2 _ rfl (by simp [BelL, Bel, thL_flat, t16])) ?_; simp (maxSteps := 1000000) [thL, thD, thS, thOb, thL_flat, t16])
  (refine jw_view (view_frz 3 _ rfl (by simp [BelL, Bel, thL_flat])) ?_; simp (maxSteps := 1000000) [thL, thD, thS, thOb, thL_flat])
  have u16 : List.take 16 (exC (.un 5 x) ++ exC (.un 5 y)) = exC (.un 5 x) ++ exC (.un 5 y) := List.take_of_length_le (by simp)
  rw [show exC (.bin 19 x y) = [.int .i64 19, .int .i64 0, .int .i64 0, .str ⟨#[]⟩, .str ⟨#[]⟩, .str ⟨#[]⟩, .int .i64 0, .sl false (exC x ++ exC y) 2] from rfl] at n3
  rw [show exC (.bin 20 (.un 5 x) (.un 5 y)) = [.int .i64 20, .int .i64 0, .int .i64 0, .str ⟨#[]⟩, .str ⟨#[]⟩, .str ⟨#[]⟩, .int .i64 0, .sl false (exC (.un 5 x) ++ exC (.un 5 y)) 2] from rfl] at hE2 hM2
  repeat' first
    | refine jw_ret (hQ _ _ (.inr rfl) ⟨5, _, _, rfl, rfl, ?_⟩)
    | refine jw_ret (hQ _ _ (.inr rfl) ⟨_, rfl, ?_⟩)
    | refine jw_seq_k fun K hK => ?_
    | refine jw_block ?_
    | ((first | refine jw_skip ?_ | refine jw_exit ?_); try simp)
    | (refine jw_cond rfl (fun hc => ?_) (fun hc => ?_) <;> (try simp at hc) <;> (try (exfalso; first | omega | exact absurd hc (by assumption))))
    | ((fail_if_success (refine jw_c (id := 7) ?_)); (refine jw_c ?_; simp (maxSteps := 1000000) [okCell, t3, t4, u16]))
    | ((first | refine jw_draw_e (id := 6) [(8, 2), (9, 2)] mixed (by kernel_rfl) (by kernel_rfl) ?_ | (refine jl_call (f := 14) rfl rfl rfl rfl rfl (n1) (by simp [BelL, Bel]) ?_; rintro r rfl) | refine jd_call (f := 14) rfl rfl rfl rfl rfl (n1) (by simp [BelL, Bel]) ?_ | refine js_call (f := 14) rfl rfl rfl rfl rfl (n1) (by simp [BelL, Bel]) rfl ?_ | (refine jl_call (f := 14) rfl rfl rfl rfl rfl (n2) (by simp [BelL, Bel]) ?_; rintro r rfl) | refine jd_call (f := 14) rfl rfl rfl rfl rfl (n2) (by simp [BelL, Bel]) ?_ | refine js_call (f := 14) rfl rfl rfl rfl rfl (n2) (by simp [BelL, Bel]) rfl ?_ | refine js_newc rfl rfl (by simp) rfl ?_ | refine okM_or ?_ | refine okS_or ?_); simp (maxSteps := 1000000) [okCell, t3, t4, u16])
    | ((fail_if_success (refine jw_draw_j (id := 7) mixed (by kernel_rfl) ?_)); (refine jw_draw_j mixed (by kernel_rfl) ?_; simp (maxSteps := 1000000) [okCell, t3, t4, u16]))
    | (first | (apply hK; clear hK) | (clear hK; apply hK; clear hK) | (clear hK; clear hK; apply hK; clear hK) | (clear hK; clear hK; clear hK; apply hK; clear hK))
    | exact hQ _ _ (.inl rfl) ⟨5, _, _, rfl, rfl, rfl⟩
    | refine hQ _ _ (.inl rfl) ⟨5, _, _, rfl, rfl, ?_⟩
    | refine hQ _ _ (.inl rfl) ⟨_, rfl, ?_⟩
    | ((first | refine jd_newc rfl rfl (by simp) ?_ | refine okN_or ?_); simp (maxSteps := 1000000) [thD, thL, okCell, t3, t4, u16])
    | ((first | refine okS_guard (fun hc => ?_) (fun hc => ?_) | refine okC_guard (fun hc => ?_) (fun hc => ?_) | refine okJ_guard (fun hc => ?_) (fun hc => ?_)) <;> (first | have hd := of_decide_eq_true hc | have hd := of_decide_eq_false hc | have hd := hc) <;> simp (maxSteps := 1000000) [hc, hd, okCell, t3, t4, u16] <;> (try simp at hc) <;> (try (exfalso; first | omega | exact absurd hc (by assumption))))
    | (refine And.intro (by first | assumption | omega | (simp [BelL, Bel]; done) | (simp; omega)) ?_; try simp (maxSteps := 1000000) [okCell, t3, t4, u16])
    | (refine okC_or ?_; simp (maxSteps := 1000000) [okCell, t3, t4, u16])
  (refine jw_view (view_frz 4 _ rfl (by simp [BelL, Bel, thL_flat])) ?_; simp (maxSteps := 1000000) [thL, thD, thS, thOb, thL_flat])
  repeat' first
    | refine jw_seq_k fun K hK => ?_
    | refine jw_block ?_
    | ((first | refine jw_skip ?_ | refine jw_exit ?_); try simp)
    | (refine jw_cond rfl (fun hc => ?_) (fun hc => ?_) <;> (try simp at hc) <;> (try (exfalso; first | omega | exact absurd hc (by assumption))))
    | ((first | refine jw_c ?_ | refine jw_draw_j mixed (by kernel_rfl) ?_ | (refine jl_call (f := 14) rfl rfl rfl rfl rfl (n3) (by simp [BelL, Bel]) ?_; rintro r rfl) | refine jd_call (f := 14) rfl rfl rfl rfl rfl (n3) (by simp [BelL, Bel]) ?_ | (refine jl_call (f := 10) rfl rfl rfl rfl rfl (hE1) (by simp [BelL, Bel]) ?_; rintro r rfl) | refine jd_call (f := 10) rfl rfl rfl rfl rfl (hE1) (by simp [BelL, Bel]) ?_ | (refine jl_call (f := 10) rfl rfl rfl rfl rfl (hE2) (by simp [BelL, Bel]) ?_; rintro r rfl) | refine jd_call (f := 10) rfl rfl rfl rfl rfl (hE2) (by simp [BelL, Bel]) ?_ | (refine jl_call (f := 9) rfl rfl rfl rfl rfl (hc2) (by simp [BelL, Bel]) ?_; rintro r rfl) | refine jd_call (f := 9) rfl rfl rfl rfl rfl (hc2) (by simp [BelL, Bel]) ?_ | (refine jl_call (f := 10) rfl rfl rfl rfl rfl (hE3) (by simp [BelL, Bel]) ?_; rintro r rfl) | refine jd_call (f := 10) rfl rfl rfl rfl rfl (hE3) (by simp [BelL, Bel]) ?_ | (refine jl_call (f := 15) rfl rfl rfl rfl rfl (hM1) (by simp [BelL, Bel]) ?_; rintro r rfl) | refine jd_call (f := 15) rfl rfl rfl rfl rfl (hM1) (by simp [BelL, Bel]) ?_ | (refine jl_call (f := 15) rfl rfl rfl rfl rfl (hM2) (by simp [BelL, Bel]) ?_; rintro r rfl) | refine jd_call (f := 15) rfl rfl rfl rfl rfl (hM2) (by simp [BelL, Bel]) ?_); simp (maxSteps := 1000000) [okCell, vlC])
    | (first | (apply hK; clear hK) | (clear hK; apply hK; clear hK) | (clear hK; clear hK; apply hK; clear hK) | (clear hK; clear hK; clear hK; apply hK; clear hK))
    | ((first | refine jw_ret (hQ _ _ (.inr rfl) (ret_ok 0 ?_ (by first | omega | simp))) | refine hQ _ _ (.inl rfl) (ret_ok 0 ?_ (by first | omega | simp))); simp (maxSteps := 1000000) [okRet, BelL, Bel, BelS, BelOb, okCell, vlC])
    | ((first | refine jd_newc rfl rfl (by simp) ?_ | refine okN_or ?_); simp (maxSteps := 1000000) [thD, thL, okCell, vlC])
    | ((first | refine okC_guard (fun hc => ?_) (fun hc => ?_) | refine okJ_guard (fun hc => ?_) (fun hc => ?_)) <;> (first | have hd := of_decide_eq_true hc | have hd := of_decide_eq_false hc | have hd := hc) <;> simp (maxSteps := 1000000) [hc, hd, okCell, vlC] <;> (try simp at hc) <;> (try (exfalso; first | omega | exact absurd hc (by assumption))))
    | (refine And.intro (by first | assumption | omega | (simp [BelL, Bel]; done) | (simp; omega)) ?_; try simp (maxSteps := 1000000) [okCell, vlC])
    | (refine okC_or ?_; simp (maxSteps := 1000000) [okCell, vlC])
theorem evalMorgan_row (als : List (List D)) (h : Vm.Rows (Parts RawP) als) (hz : als.length * 32 ≤ 140737488351232) (_ : als.length ≤ 9223372036854775807) (bs : List (List D)) (hb : Vm.Rows (Parts RawP) bs) (hbz : bs.length * 32 ≤ 140737488351232) (_ : bs.length ≤ 9223372036854775807)
    (rs : List (List D)) (h' : Vm.Rows (Parts RawP) rs) (hz' : rs.length * 32 ≤ 140737488351232) (_ : rs.length ≤ 9223372036854775807) :
    FV Tryd.prog utfG 4 [.sl false als.flatten als.length, .sl false bs.flatten bs.length, .sl false rs.flatten rs.length] (fun r => r = .bool true) := by
  obtain ⟨l, h2, h3, h4⟩ := tws_of h
  obtain ⟨l2, k2, k3, k4⟩ := tws_of hb
  obtain ⟨r, g2, g3, g4⟩ := raws_of h'
  have := evalMorgan vstr l h4 (by omega) l2 k4 (by omega) r g4 (by omega)
  unfold twsD rwsD at this
  rw [h2, h3, k2, k3, g2, g3]
  exact this
end Go.Proofs.YtmgoekfgdgejiaaDoor
