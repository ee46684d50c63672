/- KeyOrder: the walk. -/
import Derived.Test.YtkjndbfinpfjfaaDoorKeyPure
set_option linter.unusedVariables false
set_option linter.unusedSimpArgs false
set_option maxRecDepth 20000
set_option maxHeartbeats 20000000
namespace Go.Proofs.YtkjndbfinpfjfaaDoor
open Go Go.Vm Go.Proofs

theorem rws_of : ∀ {ls : List (List D)}, Vm.Rows (Parts RawP) ls → ∃ l : List Rw, (∀ v ∈ l, RwOk v) ∧ ls.flatten = l.flatMap rwC ∧ ls.length = l.length
  | [], _ => ⟨[], by simp, rfl, rfl⟩
  | _ :: _, .cons _ ls h t => by
    obtain ⟨l, g1, g2, g3⟩ := rws_of t
    obtain ⟨k, i, s, h1, h2, h3, rfl⟩ := raw_of h
    have w := wf_i64 h2
    refine ⟨⟨k, i, s⟩ :: l, ?_, ?_, by simp [g3]⟩
    · intro v hv
      rcases List.mem_cons.1 hv with rfl | hv
      · exact ⟨w.1, w.2, h3⟩
      · exact g1 v hv
    · simp [rwC, g2]

theorem lessN {G : Globals} (a b : List Nat) (ha : a.length ≤ 1000000) (hb : b.length ≤ 1000000) : FV Tryd.prog G 16 [natsD a, natsD b] (fun r => r = .bool (lexN a b)) := by
  have := lessBytes (G := G) (a.map fun n : Nat => (n : Int)) (b.map fun n : Nat => (n : Int)) (by simpa using ha) (by simpa using hb)
  rw [← natsD_bytes, ← natsD_bytes, lex_map] at this
  exact this

theorem keyOrderW (l l' : List Rw) (hl : l.length ≤ 140737488351232) (h : ∀ v ∈ l, RwOk v) (hl' : l'.length ≤ 140737488351232) (h' : ∀ v ∈ l', RwOk v) :
    FV Tryd.prog utfG 7 [rwsD l, rwsD l'] (fun r => r = .bool true) := by
  refine fv_enter_v Tryd.func7 rfl rfl fun Q hQ => ?_
  repeat' first
    | refine jw_ret (hQ _ _ (.inr rfl) ⟨5, _, _, rfl, rfl, ?_⟩)
    | refine jw_ret (hQ _ _ (.inr rfl) ⟨_, rfl, ?_⟩)
    | refine jw_seq_k fun K hK => ?_
    | refine jw_block ?_
    | (refine jw_skip ?_; try simp)
    | (refine jw_exit ?_; try simp)
    | (refine jw_cond rfl (fun hc => ?_) (fun hc => ?_) <;> (try simp at hc) <;> (try (exfalso; first | omega | exact absurd hc (by assumption))))
    | ((fail_if_success (refine jw_c (id := 3) ?_)); (refine jw_c ?_; simp (maxSteps := 1000000) [Tryd.f7]))
    | ((fail_if_success (refine jw_draw_j (id := 3) mixed (by kernel_rfl) ?_)); (refine jw_draw_j mixed (by kernel_rfl) ?_; simp (maxSteps := 1000000) [Tryd.f7]))
    | (first | (apply hK; clear hK) | (clear hK; apply hK; clear hK) | (clear hK; clear hK; apply hK; clear hK) | (clear hK; clear hK; clear hK; apply hK; clear hK))
    | exact hQ _ _ (.inl rfl) ⟨5, _, _, rfl, rfl, rfl⟩
    | refine hQ _ _ (.inl rfl) ⟨5, _, _, rfl, rfl, ?_⟩
    | refine hQ _ _ (.inl rfl) ⟨_, rfl, ?_⟩
    | (refine jl_call (f := 20) rfl rfl rfl rfl rfl (valuesOfF l h hl 14 (by omega)) (by simp [BelL, Bel]) ?_; rintro r ⟨x, hx, hxl, rfl⟩; simp (maxSteps := 1000000) [Tryd.f7])
    | (refine jl_call (f := 20) rfl rfl rfl rfl rfl (valuesOfF l' h' hl' 14 (by omega)) (by simp [BelL, Bel]) ?_; rintro r ⟨y, hy, hyl, rfl⟩; simp (maxSteps := 1000000) [Tryd.f7])
    | (refine jd_newc rfl rfl (by simp) ?_; simp (maxSteps := 1000000) [thD, thL, Tryd.f7])
    | (refine okN_or ?_; simp (maxSteps := 1000000) [thD, thL, Tryd.f7])
    | (refine okC_guard (fun hc => ?_) (fun hc => ?_) <;> (first | simp (maxSteps := 1000000) [hc, of_decide_eq_true hc, Tryd.f7] | simp (maxSteps := 1000000) [hc, of_decide_eq_false hc, Tryd.f7] | simp (maxSteps := 1000000) [hc, Tryd.f7]) <;> (try simp at hc) <;> (try (exfalso; first | omega | exact absurd hc (by assumption))))
    | (refine okJ_guard (fun hc => ?_) (fun hc => ?_) <;> (first | simp (maxSteps := 1000000) [hc, of_decide_eq_true hc, Tryd.f7] | simp (maxSteps := 1000000) [hc, of_decide_eq_false hc, Tryd.f7] | simp (maxSteps := 1000000) [hc, Tryd.f7]) <;> (try simp at hc) <;> (try (exfalso; first | omega | exact absurd hc (by assumption))))
    | (refine And.intro (by first | assumption | omega | (simp [BelL, Bel]; done) | (simp; omega)) ?_; try simp (maxSteps := 1000000) [Tryd.f7])
    | (refine okC_or ?_; simp (maxSteps := 1000000) [Tryd.f7])
  have hex := encodeF x hxl hx
  have hey := encodeF y hyl hy
  have hbx := encL_len hx
  have hby := encL_len hy
  have l1 := lessN (G := utfG) (encL x) (encL y) (by omega) (by omega)
  have l2 := lessN (G := utfG) (encL y) (encL x) (by omega) (by omega)
  repeat' first
    | refine jw_ret (hQ _ _ (.inr rfl) ⟨5, _, _, rfl, rfl, ?_⟩)
    | refine jw_ret (hQ _ _ (.inr rfl) ⟨_, rfl, ?_⟩)
    | refine jw_seq_k fun K hK => ?_
    | refine jw_block ?_
    | (refine jw_skip ?_; try simp)
    | (refine jw_exit ?_; try simp)
    | (refine jw_cond rfl (fun hc => ?_) (fun hc => ?_) <;> (try simp at hc) <;> (try (exfalso; first | omega | exact absurd hc (by assumption))))
    | (refine jw_c ?_; simp (maxSteps := 1000000))
    | (refine jw_draw_j mixed (by kernel_rfl) ?_; simp (maxSteps := 1000000))
    | (first | (apply hK; clear hK) | (clear hK; apply hK; clear hK) | (clear hK; clear hK; apply hK; clear hK) | (clear hK; clear hK; clear hK; apply hK; clear hK))
    | exact hQ _ _ (.inl rfl) ⟨5, _, _, rfl, rfl, rfl⟩
    | refine hQ _ _ (.inl rfl) ⟨5, _, _, rfl, rfl, ?_⟩
    | refine hQ _ _ (.inl rfl) ⟨_, rfl, ?_⟩
    | (refine jl_call (f := 21) rfl rfl rfl rfl rfl (hex) (by simp [BelL, Bel]) ?_; rintro r rfl; simp (maxSteps := 1000000))
    | (refine jd_call (f := 21) rfl rfl rfl rfl rfl (hex) (by simp [BelL, Bel]) ?_; simp (maxSteps := 1000000))
    | (refine jl_call (f := 21) rfl rfl rfl rfl rfl (hey) (by simp [BelL, Bel]) ?_; rintro r rfl; simp (maxSteps := 1000000))
    | (refine jd_call (f := 21) rfl rfl rfl rfl rfl (hey) (by simp [BelL, Bel]) ?_; simp (maxSteps := 1000000))
    | (refine jd_newc rfl rfl (by simp) ?_; simp (maxSteps := 1000000) [thD, thL])
    | (refine okN_or ?_; simp (maxSteps := 1000000) [thD, thL])
    | (refine okC_guard (fun hc => ?_) (fun hc => ?_) <;> (first | simp (maxSteps := 1000000) [hc, of_decide_eq_true hc] | simp (maxSteps := 1000000) [hc, of_decide_eq_false hc] | simp (maxSteps := 1000000) [hc]) <;> (try simp at hc) <;> (try (exfalso; first | omega | exact absurd hc (by assumption))))
    | (refine okJ_guard (fun hc => ?_) (fun hc => ?_) <;> (first | simp (maxSteps := 1000000) [hc, of_decide_eq_true hc] | simp (maxSteps := 1000000) [hc, of_decide_eq_false hc] | simp (maxSteps := 1000000) [hc]) <;> (try simp at hc) <;> (try (exfalso; first | omega | exact absurd hc (by assumption))))
    | (refine And.intro (by first | assumption | omega | (simp [BelL, Bel]; done) | (simp; omega)) ?_; try simp (maxSteps := 1000000))
    | (refine okC_or ?_; simp (maxSteps := 1000000))
  refine jw_loop_v (fun m z => ∃ (i : Nat), (i ≤ x.length ∧ i ≤ y.length ∧ x.take i = y.take i) ∧ x.length - i = m ∧ z = ⟨List.replicate 5 .any ++ [vasD x, vasD y, natsD (encL x), .any, natsD (encL y), .any, .int .i64 i] ++ List.replicate 84 .any, []⟩) ⟨List.replicate 5 .any ++ [vasD x, vasD y, natsD (encL x), .any, natsD (encL y), .any, .int .i64 (0)] ++ List.replicate 84 .any, []⟩ (view_takeE (sl := List.replicate 5 .any ++ [vasD x, vasD y, natsD (encL x), .any, natsD (encL y), .any, .int .i64 (0)] ++ List.replicate 84 .any) (σ0 := []) 0 (by simp) (by first | omega | simp) (by first | omega | (simp; done) | (simp; omega)) (by first | exact LewS.refl _ | simp) (by simp [BelL, Bel]) (by simp [BelS, BelOb, BelL, Bel])) ⟨(0), ?_, rfl, rfl⟩ ?_
  rotate_left
  rintro m z ⟨i, hA, rfl, rfl⟩ KA hKA
  · obtain ⟨hix, hiy, hp⟩ := hA
    have hw := wrap_i64 (n := (i : Int) + 1) (by omega) (by omega)
    by_cases hlt : i < x.length ∧ i < y.length
    · obtain ⟨h1, h2⟩ := hlt
      have vx := hx _ (List.getElem_mem h1)
      have vy := hy _ (List.getElem_mem h2)
      have hdx := flat_drop vaC_len x i h1
      have hdy := flat_drop vaC_len y i h2
      have hlx := vas_len x
      have hly := vas_len y
      have hO := orderF (G := utfG) vstr vx vy
      have hO2 : ordV x[i].k x[i].i x[i].t y[i].k y[i].i y[i].t = ordA x[i] y[i] := rfl
      have hsame := fun hc => take_same hx hy h1 h2 hp hc
      have hat := fun hc => order_at hx hy h1 h2 hp hc
      obtain ⟨a, ha⟩ : ∃ v, x[i] = v := ⟨_, rfl⟩
      obtain ⟨b, hb⟩ : ∃ v, y[i] = v := ⟨_, rfl⟩
      simp only [ha, hb] at hO hO2 hsame hat hdx hdy
      rw [hO2] at hO
      unfold vaD at hO
      obtain ⟨c, hc0⟩ : ∃ c, ordA a b = c := ⟨_, rfl⟩
      rw [hc0] at hO hsame hat
      by_cases hz : c = 0
      · have hn := hsame hz
        subst hz
        repeat' first
          | refine jw_ret (hQ _ _ (.inr rfl) ⟨5, _, _, rfl, rfl, ?_⟩)
          | refine jw_ret (hQ _ _ (.inr rfl) ⟨_, rfl, ?_⟩)
          | refine jw_seq_k fun K hK => ?_
          | refine jw_block ?_
          | (refine jw_skip ?_; try simp)
          | (refine jw_exit ?_; try simp)
          | (refine jw_cond rfl (fun hc => ?_) (fun hc => ?_) <;> (try simp at hc) <;> (try (exfalso; first | omega | exact absurd hc (by assumption))))
          | (refine jw_c ?_; simp (maxSteps := 1000000) [h1, h2, vasD, hdx, hdy, hlx, hly, vaC, hw, show i * 3 < x.length * 3 by omega, show i * 3 < y.length * 3 by omega])
          | (refine jw_draw_j mixed (by kernel_rfl) ?_; simp (maxSteps := 1000000) [h1, h2, vasD, hdx, hdy, hlx, hly, vaC, hw, show i * 3 < x.length * 3 by omega, show i * 3 < y.length * 3 by omega])
          | (first | (apply hK; clear hK) | (clear hK; apply hK; clear hK) | (clear hK; clear hK; apply hK; clear hK) | (clear hK; clear hK; clear hK; apply hK; clear hK))
          | exact hQ _ _ (.inl rfl) ⟨5, _, _, rfl, rfl, rfl⟩
          | refine hQ _ _ (.inl rfl) ⟨5, _, _, rfl, rfl, ?_⟩
          | refine hQ _ _ (.inl rfl) ⟨_, rfl, ?_⟩
          | (refine jl_call (f := 12) rfl rfl rfl rfl rfl (hO) (by simp [BelL, Bel]) ?_; rintro r rfl; simp (maxSteps := 1000000) [h1, h2, vasD, hdx, hdy, hlx, hly, vaC, hw, show i * 3 < x.length * 3 by omega, show i * 3 < y.length * 3 by omega])
          | (refine jd_call (f := 12) rfl rfl rfl rfl rfl (hO) (by simp [BelL, Bel]) ?_; simp (maxSteps := 1000000) [h1, h2, vasD, hdx, hdy, hlx, hly, vaC, hw, show i * 3 < x.length * 3 by omega, show i * 3 < y.length * 3 by omega])
          | (refine jd_newc rfl rfl (by simp) ?_; simp (maxSteps := 1000000) [thD, thL, h1, h2, vasD, hdx, hdy, hlx, hly, vaC, hw, show i * 3 < x.length * 3 by omega, show i * 3 < y.length * 3 by omega])
          | (refine okN_or ?_; simp (maxSteps := 1000000) [thD, thL, h1, h2, vasD, hdx, hdy, hlx, hly, vaC, hw, show i * 3 < x.length * 3 by omega, show i * 3 < y.length * 3 by omega])
          | (refine okC_guard (fun hc => ?_) (fun hc => ?_) <;> (first | simp (maxSteps := 1000000) [hc, of_decide_eq_true hc, h1, h2, vasD, hdx, hdy, hlx, hly, vaC, hw, show i * 3 < x.length * 3 by omega, show i * 3 < y.length * 3 by omega] | simp (maxSteps := 1000000) [hc, of_decide_eq_false hc, h1, h2, vasD, hdx, hdy, hlx, hly, vaC, hw, show i * 3 < x.length * 3 by omega, show i * 3 < y.length * 3 by omega] | simp (maxSteps := 1000000) [hc, h1, h2, vasD, hdx, hdy, hlx, hly, vaC, hw, show i * 3 < x.length * 3 by omega, show i * 3 < y.length * 3 by omega]) <;> (try simp at hc) <;> (try (exfalso; first | omega | exact absurd hc (by assumption))))
          | (refine okJ_guard (fun hc => ?_) (fun hc => ?_) <;> (first | simp (maxSteps := 1000000) [hc, of_decide_eq_true hc, h1, h2, vasD, hdx, hdy, hlx, hly, vaC, hw, show i * 3 < x.length * 3 by omega, show i * 3 < y.length * 3 by omega] | simp (maxSteps := 1000000) [hc, of_decide_eq_false hc, h1, h2, vasD, hdx, hdy, hlx, hly, vaC, hw, show i * 3 < x.length * 3 by omega, show i * 3 < y.length * 3 by omega] | simp (maxSteps := 1000000) [hc, h1, h2, vasD, hdx, hdy, hlx, hly, vaC, hw, show i * 3 < x.length * 3 by omega, show i * 3 < y.length * 3 by omega]) <;> (try simp at hc) <;> (try (exfalso; first | omega | exact absurd hc (by assumption))))
          | (refine And.intro (by first | assumption | omega | (simp [BelL, Bel]; done) | (simp; omega)) ?_; try simp (maxSteps := 1000000) [h1, h2, vasD, hdx, hdy, hlx, hly, vaC, hw, show i * 3 < x.length * 3 by omega, show i * 3 < y.length * 3 by omega])
          | (refine okC_or ?_; simp (maxSteps := 1000000) [h1, h2, vasD, hdx, hdy, hlx, hly, vaC, hw, show i * 3 < x.length * 3 by omega, show i * 3 < y.length * 3 by omega])
        refine hKA (x.length - (i + 1)) _ ⟨List.replicate 5 .any ++ [vasD x, vasD y, natsD (encL x), .any, natsD (encL y), .any, .int .i64 (i + 1)] ++ List.replicate 84 .any, []⟩ (by omega) (view_takeE (sl := List.replicate 5 .any ++ [vasD x, vasD y, natsD (encL x), .any, natsD (encL y), .any, .int .i64 (i + 1)] ++ List.replicate 84 .any) (σ0 := []) 0 (by simp [vasD]) (by first | omega | simp) (by first | omega | (simp [vasD]; done) | (simp [vasD]; omega)) (by first | exact LewS.refl _ | simp [vasD]) (by simp [BelL, Bel, vasD]) (by simp [BelS, BelOb, BelL, Bel, vasD])) ⟨(i + 1), ?_, rfl, rfl⟩
        exact ⟨by omega, by omega, hn⟩
      · have hn := hat hz
        rw [hn.1] at l1
        rw [hn.2] at l2
        repeat' first
          | refine jw_seq_k fun K hK => ?_
          | refine jw_block ?_
          | (refine jw_skip ?_; try simp)
          | (refine jw_exit ?_; try simp)
          | (refine jw_cond rfl (fun hc => ?_) (fun hc => ?_) <;> (try simp at hc) <;> (try (exfalso; first | omega | exact absurd hc (by assumption))))
          | (refine jw_c ?_; simp (maxSteps := 1000000) [h1, h2, hz, vasD, hdx, hdy, hlx, hly, vaC, hw, show i * 3 < x.length * 3 by omega, show i * 3 < y.length * 3 by omega])
          | (refine jw_draw_j mixed (by kernel_rfl) ?_; simp (maxSteps := 1000000) [h1, h2, hz, vasD, hdx, hdy, hlx, hly, vaC, hw, show i * 3 < x.length * 3 by omega, show i * 3 < y.length * 3 by omega])
          | (first | (apply hK; clear hK) | (clear hK; apply hK; clear hK) | (clear hK; clear hK; apply hK; clear hK) | (clear hK; clear hK; clear hK; apply hK; clear hK))
          | (refine jl_call (f := 12) rfl rfl rfl rfl rfl (hO) (by simp [BelL, Bel]) ?_; rintro r rfl; simp (maxSteps := 1000000) [h1, h2, hz, vasD, hdx, hdy, hlx, hly, vaC, hw, show i * 3 < x.length * 3 by omega, show i * 3 < y.length * 3 by omega])
          | (refine jd_call (f := 12) rfl rfl rfl rfl rfl (hO) (by simp [BelL, Bel]) ?_; simp (maxSteps := 1000000) [h1, h2, hz, vasD, hdx, hdy, hlx, hly, vaC, hw, show i * 3 < x.length * 3 by omega, show i * 3 < y.length * 3 by omega])
          | (refine jl_call (f := 16) rfl rfl rfl rfl rfl (l1) (by simp [BelL, Bel]) ?_; rintro r rfl; simp (maxSteps := 1000000) [h1, h2, hz, vasD, hdx, hdy, hlx, hly, vaC, hw, show i * 3 < x.length * 3 by omega, show i * 3 < y.length * 3 by omega])
          | (refine jd_call (f := 16) rfl rfl rfl rfl rfl (l1) (by simp [BelL, Bel]) ?_; simp (maxSteps := 1000000) [h1, h2, hz, vasD, hdx, hdy, hlx, hly, vaC, hw, show i * 3 < x.length * 3 by omega, show i * 3 < y.length * 3 by omega])
          | (refine jl_call (f := 16) rfl rfl rfl rfl rfl (l2) (by simp [BelL, Bel]) ?_; rintro r rfl; simp (maxSteps := 1000000) [h1, h2, hz, vasD, hdx, hdy, hlx, hly, vaC, hw, show i * 3 < x.length * 3 by omega, show i * 3 < y.length * 3 by omega])
          | (refine jd_call (f := 16) rfl rfl rfl rfl rfl (l2) (by simp [BelL, Bel]) ?_; simp (maxSteps := 1000000) [h1, h2, hz, vasD, hdx, hdy, hlx, hly, vaC, hw, show i * 3 < x.length * 3 by omega, show i * 3 < y.length * 3 by omega])
          | (refine jw_ret (hQ _ _ (.inr rfl) (ret_ok 0 ?_ (by first | omega | simp))); simp (maxSteps := 1000000) [okRet, BelL, Bel, BelS, BelOb, h1, h2, hz, vasD, hdx, hdy, hlx, hly, vaC, hw, show i * 3 < x.length * 3 by omega, show i * 3 < y.length * 3 by omega])
          | (refine hQ _ _ (.inl rfl) (ret_ok 0 ?_ (by first | omega | simp)); simp (maxSteps := 1000000) [okRet, BelL, Bel, BelS, BelOb, h1, h2, hz, vasD, hdx, hdy, hlx, hly, vaC, hw, show i * 3 < x.length * 3 by omega, show i * 3 < y.length * 3 by omega])
          | (refine jd_newc rfl rfl (by simp) ?_; simp (maxSteps := 1000000) [thD, thL, h1, h2, hz, vasD, hdx, hdy, hlx, hly, vaC, hw, show i * 3 < x.length * 3 by omega, show i * 3 < y.length * 3 by omega])
          | (refine okN_or ?_; simp (maxSteps := 1000000) [thD, thL, h1, h2, hz, vasD, hdx, hdy, hlx, hly, vaC, hw, show i * 3 < x.length * 3 by omega, show i * 3 < y.length * 3 by omega])
          | (refine okC_guard (fun hc => ?_) (fun hc => ?_) <;> (first | simp (maxSteps := 1000000) [hc, of_decide_eq_true hc, h1, h2, hz, vasD, hdx, hdy, hlx, hly, vaC, hw, show i * 3 < x.length * 3 by omega, show i * 3 < y.length * 3 by omega] | simp (maxSteps := 1000000) [hc, of_decide_eq_false hc, h1, h2, hz, vasD, hdx, hdy, hlx, hly, vaC, hw, show i * 3 < x.length * 3 by omega, show i * 3 < y.length * 3 by omega] | simp (maxSteps := 1000000) [hc, h1, h2, hz, vasD, hdx, hdy, hlx, hly, vaC, hw, show i * 3 < x.length * 3 by omega, show i * 3 < y.length * 3 by omega]) <;> (try simp at hc) <;> (try (exfalso; first | omega | exact absurd hc (by assumption))))
          | (refine okJ_guard (fun hc => ?_) (fun hc => ?_) <;> (first | simp (maxSteps := 1000000) [hc, of_decide_eq_true hc, h1, h2, hz, vasD, hdx, hdy, hlx, hly, vaC, hw, show i * 3 < x.length * 3 by omega, show i * 3 < y.length * 3 by omega] | simp (maxSteps := 1000000) [hc, of_decide_eq_false hc, h1, h2, hz, vasD, hdx, hdy, hlx, hly, vaC, hw, show i * 3 < x.length * 3 by omega, show i * 3 < y.length * 3 by omega] | simp (maxSteps := 1000000) [hc, h1, h2, hz, vasD, hdx, hdy, hlx, hly, vaC, hw, show i * 3 < x.length * 3 by omega, show i * 3 < y.length * 3 by omega]) <;> (try simp at hc) <;> (try (exfalso; first | omega | exact absurd hc (by assumption))))
          | (refine And.intro (by first | assumption | omega | (simp [BelL, Bel]; done) | (simp; omega)) ?_; try simp (maxSteps := 1000000) [h1, h2, hz, vasD, hdx, hdy, hlx, hly, vaC, hw, show i * 3 < x.length * 3 by omega, show i * 3 < y.length * 3 by omega])
          | (refine okC_or ?_; simp (maxSteps := 1000000) [h1, h2, hz, vasD, hdx, hdy, hlx, hly, vaC, hw, show i * 3 < x.length * 3 by omega, show i * 3 < y.length * 3 by omega])
    · have hn := order_end hx hy hlt hix hiy hp
      rw [hn.1] at l1
      rw [hn.2] at l2
      by_cases h1 : i < x.length
      · repeat' first
          | refine jw_seq_k fun K hK => ?_
          | refine jw_block ?_
          | (refine jw_skip ?_; try simp)
          | (refine jw_exit ?_; try simp)
          | (refine jw_cond rfl (fun hc => ?_) (fun hc => ?_) <;> (try simp at hc) <;> (try (exfalso; first | omega | exact absurd hc (by assumption))))
          | (refine jw_c ?_; simp (maxSteps := 1000000) [h1, show ¬ i < y.length by omega, vasD])
          | (refine jw_draw_j mixed (by kernel_rfl) ?_; simp (maxSteps := 1000000) [h1, show ¬ i < y.length by omega, vasD])
          | (first | (apply hK; clear hK) | (clear hK; apply hK; clear hK) | (clear hK; clear hK; apply hK; clear hK) | (clear hK; clear hK; clear hK; apply hK; clear hK))
          | (refine jl_call (f := 16) rfl rfl rfl rfl rfl (l1) (by simp [BelL, Bel]) ?_; rintro r rfl; simp (maxSteps := 1000000) [h1, show ¬ i < y.length by omega, vasD])
          | (refine jd_call (f := 16) rfl rfl rfl rfl rfl (l1) (by simp [BelL, Bel]) ?_; simp (maxSteps := 1000000) [h1, show ¬ i < y.length by omega, vasD])
          | (refine jl_call (f := 16) rfl rfl rfl rfl rfl (l2) (by simp [BelL, Bel]) ?_; rintro r rfl; simp (maxSteps := 1000000) [h1, show ¬ i < y.length by omega, vasD])
          | (refine jd_call (f := 16) rfl rfl rfl rfl rfl (l2) (by simp [BelL, Bel]) ?_; simp (maxSteps := 1000000) [h1, show ¬ i < y.length by omega, vasD])
          | (refine jw_ret (hQ _ _ (.inr rfl) (ret_ok 0 ?_ (by first | omega | simp))); simp (maxSteps := 1000000) [okRet, BelL, Bel, BelS, BelOb, h1, show ¬ i < y.length by omega, vasD])
          | (refine hQ _ _ (.inl rfl) (ret_ok 0 ?_ (by first | omega | simp)); simp (maxSteps := 1000000) [okRet, BelL, Bel, BelS, BelOb, h1, show ¬ i < y.length by omega, vasD])
          | (refine jd_newc rfl rfl (by simp) ?_; simp (maxSteps := 1000000) [thD, thL, h1, show ¬ i < y.length by omega, vasD])
          | (refine okN_or ?_; simp (maxSteps := 1000000) [thD, thL, h1, show ¬ i < y.length by omega, vasD])
          | (refine okC_guard (fun hc => ?_) (fun hc => ?_) <;> (first | simp (maxSteps := 1000000) [hc, of_decide_eq_true hc, h1, show ¬ i < y.length by omega, vasD] | simp (maxSteps := 1000000) [hc, of_decide_eq_false hc, h1, show ¬ i < y.length by omega, vasD] | simp (maxSteps := 1000000) [hc, h1, show ¬ i < y.length by omega, vasD]) <;> (try simp at hc) <;> (try (exfalso; first | omega | exact absurd hc (by assumption))))
          | (refine okJ_guard (fun hc => ?_) (fun hc => ?_) <;> (first | simp (maxSteps := 1000000) [hc, of_decide_eq_true hc, h1, show ¬ i < y.length by omega, vasD] | simp (maxSteps := 1000000) [hc, of_decide_eq_false hc, h1, show ¬ i < y.length by omega, vasD] | simp (maxSteps := 1000000) [hc, h1, show ¬ i < y.length by omega, vasD]) <;> (try simp at hc) <;> (try (exfalso; first | omega | exact absurd hc (by assumption))))
          | (refine And.intro (by first | assumption | omega | (simp [BelL, Bel]; done) | (simp; omega)) ?_; try simp (maxSteps := 1000000) [h1, show ¬ i < y.length by omega, vasD])
          | (refine okC_or ?_; simp (maxSteps := 1000000) [h1, show ¬ i < y.length by omega, vasD])
      · repeat' first
          | refine jw_seq_k fun K hK => ?_
          | refine jw_block ?_
          | (refine jw_skip ?_; try simp)
          | (refine jw_exit ?_; try simp)
          | (refine jw_cond rfl (fun hc => ?_) (fun hc => ?_) <;> (try simp at hc) <;> (try (exfalso; first | omega | exact absurd hc (by assumption))))
          | (refine jw_c ?_; simp (maxSteps := 1000000) [h1, vasD])
          | (refine jw_draw_j mixed (by kernel_rfl) ?_; simp (maxSteps := 1000000) [h1, vasD])
          | (first | (apply hK; clear hK) | (clear hK; apply hK; clear hK) | (clear hK; clear hK; apply hK; clear hK) | (clear hK; clear hK; clear hK; apply hK; clear hK))
          | (refine jl_call (f := 16) rfl rfl rfl rfl rfl (l1) (by simp [BelL, Bel]) ?_; rintro r rfl; simp (maxSteps := 1000000) [h1, vasD])
          | (refine jd_call (f := 16) rfl rfl rfl rfl rfl (l1) (by simp [BelL, Bel]) ?_; simp (maxSteps := 1000000) [h1, vasD])
          | (refine jl_call (f := 16) rfl rfl rfl rfl rfl (l2) (by simp [BelL, Bel]) ?_; rintro r rfl; simp (maxSteps := 1000000) [h1, vasD])
          | (refine jd_call (f := 16) rfl rfl rfl rfl rfl (l2) (by simp [BelL, Bel]) ?_; simp (maxSteps := 1000000) [h1, vasD])
          | (refine jw_ret (hQ _ _ (.inr rfl) (ret_ok 0 ?_ (by first | omega | simp))); simp (maxSteps := 1000000) [okRet, BelL, Bel, BelS, BelOb, h1, vasD])
          | (refine hQ _ _ (.inl rfl) (ret_ok 0 ?_ (by first | omega | simp)); simp (maxSteps := 1000000) [okRet, BelL, Bel, BelS, BelOb, h1, vasD])
          | (refine jd_newc rfl rfl (by simp) ?_; simp (maxSteps := 1000000) [thD, thL, h1, vasD])
          | (refine okN_or ?_; simp (maxSteps := 1000000) [thD, thL, h1, vasD])
          | (refine okC_guard (fun hc => ?_) (fun hc => ?_) <;> (first | simp (maxSteps := 1000000) [hc, of_decide_eq_true hc, h1, vasD] | simp (maxSteps := 1000000) [hc, of_decide_eq_false hc, h1, vasD] | simp (maxSteps := 1000000) [hc, h1, vasD]) <;> (try simp at hc) <;> (try (exfalso; first | omega | exact absurd hc (by assumption))))
          | (refine okJ_guard (fun hc => ?_) (fun hc => ?_) <;> (first | simp (maxSteps := 1000000) [hc, of_decide_eq_true hc, h1, vasD] | simp (maxSteps := 1000000) [hc, of_decide_eq_false hc, h1, vasD] | simp (maxSteps := 1000000) [hc, h1, vasD]) <;> (try simp at hc) <;> (try (exfalso; first | omega | exact absurd hc (by assumption))))
          | (refine And.intro (by first | assumption | omega | (simp [BelL, Bel]; done) | (simp; omega)) ?_; try simp (maxSteps := 1000000) [h1, vasD])
          | (refine okC_or ?_; simp (maxSteps := 1000000) [h1, vasD])
  · simp
theorem keyOrder (ls : List (List D)) (hr : Vm.Rows (Parts RawP) ls) (hz : ls.length * 32 ≤ 140737488351232) (_ : ls.length ≤ 9223372036854775807) (ms : List (List D)) (hr2 : Vm.Rows (Parts RawP) ms) (hz2 : ms.length * 32 ≤ 140737488351232) (_ : ms.length ≤ 9223372036854775807) :
    FV Tryd.prog utfG 7 [.sl false ls.flatten ls.length, .sl false ms.flatten ms.length] (fun r => r = .bool true) := by
  obtain ⟨l, h1, h2, h3⟩ := rws_of hr
  obtain ⟨k, g1, g2, g3⟩ := rws_of hr2
  rw [h2, h3, g2, g3]
  exact keyOrderW l k (by omega) h1 (by omega) g1
end Go.Proofs.YtkjndbfinpfjfaaDoor
