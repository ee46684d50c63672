/- Swap: a unit in the place of another one. -/
import Derived.Test.YtaoohkfocajdcaaSeqs
set_option linter.unusedVariables false
set_option linter.unusedSimpArgs false
set_option maxRecDepth 20000
set_option maxHeartbeats 20000000
namespace Go.Proofs.Ytaoohkfocajdcaa
open Go Go.Vm Go.Proofs

/-- Index, of a slice that stands in the store. -/
theorem indexM {G : Globals} (l : List Int) (hl : l.length ≤ 1000000) (x : Int) : FC Try.prog G 19 [.ms 0 l.length 0 l.length 1, .int .i64 x] [some (.c (l.map (.int .i64)))] (fun d σ' => d = .int .i64 (idxI l x) ∧ σ' = [some (.c (l.map (.int .i64)))]) := by
  refine fc_enter_v Try.func19 rfl rfl fun Q hQ => ?_
  repeat' first
    | refine jw_ret (hQ _ _ (.inr rfl) ⟨5, _, _, rfl, rfl, ?_⟩)
    | refine jw_ret (hQ _ _ (.inr rfl) ⟨_, rfl, ?_⟩)
    | refine jw_seq_k fun K hK => ?_
    | refine jw_block ?_
    | (refine jw_skip ?_; try simp)
    | (refine jw_exit ?_; try simp)
    | (refine jw_cond rfl (fun hc => ?_) (fun hc => ?_) <;> (try simp at hc) <;> (try (exfalso; first | omega | exact absurd hc (by assumption))))
    | (refine jw_c ?_; simp (maxSteps := 1000000) [Try.f19])
    | (refine jw_draw_j mixed (by kernel_rfl) ?_; simp (maxSteps := 1000000) [Try.f19])
    | (first | (apply hK; clear hK) | (clear hK; apply hK; clear hK) | (clear hK; clear hK; apply hK; clear hK) | (clear hK; clear hK; clear hK; apply hK; clear hK))
    | exact hQ _ _ (.inl rfl) ⟨5, _, _, rfl, rfl, rfl⟩
    | refine hQ _ _ (.inl rfl) ⟨5, _, _, rfl, rfl, ?_⟩
    | refine hQ _ _ (.inl rfl) ⟨_, rfl, ?_⟩
    | (refine jd_newc rfl rfl (by simp) ?_; simp (maxSteps := 1000000) [thD, thL, Try.f19])
    | (refine okN_or ?_; simp (maxSteps := 1000000) [thD, thL, Try.f19])
    | (refine okC_guard (fun hc => ?_) (fun hc => ?_) <;> (first | simp (maxSteps := 1000000) [hc, of_decide_eq_true hc, Try.f19] | simp (maxSteps := 1000000) [hc, of_decide_eq_false hc, Try.f19] | simp (maxSteps := 1000000) [hc, Try.f19]) <;> (try simp at hc) <;> (try (exfalso; first | omega | exact absurd hc (by assumption))))
    | (refine okJ_guard (fun hc => ?_) (fun hc => ?_) <;> (first | simp (maxSteps := 1000000) [hc, of_decide_eq_true hc, Try.f19] | simp (maxSteps := 1000000) [hc, of_decide_eq_false hc, Try.f19] | simp (maxSteps := 1000000) [hc, Try.f19]) <;> (try simp at hc) <;> (try (exfalso; first | omega | exact absurd hc (by assumption))))
    | (refine And.intro (by first | assumption | omega | (simp [BelL, Bel]; done) | (simp; omega)) ?_; try simp (maxSteps := 1000000) [Try.f19])
    | (refine okC_or ?_; simp (maxSteps := 1000000) [Try.f19])
  refine jw_loop_v (fun m z => ∃ (i : Nat), (i ≤ l.length ∧ ∀ k, (hk : k < i) → (hk2 : k < l.length) → l[k] ≠ x) ∧ l.length - i = m ∧ z = ⟨[.ms 0 l.length 0 l.length 1, .int .i64 x] ++ List.replicate 5 .any ++ [.int .i64 l.length, .int .i64 i] ++ List.replicate 10 .any, [some (.c (l.map (.int .i64)))]⟩) ⟨[.ms 0 l.length 0 l.length 1, .int .i64 x] ++ List.replicate 5 .any ++ [.int .i64 l.length, .int .i64 (0)] ++ List.replicate 10 .any, [some (.c (l.map (.int .i64)))]⟩ (view_takeE (sl := [.ms 0 l.length 0 l.length 1, .int .i64 x] ++ List.replicate 5 .any ++ [.int .i64 l.length, .int .i64 (0)] ++ List.replicate 10 .any) (σ0 := [some (.c (l.map (.int .i64)))]) 1 (by simp) (by first | omega | simp) (by first | omega | (simp; done) | (simp; omega)) (by first | exact LewS.refl _ | simp) (by simp [BelL, Bel]) (by simp [BelS, BelOb, BelL, Bel])) ⟨(0), ?_, rfl, rfl⟩ ?_
  rotate_left
  rintro m z ⟨i, hA, rfl, rfl⟩ KA hKA
  · obtain ⟨hi, hn⟩ := hA
    have hw := wrap_i64 (n := (i : Int) + 1) (by omega) (by omega)
    by_cases hlt : i < l.length
    · by_cases he : x = l[i]
      · have hx := idx_at hlt he.symm fun k hk => hn k hk (by omega)
        rw [hx] at hQ
        repeat' first
          | refine jw_seq_k fun K hK => ?_
          | refine jw_block ?_
          | (refine jw_skip ?_; try simp)
          | (refine jw_exit ?_; try simp)
          | (refine jw_cond rfl (fun hc => ?_) (fun hc => ?_) <;> (try simp at hc) <;> (try (exfalso; first | omega | exact absurd hc (by assumption))))
          | (refine jw_c ?_; simp (maxSteps := 1000000) [hlt, ← he])
          | (refine jw_draw_j mixed (by kernel_rfl) ?_; simp (maxSteps := 1000000) [hlt, ← he])
          | (first | (apply hK; clear hK) | (clear hK; apply hK; clear hK) | (clear hK; clear hK; apply hK; clear hK) | (clear hK; clear hK; clear hK; apply hK; clear hK))
          | (refine jw_ret (hQ _ _ (.inr rfl) (ret_ok 1 ?_ (by first | omega | simp))); simp (maxSteps := 1000000) [okRet, BelL, Bel, BelS, BelOb, hlt, ← he])
          | (refine hQ _ _ (.inl rfl) (ret_ok 1 ?_ (by first | omega | simp)); simp (maxSteps := 1000000) [okRet, BelL, Bel, BelS, BelOb, hlt, ← he])
          | (refine jd_newc rfl rfl (by simp) ?_; simp (maxSteps := 1000000) [thD, thL, hlt, ← he])
          | (refine okN_or ?_; simp (maxSteps := 1000000) [thD, thL, hlt, ← he])
          | (refine okC_guard (fun hc => ?_) (fun hc => ?_) <;> (first | simp (maxSteps := 1000000) [hc, of_decide_eq_true hc, hlt, ← he] | simp (maxSteps := 1000000) [hc, of_decide_eq_false hc, hlt, ← he] | simp (maxSteps := 1000000) [hc, hlt, ← he]) <;> (try simp at hc) <;> (try (exfalso; first | omega | exact absurd hc (by assumption))))
          | (refine okJ_guard (fun hc => ?_) (fun hc => ?_) <;> (first | simp (maxSteps := 1000000) [hc, of_decide_eq_true hc, hlt, ← he] | simp (maxSteps := 1000000) [hc, of_decide_eq_false hc, hlt, ← he] | simp (maxSteps := 1000000) [hc, hlt, ← he]) <;> (try simp at hc) <;> (try (exfalso; first | omega | exact absurd hc (by assumption))))
          | (refine And.intro (by first | assumption | omega | (simp [BelL, Bel]; done) | (simp; omega)) ?_; try simp (maxSteps := 1000000) [hlt, ← he])
          | (refine okC_or ?_; simp (maxSteps := 1000000) [hlt, ← he])
      · repeat' first
          | refine jw_ret (hQ _ _ (.inr rfl) ⟨5, _, _, rfl, rfl, ?_⟩)
          | refine jw_ret (hQ _ _ (.inr rfl) ⟨_, rfl, ?_⟩)
          | refine jw_seq_k fun K hK => ?_
          | refine jw_block ?_
          | (refine jw_skip ?_; try simp)
          | (refine jw_exit ?_; try simp)
          | (refine jw_cond rfl (fun hc => ?_) (fun hc => ?_) <;> (try simp at hc) <;> (try (exfalso; first | omega | exact absurd hc (by assumption))))
          | (refine jw_c ?_; simp (maxSteps := 1000000) [hlt, he, hw])
          | (refine jw_draw_j mixed (by kernel_rfl) ?_; simp (maxSteps := 1000000) [hlt, he, hw])
          | (first | (apply hK; clear hK) | (clear hK; apply hK; clear hK) | (clear hK; clear hK; apply hK; clear hK) | (clear hK; clear hK; clear hK; apply hK; clear hK))
          | exact hQ _ _ (.inl rfl) ⟨5, _, _, rfl, rfl, rfl⟩
          | refine hQ _ _ (.inl rfl) ⟨5, _, _, rfl, rfl, ?_⟩
          | refine hQ _ _ (.inl rfl) ⟨_, rfl, ?_⟩
          | (refine jd_newc rfl rfl (by simp) ?_; simp (maxSteps := 1000000) [thD, thL, hlt, he, hw])
          | (refine okN_or ?_; simp (maxSteps := 1000000) [thD, thL, hlt, he, hw])
          | (refine okC_guard (fun hc => ?_) (fun hc => ?_) <;> (first | simp (maxSteps := 1000000) [hc, of_decide_eq_true hc, hlt, he, hw] | simp (maxSteps := 1000000) [hc, of_decide_eq_false hc, hlt, he, hw] | simp (maxSteps := 1000000) [hc, hlt, he, hw]) <;> (try simp at hc) <;> (try (exfalso; first | omega | exact absurd hc (by assumption))))
          | (refine okJ_guard (fun hc => ?_) (fun hc => ?_) <;> (first | simp (maxSteps := 1000000) [hc, of_decide_eq_true hc, hlt, he, hw] | simp (maxSteps := 1000000) [hc, of_decide_eq_false hc, hlt, he, hw] | simp (maxSteps := 1000000) [hc, hlt, he, hw]) <;> (try simp at hc) <;> (try (exfalso; first | omega | exact absurd hc (by assumption))))
          | (refine And.intro (by first | assumption | omega | (simp [BelL, Bel]; done) | (simp; omega)) ?_; try simp (maxSteps := 1000000) [hlt, he, hw])
          | (refine okC_or ?_; simp (maxSteps := 1000000) [hlt, he, hw])
        refine hKA (l.length - (i + 1)) _ ⟨[.ms 0 l.length 0 l.length 1, .int .i64 x] ++ List.replicate 5 .any ++ [.int .i64 l.length, .int .i64 (i + 1)] ++ List.replicate 10 .any, [some (.c (l.map (.int .i64)))]⟩ (by omega) (view_takeE (sl := [.ms 0 l.length 0 l.length 1, .int .i64 x] ++ List.replicate 5 .any ++ [.int .i64 l.length, .int .i64 (i + 1)] ++ List.replicate 10 .any) (σ0 := [some (.c (l.map (.int .i64)))]) 1 (by simp) (by first | omega | simp) (by first | omega | (simp; done) | (simp; omega)) (by first | exact LewS.refl _ | simp) (by simp [BelL, Bel]) (by simp [BelS, BelOb, BelL, Bel])) ⟨(i + 1), ?_, rfl, rfl⟩
        refine ⟨by omega, fun k hk hk2 => ?_⟩
        by_cases e : k = i
        · subst e; exact fun h => he h.symm
        · exact hn k (by omega) hk2
    · have hx : idxI l x = -1 := by
        unfold idxI
        rw [if_neg fun hm => ?_]
        obtain ⟨k, hk, e⟩ := List.mem_iff_getElem.1 hm
        exact hn k (by omega) hk e
      rw [hx] at hQ
      repeat' first
        | refine jw_seq_k fun K hK => ?_
        | refine jw_block ?_
        | (refine jw_skip ?_; try simp)
        | (refine jw_exit ?_; try simp)
        | (refine jw_cond rfl (fun hc => ?_) (fun hc => ?_) <;> (try simp at hc) <;> (try (exfalso; first | omega | exact absurd hc (by assumption))))
        | (refine jw_c ?_; simp (maxSteps := 1000000) [hlt])
        | (refine jw_draw_j mixed (by kernel_rfl) ?_; simp (maxSteps := 1000000) [hlt])
        | (first | (apply hK; clear hK) | (clear hK; apply hK; clear hK) | (clear hK; clear hK; apply hK; clear hK) | (clear hK; clear hK; clear hK; apply hK; clear hK))
        | (refine jw_ret (hQ _ _ (.inr rfl) (ret_ok 1 ?_ (by first | omega | simp))); simp (maxSteps := 1000000) [okRet, BelL, Bel, BelS, BelOb, hlt])
        | (refine hQ _ _ (.inl rfl) (ret_ok 1 ?_ (by first | omega | simp)); simp (maxSteps := 1000000) [okRet, BelL, Bel, BelS, BelOb, hlt])
        | (refine jd_newc rfl rfl (by simp) ?_; simp (maxSteps := 1000000) [thD, thL, hlt])
        | (refine okN_or ?_; simp (maxSteps := 1000000) [thD, thL, hlt])
        | (refine okC_guard (fun hc => ?_) (fun hc => ?_) <;> (first | simp (maxSteps := 1000000) [hc, of_decide_eq_true hc, hlt] | simp (maxSteps := 1000000) [hc, of_decide_eq_false hc, hlt] | simp (maxSteps := 1000000) [hc, hlt]) <;> (try simp at hc) <;> (try (exfalso; first | omega | exact absurd hc (by assumption))))
        | (refine okJ_guard (fun hc => ?_) (fun hc => ?_) <;> (first | simp (maxSteps := 1000000) [hc, of_decide_eq_true hc, hlt] | simp (maxSteps := 1000000) [hc, of_decide_eq_false hc, hlt] | simp (maxSteps := 1000000) [hc, hlt]) <;> (try simp at hc) <;> (try (exfalso; first | omega | exact absurd hc (by assumption))))
        | (refine And.intro (by first | assumption | omega | (simp [BelL, Bel]; done) | (simp; omega)) ?_; try simp (maxSteps := 1000000) [hlt])
        | (refine okC_or ?_; simp (maxSteps := 1000000) [hlt])
  · exact ⟨by omega, fun k hk => by omega⟩

/-- A chain in which a unit is swapped. -/
def sw (old next : Int) (c : List Int) : List Int := if old ∈ c then c.set (c.idxOf old) next else c
@[simp] theorem sw_length (old next : Int) (c : List Int) : (sw old next c).length = c.length := by unfold sw; split <;> simp

theorem swapNone {G : Globals} (e : Int) (cs : List (List Int)) (h : LayOk e cs) (old next : Int) (hx : 0 ≤ next ∧ next < 6) (ho : old ∉ cs.flatten) (hf : cs.flatten.length ≤ 1000) :
    FV Try.prog G 13 [layD e cs, .int .i64 old, .int .i64 next] (fun r => r = .tup [.agg [.int .i64 0, .nsl], .int .i64 6]) := by
  have hm := mayF (G := G) e cs h
  have hu := unitsF (G := G) e cs
  have h36 := h.2.2.2.2.1
  have hcol := collectF (G := G) e cs (by have := h.2.2.2.1; omega) (fun c hc => by have := h36 c hc; omega) hf
  have hk := containsF (G := G) cs.flatten (by omega) old
  generalize cs.flatten = M at *
  refine fv_enter_v Try.func13 rfl rfl fun Q hQ => ?_
  repeat' first
    | refine jw_seq_k fun K hK => ?_
    | refine jw_block ?_
    | (refine jw_skip ?_; try simp)
    | (refine jw_exit ?_; try simp)
    | (refine jw_cond rfl (fun hc => ?_) (fun hc => ?_) <;> (try simp at hc) <;> (try (exfalso; first | omega | exact absurd hc (by assumption))))
    | (refine jw_c ?_; simp (maxSteps := 1000000) [Try.f13, layD, hx.1, hx.2, ho])
    | (refine jw_draw_j mixed (by kernel_rfl) ?_; simp (maxSteps := 1000000) [Try.f13, layD, hx.1, hx.2, ho])
    | (first | (apply hK; clear hK) | (clear hK; apply hK; clear hK) | (clear hK; clear hK; apply hK; clear hK) | (clear hK; clear hK; clear hK; apply hK; clear hK))
    | (refine jl_call (f := 11) rfl rfl rfl rfl rfl (hm) (by simp [BelL, Bel]) ?_; rintro r rfl; simp (maxSteps := 1000000) [Try.f13, layD, hx.1, hx.2, ho])
    | (refine jd_call (f := 11) rfl rfl rfl rfl rfl (hm) (by simp [BelL, Bel]) ?_; simp (maxSteps := 1000000) [Try.f13, layD, hx.1, hx.2, ho])
    | (refine jl_call (f := 15) rfl rfl rfl rfl rfl (hu) (by simp [BelL, Bel]) ?_; rintro r rfl; simp (maxSteps := 1000000) [Try.f13, layD, hx.1, hx.2, ho])
    | (refine jd_call (f := 15) rfl rfl rfl rfl rfl (hu) (by simp [BelL, Bel]) ?_; simp (maxSteps := 1000000) [Try.f13, layD, hx.1, hx.2, ho])
    | (refine jl_call (f := 16) rfl rfl rfl rfl rfl (hcol) (by simp [BelL, Bel]) ?_; rintro r rfl; simp (maxSteps := 1000000) [Try.f13, layD, hx.1, hx.2, ho])
    | (refine jd_call (f := 16) rfl rfl rfl rfl rfl (hcol) (by simp [BelL, Bel]) ?_; simp (maxSteps := 1000000) [Try.f13, layD, hx.1, hx.2, ho])
    | (refine jl_call (f := 17) rfl rfl rfl rfl rfl (hk) (by simp [BelL, Bel]) ?_; rintro r rfl; simp (maxSteps := 1000000) [Try.f13, layD, hx.1, hx.2, ho])
    | (refine jd_call (f := 17) rfl rfl rfl rfl rfl (hk) (by simp [BelL, Bel]) ?_; simp (maxSteps := 1000000) [Try.f13, layD, hx.1, hx.2, ho])
    | (refine jw_ret (hQ _ _ (.inr rfl) (ret_ok 0 ?_ (by first | omega | simp))); simp (maxSteps := 1000000) [okRet, BelL, Bel, BelS, BelOb, Try.f13, layD, hx.1, hx.2, ho])
    | (refine hQ _ _ (.inl rfl) (ret_ok 0 ?_ (by first | omega | simp)); simp (maxSteps := 1000000) [okRet, BelL, Bel, BelS, BelOb, Try.f13, layD, hx.1, hx.2, ho])
    | (refine jd_newc rfl rfl (by simp) ?_; simp (maxSteps := 1000000) [thD, thL, Try.f13, layD, hx.1, hx.2, ho])
    | (refine okN_or ?_; simp (maxSteps := 1000000) [thD, thL, Try.f13, layD, hx.1, hx.2, ho])
    | (refine okC_guard (fun hc => ?_) (fun hc => ?_) <;> (first | simp (maxSteps := 1000000) [hc, of_decide_eq_true hc, Try.f13, layD, hx.1, hx.2, ho] | simp (maxSteps := 1000000) [hc, of_decide_eq_false hc, Try.f13, layD, hx.1, hx.2, ho] | simp (maxSteps := 1000000) [hc, Try.f13, layD, hx.1, hx.2, ho]) <;> (try simp at hc) <;> (try (exfalso; first | omega | exact absurd hc (by assumption))))
    | (refine okJ_guard (fun hc => ?_) (fun hc => ?_) <;> (first | simp (maxSteps := 1000000) [hc, of_decide_eq_true hc, Try.f13, layD, hx.1, hx.2, ho] | simp (maxSteps := 1000000) [hc, of_decide_eq_false hc, Try.f13, layD, hx.1, hx.2, ho] | simp (maxSteps := 1000000) [hc, Try.f13, layD, hx.1, hx.2, ho]) <;> (try simp at hc) <;> (try (exfalso; first | omega | exact absurd hc (by assumption))))
    | (refine And.intro (by first | assumption | omega | (simp [BelL, Bel]; done) | (simp; omega)) ?_; try simp (maxSteps := 1000000) [Try.f13, layD, hx.1, hx.2, ho])
    | (refine okC_or ?_; simp (maxSteps := 1000000) [Try.f13, layD, hx.1, hx.2, ho])
theorem swapOk {G : Globals} (e : Int) (cs : List (List Int)) (h : LayOk e cs) (he : e < 1000000) (old next : Int) (hx : 0 ≤ next ∧ next < 6) (ho : old ∈ cs.flatten) (hnx : next ∉ cs.flatten) (hf : cs.flatten.length ≤ 1000) :
    FV Try.prog G 13 [layD e cs, .int .i64 old, .int .i64 next] (fun r => r = .tup [layD (e + 1) (cs.map (sw old next)), .int .i64 0]) := by
  have hm := mayF (G := G) e cs h
  have hu := unitsF (G := G) e cs
  have h36 := h.2.2.2.2.1
  have hl6 := h.2.2.2.1
  have hcol := collectF (G := G) e cs (by omega) (fun c hc => by have := h36 c hc; omega) hf
  have hk := containsF (G := G) cs.flatten (by omega) old
  have hk2 := containsF (G := G) cs.flatten (by omega) next
  have hwe := wrap_i64 (n := e + 1) (by have := h.1; omega) (by omega)
  generalize cs.flatten = M at *
  refine fv_enter_v Try.func13 rfl rfl fun Q hQ => ?_
  repeat' first
    | refine jw_ret (hQ _ _ (.inr rfl) ⟨5, _, _, rfl, rfl, ?_⟩)
    | refine jw_ret (hQ _ _ (.inr rfl) ⟨_, rfl, ?_⟩)
    | refine jw_seq_k fun K hK => ?_
    | refine jw_block ?_
    | (refine jw_skip ?_; try simp)
    | (refine jw_exit ?_; try simp)
    | (refine jw_cond rfl (fun hc => ?_) (fun hc => ?_) <;> (try simp at hc) <;> (try (exfalso; first | omega | exact absurd hc (by assumption))))
    | ((fail_if_success (refine jw_c (id := 13) ?_)); (refine jw_c ?_; simp (maxSteps := 1000000) [Try.f13, layD, hx.1, hx.2, ho, hnx, hwe, show ¬ e = 1000000 by omega]))
    | ((fail_if_success (refine jw_draw_j (id := 13) mixed (by kernel_rfl) ?_)); (refine jw_draw_j mixed (by kernel_rfl) ?_; simp (maxSteps := 1000000) [Try.f13, layD, hx.1, hx.2, ho, hnx, hwe, show ¬ e = 1000000 by omega]))
    | (first | (apply hK; clear hK) | (clear hK; apply hK; clear hK) | (clear hK; clear hK; apply hK; clear hK) | (clear hK; clear hK; clear hK; apply hK; clear hK))
    | exact hQ _ _ (.inl rfl) ⟨5, _, _, rfl, rfl, rfl⟩
    | refine hQ _ _ (.inl rfl) ⟨5, _, _, rfl, rfl, ?_⟩
    | refine hQ _ _ (.inl rfl) ⟨_, rfl, ?_⟩
    | (refine jl_call (f := 11) rfl rfl rfl rfl rfl (hm) (by simp [BelL, Bel]) ?_; rintro r rfl; simp (maxSteps := 1000000) [Try.f13, layD, hx.1, hx.2, ho, hnx, hwe, show ¬ e = 1000000 by omega])
    | (refine jd_call (f := 11) rfl rfl rfl rfl rfl (hm) (by simp [BelL, Bel]) ?_; simp (maxSteps := 1000000) [Try.f13, layD, hx.1, hx.2, ho, hnx, hwe, show ¬ e = 1000000 by omega])
    | (refine jl_call (f := 15) rfl rfl rfl rfl rfl (hu) (by simp [BelL, Bel]) ?_; rintro r rfl; simp (maxSteps := 1000000) [Try.f13, layD, hx.1, hx.2, ho, hnx, hwe, show ¬ e = 1000000 by omega])
    | (refine jd_call (f := 15) rfl rfl rfl rfl rfl (hu) (by simp [BelL, Bel]) ?_; simp (maxSteps := 1000000) [Try.f13, layD, hx.1, hx.2, ho, hnx, hwe, show ¬ e = 1000000 by omega])
    | (refine jl_call (f := 16) rfl rfl rfl rfl rfl (hcol) (by simp [BelL, Bel]) ?_; rintro r rfl; simp (maxSteps := 1000000) [Try.f13, layD, hx.1, hx.2, ho, hnx, hwe, show ¬ e = 1000000 by omega])
    | (refine jd_call (f := 16) rfl rfl rfl rfl rfl (hcol) (by simp [BelL, Bel]) ?_; simp (maxSteps := 1000000) [Try.f13, layD, hx.1, hx.2, ho, hnx, hwe, show ¬ e = 1000000 by omega])
    | (refine jl_call (f := 17) rfl rfl rfl rfl rfl (hk) (by simp [BelL, Bel]) ?_; rintro r rfl; simp (maxSteps := 1000000) [Try.f13, layD, hx.1, hx.2, ho, hnx, hwe, show ¬ e = 1000000 by omega])
    | (refine jd_call (f := 17) rfl rfl rfl rfl rfl (hk) (by simp [BelL, Bel]) ?_; simp (maxSteps := 1000000) [Try.f13, layD, hx.1, hx.2, ho, hnx, hwe, show ¬ e = 1000000 by omega])
    | (refine jl_call (f := 17) rfl rfl rfl rfl rfl (hk2) (by simp [BelL, Bel]) ?_; rintro r rfl; simp (maxSteps := 1000000) [Try.f13, layD, hx.1, hx.2, ho, hnx, hwe, show ¬ e = 1000000 by omega])
    | (refine jd_call (f := 17) rfl rfl rfl rfl rfl (hk2) (by simp [BelL, Bel]) ?_; simp (maxSteps := 1000000) [Try.f13, layD, hx.1, hx.2, ho, hnx, hwe, show ¬ e = 1000000 by omega])
    | (refine jd_newc rfl rfl (by simp) ?_; simp (maxSteps := 1000000) [thD, thL, Try.f13, layD, hx.1, hx.2, ho, hnx, hwe, show ¬ e = 1000000 by omega])
    | (refine okN_or ?_; simp (maxSteps := 1000000) [thD, thL, Try.f13, layD, hx.1, hx.2, ho, hnx, hwe, show ¬ e = 1000000 by omega])
    | (refine okC_guard (fun hc => ?_) (fun hc => ?_) <;> (first | simp (maxSteps := 1000000) [hc, of_decide_eq_true hc, Try.f13, layD, hx.1, hx.2, ho, hnx, hwe, show ¬ e = 1000000 by omega] | simp (maxSteps := 1000000) [hc, of_decide_eq_false hc, Try.f13, layD, hx.1, hx.2, ho, hnx, hwe, show ¬ e = 1000000 by omega] | simp (maxSteps := 1000000) [hc, Try.f13, layD, hx.1, hx.2, ho, hnx, hwe, show ¬ e = 1000000 by omega]) <;> (try simp at hc) <;> (try (exfalso; first | omega | exact absurd hc (by assumption))))
    | (refine okJ_guard (fun hc => ?_) (fun hc => ?_) <;> (first | simp (maxSteps := 1000000) [hc, of_decide_eq_true hc, Try.f13, layD, hx.1, hx.2, ho, hnx, hwe, show ¬ e = 1000000 by omega] | simp (maxSteps := 1000000) [hc, of_decide_eq_false hc, Try.f13, layD, hx.1, hx.2, ho, hnx, hwe, show ¬ e = 1000000 by omega] | simp (maxSteps := 1000000) [hc, Try.f13, layD, hx.1, hx.2, ho, hnx, hwe, show ¬ e = 1000000 by omega]) <;> (try simp at hc) <;> (try (exfalso; first | omega | exact absurd hc (by assumption))))
    | (refine And.intro (by first | assumption | omega | (simp [BelL, Bel]; done) | (simp; omega)) ?_; try simp (maxSteps := 1000000) [Try.f13, layD, hx.1, hx.2, ho, hnx, hwe, show ¬ e = 1000000 by omega])
    | (refine okC_or ?_; simp (maxSteps := 1000000) [Try.f13, layD, hx.1, hx.2, ho, hnx, hwe, show ¬ e = 1000000 by omega])
  refine jw_view (view_nilc 2 1 1 rfl rfl) ?_
  simp only [List.set_cons_zero, List.set_cons_succ, List.length_cons, List.length_nil, List.cons_append, List.nil_append, Nat.zero_add, Nat.reduceAdd]
  repeat' first
    | refine jw_ret (hQ _ _ (.inr rfl) ⟨5, _, _, rfl, rfl, ?_⟩)
    | refine jw_ret (hQ _ _ (.inr rfl) ⟨_, rfl, ?_⟩)
    | refine jw_seq_k fun K hK => ?_
    | refine jw_block ?_
    | (refine jw_skip ?_; try simp)
    | (refine jw_exit ?_; try simp)
    | (refine jw_cond rfl (fun hc => ?_) (fun hc => ?_) <;> (try simp at hc) <;> (try (exfalso; first | omega | exact absurd hc (by assumption))))
    | (refine jw_c ?_; simp (maxSteps := 1000000) [chainsD])
    | (refine jw_draw_j mixed (by kernel_rfl) ?_; simp (maxSteps := 1000000) [chainsD])
    | (first | (apply hK; clear hK) | (clear hK; apply hK; clear hK) | (clear hK; clear hK; apply hK; clear hK) | (clear hK; clear hK; clear hK; apply hK; clear hK))
    | exact hQ _ _ (.inl rfl) ⟨5, _, _, rfl, rfl, rfl⟩
    | refine hQ _ _ (.inl rfl) ⟨5, _, _, rfl, rfl, ?_⟩
    | refine hQ _ _ (.inl rfl) ⟨_, rfl, ?_⟩
    | (refine jd_newc rfl rfl (by simp) ?_; simp (maxSteps := 1000000) [thD, thL, chainsD])
    | (refine okN_or ?_; simp (maxSteps := 1000000) [thD, thL, chainsD])
    | (refine okC_guard (fun hc => ?_) (fun hc => ?_) <;> (first | simp (maxSteps := 1000000) [hc, of_decide_eq_true hc, chainsD] | simp (maxSteps := 1000000) [hc, of_decide_eq_false hc, chainsD] | simp (maxSteps := 1000000) [hc, chainsD]) <;> (try simp at hc) <;> (try (exfalso; first | omega | exact absurd hc (by assumption))))
    | (refine okJ_guard (fun hc => ?_) (fun hc => ?_) <;> (first | simp (maxSteps := 1000000) [hc, of_decide_eq_true hc, chainsD] | simp (maxSteps := 1000000) [hc, of_decide_eq_false hc, chainsD] | simp (maxSteps := 1000000) [hc, chainsD]) <;> (try simp at hc) <;> (try (exfalso; first | omega | exact absurd hc (by assumption))))
    | (refine And.intro (by first | assumption | omega | (simp [BelL, Bel]; done) | (simp; omega)) ?_; try simp (maxSteps := 1000000) [chainsD])
    | (refine okC_or ?_; simp (maxSteps := 1000000) [chainsD])
  refine jw_loop_v (fun m z => ∃ (i : Nat), (i ≤ cs.length) ∧ cs.length - i = m ∧ z = ⟨[.any, .int .i64 old, .int .i64 next, .any, .any, .any, .ptr 1 2 0, .any, .any, .ptr 2 2 0] ++ List.replicate 38 .any ++ [chainsD cs, .int .i64 cs.length, .int .i64 i] ++ List.replicate 22 .any, [some (.c [.int .i64 e, chainsD cs]), some (.c [.int .i64 0, .nsl]), some (.c [.int .i64 (e + 1), .ms 3 i 0 i 1]), some (.c ((cs.take i).map (fun c => intsD (sw old next c))))]⟩) ⟨[.any, .int .i64 old, .int .i64 next, .any, .any, .any, .ptr 1 2 0, .any, .any, .ptr 2 2 0] ++ List.replicate 38 .any ++ [chainsD cs, .int .i64 cs.length, .int .i64 (0)] ++ List.replicate 22 .any, [some (.c [.int .i64 e, chainsD cs]), some (.c [.int .i64 0, .nsl]), some (.c [.int .i64 (e + 1), .ms 3 (0) 0 (0) 1]), some (.c ((cs.take (0)).map (fun c => intsD (sw old next c))))]⟩ (view_takeE (sl := [.any, .int .i64 old, .int .i64 next, .any, .any, .any, .ptr 1 2 0, .any, .any, .ptr 2 2 0] ++ List.replicate 38 .any ++ [chainsD cs, .int .i64 cs.length, .int .i64 (0)] ++ List.replicate 22 .any) (σ0 := [some (.c [.int .i64 e, chainsD cs]), some (.c [.int .i64 0, .nsl]), some (.c [.int .i64 (e + 1), .ms 3 (0) 0 (0) 1]), some (.c ((cs.take (0)).map (fun c => intsD (sw old next c))))]) 4 (by simp [chainsD]) (by first | omega | simp) (by first | omega | (simp [chainsD]; done) | (simp [chainsD]; omega)) (by first | exact LewS.refl _ | simp [chainsD]) (by simp [BelL, Bel, chainsD]) (by simp [BelS, BelOb, BelL, Bel, chainsD])) ⟨(0), ?_, rfl, rfl⟩ ?_
  rotate_left
  rintro m z ⟨i, hA, rfl, rfl⟩ KA hKA
  · have hw := wrap_i64 (n := (i : Int) + 1) (by omega) (by omega)
    by_cases hlt : i < cs.length
    · have hci := h36 _ (List.getElem_mem hlt)
      have hT : (cs.take (i + 1)).map (fun c => intsD (sw old next c)) = (cs.take i).map (fun c => intsD (sw old next c)) ++ [intsD (sw old next cs[i])] := by rw [List.take_succ_eq_append_getElem hlt, List.map_append]; rfl
      have hok : ∀ σ, okCells σ (List.take i (List.map (fun c => intsD (sw old next c)) cs)) = true := fun σ => by
        rw [← List.map_take]; unfold okCells; rw [List.all_eq_true]; intro d hd; obtain ⟨c, _, rfl⟩ := List.mem_map.1 hd; rfl
      have ht1 : ∀ X, thL 4 X (cs.map intsD) = cs.map intsD := fun X => thL_flat 4 X (belL_chains 4 cs)
      have hbt : ∀ n, BelL n (List.take i (List.map (fun c => intsD (sw old next c)) cs)) := fun n => by
        rw [← List.map_take, show (fun c => intsD (sw old next c)) = intsD ∘ sw old next from rfl, ← List.map_map]; exact belL_chains n _
      have ht2 : ∀ X, thL 4 X (List.take i (List.map (fun c => intsD (sw old next c)) cs)) = List.take i (List.map (fun c => intsD (sw old next c)) cs) := fun X => thL_flat 4 X (hbt 4)
      have hil : min i cs.length = i := by omega
      obtain ⟨c, hcc⟩ : ∃ c, cs[i] = c := ⟨_, rfl⟩
      rw [hcc] at hci hT
      have hix := indexM (G := G) c (by omega) old
      have hcl := cloneI (G := G) c (by omega) (by rintro rfl; simp at hci)
      by_cases hin : old ∈ c
      · have hidx : idxI c old = (c.idxOf old : Nat) := by unfold idxI; rw [if_pos hin]
        have hid2 : c.idxOf old < c.length := List.idxOf_lt_length_iff.2 hin
        have hsw : sw old next c = c.set (c.idxOf old) next := by unfold sw; rw [if_pos hin]
        rw [hidx] at hix
        rw [hsw] at hT
        generalize c.idxOf old = q at *
        repeat' first
          | refine jw_ret (hQ _ _ (.inr rfl) ⟨5, _, _, rfl, rfl, ?_⟩)
          | refine jw_ret (hQ _ _ (.inr rfl) ⟨_, rfl, ?_⟩)
          | refine jw_seq_k fun K hK => ?_
          | refine jw_block ?_
          | (refine jw_skip ?_; try simp)
          | (refine jw_exit ?_; try simp)
          | (refine jw_cond rfl (fun hc => ?_) (fun hc => ?_) <;> (try simp at hc) <;> (try (exfalso; first | omega | exact absurd hc (by assumption))))
          | ((fail_if_success (refine jw_c (id := 20) ?_)); (refine jw_c ?_; simp (maxSteps := 1000000) [hlt, chainsD, hw, hid2, hcc]))
          | ((fail_if_success (refine jw_draw_j (id := 20) mixed (by kernel_rfl) ?_)); (refine jw_draw_j mixed (by kernel_rfl) ?_; simp (maxSteps := 1000000) [hlt, chainsD, hw, hid2, hcc]))
          | (first | (apply hK; clear hK) | (clear hK; apply hK; clear hK) | (clear hK; clear hK; apply hK; clear hK) | (clear hK; clear hK; clear hK; apply hK; clear hK))
          | exact hQ _ _ (.inl rfl) ⟨5, _, _, rfl, rfl, rfl⟩
          | refine hQ _ _ (.inl rfl) ⟨5, _, _, rfl, rfl, ?_⟩
          | refine hQ _ _ (.inl rfl) ⟨_, rfl, ?_⟩
          | (refine jl_f0 (f := 18) rfl rfl rfl rfl rfl (hcl) (by simp [BelL, Bel]) ?_; rintro d0 g ⟨rfl, rfl⟩; simp (maxSteps := 1000000) [renOb, renL, renD, renD_flat, renL_flat, hlt, chainsD, hw, hid2, hcc])
          | (refine jl_fr (f := 19) 4 rfl rfl rfl rfl rfl (hix) (by simp [renL, renD, renD_flat, renL_flat, hlt, chainsD, hw, hid2, hcc]) rfl (by simp [BelL, Bel]) (by simp [BelOb, BelL, Bel]) ?_; rintro d0 x g ⟨rfl, hg⟩; obtain ⟨rfl, rfl⟩ := List.cons.inj hg; simp (maxSteps := 1000000) [renOb, renL, renD, renD_flat, renL_flat, hlt, chainsD, hw, hid2, hcc])
          | (refine jd_newc rfl rfl (by simp) ?_; simp (maxSteps := 1000000) [thD, thL, hlt, chainsD, hw, hid2, hcc])
          | (refine okN_or ?_; simp (maxSteps := 1000000) [thD, thL, hlt, chainsD, hw, hid2, hcc])
          | (refine okC_guard (fun hc => ?_) (fun hc => ?_) <;> (first | simp (maxSteps := 1000000) [hc, of_decide_eq_true hc, hlt, chainsD, hw, hid2, hcc] | simp (maxSteps := 1000000) [hc, of_decide_eq_false hc, hlt, chainsD, hw, hid2, hcc] | simp (maxSteps := 1000000) [hc, hlt, chainsD, hw, hid2, hcc]) <;> (try simp at hc) <;> (try (exfalso; first | omega | exact absurd hc (by assumption))))
          | (refine okJ_guard (fun hc => ?_) (fun hc => ?_) <;> (first | simp (maxSteps := 1000000) [hc, of_decide_eq_true hc, hlt, chainsD, hw, hid2, hcc] | simp (maxSteps := 1000000) [hc, of_decide_eq_false hc, hlt, chainsD, hw, hid2, hcc] | simp (maxSteps := 1000000) [hc, hlt, chainsD, hw, hid2, hcc]) <;> (try simp at hc) <;> (try (exfalso; first | omega | exact absurd hc (by assumption))))
          | (refine And.intro (by first | assumption | omega | (simp [BelL, Bel]; done) | (simp; omega)) ?_; try simp (maxSteps := 1000000) [hlt, chainsD, hw, hid2, hcc])
          | (refine okC_or ?_; simp (maxSteps := 1000000) [hlt, chainsD, hw, hid2, hcc])
        have hset : List.take q (List.map (D.int .i64) c) ++ D.int .i64 next :: List.drop (q + 1) (List.map (D.int .i64) c) = (c.set q next).map (.int .i64) := by
          rw [List.set_eq_take_append_cons_drop, if_pos hid2]; simp [List.map_take, List.map_drop]
        have hI : intsD (c.set q next) = .sl false ((c.set q next).map (.int .i64)) c.length := by simp [intsD]
        rw [hset]
        rw [hI] at hT
        have htk : List.take c.length ((c.set q next).map (D.int .i64)) = (c.set q next).map (.int .i64) := List.take_of_length_le (by simp)
        have hCb : ∀ n, BelL n ((c.set q next).map (D.int .i64)) := fun n => belL_int _ _ _
        have hCl : ((c.set q next).map (D.int .i64)).length = c.length := by simp
        generalize (c.set q next).map (D.int .i64) = C at *
        (refine jw_view (view_frz 4 _ rfl (by simp [BelL, Bel, hCb, htk, hCl, ht1, ht2, chainsD])) ?_; simp (maxSteps := 1000000) [thL, thD, thS, thOb, hCb, htk, hCl, ht1, ht2, chainsD])
        repeat' first
          | refine jw_ret (hQ _ _ (.inr rfl) ⟨5, _, _, rfl, rfl, ?_⟩)
          | refine jw_ret (hQ _ _ (.inr rfl) ⟨_, rfl, ?_⟩)
          | refine jw_seq_k fun K hK => ?_
          | refine jw_block ?_
          | (refine jw_skip ?_; try simp)
          | (refine jw_exit ?_; try simp)
          | (refine jw_cond rfl (fun hc => ?_) (fun hc => ?_) <;> (try simp at hc) <;> (try (exfalso; first | omega | exact absurd hc (by assumption))))
          | (refine jw_c ?_; simp (maxSteps := 1000000) [hlt, chainsD, hw, hok, hil, hbt, okCell, okRef, show (i + 1) * 24 ≤ 140737488355328 by omega])
          | (refine jw_draw_j mixed (by kernel_rfl) ?_; simp (maxSteps := 1000000) [hlt, chainsD, hw, hok, hil, hbt, okCell, okRef, show (i + 1) * 24 ≤ 140737488355328 by omega])
          | (first | (apply hK; clear hK) | (clear hK; apply hK; clear hK) | (clear hK; clear hK; apply hK; clear hK) | (clear hK; clear hK; clear hK; apply hK; clear hK))
          | exact hQ _ _ (.inl rfl) ⟨5, _, _, rfl, rfl, rfl⟩
          | refine hQ _ _ (.inl rfl) ⟨5, _, _, rfl, rfl, ?_⟩
          | refine hQ _ _ (.inl rfl) ⟨_, rfl, ?_⟩
          | (refine jd_newc rfl rfl (by simp) ?_; simp (maxSteps := 1000000) [thD, thL, hlt, chainsD, hw, hok, hil, hbt, okCell, okRef, show (i + 1) * 24 ≤ 140737488355328 by omega])
          | (refine okN_or ?_; simp (maxSteps := 1000000) [thD, thL, hlt, chainsD, hw, hok, hil, hbt, okCell, okRef, show (i + 1) * 24 ≤ 140737488355328 by omega])
          | (refine okC_guard (fun hc => ?_) (fun hc => ?_) <;> (first | simp (maxSteps := 1000000) [hc, of_decide_eq_true hc, hlt, chainsD, hw, hok, hil, hbt, okCell, okRef, show (i + 1) * 24 ≤ 140737488355328 by omega] | simp (maxSteps := 1000000) [hc, of_decide_eq_false hc, hlt, chainsD, hw, hok, hil, hbt, okCell, okRef, show (i + 1) * 24 ≤ 140737488355328 by omega] | simp (maxSteps := 1000000) [hc, hlt, chainsD, hw, hok, hil, hbt, okCell, okRef, show (i + 1) * 24 ≤ 140737488355328 by omega]) <;> (try simp at hc) <;> (try (exfalso; first | omega | exact absurd hc (by assumption))))
          | (refine okJ_guard (fun hc => ?_) (fun hc => ?_) <;> (first | simp (maxSteps := 1000000) [hc, of_decide_eq_true hc, hlt, chainsD, hw, hok, hil, hbt, okCell, okRef, show (i + 1) * 24 ≤ 140737488355328 by omega] | simp (maxSteps := 1000000) [hc, of_decide_eq_false hc, hlt, chainsD, hw, hok, hil, hbt, okCell, okRef, show (i + 1) * 24 ≤ 140737488355328 by omega] | simp (maxSteps := 1000000) [hc, hlt, chainsD, hw, hok, hil, hbt, okCell, okRef, show (i + 1) * 24 ≤ 140737488355328 by omega]) <;> (try simp at hc) <;> (try (exfalso; first | omega | exact absurd hc (by assumption))))
          | (refine And.intro (by first | assumption | omega | (simp [BelL, Bel]; done) | (simp; omega)) ?_; try simp (maxSteps := 1000000) [hlt, chainsD, hw, hok, hil, hbt, okCell, okRef, show (i + 1) * 24 ≤ 140737488355328 by omega])
          | (refine okC_or ?_; simp (maxSteps := 1000000) [hlt, chainsD, hw, hok, hil, hbt, okCell, okRef, show (i + 1) * 24 ≤ 140737488355328 by omega])
        refine hKA (cs.length - (i + 1)) _ ⟨[.any, .int .i64 old, .int .i64 next, .any, .any, .any, .ptr 1 2 0, .any, .any, .ptr 2 2 0] ++ List.replicate 38 .any ++ [chainsD cs, .int .i64 cs.length, .int .i64 (i + 1)] ++ List.replicate 22 .any, [some (.c [.int .i64 e, chainsD cs]), some (.c [.int .i64 0, .nsl]), some (.c [.int .i64 (e + 1), .ms 3 (i + 1) 0 (i + 1) 1]), some (.c ((cs.take (i + 1)).map (fun c => intsD (sw old next c))))]⟩ (by omega) (view_takeE (sl := [.any, .int .i64 old, .int .i64 next, .any, .any, .any, .ptr 1 2 0, .any, .any, .ptr 2 2 0] ++ List.replicate 38 .any ++ [chainsD cs, .int .i64 cs.length, .int .i64 (i + 1)] ++ List.replicate 22 .any) (σ0 := [some (.c [.int .i64 e, chainsD cs]), some (.c [.int .i64 0, .nsl]), some (.c [.int .i64 (e + 1), .ms 3 (i + 1) 0 (i + 1) 1]), some (.c ((cs.take (i + 1)).map (fun c => intsD (sw old next c))))]) 4 (by simp [hT, chainsD, List.map_take, hbt, hCb]) (by first | omega | simp) (by first | omega | (simp [hT, chainsD, List.map_take, hbt, hCb]; done) | (simp [hT, chainsD, List.map_take, hbt, hCb]; omega)) (by first | exact LewS.refl _ | simp [hT, chainsD, List.map_take, hbt, hCb]) (by simp [BelL, Bel, hT, chainsD, List.map_take, hbt, hCb]) (by simp [BelS, BelOb, BelL, Bel, hT, chainsD, List.map_take, hbt, hCb])) ⟨(i + 1), ?_, rfl, rfl⟩
        omega
      · have hidx : idxI c old = -1 := by unfold idxI; rw [if_neg hin]
        have hsw : sw old next c = c := by unfold sw; rw [if_neg hin]
        rw [hidx] at hix
        rw [hsw] at hT
        repeat' first
          | refine jw_ret (hQ _ _ (.inr rfl) ⟨5, _, _, rfl, rfl, ?_⟩)
          | refine jw_ret (hQ _ _ (.inr rfl) ⟨_, rfl, ?_⟩)
          | refine jw_seq_k fun K hK => ?_
          | refine jw_block ?_
          | (refine jw_skip ?_; try simp)
          | (refine jw_exit ?_; try simp)
          | (refine jw_cond rfl (fun hc => ?_) (fun hc => ?_) <;> (try simp at hc) <;> (try (exfalso; first | omega | exact absurd hc (by assumption))))
          | ((fail_if_success (refine jw_c (id := 20) ?_)); (refine jw_c ?_; simp (maxSteps := 1000000) [hlt, chainsD, hw, hcc]))
          | ((fail_if_success (refine jw_draw_j (id := 20) mixed (by kernel_rfl) ?_)); (refine jw_draw_j mixed (by kernel_rfl) ?_; simp (maxSteps := 1000000) [hlt, chainsD, hw, hcc]))
          | (first | (apply hK; clear hK) | (clear hK; apply hK; clear hK) | (clear hK; clear hK; apply hK; clear hK) | (clear hK; clear hK; clear hK; apply hK; clear hK))
          | exact hQ _ _ (.inl rfl) ⟨5, _, _, rfl, rfl, rfl⟩
          | refine hQ _ _ (.inl rfl) ⟨5, _, _, rfl, rfl, ?_⟩
          | refine hQ _ _ (.inl rfl) ⟨_, rfl, ?_⟩
          | (refine jl_f0 (f := 18) rfl rfl rfl rfl rfl (hcl) (by simp [BelL, Bel]) ?_; rintro d0 g ⟨rfl, rfl⟩; simp (maxSteps := 1000000) [renOb, renL, renD, renD_flat, renL_flat, hlt, chainsD, hw, hcc])
          | (refine jl_fr (f := 19) 4 rfl rfl rfl rfl rfl (hix) (by simp [renL, renD, renD_flat, renL_flat, hlt, chainsD, hw, hcc]) rfl (by simp [BelL, Bel]) (by simp [BelOb, BelL, Bel]) ?_; rintro d0 x g ⟨rfl, hg⟩; obtain ⟨rfl, rfl⟩ := List.cons.inj hg; simp (maxSteps := 1000000) [renOb, renL, renD, renD_flat, renL_flat, hlt, chainsD, hw, hcc])
          | (refine jd_newc rfl rfl (by simp) ?_; simp (maxSteps := 1000000) [thD, thL, hlt, chainsD, hw, hcc])
          | (refine okN_or ?_; simp (maxSteps := 1000000) [thD, thL, hlt, chainsD, hw, hcc])
          | (refine okC_guard (fun hc => ?_) (fun hc => ?_) <;> (first | simp (maxSteps := 1000000) [hc, of_decide_eq_true hc, hlt, chainsD, hw, hcc] | simp (maxSteps := 1000000) [hc, of_decide_eq_false hc, hlt, chainsD, hw, hcc] | simp (maxSteps := 1000000) [hc, hlt, chainsD, hw, hcc]) <;> (try simp at hc) <;> (try (exfalso; first | omega | exact absurd hc (by assumption))))
          | (refine okJ_guard (fun hc => ?_) (fun hc => ?_) <;> (first | simp (maxSteps := 1000000) [hc, of_decide_eq_true hc, hlt, chainsD, hw, hcc] | simp (maxSteps := 1000000) [hc, of_decide_eq_false hc, hlt, chainsD, hw, hcc] | simp (maxSteps := 1000000) [hc, hlt, chainsD, hw, hcc]) <;> (try simp at hc) <;> (try (exfalso; first | omega | exact absurd hc (by assumption))))
          | (refine And.intro (by first | assumption | omega | (simp [BelL, Bel]; done) | (simp; omega)) ?_; try simp (maxSteps := 1000000) [hlt, chainsD, hw, hcc])
          | (refine okC_or ?_; simp (maxSteps := 1000000) [hlt, chainsD, hw, hcc])
        (refine jw_view (view_frz 4 _ rfl (by simp [BelL, Bel, ht1, ht2, chainsD])) ?_; simp (maxSteps := 1000000) [thL, thD, thS, thOb, ht1, ht2, chainsD])
        have hI : intsD c = .sl false (c.map (.int .i64)) c.length := rfl
        have htk : List.take c.length (c.map (D.int .i64)) = c.map (.int .i64) := List.take_of_length_le (by simp)
        rw [hI] at hT
        repeat' first
          | refine jw_ret (hQ _ _ (.inr rfl) ⟨5, _, _, rfl, rfl, ?_⟩)
          | refine jw_ret (hQ _ _ (.inr rfl) ⟨_, rfl, ?_⟩)
          | refine jw_seq_k fun K hK => ?_
          | refine jw_block ?_
          | (refine jw_skip ?_; try simp)
          | (refine jw_exit ?_; try simp)
          | (refine jw_cond rfl (fun hc => ?_) (fun hc => ?_) <;> (try simp at hc) <;> (try (exfalso; first | omega | exact absurd hc (by assumption))))
          | (refine jw_c ?_; simp (maxSteps := 1000000) [hlt, chainsD, hw, hok, hil, hbt, okCell, okRef, htk, show (i + 1) * 24 ≤ 140737488355328 by omega])
          | (refine jw_draw_j mixed (by kernel_rfl) ?_; simp (maxSteps := 1000000) [hlt, chainsD, hw, hok, hil, hbt, okCell, okRef, htk, show (i + 1) * 24 ≤ 140737488355328 by omega])
          | (first | (apply hK; clear hK) | (clear hK; apply hK; clear hK) | (clear hK; clear hK; apply hK; clear hK) | (clear hK; clear hK; clear hK; apply hK; clear hK))
          | exact hQ _ _ (.inl rfl) ⟨5, _, _, rfl, rfl, rfl⟩
          | refine hQ _ _ (.inl rfl) ⟨5, _, _, rfl, rfl, ?_⟩
          | refine hQ _ _ (.inl rfl) ⟨_, rfl, ?_⟩
          | (refine jd_newc rfl rfl (by simp) ?_; simp (maxSteps := 1000000) [thD, thL, hlt, chainsD, hw, hok, hil, hbt, okCell, okRef, htk, show (i + 1) * 24 ≤ 140737488355328 by omega])
          | (refine okN_or ?_; simp (maxSteps := 1000000) [thD, thL, hlt, chainsD, hw, hok, hil, hbt, okCell, okRef, htk, show (i + 1) * 24 ≤ 140737488355328 by omega])
          | (refine okC_guard (fun hc => ?_) (fun hc => ?_) <;> (first | simp (maxSteps := 1000000) [hc, of_decide_eq_true hc, hlt, chainsD, hw, hok, hil, hbt, okCell, okRef, htk, show (i + 1) * 24 ≤ 140737488355328 by omega] | simp (maxSteps := 1000000) [hc, of_decide_eq_false hc, hlt, chainsD, hw, hok, hil, hbt, okCell, okRef, htk, show (i + 1) * 24 ≤ 140737488355328 by omega] | simp (maxSteps := 1000000) [hc, hlt, chainsD, hw, hok, hil, hbt, okCell, okRef, htk, show (i + 1) * 24 ≤ 140737488355328 by omega]) <;> (try simp at hc) <;> (try (exfalso; first | omega | exact absurd hc (by assumption))))
          | (refine okJ_guard (fun hc => ?_) (fun hc => ?_) <;> (first | simp (maxSteps := 1000000) [hc, of_decide_eq_true hc, hlt, chainsD, hw, hok, hil, hbt, okCell, okRef, htk, show (i + 1) * 24 ≤ 140737488355328 by omega] | simp (maxSteps := 1000000) [hc, of_decide_eq_false hc, hlt, chainsD, hw, hok, hil, hbt, okCell, okRef, htk, show (i + 1) * 24 ≤ 140737488355328 by omega] | simp (maxSteps := 1000000) [hc, hlt, chainsD, hw, hok, hil, hbt, okCell, okRef, htk, show (i + 1) * 24 ≤ 140737488355328 by omega]) <;> (try simp at hc) <;> (try (exfalso; first | omega | exact absurd hc (by assumption))))
          | (refine And.intro (by first | assumption | omega | (simp [BelL, Bel]; done) | (simp; omega)) ?_; try simp (maxSteps := 1000000) [hlt, chainsD, hw, hok, hil, hbt, okCell, okRef, htk, show (i + 1) * 24 ≤ 140737488355328 by omega])
          | (refine okC_or ?_; simp (maxSteps := 1000000) [hlt, chainsD, hw, hok, hil, hbt, okCell, okRef, htk, show (i + 1) * 24 ≤ 140737488355328 by omega])
        refine hKA (cs.length - (i + 1)) _ ⟨[.any, .int .i64 old, .int .i64 next, .any, .any, .any, .ptr 1 2 0, .any, .any, .ptr 2 2 0] ++ List.replicate 38 .any ++ [chainsD cs, .int .i64 cs.length, .int .i64 (i + 1)] ++ List.replicate 22 .any, [some (.c [.int .i64 e, chainsD cs]), some (.c [.int .i64 0, .nsl]), some (.c [.int .i64 (e + 1), .ms 3 (i + 1) 0 (i + 1) 1]), some (.c ((cs.take (i + 1)).map (fun c => intsD (sw old next c))))]⟩ (by omega) (view_takeE (sl := [.any, .int .i64 old, .int .i64 next, .any, .any, .any, .ptr 1 2 0, .any, .any, .ptr 2 2 0] ++ List.replicate 38 .any ++ [chainsD cs, .int .i64 cs.length, .int .i64 (i + 1)] ++ List.replicate 22 .any) (σ0 := [some (.c [.int .i64 e, chainsD cs]), some (.c [.int .i64 0, .nsl]), some (.c [.int .i64 (e + 1), .ms 3 (i + 1) 0 (i + 1) 1]), some (.c ((cs.take (i + 1)).map (fun c => intsD (sw old next c))))]) 4 (by simp [hT, chainsD, List.map_take, hbt]) (by first | omega | simp) (by first | omega | (simp [hT, chainsD, List.map_take, hbt]; done) | (simp [hT, chainsD, List.map_take, hbt]; omega)) (by first | exact LewS.refl _ | simp [hT, chainsD, List.map_take, hbt]) (by simp [BelL, Bel, hT, chainsD, List.map_take, hbt]) (by simp [BelS, BelOb, BelL, Bel, hT, chainsD, List.map_take, hbt])) ⟨(i + 1), ?_, rfl, rfl⟩
        omega
    · obtain rfl : i = cs.length := by omega
      repeat' first
        | refine jw_ret (hQ _ _ (.inr rfl) ⟨5, _, _, rfl, rfl, ?_⟩)
        | refine jw_ret (hQ _ _ (.inr rfl) ⟨_, rfl, ?_⟩)
        | refine jw_seq_k fun K hK => ?_
        | refine jw_block ?_
        | (refine jw_skip ?_; try simp)
        | (refine jw_exit ?_; try simp)
        | (refine jw_cond rfl (fun hc => ?_) (fun hc => ?_) <;> (try simp at hc) <;> (try (exfalso; first | omega | exact absurd hc (by assumption))))
        | ((fail_if_success (refine jw_c (id := 22) ?_)); (refine jw_c ?_; simp (maxSteps := 1000000) [hlt, chainsD]))
        | ((fail_if_success (refine jw_draw_j (id := 22) mixed (by kernel_rfl) ?_)); (refine jw_draw_j mixed (by kernel_rfl) ?_; simp (maxSteps := 1000000) [hlt, chainsD]))
        | (first | (apply hK; clear hK) | (clear hK; apply hK; clear hK) | (clear hK; clear hK; apply hK; clear hK) | (clear hK; clear hK; clear hK; apply hK; clear hK))
        | exact hQ _ _ (.inl rfl) ⟨5, _, _, rfl, rfl, rfl⟩
        | refine hQ _ _ (.inl rfl) ⟨5, _, _, rfl, rfl, ?_⟩
        | refine hQ _ _ (.inl rfl) ⟨_, rfl, ?_⟩
        | (refine jd_newc rfl rfl (by simp) ?_; simp (maxSteps := 1000000) [thD, thL, hlt, chainsD])
        | (refine okN_or ?_; simp (maxSteps := 1000000) [thD, thL, hlt, chainsD])
        | (refine okC_guard (fun hc => ?_) (fun hc => ?_) <;> (first | simp (maxSteps := 1000000) [hc, of_decide_eq_true hc, hlt, chainsD] | simp (maxSteps := 1000000) [hc, of_decide_eq_false hc, hlt, chainsD] | simp (maxSteps := 1000000) [hc, hlt, chainsD]) <;> (try simp at hc) <;> (try (exfalso; first | omega | exact absurd hc (by assumption))))
        | (refine okJ_guard (fun hc => ?_) (fun hc => ?_) <;> (first | simp (maxSteps := 1000000) [hc, of_decide_eq_true hc, hlt, chainsD] | simp (maxSteps := 1000000) [hc, of_decide_eq_false hc, hlt, chainsD] | simp (maxSteps := 1000000) [hc, hlt, chainsD]) <;> (try simp at hc) <;> (try (exfalso; first | omega | exact absurd hc (by assumption))))
        | (refine And.intro (by first | assumption | omega | (simp [BelL, Bel]; done) | (simp; omega)) ?_; try simp (maxSteps := 1000000) [hlt, chainsD])
        | (refine okC_or ?_; simp (maxSteps := 1000000) [hlt, chainsD])
      have hch : BelL 0 (cs.map (fun c => intsD (sw old next c))) := by
        rw [show (fun c => intsD (sw old next c)) = intsD ∘ sw old next from rfl, ← List.map_map]; exact belL_chains _ _
      have htk : List.take cs.length (cs.map (fun c => intsD (sw old next c))) = cs.map (fun c => intsD (sw old next c)) := List.take_of_length_le (by simp)
      (refine jw_view (view_frz 3 _ rfl (by simp [BelL, Bel, hch, htk])) ?_; simp (maxSteps := 1000000) [thL, thD, thS, thOb, hch, htk])
      repeat' first
        | refine jw_seq_k fun K hK => ?_
        | refine jw_block ?_
        | (refine jw_skip ?_; try simp)
        | (refine jw_exit ?_; try simp)
        | (refine jw_cond rfl (fun hc => ?_) (fun hc => ?_) <;> (try simp at hc) <;> (try (exfalso; first | omega | exact absurd hc (by assumption))))
        | (refine jw_c ?_; simp (maxSteps := 1000000) [layD, chainsD, Function.comp_def, hch])
        | (refine jw_draw_j mixed (by kernel_rfl) ?_; simp (maxSteps := 1000000) [layD, chainsD, Function.comp_def, hch])
        | (first | (apply hK; clear hK) | (clear hK; apply hK; clear hK) | (clear hK; clear hK; apply hK; clear hK) | (clear hK; clear hK; clear hK; apply hK; clear hK))
        | (refine jw_ret (hQ _ _ (.inr rfl) (ret_ok 0 ?_ (by first | omega | simp))); simp (maxSteps := 1000000) [okRet, BelL, Bel, BelS, BelOb, layD, chainsD, Function.comp_def, hch])
        | (refine hQ _ _ (.inl rfl) (ret_ok 0 ?_ (by first | omega | simp)); simp (maxSteps := 1000000) [okRet, BelL, Bel, BelS, BelOb, layD, chainsD, Function.comp_def, hch])
        | (refine jd_newc rfl rfl (by simp) ?_; simp (maxSteps := 1000000) [thD, thL, layD, chainsD, Function.comp_def, hch])
        | (refine okN_or ?_; simp (maxSteps := 1000000) [thD, thL, layD, chainsD, Function.comp_def, hch])
        | (refine okC_guard (fun hc => ?_) (fun hc => ?_) <;> (first | simp (maxSteps := 1000000) [hc, of_decide_eq_true hc, layD, chainsD, Function.comp_def, hch] | simp (maxSteps := 1000000) [hc, of_decide_eq_false hc, layD, chainsD, Function.comp_def, hch] | simp (maxSteps := 1000000) [hc, layD, chainsD, Function.comp_def, hch]) <;> (try simp at hc) <;> (try (exfalso; first | omega | exact absurd hc (by assumption))))
        | (refine okJ_guard (fun hc => ?_) (fun hc => ?_) <;> (first | simp (maxSteps := 1000000) [hc, of_decide_eq_true hc, layD, chainsD, Function.comp_def, hch] | simp (maxSteps := 1000000) [hc, of_decide_eq_false hc, layD, chainsD, Function.comp_def, hch] | simp (maxSteps := 1000000) [hc, layD, chainsD, Function.comp_def, hch]) <;> (try simp at hc) <;> (try (exfalso; first | omega | exact absurd hc (by assumption))))
        | (refine And.intro (by first | assumption | omega | (simp [BelL, Bel]; done) | (simp; omega)) ?_; try simp (maxSteps := 1000000) [layD, chainsD, Function.comp_def, hch])
        | (refine okC_or ?_; simp (maxSteps := 1000000) [layD, chainsD, Function.comp_def, hch])
  · omega
end Go.Proofs.Ytaoohkfocajdcaa
