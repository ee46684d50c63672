/- Index, Contains, Clone, Collect of numbers. -/
import Derived.Test.YtaoohkfocajdcaaLayFor
set_option linter.unusedVariables false
set_option linter.unusedSimpArgs false
set_option maxRecDepth 20000
set_option maxHeartbeats 20000000
namespace Go.Proofs.Ytaoohkfocajdcaa
open Go Go.Vm Go.Proofs

def idxI (l : List Int) (x : Int) : Int := if x ∈ l then (l.idxOf x : Nat) else -1
theorem idx_at {l : List Int} {x : Int} {i : Nat} (hi : i < l.length) (hx : l[i] = x) (hn : ∀ k, (hk : k < i) → l[k]'(by omega) ≠ x) : idxI l x = i := by
  have hm : x ∈ l := by rw [← hx]; exact List.getElem_mem hi
  unfold idxI
  rw [if_pos hm]
  have h1 : l.idxOf x < l.length := List.idxOf_lt_length_iff.2 hm
  have h2 : l[l.idxOf x] = x := List.getElem_idxOf h1
  have : ¬ l.idxOf x < i := fun h => hn _ h h2
  have : ¬ i < l.idxOf x := fun h => by
    have := List.not_of_lt_findIdx (p := (· == x)) (xs := l) (i := i) (by simpa [List.idxOf] using h)
    simp [hx] at this
  omega
theorem indexF {G : Globals} (l : List Int) (hl : l.length ≤ 1000000) (x : Int) : FV Try.prog G 19 [numsD .i64 l, .int .i64 x] (fun r => r = .int .i64 (idxI l x)) := by
  refine fv_enter_v Try.func19 rfl rfl fun Q hQ => ?_
  repeat' first
    | refine jw_ret (hQ _ _ (.inr rfl) ⟨5, _, _, rfl, rfl, ?_⟩)
    | refine jw_ret (hQ _ _ (.inr rfl) ⟨_, rfl, ?_⟩)
    | refine jw_seq_k fun K hK => ?_
    | refine jw_block ?_
    | (refine jw_skip ?_; try simp)
    | (refine jw_exit ?_; try simp)
    | (refine jw_cond rfl (fun hc => ?_) (fun hc => ?_) <;> (try simp at hc) <;> (try (exfalso; first | omega | exact absurd hc (by assumption))))
    | (refine jw_c ?_; simp (maxSteps := 1000000) [Try.f19, numsD])
    | (refine jw_draw_j mixed (by kernel_rfl) ?_; simp (maxSteps := 1000000) [Try.f19, numsD])
    | (first | (apply hK; clear hK) | (clear hK; apply hK; clear hK) | (clear hK; clear hK; apply hK; clear hK) | (clear hK; clear hK; clear hK; apply hK; clear hK))
    | exact hQ _ _ (.inl rfl) ⟨5, _, _, rfl, rfl, rfl⟩
    | refine hQ _ _ (.inl rfl) ⟨5, _, _, rfl, rfl, ?_⟩
    | refine hQ _ _ (.inl rfl) ⟨_, rfl, ?_⟩
    | (refine jd_newc rfl rfl (by simp) ?_; simp (maxSteps := 1000000) [thD, thL, Try.f19, numsD])
    | (refine okN_or ?_; simp (maxSteps := 1000000) [thD, thL, Try.f19, numsD])
    | (refine okC_guard (fun hc => ?_) (fun hc => ?_) <;> (first | simp (maxSteps := 1000000) [hc, of_decide_eq_true hc, Try.f19, numsD] | simp (maxSteps := 1000000) [hc, of_decide_eq_false hc, Try.f19, numsD] | simp (maxSteps := 1000000) [hc, Try.f19, numsD]) <;> (try simp at hc) <;> (try (exfalso; first | omega | exact absurd hc (by assumption))))
    | (refine okJ_guard (fun hc => ?_) (fun hc => ?_) <;> (first | simp (maxSteps := 1000000) [hc, of_decide_eq_true hc, Try.f19, numsD] | simp (maxSteps := 1000000) [hc, of_decide_eq_false hc, Try.f19, numsD] | simp (maxSteps := 1000000) [hc, Try.f19, numsD]) <;> (try simp at hc) <;> (try (exfalso; first | omega | exact absurd hc (by assumption))))
    | (refine And.intro (by first | assumption | omega | (simp [BelL, Bel]; done) | (simp; omega)) ?_; try simp (maxSteps := 1000000) [Try.f19, numsD])
    | (refine okC_or ?_; simp (maxSteps := 1000000) [Try.f19, numsD])
  refine jw_loop_v (fun m z => ∃ (i : Nat), (i ≤ l.length ∧ ∀ k, (hk : k < i) → (hk2 : k < l.length) → l[k] ≠ x) ∧ l.length - i = m ∧ z = ⟨[numsD .i64 l, .int .i64 x] ++ List.replicate 5 .any ++ [.int .i64 l.length, .int .i64 i] ++ List.replicate 10 .any, []⟩) ⟨[numsD .i64 l, .int .i64 x] ++ List.replicate 5 .any ++ [.int .i64 l.length, .int .i64 (0)] ++ List.replicate 10 .any, []⟩ (view_takeE (sl := [numsD .i64 l, .int .i64 x] ++ List.replicate 5 .any ++ [.int .i64 l.length, .int .i64 (0)] ++ List.replicate 10 .any) (σ0 := []) 0 (by simp [numsD]) (by first | omega | simp) (by first | omega | (simp [numsD]; done) | (simp [numsD]; omega)) (by first | exact LewS.refl _ | simp [numsD]) (by simp [BelL, Bel, numsD]) (by simp [BelS, BelOb, BelL, Bel, numsD])) ⟨(0), ?_, rfl, rfl⟩ ?_
  rotate_left
  rintro m z ⟨i, hA, rfl, rfl⟩ KA hKA
  · obtain ⟨hi, hn⟩ := hA
    have hw := wrap_i64 (n := (i : Int) + 1) (by omega) (by omega)
    by_cases hlt : i < l.length
    · by_cases he : x = l[i]
      · have hx := idx_at hlt he.symm fun k hk => hn k hk (by omega)
        rw [hx] at hQ
        repeat' first
          | refine jw_seq_k fun K hK => ?_
          | refine jw_block ?_
          | (refine jw_skip ?_; try simp)
          | (refine jw_exit ?_; try simp)
          | (refine jw_cond rfl (fun hc => ?_) (fun hc => ?_) <;> (try simp at hc) <;> (try (exfalso; first | omega | exact absurd hc (by assumption))))
          | (refine jw_c ?_; simp (maxSteps := 1000000) [hlt, numsD, ← he])
          | (refine jw_draw_j mixed (by kernel_rfl) ?_; simp (maxSteps := 1000000) [hlt, numsD, ← he])
          | (first | (apply hK; clear hK) | (clear hK; apply hK; clear hK) | (clear hK; clear hK; apply hK; clear hK) | (clear hK; clear hK; clear hK; apply hK; clear hK))
          | (refine jw_ret (hQ _ _ (.inr rfl) (ret_ok 0 ?_ (by first | omega | simp))); simp (maxSteps := 1000000) [okRet, BelL, Bel, BelS, BelOb, hlt, numsD, ← he])
          | (refine hQ _ _ (.inl rfl) (ret_ok 0 ?_ (by first | omega | simp)); simp (maxSteps := 1000000) [okRet, BelL, Bel, BelS, BelOb, hlt, numsD, ← he])
          | (refine jd_newc rfl rfl (by simp) ?_; simp (maxSteps := 1000000) [thD, thL, hlt, numsD, ← he])
          | (refine okN_or ?_; simp (maxSteps := 1000000) [thD, thL, hlt, numsD, ← he])
          | (refine okC_guard (fun hc => ?_) (fun hc => ?_) <;> (first | simp (maxSteps := 1000000) [hc, of_decide_eq_true hc, hlt, numsD, ← he] | simp (maxSteps := 1000000) [hc, of_decide_eq_false hc, hlt, numsD, ← he] | simp (maxSteps := 1000000) [hc, hlt, numsD, ← he]) <;> (try simp at hc) <;> (try (exfalso; first | omega | exact absurd hc (by assumption))))
          | (refine okJ_guard (fun hc => ?_) (fun hc => ?_) <;> (first | simp (maxSteps := 1000000) [hc, of_decide_eq_true hc, hlt, numsD, ← he] | simp (maxSteps := 1000000) [hc, of_decide_eq_false hc, hlt, numsD, ← he] | simp (maxSteps := 1000000) [hc, hlt, numsD, ← he]) <;> (try simp at hc) <;> (try (exfalso; first | omega | exact absurd hc (by assumption))))
          | (refine And.intro (by first | assumption | omega | (simp [BelL, Bel]; done) | (simp; omega)) ?_; try simp (maxSteps := 1000000) [hlt, numsD, ← he])
          | (refine okC_or ?_; simp (maxSteps := 1000000) [hlt, numsD, ← he])
      · repeat' first
          | refine jw_ret (hQ _ _ (.inr rfl) ⟨5, _, _, rfl, rfl, ?_⟩)
          | refine jw_ret (hQ _ _ (.inr rfl) ⟨_, rfl, ?_⟩)
          | refine jw_seq_k fun K hK => ?_
          | refine jw_block ?_
          | (refine jw_skip ?_; try simp)
          | (refine jw_exit ?_; try simp)
          | (refine jw_cond rfl (fun hc => ?_) (fun hc => ?_) <;> (try simp at hc) <;> (try (exfalso; first | omega | exact absurd hc (by assumption))))
          | (refine jw_c ?_; simp (maxSteps := 1000000) [hlt, numsD, he, hw])
          | (refine jw_draw_j mixed (by kernel_rfl) ?_; simp (maxSteps := 1000000) [hlt, numsD, he, hw])
          | (first | (apply hK; clear hK) | (clear hK; apply hK; clear hK) | (clear hK; clear hK; apply hK; clear hK) | (clear hK; clear hK; clear hK; apply hK; clear hK))
          | exact hQ _ _ (.inl rfl) ⟨5, _, _, rfl, rfl, rfl⟩
          | refine hQ _ _ (.inl rfl) ⟨5, _, _, rfl, rfl, ?_⟩
          | refine hQ _ _ (.inl rfl) ⟨_, rfl, ?_⟩
          | (refine jd_newc rfl rfl (by simp) ?_; simp (maxSteps := 1000000) [thD, thL, hlt, numsD, he, hw])
          | (refine okN_or ?_; simp (maxSteps := 1000000) [thD, thL, hlt, numsD, he, hw])
          | (refine okC_guard (fun hc => ?_) (fun hc => ?_) <;> (first | simp (maxSteps := 1000000) [hc, of_decide_eq_true hc, hlt, numsD, he, hw] | simp (maxSteps := 1000000) [hc, of_decide_eq_false hc, hlt, numsD, he, hw] | simp (maxSteps := 1000000) [hc, hlt, numsD, he, hw]) <;> (try simp at hc) <;> (try (exfalso; first | omega | exact absurd hc (by assumption))))
          | (refine okJ_guard (fun hc => ?_) (fun hc => ?_) <;> (first | simp (maxSteps := 1000000) [hc, of_decide_eq_true hc, hlt, numsD, he, hw] | simp (maxSteps := 1000000) [hc, of_decide_eq_false hc, hlt, numsD, he, hw] | simp (maxSteps := 1000000) [hc, hlt, numsD, he, hw]) <;> (try simp at hc) <;> (try (exfalso; first | omega | exact absurd hc (by assumption))))
          | (refine And.intro (by first | assumption | omega | (simp [BelL, Bel]; done) | (simp; omega)) ?_; try simp (maxSteps := 1000000) [hlt, numsD, he, hw])
          | (refine okC_or ?_; simp (maxSteps := 1000000) [hlt, numsD, he, hw])
        refine hKA (l.length - (i + 1)) _ ⟨[numsD .i64 l, .int .i64 x] ++ List.replicate 5 .any ++ [.int .i64 l.length, .int .i64 (i + 1)] ++ List.replicate 10 .any, []⟩ (by omega) (view_takeE (sl := [numsD .i64 l, .int .i64 x] ++ List.replicate 5 .any ++ [.int .i64 l.length, .int .i64 (i + 1)] ++ List.replicate 10 .any) (σ0 := []) 0 (by simp [numsD]) (by first | omega | simp) (by first | omega | (simp [numsD]; done) | (simp [numsD]; omega)) (by first | exact LewS.refl _ | simp [numsD]) (by simp [BelL, Bel, numsD]) (by simp [BelS, BelOb, BelL, Bel, numsD])) ⟨(i + 1), ?_, rfl, rfl⟩
        refine ⟨by omega, fun k hk hk2 => ?_⟩
        by_cases e : k = i
        · subst e; exact fun h => he h.symm
        · exact hn k (by omega) hk2
    · have hx : idxI l x = -1 := by
        unfold idxI
        rw [if_neg fun hm => ?_]
        obtain ⟨k, hk, e⟩ := List.mem_iff_getElem.1 hm
        exact hn k (by omega) hk e
      rw [hx] at hQ
      repeat' first
        | refine jw_seq_k fun K hK => ?_
        | refine jw_block ?_
        | (refine jw_skip ?_; try simp)
        | (refine jw_exit ?_; try simp)
        | (refine jw_cond rfl (fun hc => ?_) (fun hc => ?_) <;> (try simp at hc) <;> (try (exfalso; first | omega | exact absurd hc (by assumption))))
        | (refine jw_c ?_; simp (maxSteps := 1000000) [hlt])
        | (refine jw_draw_j mixed (by kernel_rfl) ?_; simp (maxSteps := 1000000) [hlt])
        | (first | (apply hK; clear hK) | (clear hK; apply hK; clear hK) | (clear hK; clear hK; apply hK; clear hK) | (clear hK; clear hK; clear hK; apply hK; clear hK))
        | (refine jw_ret (hQ _ _ (.inr rfl) (ret_ok 0 ?_ (by first | omega | simp))); simp (maxSteps := 1000000) [okRet, BelL, Bel, BelS, BelOb, hlt])
        | (refine hQ _ _ (.inl rfl) (ret_ok 0 ?_ (by first | omega | simp)); simp (maxSteps := 1000000) [okRet, BelL, Bel, BelS, BelOb, hlt])
        | (refine jd_newc rfl rfl (by simp) ?_; simp (maxSteps := 1000000) [thD, thL, hlt])
        | (refine okN_or ?_; simp (maxSteps := 1000000) [thD, thL, hlt])
        | (refine okC_guard (fun hc => ?_) (fun hc => ?_) <;> (first | simp (maxSteps := 1000000) [hc, of_decide_eq_true hc, hlt] | simp (maxSteps := 1000000) [hc, of_decide_eq_false hc, hlt] | simp (maxSteps := 1000000) [hc, hlt]) <;> (try simp at hc) <;> (try (exfalso; first | omega | exact absurd hc (by assumption))))
        | (refine okJ_guard (fun hc => ?_) (fun hc => ?_) <;> (first | simp (maxSteps := 1000000) [hc, of_decide_eq_true hc, hlt] | simp (maxSteps := 1000000) [hc, of_decide_eq_false hc, hlt] | simp (maxSteps := 1000000) [hc, hlt]) <;> (try simp at hc) <;> (try (exfalso; first | omega | exact absurd hc (by assumption))))
        | (refine And.intro (by first | assumption | omega | (simp [BelL, Bel]; done) | (simp; omega)) ?_; try simp (maxSteps := 1000000) [hlt])
        | (refine okC_or ?_; simp (maxSteps := 1000000) [hlt])
  · exact ⟨by omega, fun k hk => by omega⟩
theorem containsF {G : Globals} (l : List Int) (hl : l.length ≤ 1000000) (x : Int) : FV Try.prog G 17 [numsD .i64 l, .int .i64 x] (fun r => r = .bool (decide (x ∈ l))) := by
  refine fv_enter_v Try.func17 rfl rfl fun Q hQ => ?_
  have hi := indexF (G := G) l hl x
  unfold numsD at hi
  repeat' first
    | refine jw_seq_k fun K hK => ?_
    | refine jw_block ?_
    | (refine jw_skip ?_; try simp)
    | (refine jw_exit ?_; try simp)
    | (refine jw_cond rfl (fun hc => ?_) (fun hc => ?_) <;> (try simp at hc) <;> (try (exfalso; first | omega | exact absurd hc (by assumption))))
    | (refine jw_c ?_; simp (maxSteps := 1000000) [Try.f17, numsD])
    | (refine jw_draw_j mixed (by kernel_rfl) ?_; simp (maxSteps := 1000000) [Try.f17, numsD])
    | (first | (apply hK; clear hK) | (clear hK; apply hK; clear hK) | (clear hK; clear hK; apply hK; clear hK) | (clear hK; clear hK; clear hK; apply hK; clear hK))
    | (refine jl_call (f := 19) rfl rfl rfl rfl rfl (hi) (by simp [BelL, Bel]) ?_; rintro r rfl; simp (maxSteps := 1000000) [Try.f17, numsD])
    | (refine jd_call (f := 19) rfl rfl rfl rfl rfl (hi) (by simp [BelL, Bel]) ?_; simp (maxSteps := 1000000) [Try.f17, numsD])
    | (refine jw_ret (hQ _ _ (.inr rfl) (ret_ok 0 ?_ (by first | omega | simp))); simp (maxSteps := 1000000) [okRet, BelL, Bel, BelS, BelOb, Try.f17, numsD])
    | (refine hQ _ _ (.inl rfl) (ret_ok 0 ?_ (by first | omega | simp)); simp (maxSteps := 1000000) [okRet, BelL, Bel, BelS, BelOb, Try.f17, numsD])
    | (refine jd_newc rfl rfl (by simp) ?_; simp (maxSteps := 1000000) [thD, thL, Try.f17, numsD])
    | (refine okN_or ?_; simp (maxSteps := 1000000) [thD, thL, Try.f17, numsD])
    | (refine okC_guard (fun hc => ?_) (fun hc => ?_) <;> (first | simp (maxSteps := 1000000) [hc, of_decide_eq_true hc, Try.f17, numsD] | simp (maxSteps := 1000000) [hc, of_decide_eq_false hc, Try.f17, numsD] | simp (maxSteps := 1000000) [hc, Try.f17, numsD]) <;> (try simp at hc) <;> (try (exfalso; first | omega | exact absurd hc (by assumption))))
    | (refine okJ_guard (fun hc => ?_) (fun hc => ?_) <;> (first | simp (maxSteps := 1000000) [hc, of_decide_eq_true hc, Try.f17, numsD] | simp (maxSteps := 1000000) [hc, of_decide_eq_false hc, Try.f17, numsD] | simp (maxSteps := 1000000) [hc, Try.f17, numsD]) <;> (try simp at hc) <;> (try (exfalso; first | omega | exact absurd hc (by assumption))))
    | (refine And.intro (by first | assumption | omega | (simp [BelL, Bel]; done) | (simp; omega)) ?_; try simp (maxSteps := 1000000) [Try.f17, numsD])
    | (refine okC_or ?_; simp (maxSteps := 1000000) [Try.f17, numsD])
  unfold idxI
  by_cases h : x ∈ l <;> simp [h]
theorem cloneI {G : Globals} (l : List Int) (hl : l.length ≤ 1000000) (hne : l ≠ []) : FC Try.prog G 18 [numsD .i64 l] [] (fun d σ' => d = .ms 0 l.length 0 l.length 1 ∧ σ' = [some (.c (l.map (.int .i64)))]) := by
  refine fc_enter_v Try.func18 rfl rfl fun Q hQ => ?_
  cases l with
  | nil => exact (hne rfl).elim
  | cons x l =>
    repeat' first
      | refine jw_seq_k fun K hK => ?_
      | refine jw_block ?_
      | (refine jw_skip ?_; try simp)
      | (refine jw_exit ?_; try simp)
      | (refine jw_cond rfl (fun hc => ?_) (fun hc => ?_) <;> (try simp at hc) <;> (try (exfalso; first | omega | exact absurd hc (by assumption))))
      | (refine jw_c ?_; simp (maxSteps := 1000000) [Try.f18, numsD, show (l.length + 1) * 8 ≤ 140737488355328 by simp at hl; omega])
      | (refine jw_draw_j mixed (by kernel_rfl) ?_; simp (maxSteps := 1000000) [Try.f18, numsD, show (l.length + 1) * 8 ≤ 140737488355328 by simp at hl; omega])
      | (first | (apply hK; clear hK) | (clear hK; apply hK; clear hK) | (clear hK; clear hK; apply hK; clear hK) | (clear hK; clear hK; clear hK; apply hK; clear hK))
      | (refine jw_ret (hQ _ _ (.inr rfl) (ret_ok 1 ?_ (by first | omega | simp))); simp (maxSteps := 1000000) [okRet, BelL, Bel, BelS, BelOb, Try.f18, numsD, show (l.length + 1) * 8 ≤ 140737488355328 by simp at hl; omega])
      | (refine hQ _ _ (.inl rfl) (ret_ok 1 ?_ (by first | omega | simp)); simp (maxSteps := 1000000) [okRet, BelL, Bel, BelS, BelOb, Try.f18, numsD, show (l.length + 1) * 8 ≤ 140737488355328 by simp at hl; omega])
      | (refine jd_newc rfl rfl (by simp) ?_; simp (maxSteps := 1000000) [thD, thL, Try.f18, numsD, show (l.length + 1) * 8 ≤ 140737488355328 by simp at hl; omega])
      | (refine okN_or ?_; simp (maxSteps := 1000000) [thD, thL, Try.f18, numsD, show (l.length + 1) * 8 ≤ 140737488355328 by simp at hl; omega])
      | (refine okC_guard (fun hc => ?_) (fun hc => ?_) <;> (first | simp (maxSteps := 1000000) [hc, of_decide_eq_true hc, Try.f18, numsD, show (l.length + 1) * 8 ≤ 140737488355328 by simp at hl; omega] | simp (maxSteps := 1000000) [hc, of_decide_eq_false hc, Try.f18, numsD, show (l.length + 1) * 8 ≤ 140737488355328 by simp at hl; omega] | simp (maxSteps := 1000000) [hc, Try.f18, numsD, show (l.length + 1) * 8 ≤ 140737488355328 by simp at hl; omega]) <;> (try simp at hc) <;> (try (exfalso; first | omega | exact absurd hc (by assumption))))
      | (refine okJ_guard (fun hc => ?_) (fun hc => ?_) <;> (first | simp (maxSteps := 1000000) [hc, of_decide_eq_true hc, Try.f18, numsD, show (l.length + 1) * 8 ≤ 140737488355328 by simp at hl; omega] | simp (maxSteps := 1000000) [hc, of_decide_eq_false hc, Try.f18, numsD, show (l.length + 1) * 8 ≤ 140737488355328 by simp at hl; omega] | simp (maxSteps := 1000000) [hc, Try.f18, numsD, show (l.length + 1) * 8 ≤ 140737488355328 by simp at hl; omega]) <;> (try simp at hc) <;> (try (exfalso; first | omega | exact absurd hc (by assumption))))
      | (refine And.intro (by first | assumption | omega | (simp [BelL, Bel]; done) | (simp; omega)) ?_; try simp (maxSteps := 1000000) [Try.f18, numsD, show (l.length + 1) * 8 ≤ 140737488355328 by simp at hl; omega])
      | (refine okC_or ?_; simp (maxSteps := 1000000) [Try.f18, numsD, show (l.length + 1) * 8 ≤ 140737488355328 by simp at hl; omega])

/-- Collect, of a layout's units. -/
theorem appendSeqF {G : Globals} (e : Int) (cs : List (List Int)) (hn : cs.length ≤ 1000) (hc : ∀ c ∈ cs, c.length ≤ 1000) (hf : cs.flatten.length ≤ 1000) :
    FV Try.prog G 21 [.nsl, .fn (.func 20) [] [.ref [.int .i64 e, chainsD cs]]] (fun r => r = numsD .i64 cs.flatten) := by
  refine fv_enter_v Try.func21 rfl rfl fun Q hQ => ?_
  repeat' first
    | refine jw_ret (hQ _ _ (.inr rfl) ⟨5, _, _, rfl, rfl, ?_⟩)
    | refine jw_ret (hQ _ _ (.inr rfl) ⟨_, rfl, ?_⟩)
    | refine jw_seq_k fun K hK => ?_
    | refine jw_block ?_
    | (refine jw_skip ?_; try simp)
    | (refine jw_exit ?_; try simp)
    | (refine jw_cond rfl (fun hc => ?_) (fun hc => ?_) <;> (try simp at hc) <;> (try (exfalso; first | omega | exact absurd hc (by assumption))))
    | (refine jw_c ?_; simp (maxSteps := 1000000) [Try.f21])
    | (refine jw_draw_j mixed (by kernel_rfl) ?_; simp (maxSteps := 1000000) [Try.f21])
    | (first | (apply hK; clear hK) | (clear hK; apply hK; clear hK) | (clear hK; clear hK; apply hK; clear hK) | (clear hK; clear hK; clear hK; apply hK; clear hK))
    | exact hQ _ _ (.inl rfl) ⟨5, _, _, rfl, rfl, rfl⟩
    | refine hQ _ _ (.inl rfl) ⟨5, _, _, rfl, rfl, ?_⟩
    | refine hQ _ _ (.inl rfl) ⟨_, rfl, ?_⟩
    | (refine jd_newc rfl rfl (by simp) ?_; simp (maxSteps := 1000000) [thD, thL, Try.f21])
    | (refine okN_or ?_; simp (maxSteps := 1000000) [thD, thL, Try.f21])
    | (refine okC_guard (fun hc => ?_) (fun hc => ?_) <;> (first | simp (maxSteps := 1000000) [hc, of_decide_eq_true hc, Try.f21] | simp (maxSteps := 1000000) [hc, of_decide_eq_false hc, Try.f21] | simp (maxSteps := 1000000) [hc, Try.f21]) <;> (try simp at hc) <;> (try (exfalso; first | omega | exact absurd hc (by assumption))))
    | (refine okJ_guard (fun hc => ?_) (fun hc => ?_) <;> (first | simp (maxSteps := 1000000) [hc, of_decide_eq_true hc, Try.f21] | simp (maxSteps := 1000000) [hc, of_decide_eq_false hc, Try.f21] | simp (maxSteps := 1000000) [hc, Try.f21]) <;> (try simp at hc) <;> (try (exfalso; first | omega | exact absurd hc (by assumption))))
    | (refine And.intro (by first | assumption | omega | (simp [BelL, Bel]; done) | (simp; omega)) ?_; try simp (maxSteps := 1000000) [Try.f21])
    | (refine okC_or ?_; simp (maxSteps := 1000000) [Try.f21])
  have hE := unitsEach (G := G) e cs hn hc
  generalize cs.flatten = M at *
  refine jw_view (view_nilc 0 0 1 rfl rfl) ?_
  simp only [List.set_cons_zero, List.length_cons, List.length_nil, List.cons_append, List.nil_append, Nat.zero_add]
  refine jw_each hE rfl (fun r g σ => σ = [some (.c [.ms 1 g 0 g 1]), some (.c ((M.take g).map (.int .i64))), r])
    (by rintro ds h; obtain ⟨u, _, rfl⟩ := List.mem_map.1 h; rfl) (by rintro r g σ rfl; rfl) (by rintro r r' g σ rfl; rfl) (fun r => rfl) ?_ ?_
  · rintro g ds σ r ⟨st, hst⟩ hds rfl
    simp only [List.getElem?_map, Option.map_eq_some_iff] at hds
    obtain ⟨u, hu, rfl⟩ := hds
    have hlt : g < M.length := (List.getElem?_eq_some_iff.1 hu).1
    have hT : M.take (g + 1) = M.take g ++ [u] := by rw [List.take_add_one, hu]; rfl
    refine jw_c ?_
    simp [setL]
    rintro r σ st rfl rfl
    generalize hRe : Ob.lp _ _ _ _ _ _ = R
    have hR : BelOb 3 R := by rw [← hRe]; simp [BelOb, BelL, Bel, chainsD]
    clear hRe
    have hgl : min g M.length = g := by omega
    repeat' first
      | refine jw_ret (hQ _ _ (.inr rfl) ⟨5, _, _, rfl, rfl, ?_⟩)
      | refine jw_ret (hQ _ _ (.inr rfl) ⟨_, rfl, ?_⟩)
      | refine jw_seq_k fun K hK => ?_
      | refine jw_block ?_
      | (refine jw_skip ?_; try simp)
      | (refine jw_exit ?_; try simp)
      | (refine jw_cond rfl (fun hc => ?_) (fun hc => ?_) <;> (try simp at hc) <;> (try (exfalso; first | omega | exact absurd hc (by assumption))))
      | (refine jw_c ?_; simp (maxSteps := 1000000) [hgl, okCell, show g + 1 ≤ 1000000 by omega, show (g + 1) * 8 ≤ 140737488355328 by omega])
      | (refine jw_draw_j mixed (by kernel_rfl) ?_; simp (maxSteps := 1000000) [hgl, okCell, show g + 1 ≤ 1000000 by omega, show (g + 1) * 8 ≤ 140737488355328 by omega])
      | (first | (apply hK; clear hK) | (clear hK; apply hK; clear hK) | (clear hK; clear hK; apply hK; clear hK) | (clear hK; clear hK; clear hK; apply hK; clear hK))
      | exact hQ _ _ (.inl rfl) ⟨5, _, _, rfl, rfl, rfl⟩
      | refine hQ _ _ (.inl rfl) ⟨5, _, _, rfl, rfl, ?_⟩
      | refine hQ _ _ (.inl rfl) ⟨_, rfl, ?_⟩
      | (refine jd_newc rfl rfl (by simp) ?_; simp (maxSteps := 1000000) [thD, thL, hgl, okCell, show g + 1 ≤ 1000000 by omega, show (g + 1) * 8 ≤ 140737488355328 by omega])
      | (refine okN_or ?_; simp (maxSteps := 1000000) [thD, thL, hgl, okCell, show g + 1 ≤ 1000000 by omega, show (g + 1) * 8 ≤ 140737488355328 by omega])
      | (refine okC_guard (fun hc => ?_) (fun hc => ?_) <;> (first | simp (maxSteps := 1000000) [hc, of_decide_eq_true hc, hgl, okCell, show g + 1 ≤ 1000000 by omega, show (g + 1) * 8 ≤ 140737488355328 by omega] | simp (maxSteps := 1000000) [hc, of_decide_eq_false hc, hgl, okCell, show g + 1 ≤ 1000000 by omega, show (g + 1) * 8 ≤ 140737488355328 by omega] | simp (maxSteps := 1000000) [hc, hgl, okCell, show g + 1 ≤ 1000000 by omega, show (g + 1) * 8 ≤ 140737488355328 by omega]) <;> (try simp at hc) <;> (try (exfalso; first | omega | exact absurd hc (by assumption))))
      | (refine okJ_guard (fun hc => ?_) (fun hc => ?_) <;> (first | simp (maxSteps := 1000000) [hc, of_decide_eq_true hc, hgl, okCell, show g + 1 ≤ 1000000 by omega, show (g + 1) * 8 ≤ 140737488355328 by omega] | simp (maxSteps := 1000000) [hc, of_decide_eq_false hc, hgl, okCell, show g + 1 ≤ 1000000 by omega, show (g + 1) * 8 ≤ 140737488355328 by omega] | simp (maxSteps := 1000000) [hc, hgl, okCell, show g + 1 ≤ 1000000 by omega, show (g + 1) * 8 ≤ 140737488355328 by omega]) <;> (try simp at hc) <;> (try (exfalso; first | omega | exact absurd hc (by assumption))))
      | (refine And.intro (by first | assumption | omega | (simp [BelL, Bel]; done) | (simp; omega)) ?_; try simp (maxSteps := 1000000) [hgl, okCell, show g + 1 ≤ 1000000 by omega, show (g + 1) * 8 ≤ 140737488355328 by omega])
      | (refine okC_or ?_; simp (maxSteps := 1000000) [hgl, okCell, show g + 1 ≤ 1000000 by omega, show (g + 1) * 8 ≤ 140737488355328 by omega])
    refine ⟨⟨List.replicate 13 .any, [some (.c [.ms 1 (g + 1) 0 (g + 1) 1]), some (.c ((M.take (g + 1)).map (.int .i64))), some R]⟩, view_takeE 3 (by simp) (by simp) (by simp) (by simp [hT]) (by simp [BelL, Bel]) (by simp [BelS, BelOb, BelL, Bel, hgl] at hR ⊢; exact hR), ?_⟩
    simp [List.map_take]
  · rintro σ rfl
    simp
    repeat' first
      | refine jw_ret (hQ _ _ (.inr rfl) ⟨5, _, _, rfl, rfl, ?_⟩)
      | refine jw_ret (hQ _ _ (.inr rfl) ⟨_, rfl, ?_⟩)
      | refine jw_seq_k fun K hK => ?_
      | refine jw_block ?_
      | (refine jw_skip ?_; try simp)
      | (refine jw_exit ?_; try simp)
      | (refine jw_cond rfl (fun hc => ?_) (fun hc => ?_) <;> (try simp at hc) <;> (try (exfalso; first | omega | exact absurd hc (by assumption))))
      | ((fail_if_success (refine jw_c (id := 4) ?_)); (refine jw_c ?_; simp (maxSteps := 1000000)))
      | ((fail_if_success (refine jw_draw_j (id := 4) mixed (by kernel_rfl) ?_)); (refine jw_draw_j mixed (by kernel_rfl) ?_; simp (maxSteps := 1000000)))
      | (first | (apply hK; clear hK) | (clear hK; apply hK; clear hK) | (clear hK; clear hK; apply hK; clear hK) | (clear hK; clear hK; clear hK; apply hK; clear hK))
      | exact hQ _ _ (.inl rfl) ⟨5, _, _, rfl, rfl, rfl⟩
      | refine hQ _ _ (.inl rfl) ⟨5, _, _, rfl, rfl, ?_⟩
      | refine hQ _ _ (.inl rfl) ⟨_, rfl, ?_⟩
      | (refine jd_newc rfl rfl (by simp) ?_; simp (maxSteps := 1000000) [thD, thL])
      | (refine okN_or ?_; simp (maxSteps := 1000000) [thD, thL])
      | (refine okC_guard (fun hc => ?_) (fun hc => ?_) <;> (first | simp (maxSteps := 1000000) [hc, of_decide_eq_true hc] | simp (maxSteps := 1000000) [hc, of_decide_eq_false hc] | simp (maxSteps := 1000000) [hc]) <;> (try simp at hc) <;> (try (exfalso; first | omega | exact absurd hc (by assumption))))
      | (refine okJ_guard (fun hc => ?_) (fun hc => ?_) <;> (first | simp (maxSteps := 1000000) [hc, of_decide_eq_true hc] | simp (maxSteps := 1000000) [hc, of_decide_eq_false hc] | simp (maxSteps := 1000000) [hc]) <;> (try simp at hc) <;> (try (exfalso; first | omega | exact absurd hc (by assumption))))
      | (refine And.intro (by first | assumption | omega | (simp [BelL, Bel]; done) | (simp; omega)) ?_; try simp (maxSteps := 1000000))
      | (refine okC_or ?_; simp (maxSteps := 1000000))
    (refine jw_view (view_frz 1 _ rfl (by simp [BelL, Bel, ])) ?_; simp (maxSteps := 1000000) [thL, thD, thS, thOb, ])
    repeat' first
      | refine jw_seq_k fun K hK => ?_
      | refine jw_block ?_
      | (refine jw_skip ?_; try simp)
      | (refine jw_exit ?_; try simp)
      | (refine jw_cond rfl (fun hc => ?_) (fun hc => ?_) <;> (try simp at hc) <;> (try (exfalso; first | omega | exact absurd hc (by assumption))))
      | (refine jw_c ?_; simp (maxSteps := 1000000) [numsD])
      | (refine jw_draw_j mixed (by kernel_rfl) ?_; simp (maxSteps := 1000000) [numsD])
      | (first | (apply hK; clear hK) | (clear hK; apply hK; clear hK) | (clear hK; clear hK; apply hK; clear hK) | (clear hK; clear hK; clear hK; apply hK; clear hK))
      | (refine jw_ret (hQ _ _ (.inr rfl) (ret_ok 0 ?_ (by first | omega | simp))); simp (maxSteps := 1000000) [okRet, BelL, Bel, BelS, BelOb, numsD])
      | (refine hQ _ _ (.inl rfl) (ret_ok 0 ?_ (by first | omega | simp)); simp (maxSteps := 1000000) [okRet, BelL, Bel, BelS, BelOb, numsD])
      | (refine jd_newc rfl rfl (by simp) ?_; simp (maxSteps := 1000000) [thD, thL, numsD])
      | (refine okN_or ?_; simp (maxSteps := 1000000) [thD, thL, numsD])
      | (refine okC_guard (fun hc => ?_) (fun hc => ?_) <;> (first | simp (maxSteps := 1000000) [hc, of_decide_eq_true hc, numsD] | simp (maxSteps := 1000000) [hc, of_decide_eq_false hc, numsD] | simp (maxSteps := 1000000) [hc, numsD]) <;> (try simp at hc) <;> (try (exfalso; first | omega | exact absurd hc (by assumption))))
      | (refine okJ_guard (fun hc => ?_) (fun hc => ?_) <;> (first | simp (maxSteps := 1000000) [hc, of_decide_eq_true hc, numsD] | simp (maxSteps := 1000000) [hc, of_decide_eq_false hc, numsD] | simp (maxSteps := 1000000) [hc, numsD]) <;> (try simp at hc) <;> (try (exfalso; first | omega | exact absurd hc (by assumption))))
      | (refine And.intro (by first | assumption | omega | (simp [BelL, Bel]; done) | (simp; omega)) ?_; try simp (maxSteps := 1000000) [numsD])
      | (refine okC_or ?_; simp (maxSteps := 1000000) [numsD])
    exact List.take_of_length_le (by simp)
theorem collectF {G : Globals} (e : Int) (cs : List (List Int)) (hn : cs.length ≤ 1000) (hc : ∀ c ∈ cs, c.length ≤ 1000) (hf : cs.flatten.length ≤ 1000) :
    FV Try.prog G 16 [.fn (.func 20) [] [.ref [.int .i64 e, chainsD cs]]] (fun r => r = numsD .i64 cs.flatten) := by
  have h := appendSeqF (G := G) e cs hn hc hf
  generalize cs.flatten = M at *
  refine fv_enter_v Try.func16 rfl rfl fun Q hQ => ?_
  repeat' first
    | refine jw_seq_k fun K hK => ?_
    | refine jw_block ?_
    | (refine jw_skip ?_; try simp)
    | (refine jw_exit ?_; try simp)
    | (refine jw_cond rfl (fun hc => ?_) (fun hc => ?_) <;> (try simp at hc) <;> (try (exfalso; first | omega | exact absurd hc (by assumption))))
    | (refine jw_c ?_; simp (maxSteps := 1000000) [Try.f16])
    | (refine jw_draw_j mixed (by kernel_rfl) ?_; simp (maxSteps := 1000000) [Try.f16])
    | (first | (apply hK; clear hK) | (clear hK; apply hK; clear hK) | (clear hK; clear hK; apply hK; clear hK) | (clear hK; clear hK; clear hK; apply hK; clear hK))
    | (refine jl_call (f := 21) rfl rfl rfl rfl rfl (h) (by simp [BelL, Bel]) ?_; rintro r rfl; simp (maxSteps := 1000000) [Try.f16])
    | (refine jd_call (f := 21) rfl rfl rfl rfl rfl (h) (by simp [BelL, Bel]) ?_; simp (maxSteps := 1000000) [Try.f16])
    | (refine jw_ret (hQ _ _ (.inr rfl) (ret_ok 0 ?_ (by first | omega | simp))); simp (maxSteps := 1000000) [okRet, BelL, Bel, BelS, BelOb, Try.f16])
    | (refine hQ _ _ (.inl rfl) (ret_ok 0 ?_ (by first | omega | simp)); simp (maxSteps := 1000000) [okRet, BelL, Bel, BelS, BelOb, Try.f16])
    | (refine jd_newc rfl rfl (by simp) ?_; simp (maxSteps := 1000000) [thD, thL, Try.f16])
    | (refine okN_or ?_; simp (maxSteps := 1000000) [thD, thL, Try.f16])
    | (refine okC_guard (fun hc => ?_) (fun hc => ?_) <;> (first | simp (maxSteps := 1000000) [hc, of_decide_eq_true hc, Try.f16] | simp (maxSteps := 1000000) [hc, of_decide_eq_false hc, Try.f16] | simp (maxSteps := 1000000) [hc, Try.f16]) <;> (try simp at hc) <;> (try (exfalso; first | omega | exact absurd hc (by assumption))))
    | (refine okJ_guard (fun hc => ?_) (fun hc => ?_) <;> (first | simp (maxSteps := 1000000) [hc, of_decide_eq_true hc, Try.f16] | simp (maxSteps := 1000000) [hc, of_decide_eq_false hc, Try.f16] | simp (maxSteps := 1000000) [hc, Try.f16]) <;> (try simp at hc) <;> (try (exfalso; first | omega | exact absurd hc (by assumption))))
    | (refine And.intro (by first | assumption | omega | (simp [BelL, Bel]; done) | (simp; omega)) ?_; try simp (maxSteps := 1000000) [Try.f16])
    | (refine okC_or ?_; simp (maxSteps := 1000000) [Try.f16])
end Go.Proofs.Ytaoohkfocajdcaa
