/- UnitTorn: the walk and the law. -/
import Derived.Test.YtkjliaapdjapmaaUnitMore
set_option linter.unusedVariables false
set_option linter.unusedSimpArgs false
set_option maxRecDepth 20000
set_option maxHeartbeats 20000000
namespace Go.Proofs.Ytkjliaapdjapmaa
open Go Go.Vm Go.Proofs

theorem lew_set : ∀ {σ : Store} {k : Nat} {o o' : Ob}, σ[k]? = some (some o) → LewO (some o) (some o') → LewS σ (σ.set k (some o'))
  | [], _, _, _, h, _ => by simp at h
  | x :: σ, 0, o, _, h, hl => by
    have : x = some o := by simpa using h
    subst this
    exact ⟨hl, .refl _⟩
  | x :: σ, k + 1, _, _, h, hl => ⟨.refl x, lew_set (σ := σ) (k := k) (by simpa using h) hl⟩
theorem unitTornW (l : List Task) (hl : l.length ≤ 140737488351232) (hd : ∀ t ∈ l, t.data.length ≤ 140737488351232) (ad : Int) (b : List Int) (hb : b.length ≤ 140737488351232) (dn : Int) :
    FV Try.prog [] 5 [tasksD l, .int .i64 ad, bytesD b, .int .i64 dn] (fun r => r = .bool true) := by
  have a0 := Int.emod_nonneg ad (show (6 : Int) ≠ 0 by omega)
  have a1 := Int.emod_lt_of_pos ad (show (0 : Int) < 6 by omega)
  have d0 := Int.emod_nonneg dn (show (40 : Int) ≠ 0 by omega)
  have d1 := Int.emod_lt_of_pos dn (show (0 : Int) < 40 by omega)
  have hPa := pickedG (G := []) ad 6 (by omega) (by omega)
  have hPd := pickedG (G := []) dn 40 (by omega) (by omega)
  generalize ad % 6 = A at *
  generalize dn % 40 = n at *
  obtain ⟨B, hB⟩ : ∃ B, b.take 20 = B := ⟨_, rfl⟩
  have hBl : B.length ≤ 20 := by rw [← hB]; simp; omega
  have ho := octets (G := []) b 20 (by omega) (by omega)
  rw [hB] at ho
  obtain ⟨hep, hlow⟩ := behind l 30 (by omega)
  have huI := run_ok un0_ok (jobsR 0 (l.take 30)).1
  have hjd := jobs_data 0 (l.take 30)
  have hjl : (jobsR 0 (l.take 30)).1.length ≤ 30 := by simp; omega
  have hjF := jobsC (G := []) l hl (fun t ht => by have := hd t ht; omega) 30 (by omega)
  have hlj := flat_len (f := jobC) (z := 4) (fun _ => rfl) (jobsR 0 (l.take 30)).1
  generalize (jobsR 0 (l.take 30)).1 = js at *
  generalize (jobsR 0 (l.take 30)).2 = E at *
  obtain ⟨q, hqq⟩ : ∃ q : Job, (⟨2, E, 0, []⟩ : Job) = q := ⟨_, rfl⟩
  obtain ⟨u, hu⟩ : ∃ u, (runU un0 (js ++ [q])).2 = u := ⟨_, rfl⟩
  have huO : UnI u := hu ▸ run_ok un0_ok _
  have hue : u.epoch = E ∧ u.torn = 0 := by
    rw [← hu, run_append]
    have := do_fetch (u := (runU un0 js).2) (a := 0) (by omega)
    rw [hep] at this
    subst hqq
    simp only [runU]
    have h0 : (⟨2, E, ((0 : Nat) : Int), []⟩ : Job) = ⟨2, E, 0, []⟩ := rfl
    rw [← h0, this]
    exact ⟨rfl, rfl⟩
  have hlaw := torn_law huO hue.2 (a := A) (by omega) B (by omega) n 0 []
  rw [hue.1] at hlaw
  have hL2 := run_looks u
  have hL3 := run_looks (doR u ⟨1, E, A, B⟩).2
  have hL1 := run_looks (doR (doR u ⟨1, E, A, B⟩).2 ⟨6, 0, n, []⟩).2
  rw [hlaw.1] at hL1
  rw [hlaw.2.1] at hL3
  rw [hue.1] at hL2
  have hlk := lookF (G := []) E
  have hLd := lookJ_data E 6
  have hLl : ((lookJ E 6).flatMap jobC).length = 24 := by rw [flat_len (f := jobC) (z := 4) (fun _ => rfl), lookJ_length]
  have hLn := lookJ_length E 6
  generalize lookJ E 6 = LK at *
  have hd1 : ∀ (X : List Job), (∀ j ∈ X, j.data.length ≤ 20) → ∀ j ∈ js ++ [q] ++ X ++ LK, j.data.length ≤ 100000 := by
    intro X hX j hj
    rcases List.mem_append.1 hj with hj | hj
    · rcases List.mem_append.1 hj with hj | hj
      · rcases List.mem_append.1 hj with hj | hj
        · have := hjd j hj; omega
        · rw [List.mem_singleton.1 hj, ← hqq]; simp
      · have := hX j hj; omega
    · rw [hLd j hj]; simp
  have hp1 := fun k v m σ => playZ (G := []) (js ++ [q] ++ [⟨1, E, A, B⟩, ⟨6, 0, n, []⟩] ++ LK) (by simp; omega) (hd1 _ (by simp; omega)) k v m σ
  have hp2 := fun k v m σ => playZ (G := []) (js ++ [q] ++ [] ++ LK) (by simp; omega) (hd1 _ (by simp)) k v m σ
  have hp3 := fun k v m σ => playZ (G := []) (js ++ [q] ++ [⟨1, E, A, B⟩] ++ LK) (by simp; omega) (hd1 _ (by simp; omega)) k v m σ
  have hr1 : (runU un0 (js ++ [q] ++ [⟨1, E, A, B⟩, ⟨6, 0, n, []⟩] ++ LK)).1 = ((runU un0 (js ++ [q])).1 ++ [(doR u ⟨1, E, A, B⟩).1, (doR (doR u ⟨1, E, A, B⟩).2 ⟨6, 0, n, []⟩).1]) ++ looks (doR (doR u ⟨1, E, A, B⟩).2 ⟨6, 0, n, []⟩).2 := by
    rw [run_append un0 (js ++ [q] ++ [(⟨1, E, A, B⟩ : Job), (⟨6, 0, n, []⟩ : Job)]), run_append un0 (js ++ [q]), hu]
    simp only [runU, hL1]
  have hr2 : (runU un0 (js ++ [q] ++ [] ++ LK)).1 = (runU un0 (js ++ [q])).1 ++ looks u := by
    rw [List.append_nil, run_append un0 (js ++ [q]), hu, hL2]
  have hr3 : (runU un0 (js ++ [q] ++ [⟨1, E, A, B⟩] ++ LK)).1 = ((runU un0 (js ++ [q])).1 ++ [(doR u ⟨1, E, A, B⟩).1]) ++ looks (doR u ⟨1, E, A, B⟩).2 := by
    rw [run_append un0 (js ++ [q] ++ [(⟨1, E, A, B⟩ : Job)]), run_append un0 (js ++ [q]), hu]
    simp only [runU, hL3]
  have hb1 := run_data un0_ok (js ++ [q] ++ [⟨1, E, A, B⟩, ⟨6, 0, n, []⟩] ++ LK)
  have hz1 := run_length un0 (js ++ [q] ++ [⟨1, E, A, B⟩, ⟨6, 0, n, []⟩] ++ LK)
  have hz2 := run_length un0 (js ++ [q] ++ [] ++ LK)
  have hz3 := run_length un0 (js ++ [q] ++ [⟨1, E, A, B⟩] ++ LK)
  have hk6 : ∀ u : Un, (looks u).length = 6 := fun u => by simp [looks]
  have h12 : n < (B.length : Int) + 8 → (runU un0 (js ++ [q] ++ [⟨1, E, A, B⟩, ⟨6, 0, n, []⟩] ++ LK)).1.drop ((runU un0 (js ++ [q] ++ [⟨1, E, A, B⟩, ⟨6, 0, n, []⟩] ++ LK)).1.length - 6) = (runU un0 (js ++ [q] ++ [] ++ LK)).1.drop ((runU un0 (js ++ [q] ++ [] ++ LK)).1.length - 6) := fun h => by
    rw [hr1, hr2, hlaw.2.2, if_pos h]
    have := drop_same ((runU un0 (js ++ [q])).1 ++ [(doR u ⟨1, E, A, B⟩).1, (doR (doR u ⟨1, E, A, B⟩).2 ⟨6, 0, n, []⟩).1]) (runU un0 (js ++ [q])).1 (looks u)
    rwa [hk6] at this
  have h13 : ¬ n < (B.length : Int) + 8 → (runU un0 (js ++ [q] ++ [⟨1, E, A, B⟩, ⟨6, 0, n, []⟩] ++ LK)).1.drop ((runU un0 (js ++ [q] ++ [⟨1, E, A, B⟩, ⟨6, 0, n, []⟩] ++ LK)).1.length - 6) = (runU un0 (js ++ [q] ++ [⟨1, E, A, B⟩] ++ LK)).1.drop ((runU un0 (js ++ [q] ++ [⟨1, E, A, B⟩] ++ LK)).1.length - 6) := fun h => by
    rw [hr1, hr3, hlaw.2.2, if_neg h]
    have := drop_same ((runU un0 (js ++ [q])).1 ++ [(doR u ⟨1, E, A, B⟩).1, (doR (doR u ⟨1, E, A, B⟩).2 ⟨6, 0, n, []⟩).1]) ((runU un0 (js ++ [q])).1 ++ [(doR u ⟨1, E, A, B⟩).1]) (looks (doR u ⟨1, E, A, B⟩).2)
    rwa [hk6] at this
  have hlen : ∀ X : List Job, (js ++ [q] ++ X ++ LK).length = js.length + 1 + X.length + 6 := fun X => by simp only [List.length_append, List.length_singleton, hLn]
  rw [hlen] at hz1 hz2 hz3
  clear hr1 hr2 hr3
  generalize (runU un0 (js ++ [q] ++ [⟨1, E, A, B⟩, ⟨6, 0, n, []⟩] ++ LK)).1 = R1 at *
  generalize (runU un0 (js ++ [q] ++ [] ++ LK)).1 = R2 at *
  generalize (runU un0 (js ++ [q] ++ [⟨1, E, A, B⟩] ++ LK)).1 = R3 at *
  have hs12 := fun h => sameTailF (G := []) R1 R2 6 (by omega) (by omega) (by simp at hz2; omega) (by simp at hz1; omega) (by simp at hz2; omega) (fun r hr => by have := hb1 r hr; omega) (h12 h)
  have hs13 := fun h => sameTailF (G := []) R1 R3 6 (by omega) (by omega) (by simp at hz3; omega) (by simp at hz1; omega) (by simp at hz3; omega) (fun r hr => by have := hb1 r hr; omega) (h13 h)
  obtain ⟨J, hJ⟩ : ∃ J, (js ++ [q]).flatMap jobC = J := ⟨_, rfl⟩
  have hJl : J.length = js.length * 4 + 4 := by rw [← hJ, flat_len (f := jobC) (z := 4) (fun _ => rfl)]; simp; omega
  have hJo : ∀ σ, okCells σ J = true := fun σ => by rw [← hJ]; exact okCells_jobs σ _
  have hJb : ∀ n, BelL n J := fun n => by rw [← hJ]; exact belL_jobs n _
  have hm : (js.length + 1) * 4 = js.length * 4 + 4 := by omega
  have hJt : List.take (js.length * 4 + 4) J = J := List.take_of_length_le (by omega)
  have hJe : js.flatMap jobC ++ [.int .i64 2, .int .i64 E, .int .i64 0, .sl false [] 0] = J := by rw [← hJ, ← hqq]; simp [jobC, numsD]
  simp only [hlen, List.flatMap_append (xs := js ++ [q] ++ _), List.flatMap_append (xs := js ++ [q]), hJ] at hp1 hp2 hp3
  have hq1 := fun k v m (σ : Store) hv hm (h : σ[k]? = some (some (.c (J ++ ([.int .i64 1, .int .i64 E, .int .i64 A, numsD .u8 B, .int .i64 6, .int .i64 0, .int .i64 n, .nsl] ++ LK.flatMap jobC))))) =>
    fc_view (view_lewS (lew_set (o' := .c (J ++ [(⟨1, E, A, B⟩ : Job), ⟨6, 0, n, []⟩].flatMap jobC ++ LK.flatMap jobC)) h (by simp [jobC, numsD]))) (hp1 k v m _ hv hm (List.getElem?_set_self (List.getElem?_eq_some_iff.1 h).1))
  have hw8 := wrap_i64 (n := (B.length : Int) + 8) (by omega) (by omega)
  refine fv_enter_v Try.func5 rfl rfl fun Q hQ => ?_
  repeat' first
    | refine jw_ret (hQ _ _ (.inr rfl) ⟨5, _, _, rfl, rfl, ?_⟩)
    | refine jw_ret (hQ _ _ (.inr rfl) ⟨_, rfl, ?_⟩)
    | refine jw_seq_k fun K hK => ?_
    | refine jw_block ?_
    | (refine jw_skip ?_; try simp)
    | (refine jw_exit ?_; try simp)
    | (refine jw_cond rfl (fun hc => ?_) (fun hc => ?_) <;> (try simp at hc) <;> (try (exfalso; first | omega | exact absurd hc (by assumption))))
    | ((fail_if_success (refine jw_c (id := 7) ?_)); (refine jw_c ?_; simp (maxSteps := 1000000) [Try.f5, hlj, show js.length + 1 ≤ 100 by omega, okCell, numsD]))
    | ((fail_if_success (refine jw_draw_j (id := 7) mixed (by kernel_rfl) ?_)); (refine jw_draw_j mixed (by kernel_rfl) ?_; simp (maxSteps := 1000000) [Try.f5, hlj, show js.length + 1 ≤ 100 by omega, okCell, numsD]))
    | (first | (apply hK; clear hK) | (clear hK; apply hK; clear hK) | (clear hK; clear hK; apply hK; clear hK) | (clear hK; clear hK; clear hK; apply hK; clear hK))
    | exact hQ _ _ (.inl rfl) ⟨5, _, _, rfl, rfl, rfl⟩
    | refine hQ _ _ (.inl rfl) ⟨5, _, _, rfl, rfl, ?_⟩
    | refine hQ _ _ (.inl rfl) ⟨_, rfl, ?_⟩
    | (refine jl_f0 (f := 8) rfl rfl rfl rfl rfl (hjF) (by simp [BelL, Bel]) ?_; rintro d0 g ⟨rfl, rfl⟩; simp (maxSteps := 1000000) [renOb, renL, renD, renD_flat, renL_flat, Try.f5, hlj, show js.length + 1 ≤ 100 by omega, okCell, numsD])
    | (refine jl_call (f := 11) rfl rfl rfl rfl rfl (hPa) (by simp [BelL, Bel]) ?_; rintro r rfl; simp (maxSteps := 1000000) [Try.f5, hlj, show js.length + 1 ≤ 100 by omega, okCell, numsD])
    | (refine jd_call (f := 11) rfl rfl rfl rfl rfl (hPa) (by simp [BelL, Bel]) ?_; simp (maxSteps := 1000000) [Try.f5, hlj, show js.length + 1 ≤ 100 by omega, okCell, numsD])
    | (refine jl_call (f := 11) rfl rfl rfl rfl rfl (hPd) (by simp [BelL, Bel]) ?_; rintro r rfl; simp (maxSteps := 1000000) [Try.f5, hlj, show js.length + 1 ≤ 100 by omega, okCell, numsD])
    | (refine jd_call (f := 11) rfl rfl rfl rfl rfl (hPd) (by simp [BelL, Bel]) ?_; simp (maxSteps := 1000000) [Try.f5, hlj, show js.length + 1 ≤ 100 by omega, okCell, numsD])
    | (refine jl_call (f := 12) rfl rfl rfl rfl rfl (ho) (by simp [BelL, Bel]) ?_; rintro r rfl; simp (maxSteps := 1000000) [Try.f5, hlj, show js.length + 1 ≤ 100 by omega, okCell, numsD])
    | (refine jd_call (f := 12) rfl rfl rfl rfl rfl (ho) (by simp [BelL, Bel]) ?_; simp (maxSteps := 1000000) [Try.f5, hlj, show js.length + 1 ≤ 100 by omega, okCell, numsD])
    | (refine jd_newc rfl rfl (by simp) ?_; simp (maxSteps := 1000000) [thD, thL, Try.f5, hlj, show js.length + 1 ≤ 100 by omega, okCell, numsD])
    | (refine okN_or ?_; simp (maxSteps := 1000000) [thD, thL, Try.f5, hlj, show js.length + 1 ≤ 100 by omega, okCell, numsD])
    | (refine okC_guard (fun hc => ?_) (fun hc => ?_) <;> (first | simp (maxSteps := 1000000) [hc, of_decide_eq_true hc, Try.f5, hlj, show js.length + 1 ≤ 100 by omega, okCell, numsD] | simp (maxSteps := 1000000) [hc, of_decide_eq_false hc, Try.f5, hlj, show js.length + 1 ≤ 100 by omega, okCell, numsD] | simp (maxSteps := 1000000) [hc, Try.f5, hlj, show js.length + 1 ≤ 100 by omega, okCell, numsD]) <;> (try simp at hc) <;> (try (exfalso; first | omega | exact absurd hc (by assumption))))
    | (refine okJ_guard (fun hc => ?_) (fun hc => ?_) <;> (first | simp (maxSteps := 1000000) [hc, of_decide_eq_true hc, Try.f5, hlj, show js.length + 1 ≤ 100 by omega, okCell, numsD] | simp (maxSteps := 1000000) [hc, of_decide_eq_false hc, Try.f5, hlj, show js.length + 1 ≤ 100 by omega, okCell, numsD] | simp (maxSteps := 1000000) [hc, Try.f5, hlj, show js.length + 1 ≤ 100 by omega, okCell, numsD]) <;> (try simp at hc) <;> (try (exfalso; first | omega | exact absurd hc (by assumption))))
    | (refine And.intro (by first | assumption | omega | (simp [BelL, Bel]; done) | (simp; omega)) ?_; try simp (maxSteps := 1000000) [Try.f5, hlj, show js.length + 1 ≤ 100 by omega, okCell, numsD])
    | (refine okC_or ?_; simp (maxSteps := 1000000) [Try.f5, hlj, show js.length + 1 ≤ 100 by omega, okCell, numsD])
  refine jw_view (view_lewS (σ0 := [some (.c J), some (.c (jobC ⟨1, E, A, B⟩)), some (.c (jobC ⟨2, E, 0, []⟩)), none]) (by simp [← hJe, jobC, numsD])) ?_
  (refine jw_view (view_frz 0 _ rfl (by simp [BelL, Bel, thL_flat, thD_flat, hJb, hJl, hm, hJt, jobC])) ?_; simp (maxSteps := 1000000) [thL, thD, thS, thOb, thL_flat, thD_flat, hJb, hJl, hm, hJt, jobC])
  (refine jw_view (view_frz 1 _ rfl (by simp [BelL, Bel, thL_flat, thD_flat, jobC, hJb])) ?_; simp (maxSteps := 1000000) [thL, thD, thS, thOb, thL_flat, thD_flat, jobC, hJb])
  (refine jw_view (view_frz 2 _ rfl (by simp [BelL, Bel, thL_flat, thD_flat, jobC, hJb])) ?_; simp (maxSteps := 1000000) [thL, thD, thS, thOb, thL_flat, thD_flat, jobC, hJb])
  by_cases hn : n < (B.length : Int) + 8
  · have hs := hs12 hn
    repeat' first
      | refine jw_seq_k fun K hK => ?_
      | refine jw_block ?_
      | (refine jw_skip ?_; try simp)
      | (refine jw_exit ?_; try simp)
      | (refine jw_cond rfl (fun hc => ?_) (fun hc => ?_) <;> (try simp at hc) <;> (try (exfalso; first | omega | exact absurd hc (by assumption))))
      | (refine jw_c ?_; simp (maxSteps := 1000000) [hw8, hn, hJl, hJo, hm, hLl, hLn, jobsD, rpsD, numsD, jobC, okCell, okCells_jobs, thS, thOb, show js.length + 1 ≤ 100 by omega])
      | (refine jw_draw_e (id := 7) [(1, 2), (6, 2), (9, 2), (10, 2)] mixed (by kernel_rfl) (by kernel_rfl) ?_; simp (maxSteps := 1000000) [hw8, hn, hJl, hJo, hm, hLl, hLn, jobsD, rpsD, numsD, jobC, okCell, okCells_jobs, thS, thOb, show js.length + 1 ≤ 100 by omega])
      | (refine jw_draw_e (id := 9) [(1, 2), (4, 2), (7, 2), (8, 2)] mixed (by kernel_rfl) (by kernel_rfl) ?_; simp (maxSteps := 1000000) [hw8, hn, hJl, hJo, hm, hLl, hLn, jobsD, rpsD, numsD, jobC, okCell, okCells_jobs, thS, thOb, show js.length + 1 ≤ 100 by omega])
      | (refine jw_draw_j mixed (by kernel_rfl) ?_; simp (maxSteps := 1000000) [hw8, hn, hJl, hJo, hm, hLl, hLn, jobsD, rpsD, numsD, jobC, okCell, okCells_jobs, thS, thOb, show js.length + 1 ≤ 100 by omega])
      | (first | (apply hK; clear hK) | (clear hK; apply hK; clear hK) | (clear hK; clear hK; apply hK; clear hK) | (clear hK; clear hK; clear hK; apply hK; clear hK))
      | (refine jl_call (f := 13) rfl rfl rfl rfl rfl (hlk) (by simp [BelL, Bel]) ?_; rintro r rfl; simp (maxSteps := 1000000) [hw8, hn, hJl, hJo, hm, hLl, hLn, jobsD, rpsD, numsD, jobC, okCell, okCells_jobs, thS, thOb, show js.length + 1 ≤ 100 by omega])
      | (refine jd_call (f := 13) rfl rfl rfl rfl rfl (hlk) (by simp [BelL, Bel]) ?_; simp (maxSteps := 1000000) [hw8, hn, hJl, hJo, hm, hLl, hLn, jobsD, rpsD, numsD, jobC, okCell, okCells_jobs, thS, thOb, show js.length + 1 ≤ 100 by omega])
      | (refine js_call (f := 13) rfl rfl rfl rfl rfl (hlk) (by simp [BelL, Bel]) rfl ?_; simp (maxSteps := 1000000) [hw8, hn, hJl, hJo, hm, hLl, hLn, jobsD, rpsD, numsD, jobC, okCell, okCells_jobs, thS, thOb, show js.length + 1 ≤ 100 by omega])
      | (refine js_fc (f := 9) rfl rfl rfl rfl rfl rfl (hq1 _ _ _ _ (by simp; omega) (by simp) (by simp [jobC, numsD])) ?_; simp (maxSteps := 1000000) [hw8, hn, hJl, hJo, hm, hLl, hLn, jobsD, rpsD, numsD, jobC, okCell, okCells_jobs, thS, thOb, show js.length + 1 ≤ 100 by omega])
      | (refine jl_fc (f := 9) rfl rfl rfl rfl rfl (hp2 _ _ _ _ (by simp; omega) (by simp) (by simp [jobC, numsD])) ?_; rintro r σ' ⟨rfl, rfl⟩; simp (maxSteps := 1000000) [hw8, hn, hJl, hJo, hm, hLl, hLn, jobsD, rpsD, numsD, jobC, okCell, okCells_jobs, thS, thOb, show js.length + 1 ≤ 100 by omega])
      | (refine js_fc (f := 9) rfl rfl rfl rfl rfl rfl (hp3 _ _ _ _ (by simp; omega) (by simp) (by simp [jobC, numsD])) ?_; simp (maxSteps := 1000000) [hw8, hn, hJl, hJo, hm, hLl, hLn, jobsD, rpsD, numsD, jobC, okCell, okCells_jobs, thS, thOb, show js.length + 1 ≤ 100 by omega])
      | (refine jl_call (f := 14) rfl rfl rfl rfl rfl (hs) (by simp [BelL, Bel]) ?_; rintro r rfl; simp (maxSteps := 1000000) [hw8, hn, hJl, hJo, hm, hLl, hLn, jobsD, rpsD, numsD, jobC, okCell, okCells_jobs, thS, thOb, show js.length + 1 ≤ 100 by omega])
      | (refine jd_call (f := 14) rfl rfl rfl rfl rfl (hs) (by simp [BelL, Bel]) ?_; simp (maxSteps := 1000000) [hw8, hn, hJl, hJo, hm, hLl, hLn, jobsD, rpsD, numsD, jobC, okCell, okCells_jobs, thS, thOb, show js.length + 1 ≤ 100 by omega])
      | (refine js_call (f := 14) rfl rfl rfl rfl rfl (hs) (by simp [BelL, Bel]) rfl ?_; simp (maxSteps := 1000000) [hw8, hn, hJl, hJo, hm, hLl, hLn, jobsD, rpsD, numsD, jobC, okCell, okCells_jobs, thS, thOb, show js.length + 1 ≤ 100 by omega])
      | (refine jw_ret (hQ _ _ (.inr rfl) (ret_ok 0 ?_ (by first | omega | simp))); simp (maxSteps := 1000000) [okRet, BelL, Bel, BelS, BelOb, hw8, hn, hJl, hJo, hm, hLl, hLn, jobsD, rpsD, numsD, jobC, okCell, okCells_jobs, thS, thOb, show js.length + 1 ≤ 100 by omega])
      | (refine hQ _ _ (.inl rfl) (ret_ok 0 ?_ (by first | omega | simp)); simp (maxSteps := 1000000) [okRet, BelL, Bel, BelS, BelOb, hw8, hn, hJl, hJo, hm, hLl, hLn, jobsD, rpsD, numsD, jobC, okCell, okCells_jobs, thS, thOb, show js.length + 1 ≤ 100 by omega])
      | (refine jd_newc rfl rfl (by simp) ?_; simp (maxSteps := 1000000) [thD, thL, hw8, hn, hJl, hJo, hm, hLl, hLn, jobsD, rpsD, numsD, jobC, okCell, okCells_jobs, thS, thOb, show js.length + 1 ≤ 100 by omega])
      | (refine okN_or ?_; simp (maxSteps := 1000000) [thD, thL, hw8, hn, hJl, hJo, hm, hLl, hLn, jobsD, rpsD, numsD, jobC, okCell, okCells_jobs, thS, thOb, show js.length + 1 ≤ 100 by omega])
      | (refine js_newc rfl rfl (by simp) rfl ?_; simp (maxSteps := 1000000) [hw8, hn, hJl, hJo, hm, hLl, hLn, jobsD, rpsD, numsD, jobC, okCell, okCells_jobs, thS, thOb, show js.length + 1 ≤ 100 by omega])
      | (refine okM_or ?_; simp (maxSteps := 1000000) [hw8, hn, hJl, hJo, hm, hLl, hLn, jobsD, rpsD, numsD, jobC, okCell, okCells_jobs, thS, thOb, show js.length + 1 ≤ 100 by omega])
      | (refine okS_or ?_; simp (maxSteps := 1000000) [hw8, hn, hJl, hJo, hm, hLl, hLn, jobsD, rpsD, numsD, jobC, okCell, okCells_jobs, thS, thOb, show js.length + 1 ≤ 100 by omega])
      | (refine okS_guard (fun hc => ?_) (fun hc => ?_) <;> (first | simp (maxSteps := 1000000) [hc, of_decide_eq_true hc, hw8, hn, hJl, hJo, hm, hLl, hLn, jobsD, rpsD, numsD, jobC, okCell, okCells_jobs, thS, thOb, show js.length + 1 ≤ 100 by omega] | simp (maxSteps := 1000000) [hc, of_decide_eq_false hc, hw8, hn, hJl, hJo, hm, hLl, hLn, jobsD, rpsD, numsD, jobC, okCell, okCells_jobs, thS, thOb, show js.length + 1 ≤ 100 by omega] | simp (maxSteps := 1000000) [hc, hw8, hn, hJl, hJo, hm, hLl, hLn, jobsD, rpsD, numsD, jobC, okCell, okCells_jobs, thS, thOb, show js.length + 1 ≤ 100 by omega]) <;> (try simp at hc) <;> (try (exfalso; first | omega | exact absurd hc (by assumption))))
      | (refine okC_guard (fun hc => ?_) (fun hc => ?_) <;> (first | simp (maxSteps := 1000000) [hc, of_decide_eq_true hc, hw8, hn, hJl, hJo, hm, hLl, hLn, jobsD, rpsD, numsD, jobC, okCell, okCells_jobs, thS, thOb, show js.length + 1 ≤ 100 by omega] | simp (maxSteps := 1000000) [hc, of_decide_eq_false hc, hw8, hn, hJl, hJo, hm, hLl, hLn, jobsD, rpsD, numsD, jobC, okCell, okCells_jobs, thS, thOb, show js.length + 1 ≤ 100 by omega] | simp (maxSteps := 1000000) [hc, hw8, hn, hJl, hJo, hm, hLl, hLn, jobsD, rpsD, numsD, jobC, okCell, okCells_jobs, thS, thOb, show js.length + 1 ≤ 100 by omega]) <;> (try simp at hc) <;> (try (exfalso; first | omega | exact absurd hc (by assumption))))
      | (refine okJ_guard (fun hc => ?_) (fun hc => ?_) <;> (first | simp (maxSteps := 1000000) [hc, of_decide_eq_true hc, hw8, hn, hJl, hJo, hm, hLl, hLn, jobsD, rpsD, numsD, jobC, okCell, okCells_jobs, thS, thOb, show js.length + 1 ≤ 100 by omega] | simp (maxSteps := 1000000) [hc, of_decide_eq_false hc, hw8, hn, hJl, hJo, hm, hLl, hLn, jobsD, rpsD, numsD, jobC, okCell, okCells_jobs, thS, thOb, show js.length + 1 ≤ 100 by omega] | simp (maxSteps := 1000000) [hc, hw8, hn, hJl, hJo, hm, hLl, hLn, jobsD, rpsD, numsD, jobC, okCell, okCells_jobs, thS, thOb, show js.length + 1 ≤ 100 by omega]) <;> (try simp at hc) <;> (try (exfalso; first | omega | exact absurd hc (by assumption))))
      | (refine And.intro (by first | assumption | omega | (simp [BelL, Bel]; done) | (simp; omega)) ?_; try simp (maxSteps := 1000000) [hw8, hn, hJl, hJo, hm, hLl, hLn, jobsD, rpsD, numsD, jobC, okCell, okCells_jobs, thS, thOb, show js.length + 1 ≤ 100 by omega])
      | (refine okC_or ?_; simp (maxSteps := 1000000) [hw8, hn, hJl, hJo, hm, hLl, hLn, jobsD, rpsD, numsD, jobC, okCell, okCells_jobs, thS, thOb, show js.length + 1 ≤ 100 by omega])
  · have hs := hs13 hn
    repeat' first
      | refine jw_seq_k fun K hK => ?_
      | refine jw_block ?_
      | (refine jw_skip ?_; try simp)
      | (refine jw_exit ?_; try simp)
      | (refine jw_cond rfl (fun hc => ?_) (fun hc => ?_) <;> (try simp at hc) <;> (try (exfalso; first | omega | exact absurd hc (by assumption))))
      | (refine jw_c ?_; simp (maxSteps := 1000000) [hw8, hn, hJl, hJo, hm, hLl, hLn, jobsD, rpsD, numsD, jobC, okCell, okCells_jobs, thS, thOb, show js.length + 1 ≤ 100 by omega])
      | (refine jw_draw_e (id := 7) [(1, 2), (6, 2), (9, 2), (10, 2)] mixed (by kernel_rfl) (by kernel_rfl) ?_; simp (maxSteps := 1000000) [hw8, hn, hJl, hJo, hm, hLl, hLn, jobsD, rpsD, numsD, jobC, okCell, okCells_jobs, thS, thOb, show js.length + 1 ≤ 100 by omega])
      | (refine jw_draw_e (id := 9) [(1, 2), (4, 2), (7, 2), (8, 2)] mixed (by kernel_rfl) (by kernel_rfl) ?_; simp (maxSteps := 1000000) [hw8, hn, hJl, hJo, hm, hLl, hLn, jobsD, rpsD, numsD, jobC, okCell, okCells_jobs, thS, thOb, show js.length + 1 ≤ 100 by omega])
      | (refine jw_draw_j mixed (by kernel_rfl) ?_; simp (maxSteps := 1000000) [hw8, hn, hJl, hJo, hm, hLl, hLn, jobsD, rpsD, numsD, jobC, okCell, okCells_jobs, thS, thOb, show js.length + 1 ≤ 100 by omega])
      | (first | (apply hK; clear hK) | (clear hK; apply hK; clear hK) | (clear hK; clear hK; apply hK; clear hK) | (clear hK; clear hK; clear hK; apply hK; clear hK))
      | (refine jl_call (f := 13) rfl rfl rfl rfl rfl (hlk) (by simp [BelL, Bel]) ?_; rintro r rfl; simp (maxSteps := 1000000) [hw8, hn, hJl, hJo, hm, hLl, hLn, jobsD, rpsD, numsD, jobC, okCell, okCells_jobs, thS, thOb, show js.length + 1 ≤ 100 by omega])
      | (refine jd_call (f := 13) rfl rfl rfl rfl rfl (hlk) (by simp [BelL, Bel]) ?_; simp (maxSteps := 1000000) [hw8, hn, hJl, hJo, hm, hLl, hLn, jobsD, rpsD, numsD, jobC, okCell, okCells_jobs, thS, thOb, show js.length + 1 ≤ 100 by omega])
      | (refine js_call (f := 13) rfl rfl rfl rfl rfl (hlk) (by simp [BelL, Bel]) rfl ?_; simp (maxSteps := 1000000) [hw8, hn, hJl, hJo, hm, hLl, hLn, jobsD, rpsD, numsD, jobC, okCell, okCells_jobs, thS, thOb, show js.length + 1 ≤ 100 by omega])
      | (refine js_fc (f := 9) rfl rfl rfl rfl rfl rfl (hq1 _ _ _ _ (by simp; omega) (by simp) (by simp [jobC, numsD])) ?_; simp (maxSteps := 1000000) [hw8, hn, hJl, hJo, hm, hLl, hLn, jobsD, rpsD, numsD, jobC, okCell, okCells_jobs, thS, thOb, show js.length + 1 ≤ 100 by omega])
      | (refine jl_fc (f := 9) rfl rfl rfl rfl rfl (hp2 _ _ _ _ (by simp; omega) (by simp) (by simp [jobC, numsD])) ?_; rintro r σ' ⟨rfl, rfl⟩; simp (maxSteps := 1000000) [hw8, hn, hJl, hJo, hm, hLl, hLn, jobsD, rpsD, numsD, jobC, okCell, okCells_jobs, thS, thOb, show js.length + 1 ≤ 100 by omega])
      | (refine js_fc (f := 9) rfl rfl rfl rfl rfl rfl (hp3 _ _ _ _ (by simp; omega) (by simp) (by simp [jobC, numsD])) ?_; simp (maxSteps := 1000000) [hw8, hn, hJl, hJo, hm, hLl, hLn, jobsD, rpsD, numsD, jobC, okCell, okCells_jobs, thS, thOb, show js.length + 1 ≤ 100 by omega])
      | (refine jl_call (f := 14) rfl rfl rfl rfl rfl (hs) (by simp [BelL, Bel]) ?_; rintro r rfl; simp (maxSteps := 1000000) [hw8, hn, hJl, hJo, hm, hLl, hLn, jobsD, rpsD, numsD, jobC, okCell, okCells_jobs, thS, thOb, show js.length + 1 ≤ 100 by omega])
      | (refine jd_call (f := 14) rfl rfl rfl rfl rfl (hs) (by simp [BelL, Bel]) ?_; simp (maxSteps := 1000000) [hw8, hn, hJl, hJo, hm, hLl, hLn, jobsD, rpsD, numsD, jobC, okCell, okCells_jobs, thS, thOb, show js.length + 1 ≤ 100 by omega])
      | (refine js_call (f := 14) rfl rfl rfl rfl rfl (hs) (by simp [BelL, Bel]) rfl ?_; simp (maxSteps := 1000000) [hw8, hn, hJl, hJo, hm, hLl, hLn, jobsD, rpsD, numsD, jobC, okCell, okCells_jobs, thS, thOb, show js.length + 1 ≤ 100 by omega])
      | (refine jw_ret (hQ _ _ (.inr rfl) (ret_ok 0 ?_ (by first | omega | simp))); simp (maxSteps := 1000000) [okRet, BelL, Bel, BelS, BelOb, hw8, hn, hJl, hJo, hm, hLl, hLn, jobsD, rpsD, numsD, jobC, okCell, okCells_jobs, thS, thOb, show js.length + 1 ≤ 100 by omega])
      | (refine hQ _ _ (.inl rfl) (ret_ok 0 ?_ (by first | omega | simp)); simp (maxSteps := 1000000) [okRet, BelL, Bel, BelS, BelOb, hw8, hn, hJl, hJo, hm, hLl, hLn, jobsD, rpsD, numsD, jobC, okCell, okCells_jobs, thS, thOb, show js.length + 1 ≤ 100 by omega])
      | (refine jd_newc rfl rfl (by simp) ?_; simp (maxSteps := 1000000) [thD, thL, hw8, hn, hJl, hJo, hm, hLl, hLn, jobsD, rpsD, numsD, jobC, okCell, okCells_jobs, thS, thOb, show js.length + 1 ≤ 100 by omega])
      | (refine okN_or ?_; simp (maxSteps := 1000000) [thD, thL, hw8, hn, hJl, hJo, hm, hLl, hLn, jobsD, rpsD, numsD, jobC, okCell, okCells_jobs, thS, thOb, show js.length + 1 ≤ 100 by omega])
      | (refine js_newc rfl rfl (by simp) rfl ?_; simp (maxSteps := 1000000) [hw8, hn, hJl, hJo, hm, hLl, hLn, jobsD, rpsD, numsD, jobC, okCell, okCells_jobs, thS, thOb, show js.length + 1 ≤ 100 by omega])
      | (refine okM_or ?_; simp (maxSteps := 1000000) [hw8, hn, hJl, hJo, hm, hLl, hLn, jobsD, rpsD, numsD, jobC, okCell, okCells_jobs, thS, thOb, show js.length + 1 ≤ 100 by omega])
      | (refine okS_or ?_; simp (maxSteps := 1000000) [hw8, hn, hJl, hJo, hm, hLl, hLn, jobsD, rpsD, numsD, jobC, okCell, okCells_jobs, thS, thOb, show js.length + 1 ≤ 100 by omega])
      | (refine okS_guard (fun hc => ?_) (fun hc => ?_) <;> (first | simp (maxSteps := 1000000) [hc, of_decide_eq_true hc, hw8, hn, hJl, hJo, hm, hLl, hLn, jobsD, rpsD, numsD, jobC, okCell, okCells_jobs, thS, thOb, show js.length + 1 ≤ 100 by omega] | simp (maxSteps := 1000000) [hc, of_decide_eq_false hc, hw8, hn, hJl, hJo, hm, hLl, hLn, jobsD, rpsD, numsD, jobC, okCell, okCells_jobs, thS, thOb, show js.length + 1 ≤ 100 by omega] | simp (maxSteps := 1000000) [hc, hw8, hn, hJl, hJo, hm, hLl, hLn, jobsD, rpsD, numsD, jobC, okCell, okCells_jobs, thS, thOb, show js.length + 1 ≤ 100 by omega]) <;> (try simp at hc) <;> (try (exfalso; first | omega | exact absurd hc (by assumption))))
      | (refine okC_guard (fun hc => ?_) (fun hc => ?_) <;> (first | simp (maxSteps := 1000000) [hc, of_decide_eq_true hc, hw8, hn, hJl, hJo, hm, hLl, hLn, jobsD, rpsD, numsD, jobC, okCell, okCells_jobs, thS, thOb, show js.length + 1 ≤ 100 by omega] | simp (maxSteps := 1000000) [hc, of_decide_eq_false hc, hw8, hn, hJl, hJo, hm, hLl, hLn, jobsD, rpsD, numsD, jobC, okCell, okCells_jobs, thS, thOb, show js.length + 1 ≤ 100 by omega] | simp (maxSteps := 1000000) [hc, hw8, hn, hJl, hJo, hm, hLl, hLn, jobsD, rpsD, numsD, jobC, okCell, okCells_jobs, thS, thOb, show js.length + 1 ≤ 100 by omega]) <;> (try simp at hc) <;> (try (exfalso; first | omega | exact absurd hc (by assumption))))
      | (refine okJ_guard (fun hc => ?_) (fun hc => ?_) <;> (first | simp (maxSteps := 1000000) [hc, of_decide_eq_true hc, hw8, hn, hJl, hJo, hm, hLl, hLn, jobsD, rpsD, numsD, jobC, okCell, okCells_jobs, thS, thOb, show js.length + 1 ≤ 100 by omega] | simp (maxSteps := 1000000) [hc, of_decide_eq_false hc, hw8, hn, hJl, hJo, hm, hLl, hLn, jobsD, rpsD, numsD, jobC, okCell, okCells_jobs, thS, thOb, show js.length + 1 ≤ 100 by omega] | simp (maxSteps := 1000000) [hc, hw8, hn, hJl, hJo, hm, hLl, hLn, jobsD, rpsD, numsD, jobC, okCell, okCells_jobs, thS, thOb, show js.length + 1 ≤ 100 by omega]) <;> (try simp at hc) <;> (try (exfalso; first | omega | exact absurd hc (by assumption))))
      | (refine And.intro (by first | assumption | omega | (simp [BelL, Bel]; done) | (simp; omega)) ?_; try simp (maxSteps := 1000000) [hw8, hn, hJl, hJo, hm, hLl, hLn, jobsD, rpsD, numsD, jobC, okCell, okCells_jobs, thS, thOb, show js.length + 1 ≤ 100 by omega])
      | (refine okC_or ?_; simp (maxSteps := 1000000) [hw8, hn, hJl, hJo, hm, hLl, hLn, jobsD, rpsD, numsD, jobC, okCell, okCells_jobs, thS, thOb, show js.length + 1 ≤ 100 by omega])
theorem unitTorn (ls : List (List D)) (hr : Vm.Rows (Parts TaskP) ls) (hz : ls.length * 48 ≤ 140737488351232) (_ : ls.length ≤ 9223372036854775807) (a : Int) (_ : (Lit.int .i64 a).wf = true)
    (b : List Int) (_ : ∀ n ∈ b, (Lit.int .u8 n).wf = true) (hb : b.length * 1 ≤ 140737488351232) (_ : b.length ≤ 9223372036854775807) (dn : Int) (_ : (Lit.int .i64 dn).wf = true) :
    FV Try.prog [] 5 [.sl false ls.flatten ls.length, .int .i64 a, numsD .u8 b, .int .i64 dn] (fun r => r = .bool true) := by
  obtain ⟨l, h1, h2, h3⟩ := tasks_of hr
  rw [h2, h3]
  exact unitTornW l (by omega) h1 a b (by omega) dn
end Go.Proofs.Ytkjliaapdjapmaa
