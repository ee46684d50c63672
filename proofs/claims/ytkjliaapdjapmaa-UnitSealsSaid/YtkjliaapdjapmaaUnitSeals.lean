/- UnitSeals: the law and the walk. -/
import Derived.Test.YtkjliaapdjapmaaUnitMore
set_option linter.unusedVariables false
set_option linter.unusedSimpArgs false
set_option maxRecDepth 20000
set_option maxHeartbeats 20000000
namespace Go.Proofs.Ytkjliaapdjapmaa
open Go Go.Vm Go.Proofs

/-- The late jobs: from an epoch that is over. -/
def lateJ (N : Int) (t : Task) : Job := ⟨1 + t.kind % 5, t.epoch % N, t.addr % 6, t.data.take 10⟩
theorem late_ok {N : Int} (hN : 0 < N) (t : Task) : (1 ≤ (lateJ N t).kind ∧ (lateJ N t).kind ≤ 5) ∧ (lateJ N t).epoch < N := by
  have := Int.emod_nonneg t.kind (show (5 : Int) ≠ 0 by omega)
  have := Int.emod_lt_of_pos t.kind (show (0 : Int) < 5 by omega)
  have := Int.emod_lt_of_pos t.epoch hN
  unfold lateJ
  dsimp only
  omega
/-- The replies: those to the first jobs, sealed for the late ones, then what the slots tell. -/
theorem seals_law (js late : List Job) (E N : Int) (he : (runU un0 js).2.epoch = E) (hN : E < N ∧ N ≤ 1000000) (hl : ∀ j ∈ late, (1 ≤ j.kind ∧ j.kind ≤ 5) ∧ j.epoch < N) :
    ∃ rs : List Rp, ∃ L : List Rp, rs.length = js.length + 1 ∧ L.length = 6 ∧
      (runU un0 (js ++ [⟨5, N, 0, []⟩] ++ lookJ N 6)).1 = rs ++ L ∧ (runU un0 (js ++ [⟨5, N, 0, []⟩] ++ late ++ lookJ N 6)).1 = rs ++ late.map (fun _ => ({ code := 18 } : Rp)) ++ L := by
  have hs := do_seal (runU un0 js).2 N 0 [] (by omega)
  have hu : (runU un0 (js ++ [⟨5, N, 0, []⟩])).2 = ⟨(runU un0 js).2.slots, N, 0⟩ := by
    rw [run_append]
    simp only [runU, hs]
  have hlt := run_late (u := ⟨(runU un0 js).2.slots, N, 0⟩) rfl late hl
  refine ⟨(runU un0 (js ++ [⟨5, N, 0, []⟩])).1, looks ⟨(runU un0 js).2.slots, N, 0⟩, by simp, by simp [looks], ?_, ?_⟩
  · rw [run_append, hu]
    exact congrArg _ (run_looks _)
  · rw [run_append, run_append, hu, hlt]
    exact congrArg _ (run_looks ⟨(runU un0 js).2.slots, N, 0⟩)

theorem late_take (N : Int) (l : List Task) {i : Nat} (hi : i < l.length) : (l.take (i + 1)).map (lateJ N) = (l.take i).map (lateJ N) ++ [lateJ N l[i]] := by
  rw [List.take_succ_eq_append_getElem hi, List.map_append]; rfl
def lateC (N : Int) (l : List Task) (i : Nat) : List D := ((l.take i).map (lateJ N)).flatMap jobC
theorem lateC_succ (N : Int) (l : List Task) {i : Nat} (hi : i < l.length) : lateC N l (i + 1) = lateC N l i ++ jobC (lateJ N l[i]) := by
  unfold lateC; rw [late_take N l hi, List.flatMap_append]; simp
theorem lateC_len (N : Int) (l : List Task) {i : Nat} (hi : i ≤ l.length) : (lateC N l i).length = i * 4 := by
  unfold lateC; rw [flat_len (f := jobC) (z := 4) (fun _ => rfl)]; simp; omega
@[simp] theorem lateC_ok (σ : Store) (N : Int) (l : List Task) (i : Nat) : okCells σ (lateC N l i) = true := okCells_jobs σ _
@[simp] theorem lateC_bel (n : Nat) (N : Int) (l : List Task) (i : Nat) : BelL n (lateC N l i) := belL_jobs n _
@[simp] theorem lateC_zero (N : Int) (l : List Task) : lateC N l 0 = [] := rfl
theorem unitSealsW (l : List Task) (hl : l.length ≤ 140737488351232) (hd : ∀ t ∈ l, t.data.length ≤ 140737488351232) (late : List Task) (hl2 : late.length ≤ 140737488351232) (hd2 : ∀ t ∈ late, t.data.length ≤ 140737488351232) (up : Int) :
    FV Try.prog [] 4 [tasksD l, tasksD late, .int .i64 up] (fun r => r = .bool true) := by
  have a0 := Int.emod_nonneg up (show (5 : Int) ≠ 0 by omega)
  have a1 := Int.emod_lt_of_pos up (show (0 : Int) < 5 by omega)
  have hPu := pickedG (G := []) up 5 (by omega) (by omega)
  generalize up % 5 = p at *
  obtain ⟨hep, hlow⟩ := behind l 30 (by omega)
  have hepb := jobs_epoch 0 (l.take 30)
  have hjd := jobs_data 0 (l.take 30)
  have hjl : (jobsR 0 (l.take 30)).1.length ≤ 30 := by simp; omega
  have hjF := jobsC (G := []) l hl (fun t ht => by have := hd t ht; omega) 30 (by omega)
  have hlj := flat_len (f := jobC) (z := 4) (fun _ => rfl) (jobsR 0 (l.take 30)).1
  have hE0 : 0 ≤ (jobsR 0 (l.take 30)).2 ∧ (jobsR 0 (l.take 30)).2 ≤ 60 := by
    have : (l.take 30).length ≤ 30 := by simp; omega
    omega
  clear hepb
  generalize (jobsR 0 (l.take 30)).1 = js at *
  generalize (jobsR 0 (l.take 30)).2 = E at *
  have hwE := wrap_i64 (n := E + 1) (by omega) (by omega)
  have hwN := wrap_i64 (n := E + 1 + p) (by omega) (by omega)
  obtain ⟨N, hN⟩ : ∃ N, E + 1 + p = N := ⟨_, rfl⟩
  rw [hN] at hwN
  obtain ⟨M, hm⟩ : ∃ M, js.length + 1 = M := ⟨_, rfl⟩
  obtain ⟨LJ, hLJ⟩ : ∃ LJ, (late.take 12).map (lateJ N) = LJ := ⟨_, rfl⟩
  have hLJl : LJ.length = min 12 late.length := by rw [← hLJ]; simp
  have hLJd : ∀ j ∈ LJ, j.data.length ≤ 10 := by
    intro j hj
    rw [← hLJ] at hj
    obtain ⟨t, _, rfl⟩ := List.mem_map.1 hj
    unfold lateJ; simp; omega
  obtain ⟨rs, L, hrs, hL, hAl, hBl⟩ := seals_law js LJ E N hep (by omega) (fun j hj => by
    rw [← hLJ] at hj
    obtain ⟨t, _, rfl⟩ := List.mem_map.1 hj
    exact late_ok (by omega) t)
  have hlk := lookF (G := []) N
  have hLd := lookJ_data N 6
  have hLl : ((lookJ N 6).flatMap jobC).length = 24 := by rw [flat_len (f := jobC) (z := 4) (fun _ => rfl), lookJ_length]
  have hLn := lookJ_length N 6
  generalize lookJ N 6 = LK at *
  have hd1 : ∀ (X : List Job), (∀ j ∈ X, j.data.length ≤ 20) → ∀ j ∈ js ++ [(⟨5, N, 0, []⟩ : Job)] ++ X ++ LK, j.data.length ≤ 100000 := by
    intro X hX j hj
    rcases List.mem_append.1 hj with hj | hj
    · rcases List.mem_append.1 hj with hj | hj
      · rcases List.mem_append.1 hj with hj | hj
        · have := hjd j hj; omega
        · rw [List.mem_singleton.1 hj]; simp
      · have := hX j hj; omega
    · rw [hLd j hj]; simp
  have hp1 := fun k v n σ => playZ (G := []) (js ++ [(⟨5, N, 0, []⟩ : Job)] ++ LK) (by simp; omega) (by simpa using hd1 [] (by simp)) k v n σ
  have hp2 := fun k v n σ => playZ (G := []) (js ++ [(⟨5, N, 0, []⟩ : Job)] ++ LJ ++ LK) (by simp; omega) (hd1 LJ (fun j hj => by have := hLJd j hj; omega)) k v n σ
  have hb1 := run_data un0_ok (js ++ [(⟨5, N, 0, []⟩ : Job)] ++ LK)
  rw [hAl] at hp1 hb1
  rw [hBl] at hp2
  have hs := sameTailF (G := []) (rs ++ L) (rs ++ LJ.map (fun _ => ({ code := 18 } : Rp)) ++ L) 6 (by omega) (by simp; omega) (by simp; omega) (by simp; omega) (by simp; omega) (fun r hr => by have := hb1 r hr; omega) (by
    have := drop_same rs (rs ++ LJ.map (fun _ => ({ code := 18 } : Rp))) L
    rwa [hL] at this)
  have hWl : (rs ++ LJ.map (fun _ => ({ code := 18 } : Rp)) ++ L).length = M + LJ.length + 6 := by simp [hL]; omega
  have hW0 : ((rs ++ LJ.map (fun _ => ({ code := 18 } : Rp)) ++ L).flatMap rpC).length = (M + LJ.length) * 4 + 24 := by rw [flat_len (f := rpC) (z := 4) (fun _ => rfl), hWl]; omega
  have hW2 : ∀ a : Nat, a < LJ.length → ∃ X, ((rs ++ LJ.map (fun _ => ({ code := 18 } : Rp)) ++ L).flatMap rpC).drop ((M + a) * 4) = rpC { code := 18 } ++ X := fun a ha => by
    have h := flat_drop (f := rpC) (z := 4) (fun _ => rfl) (rs ++ LJ.map (fun _ => ({ code := 18 } : Rp)) ++ L) (M + a) (by rw [hWl]; omega)
    have e : (rs ++ LJ.map (fun _ => ({ code := 18 } : Rp)) ++ L)[M + a]'(by rw [hWl]; omega) = { code := 18 } := by
      rw [List.getElem_append_left (by simp; omega), List.getElem_append_right (by omega)]
      simp
    rw [e] at h
    exact ⟨_, h⟩
  generalize rs ++ LJ.map (fun _ => ({ code := 18 } : Rp)) ++ L = R2 at *
  generalize rs ++ L = R1 at *
  obtain ⟨J, hJ⟩ : ∃ J, (js ++ [(⟨5, N, 0, []⟩ : Job)]).flatMap jobC = J := ⟨_, rfl⟩
  have hJl : J.length = M * 4 := by rw [← hJ, flat_len (f := jobC) (z := 4) (fun _ => rfl)]; simp; omega
  have hJo : ∀ σ, okCells σ J = true := fun σ => by rw [← hJ]; exact okCells_jobs σ _
  have hJb : ∀ n, BelL n J := fun n => by rw [← hJ]; exact belL_jobs n _
  have hm4 : js.length * 4 + 4 = M * 4 := by omega
  have hJt : List.take (M * 4) J = J := List.take_of_length_le (by omega)
  have hJe : js.flatMap jobC ++ [.int .i64 5, .int .i64 N, .int .i64 0, .sl false [] 0] = J := by rw [← hJ]; simp [jobC, numsD]
  rw [List.flatMap_append, hJ] at hp1
  rw [List.flatMap_append, List.flatMap_append (xs := js ++ _), hJ] at hp2
  have hm1 : M ≤ 31 := by omega
  obtain ⟨q, hq⟩ : ∃ q, M + LJ.length = q := ⟨_, rfl⟩
  obtain ⟨J2, hJ2⟩ : ∃ J2, J ++ LJ.flatMap jobC = J2 := ⟨_, rfl⟩
  have hJ2l : J2.length = q * 4 := by rw [← hJ2, List.length_append, flat_len (f := jobC) (z := 4) (fun _ => rfl)]; omega
  have hJ2o : ∀ σ, okCells σ J2 = true := fun σ => by rw [← hJ2]; simp [hJo]
  have hJ2b : ∀ n, BelL n J2 := fun n => by rw [← hJ2]; simp [hJb]
  have hJ2t : List.take (q * 4) J2 = J2 := List.take_of_length_le (by omega)
  have hq1 : q ≤ 43 := by omega
  have hwq := wrap_i64 (n := (q : Int)) (by omega) (by omega)
  have hwq6 := wrap_i64 (n := (q : Int) + 6) (by omega) (by omega)
  rw [hJ2] at hp2
  rw [hq] at hW0 hWl
  have hsR : rpsD R2 = .sl false (R2.flatMap rpC) (q + 6) := by unfold rpsD; rw [hWl]
  rw [hsR] at hs
  refine fv_enter_v Try.func4 rfl rfl fun Q hQ => ?_
  repeat' first
    | refine jw_ret (hQ _ _ (.inr rfl) ⟨5, _, _, rfl, rfl, ?_⟩)
    | refine jw_ret (hQ _ _ (.inr rfl) ⟨_, rfl, ?_⟩)
    | refine jw_seq_k fun K hK => ?_
    | refine jw_block ?_
    | (refine jw_skip ?_; try simp)
    | (refine jw_exit ?_; try simp)
    | (refine jw_cond rfl (fun hc => ?_) (fun hc => ?_) <;> (try simp at hc) <;> (try (exfalso; first | omega | exact absurd hc (by assumption))))
    | ((fail_if_success (refine jw_c (id := 4) ?_)); (refine jw_c ?_; simp (maxSteps := 1000000) [Try.f4, hwE, hwN, hlj, show js.length + 1 ≤ 100 by omega, okCell]))
    | ((fail_if_success (refine jw_draw_j (id := 4) mixed (by kernel_rfl) ?_)); (refine jw_draw_j mixed (by kernel_rfl) ?_; simp (maxSteps := 1000000) [Try.f4, hwE, hwN, hlj, show js.length + 1 ≤ 100 by omega, okCell]))
    | (first | (apply hK; clear hK) | (clear hK; apply hK; clear hK) | (clear hK; clear hK; apply hK; clear hK) | (clear hK; clear hK; clear hK; apply hK; clear hK))
    | exact hQ _ _ (.inl rfl) ⟨5, _, _, rfl, rfl, rfl⟩
    | refine hQ _ _ (.inl rfl) ⟨5, _, _, rfl, rfl, ?_⟩
    | refine hQ _ _ (.inl rfl) ⟨_, rfl, ?_⟩
    | (refine jl_f0 (f := 8) rfl rfl rfl rfl rfl (hjF) (by simp [BelL, Bel]) ?_; rintro d0 g ⟨rfl, rfl⟩; simp (maxSteps := 1000000) [renOb, renL, renD, renD_flat, renL_flat, Try.f4, hwE, hwN, hlj, show js.length + 1 ≤ 100 by omega, okCell])
    | (refine jl_call (f := 11) rfl rfl rfl rfl rfl (hPu) (by simp [BelL, Bel]) ?_; rintro r rfl; simp (maxSteps := 1000000) [Try.f4, hwE, hwN, hlj, show js.length + 1 ≤ 100 by omega, okCell])
    | (refine jd_call (f := 11) rfl rfl rfl rfl rfl (hPu) (by simp [BelL, Bel]) ?_; simp (maxSteps := 1000000) [Try.f4, hwE, hwN, hlj, show js.length + 1 ≤ 100 by omega, okCell])
    | (refine jd_newc rfl rfl (by simp) ?_; simp (maxSteps := 1000000) [thD, thL, Try.f4, hwE, hwN, hlj, show js.length + 1 ≤ 100 by omega, okCell])
    | (refine okN_or ?_; simp (maxSteps := 1000000) [thD, thL, Try.f4, hwE, hwN, hlj, show js.length + 1 ≤ 100 by omega, okCell])
    | (refine okC_guard (fun hc => ?_) (fun hc => ?_) <;> (first | simp (maxSteps := 1000000) [hc, of_decide_eq_true hc, Try.f4, hwE, hwN, hlj, show js.length + 1 ≤ 100 by omega, okCell] | simp (maxSteps := 1000000) [hc, of_decide_eq_false hc, Try.f4, hwE, hwN, hlj, show js.length + 1 ≤ 100 by omega, okCell] | simp (maxSteps := 1000000) [hc, Try.f4, hwE, hwN, hlj, show js.length + 1 ≤ 100 by omega, okCell]) <;> (try simp at hc) <;> (try (exfalso; first | omega | exact absurd hc (by assumption))))
    | (refine okJ_guard (fun hc => ?_) (fun hc => ?_) <;> (first | simp (maxSteps := 1000000) [hc, of_decide_eq_true hc, Try.f4, hwE, hwN, hlj, show js.length + 1 ≤ 100 by omega, okCell] | simp (maxSteps := 1000000) [hc, of_decide_eq_false hc, Try.f4, hwE, hwN, hlj, show js.length + 1 ≤ 100 by omega, okCell] | simp (maxSteps := 1000000) [hc, Try.f4, hwE, hwN, hlj, show js.length + 1 ≤ 100 by omega, okCell]) <;> (try simp at hc) <;> (try (exfalso; first | omega | exact absurd hc (by assumption))))
    | (refine And.intro (by first | assumption | omega | (simp [BelL, Bel]; done) | (simp; omega)) ?_; try simp (maxSteps := 1000000) [Try.f4, hwE, hwN, hlj, show js.length + 1 ≤ 100 by omega, okCell])
    | (refine okC_or ?_; simp (maxSteps := 1000000) [Try.f4, hwE, hwN, hlj, show js.length + 1 ≤ 100 by omega, okCell])
  simp only [hN, hwN]
  refine jw_view (view_lewS (σ0 := [some (.c J), none]) (by simp [← hJe])) ?_
  (refine jw_view (view_frz 0 _ rfl (by simp [BelL, Bel, thL_flat, thD_flat, hJb, hJl, hm, hm4, hJt])) ?_; simp (maxSteps := 1000000) [thL, thD, thS, thOb, thL_flat, thD_flat, hJb, hJl, hm, hm4, hJt])
  repeat' first
    | refine jw_ret (hQ _ _ (.inr rfl) ⟨5, _, _, rfl, rfl, ?_⟩)
    | refine jw_ret (hQ _ _ (.inr rfl) ⟨_, rfl, ?_⟩)
    | refine jw_seq_k fun K hK => ?_
    | refine jw_block ?_
    | (refine jw_skip ?_; try simp)
    | (refine jw_exit ?_; try simp)
    | (refine jw_cond rfl (fun hc => ?_) (fun hc => ?_) <;> (try simp at hc) <;> (try (exfalso; first | omega | exact absurd hc (by assumption))))
    | ((fail_if_success (refine jw_c (id := 6) ?_)); (refine jw_c ?_; simp (maxSteps := 1000000) [hJl, hJo, hJt]))
    | ((fail_if_success (refine jw_draw_j (id := 6) mixed (by kernel_rfl) ?_)); (refine jw_draw_j mixed (by kernel_rfl) ?_; simp (maxSteps := 1000000) [hJl, hJo, hJt]))
    | (first | (apply hK; clear hK) | (clear hK; apply hK; clear hK) | (clear hK; clear hK; apply hK; clear hK) | (clear hK; clear hK; clear hK; apply hK; clear hK))
    | exact hQ _ _ (.inl rfl) ⟨5, _, _, rfl, rfl, rfl⟩
    | refine hQ _ _ (.inl rfl) ⟨5, _, _, rfl, rfl, ?_⟩
    | refine hQ _ _ (.inl rfl) ⟨_, rfl, ?_⟩
    | (refine jd_newc rfl rfl (by simp) ?_; simp (maxSteps := 1000000) [thD, thL, hJl, hJo, hJt])
    | (refine okN_or ?_; simp (maxSteps := 1000000) [thD, thL, hJl, hJo, hJt])
    | (refine okC_guard (fun hc => ?_) (fun hc => ?_) <;> (first | simp (maxSteps := 1000000) [hc, of_decide_eq_true hc, hJl, hJo, hJt] | simp (maxSteps := 1000000) [hc, of_decide_eq_false hc, hJl, hJo, hJt] | simp (maxSteps := 1000000) [hc, hJl, hJo, hJt]) <;> (try simp at hc) <;> (try (exfalso; first | omega | exact absurd hc (by assumption))))
    | (refine okJ_guard (fun hc => ?_) (fun hc => ?_) <;> (first | simp (maxSteps := 1000000) [hc, of_decide_eq_true hc, hJl, hJo, hJt] | simp (maxSteps := 1000000) [hc, of_decide_eq_false hc, hJl, hJo, hJt] | simp (maxSteps := 1000000) [hc, hJl, hJo, hJt]) <;> (try simp at hc) <;> (try (exfalso; first | omega | exact absurd hc (by assumption))))
    | (refine And.intro (by first | assumption | omega | (simp [BelL, Bel]; done) | (simp; omega)) ?_; try simp (maxSteps := 1000000) [hJl, hJo, hJt])
    | (refine okC_or ?_; simp (maxSteps := 1000000) [hJl, hJo, hJt])
  refine jw_loop_v (fun m z => ∃ (i : Nat), (i ≤ late.length ∧ i ≤ 12) ∧ late.length - i = m ∧ z = ⟨[.any, tasksD late] ++ List.replicate 5 .any ++ [.sl false J M, .any, .int .i64 N, .ms 2 ((M + i) * 4) 0 (M + i) 4, .int .i64 i] ++ List.replicate 114 .any, [none, none, some (.c (J ++ lateC N late i))]⟩) ⟨[.any, tasksD late] ++ List.replicate 5 .any ++ [.sl false J M, .any, .int .i64 N, .ms 2 ((M + (0)) * 4) 0 (M + (0)) 4, .int .i64 (0)] ++ List.replicate 114 .any, [none, none, some (.c (J ++ lateC N late (0)))]⟩ (view_takeE (sl := [.any, tasksD late] ++ List.replicate 5 .any ++ [.sl false J M, .any, .int .i64 N, .ms 2 ((M + (0)) * 4) 0 (M + (0)) 4, .int .i64 (0)] ++ List.replicate 114 .any) (σ0 := [none, none, some (.c (J ++ lateC N late (0)))]) 3 (by simp [tasksD, hJb]) (by first | omega | simp) (by first | omega | (simp [tasksD, hJb]; done) | (simp [tasksD, hJb]; omega)) (by first | exact LewS.refl _ | simp [tasksD, hJb]) (by simp [BelL, Bel, tasksD, hJb]) (by simp [BelS, BelOb, BelL, Bel, tasksD, hJb])) ⟨(0), ?_, rfl, rfl⟩ ?_
  rotate_left
  rintro m z ⟨i, hA, rfl, rfl⟩ KA hKA
  · obtain ⟨hil, hi12⟩ := hA
    have hw := wrap_i64 (n := (i : Int) + 1) (by omega) (by omega)
    have hlr := lateC_len N late hil
    by_cases h12 : i < 12 ∧ i < late.length
    · obtain ⟨h12, hlt⟩ := h12
      have hdr := flat_drop (f := taskC) (z := 4) (fun _ => rfl) late i hlt
      have hlen := flat_len (f := taskC) (z := 4) (fun _ => rfl) late
      have hT := lateC_succ N late hlt
      have hdt := hd2 _ (List.getElem_mem hlt)
      rcases hx : late[i] with ⟨k, a, e, b⟩
      rw [hx] at hdt hT
      dsimp only at hdt
      have hk0 := Int.emod_nonneg k (show (5 : Int) ≠ 0 by omega)
      have hk1 := Int.emod_lt_of_pos k (show (0 : Int) < 5 by omega)
      have hw1 := wrap_i64 (n := 1 + k % 5) (by omega) (by omega)
      repeat' first
        | refine jw_ret (hQ _ _ (.inr rfl) ⟨5, _, _, rfl, rfl, ?_⟩)
        | refine jw_ret (hQ _ _ (.inr rfl) ⟨_, rfl, ?_⟩)
        | refine jw_seq_k fun K hK => ?_
        | refine jw_block ?_
        | (refine jw_skip ?_; try simp)
        | (refine jw_exit ?_; try simp)
        | (refine jw_cond rfl (fun hc => ?_) (fun hc => ?_) <;> (try simp at hc) <;> (try (exfalso; first | omega | exact absurd hc (by assumption))))
        | (refine jw_c ?_; simp (maxSteps := 1000000) [h12, hlt, show (i : Int) < 12 by omega, tasksD, hdr, hx, hlen, hlr, hJl, hJo, hw, hw1, taskC, numsD, okCell, okCells_jobs, show i * 4 < late.length * 4 by omega, show M + i + 1 ≤ 100 by omega, show M * 4 + i * 4 = (M + i) * 4 by omega])
        | (refine jw_draw_e (id := 8) [(29, 2)] mixed (by kernel_rfl) (by kernel_rfl) ?_; simp (maxSteps := 1000000) [h12, hlt, show (i : Int) < 12 by omega, tasksD, hdr, hx, hlen, hlr, hJl, hJo, hw, hw1, taskC, numsD, okCell, okCells_jobs, show i * 4 < late.length * 4 by omega, show M + i + 1 ≤ 100 by omega, show M * 4 + i * 4 = (M + i) * 4 by omega])
        | (refine jw_draw_j mixed (by kernel_rfl) ?_; simp (maxSteps := 1000000) [h12, hlt, show (i : Int) < 12 by omega, tasksD, hdr, hx, hlen, hlr, hJl, hJo, hw, hw1, taskC, numsD, okCell, okCells_jobs, show i * 4 < late.length * 4 by omega, show M + i + 1 ≤ 100 by omega, show M * 4 + i * 4 = (M + i) * 4 by omega])
        | (first | (apply hK; clear hK) | (clear hK; apply hK; clear hK) | (clear hK; clear hK; apply hK; clear hK) | (clear hK; clear hK; clear hK; apply hK; clear hK))
        | exact hQ _ _ (.inl rfl) ⟨5, _, _, rfl, rfl, rfl⟩
        | refine hQ _ _ (.inl rfl) ⟨5, _, _, rfl, rfl, ?_⟩
        | refine hQ _ _ (.inl rfl) ⟨_, rfl, ?_⟩
        | (refine jl_call (f := 11) rfl rfl rfl rfl rfl (pickedG _ _ (by omega) (by omega)) (by simp [BelL, Bel]) ?_; rintro r rfl; simp (maxSteps := 1000000) [h12, hlt, show (i : Int) < 12 by omega, tasksD, hdr, hx, hlen, hlr, hJl, hJo, hw, hw1, taskC, numsD, okCell, okCells_jobs, show i * 4 < late.length * 4 by omega, show M + i + 1 ≤ 100 by omega, show M * 4 + i * 4 = (M + i) * 4 by omega])
        | (refine jd_call (f := 11) rfl rfl rfl rfl rfl (pickedG _ _ (by omega) (by omega)) (by simp [BelL, Bel]) ?_; simp (maxSteps := 1000000) [h12, hlt, show (i : Int) < 12 by omega, tasksD, hdr, hx, hlen, hlr, hJl, hJo, hw, hw1, taskC, numsD, okCell, okCells_jobs, show i * 4 < late.length * 4 by omega, show M + i + 1 ≤ 100 by omega, show M * 4 + i * 4 = (M + i) * 4 by omega])
        | (refine js_call (f := 11) rfl rfl rfl rfl rfl (pickedG _ _ (by omega) (by omega)) (by simp [BelL, Bel]) rfl ?_; simp (maxSteps := 1000000) [h12, hlt, show (i : Int) < 12 by omega, tasksD, hdr, hx, hlen, hlr, hJl, hJo, hw, hw1, taskC, numsD, okCell, okCells_jobs, show i * 4 < late.length * 4 by omega, show M + i + 1 ≤ 100 by omega, show M * 4 + i * 4 = (M + i) * 4 by omega])
        | (refine jl_call (f := 12) rfl rfl rfl rfl rfl (octets b 10 (by omega) (by omega)) (by simp [BelL, Bel]) ?_; rintro r rfl; simp (maxSteps := 1000000) [h12, hlt, show (i : Int) < 12 by omega, tasksD, hdr, hx, hlen, hlr, hJl, hJo, hw, hw1, taskC, numsD, okCell, okCells_jobs, show i * 4 < late.length * 4 by omega, show M + i + 1 ≤ 100 by omega, show M * 4 + i * 4 = (M + i) * 4 by omega])
        | (refine jd_call (f := 12) rfl rfl rfl rfl rfl (octets b 10 (by omega) (by omega)) (by simp [BelL, Bel]) ?_; simp (maxSteps := 1000000) [h12, hlt, show (i : Int) < 12 by omega, tasksD, hdr, hx, hlen, hlr, hJl, hJo, hw, hw1, taskC, numsD, okCell, okCells_jobs, show i * 4 < late.length * 4 by omega, show M + i + 1 ≤ 100 by omega, show M * 4 + i * 4 = (M + i) * 4 by omega])
        | (refine js_call (f := 12) rfl rfl rfl rfl rfl (octets b 10 (by omega) (by omega)) (by simp [BelL, Bel]) rfl ?_; simp (maxSteps := 1000000) [h12, hlt, show (i : Int) < 12 by omega, tasksD, hdr, hx, hlen, hlr, hJl, hJo, hw, hw1, taskC, numsD, okCell, okCells_jobs, show i * 4 < late.length * 4 by omega, show M + i + 1 ≤ 100 by omega, show M * 4 + i * 4 = (M + i) * 4 by omega])
        | (refine jd_newc rfl rfl (by simp) ?_; simp (maxSteps := 1000000) [thD, thL, h12, hlt, show (i : Int) < 12 by omega, tasksD, hdr, hx, hlen, hlr, hJl, hJo, hw, hw1, taskC, numsD, okCell, okCells_jobs, show i * 4 < late.length * 4 by omega, show M + i + 1 ≤ 100 by omega, show M * 4 + i * 4 = (M + i) * 4 by omega])
        | (refine okN_or ?_; simp (maxSteps := 1000000) [thD, thL, h12, hlt, show (i : Int) < 12 by omega, tasksD, hdr, hx, hlen, hlr, hJl, hJo, hw, hw1, taskC, numsD, okCell, okCells_jobs, show i * 4 < late.length * 4 by omega, show M + i + 1 ≤ 100 by omega, show M * 4 + i * 4 = (M + i) * 4 by omega])
        | (refine js_newc rfl rfl (by simp) rfl ?_; simp (maxSteps := 1000000) [h12, hlt, show (i : Int) < 12 by omega, tasksD, hdr, hx, hlen, hlr, hJl, hJo, hw, hw1, taskC, numsD, okCell, okCells_jobs, show i * 4 < late.length * 4 by omega, show M + i + 1 ≤ 100 by omega, show M * 4 + i * 4 = (M + i) * 4 by omega])
        | (refine okM_or ?_; simp (maxSteps := 1000000) [h12, hlt, show (i : Int) < 12 by omega, tasksD, hdr, hx, hlen, hlr, hJl, hJo, hw, hw1, taskC, numsD, okCell, okCells_jobs, show i * 4 < late.length * 4 by omega, show M + i + 1 ≤ 100 by omega, show M * 4 + i * 4 = (M + i) * 4 by omega])
        | (refine okS_or ?_; simp (maxSteps := 1000000) [h12, hlt, show (i : Int) < 12 by omega, tasksD, hdr, hx, hlen, hlr, hJl, hJo, hw, hw1, taskC, numsD, okCell, okCells_jobs, show i * 4 < late.length * 4 by omega, show M + i + 1 ≤ 100 by omega, show M * 4 + i * 4 = (M + i) * 4 by omega])
        | (refine okS_guard (fun hc => ?_) (fun hc => ?_) <;> (first | simp (maxSteps := 1000000) [hc, of_decide_eq_true hc, h12, hlt, show (i : Int) < 12 by omega, tasksD, hdr, hx, hlen, hlr, hJl, hJo, hw, hw1, taskC, numsD, okCell, okCells_jobs, show i * 4 < late.length * 4 by omega, show M + i + 1 ≤ 100 by omega, show M * 4 + i * 4 = (M + i) * 4 by omega] | simp (maxSteps := 1000000) [hc, of_decide_eq_false hc, h12, hlt, show (i : Int) < 12 by omega, tasksD, hdr, hx, hlen, hlr, hJl, hJo, hw, hw1, taskC, numsD, okCell, okCells_jobs, show i * 4 < late.length * 4 by omega, show M + i + 1 ≤ 100 by omega, show M * 4 + i * 4 = (M + i) * 4 by omega] | simp (maxSteps := 1000000) [hc, h12, hlt, show (i : Int) < 12 by omega, tasksD, hdr, hx, hlen, hlr, hJl, hJo, hw, hw1, taskC, numsD, okCell, okCells_jobs, show i * 4 < late.length * 4 by omega, show M + i + 1 ≤ 100 by omega, show M * 4 + i * 4 = (M + i) * 4 by omega]) <;> (try simp at hc) <;> (try (exfalso; first | omega | exact absurd hc (by assumption))))
        | (refine okC_guard (fun hc => ?_) (fun hc => ?_) <;> (first | simp (maxSteps := 1000000) [hc, of_decide_eq_true hc, h12, hlt, show (i : Int) < 12 by omega, tasksD, hdr, hx, hlen, hlr, hJl, hJo, hw, hw1, taskC, numsD, okCell, okCells_jobs, show i * 4 < late.length * 4 by omega, show M + i + 1 ≤ 100 by omega, show M * 4 + i * 4 = (M + i) * 4 by omega] | simp (maxSteps := 1000000) [hc, of_decide_eq_false hc, h12, hlt, show (i : Int) < 12 by omega, tasksD, hdr, hx, hlen, hlr, hJl, hJo, hw, hw1, taskC, numsD, okCell, okCells_jobs, show i * 4 < late.length * 4 by omega, show M + i + 1 ≤ 100 by omega, show M * 4 + i * 4 = (M + i) * 4 by omega] | simp (maxSteps := 1000000) [hc, h12, hlt, show (i : Int) < 12 by omega, tasksD, hdr, hx, hlen, hlr, hJl, hJo, hw, hw1, taskC, numsD, okCell, okCells_jobs, show i * 4 < late.length * 4 by omega, show M + i + 1 ≤ 100 by omega, show M * 4 + i * 4 = (M + i) * 4 by omega]) <;> (try simp at hc) <;> (try (exfalso; first | omega | exact absurd hc (by assumption))))
        | (refine okJ_guard (fun hc => ?_) (fun hc => ?_) <;> (first | simp (maxSteps := 1000000) [hc, of_decide_eq_true hc, h12, hlt, show (i : Int) < 12 by omega, tasksD, hdr, hx, hlen, hlr, hJl, hJo, hw, hw1, taskC, numsD, okCell, okCells_jobs, show i * 4 < late.length * 4 by omega, show M + i + 1 ≤ 100 by omega, show M * 4 + i * 4 = (M + i) * 4 by omega] | simp (maxSteps := 1000000) [hc, of_decide_eq_false hc, h12, hlt, show (i : Int) < 12 by omega, tasksD, hdr, hx, hlen, hlr, hJl, hJo, hw, hw1, taskC, numsD, okCell, okCells_jobs, show i * 4 < late.length * 4 by omega, show M + i + 1 ≤ 100 by omega, show M * 4 + i * 4 = (M + i) * 4 by omega] | simp (maxSteps := 1000000) [hc, h12, hlt, show (i : Int) < 12 by omega, tasksD, hdr, hx, hlen, hlr, hJl, hJo, hw, hw1, taskC, numsD, okCell, okCells_jobs, show i * 4 < late.length * 4 by omega, show M + i + 1 ≤ 100 by omega, show M * 4 + i * 4 = (M + i) * 4 by omega]) <;> (try simp at hc) <;> (try (exfalso; first | omega | exact absurd hc (by assumption))))
        | (refine And.intro (by first | assumption | omega | (simp [BelL, Bel]; done) | (simp; omega)) ?_; try simp (maxSteps := 1000000) [h12, hlt, show (i : Int) < 12 by omega, tasksD, hdr, hx, hlen, hlr, hJl, hJo, hw, hw1, taskC, numsD, okCell, okCells_jobs, show i * 4 < late.length * 4 by omega, show M + i + 1 ≤ 100 by omega, show M * 4 + i * 4 = (M + i) * 4 by omega])
        | (refine okC_or ?_; simp (maxSteps := 1000000) [h12, hlt, show (i : Int) < 12 by omega, tasksD, hdr, hx, hlen, hlr, hJl, hJo, hw, hw1, taskC, numsD, okCell, okCells_jobs, show i * 4 < late.length * 4 by omega, show M + i + 1 ≤ 100 by omega, show M * 4 + i * 4 = (M + i) * 4 by omega])
      refine hKA (late.length - (i + 1)) _ ⟨[.any, tasksD late] ++ List.replicate 5 .any ++ [.sl false J M, .any, .int .i64 N, .ms 2 ((M + (i + 1)) * 4) 0 (M + (i + 1)) 4, .int .i64 (i + 1)] ++ List.replicate 114 .any, [none, none, some (.c (J ++ lateC N late (i + 1)))]⟩ (by omega) (view_takeE (sl := [.any, tasksD late] ++ List.replicate 5 .any ++ [.sl false J M, .any, .int .i64 N, .ms 2 ((M + (i + 1)) * 4) 0 (M + (i + 1)) 4, .int .i64 (i + 1)] ++ List.replicate 114 .any) (σ0 := [none, none, some (.c (J ++ lateC N late (i + 1)))]) 3 (by simp [hT, lateJ, jobC, numsD, tasksD, List.map_take, hJb, show (M + (i + 1)) * 4 = (M + i) * 4 + 4 by omega, show (M + i + 1) * 4 = (M + i) * 4 + 4 by omega, show M + (i + 1) = M + i + 1 from rfl]) (by first | omega | simp) (by first | omega | (simp [hT, lateJ, jobC, numsD, tasksD, List.map_take, hJb, show (M + (i + 1)) * 4 = (M + i) * 4 + 4 by omega, show (M + i + 1) * 4 = (M + i) * 4 + 4 by omega, show M + (i + 1) = M + i + 1 from rfl]; done) | (simp [hT, lateJ, jobC, numsD, tasksD, List.map_take, hJb, show (M + (i + 1)) * 4 = (M + i) * 4 + 4 by omega, show (M + i + 1) * 4 = (M + i) * 4 + 4 by omega, show M + (i + 1) = M + i + 1 from rfl]; omega)) (by first | exact LewS.refl _ | simp [hT, lateJ, jobC, numsD, tasksD, List.map_take, hJb, show (M + (i + 1)) * 4 = (M + i) * 4 + 4 by omega, show (M + i + 1) * 4 = (M + i) * 4 + 4 by omega, show M + (i + 1) = M + i + 1 from rfl]) (by simp [BelL, Bel, hT, lateJ, jobC, numsD, tasksD, List.map_take, hJb, show (M + (i + 1)) * 4 = (M + i) * 4 + 4 by omega, show (M + i + 1) * 4 = (M + i) * 4 + 4 by omega, show M + (i + 1) = M + i + 1 from rfl]) (by simp [BelS, BelOb, BelL, Bel, hT, lateJ, jobC, numsD, tasksD, List.map_take, hJb, show (M + (i + 1)) * 4 = (M + i) * 4 + 4 by omega, show (M + i + 1) * 4 = (M + i) * 4 + 4 by omega, show M + (i + 1) = M + i + 1 from rfl])) ⟨(i + 1), ?_, rfl, rfl⟩
      omega
    · have hi : i = LJ.length := by omega
      have hE : J ++ lateC N late LJ.length = J2 := by
        have e : late.take LJ.length = late.take 12 := by
          rw [hLJl]
          by_cases h : 12 ≤ late.length
          · rw [Nat.min_eq_left h]
          · rw [Nat.min_eq_right (by omega), List.take_of_length_le (Nat.le_refl _), List.take_of_length_le (by omega)]
        rw [← hJ2]
        unfold lateC
        rw [e, hLJ]
      subst hi
      repeat' first
        | refine jw_ret (hQ _ _ (.inr rfl) ⟨5, _, _, rfl, rfl, ?_⟩)
        | refine jw_ret (hQ _ _ (.inr rfl) ⟨_, rfl, ?_⟩)
        | refine jw_seq_k fun K hK => ?_
        | refine jw_block ?_
        | (refine jw_skip ?_; try simp)
        | (refine jw_exit ?_; try simp)
        | (refine jw_cond rfl (fun hc => ?_) (fun hc => ?_) <;> (try simp at hc) <;> (try (exfalso; first | omega | exact absurd hc (by assumption))))
        | ((fail_if_success (refine jw_c (id := 9) ?_)); (refine jw_c ?_; simp (maxSteps := 1000000) [tasksD]))
        | ((fail_if_success (refine jw_draw_j (id := 9) mixed (by kernel_rfl) ?_)); (refine jw_draw_j mixed (by kernel_rfl) ?_; simp (maxSteps := 1000000) [tasksD]))
        | (first | (apply hK; clear hK) | (clear hK; apply hK; clear hK) | (clear hK; clear hK; apply hK; clear hK) | (clear hK; clear hK; clear hK; apply hK; clear hK))
        | exact hQ _ _ (.inl rfl) ⟨5, _, _, rfl, rfl, rfl⟩
        | refine hQ _ _ (.inl rfl) ⟨5, _, _, rfl, rfl, ?_⟩
        | refine hQ _ _ (.inl rfl) ⟨_, rfl, ?_⟩
        | (refine jd_newc rfl rfl (by simp) ?_; simp (maxSteps := 1000000) [thD, thL, tasksD])
        | (refine okN_or ?_; simp (maxSteps := 1000000) [thD, thL, tasksD])
        | (refine okC_guard (fun hc => ?_) (fun hc => ?_) <;> (first | simp (maxSteps := 1000000) [hc, of_decide_eq_true hc, tasksD] | simp (maxSteps := 1000000) [hc, of_decide_eq_false hc, tasksD] | simp (maxSteps := 1000000) [hc, tasksD]) <;> (try simp at hc) <;> (try (exfalso; first | omega | exact absurd hc (by assumption))))
        | (refine okJ_guard (fun hc => ?_) (fun hc => ?_) <;> (first | simp (maxSteps := 1000000) [hc, of_decide_eq_true hc, tasksD] | simp (maxSteps := 1000000) [hc, of_decide_eq_false hc, tasksD] | simp (maxSteps := 1000000) [hc, tasksD]) <;> (try simp at hc) <;> (try (exfalso; first | omega | exact absurd hc (by assumption))))
        | (refine And.intro (by first | assumption | omega | (simp [BelL, Bel]; done) | (simp; omega)) ?_; try simp (maxSteps := 1000000) [tasksD])
        | (refine okC_or ?_; simp (maxSteps := 1000000) [tasksD])
      all_goals rw [hE]
      all_goals simp only [hq]
      all_goals clear hE hlr hw h12 hil
      all_goals
        (refine jw_view (view_frz 2 _ rfl (by simp [BelL, Bel, thL_flat, thD_flat, hJ2b, hJ2l, hJ2t, hJb])) ?_; simp (maxSteps := 1000000) [thL, thD, thS, thOb, thL_flat, thD_flat, hJ2b, hJ2l, hJ2t, hJb])
        repeat' first
          | refine jw_ret (hQ _ _ (.inr rfl) ⟨5, _, _, rfl, rfl, ?_⟩)
          | refine jw_ret (hQ _ _ (.inr rfl) ⟨_, rfl, ?_⟩)
          | refine jw_seq_k fun K hK => ?_
          | refine jw_block ?_
          | (refine jw_skip ?_; try simp)
          | (refine jw_exit ?_; try simp)
          | (refine jw_cond rfl (fun hc => ?_) (fun hc => ?_) <;> (try simp at hc) <;> (try (exfalso; first | omega | exact absurd hc (by assumption))))
          | (refine jw_c ?_; simp (maxSteps := 1000000) [hJl, hJo, hJ2l, hJ2o, hLl, hLn, hW0, hWl, thS, thOb, jobsD, rpsD, okCells_jobs, hwq, hwq6, okCell, show M ≤ 100 by omega, show q ≤ 100 by omega])
          | (refine jw_draw_j mixed (by kernel_rfl) ?_; simp (maxSteps := 1000000) [hJl, hJo, hJ2l, hJ2o, hLl, hLn, hW0, hWl, thS, thOb, jobsD, rpsD, okCells_jobs, hwq, hwq6, okCell, show M ≤ 100 by omega, show q ≤ 100 by omega])
          | (first | (apply hK; clear hK) | (clear hK; apply hK; clear hK) | (clear hK; clear hK; apply hK; clear hK) | (clear hK; clear hK; clear hK; apply hK; clear hK))
          | exact hQ _ _ (.inl rfl) ⟨5, _, _, rfl, rfl, rfl⟩
          | refine hQ _ _ (.inl rfl) ⟨5, _, _, rfl, rfl, ?_⟩
          | refine hQ _ _ (.inl rfl) ⟨_, rfl, ?_⟩
          | (refine jl_call (f := 13) rfl rfl rfl rfl rfl (hlk) (by simp [BelL, Bel]) ?_; rintro r rfl; simp (maxSteps := 1000000) [hJl, hJo, hJ2l, hJ2o, hLl, hLn, hW0, hWl, thS, thOb, jobsD, rpsD, okCells_jobs, hwq, hwq6, okCell, show M ≤ 100 by omega, show q ≤ 100 by omega])
          | (refine jd_call (f := 13) rfl rfl rfl rfl rfl (hlk) (by simp [BelL, Bel]) ?_; simp (maxSteps := 1000000) [hJl, hJo, hJ2l, hJ2o, hLl, hLn, hW0, hWl, thS, thOb, jobsD, rpsD, okCells_jobs, hwq, hwq6, okCell, show M ≤ 100 by omega, show q ≤ 100 by omega])
          | (refine jl_fc (f := 9) rfl rfl rfl rfl rfl (hp1 _ _ _ _ (by simp; omega) (by simp; omega) (by simp)) ?_; rintro r σ' ⟨rfl, rfl⟩; simp (maxSteps := 1000000) [hJl, hJo, hJ2l, hJ2o, hLl, hLn, hW0, hWl, thS, thOb, jobsD, rpsD, okCells_jobs, hwq, hwq6, okCell, show M ≤ 100 by omega, show q ≤ 100 by omega])
          | (refine jl_fc (f := 9) rfl rfl rfl rfl rfl (hp2 _ _ _ _ (by simp; omega) (by simp; omega) (by simp)) ?_; rintro r σ' ⟨rfl, rfl⟩; simp (maxSteps := 1000000) [hJl, hJo, hJ2l, hJ2o, hLl, hLn, hW0, hWl, thS, thOb, jobsD, rpsD, okCells_jobs, hwq, hwq6, okCell, show M ≤ 100 by omega, show q ≤ 100 by omega])
          | (refine jl_call (f := 14) rfl rfl rfl rfl rfl (hs) (by simp [BelL, Bel]) ?_; rintro r rfl; simp (maxSteps := 1000000) [hJl, hJo, hJ2l, hJ2o, hLl, hLn, hW0, hWl, thS, thOb, jobsD, rpsD, okCells_jobs, hwq, hwq6, okCell, show M ≤ 100 by omega, show q ≤ 100 by omega])
          | (refine jd_call (f := 14) rfl rfl rfl rfl rfl (hs) (by simp [BelL, Bel]) ?_; simp (maxSteps := 1000000) [hJl, hJo, hJ2l, hJ2o, hLl, hLn, hW0, hWl, thS, thOb, jobsD, rpsD, okCells_jobs, hwq, hwq6, okCell, show M ≤ 100 by omega, show q ≤ 100 by omega])
          | (refine jd_newc rfl rfl (by simp) ?_; simp (maxSteps := 1000000) [thD, thL, hJl, hJo, hJ2l, hJ2o, hLl, hLn, hW0, hWl, thS, thOb, jobsD, rpsD, okCells_jobs, hwq, hwq6, okCell, show M ≤ 100 by omega, show q ≤ 100 by omega])
          | (refine okN_or ?_; simp (maxSteps := 1000000) [thD, thL, hJl, hJo, hJ2l, hJ2o, hLl, hLn, hW0, hWl, thS, thOb, jobsD, rpsD, okCells_jobs, hwq, hwq6, okCell, show M ≤ 100 by omega, show q ≤ 100 by omega])
          | (refine okC_guard (fun hc => ?_) (fun hc => ?_) <;> (first | simp (maxSteps := 1000000) [hc, of_decide_eq_true hc, hJl, hJo, hJ2l, hJ2o, hLl, hLn, hW0, hWl, thS, thOb, jobsD, rpsD, okCells_jobs, hwq, hwq6, okCell, show M ≤ 100 by omega, show q ≤ 100 by omega] | simp (maxSteps := 1000000) [hc, of_decide_eq_false hc, hJl, hJo, hJ2l, hJ2o, hLl, hLn, hW0, hWl, thS, thOb, jobsD, rpsD, okCells_jobs, hwq, hwq6, okCell, show M ≤ 100 by omega, show q ≤ 100 by omega] | simp (maxSteps := 1000000) [hc, hJl, hJo, hJ2l, hJ2o, hLl, hLn, hW0, hWl, thS, thOb, jobsD, rpsD, okCells_jobs, hwq, hwq6, okCell, show M ≤ 100 by omega, show q ≤ 100 by omega]) <;> (try simp at hc) <;> (try (exfalso; first | omega | exact absurd hc (by assumption))))
          | (refine okJ_guard (fun hc => ?_) (fun hc => ?_) <;> (first | simp (maxSteps := 1000000) [hc, of_decide_eq_true hc, hJl, hJo, hJ2l, hJ2o, hLl, hLn, hW0, hWl, thS, thOb, jobsD, rpsD, okCells_jobs, hwq, hwq6, okCell, show M ≤ 100 by omega, show q ≤ 100 by omega] | simp (maxSteps := 1000000) [hc, of_decide_eq_false hc, hJl, hJo, hJ2l, hJ2o, hLl, hLn, hW0, hWl, thS, thOb, jobsD, rpsD, okCells_jobs, hwq, hwq6, okCell, show M ≤ 100 by omega, show q ≤ 100 by omega] | simp (maxSteps := 1000000) [hc, hJl, hJo, hJ2l, hJ2o, hLl, hLn, hW0, hWl, thS, thOb, jobsD, rpsD, okCells_jobs, hwq, hwq6, okCell, show M ≤ 100 by omega, show q ≤ 100 by omega]) <;> (try simp at hc) <;> (try (exfalso; first | omega | exact absurd hc (by assumption))))
          | (refine And.intro (by first | assumption | omega | (simp [BelL, Bel]; done) | (simp; omega)) ?_; try simp (maxSteps := 1000000) [hJl, hJo, hJ2l, hJ2o, hLl, hLn, hW0, hWl, thS, thOb, jobsD, rpsD, okCells_jobs, hwq, hwq6, okCell, show M ≤ 100 by omega, show q ≤ 100 by omega])
          | (refine okC_or ?_; simp (maxSteps := 1000000) [hJl, hJo, hJ2l, hJ2o, hLl, hLn, hW0, hWl, thS, thOb, jobsD, rpsD, okCells_jobs, hwq, hwq6, okCell, show M ≤ 100 by omega, show q ≤ 100 by omega])
        refine jw_loop_v (fun m z => ∃ (k : Nat), (k ≤ LJ.length) ∧ LJ.length - k = m ∧ z = ⟨List.replicate 10 .any ++ [.sl false J2 q, .any, .any, .any, .sl false (R2.flatMap rpC) (q + 6), .any, .int .i64 ((M : Int) + k)] ++ List.replicate 109 .any, []⟩) ⟨List.replicate 10 .any ++ [.sl false J2 q, .any, .any, .any, .sl false (R2.flatMap rpC) (q + 6), .any, .int .i64 ((M : Int) + (0))] ++ List.replicate 109 .any, []⟩ (view_takeE (sl := List.replicate 10 .any ++ [.sl false J2 q, .any, .any, .any, .sl false (R2.flatMap rpC) (q + 6), .any, .int .i64 ((M : Int) + (0))] ++ List.replicate 109 .any) (σ0 := []) 0 (by simp [hJ2b]) (by first | omega | simp) (by first | omega | (simp [hJ2b]; done) | (simp [hJ2b]; omega)) (by first | exact LewS.refl _ | simp [hJ2b]) (by simp [BelL, Bel, hJ2b]) (by simp [BelS, BelOb, BelL, Bel, hJ2b])) ⟨(0), ?_, rfl, rfl⟩ ?_
        rotate_left
        rintro m z ⟨k, hB, rfl, rfl⟩ KB hKB
        · have hwk := wrap_i64 (n := (M : Int) + k + 1) (by omega) (by omega)
          have htk : ((M : Int) + k).toNat = M + k := by omega
          by_cases hlt : k < LJ.length
          · obtain ⟨X, hX⟩ := hW2 k hlt
            repeat' first
              | refine jw_ret (hQ _ _ (.inr rfl) ⟨5, _, _, rfl, rfl, ?_⟩)
              | refine jw_ret (hQ _ _ (.inr rfl) ⟨_, rfl, ?_⟩)
              | refine jw_seq_k fun K hK => ?_
              | refine jw_block ?_
              | (refine jw_skip ?_; try simp)
              | (refine jw_exit ?_; try simp)
              | (refine jw_cond rfl (fun hc => ?_) (fun hc => ?_) <;> (try simp at hc) <;> (try (exfalso; first | omega | exact absurd hc (by assumption))))
              | (refine jw_c ?_; simp (maxSteps := 1000000) [hlt, show (M : Int) + k < q by omega, show (M : Int) + k < (q : Int) + 6 by omega, show (0 : Int) ≤ (M : Int) + k by omega, show (M + k) * 4 < q * 4 + 24 by omega, htk, hX, rpC, hwk, hW0])
              | (refine jw_draw_j mixed (by kernel_rfl) ?_; simp (maxSteps := 1000000) [hlt, show (M : Int) + k < q by omega, show (M : Int) + k < (q : Int) + 6 by omega, show (0 : Int) ≤ (M : Int) + k by omega, show (M + k) * 4 < q * 4 + 24 by omega, htk, hX, rpC, hwk, hW0])
              | (first | (apply hK; clear hK) | (clear hK; apply hK; clear hK) | (clear hK; clear hK; apply hK; clear hK) | (clear hK; clear hK; clear hK; apply hK; clear hK))
              | exact hQ _ _ (.inl rfl) ⟨5, _, _, rfl, rfl, rfl⟩
              | refine hQ _ _ (.inl rfl) ⟨5, _, _, rfl, rfl, ?_⟩
              | refine hQ _ _ (.inl rfl) ⟨_, rfl, ?_⟩
              | (refine jd_newc rfl rfl (by simp) ?_; simp (maxSteps := 1000000) [thD, thL, hlt, show (M : Int) + k < q by omega, show (M : Int) + k < (q : Int) + 6 by omega, show (0 : Int) ≤ (M : Int) + k by omega, show (M + k) * 4 < q * 4 + 24 by omega, htk, hX, rpC, hwk, hW0])
              | (refine okN_or ?_; simp (maxSteps := 1000000) [thD, thL, hlt, show (M : Int) + k < q by omega, show (M : Int) + k < (q : Int) + 6 by omega, show (0 : Int) ≤ (M : Int) + k by omega, show (M + k) * 4 < q * 4 + 24 by omega, htk, hX, rpC, hwk, hW0])
              | (refine okC_guard (fun hc => ?_) (fun hc => ?_) <;> (first | simp (maxSteps := 1000000) [hc, of_decide_eq_true hc, hlt, show (M : Int) + k < q by omega, show (M : Int) + k < (q : Int) + 6 by omega, show (0 : Int) ≤ (M : Int) + k by omega, show (M + k) * 4 < q * 4 + 24 by omega, htk, hX, rpC, hwk, hW0] | simp (maxSteps := 1000000) [hc, of_decide_eq_false hc, hlt, show (M : Int) + k < q by omega, show (M : Int) + k < (q : Int) + 6 by omega, show (0 : Int) ≤ (M : Int) + k by omega, show (M + k) * 4 < q * 4 + 24 by omega, htk, hX, rpC, hwk, hW0] | simp (maxSteps := 1000000) [hc, hlt, show (M : Int) + k < q by omega, show (M : Int) + k < (q : Int) + 6 by omega, show (0 : Int) ≤ (M : Int) + k by omega, show (M + k) * 4 < q * 4 + 24 by omega, htk, hX, rpC, hwk, hW0]) <;> (try simp at hc) <;> (try (exfalso; first | omega | exact absurd hc (by assumption))))
              | (refine okJ_guard (fun hc => ?_) (fun hc => ?_) <;> (first | simp (maxSteps := 1000000) [hc, of_decide_eq_true hc, hlt, show (M : Int) + k < q by omega, show (M : Int) + k < (q : Int) + 6 by omega, show (0 : Int) ≤ (M : Int) + k by omega, show (M + k) * 4 < q * 4 + 24 by omega, htk, hX, rpC, hwk, hW0] | simp (maxSteps := 1000000) [hc, of_decide_eq_false hc, hlt, show (M : Int) + k < q by omega, show (M : Int) + k < (q : Int) + 6 by omega, show (0 : Int) ≤ (M : Int) + k by omega, show (M + k) * 4 < q * 4 + 24 by omega, htk, hX, rpC, hwk, hW0] | simp (maxSteps := 1000000) [hc, hlt, show (M : Int) + k < q by omega, show (M : Int) + k < (q : Int) + 6 by omega, show (0 : Int) ≤ (M : Int) + k by omega, show (M + k) * 4 < q * 4 + 24 by omega, htk, hX, rpC, hwk, hW0]) <;> (try simp at hc) <;> (try (exfalso; first | omega | exact absurd hc (by assumption))))
              | (refine And.intro (by first | assumption | omega | (simp [BelL, Bel]; done) | (simp; omega)) ?_; try simp (maxSteps := 1000000) [hlt, show (M : Int) + k < q by omega, show (M : Int) + k < (q : Int) + 6 by omega, show (0 : Int) ≤ (M : Int) + k by omega, show (M + k) * 4 < q * 4 + 24 by omega, htk, hX, rpC, hwk, hW0])
              | (refine okC_or ?_; simp (maxSteps := 1000000) [hlt, show (M : Int) + k < q by omega, show (M : Int) + k < (q : Int) + 6 by omega, show (0 : Int) ≤ (M : Int) + k by omega, show (M + k) * 4 < q * 4 + 24 by omega, htk, hX, rpC, hwk, hW0])
            refine hKB (LJ.length - (k + 1)) _ ⟨List.replicate 10 .any ++ [.sl false J2 q, .any, .any, .any, .sl false (R2.flatMap rpC) (q + 6), .any, .int .i64 ((M : Int) + (k + 1))] ++ List.replicate 109 .any, []⟩ (by omega) (view_takeE (sl := List.replicate 10 .any ++ [.sl false J2 q, .any, .any, .any, .sl false (R2.flatMap rpC) (q + 6), .any, .int .i64 ((M : Int) + (k + 1))] ++ List.replicate 109 .any) (σ0 := []) 0 (by simp [hJ2b, ← Int.add_assoc]) (by first | omega | simp) (by first | omega | (simp [hJ2b, ← Int.add_assoc]; done) | (simp [hJ2b, ← Int.add_assoc]; omega)) (by first | exact LewS.refl _ | simp [hJ2b, ← Int.add_assoc]) (by simp [BelL, Bel, hJ2b, ← Int.add_assoc]) (by simp [BelS, BelOb, BelL, Bel, hJ2b, ← Int.add_assoc])) ⟨(k + 1), ?_, rfl, rfl⟩
            omega
          · repeat' first
              | refine jw_seq_k fun K hK => ?_
              | refine jw_block ?_
              | (refine jw_skip ?_; try simp)
              | (refine jw_exit ?_; try simp)
              | (refine jw_cond rfl (fun hc => ?_) (fun hc => ?_) <;> (try simp at hc) <;> (try (exfalso; first | omega | exact absurd hc (by assumption))))
              | (refine jw_c ?_; simp (maxSteps := 1000000) [hlt, show ¬ (M : Int) + k < q by omega])
              | (refine jw_draw_j mixed (by kernel_rfl) ?_; simp (maxSteps := 1000000) [hlt, show ¬ (M : Int) + k < q by omega])
              | (first | (apply hK; clear hK) | (clear hK; apply hK; clear hK) | (clear hK; clear hK; apply hK; clear hK) | (clear hK; clear hK; clear hK; apply hK; clear hK))
              | (refine jw_ret (hQ _ _ (.inr rfl) (ret_ok 0 ?_ (by first | omega | simp))); simp (maxSteps := 1000000) [okRet, BelL, Bel, BelS, BelOb, hlt, show ¬ (M : Int) + k < q by omega])
              | (refine hQ _ _ (.inl rfl) (ret_ok 0 ?_ (by first | omega | simp)); simp (maxSteps := 1000000) [okRet, BelL, Bel, BelS, BelOb, hlt, show ¬ (M : Int) + k < q by omega])
              | (refine jd_newc rfl rfl (by simp) ?_; simp (maxSteps := 1000000) [thD, thL, hlt, show ¬ (M : Int) + k < q by omega])
              | (refine okN_or ?_; simp (maxSteps := 1000000) [thD, thL, hlt, show ¬ (M : Int) + k < q by omega])
              | (refine okC_guard (fun hc => ?_) (fun hc => ?_) <;> (first | simp (maxSteps := 1000000) [hc, of_decide_eq_true hc, hlt, show ¬ (M : Int) + k < q by omega] | simp (maxSteps := 1000000) [hc, of_decide_eq_false hc, hlt, show ¬ (M : Int) + k < q by omega] | simp (maxSteps := 1000000) [hc, hlt, show ¬ (M : Int) + k < q by omega]) <;> (try simp at hc) <;> (try (exfalso; first | omega | exact absurd hc (by assumption))))
              | (refine okJ_guard (fun hc => ?_) (fun hc => ?_) <;> (first | simp (maxSteps := 1000000) [hc, of_decide_eq_true hc, hlt, show ¬ (M : Int) + k < q by omega] | simp (maxSteps := 1000000) [hc, of_decide_eq_false hc, hlt, show ¬ (M : Int) + k < q by omega] | simp (maxSteps := 1000000) [hc, hlt, show ¬ (M : Int) + k < q by omega]) <;> (try simp at hc) <;> (try (exfalso; first | omega | exact absurd hc (by assumption))))
              | (refine And.intro (by first | assumption | omega | (simp [BelL, Bel]; done) | (simp; omega)) ?_; try simp (maxSteps := 1000000) [hlt, show ¬ (M : Int) + k < q by omega])
              | (refine okC_or ?_; simp (maxSteps := 1000000) [hlt, show ¬ (M : Int) + k < q by omega])
        · omega
  · omega
theorem unitSeals (ls : List (List D)) (hr : Vm.Rows (Parts TaskP) ls) (hz : ls.length * 48 ≤ 140737488351232) (_ : ls.length ≤ 9223372036854775807) (ms : List (List D)) (hr2 : Vm.Rows (Parts TaskP) ms) (hz2 : ms.length * 48 ≤ 140737488351232) (_ : ms.length ≤ 9223372036854775807) (u : Int) (_ : (Lit.int .i64 u).wf = true) :
    FV Try.prog [] 4 [.sl false ls.flatten ls.length, .sl false ms.flatten ms.length, .int .i64 u] (fun r => r = .bool true) := by
  obtain ⟨l, h1, h2, h3⟩ := tasks_of hr
  obtain ⟨k, g1, g2, g3⟩ := tasks_of hr2
  rw [h2, h3, g2, g3]
  exact unitSealsW l (by omega) h1 k (by omega) g1 u
end Go.Proofs.Ytkjliaapdjapmaa
