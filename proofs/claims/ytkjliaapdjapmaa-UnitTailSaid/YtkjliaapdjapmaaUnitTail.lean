/- UnitTail: the walk and the law. -/
import Derived.Test.YtkjliaapdjapmaaUnitRows
set_option linter.unusedVariables false
set_option linter.unusedSimpArgs false
set_option maxRecDepth 20000
set_option maxHeartbeats 20000000
namespace Go.Proofs.Ytkjliaapdjapmaa
open Go Go.Vm Go.Proofs

theorem tailN_ge (sl : List Slot) : ∀ n i, i < n → sl.getD i .none ≠ .none → i + 1 ≤ tailN sl n
  | 0, _, h, _ => by omega
  | n + 1, i, h, hs => by
    unfold tailN
    by_cases e : i = n
    · subst e; rw [if_neg hs]; exact Nat.le_refl _
    · have := tailN_ge sl n i (by omega) hs
      split <;> omega
theorem tailN_at (sl : List Slot) : ∀ n, tailN sl n = 0 ∨ sl.getD (tailN sl n - 1) .none ≠ .none
  | 0 => .inl rfl
  | n + 1 => by
    unfold tailN
    by_cases h : sl.getD n .none = .none
    · rw [if_pos h]; exact tailN_at sl n
    · rw [if_neg h]; right; simpa using h
theorem tailN_le (sl : List Slot) (m : Nat) : ∀ n, (∀ i, m ≤ i → i < n → sl.getD i .none = .none) → tailN sl n ≤ m
  | 0, _ => by unfold tailN; omega
  | n + 1, h => by
    unfold tailN
    by_cases e : m ≤ n
    · rw [if_pos (h n e (by omega))]; exact tailN_le sl m n fun i h1 h2 => h i h1 (by omega)
    · split
      · exact tailN_le sl m n fun i h1 h2 => h i h1 (by omega)
      · omega
theorem do_fetch {u : Un} {a : Nat} (ha : a < 64) : doR u ⟨2, u.epoch, (a : Int), []⟩ = (tell (u.slots.getD a .none), { u with torn := 0 }) := by
  unfold doR slotR
  have h1 : ¬ ((a : Int) < 0 ∨ (64 : Int) ≤ a) := by omega
  simp [h1]
/-- What all of a few slots tell. -/
theorem run_look (u : Un) (n : Nat) (hn : n ≤ 64) : (runU u (lookJ u.epoch n)).1 = (List.range n).map (fun a => tell (u.slots.getD a .none)) ∧ (runU u (lookJ u.epoch n)).2.slots = u.slots ∧ (runU u (lookJ u.epoch n)).2.epoch = u.epoch := by
  induction n with
  | zero => exact ⟨rfl, rfl, rfl⟩
  | succ n ih =>
    obtain ⟨h1, h2, h3⟩ := ih (by omega)
    rw [lookJ_succ, run_append, List.range_succ, List.map_append]
    have h4 := do_fetch (u := (runU u (lookJ u.epoch n)).2) (a := n) (by omega)
    rw [h3] at h4
    simp only [runU, h4, h1, h2, h3]
    exact ⟨rfl, trivial, trivial⟩
theorem tell_un (s : Slot) : (tell s).code = 17 ↔ s = .none := by cases s <;> simp [tell]

theorem lookJ_data (e : Int) (n : Nat) : ∀ j ∈ lookJ e n, j.data = [] := by
  intro j hj
  obtain ⟨_, _, rfl⟩ := List.mem_map.1 hj
  rfl
/-- What is read of a list of replies. -/
theorem rps_at {rs : List Rp} {i : Nat} {r : Rp} (h : rs[i]? = some r) : ∃ X, (rs.flatMap rpC).drop (i * 4) = rpC r ++ X := by
  obtain ⟨hi, e⟩ := List.getElem?_eq_some_iff.1 h
  exact ⟨_, by rw [flat_drop (f := rpC) (z := 4) (fun _ => rfl) _ _ hi, e]⟩

theorem unitTailW (l : List Task) (hl : l.length ≤ 140737488351232) (hd : ∀ t ∈ l, t.data.length ≤ 140737488351232) : FV Try.prog [] 6 [tasksD l] (fun r => r = .bool true) := by
  obtain ⟨hep, hlow⟩ := behind l 40 (by omega)
  have hepb := jobs_epoch 0 (l.take 40)
  have huI := run_ok un0_ok (jobsR 0 (l.take 40)).1
  have hjd := jobs_data 0 (l.take 40)
  have hjl : (jobsR 0 (l.take 40)).1.length ≤ 40 := by simp; omega
  have hjF := jobsC (G := []) l hl (fun t ht => by have := hd t ht; omega) 40 (by omega)
  have hlj := flat_len (f := jobC) (z := 4) (fun _ => rfl) (jobsR 0 (l.take 40)).1
  have hrl := run_length un0 (jobsR 0 (l.take 40)).1
  have hE0 : 0 ≤ (jobsR 0 (l.take 40)).2 ∧ (jobsR 0 (l.take 40)).2 ≤ 80 := by
    have : (l.take 40).length ≤ 40 := by simp; omega
    omega
  clear hepb
  generalize (jobsR 0 (l.take 40)).1 = js at *
  generalize (jobsR 0 (l.take 40)).2 = E at *
  generalize hu : (runU un0 js).2 = u at *
  have hw := wrap_i64 (n := E + 1) (by omega) (by omega)
  have hlk := lookF (G := []) (E + 1)
  have hT1 := tailN_ge u.slots 64
  have hT2 := tailN_at u.slots 64
  have hT3 := tailN_le u.slots 6 64 hlow.1
  have hrun : (runU un0 (js ++ [⟨5, E + 1, 0, []⟩] ++ lookJ (E + 1) 6)).1 = (runU un0 js).1 ++ [{ tail := tailN u.slots 64 }] ++ (List.range 6).map (fun a => tell (u.slots.getD a .none)) := by
    have h1 := do_seal u (E + 1) 0 [] (by omega)
    have h2 := run_look ⟨u.slots, E + 1, 0⟩ 6 (by omega)
    rw [run_append, run_append, hu]
    simp only [runU, h1]
    rw [h2.1]
  have hpl := fun k v n σ => playZ (G := []) (js ++ [⟨5, E + 1, 0, []⟩] ++ lookJ (E + 1) 6) (by simp; omega) (by
    intro j hj
    rcases List.mem_append.1 hj with hj | hj
    · rcases List.mem_append.1 hj with hj | hj
      · have := hjd j hj; omega
      · rw [List.mem_singleton.1 hj]; simp
    · rw [lookJ_data _ _ j hj]; simp) k v n σ
  rw [hrun] at hpl
  generalize (runU un0 js).1 = rs at *
  generalize tailN u.slots 64 = T at *
  obtain ⟨W, hW⟩ : ∃ W, (rs ++ [({ tail := T } : Rp)] ++ (List.range 6).map (fun a => tell (u.slots.getD a .none))).flatMap rpC = W := ⟨_, rfl⟩
  have hWl : (rs ++ [({ tail := T } : Rp)] ++ (List.range 6).map (fun a => tell (u.slots.getD a .none))).length = js.length + 7 := by simp [hrl]
  have hW0 : W.length = js.length * 4 + 28 := by rw [← hW, flat_len (f := rpC) (z := 4) (fun _ => rfl), hWl]; omega
  have hW1 : ∃ X, W.drop (js.length * 4) = rpC { tail := T } ++ X := by
    rw [← hW, ← hrl]
    exact rps_at (by rw [List.append_assoc, List.getElem?_append_right (Nat.le_refl _)]; simp)
  have hW2 : ∀ a : Nat, a < 6 → ∃ X, W.drop ((js.length + 1 + a) * 4) = rpC (tell (u.slots.getD a .none)) ++ X := fun a ha => by
    rw [← hW]
    refine rps_at ?_
    rw [List.getElem?_append_right (by simp [hrl]), show js.length + 1 + a - (rs ++ [({ tail := T } : Rp)]).length = a by simp [hrl], List.getElem?_map, List.getElem?_range ha]
    rfl
  have hWD : rpsD (rs ++ [({ tail := T } : Rp)] ++ (List.range 6).map (fun a => tell (u.slots.getD a .none))) = .sl false W (js.length + 7) := by unfold rpsD; rw [hW, hWl]
  rw [hWD] at hpl
  have hWb : ∀ n, BelL n W := fun n => by rw [← hW]; exact belL_flat (belL_rp n) _
  obtain ⟨J, hJ⟩ : ∃ J, (js ++ [(⟨5, E + 1, 0, []⟩ : Job)]).flatMap jobC = J := ⟨_, rfl⟩
  have hJl : J.length = js.length * 4 + 4 := by rw [← hJ, flat_len (f := jobC) (z := 4) (fun _ => rfl)]; simp; omega
  have hJo : ∀ σ, okCells σ J = true := fun σ => by rw [← hJ]; exact okCells_jobs σ _
  have hJb : ∀ n, BelL n J := fun n => by rw [← hJ]; exact belL_jobs n _
  have hm : (js.length + 1) * 4 = js.length * 4 + 4 := by omega
  have hJt : List.take (js.length * 4 + 4) J = J := List.take_of_length_le (by omega)
  have hJe : js.flatMap jobC ++ [.int .i64 5, .int .i64 (E + 1), .int .i64 0, .sl false [] 0] = J := by rw [← hJ]; simp [jobC, numsD]
  rw [List.flatMap_append, hJ] at hpl
  have hLl : ((lookJ (E + 1) 6).flatMap jobC).length = 24 := by rw [flat_len (f := jobC) (z := 4) (fun _ => rfl), lookJ_length]
  obtain ⟨Y, hW1⟩ := hW1
  have hwn := wrap_i64 (n := (js.length : Int) + 1 - 1) (by omega) (by omega)
  have hwn0 := wrap_i64 (n := (js.length : Int)) (by omega) (by omega)
  have hwT := wrap_i64 (n := (T : Int) - 1) (by omega) (by omega)
  have hwn6 := wrap_i64 (n := (js.length : Int) + 1 + 6) (by omega) (by omega)
  refine fv_enter_v Try.func6 rfl rfl fun Q hQ => ?_
  repeat' first
    | refine jw_ret (hQ _ _ (.inr rfl) ⟨5, _, _, rfl, rfl, ?_⟩)
    | refine jw_ret (hQ _ _ (.inr rfl) ⟨_, rfl, ?_⟩)
    | refine jw_seq_k fun K hK => ?_
    | refine jw_block ?_
    | (refine jw_skip ?_; try simp)
    | (refine jw_exit ?_; try simp)
    | (refine jw_cond rfl (fun hc => ?_) (fun hc => ?_) <;> (try simp at hc) <;> (try (exfalso; first | omega | exact absurd hc (by assumption))))
    | ((fail_if_success (refine jw_c (id := 3) ?_)); (refine jw_c ?_; simp (maxSteps := 1000000) [Try.f6, hw, hlj, show js.length + 1 ≤ 100 by omega, okCell]))
    | ((fail_if_success (refine jw_draw_j (id := 3) mixed (by kernel_rfl) ?_)); (refine jw_draw_j mixed (by kernel_rfl) ?_; simp (maxSteps := 1000000) [Try.f6, hw, hlj, show js.length + 1 ≤ 100 by omega, okCell]))
    | (first | (apply hK; clear hK) | (clear hK; apply hK; clear hK) | (clear hK; clear hK; apply hK; clear hK) | (clear hK; clear hK; clear hK; apply hK; clear hK))
    | exact hQ _ _ (.inl rfl) ⟨5, _, _, rfl, rfl, rfl⟩
    | refine hQ _ _ (.inl rfl) ⟨5, _, _, rfl, rfl, ?_⟩
    | refine hQ _ _ (.inl rfl) ⟨_, rfl, ?_⟩
    | (refine jl_f0 (f := 8) rfl rfl rfl rfl rfl (hjF) (by simp [BelL, Bel]) ?_; rintro d0 g ⟨rfl, rfl⟩; simp (maxSteps := 1000000) [renOb, renL, renD, renD_flat, renL_flat, Try.f6, hw, hlj, show js.length + 1 ≤ 100 by omega, okCell])
    | (refine jd_newc rfl rfl (by simp) ?_; simp (maxSteps := 1000000) [thD, thL, Try.f6, hw, hlj, show js.length + 1 ≤ 100 by omega, okCell])
    | (refine okN_or ?_; simp (maxSteps := 1000000) [thD, thL, Try.f6, hw, hlj, show js.length + 1 ≤ 100 by omega, okCell])
    | (refine okC_guard (fun hc => ?_) (fun hc => ?_) <;> (first | simp (maxSteps := 1000000) [hc, of_decide_eq_true hc, Try.f6, hw, hlj, show js.length + 1 ≤ 100 by omega, okCell] | simp (maxSteps := 1000000) [hc, of_decide_eq_false hc, Try.f6, hw, hlj, show js.length + 1 ≤ 100 by omega, okCell] | simp (maxSteps := 1000000) [hc, Try.f6, hw, hlj, show js.length + 1 ≤ 100 by omega, okCell]) <;> (try simp at hc) <;> (try (exfalso; first | omega | exact absurd hc (by assumption))))
    | (refine okJ_guard (fun hc => ?_) (fun hc => ?_) <;> (first | simp (maxSteps := 1000000) [hc, of_decide_eq_true hc, Try.f6, hw, hlj, show js.length + 1 ≤ 100 by omega, okCell] | simp (maxSteps := 1000000) [hc, of_decide_eq_false hc, Try.f6, hw, hlj, show js.length + 1 ≤ 100 by omega, okCell] | simp (maxSteps := 1000000) [hc, Try.f6, hw, hlj, show js.length + 1 ≤ 100 by omega, okCell]) <;> (try simp at hc) <;> (try (exfalso; first | omega | exact absurd hc (by assumption))))
    | (refine And.intro (by first | assumption | omega | (simp [BelL, Bel]; done) | (simp; omega)) ?_; try simp (maxSteps := 1000000) [Try.f6, hw, hlj, show js.length + 1 ≤ 100 by omega, okCell])
    | (refine okC_or ?_; simp (maxSteps := 1000000) [Try.f6, hw, hlj, show js.length + 1 ≤ 100 by omega, okCell])
  refine jw_view (view_lewS (σ0 := [some (.c J), none]) (by simp [← hJe])) ?_
  (refine jw_view (view_frz 0 _ rfl (by simp [BelL, Bel, thL_flat, thD_flat, hJb, hJl, hm, hJt])) ?_; simp (maxSteps := 1000000) [thL, thD, thS, thOb, thL_flat, thD_flat, hJb, hJl, hm, hJt])
  repeat' first
    | refine jw_ret (hQ _ _ (.inr rfl) ⟨5, _, _, rfl, rfl, ?_⟩)
    | refine jw_ret (hQ _ _ (.inr rfl) ⟨_, rfl, ?_⟩)
    | refine jw_seq_k fun K hK => ?_
    | refine jw_block ?_
    | (refine jw_skip ?_; try simp)
    | (refine jw_exit ?_; try simp)
    | (refine jw_cond rfl (fun hc => ?_) (fun hc => ?_) <;> (try simp at hc) <;> (try (exfalso; first | omega | exact absurd hc (by assumption))))
    | (refine jw_c ?_; simp (maxSteps := 1000000) [hw, hJl, hJo, hm, hLl, hW0, hW1, rpC, hwn, hwn0, hwn6, thS, thOb, show (js.length : Int) + 1 - 1 = js.length by omega, show js.length * 4 < js.length * 4 + 28 by omega, jobsD, show js.length + 1 ≤ 100 by omega, okCell, okCells_jobs])
    | (refine jw_draw_j mixed (by kernel_rfl) ?_; simp (maxSteps := 1000000) [hw, hJl, hJo, hm, hLl, hW0, hW1, rpC, hwn, hwn0, hwn6, thS, thOb, show (js.length : Int) + 1 - 1 = js.length by omega, show js.length * 4 < js.length * 4 + 28 by omega, jobsD, show js.length + 1 ≤ 100 by omega, okCell, okCells_jobs])
    | (first | (apply hK; clear hK) | (clear hK; apply hK; clear hK) | (clear hK; clear hK; apply hK; clear hK) | (clear hK; clear hK; clear hK; apply hK; clear hK))
    | exact hQ _ _ (.inl rfl) ⟨5, _, _, rfl, rfl, rfl⟩
    | refine hQ _ _ (.inl rfl) ⟨5, _, _, rfl, rfl, ?_⟩
    | refine hQ _ _ (.inl rfl) ⟨_, rfl, ?_⟩
    | (refine jl_call (f := 13) rfl rfl rfl rfl rfl (hlk) (by simp [BelL, Bel]) ?_; rintro r rfl; simp (maxSteps := 1000000) [hw, hJl, hJo, hm, hLl, hW0, hW1, rpC, hwn, hwn0, hwn6, thS, thOb, show (js.length : Int) + 1 - 1 = js.length by omega, show js.length * 4 < js.length * 4 + 28 by omega, jobsD, show js.length + 1 ≤ 100 by omega, okCell, okCells_jobs])
    | (refine jd_call (f := 13) rfl rfl rfl rfl rfl (hlk) (by simp [BelL, Bel]) ?_; simp (maxSteps := 1000000) [hw, hJl, hJo, hm, hLl, hW0, hW1, rpC, hwn, hwn0, hwn6, thS, thOb, show (js.length : Int) + 1 - 1 = js.length by omega, show js.length * 4 < js.length * 4 + 28 by omega, jobsD, show js.length + 1 ≤ 100 by omega, okCell, okCells_jobs])
    | (refine jl_fc (f := 9) rfl rfl rfl rfl rfl (hpl _ _ _ _ (by simp; omega) (by simp) (by simp)) ?_; rintro r σ' ⟨rfl, rfl⟩; simp (maxSteps := 1000000) [hw, hJl, hJo, hm, hLl, hW0, hW1, rpC, hwn, hwn0, hwn6, thS, thOb, show (js.length : Int) + 1 - 1 = js.length by omega, show js.length * 4 < js.length * 4 + 28 by omega, jobsD, show js.length + 1 ≤ 100 by omega, okCell, okCells_jobs])
    | (refine jd_newc rfl rfl (by simp) ?_; simp (maxSteps := 1000000) [thD, thL, hw, hJl, hJo, hm, hLl, hW0, hW1, rpC, hwn, hwn0, hwn6, thS, thOb, show (js.length : Int) + 1 - 1 = js.length by omega, show js.length * 4 < js.length * 4 + 28 by omega, jobsD, show js.length + 1 ≤ 100 by omega, okCell, okCells_jobs])
    | (refine okN_or ?_; simp (maxSteps := 1000000) [thD, thL, hw, hJl, hJo, hm, hLl, hW0, hW1, rpC, hwn, hwn0, hwn6, thS, thOb, show (js.length : Int) + 1 - 1 = js.length by omega, show js.length * 4 < js.length * 4 + 28 by omega, jobsD, show js.length + 1 ≤ 100 by omega, okCell, okCells_jobs])
    | (refine okC_guard (fun hc => ?_) (fun hc => ?_) <;> (first | simp (maxSteps := 1000000) [hc, of_decide_eq_true hc, hw, hJl, hJo, hm, hLl, hW0, hW1, rpC, hwn, hwn0, hwn6, thS, thOb, show (js.length : Int) + 1 - 1 = js.length by omega, show js.length * 4 < js.length * 4 + 28 by omega, jobsD, show js.length + 1 ≤ 100 by omega, okCell, okCells_jobs] | simp (maxSteps := 1000000) [hc, of_decide_eq_false hc, hw, hJl, hJo, hm, hLl, hW0, hW1, rpC, hwn, hwn0, hwn6, thS, thOb, show (js.length : Int) + 1 - 1 = js.length by omega, show js.length * 4 < js.length * 4 + 28 by omega, jobsD, show js.length + 1 ≤ 100 by omega, okCell, okCells_jobs] | simp (maxSteps := 1000000) [hc, hw, hJl, hJo, hm, hLl, hW0, hW1, rpC, hwn, hwn0, hwn6, thS, thOb, show (js.length : Int) + 1 - 1 = js.length by omega, show js.length * 4 < js.length * 4 + 28 by omega, jobsD, show js.length + 1 ≤ 100 by omega, okCell, okCells_jobs]) <;> (try simp at hc) <;> (try (exfalso; first | omega | exact absurd hc (by assumption))))
    | (refine okJ_guard (fun hc => ?_) (fun hc => ?_) <;> (first | simp (maxSteps := 1000000) [hc, of_decide_eq_true hc, hw, hJl, hJo, hm, hLl, hW0, hW1, rpC, hwn, hwn0, hwn6, thS, thOb, show (js.length : Int) + 1 - 1 = js.length by omega, show js.length * 4 < js.length * 4 + 28 by omega, jobsD, show js.length + 1 ≤ 100 by omega, okCell, okCells_jobs] | simp (maxSteps := 1000000) [hc, of_decide_eq_false hc, hw, hJl, hJo, hm, hLl, hW0, hW1, rpC, hwn, hwn0, hwn6, thS, thOb, show (js.length : Int) + 1 - 1 = js.length by omega, show js.length * 4 < js.length * 4 + 28 by omega, jobsD, show js.length + 1 ≤ 100 by omega, okCell, okCells_jobs] | simp (maxSteps := 1000000) [hc, hw, hJl, hJo, hm, hLl, hW0, hW1, rpC, hwn, hwn0, hwn6, thS, thOb, show (js.length : Int) + 1 - 1 = js.length by omega, show js.length * 4 < js.length * 4 + 28 by omega, jobsD, show js.length + 1 ≤ 100 by omega, okCell, okCells_jobs]) <;> (try simp at hc) <;> (try (exfalso; first | omega | exact absurd hc (by assumption))))
    | (refine And.intro (by first | assumption | omega | (simp [BelL, Bel]; done) | (simp; omega)) ?_; try simp (maxSteps := 1000000) [hw, hJl, hJo, hm, hLl, hW0, hW1, rpC, hwn, hwn0, hwn6, thS, thOb, show (js.length : Int) + 1 - 1 = js.length by omega, show js.length * 4 < js.length * 4 + 28 by omega, jobsD, show js.length + 1 ≤ 100 by omega, okCell, okCells_jobs])
    | (refine okC_or ?_; simp (maxSteps := 1000000) [hw, hJl, hJo, hm, hLl, hW0, hW1, rpC, hwn, hwn0, hwn6, thS, thOb, show (js.length : Int) + 1 - 1 = js.length by omega, show js.length * 4 < js.length * 4 + 28 by omega, jobsD, show js.length + 1 ≤ 100 by omega, okCell, okCells_jobs])
  refine jw_loop_v (fun m z => ∃ (a : Nat), (a ≤ 6) ∧ 6 - a = m ∧ z = ⟨[.any, .any, .any, .sl false J (js.length + 1), .any, .sl false W (js.length + 7), .any, .int .i64 T, .int .i64 a] ++ List.replicate 84 .any, []⟩) ⟨[.any, .any, .any, .sl false J (js.length + 1), .any, .sl false W (js.length + 7), .any, .int .i64 T, .int .i64 (0)] ++ List.replicate 84 .any, []⟩ (view_takeE (sl := [.any, .any, .any, .sl false J (js.length + 1), .any, .sl false W (js.length + 7), .any, .int .i64 T, .int .i64 (0)] ++ List.replicate 84 .any) (σ0 := []) 0 (by simp [hJb, hWb]) (by first | omega | simp) (by first | omega | (simp [hJb, hWb]; done) | (simp [hJb, hWb]; omega)) (by first | exact LewS.refl _ | simp [hJb, hWb]) (by simp [BelL, Bel, hJb, hWb]) (by simp [BelS, BelOb, BelL, Bel, hJb, hWb])) ⟨(0), ?_, rfl, rfl⟩ ?_
  rotate_left
  rintro m z ⟨a, hA, rfl, rfl⟩ KA hKA
  · have hwa := wrap_i64 (n := (a : Int) + 1) (by omega) (by omega)
    have hwb := wrap_i64 (n := (js.length : Int) + 1 + a) (by omega) (by omega)
    have hta : ((js.length : Int) + 1 + a).toNat = js.length + 1 + a := by omega
    by_cases hlt : a < 6
    · obtain ⟨X, hX⟩ := hW2 a hlt
      have hT1a := hT1 a (by omega)
      generalize hs : u.slots.getD a .none = s at *
      by_cases h0 : s = .none
      · have hc17 : (tell s).code = 17 := (tell_un s).2 h0
        have hne : ¬ (a : Int) = T - 1 := by
          rcases hT2 with h | h
          · omega
          · intro e
            rw [show T - 1 = a by omega, hs] at h
            exact h h0
        repeat' first
          | refine jw_ret (hQ _ _ (.inr rfl) ⟨5, _, _, rfl, rfl, ?_⟩)
          | refine jw_ret (hQ _ _ (.inr rfl) ⟨_, rfl, ?_⟩)
          | refine jw_seq_k fun K hK => ?_
          | refine jw_block ?_
          | (refine jw_skip ?_; try simp)
          | (refine jw_exit ?_; try simp)
          | (refine jw_cond rfl (fun hc => ?_) (fun hc => ?_) <;> (try simp at hc) <;> (try (exfalso; first | omega | exact absurd hc (by assumption))))
          | (refine jw_c ?_; simp (maxSteps := 1000000) [hlt, show (a : Int) < 6 by omega, hwb, hta, hX, hc17, hne, hwT, hwa, rpC, hW0, show (js.length + 1 + a) * 4 < js.length * 4 + 28 by omega, show (0 : Int) ≤ js.length + 1 + a by omega, show (js.length : Int) + 1 + a < js.length + 7 by omega])
          | (refine jw_draw_j mixed (by kernel_rfl) ?_; simp (maxSteps := 1000000) [hlt, show (a : Int) < 6 by omega, hwb, hta, hX, hc17, hne, hwT, hwa, rpC, hW0, show (js.length + 1 + a) * 4 < js.length * 4 + 28 by omega, show (0 : Int) ≤ js.length + 1 + a by omega, show (js.length : Int) + 1 + a < js.length + 7 by omega])
          | (first | (apply hK; clear hK) | (clear hK; apply hK; clear hK) | (clear hK; clear hK; apply hK; clear hK) | (clear hK; clear hK; clear hK; apply hK; clear hK))
          | exact hQ _ _ (.inl rfl) ⟨5, _, _, rfl, rfl, rfl⟩
          | refine hQ _ _ (.inl rfl) ⟨5, _, _, rfl, rfl, ?_⟩
          | refine hQ _ _ (.inl rfl) ⟨_, rfl, ?_⟩
          | (refine jd_newc rfl rfl (by simp) ?_; simp (maxSteps := 1000000) [thD, thL, hlt, show (a : Int) < 6 by omega, hwb, hta, hX, hc17, hne, hwT, hwa, rpC, hW0, show (js.length + 1 + a) * 4 < js.length * 4 + 28 by omega, show (0 : Int) ≤ js.length + 1 + a by omega, show (js.length : Int) + 1 + a < js.length + 7 by omega])
          | (refine okN_or ?_; simp (maxSteps := 1000000) [thD, thL, hlt, show (a : Int) < 6 by omega, hwb, hta, hX, hc17, hne, hwT, hwa, rpC, hW0, show (js.length + 1 + a) * 4 < js.length * 4 + 28 by omega, show (0 : Int) ≤ js.length + 1 + a by omega, show (js.length : Int) + 1 + a < js.length + 7 by omega])
          | (refine okC_guard (fun hc => ?_) (fun hc => ?_) <;> (first | simp (maxSteps := 1000000) [hc, of_decide_eq_true hc, hlt, show (a : Int) < 6 by omega, hwb, hta, hX, hc17, hne, hwT, hwa, rpC, hW0, show (js.length + 1 + a) * 4 < js.length * 4 + 28 by omega, show (0 : Int) ≤ js.length + 1 + a by omega, show (js.length : Int) + 1 + a < js.length + 7 by omega] | simp (maxSteps := 1000000) [hc, of_decide_eq_false hc, hlt, show (a : Int) < 6 by omega, hwb, hta, hX, hc17, hne, hwT, hwa, rpC, hW0, show (js.length + 1 + a) * 4 < js.length * 4 + 28 by omega, show (0 : Int) ≤ js.length + 1 + a by omega, show (js.length : Int) + 1 + a < js.length + 7 by omega] | simp (maxSteps := 1000000) [hc, hlt, show (a : Int) < 6 by omega, hwb, hta, hX, hc17, hne, hwT, hwa, rpC, hW0, show (js.length + 1 + a) * 4 < js.length * 4 + 28 by omega, show (0 : Int) ≤ js.length + 1 + a by omega, show (js.length : Int) + 1 + a < js.length + 7 by omega]) <;> (try simp at hc) <;> (try (exfalso; first | omega | exact absurd hc (by assumption))))
          | (refine okJ_guard (fun hc => ?_) (fun hc => ?_) <;> (first | simp (maxSteps := 1000000) [hc, of_decide_eq_true hc, hlt, show (a : Int) < 6 by omega, hwb, hta, hX, hc17, hne, hwT, hwa, rpC, hW0, show (js.length + 1 + a) * 4 < js.length * 4 + 28 by omega, show (0 : Int) ≤ js.length + 1 + a by omega, show (js.length : Int) + 1 + a < js.length + 7 by omega] | simp (maxSteps := 1000000) [hc, of_decide_eq_false hc, hlt, show (a : Int) < 6 by omega, hwb, hta, hX, hc17, hne, hwT, hwa, rpC, hW0, show (js.length + 1 + a) * 4 < js.length * 4 + 28 by omega, show (0 : Int) ≤ js.length + 1 + a by omega, show (js.length : Int) + 1 + a < js.length + 7 by omega] | simp (maxSteps := 1000000) [hc, hlt, show (a : Int) < 6 by omega, hwb, hta, hX, hc17, hne, hwT, hwa, rpC, hW0, show (js.length + 1 + a) * 4 < js.length * 4 + 28 by omega, show (0 : Int) ≤ js.length + 1 + a by omega, show (js.length : Int) + 1 + a < js.length + 7 by omega]) <;> (try simp at hc) <;> (try (exfalso; first | omega | exact absurd hc (by assumption))))
          | (refine And.intro (by first | assumption | omega | (simp [BelL, Bel]; done) | (simp; omega)) ?_; try simp (maxSteps := 1000000) [hlt, show (a : Int) < 6 by omega, hwb, hta, hX, hc17, hne, hwT, hwa, rpC, hW0, show (js.length + 1 + a) * 4 < js.length * 4 + 28 by omega, show (0 : Int) ≤ js.length + 1 + a by omega, show (js.length : Int) + 1 + a < js.length + 7 by omega])
          | (refine okC_or ?_; simp (maxSteps := 1000000) [hlt, show (a : Int) < 6 by omega, hwb, hta, hX, hc17, hne, hwT, hwa, rpC, hW0, show (js.length + 1 + a) * 4 < js.length * 4 + 28 by omega, show (0 : Int) ≤ js.length + 1 + a by omega, show (js.length : Int) + 1 + a < js.length + 7 by omega])
        refine hKA (6 - (a + 1)) _ ⟨[.any, .any, .any, .sl false J (js.length + 1), .any, .sl false W (js.length + 7), .any, .int .i64 T, .int .i64 (a + 1)] ++ List.replicate 84 .any, []⟩ (by omega) (view_takeE (sl := [.any, .any, .any, .sl false J (js.length + 1), .any, .sl false W (js.length + 7), .any, .int .i64 T, .int .i64 (a + 1)] ++ List.replicate 84 .any) (σ0 := []) 0 (by simp [hJb, hWb]) (by first | omega | simp) (by first | omega | (simp [hJb, hWb]; done) | (simp [hJb, hWb]; omega)) (by first | exact LewS.refl _ | simp [hJb, hWb]) (by simp [BelL, Bel, hJb, hWb]) (by simp [BelS, BelOb, BelL, Bel, hJb, hWb])) ⟨(a + 1), ?_, rfl, rfl⟩
        omega
      · have hc17 : ¬ (tell s).code = 17 := fun h => h0 ((tell_un s).1 h)
        have hlt2 : ¬ (T : Int) ≤ a := by have := hT1a h0; omega
        repeat' first
          | refine jw_ret (hQ _ _ (.inr rfl) ⟨5, _, _, rfl, rfl, ?_⟩)
          | refine jw_ret (hQ _ _ (.inr rfl) ⟨_, rfl, ?_⟩)
          | refine jw_seq_k fun K hK => ?_
          | refine jw_block ?_
          | (refine jw_skip ?_; try simp)
          | (refine jw_exit ?_; try simp)
          | (refine jw_cond rfl (fun hc => ?_) (fun hc => ?_) <;> (try simp at hc) <;> (try (exfalso; first | omega | exact absurd hc (by assumption))))
          | (refine jw_c ?_; simp (maxSteps := 1000000) [hlt, show (a : Int) < 6 by omega, hwb, hta, hX, hc17, hlt2, hwT, hwa, rpC, hW0, show (js.length + 1 + a) * 4 < js.length * 4 + 28 by omega, show (0 : Int) ≤ js.length + 1 + a by omega, show (js.length : Int) + 1 + a < js.length + 7 by omega])
          | (refine jw_draw_j mixed (by kernel_rfl) ?_; simp (maxSteps := 1000000) [hlt, show (a : Int) < 6 by omega, hwb, hta, hX, hc17, hlt2, hwT, hwa, rpC, hW0, show (js.length + 1 + a) * 4 < js.length * 4 + 28 by omega, show (0 : Int) ≤ js.length + 1 + a by omega, show (js.length : Int) + 1 + a < js.length + 7 by omega])
          | (first | (apply hK; clear hK) | (clear hK; apply hK; clear hK) | (clear hK; clear hK; apply hK; clear hK) | (clear hK; clear hK; clear hK; apply hK; clear hK))
          | exact hQ _ _ (.inl rfl) ⟨5, _, _, rfl, rfl, rfl⟩
          | refine hQ _ _ (.inl rfl) ⟨5, _, _, rfl, rfl, ?_⟩
          | refine hQ _ _ (.inl rfl) ⟨_, rfl, ?_⟩
          | (refine jd_newc rfl rfl (by simp) ?_; simp (maxSteps := 1000000) [thD, thL, hlt, show (a : Int) < 6 by omega, hwb, hta, hX, hc17, hlt2, hwT, hwa, rpC, hW0, show (js.length + 1 + a) * 4 < js.length * 4 + 28 by omega, show (0 : Int) ≤ js.length + 1 + a by omega, show (js.length : Int) + 1 + a < js.length + 7 by omega])
          | (refine okN_or ?_; simp (maxSteps := 1000000) [thD, thL, hlt, show (a : Int) < 6 by omega, hwb, hta, hX, hc17, hlt2, hwT, hwa, rpC, hW0, show (js.length + 1 + a) * 4 < js.length * 4 + 28 by omega, show (0 : Int) ≤ js.length + 1 + a by omega, show (js.length : Int) + 1 + a < js.length + 7 by omega])
          | (refine okC_guard (fun hc => ?_) (fun hc => ?_) <;> (first | simp (maxSteps := 1000000) [hc, of_decide_eq_true hc, hlt, show (a : Int) < 6 by omega, hwb, hta, hX, hc17, hlt2, hwT, hwa, rpC, hW0, show (js.length + 1 + a) * 4 < js.length * 4 + 28 by omega, show (0 : Int) ≤ js.length + 1 + a by omega, show (js.length : Int) + 1 + a < js.length + 7 by omega] | simp (maxSteps := 1000000) [hc, of_decide_eq_false hc, hlt, show (a : Int) < 6 by omega, hwb, hta, hX, hc17, hlt2, hwT, hwa, rpC, hW0, show (js.length + 1 + a) * 4 < js.length * 4 + 28 by omega, show (0 : Int) ≤ js.length + 1 + a by omega, show (js.length : Int) + 1 + a < js.length + 7 by omega] | simp (maxSteps := 1000000) [hc, hlt, show (a : Int) < 6 by omega, hwb, hta, hX, hc17, hlt2, hwT, hwa, rpC, hW0, show (js.length + 1 + a) * 4 < js.length * 4 + 28 by omega, show (0 : Int) ≤ js.length + 1 + a by omega, show (js.length : Int) + 1 + a < js.length + 7 by omega]) <;> (try simp at hc) <;> (try (exfalso; first | omega | exact absurd hc (by assumption))))
          | (refine okJ_guard (fun hc => ?_) (fun hc => ?_) <;> (first | simp (maxSteps := 1000000) [hc, of_decide_eq_true hc, hlt, show (a : Int) < 6 by omega, hwb, hta, hX, hc17, hlt2, hwT, hwa, rpC, hW0, show (js.length + 1 + a) * 4 < js.length * 4 + 28 by omega, show (0 : Int) ≤ js.length + 1 + a by omega, show (js.length : Int) + 1 + a < js.length + 7 by omega] | simp (maxSteps := 1000000) [hc, of_decide_eq_false hc, hlt, show (a : Int) < 6 by omega, hwb, hta, hX, hc17, hlt2, hwT, hwa, rpC, hW0, show (js.length + 1 + a) * 4 < js.length * 4 + 28 by omega, show (0 : Int) ≤ js.length + 1 + a by omega, show (js.length : Int) + 1 + a < js.length + 7 by omega] | simp (maxSteps := 1000000) [hc, hlt, show (a : Int) < 6 by omega, hwb, hta, hX, hc17, hlt2, hwT, hwa, rpC, hW0, show (js.length + 1 + a) * 4 < js.length * 4 + 28 by omega, show (0 : Int) ≤ js.length + 1 + a by omega, show (js.length : Int) + 1 + a < js.length + 7 by omega]) <;> (try simp at hc) <;> (try (exfalso; first | omega | exact absurd hc (by assumption))))
          | (refine And.intro (by first | assumption | omega | (simp [BelL, Bel]; done) | (simp; omega)) ?_; try simp (maxSteps := 1000000) [hlt, show (a : Int) < 6 by omega, hwb, hta, hX, hc17, hlt2, hwT, hwa, rpC, hW0, show (js.length + 1 + a) * 4 < js.length * 4 + 28 by omega, show (0 : Int) ≤ js.length + 1 + a by omega, show (js.length : Int) + 1 + a < js.length + 7 by omega])
          | (refine okC_or ?_; simp (maxSteps := 1000000) [hlt, show (a : Int) < 6 by omega, hwb, hta, hX, hc17, hlt2, hwT, hwa, rpC, hW0, show (js.length + 1 + a) * 4 < js.length * 4 + 28 by omega, show (0 : Int) ≤ js.length + 1 + a by omega, show (js.length : Int) + 1 + a < js.length + 7 by omega])
        refine hKA (6 - (a + 1)) _ ⟨[.any, .any, .any, .sl false J (js.length + 1), .any, .sl false W (js.length + 7), .any, .int .i64 T, .int .i64 (a + 1)] ++ List.replicate 84 .any, []⟩ (by omega) (view_takeE (sl := [.any, .any, .any, .sl false J (js.length + 1), .any, .sl false W (js.length + 7), .any, .int .i64 T, .int .i64 (a + 1)] ++ List.replicate 84 .any) (σ0 := []) 0 (by simp [hJb, hWb]) (by first | omega | simp) (by first | omega | (simp [hJb, hWb]; done) | (simp [hJb, hWb]; omega)) (by first | exact LewS.refl _ | simp [hJb, hWb]) (by simp [BelL, Bel, hJb, hWb]) (by simp [BelS, BelOb, BelL, Bel, hJb, hWb])) ⟨(a + 1), ?_, rfl, rfl⟩
        omega
    · repeat' first
        | refine jw_seq_k fun K hK => ?_
        | refine jw_block ?_
        | (refine jw_skip ?_; try simp)
        | (refine jw_exit ?_; try simp)
        | (refine jw_cond rfl (fun hc => ?_) (fun hc => ?_) <;> (try simp at hc) <;> (try (exfalso; first | omega | exact absurd hc (by assumption))))
        | (refine jw_c ?_; simp (maxSteps := 1000000) [show ¬ (a : Int) < 6 by omega, show (T : Int) ≤ 6 by omega])
        | (refine jw_draw_j mixed (by kernel_rfl) ?_; simp (maxSteps := 1000000) [show ¬ (a : Int) < 6 by omega, show (T : Int) ≤ 6 by omega])
        | (first | (apply hK; clear hK) | (clear hK; apply hK; clear hK) | (clear hK; clear hK; apply hK; clear hK) | (clear hK; clear hK; clear hK; apply hK; clear hK))
        | (refine jw_ret (hQ _ _ (.inr rfl) (ret_ok 0 ?_ (by first | omega | simp))); simp (maxSteps := 1000000) [okRet, BelL, Bel, BelS, BelOb, show ¬ (a : Int) < 6 by omega, show (T : Int) ≤ 6 by omega])
        | (refine hQ _ _ (.inl rfl) (ret_ok 0 ?_ (by first | omega | simp)); simp (maxSteps := 1000000) [okRet, BelL, Bel, BelS, BelOb, show ¬ (a : Int) < 6 by omega, show (T : Int) ≤ 6 by omega])
        | (refine jd_newc rfl rfl (by simp) ?_; simp (maxSteps := 1000000) [thD, thL, show ¬ (a : Int) < 6 by omega, show (T : Int) ≤ 6 by omega])
        | (refine okN_or ?_; simp (maxSteps := 1000000) [thD, thL, show ¬ (a : Int) < 6 by omega, show (T : Int) ≤ 6 by omega])
        | (refine okC_guard (fun hc => ?_) (fun hc => ?_) <;> (first | simp (maxSteps := 1000000) [hc, of_decide_eq_true hc, show ¬ (a : Int) < 6 by omega, show (T : Int) ≤ 6 by omega] | simp (maxSteps := 1000000) [hc, of_decide_eq_false hc, show ¬ (a : Int) < 6 by omega, show (T : Int) ≤ 6 by omega] | simp (maxSteps := 1000000) [hc, show ¬ (a : Int) < 6 by omega, show (T : Int) ≤ 6 by omega]) <;> (try simp at hc) <;> (try (exfalso; first | omega | exact absurd hc (by assumption))))
        | (refine okJ_guard (fun hc => ?_) (fun hc => ?_) <;> (first | simp (maxSteps := 1000000) [hc, of_decide_eq_true hc, show ¬ (a : Int) < 6 by omega, show (T : Int) ≤ 6 by omega] | simp (maxSteps := 1000000) [hc, of_decide_eq_false hc, show ¬ (a : Int) < 6 by omega, show (T : Int) ≤ 6 by omega] | simp (maxSteps := 1000000) [hc, show ¬ (a : Int) < 6 by omega, show (T : Int) ≤ 6 by omega]) <;> (try simp at hc) <;> (try (exfalso; first | omega | exact absurd hc (by assumption))))
        | (refine And.intro (by first | assumption | omega | (simp [BelL, Bel]; done) | (simp; omega)) ?_; try simp (maxSteps := 1000000) [show ¬ (a : Int) < 6 by omega, show (T : Int) ≤ 6 by omega])
        | (refine okC_or ?_; simp (maxSteps := 1000000) [show ¬ (a : Int) < 6 by omega, show (T : Int) ≤ 6 by omega])
  · omega

theorem unitTail (ls : List (List D)) (hr : Vm.Rows (Parts TaskP) ls) (hz : ls.length * 48 ≤ 140737488351232) (_ : ls.length ≤ 9223372036854775807) : FV Try.prog [] 6 [.sl false ls.flatten ls.length] (fun r => r = .bool true) := by
  obtain ⟨l, h1, h2, h3⟩ := tasks_of hr
  rw [h2, h3]
  exact unitTailW l (by omega) h1
end Go.Proofs.Ytkjliaapdjapmaa
