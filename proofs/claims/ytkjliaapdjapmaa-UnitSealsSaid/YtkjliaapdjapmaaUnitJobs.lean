/- The jobs that the laws of units take. -/
import Derived.Test.YtkjliaapdjapmaaUnitPlay
import Derived.Test.YtkjliaapdjapmaaPicked
import Derived.Test.YtkjliaapdjapmaaOctets
import Derived.Test.YtkjliaapdjapmaaSameBytes
set_option linter.unusedVariables false
set_option linter.unusedSimpArgs false
set_option maxRecDepth 20000
set_option maxHeartbeats 20000000
namespace Go.Proofs.Ytkjliaapdjapmaa
open Go Go.Vm Go.Proofs

structure Task where
  kind : Int
  addr : Int
  epoch : Int
  data : List Int
def taskC (t : Task) : List D := [.int .i64 t.kind, .int .i64 t.addr, .int .i64 t.epoch, bytesD t.data]
@[simp] theorem taskC_length (j : Task) : (taskC j).length = 4 := rfl
def tasksD (l : List Task) : D := .sl false (l.flatMap taskC) l.length
@[simp] theorem belL_task (n : Nat) (r : Task) : BelL n (taskC r) := ⟨trivial, trivial, trivial, bel_nums _ _ _, trivial⟩
@[simp] theorem belL_tasks (n : Nat) (l : List Task) : BelL n (l.flatMap taskC) := belL_flat (belL_task n) l
@[simp] theorem bel_tasks (n : Nat) (l : List Task) : Bel n (tasksD l) := belL_tasks n l

def jobOf (t : Task) (e : Int) : Job × Int :=
  let k := 1 + t.kind % 6
  let e' := if k = 5 then e + (1 + t.epoch % 2) else e
  (⟨k, if k ≠ 5 ∧ t.epoch % 9 = 8 then e' - 1 else e', if k = 6 then t.addr % 24 else t.addr % 6, if k = 1 then t.data.take 10 else []⟩, e')
def jobsR : Int → List Task → List Job × Int
  | e, [] => ([], e)
  | e, t :: l => ((jobOf t e).1 :: (jobsR (jobOf t e).2 l).1, (jobsR (jobOf t e).2 l).2)
theorem jobs_append (e : Int) (a b : List Task) : jobsR e (a ++ b) = ((jobsR e a).1 ++ (jobsR (jobsR e a).2 b).1, (jobsR (jobsR e a).2 b).2) := by
  induction a generalizing e with
  | nil => rfl
  | cons j a ih => simp [jobsR, ih]
@[simp] theorem jobs_length (e : Int) (l : List Task) : (jobsR e l).1.length = l.length := by
  induction l generalizing e with
  | nil => rfl
  | cons j l ih => simp [jobsR, ih]
theorem jobs_take (e : Int) (l : List Task) {i : Nat} (hi : i < l.length) : jobsR e (l.take (i + 1)) = ((jobsR e (l.take i)).1 ++ [(jobOf l[i] (jobsR e (l.take i)).2).1], (jobOf l[i] (jobsR e (l.take i)).2).2) := by
  rw [List.take_succ_eq_append_getElem hi, jobs_append]
  simp [jobsR]
theorem jobOf_epoch (t : Task) (e : Int) : e ≤ (jobOf t e).2 ∧ (jobOf t e).2 ≤ e + 2 := by
  unfold jobOf; dsimp only; split <;> omega
theorem jobs_epoch (e : Int) (l : List Task) : e ≤ (jobsR e l).2 ∧ (jobsR e l).2 ≤ e + 2 * l.length := by
  induction l generalizing e with
  | nil => simp [jobsR]
  | cons t l ih =>
    have h1 := jobOf_epoch t e
    have h2 := ih (jobOf t e).2
    simp only [jobsR, List.length_cons]
    omega
theorem jobs_data (e : Int) (l : List Task) : ∀ j ∈ (jobsR e l).1, j.data.length ≤ 10 := by
  induction l generalizing e with
  | nil => simp [jobsR]
  | cons t l ih =>
    intro j hj
    simp only [jobsR, List.mem_cons] at hj
    rcases hj with rfl | hj
    · unfold jobOf; dsimp only; split
      · simp; omega
      · simp
    · exact ih _ j hj

/-- What Jobs returns is the caller's own. -/
theorem jobsC {G : Globals} (l : List Task) (hl : l.length ≤ 140737488351232) (hd : ∀ t ∈ l, t.data.length ≤ 140737488355328) (n : Nat) (hn : n ≤ 100) :
    FC Try.prog G 8 [tasksD l, .int .i64 n] [] (fun d σ' => d = .tup [.ms 0 ((jobsR 0 (l.take n)).1.length * 4) 0 (jobsR 0 (l.take n)).1.length 4, .int .i64 (jobsR 0 (l.take n)).2] ∧ σ' = [some (.c ((jobsR 0 (l.take n)).1.flatMap jobC))]) := by
  refine fc_enter_v Try.func8 rfl rfl fun Q hQ => ?_
  repeat' first
    | refine jw_ret (hQ _ _ (.inr rfl) ⟨5, _, _, rfl, rfl, ?_⟩)
    | refine jw_ret (hQ _ _ (.inr rfl) ⟨_, rfl, ?_⟩)
    | refine jw_seq_k fun K hK => ?_
    | refine jw_block ?_
    | (refine jw_skip ?_; try simp)
    | (refine jw_exit ?_; try simp)
    | (refine jw_cond rfl (fun hc => ?_) (fun hc => ?_) <;> (try simp at hc) <;> (try (exfalso; first | omega | exact absurd hc (by assumption))))
    | (refine jw_c ?_; simp (maxSteps := 1000000) [Try.f8, tasksD])
    | (refine jw_draw_j mixed (by kernel_rfl) ?_; simp (maxSteps := 1000000) [Try.f8, tasksD])
    | (first | (apply hK; clear hK) | (clear hK; apply hK; clear hK) | (clear hK; clear hK; apply hK; clear hK) | (clear hK; clear hK; clear hK; apply hK; clear hK))
    | exact hQ _ _ (.inl rfl) ⟨5, _, _, rfl, rfl, rfl⟩
    | refine hQ _ _ (.inl rfl) ⟨5, _, _, rfl, rfl, ?_⟩
    | refine hQ _ _ (.inl rfl) ⟨_, rfl, ?_⟩
    | (refine jd_newc rfl rfl (by simp) ?_; simp (maxSteps := 1000000) [thD, thL, Try.f8, tasksD])
    | (refine okN_or ?_; simp (maxSteps := 1000000) [thD, thL, Try.f8, tasksD])
    | (refine okC_guard (fun hc => ?_) (fun hc => ?_) <;> (first | simp (maxSteps := 1000000) [hc, of_decide_eq_true hc, Try.f8, tasksD] | simp (maxSteps := 1000000) [hc, of_decide_eq_false hc, Try.f8, tasksD] | simp (maxSteps := 1000000) [hc, Try.f8, tasksD]) <;> (try simp at hc) <;> (try (exfalso; first | omega | exact absurd hc (by assumption))))
    | (refine okJ_guard (fun hc => ?_) (fun hc => ?_) <;> (first | simp (maxSteps := 1000000) [hc, of_decide_eq_true hc, Try.f8, tasksD] | simp (maxSteps := 1000000) [hc, of_decide_eq_false hc, Try.f8, tasksD] | simp (maxSteps := 1000000) [hc, Try.f8, tasksD]) <;> (try simp at hc) <;> (try (exfalso; first | omega | exact absurd hc (by assumption))))
    | (refine And.intro (by first | assumption | omega | (simp [BelL, Bel]; done) | (simp; omega)) ?_; try simp (maxSteps := 1000000) [Try.f8, tasksD])
    | (refine okC_or ?_; simp (maxSteps := 1000000) [Try.f8, tasksD])
  refine jw_loop_v (fun m z => ∃ (i : Nat), (i ≤ n ∧ i ≤ l.length) ∧ n - i = m ∧ z = ⟨[tasksD l, .int .i64 n] ++ List.replicate 4 .any ++ [.ms 0 (i * 4) 0 i 4, .int .i64 (jobsR 0 (l.take i)).2, .int .i64 i] ++ List.replicate 81 .any, [some (.c ((jobsR 0 (l.take i)).1.flatMap jobC))]⟩) ⟨[tasksD l, .int .i64 n] ++ List.replicate 4 .any ++ [.ms 0 ((0) * 4) 0 (0) 4, .int .i64 (jobsR 0 (l.take (0))).2, .int .i64 (0)] ++ List.replicate 81 .any, [some (.c ((jobsR 0 (l.take (0))).1.flatMap jobC))]⟩ ((view_nil 6 4 rfl).trans (view_takeE (sl := [tasksD l, .int .i64 n] ++ List.replicate 4 .any ++ [.ms 0 ((0) * 4) 0 (0) 4, .int .i64 (jobsR 0 (l.take (0))).2, .int .i64 (0)] ++ List.replicate 81 .any) (σ0 := [some (.c ((jobsR 0 (l.take (0))).1.flatMap jobC))]) 1 (by simp [jobsR, tasksD, thL, thD, thS, thOb]) (by first | omega | simp) (by first | omega | (simp [jobsR, tasksD, thL, thD, thS, thOb]; done) | (simp [jobsR, tasksD, thL, thD, thS, thOb]; omega)) (by first | exact LewS.refl _ | simp [jobsR, tasksD, thL, thD, thS, thOb]) (by simp [BelL, Bel, thL, thD, thS, thOb, jobsR, tasksD]) (by simp [BelS, BelOb, BelL, Bel, thL, thD, thS, thOb, jobsR, tasksD]))) ⟨(0), ?_, rfl, rfl⟩ ?_
  rotate_left
  rintro m z ⟨i, hA, rfl, rfl⟩ KA hKA
  · obtain ⟨hi, hil⟩ := hA
    have hw := wrap_i64 (n := (i : Int) + 1) (by omega) (by omega)
    have hep := jobs_epoch 0 (l.take i)
    rw [List.length_take, Nat.min_eq_left hil] at hep
    by_cases hlt : i < n ∧ i < l.length
    · obtain ⟨hln, hll⟩ := hlt
      have hdr := flat_drop (f := taskC) (z := 4) (fun _ => rfl) l i hll
      have hlen := flat_len (f := taskC) (z := 4) (fun _ => rfl) l
      have hlr := flat_len (f := jobC) (z := 4) (fun _ => rfl) (jobsR 0 (l.take i)).1
      rw [jobs_length, List.length_take, Nat.min_eq_left hil] at hlr
      have hT := jobs_take 0 l hll
      have hdt := hd _ (List.getElem_mem hll)
      generalize hE : (jobsR 0 (l.take i)).2 = E at *
      rcases hx : l[i] with ⟨k, a, e, b⟩
      rw [hx] at hdt hT
      dsimp only at hdt
      have hk0 := Int.emod_nonneg k (show (6 : Int) ≠ 0 by omega)
      have hk1 := Int.emod_lt_of_pos k (show (0 : Int) < 6 by omega)
      have hw2 := wrap_i64 (n := 1 + e % 2) (by omega) (by omega)
      have hw3 := wrap_i64 (n := E + (1 + e % 2)) (by omega) (by omega)
      have hw4 := wrap_i64 (n := E - 1) (by omega) (by omega)
      obtain ⟨q, hq⟩ : ∃ q, k % 6 = q := ⟨_, rfl⟩
      rw [hq] at hk0 hk1
      have hw1 := wrap_i64 (n := 1 + q) (by omega) (by omega)
      have hqq : q = 0 ∨ q = 4 ∨ q = 5 ∨ (q ≠ 0 ∧ q ≠ 4 ∧ q ≠ 5) := by omega
      rcases hqq with rfl | rfl | rfl | ⟨n0, n4, n5⟩
      · by_cases h9 : e % 9 = 8
        all_goals
          repeat' first
            | refine jw_ret (hQ _ _ (.inr rfl) ⟨5, _, _, rfl, rfl, ?_⟩)
            | refine jw_ret (hQ _ _ (.inr rfl) ⟨_, rfl, ?_⟩)
            | refine jw_seq_k fun K hK => ?_
            | refine jw_block ?_
            | (refine jw_skip ?_; try simp)
            | (refine jw_exit ?_; try simp)
            | (refine jw_cond rfl (fun hc => ?_) (fun hc => ?_) <;> (try simp at hc) <;> (try (exfalso; first | omega | exact absurd hc (by assumption))))
            | (refine jw_c ?_; simp (maxSteps := 1000000) [hq, h9, hln, hll, tasksD, hdr, hx, hlen, hlr, hw, hw1, hw2, hw3, hw4, taskC, numsD, okCell, show i * 4 < l.length * 4 by omega, show i + 1 ≤ 400 by omega])
            | (refine jw_draw_e (id := 6) [(15, 2), (16, 2)] mixed (by kernel_rfl) (by kernel_rfl) ?_; simp (maxSteps := 1000000) [hq, h9, hln, hll, tasksD, hdr, hx, hlen, hlr, hw, hw1, hw2, hw3, hw4, taskC, numsD, okCell, show i * 4 < l.length * 4 by omega, show i + 1 ≤ 400 by omega])
            | (refine jw_draw_j mixed (by kernel_rfl) ?_; simp (maxSteps := 1000000) [hq, h9, hln, hll, tasksD, hdr, hx, hlen, hlr, hw, hw1, hw2, hw3, hw4, taskC, numsD, okCell, show i * 4 < l.length * 4 by omega, show i + 1 ≤ 400 by omega])
            | (first | (apply hK; clear hK) | (clear hK; apply hK; clear hK) | (clear hK; clear hK; apply hK; clear hK) | (clear hK; clear hK; clear hK; apply hK; clear hK))
            | exact hQ _ _ (.inl rfl) ⟨5, _, _, rfl, rfl, rfl⟩
            | refine hQ _ _ (.inl rfl) ⟨5, _, _, rfl, rfl, ?_⟩
            | refine hQ _ _ (.inl rfl) ⟨_, rfl, ?_⟩
            | (refine jl_call (f := 11) rfl rfl rfl rfl rfl (pickedG _ _ (by omega) (by omega)) (by simp [BelL, Bel]) ?_; rintro r rfl; simp (maxSteps := 1000000) [hq, h9, hln, hll, tasksD, hdr, hx, hlen, hlr, hw, hw1, hw2, hw3, hw4, taskC, numsD, okCell, show i * 4 < l.length * 4 by omega, show i + 1 ≤ 400 by omega])
            | (refine jd_call (f := 11) rfl rfl rfl rfl rfl (pickedG _ _ (by omega) (by omega)) (by simp [BelL, Bel]) ?_; simp (maxSteps := 1000000) [hq, h9, hln, hll, tasksD, hdr, hx, hlen, hlr, hw, hw1, hw2, hw3, hw4, taskC, numsD, okCell, show i * 4 < l.length * 4 by omega, show i + 1 ≤ 400 by omega])
            | (refine js_call (f := 11) rfl rfl rfl rfl rfl (pickedG _ _ (by omega) (by omega)) (by simp [BelL, Bel]) rfl ?_; simp (maxSteps := 1000000) [hq, h9, hln, hll, tasksD, hdr, hx, hlen, hlr, hw, hw1, hw2, hw3, hw4, taskC, numsD, okCell, show i * 4 < l.length * 4 by omega, show i + 1 ≤ 400 by omega])
            | (refine jl_call (f := 12) rfl rfl rfl rfl rfl (octets b 10 (by omega) (by omega)) (by simp [BelL, Bel]) ?_; rintro r rfl; simp (maxSteps := 1000000) [hq, h9, hln, hll, tasksD, hdr, hx, hlen, hlr, hw, hw1, hw2, hw3, hw4, taskC, numsD, okCell, show i * 4 < l.length * 4 by omega, show i + 1 ≤ 400 by omega])
            | (refine jd_call (f := 12) rfl rfl rfl rfl rfl (octets b 10 (by omega) (by omega)) (by simp [BelL, Bel]) ?_; simp (maxSteps := 1000000) [hq, h9, hln, hll, tasksD, hdr, hx, hlen, hlr, hw, hw1, hw2, hw3, hw4, taskC, numsD, okCell, show i * 4 < l.length * 4 by omega, show i + 1 ≤ 400 by omega])
            | (refine js_call (f := 12) rfl rfl rfl rfl rfl (octets b 10 (by omega) (by omega)) (by simp [BelL, Bel]) rfl ?_; simp (maxSteps := 1000000) [hq, h9, hln, hll, tasksD, hdr, hx, hlen, hlr, hw, hw1, hw2, hw3, hw4, taskC, numsD, okCell, show i * 4 < l.length * 4 by omega, show i + 1 ≤ 400 by omega])
            | (refine jd_newc rfl rfl (by simp) ?_; simp (maxSteps := 1000000) [thD, thL, hq, h9, hln, hll, tasksD, hdr, hx, hlen, hlr, hw, hw1, hw2, hw3, hw4, taskC, numsD, okCell, show i * 4 < l.length * 4 by omega, show i + 1 ≤ 400 by omega])
            | (refine okN_or ?_; simp (maxSteps := 1000000) [thD, thL, hq, h9, hln, hll, tasksD, hdr, hx, hlen, hlr, hw, hw1, hw2, hw3, hw4, taskC, numsD, okCell, show i * 4 < l.length * 4 by omega, show i + 1 ≤ 400 by omega])
            | (refine js_newc rfl rfl (by simp) rfl ?_; simp (maxSteps := 1000000) [hq, h9, hln, hll, tasksD, hdr, hx, hlen, hlr, hw, hw1, hw2, hw3, hw4, taskC, numsD, okCell, show i * 4 < l.length * 4 by omega, show i + 1 ≤ 400 by omega])
            | (refine okM_or ?_; simp (maxSteps := 1000000) [hq, h9, hln, hll, tasksD, hdr, hx, hlen, hlr, hw, hw1, hw2, hw3, hw4, taskC, numsD, okCell, show i * 4 < l.length * 4 by omega, show i + 1 ≤ 400 by omega])
            | (refine okS_or ?_; simp (maxSteps := 1000000) [hq, h9, hln, hll, tasksD, hdr, hx, hlen, hlr, hw, hw1, hw2, hw3, hw4, taskC, numsD, okCell, show i * 4 < l.length * 4 by omega, show i + 1 ≤ 400 by omega])
            | (refine okS_guard (fun hc => ?_) (fun hc => ?_) <;> (first | simp (maxSteps := 1000000) [hc, of_decide_eq_true hc, hq, h9, hln, hll, tasksD, hdr, hx, hlen, hlr, hw, hw1, hw2, hw3, hw4, taskC, numsD, okCell, show i * 4 < l.length * 4 by omega, show i + 1 ≤ 400 by omega] | simp (maxSteps := 1000000) [hc, of_decide_eq_false hc, hq, h9, hln, hll, tasksD, hdr, hx, hlen, hlr, hw, hw1, hw2, hw3, hw4, taskC, numsD, okCell, show i * 4 < l.length * 4 by omega, show i + 1 ≤ 400 by omega] | simp (maxSteps := 1000000) [hc, hq, h9, hln, hll, tasksD, hdr, hx, hlen, hlr, hw, hw1, hw2, hw3, hw4, taskC, numsD, okCell, show i * 4 < l.length * 4 by omega, show i + 1 ≤ 400 by omega]) <;> (try simp at hc) <;> (try (exfalso; first | omega | exact absurd hc (by assumption))))
            | (refine okC_guard (fun hc => ?_) (fun hc => ?_) <;> (first | simp (maxSteps := 1000000) [hc, of_decide_eq_true hc, hq, h9, hln, hll, tasksD, hdr, hx, hlen, hlr, hw, hw1, hw2, hw3, hw4, taskC, numsD, okCell, show i * 4 < l.length * 4 by omega, show i + 1 ≤ 400 by omega] | simp (maxSteps := 1000000) [hc, of_decide_eq_false hc, hq, h9, hln, hll, tasksD, hdr, hx, hlen, hlr, hw, hw1, hw2, hw3, hw4, taskC, numsD, okCell, show i * 4 < l.length * 4 by omega, show i + 1 ≤ 400 by omega] | simp (maxSteps := 1000000) [hc, hq, h9, hln, hll, tasksD, hdr, hx, hlen, hlr, hw, hw1, hw2, hw3, hw4, taskC, numsD, okCell, show i * 4 < l.length * 4 by omega, show i + 1 ≤ 400 by omega]) <;> (try simp at hc) <;> (try (exfalso; first | omega | exact absurd hc (by assumption))))
            | (refine okJ_guard (fun hc => ?_) (fun hc => ?_) <;> (first | simp (maxSteps := 1000000) [hc, of_decide_eq_true hc, hq, h9, hln, hll, tasksD, hdr, hx, hlen, hlr, hw, hw1, hw2, hw3, hw4, taskC, numsD, okCell, show i * 4 < l.length * 4 by omega, show i + 1 ≤ 400 by omega] | simp (maxSteps := 1000000) [hc, of_decide_eq_false hc, hq, h9, hln, hll, tasksD, hdr, hx, hlen, hlr, hw, hw1, hw2, hw3, hw4, taskC, numsD, okCell, show i * 4 < l.length * 4 by omega, show i + 1 ≤ 400 by omega] | simp (maxSteps := 1000000) [hc, hq, h9, hln, hll, tasksD, hdr, hx, hlen, hlr, hw, hw1, hw2, hw3, hw4, taskC, numsD, okCell, show i * 4 < l.length * 4 by omega, show i + 1 ≤ 400 by omega]) <;> (try simp at hc) <;> (try (exfalso; first | omega | exact absurd hc (by assumption))))
            | (refine And.intro (by first | assumption | omega | (simp [BelL, Bel]; done) | (simp; omega)) ?_; try simp (maxSteps := 1000000) [hq, h9, hln, hll, tasksD, hdr, hx, hlen, hlr, hw, hw1, hw2, hw3, hw4, taskC, numsD, okCell, show i * 4 < l.length * 4 by omega, show i + 1 ≤ 400 by omega])
            | (refine okC_or ?_; simp (maxSteps := 1000000) [hq, h9, hln, hll, tasksD, hdr, hx, hlen, hlr, hw, hw1, hw2, hw3, hw4, taskC, numsD, okCell, show i * 4 < l.length * 4 by omega, show i + 1 ≤ 400 by omega])
          refine hKA (n - (i + 1)) _ ⟨[tasksD l, .int .i64 n] ++ List.replicate 4 .any ++ [.ms 0 ((i + 1) * 4) 0 (i + 1) 4, .int .i64 (jobsR 0 (l.take (i + 1))).2, .int .i64 (i + 1)] ++ List.replicate 81 .any, [some (.c ((jobsR 0 (l.take (i + 1))).1.flatMap jobC))]⟩ (by omega) (view_takeE (sl := [tasksD l, .int .i64 n] ++ List.replicate 4 .any ++ [.ms 0 ((i + 1) * 4) 0 (i + 1) 4, .int .i64 (jobsR 0 (l.take (i + 1))).2, .int .i64 (i + 1)] ++ List.replicate 81 .any) (σ0 := [some (.c ((jobsR 0 (l.take (i + 1))).1.flatMap jobC))]) 1 (by simp [hT, jobOf, hq, h9, jobC, numsD, tasksD, List.map_take, List.flatMap_append, show (i + 1) * 4 = i * 4 + 4 by omega]) (by first | omega | simp) (by first | omega | (simp [hT, jobOf, hq, h9, jobC, numsD, tasksD, List.map_take, List.flatMap_append, show (i + 1) * 4 = i * 4 + 4 by omega]; done) | (simp [hT, jobOf, hq, h9, jobC, numsD, tasksD, List.map_take, List.flatMap_append, show (i + 1) * 4 = i * 4 + 4 by omega]; omega)) (by first | exact LewS.refl _ | simp [hT, jobOf, hq, h9, jobC, numsD, tasksD, List.map_take, List.flatMap_append, show (i + 1) * 4 = i * 4 + 4 by omega]) (by simp [BelL, Bel, hT, jobOf, hq, h9, jobC, numsD, tasksD, List.map_take, List.flatMap_append, show (i + 1) * 4 = i * 4 + 4 by omega]) (by simp [BelS, BelOb, BelL, Bel, hT, jobOf, hq, h9, jobC, numsD, tasksD, List.map_take, List.flatMap_append, show (i + 1) * 4 = i * 4 + 4 by omega])) ⟨(i + 1), ?_, rfl, rfl⟩
          omega
      · by_cases h9 : e % 9 = 8
        all_goals
          repeat' first
            | refine jw_ret (hQ _ _ (.inr rfl) ⟨5, _, _, rfl, rfl, ?_⟩)
            | refine jw_ret (hQ _ _ (.inr rfl) ⟨_, rfl, ?_⟩)
            | refine jw_seq_k fun K hK => ?_
            | refine jw_block ?_
            | (refine jw_skip ?_; try simp)
            | (refine jw_exit ?_; try simp)
            | (refine jw_cond rfl (fun hc => ?_) (fun hc => ?_) <;> (try simp at hc) <;> (try (exfalso; first | omega | exact absurd hc (by assumption))))
            | (refine jw_c ?_; simp (maxSteps := 1000000) [hq, h9, hln, hll, tasksD, hdr, hx, hlen, hlr, hw, hw1, hw2, hw3, hw4, taskC, numsD, okCell, show i * 4 < l.length * 4 by omega, show i + 1 ≤ 400 by omega])
            | (refine jw_draw_e (id := 6) [(15, 2), (16, 2)] mixed (by kernel_rfl) (by kernel_rfl) ?_; simp (maxSteps := 1000000) [hq, h9, hln, hll, tasksD, hdr, hx, hlen, hlr, hw, hw1, hw2, hw3, hw4, taskC, numsD, okCell, show i * 4 < l.length * 4 by omega, show i + 1 ≤ 400 by omega])
            | (refine jw_draw_j mixed (by kernel_rfl) ?_; simp (maxSteps := 1000000) [hq, h9, hln, hll, tasksD, hdr, hx, hlen, hlr, hw, hw1, hw2, hw3, hw4, taskC, numsD, okCell, show i * 4 < l.length * 4 by omega, show i + 1 ≤ 400 by omega])
            | (first | (apply hK; clear hK) | (clear hK; apply hK; clear hK) | (clear hK; clear hK; apply hK; clear hK) | (clear hK; clear hK; clear hK; apply hK; clear hK))
            | exact hQ _ _ (.inl rfl) ⟨5, _, _, rfl, rfl, rfl⟩
            | refine hQ _ _ (.inl rfl) ⟨5, _, _, rfl, rfl, ?_⟩
            | refine hQ _ _ (.inl rfl) ⟨_, rfl, ?_⟩
            | (refine jl_call (f := 11) rfl rfl rfl rfl rfl (pickedG _ _ (by omega) (by omega)) (by simp [BelL, Bel]) ?_; rintro r rfl; simp (maxSteps := 1000000) [hq, h9, hln, hll, tasksD, hdr, hx, hlen, hlr, hw, hw1, hw2, hw3, hw4, taskC, numsD, okCell, show i * 4 < l.length * 4 by omega, show i + 1 ≤ 400 by omega])
            | (refine jd_call (f := 11) rfl rfl rfl rfl rfl (pickedG _ _ (by omega) (by omega)) (by simp [BelL, Bel]) ?_; simp (maxSteps := 1000000) [hq, h9, hln, hll, tasksD, hdr, hx, hlen, hlr, hw, hw1, hw2, hw3, hw4, taskC, numsD, okCell, show i * 4 < l.length * 4 by omega, show i + 1 ≤ 400 by omega])
            | (refine js_call (f := 11) rfl rfl rfl rfl rfl (pickedG _ _ (by omega) (by omega)) (by simp [BelL, Bel]) rfl ?_; simp (maxSteps := 1000000) [hq, h9, hln, hll, tasksD, hdr, hx, hlen, hlr, hw, hw1, hw2, hw3, hw4, taskC, numsD, okCell, show i * 4 < l.length * 4 by omega, show i + 1 ≤ 400 by omega])
            | (refine jl_call (f := 12) rfl rfl rfl rfl rfl (octets b 10 (by omega) (by omega)) (by simp [BelL, Bel]) ?_; rintro r rfl; simp (maxSteps := 1000000) [hq, h9, hln, hll, tasksD, hdr, hx, hlen, hlr, hw, hw1, hw2, hw3, hw4, taskC, numsD, okCell, show i * 4 < l.length * 4 by omega, show i + 1 ≤ 400 by omega])
            | (refine jd_call (f := 12) rfl rfl rfl rfl rfl (octets b 10 (by omega) (by omega)) (by simp [BelL, Bel]) ?_; simp (maxSteps := 1000000) [hq, h9, hln, hll, tasksD, hdr, hx, hlen, hlr, hw, hw1, hw2, hw3, hw4, taskC, numsD, okCell, show i * 4 < l.length * 4 by omega, show i + 1 ≤ 400 by omega])
            | (refine js_call (f := 12) rfl rfl rfl rfl rfl (octets b 10 (by omega) (by omega)) (by simp [BelL, Bel]) rfl ?_; simp (maxSteps := 1000000) [hq, h9, hln, hll, tasksD, hdr, hx, hlen, hlr, hw, hw1, hw2, hw3, hw4, taskC, numsD, okCell, show i * 4 < l.length * 4 by omega, show i + 1 ≤ 400 by omega])
            | (refine jd_newc rfl rfl (by simp) ?_; simp (maxSteps := 1000000) [thD, thL, hq, h9, hln, hll, tasksD, hdr, hx, hlen, hlr, hw, hw1, hw2, hw3, hw4, taskC, numsD, okCell, show i * 4 < l.length * 4 by omega, show i + 1 ≤ 400 by omega])
            | (refine okN_or ?_; simp (maxSteps := 1000000) [thD, thL, hq, h9, hln, hll, tasksD, hdr, hx, hlen, hlr, hw, hw1, hw2, hw3, hw4, taskC, numsD, okCell, show i * 4 < l.length * 4 by omega, show i + 1 ≤ 400 by omega])
            | (refine js_newc rfl rfl (by simp) rfl ?_; simp (maxSteps := 1000000) [hq, h9, hln, hll, tasksD, hdr, hx, hlen, hlr, hw, hw1, hw2, hw3, hw4, taskC, numsD, okCell, show i * 4 < l.length * 4 by omega, show i + 1 ≤ 400 by omega])
            | (refine okM_or ?_; simp (maxSteps := 1000000) [hq, h9, hln, hll, tasksD, hdr, hx, hlen, hlr, hw, hw1, hw2, hw3, hw4, taskC, numsD, okCell, show i * 4 < l.length * 4 by omega, show i + 1 ≤ 400 by omega])
            | (refine okS_or ?_; simp (maxSteps := 1000000) [hq, h9, hln, hll, tasksD, hdr, hx, hlen, hlr, hw, hw1, hw2, hw3, hw4, taskC, numsD, okCell, show i * 4 < l.length * 4 by omega, show i + 1 ≤ 400 by omega])
            | (refine okS_guard (fun hc => ?_) (fun hc => ?_) <;> (first | simp (maxSteps := 1000000) [hc, of_decide_eq_true hc, hq, h9, hln, hll, tasksD, hdr, hx, hlen, hlr, hw, hw1, hw2, hw3, hw4, taskC, numsD, okCell, show i * 4 < l.length * 4 by omega, show i + 1 ≤ 400 by omega] | simp (maxSteps := 1000000) [hc, of_decide_eq_false hc, hq, h9, hln, hll, tasksD, hdr, hx, hlen, hlr, hw, hw1, hw2, hw3, hw4, taskC, numsD, okCell, show i * 4 < l.length * 4 by omega, show i + 1 ≤ 400 by omega] | simp (maxSteps := 1000000) [hc, hq, h9, hln, hll, tasksD, hdr, hx, hlen, hlr, hw, hw1, hw2, hw3, hw4, taskC, numsD, okCell, show i * 4 < l.length * 4 by omega, show i + 1 ≤ 400 by omega]) <;> (try simp at hc) <;> (try (exfalso; first | omega | exact absurd hc (by assumption))))
            | (refine okC_guard (fun hc => ?_) (fun hc => ?_) <;> (first | simp (maxSteps := 1000000) [hc, of_decide_eq_true hc, hq, h9, hln, hll, tasksD, hdr, hx, hlen, hlr, hw, hw1, hw2, hw3, hw4, taskC, numsD, okCell, show i * 4 < l.length * 4 by omega, show i + 1 ≤ 400 by omega] | simp (maxSteps := 1000000) [hc, of_decide_eq_false hc, hq, h9, hln, hll, tasksD, hdr, hx, hlen, hlr, hw, hw1, hw2, hw3, hw4, taskC, numsD, okCell, show i * 4 < l.length * 4 by omega, show i + 1 ≤ 400 by omega] | simp (maxSteps := 1000000) [hc, hq, h9, hln, hll, tasksD, hdr, hx, hlen, hlr, hw, hw1, hw2, hw3, hw4, taskC, numsD, okCell, show i * 4 < l.length * 4 by omega, show i + 1 ≤ 400 by omega]) <;> (try simp at hc) <;> (try (exfalso; first | omega | exact absurd hc (by assumption))))
            | (refine okJ_guard (fun hc => ?_) (fun hc => ?_) <;> (first | simp (maxSteps := 1000000) [hc, of_decide_eq_true hc, hq, h9, hln, hll, tasksD, hdr, hx, hlen, hlr, hw, hw1, hw2, hw3, hw4, taskC, numsD, okCell, show i * 4 < l.length * 4 by omega, show i + 1 ≤ 400 by omega] | simp (maxSteps := 1000000) [hc, of_decide_eq_false hc, hq, h9, hln, hll, tasksD, hdr, hx, hlen, hlr, hw, hw1, hw2, hw3, hw4, taskC, numsD, okCell, show i * 4 < l.length * 4 by omega, show i + 1 ≤ 400 by omega] | simp (maxSteps := 1000000) [hc, hq, h9, hln, hll, tasksD, hdr, hx, hlen, hlr, hw, hw1, hw2, hw3, hw4, taskC, numsD, okCell, show i * 4 < l.length * 4 by omega, show i + 1 ≤ 400 by omega]) <;> (try simp at hc) <;> (try (exfalso; first | omega | exact absurd hc (by assumption))))
            | (refine And.intro (by first | assumption | omega | (simp [BelL, Bel]; done) | (simp; omega)) ?_; try simp (maxSteps := 1000000) [hq, h9, hln, hll, tasksD, hdr, hx, hlen, hlr, hw, hw1, hw2, hw3, hw4, taskC, numsD, okCell, show i * 4 < l.length * 4 by omega, show i + 1 ≤ 400 by omega])
            | (refine okC_or ?_; simp (maxSteps := 1000000) [hq, h9, hln, hll, tasksD, hdr, hx, hlen, hlr, hw, hw1, hw2, hw3, hw4, taskC, numsD, okCell, show i * 4 < l.length * 4 by omega, show i + 1 ≤ 400 by omega])
          refine hKA (n - (i + 1)) _ ⟨[tasksD l, .int .i64 n] ++ List.replicate 4 .any ++ [.ms 0 ((i + 1) * 4) 0 (i + 1) 4, .int .i64 (jobsR 0 (l.take (i + 1))).2, .int .i64 (i + 1)] ++ List.replicate 81 .any, [some (.c ((jobsR 0 (l.take (i + 1))).1.flatMap jobC))]⟩ (by omega) (view_takeE (sl := [tasksD l, .int .i64 n] ++ List.replicate 4 .any ++ [.ms 0 ((i + 1) * 4) 0 (i + 1) 4, .int .i64 (jobsR 0 (l.take (i + 1))).2, .int .i64 (i + 1)] ++ List.replicate 81 .any) (σ0 := [some (.c ((jobsR 0 (l.take (i + 1))).1.flatMap jobC))]) 1 (by simp [hT, jobOf, hq, h9, jobC, numsD, tasksD, List.flatMap_append, show (i + 1) * 4 = i * 4 + 4 by omega]) (by first | omega | simp) (by first | omega | (simp [hT, jobOf, hq, h9, jobC, numsD, tasksD, List.flatMap_append, show (i + 1) * 4 = i * 4 + 4 by omega]; done) | (simp [hT, jobOf, hq, h9, jobC, numsD, tasksD, List.flatMap_append, show (i + 1) * 4 = i * 4 + 4 by omega]; omega)) (by first | exact LewS.refl _ | simp [hT, jobOf, hq, h9, jobC, numsD, tasksD, List.flatMap_append, show (i + 1) * 4 = i * 4 + 4 by omega]) (by simp [BelL, Bel, hT, jobOf, hq, h9, jobC, numsD, tasksD, List.flatMap_append, show (i + 1) * 4 = i * 4 + 4 by omega]) (by simp [BelS, BelOb, BelL, Bel, hT, jobOf, hq, h9, jobC, numsD, tasksD, List.flatMap_append, show (i + 1) * 4 = i * 4 + 4 by omega])) ⟨(i + 1), ?_, rfl, rfl⟩
          omega
      · by_cases h9 : e % 9 = 8
        all_goals
          repeat' first
            | refine jw_ret (hQ _ _ (.inr rfl) ⟨5, _, _, rfl, rfl, ?_⟩)
            | refine jw_ret (hQ _ _ (.inr rfl) ⟨_, rfl, ?_⟩)
            | refine jw_seq_k fun K hK => ?_
            | refine jw_block ?_
            | (refine jw_skip ?_; try simp)
            | (refine jw_exit ?_; try simp)
            | (refine jw_cond rfl (fun hc => ?_) (fun hc => ?_) <;> (try simp at hc) <;> (try (exfalso; first | omega | exact absurd hc (by assumption))))
            | (refine jw_c ?_; simp (maxSteps := 1000000) [hq, h9, hln, hll, tasksD, hdr, hx, hlen, hlr, hw, hw1, hw2, hw3, hw4, taskC, numsD, okCell, show i * 4 < l.length * 4 by omega, show i + 1 ≤ 400 by omega])
            | (refine jw_draw_e (id := 6) [(15, 2), (16, 2)] mixed (by kernel_rfl) (by kernel_rfl) ?_; simp (maxSteps := 1000000) [hq, h9, hln, hll, tasksD, hdr, hx, hlen, hlr, hw, hw1, hw2, hw3, hw4, taskC, numsD, okCell, show i * 4 < l.length * 4 by omega, show i + 1 ≤ 400 by omega])
            | (refine jw_draw_j mixed (by kernel_rfl) ?_; simp (maxSteps := 1000000) [hq, h9, hln, hll, tasksD, hdr, hx, hlen, hlr, hw, hw1, hw2, hw3, hw4, taskC, numsD, okCell, show i * 4 < l.length * 4 by omega, show i + 1 ≤ 400 by omega])
            | (first | (apply hK; clear hK) | (clear hK; apply hK; clear hK) | (clear hK; clear hK; apply hK; clear hK) | (clear hK; clear hK; clear hK; apply hK; clear hK))
            | exact hQ _ _ (.inl rfl) ⟨5, _, _, rfl, rfl, rfl⟩
            | refine hQ _ _ (.inl rfl) ⟨5, _, _, rfl, rfl, ?_⟩
            | refine hQ _ _ (.inl rfl) ⟨_, rfl, ?_⟩
            | (refine jl_call (f := 11) rfl rfl rfl rfl rfl (pickedG _ _ (by omega) (by omega)) (by simp [BelL, Bel]) ?_; rintro r rfl; simp (maxSteps := 1000000) [hq, h9, hln, hll, tasksD, hdr, hx, hlen, hlr, hw, hw1, hw2, hw3, hw4, taskC, numsD, okCell, show i * 4 < l.length * 4 by omega, show i + 1 ≤ 400 by omega])
            | (refine jd_call (f := 11) rfl rfl rfl rfl rfl (pickedG _ _ (by omega) (by omega)) (by simp [BelL, Bel]) ?_; simp (maxSteps := 1000000) [hq, h9, hln, hll, tasksD, hdr, hx, hlen, hlr, hw, hw1, hw2, hw3, hw4, taskC, numsD, okCell, show i * 4 < l.length * 4 by omega, show i + 1 ≤ 400 by omega])
            | (refine js_call (f := 11) rfl rfl rfl rfl rfl (pickedG _ _ (by omega) (by omega)) (by simp [BelL, Bel]) rfl ?_; simp (maxSteps := 1000000) [hq, h9, hln, hll, tasksD, hdr, hx, hlen, hlr, hw, hw1, hw2, hw3, hw4, taskC, numsD, okCell, show i * 4 < l.length * 4 by omega, show i + 1 ≤ 400 by omega])
            | (refine jl_call (f := 12) rfl rfl rfl rfl rfl (octets b 10 (by omega) (by omega)) (by simp [BelL, Bel]) ?_; rintro r rfl; simp (maxSteps := 1000000) [hq, h9, hln, hll, tasksD, hdr, hx, hlen, hlr, hw, hw1, hw2, hw3, hw4, taskC, numsD, okCell, show i * 4 < l.length * 4 by omega, show i + 1 ≤ 400 by omega])
            | (refine jd_call (f := 12) rfl rfl rfl rfl rfl (octets b 10 (by omega) (by omega)) (by simp [BelL, Bel]) ?_; simp (maxSteps := 1000000) [hq, h9, hln, hll, tasksD, hdr, hx, hlen, hlr, hw, hw1, hw2, hw3, hw4, taskC, numsD, okCell, show i * 4 < l.length * 4 by omega, show i + 1 ≤ 400 by omega])
            | (refine js_call (f := 12) rfl rfl rfl rfl rfl (octets b 10 (by omega) (by omega)) (by simp [BelL, Bel]) rfl ?_; simp (maxSteps := 1000000) [hq, h9, hln, hll, tasksD, hdr, hx, hlen, hlr, hw, hw1, hw2, hw3, hw4, taskC, numsD, okCell, show i * 4 < l.length * 4 by omega, show i + 1 ≤ 400 by omega])
            | (refine jd_newc rfl rfl (by simp) ?_; simp (maxSteps := 1000000) [thD, thL, hq, h9, hln, hll, tasksD, hdr, hx, hlen, hlr, hw, hw1, hw2, hw3, hw4, taskC, numsD, okCell, show i * 4 < l.length * 4 by omega, show i + 1 ≤ 400 by omega])
            | (refine okN_or ?_; simp (maxSteps := 1000000) [thD, thL, hq, h9, hln, hll, tasksD, hdr, hx, hlen, hlr, hw, hw1, hw2, hw3, hw4, taskC, numsD, okCell, show i * 4 < l.length * 4 by omega, show i + 1 ≤ 400 by omega])
            | (refine js_newc rfl rfl (by simp) rfl ?_; simp (maxSteps := 1000000) [hq, h9, hln, hll, tasksD, hdr, hx, hlen, hlr, hw, hw1, hw2, hw3, hw4, taskC, numsD, okCell, show i * 4 < l.length * 4 by omega, show i + 1 ≤ 400 by omega])
            | (refine okM_or ?_; simp (maxSteps := 1000000) [hq, h9, hln, hll, tasksD, hdr, hx, hlen, hlr, hw, hw1, hw2, hw3, hw4, taskC, numsD, okCell, show i * 4 < l.length * 4 by omega, show i + 1 ≤ 400 by omega])
            | (refine okS_or ?_; simp (maxSteps := 1000000) [hq, h9, hln, hll, tasksD, hdr, hx, hlen, hlr, hw, hw1, hw2, hw3, hw4, taskC, numsD, okCell, show i * 4 < l.length * 4 by omega, show i + 1 ≤ 400 by omega])
            | (refine okS_guard (fun hc => ?_) (fun hc => ?_) <;> (first | simp (maxSteps := 1000000) [hc, of_decide_eq_true hc, hq, h9, hln, hll, tasksD, hdr, hx, hlen, hlr, hw, hw1, hw2, hw3, hw4, taskC, numsD, okCell, show i * 4 < l.length * 4 by omega, show i + 1 ≤ 400 by omega] | simp (maxSteps := 1000000) [hc, of_decide_eq_false hc, hq, h9, hln, hll, tasksD, hdr, hx, hlen, hlr, hw, hw1, hw2, hw3, hw4, taskC, numsD, okCell, show i * 4 < l.length * 4 by omega, show i + 1 ≤ 400 by omega] | simp (maxSteps := 1000000) [hc, hq, h9, hln, hll, tasksD, hdr, hx, hlen, hlr, hw, hw1, hw2, hw3, hw4, taskC, numsD, okCell, show i * 4 < l.length * 4 by omega, show i + 1 ≤ 400 by omega]) <;> (try simp at hc) <;> (try (exfalso; first | omega | exact absurd hc (by assumption))))
            | (refine okC_guard (fun hc => ?_) (fun hc => ?_) <;> (first | simp (maxSteps := 1000000) [hc, of_decide_eq_true hc, hq, h9, hln, hll, tasksD, hdr, hx, hlen, hlr, hw, hw1, hw2, hw3, hw4, taskC, numsD, okCell, show i * 4 < l.length * 4 by omega, show i + 1 ≤ 400 by omega] | simp (maxSteps := 1000000) [hc, of_decide_eq_false hc, hq, h9, hln, hll, tasksD, hdr, hx, hlen, hlr, hw, hw1, hw2, hw3, hw4, taskC, numsD, okCell, show i * 4 < l.length * 4 by omega, show i + 1 ≤ 400 by omega] | simp (maxSteps := 1000000) [hc, hq, h9, hln, hll, tasksD, hdr, hx, hlen, hlr, hw, hw1, hw2, hw3, hw4, taskC, numsD, okCell, show i * 4 < l.length * 4 by omega, show i + 1 ≤ 400 by omega]) <;> (try simp at hc) <;> (try (exfalso; first | omega | exact absurd hc (by assumption))))
            | (refine okJ_guard (fun hc => ?_) (fun hc => ?_) <;> (first | simp (maxSteps := 1000000) [hc, of_decide_eq_true hc, hq, h9, hln, hll, tasksD, hdr, hx, hlen, hlr, hw, hw1, hw2, hw3, hw4, taskC, numsD, okCell, show i * 4 < l.length * 4 by omega, show i + 1 ≤ 400 by omega] | simp (maxSteps := 1000000) [hc, of_decide_eq_false hc, hq, h9, hln, hll, tasksD, hdr, hx, hlen, hlr, hw, hw1, hw2, hw3, hw4, taskC, numsD, okCell, show i * 4 < l.length * 4 by omega, show i + 1 ≤ 400 by omega] | simp (maxSteps := 1000000) [hc, hq, h9, hln, hll, tasksD, hdr, hx, hlen, hlr, hw, hw1, hw2, hw3, hw4, taskC, numsD, okCell, show i * 4 < l.length * 4 by omega, show i + 1 ≤ 400 by omega]) <;> (try simp at hc) <;> (try (exfalso; first | omega | exact absurd hc (by assumption))))
            | (refine And.intro (by first | assumption | omega | (simp [BelL, Bel]; done) | (simp; omega)) ?_; try simp (maxSteps := 1000000) [hq, h9, hln, hll, tasksD, hdr, hx, hlen, hlr, hw, hw1, hw2, hw3, hw4, taskC, numsD, okCell, show i * 4 < l.length * 4 by omega, show i + 1 ≤ 400 by omega])
            | (refine okC_or ?_; simp (maxSteps := 1000000) [hq, h9, hln, hll, tasksD, hdr, hx, hlen, hlr, hw, hw1, hw2, hw3, hw4, taskC, numsD, okCell, show i * 4 < l.length * 4 by omega, show i + 1 ≤ 400 by omega])
          refine hKA (n - (i + 1)) _ ⟨[tasksD l, .int .i64 n] ++ List.replicate 4 .any ++ [.ms 0 ((i + 1) * 4) 0 (i + 1) 4, .int .i64 (jobsR 0 (l.take (i + 1))).2, .int .i64 (i + 1)] ++ List.replicate 81 .any, [some (.c ((jobsR 0 (l.take (i + 1))).1.flatMap jobC))]⟩ (by omega) (view_takeE (sl := [tasksD l, .int .i64 n] ++ List.replicate 4 .any ++ [.ms 0 ((i + 1) * 4) 0 (i + 1) 4, .int .i64 (jobsR 0 (l.take (i + 1))).2, .int .i64 (i + 1)] ++ List.replicate 81 .any) (σ0 := [some (.c ((jobsR 0 (l.take (i + 1))).1.flatMap jobC))]) 1 (by simp [hT, jobOf, hq, h9, jobC, numsD, tasksD, List.flatMap_append, show (i + 1) * 4 = i * 4 + 4 by omega]) (by first | omega | simp) (by first | omega | (simp [hT, jobOf, hq, h9, jobC, numsD, tasksD, List.flatMap_append, show (i + 1) * 4 = i * 4 + 4 by omega]; done) | (simp [hT, jobOf, hq, h9, jobC, numsD, tasksD, List.flatMap_append, show (i + 1) * 4 = i * 4 + 4 by omega]; omega)) (by first | exact LewS.refl _ | simp [hT, jobOf, hq, h9, jobC, numsD, tasksD, List.flatMap_append, show (i + 1) * 4 = i * 4 + 4 by omega]) (by simp [BelL, Bel, hT, jobOf, hq, h9, jobC, numsD, tasksD, List.flatMap_append, show (i + 1) * 4 = i * 4 + 4 by omega]) (by simp [BelS, BelOb, BelL, Bel, hT, jobOf, hq, h9, jobC, numsD, tasksD, List.flatMap_append, show (i + 1) * 4 = i * 4 + 4 by omega])) ⟨(i + 1), ?_, rfl, rfl⟩
          omega
      · have c1 : ¬ 1 + q = 1 := by omega
        have c5 : ¬ 1 + q = 5 := by omega
        have c6 : ¬ 1 + q = 6 := by omega
        by_cases h9 : e % 9 = 8
        all_goals
          repeat' first
            | refine jw_ret (hQ _ _ (.inr rfl) ⟨5, _, _, rfl, rfl, ?_⟩)
            | refine jw_ret (hQ _ _ (.inr rfl) ⟨_, rfl, ?_⟩)
            | refine jw_seq_k fun K hK => ?_
            | refine jw_block ?_
            | (refine jw_skip ?_; try simp)
            | (refine jw_exit ?_; try simp)
            | (refine jw_cond rfl (fun hc => ?_) (fun hc => ?_) <;> (try simp at hc) <;> (try (exfalso; first | omega | exact absurd hc (by assumption))))
            | (refine jw_c ?_; simp (maxSteps := 1000000) [hq, h9, c1, c5, c6, n0, hln, hll, tasksD, hdr, hx, hlen, hlr, hw, hw1, hw2, hw3, hw4, taskC, numsD, okCell, show i * 4 < l.length * 4 by omega, show i + 1 ≤ 400 by omega])
            | (refine jw_draw_e (id := 6) [(15, 2), (16, 2)] mixed (by kernel_rfl) (by kernel_rfl) ?_; simp (maxSteps := 1000000) [hq, h9, c1, c5, c6, n0, hln, hll, tasksD, hdr, hx, hlen, hlr, hw, hw1, hw2, hw3, hw4, taskC, numsD, okCell, show i * 4 < l.length * 4 by omega, show i + 1 ≤ 400 by omega])
            | (refine jw_draw_j mixed (by kernel_rfl) ?_; simp (maxSteps := 1000000) [hq, h9, c1, c5, c6, n0, hln, hll, tasksD, hdr, hx, hlen, hlr, hw, hw1, hw2, hw3, hw4, taskC, numsD, okCell, show i * 4 < l.length * 4 by omega, show i + 1 ≤ 400 by omega])
            | (first | (apply hK; clear hK) | (clear hK; apply hK; clear hK) | (clear hK; clear hK; apply hK; clear hK) | (clear hK; clear hK; clear hK; apply hK; clear hK))
            | exact hQ _ _ (.inl rfl) ⟨5, _, _, rfl, rfl, rfl⟩
            | refine hQ _ _ (.inl rfl) ⟨5, _, _, rfl, rfl, ?_⟩
            | refine hQ _ _ (.inl rfl) ⟨_, rfl, ?_⟩
            | (refine jl_call (f := 11) rfl rfl rfl rfl rfl (pickedG _ _ (by omega) (by omega)) (by simp [BelL, Bel]) ?_; rintro r rfl; simp (maxSteps := 1000000) [hq, h9, c1, c5, c6, n0, hln, hll, tasksD, hdr, hx, hlen, hlr, hw, hw1, hw2, hw3, hw4, taskC, numsD, okCell, show i * 4 < l.length * 4 by omega, show i + 1 ≤ 400 by omega])
            | (refine jd_call (f := 11) rfl rfl rfl rfl rfl (pickedG _ _ (by omega) (by omega)) (by simp [BelL, Bel]) ?_; simp (maxSteps := 1000000) [hq, h9, c1, c5, c6, n0, hln, hll, tasksD, hdr, hx, hlen, hlr, hw, hw1, hw2, hw3, hw4, taskC, numsD, okCell, show i * 4 < l.length * 4 by omega, show i + 1 ≤ 400 by omega])
            | (refine js_call (f := 11) rfl rfl rfl rfl rfl (pickedG _ _ (by omega) (by omega)) (by simp [BelL, Bel]) rfl ?_; simp (maxSteps := 1000000) [hq, h9, c1, c5, c6, n0, hln, hll, tasksD, hdr, hx, hlen, hlr, hw, hw1, hw2, hw3, hw4, taskC, numsD, okCell, show i * 4 < l.length * 4 by omega, show i + 1 ≤ 400 by omega])
            | (refine jl_call (f := 12) rfl rfl rfl rfl rfl (octets b 10 (by omega) (by omega)) (by simp [BelL, Bel]) ?_; rintro r rfl; simp (maxSteps := 1000000) [hq, h9, c1, c5, c6, n0, hln, hll, tasksD, hdr, hx, hlen, hlr, hw, hw1, hw2, hw3, hw4, taskC, numsD, okCell, show i * 4 < l.length * 4 by omega, show i + 1 ≤ 400 by omega])
            | (refine jd_call (f := 12) rfl rfl rfl rfl rfl (octets b 10 (by omega) (by omega)) (by simp [BelL, Bel]) ?_; simp (maxSteps := 1000000) [hq, h9, c1, c5, c6, n0, hln, hll, tasksD, hdr, hx, hlen, hlr, hw, hw1, hw2, hw3, hw4, taskC, numsD, okCell, show i * 4 < l.length * 4 by omega, show i + 1 ≤ 400 by omega])
            | (refine js_call (f := 12) rfl rfl rfl rfl rfl (octets b 10 (by omega) (by omega)) (by simp [BelL, Bel]) rfl ?_; simp (maxSteps := 1000000) [hq, h9, c1, c5, c6, n0, hln, hll, tasksD, hdr, hx, hlen, hlr, hw, hw1, hw2, hw3, hw4, taskC, numsD, okCell, show i * 4 < l.length * 4 by omega, show i + 1 ≤ 400 by omega])
            | (refine jd_newc rfl rfl (by simp) ?_; simp (maxSteps := 1000000) [thD, thL, hq, h9, c1, c5, c6, n0, hln, hll, tasksD, hdr, hx, hlen, hlr, hw, hw1, hw2, hw3, hw4, taskC, numsD, okCell, show i * 4 < l.length * 4 by omega, show i + 1 ≤ 400 by omega])
            | (refine okN_or ?_; simp (maxSteps := 1000000) [thD, thL, hq, h9, c1, c5, c6, n0, hln, hll, tasksD, hdr, hx, hlen, hlr, hw, hw1, hw2, hw3, hw4, taskC, numsD, okCell, show i * 4 < l.length * 4 by omega, show i + 1 ≤ 400 by omega])
            | (refine js_newc rfl rfl (by simp) rfl ?_; simp (maxSteps := 1000000) [hq, h9, c1, c5, c6, n0, hln, hll, tasksD, hdr, hx, hlen, hlr, hw, hw1, hw2, hw3, hw4, taskC, numsD, okCell, show i * 4 < l.length * 4 by omega, show i + 1 ≤ 400 by omega])
            | (refine okM_or ?_; simp (maxSteps := 1000000) [hq, h9, c1, c5, c6, n0, hln, hll, tasksD, hdr, hx, hlen, hlr, hw, hw1, hw2, hw3, hw4, taskC, numsD, okCell, show i * 4 < l.length * 4 by omega, show i + 1 ≤ 400 by omega])
            | (refine okS_or ?_; simp (maxSteps := 1000000) [hq, h9, c1, c5, c6, n0, hln, hll, tasksD, hdr, hx, hlen, hlr, hw, hw1, hw2, hw3, hw4, taskC, numsD, okCell, show i * 4 < l.length * 4 by omega, show i + 1 ≤ 400 by omega])
            | (refine okS_guard (fun hc => ?_) (fun hc => ?_) <;> (first | simp (maxSteps := 1000000) [hc, of_decide_eq_true hc, hq, h9, c1, c5, c6, n0, hln, hll, tasksD, hdr, hx, hlen, hlr, hw, hw1, hw2, hw3, hw4, taskC, numsD, okCell, show i * 4 < l.length * 4 by omega, show i + 1 ≤ 400 by omega] | simp (maxSteps := 1000000) [hc, of_decide_eq_false hc, hq, h9, c1, c5, c6, n0, hln, hll, tasksD, hdr, hx, hlen, hlr, hw, hw1, hw2, hw3, hw4, taskC, numsD, okCell, show i * 4 < l.length * 4 by omega, show i + 1 ≤ 400 by omega] | simp (maxSteps := 1000000) [hc, hq, h9, c1, c5, c6, n0, hln, hll, tasksD, hdr, hx, hlen, hlr, hw, hw1, hw2, hw3, hw4, taskC, numsD, okCell, show i * 4 < l.length * 4 by omega, show i + 1 ≤ 400 by omega]) <;> (try simp at hc) <;> (try (exfalso; first | omega | exact absurd hc (by assumption))))
            | (refine okC_guard (fun hc => ?_) (fun hc => ?_) <;> (first | simp (maxSteps := 1000000) [hc, of_decide_eq_true hc, hq, h9, c1, c5, c6, n0, hln, hll, tasksD, hdr, hx, hlen, hlr, hw, hw1, hw2, hw3, hw4, taskC, numsD, okCell, show i * 4 < l.length * 4 by omega, show i + 1 ≤ 400 by omega] | simp (maxSteps := 1000000) [hc, of_decide_eq_false hc, hq, h9, c1, c5, c6, n0, hln, hll, tasksD, hdr, hx, hlen, hlr, hw, hw1, hw2, hw3, hw4, taskC, numsD, okCell, show i * 4 < l.length * 4 by omega, show i + 1 ≤ 400 by omega] | simp (maxSteps := 1000000) [hc, hq, h9, c1, c5, c6, n0, hln, hll, tasksD, hdr, hx, hlen, hlr, hw, hw1, hw2, hw3, hw4, taskC, numsD, okCell, show i * 4 < l.length * 4 by omega, show i + 1 ≤ 400 by omega]) <;> (try simp at hc) <;> (try (exfalso; first | omega | exact absurd hc (by assumption))))
            | (refine okJ_guard (fun hc => ?_) (fun hc => ?_) <;> (first | simp (maxSteps := 1000000) [hc, of_decide_eq_true hc, hq, h9, c1, c5, c6, n0, hln, hll, tasksD, hdr, hx, hlen, hlr, hw, hw1, hw2, hw3, hw4, taskC, numsD, okCell, show i * 4 < l.length * 4 by omega, show i + 1 ≤ 400 by omega] | simp (maxSteps := 1000000) [hc, of_decide_eq_false hc, hq, h9, c1, c5, c6, n0, hln, hll, tasksD, hdr, hx, hlen, hlr, hw, hw1, hw2, hw3, hw4, taskC, numsD, okCell, show i * 4 < l.length * 4 by omega, show i + 1 ≤ 400 by omega] | simp (maxSteps := 1000000) [hc, hq, h9, c1, c5, c6, n0, hln, hll, tasksD, hdr, hx, hlen, hlr, hw, hw1, hw2, hw3, hw4, taskC, numsD, okCell, show i * 4 < l.length * 4 by omega, show i + 1 ≤ 400 by omega]) <;> (try simp at hc) <;> (try (exfalso; first | omega | exact absurd hc (by assumption))))
            | (refine And.intro (by first | assumption | omega | (simp [BelL, Bel]; done) | (simp; omega)) ?_; try simp (maxSteps := 1000000) [hq, h9, c1, c5, c6, n0, hln, hll, tasksD, hdr, hx, hlen, hlr, hw, hw1, hw2, hw3, hw4, taskC, numsD, okCell, show i * 4 < l.length * 4 by omega, show i + 1 ≤ 400 by omega])
            | (refine okC_or ?_; simp (maxSteps := 1000000) [hq, h9, c1, c5, c6, n0, hln, hll, tasksD, hdr, hx, hlen, hlr, hw, hw1, hw2, hw3, hw4, taskC, numsD, okCell, show i * 4 < l.length * 4 by omega, show i + 1 ≤ 400 by omega])
          refine hKA (n - (i + 1)) _ ⟨[tasksD l, .int .i64 n] ++ List.replicate 4 .any ++ [.ms 0 ((i + 1) * 4) 0 (i + 1) 4, .int .i64 (jobsR 0 (l.take (i + 1))).2, .int .i64 (i + 1)] ++ List.replicate 81 .any, [some (.c ((jobsR 0 (l.take (i + 1))).1.flatMap jobC))]⟩ (by omega) (view_takeE (sl := [tasksD l, .int .i64 n] ++ List.replicate 4 .any ++ [.ms 0 ((i + 1) * 4) 0 (i + 1) 4, .int .i64 (jobsR 0 (l.take (i + 1))).2, .int .i64 (i + 1)] ++ List.replicate 81 .any) (σ0 := [some (.c ((jobsR 0 (l.take (i + 1))).1.flatMap jobC))]) 1 (by simp [hT, jobOf, hq, h9, c1, c5, c6, n0, jobC, numsD, tasksD, List.flatMap_append, show (i + 1) * 4 = i * 4 + 4 by omega]) (by first | omega | simp) (by first | omega | (simp [hT, jobOf, hq, h9, c1, c5, c6, n0, jobC, numsD, tasksD, List.flatMap_append, show (i + 1) * 4 = i * 4 + 4 by omega]; done) | (simp [hT, jobOf, hq, h9, c1, c5, c6, n0, jobC, numsD, tasksD, List.flatMap_append, show (i + 1) * 4 = i * 4 + 4 by omega]; omega)) (by first | exact LewS.refl _ | simp [hT, jobOf, hq, h9, c1, c5, c6, n0, jobC, numsD, tasksD, List.flatMap_append, show (i + 1) * 4 = i * 4 + 4 by omega]) (by simp [BelL, Bel, hT, jobOf, hq, h9, c1, c5, c6, n0, jobC, numsD, tasksD, List.flatMap_append, show (i + 1) * 4 = i * 4 + 4 by omega]) (by simp [BelS, BelOb, BelL, Bel, hT, jobOf, hq, h9, c1, c5, c6, n0, jobC, numsD, tasksD, List.flatMap_append, show (i + 1) * 4 = i * 4 + 4 by omega])) ⟨(i + 1), ?_, rfl, rfl⟩
          omega
    · have hfin : (jobsR 0 (l.take i)) = jobsR 0 (l.take n) := by
        by_cases h : i < n
        · rw [List.take_of_length_le (show l.length ≤ i by omega), List.take_of_length_le (show l.length ≤ n by omega)]
        · rw [show i = n by omega]
      have hlr := flat_len (f := jobC) (z := 4) (fun _ => rfl) (jobsR 0 (l.take i)).1
      rw [jobs_length, List.length_take, Nat.min_eq_left hil] at hlr
      have hlj : (jobsR 0 (l.take i)).1.length = i := by rw [jobs_length, List.length_take, Nat.min_eq_left hil]
      rw [hfin] at hlr hlj ⊢
      rw [hlj] at hQ
      by_cases h : i < l.length
      · have h2 : ¬ i < n := by omega
        repeat' first
          | refine jw_seq_k fun K hK => ?_
          | refine jw_block ?_
          | (refine jw_skip ?_; try simp)
          | (refine jw_exit ?_; try simp)
          | (refine jw_cond rfl (fun hc => ?_) (fun hc => ?_) <;> (try simp at hc) <;> (try (exfalso; first | omega | exact absurd hc (by assumption))))
          | (refine jw_c ?_; simp (maxSteps := 1000000) [tasksD, h, h2])
          | (refine jw_draw_j mixed (by kernel_rfl) ?_; simp (maxSteps := 1000000) [tasksD, h, h2])
          | (first | (apply hK; clear hK) | (clear hK; apply hK; clear hK) | (clear hK; clear hK; apply hK; clear hK) | (clear hK; clear hK; clear hK; apply hK; clear hK))
          | (refine jw_ret (hQ _ _ (.inr rfl) (ret_ok 1 ?_ (by first | omega | simp))); simp (maxSteps := 1000000) [okRet, BelL, Bel, BelS, BelOb, tasksD, h, h2])
          | (refine hQ _ _ (.inl rfl) (ret_ok 1 ?_ (by first | omega | simp)); simp (maxSteps := 1000000) [okRet, BelL, Bel, BelS, BelOb, tasksD, h, h2])
          | (refine jd_newc rfl rfl (by simp) ?_; simp (maxSteps := 1000000) [thD, thL, tasksD, h, h2])
          | (refine okN_or ?_; simp (maxSteps := 1000000) [thD, thL, tasksD, h, h2])
          | (refine okC_guard (fun hc => ?_) (fun hc => ?_) <;> (first | simp (maxSteps := 1000000) [hc, of_decide_eq_true hc, tasksD, h, h2] | simp (maxSteps := 1000000) [hc, of_decide_eq_false hc, tasksD, h, h2] | simp (maxSteps := 1000000) [hc, tasksD, h, h2]) <;> (try simp at hc) <;> (try (exfalso; first | omega | exact absurd hc (by assumption))))
          | (refine okJ_guard (fun hc => ?_) (fun hc => ?_) <;> (first | simp (maxSteps := 1000000) [hc, of_decide_eq_true hc, tasksD, h, h2] | simp (maxSteps := 1000000) [hc, of_decide_eq_false hc, tasksD, h, h2] | simp (maxSteps := 1000000) [hc, tasksD, h, h2]) <;> (try simp at hc) <;> (try (exfalso; first | omega | exact absurd hc (by assumption))))
          | (refine And.intro (by first | assumption | omega | (simp [BelL, Bel]; done) | (simp; omega)) ?_; try simp (maxSteps := 1000000) [tasksD, h, h2])
          | (refine okC_or ?_; simp (maxSteps := 1000000) [tasksD, h, h2])
      · repeat' first
          | refine jw_seq_k fun K hK => ?_
          | refine jw_block ?_
          | (refine jw_skip ?_; try simp)
          | (refine jw_exit ?_; try simp)
          | (refine jw_cond rfl (fun hc => ?_) (fun hc => ?_) <;> (try simp at hc) <;> (try (exfalso; first | omega | exact absurd hc (by assumption))))
          | (refine jw_c ?_; simp (maxSteps := 1000000) [tasksD, h])
          | (refine jw_draw_j mixed (by kernel_rfl) ?_; simp (maxSteps := 1000000) [tasksD, h])
          | (first | (apply hK; clear hK) | (clear hK; apply hK; clear hK) | (clear hK; clear hK; apply hK; clear hK) | (clear hK; clear hK; clear hK; apply hK; clear hK))
          | (refine jw_ret (hQ _ _ (.inr rfl) (ret_ok 1 ?_ (by first | omega | simp))); simp (maxSteps := 1000000) [okRet, BelL, Bel, BelS, BelOb, tasksD, h])
          | (refine hQ _ _ (.inl rfl) (ret_ok 1 ?_ (by first | omega | simp)); simp (maxSteps := 1000000) [okRet, BelL, Bel, BelS, BelOb, tasksD, h])
          | (refine jd_newc rfl rfl (by simp) ?_; simp (maxSteps := 1000000) [thD, thL, tasksD, h])
          | (refine okN_or ?_; simp (maxSteps := 1000000) [thD, thL, tasksD, h])
          | (refine okC_guard (fun hc => ?_) (fun hc => ?_) <;> (first | simp (maxSteps := 1000000) [hc, of_decide_eq_true hc, tasksD, h] | simp (maxSteps := 1000000) [hc, of_decide_eq_false hc, tasksD, h] | simp (maxSteps := 1000000) [hc, tasksD, h]) <;> (try simp at hc) <;> (try (exfalso; first | omega | exact absurd hc (by assumption))))
          | (refine okJ_guard (fun hc => ?_) (fun hc => ?_) <;> (first | simp (maxSteps := 1000000) [hc, of_decide_eq_true hc, tasksD, h] | simp (maxSteps := 1000000) [hc, of_decide_eq_false hc, tasksD, h] | simp (maxSteps := 1000000) [hc, tasksD, h]) <;> (try simp at hc) <;> (try (exfalso; first | omega | exact absurd hc (by assumption))))
          | (refine And.intro (by first | assumption | omega | (simp [BelL, Bel]; done) | (simp; omega)) ?_; try simp (maxSteps := 1000000) [tasksD, h])
          | (refine okC_or ?_; simp (maxSteps := 1000000) [tasksD, h])
  · omega
theorem jobsF {G : Globals} (l : List Task) (hl : l.length ≤ 140737488351232) (hd : ∀ t ∈ l, t.data.length ≤ 140737488355328) (n : Nat) (hn : n ≤ 100) :
    FV Try.prog G 8 [tasksD l, .int .i64 n] (fun r => r = .tup [jobsD (jobsR 0 (l.take n)).1, .int .i64 (jobsR 0 (l.take n)).2]) := by
  refine fc_seen (jobsC l hl hd n hn) ?_
  rintro d σ' ⟨rfl, rfl⟩
  have hlr := flat_len (f := jobC) (z := 4) (fun _ => rfl) (jobsR 0 (l.take n)).1
  refine ⟨_, [], (view_frz 0 _ rfl (belL_jobs 0 _)).trans (view_takeE (sl := [.tup [jobsD (jobsR 0 (l.take n)).1, .int .i64 (jobsR 0 (l.take n)).2]]) (σ0 := []) 0 ?_ (by simp) (by simp) (by simp) ?_ (by simp [BelS])), rfl, rfl⟩
  · simp [thL, thD, hlr, jobsD, List.take_of_length_le]
  · simp [BelL, Bel]
end Go.Proofs.Ytkjliaapdjapmaa
