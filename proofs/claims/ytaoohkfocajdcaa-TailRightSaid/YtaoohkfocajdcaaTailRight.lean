/- TailRight: the walk and the law. -/
import Derived.Test.YtaoohkfocajdcaaTail
set_option linter.unusedVariables false
set_option linter.unusedSimpArgs false
set_option maxRecDepth 20000
set_option maxHeartbeats 20000000
namespace Go.Proofs.Ytaoohkfocajdcaa
open Go Go.Vm Go.Proofs

/-- The tails that the law takes. -/
def tailsAt (raw : List Int) (i : Nat) : Int := if i < raw.length then raw.getD i 0 % 65 else i
def tailsTo (raw : List Int) (n : Nat) : List Int := (List.range n).map (tailsAt raw)
theorem tailsTo_succ (raw : List Int) (n : Nat) : tailsTo raw (n + 1) = tailsTo raw n ++ [tailsAt raw n] := by
  unfold tailsTo; rw [List.range_succ, List.map_append]; rfl
@[simp] theorem tailsTo_length (raw : List Int) (n : Nat) : (tailsTo raw n).length = n := by simp [tailsTo]
theorem tailsTo_bound (raw : List Int) (n : Nat) (hn : n ≤ 64) : ∀ t ∈ tailsTo raw n, 0 ≤ t ∧ t ≤ 64 := by
  intro t ht
  obtain ⟨i, hi, rfl⟩ := List.mem_map.1 ht
  have := List.mem_range.1 hi
  unfold tailsAt
  split
  · have := Int.emod_nonneg (raw.getD i 0) (show (65 : Int) ≠ 0 by omega)
    have := Int.emod_lt_of_pos (raw.getD i 0) (show (0 : Int) < 65 by omega)
    omega
  · omega
/-- What is written lies ahead of the tail. -/
theorem tailTo_ge (n : Nat) (ts : List Int) : ∀ k c, c < k → 0 < ts.getD c 0 → (ts.getD c 0 - 1) * n + c + 1 ≤ tailTo n ts k
  | 0, c, h, _ => by omega
  | k + 1, c, h, hp => by
    have key : tailTo n ts k ≤ tailTo n ts (k + 1) := by
      show tailTo n ts k ≤ tailAt n k (ts.getD k 0) (tailTo n ts k)
      unfold tailAt; split <;> omega
    by_cases e : c = k
    · subst e
      show _ ≤ tailAt n c (ts.getD c 0) (tailTo n ts c)
      unfold tailAt; rw [if_pos hp]; omega
    · have := tailTo_ge n ts k c (by omega) hp
      omega
/-- What lies just ahead of the tail is written. -/
theorem tailTo_at (n : Nat) (ts : List Int) : ∀ k, tailTo n ts k = 0 ∨ ∃ c, c < k ∧ 0 < ts.getD c 0 ∧ tailTo n ts k = (ts.getD c 0 - 1) * n + c + 1
  | 0 => .inl rfl
  | k + 1 => by
    have ih := tailTo_at n ts k
    have e : tailTo n ts (k + 1) = tailAt n k (ts.getD k 0) (tailTo n ts k) := rfl
    rw [e]; unfold tailAt
    by_cases hp : 0 < ts.getD k 0
    · rw [if_pos hp]
      by_cases hm : tailTo n ts k ≤ (ts.getD k 0 - 1) * n + k + 1
      · exact .inr ⟨k, by omega, hp, by omega⟩
      · rw [show max (tailTo n ts k) ((ts.getD k 0 - 1) * n + k + 1) = tailTo n ts k by omega]
        rcases ih with h | ⟨c, h1, h2, h3⟩
        · exact .inl h
        · exact .inr ⟨c, by omega, h2, h3⟩
    · rw [if_neg hp]
      rcases ih with h | ⟨c, h1, h2, h3⟩
      · exact .inl h
      · exact .inr ⟨c, by omega, h2, h3⟩

theorem tailRight (a : List Int) (aw : ∀ n ∈ a, (Lit.int .i64 n).wf = true) (az : a.length * 8 ≤ 140737488351232) (_ : a.length ≤ 9223372036854775807) (t : Int) (tw : (Lit.int .i64 t).wf = true)
    (b : List Int) (bw : ∀ n ∈ b, (Lit.int .i64 n).wf = true) (bz : b.length * 8 ≤ 140737488351232) (_ : b.length ≤ 9223372036854775807) (p : Int) (pw : (Lit.int .i64 p).wf = true) :
    FV Try.prog [] 5 [numsD .i64 a, .int .i64 t, numsD .i64 b, .int .i64 p] (fun r => r = .bool true) := by
  refine fv_enter Try.func5 rfl rfl fun Q hQ => ?_
  repeat' first
    | refine jw_ret (hQ _ _ (.inr rfl) ⟨5, _, _, rfl, rfl, ?_⟩)
    | refine jw_ret (hQ _ _ (.inr rfl) ⟨_, rfl, ?_⟩)
    | refine jw_seq_k fun K hK => ?_
    | refine jw_block ?_
    | (refine jw_skip ?_; simp)
    | (refine jw_exit ?_; simp)
    | (refine jw_cond rfl (fun hc => ?_) (fun hc => ?_) <;> (try simp at hc) <;> (try (exfalso; first | omega | exact absurd hc (by assumption))))
    | (refine jw_c ?_; simp (maxSteps := 1000000) [Try.f5])
    | (refine jw_draw_j mixed (by kernel_rfl) ?_; simp (maxSteps := 1000000) [Try.f5])
    | (first | (apply hK; clear hK) | (clear hK; apply hK; clear hK) | (clear hK; clear hK; apply hK; clear hK) | (clear hK; clear hK; clear hK; apply hK; clear hK))
    | exact hQ _ _ (.inl rfl) ⟨5, _, _, rfl, rfl, rfl⟩
    | refine hQ _ _ (.inl rfl) ⟨5, _, _, rfl, rfl, ?_⟩
    | refine hQ _ _ (.inl rfl) ⟨_, rfl, ?_⟩
    | (refine jl_call (f := 7) rfl rfl rfl rfl rfl (layForF a az 0 t) (by simp [BelL, Bel]) ?_; rintro r ⟨cs, rfl, hok, hn5⟩; simp (maxSteps := 1000000) [Try.f5])
    | (refine jd_newc rfl rfl (by simp) ?_; simp (maxSteps := 1000000) [thD, thL, Try.f5])
    | (refine okN_or ?_; simp (maxSteps := 1000000) [thD, thL, Try.f5])
    | (refine okC_guard (fun hc => ?_) (fun hc => ?_) <;> (first | simp (maxSteps := 1000000) [hc, of_decide_eq_true hc, Try.f5] | simp (maxSteps := 1000000) [hc, of_decide_eq_false hc, Try.f5] | simp (maxSteps := 1000000) [hc, Try.f5]) <;> (try simp at hc) <;> (try (exfalso; first | omega | exact absurd hc (by assumption))))
    | (refine okJ_guard (fun hc => ?_) (fun hc => ?_) <;> (first | simp (maxSteps := 1000000) [hc, of_decide_eq_true hc, Try.f5] | simp (maxSteps := 1000000) [hc, of_decide_eq_false hc, Try.f5] | simp (maxSteps := 1000000) [hc, Try.f5]) <;> (try simp at hc) <;> (try (exfalso; first | omega | exact absurd hc (by assumption))))
    | (refine And.intro (by first | assumption | omega | (simp [BelL, Bel]; done) | (simp; omega)) ?_; try simp (maxSteps := 1000000) [Try.f5])
    | (refine okC_or ?_; simp (maxSteps := 1000000) [Try.f5])
  have h2 := hok.2.2.1
  have h3 := hok.2.2.2.1
  refine jw_loop_v (fun m z => ∃ (i : Nat), (i ≤ cs.length) ∧ cs.length - i = m ∧ z = ⟨[.any, .any, numsD .i64 b, .int .i64 p] ++ List.replicate 5 .any ++ [.ptr 0 2 0, .int .i64 cs.length, .ms 1 i 0 i 1, .int .i64 i] ++ List.replicate 123 .any, [some (.c [.int .i64 0, chainsD cs]), some (.c ((tailsTo b i).map (.int .i64)))]⟩) ⟨[.any, .any, numsD .i64 b, .int .i64 p] ++ List.replicate 5 .any ++ [.ptr 0 2 0, .int .i64 cs.length, .ms 1 (0) 0 (0) 1, .int .i64 (0)] ++ List.replicate 123 .any, [some (.c [.int .i64 0, chainsD cs]), some (.c ((tailsTo b (0)).map (.int .i64)))]⟩ ((view_nil 11 1 rfl).trans (view_takeE (sl := [.any, .any, numsD .i64 b, .int .i64 p] ++ List.replicate 5 .any ++ [.ptr 0 2 0, .int .i64 cs.length, .ms 1 (0) 0 (0) 1, .int .i64 (0)] ++ List.replicate 123 .any) (σ0 := [some (.c [.int .i64 0, chainsD cs]), some (.c ((tailsTo b (0)).map (.int .i64)))]) 2 (by simp [tailsTo, thL, thD, thS, thOb]) (by first | omega | simp) (by first | omega | (simp [tailsTo, thL, thD, thS, thOb]; done) | (simp [tailsTo, thL, thD, thS, thOb]; omega)) (by first | rfl | simp [tailsTo, thL, thD, thS, thOb]) (by simp [BelL, Bel, thL, thD, thS, thOb, tailsTo]) (by simp [BelS, BelOb, BelL, Bel, thL, thD, thS, thOb, tailsTo]))) ⟨(0), ?_, rfl, rfl⟩ ?_
  rotate_left
  rintro m z ⟨i, hA, rfl, rfl⟩ KA hKA
  · have hw := wrap_i64 (n := (i : Int) + 1) (by omega) (by omega)
    by_cases hlt : i < cs.length
    · by_cases hb : i < b.length
      · have hT : tailsTo b (i + 1) = tailsTo b i ++ [b[i] % 65] := by rw [tailsTo_succ]; simp [tailsAt, hb]
        repeat' first
          | refine jw_ret (hQ _ _ (.inr rfl) ⟨5, _, _, rfl, rfl, ?_⟩)
          | refine jw_ret (hQ _ _ (.inr rfl) ⟨_, rfl, ?_⟩)
          | refine jw_seq_k fun K hK => ?_
          | refine jw_block ?_
          | (refine jw_skip ?_; simp)
          | (refine jw_exit ?_; simp)
          | (refine jw_cond rfl (fun hc => ?_) (fun hc => ?_) <;> (try simp at hc) <;> (try (exfalso; first | omega | exact absurd hc (by assumption))))
          | (refine jw_c ?_; simp (maxSteps := 1000000) [hlt, hb, hw, show i + 1 ≤ 140737488355328 by omega])
          | (refine jw_draw_j mixed (by kernel_rfl) ?_; simp (maxSteps := 1000000) [hlt, hb, hw, show i + 1 ≤ 140737488355328 by omega])
          | (first | (apply hK; clear hK) | (clear hK; apply hK; clear hK) | (clear hK; clear hK; apply hK; clear hK) | (clear hK; clear hK; clear hK; apply hK; clear hK))
          | exact hQ _ _ (.inl rfl) ⟨5, _, _, rfl, rfl, rfl⟩
          | refine hQ _ _ (.inl rfl) ⟨5, _, _, rfl, rfl, ?_⟩
          | refine hQ _ _ (.inl rfl) ⟨_, rfl, ?_⟩
          | (refine jl_call (f := 8) rfl rfl rfl rfl rfl (pickedG _ _ (by omega) (by omega)) (by simp [BelL, Bel]) ?_; rintro r rfl; simp (maxSteps := 1000000) [hlt, hb, hw, show i + 1 ≤ 140737488355328 by omega])
          | (refine jd_call (f := 8) rfl rfl rfl rfl rfl (pickedG _ _ (by omega) (by omega)) (by simp [BelL, Bel]) ?_; simp (maxSteps := 1000000) [hlt, hb, hw, show i + 1 ≤ 140737488355328 by omega])
          | (refine jd_newc rfl rfl (by simp) ?_; simp (maxSteps := 1000000) [thD, thL, hlt, hb, hw, show i + 1 ≤ 140737488355328 by omega])
          | (refine okN_or ?_; simp (maxSteps := 1000000) [thD, thL, hlt, hb, hw, show i + 1 ≤ 140737488355328 by omega])
          | (refine okC_guard (fun hc => ?_) (fun hc => ?_) <;> (first | simp (maxSteps := 1000000) [hc, of_decide_eq_true hc, hlt, hb, hw, show i + 1 ≤ 140737488355328 by omega] | simp (maxSteps := 1000000) [hc, of_decide_eq_false hc, hlt, hb, hw, show i + 1 ≤ 140737488355328 by omega] | simp (maxSteps := 1000000) [hc, hlt, hb, hw, show i + 1 ≤ 140737488355328 by omega]) <;> (try simp at hc) <;> (try (exfalso; first | omega | exact absurd hc (by assumption))))
          | (refine okJ_guard (fun hc => ?_) (fun hc => ?_) <;> (first | simp (maxSteps := 1000000) [hc, of_decide_eq_true hc, hlt, hb, hw, show i + 1 ≤ 140737488355328 by omega] | simp (maxSteps := 1000000) [hc, of_decide_eq_false hc, hlt, hb, hw, show i + 1 ≤ 140737488355328 by omega] | simp (maxSteps := 1000000) [hc, hlt, hb, hw, show i + 1 ≤ 140737488355328 by omega]) <;> (try simp at hc) <;> (try (exfalso; first | omega | exact absurd hc (by assumption))))
          | (refine And.intro (by first | assumption | omega | (simp [BelL, Bel]; done) | (simp; omega)) ?_; try simp (maxSteps := 1000000) [hlt, hb, hw, show i + 1 ≤ 140737488355328 by omega])
          | (refine okC_or ?_; simp (maxSteps := 1000000) [hlt, hb, hw, show i + 1 ≤ 140737488355328 by omega])
        refine hKA (cs.length - (i + 1)) _ ⟨[.any, .any, numsD .i64 b, .int .i64 p] ++ List.replicate 5 .any ++ [.ptr 0 2 0, .int .i64 cs.length, .ms 1 (i + 1) 0 (i + 1) 1, .int .i64 (i + 1)] ++ List.replicate 123 .any, [some (.c [.int .i64 0, chainsD cs]), some (.c ((tailsTo b (i + 1)).map (.int .i64)))]⟩ (by omega) (view_takeE (sl := [.any, .any, numsD .i64 b, .int .i64 p] ++ List.replicate 5 .any ++ [.ptr 0 2 0, .int .i64 cs.length, .ms 1 (i + 1) 0 (i + 1) 1, .int .i64 (i + 1)] ++ List.replicate 123 .any) (σ0 := [some (.c [.int .i64 0, chainsD cs]), some (.c ((tailsTo b (i + 1)).map (.int .i64)))]) 2 (by simp [hT]) (by first | omega | simp) (by first | omega | (simp [hT]; done) | (simp [hT]; omega)) (by first | rfl | simp [hT]) (by simp [BelL, Bel, hT]) (by simp [BelS, BelOb, BelL, Bel, hT])) ⟨(i + 1), ?_, rfl, rfl⟩
        omega
      · have hT : tailsTo b (i + 1) = tailsTo b i ++ [(i : Int)] := by rw [tailsTo_succ]; simp [tailsAt, hb]
        repeat' first
          | refine jw_ret (hQ _ _ (.inr rfl) ⟨5, _, _, rfl, rfl, ?_⟩)
          | refine jw_ret (hQ _ _ (.inr rfl) ⟨_, rfl, ?_⟩)
          | refine jw_seq_k fun K hK => ?_
          | refine jw_block ?_
          | (refine jw_skip ?_; simp)
          | (refine jw_exit ?_; simp)
          | (refine jw_cond rfl (fun hc => ?_) (fun hc => ?_) <;> (try simp at hc) <;> (try (exfalso; first | omega | exact absurd hc (by assumption))))
          | (refine jw_c ?_; simp (maxSteps := 1000000) [hlt, hb, hw, show i + 1 ≤ 140737488355328 by omega])
          | (refine jw_draw_j mixed (by kernel_rfl) ?_; simp (maxSteps := 1000000) [hlt, hb, hw, show i + 1 ≤ 140737488355328 by omega])
          | (first | (apply hK; clear hK) | (clear hK; apply hK; clear hK) | (clear hK; clear hK; apply hK; clear hK) | (clear hK; clear hK; clear hK; apply hK; clear hK))
          | exact hQ _ _ (.inl rfl) ⟨5, _, _, rfl, rfl, rfl⟩
          | refine hQ _ _ (.inl rfl) ⟨5, _, _, rfl, rfl, ?_⟩
          | refine hQ _ _ (.inl rfl) ⟨_, rfl, ?_⟩
          | (refine jd_newc rfl rfl (by simp) ?_; simp (maxSteps := 1000000) [thD, thL, hlt, hb, hw, show i + 1 ≤ 140737488355328 by omega])
          | (refine okN_or ?_; simp (maxSteps := 1000000) [thD, thL, hlt, hb, hw, show i + 1 ≤ 140737488355328 by omega])
          | (refine okC_guard (fun hc => ?_) (fun hc => ?_) <;> (first | simp (maxSteps := 1000000) [hc, of_decide_eq_true hc, hlt, hb, hw, show i + 1 ≤ 140737488355328 by omega] | simp (maxSteps := 1000000) [hc, of_decide_eq_false hc, hlt, hb, hw, show i + 1 ≤ 140737488355328 by omega] | simp (maxSteps := 1000000) [hc, hlt, hb, hw, show i + 1 ≤ 140737488355328 by omega]) <;> (try simp at hc) <;> (try (exfalso; first | omega | exact absurd hc (by assumption))))
          | (refine okJ_guard (fun hc => ?_) (fun hc => ?_) <;> (first | simp (maxSteps := 1000000) [hc, of_decide_eq_true hc, hlt, hb, hw, show i + 1 ≤ 140737488355328 by omega] | simp (maxSteps := 1000000) [hc, of_decide_eq_false hc, hlt, hb, hw, show i + 1 ≤ 140737488355328 by omega] | simp (maxSteps := 1000000) [hc, hlt, hb, hw, show i + 1 ≤ 140737488355328 by omega]) <;> (try simp at hc) <;> (try (exfalso; first | omega | exact absurd hc (by assumption))))
          | (refine And.intro (by first | assumption | omega | (simp [BelL, Bel]; done) | (simp; omega)) ?_; try simp (maxSteps := 1000000) [hlt, hb, hw, show i + 1 ≤ 140737488355328 by omega])
          | (refine okC_or ?_; simp (maxSteps := 1000000) [hlt, hb, hw, show i + 1 ≤ 140737488355328 by omega])
        refine hKA (cs.length - (i + 1)) _ ⟨[.any, .any, numsD .i64 b, .int .i64 p] ++ List.replicate 5 .any ++ [.ptr 0 2 0, .int .i64 cs.length, .ms 1 (i + 1) 0 (i + 1) 1, .int .i64 (i + 1)] ++ List.replicate 123 .any, [some (.c [.int .i64 0, chainsD cs]), some (.c ((tailsTo b (i + 1)).map (.int .i64)))]⟩ (by omega) (view_takeE (sl := [.any, .any, numsD .i64 b, .int .i64 p] ++ List.replicate 5 .any ++ [.ptr 0 2 0, .int .i64 cs.length, .ms 1 (i + 1) 0 (i + 1) 1, .int .i64 (i + 1)] ++ List.replicate 123 .any) (σ0 := [some (.c [.int .i64 0, chainsD cs]), some (.c ((tailsTo b (i + 1)).map (.int .i64)))]) 2 (by simp [hT]) (by first | omega | simp) (by first | omega | (simp [hT]; done) | (simp [hT]; omega)) (by first | rfl | simp [hT]) (by simp [BelL, Bel, hT]) (by simp [BelS, BelOb, BelL, Bel, hT])) ⟨(i + 1), ?_, rfl, rfl⟩
        omega
    · repeat' first
        | refine jw_ret (hQ _ _ (.inr rfl) ⟨5, _, _, rfl, rfl, ?_⟩)
        | refine jw_ret (hQ _ _ (.inr rfl) ⟨_, rfl, ?_⟩)
        | refine jw_seq_k fun K hK => ?_
        | refine jw_block ?_
        | (refine jw_skip ?_; simp)
        | (refine jw_exit ?_; simp)
        | (refine jw_cond rfl (fun hc => ?_) (fun hc => ?_) <;> (try simp at hc) <;> (try (exfalso; first | omega | exact absurd hc (by assumption))))
        | ((fail_if_success (refine jw_c (id := 11) ?_)); (refine jw_c ?_; simp (maxSteps := 1000000) [hlt]))
        | ((fail_if_success (refine jw_draw_j (id := 11) mixed (by kernel_rfl) ?_)); (refine jw_draw_j mixed (by kernel_rfl) ?_; simp (maxSteps := 1000000) [hlt]))
        | (first | (apply hK; clear hK) | (clear hK; apply hK; clear hK) | (clear hK; clear hK; apply hK; clear hK) | (clear hK; clear hK; clear hK; apply hK; clear hK))
        | exact hQ _ _ (.inl rfl) ⟨5, _, _, rfl, rfl, rfl⟩
        | refine hQ _ _ (.inl rfl) ⟨5, _, _, rfl, rfl, ?_⟩
        | refine hQ _ _ (.inl rfl) ⟨_, rfl, ?_⟩
        | (refine jd_newc rfl rfl (by simp) ?_; simp (maxSteps := 1000000) [thD, thL, hlt])
        | (refine okN_or ?_; simp (maxSteps := 1000000) [thD, thL, hlt])
        | (refine okC_guard (fun hc => ?_) (fun hc => ?_) <;> (first | simp (maxSteps := 1000000) [hc, of_decide_eq_true hc, hlt] | simp (maxSteps := 1000000) [hc, of_decide_eq_false hc, hlt] | simp (maxSteps := 1000000) [hc, hlt]) <;> (try simp at hc) <;> (try (exfalso; first | omega | exact absurd hc (by assumption))))
        | (refine okJ_guard (fun hc => ?_) (fun hc => ?_) <;> (first | simp (maxSteps := 1000000) [hc, of_decide_eq_true hc, hlt] | simp (maxSteps := 1000000) [hc, of_decide_eq_false hc, hlt] | simp (maxSteps := 1000000) [hc, hlt]) <;> (try simp at hc) <;> (try (exfalso; first | omega | exact absurd hc (by assumption))))
        | (refine And.intro (by first | assumption | omega | (simp [BelL, Bel]; done) | (simp; omega)) ?_; try simp (maxSteps := 1000000) [hlt])
        | (refine okC_or ?_; simp (maxSteps := 1000000) [hlt])
      obtain rfl : i = cs.length := by omega
      (refine jw_view (view_frz 1 _ rfl (by simp [BelL, Bel, thL_flat, thD_flat])) ?_; simp (maxSteps := 1000000) [thL, thD, thS, thOb, thL_flat, thD_flat])
      have hb := tailsTo_bound b cs.length (by omega)
      have hr := tailTo_range cs.length _ hb (by simp) cs.length (by simp)
      have hT := tailF (G := []) 0 cs hok (tailsTo b cs.length) (by simp) hb
      simp only [numsD, tailsTo_length] at hT
      have hfz : List.take cs.length (List.map (D.int .i64) (tailsTo b cs.length)) = List.map (D.int .i64) (tailsTo b cs.length) := List.take_of_length_le (by simp)
      have hw1 := wrap_i64 (n := (cs.length : Int) * 64) (by omega) (by omega)
      have hlaw := tailTo_ge cs.length (tailsTo b cs.length) cs.length
      have hat := tailTo_at cs.length (tailsTo b cs.length) cs.length
      generalize hTT : tailTo cs.length (tailsTo b cs.length) cs.length = T at *
      have hT0 : ¬ T < 0 := by omega
      have hT1 : ¬ (cs.length : Int) * 64 < T := by omega
      repeat' first
        | refine jw_ret (hQ _ _ (.inr rfl) ⟨5, _, _, rfl, rfl, ?_⟩)
        | refine jw_ret (hQ _ _ (.inr rfl) ⟨_, rfl, ?_⟩)
        | refine jw_seq_k fun K hK => ?_
        | refine jw_block ?_
        | (refine jw_skip ?_; simp)
        | (refine jw_exit ?_; simp)
        | (refine jw_cond rfl (fun hc => ?_) (fun hc => ?_) <;> (try simp at hc) <;> (try (exfalso; first | omega | exact absurd hc (by assumption))))
        | (refine jw_c ?_; simp (maxSteps := 1000000) [show cs.length ≤ 140737488355328 by omega, hfz, hw1, hT0, hT1])
        | (refine jw_draw_j mixed (by kernel_rfl) ?_; simp (maxSteps := 1000000) [show cs.length ≤ 140737488355328 by omega, hfz, hw1, hT0, hT1])
        | (first | (apply hK; clear hK) | (clear hK; apply hK; clear hK) | (clear hK; clear hK; apply hK; clear hK) | (clear hK; clear hK; clear hK; apply hK; clear hK))
        | exact hQ _ _ (.inl rfl) ⟨5, _, _, rfl, rfl, rfl⟩
        | refine hQ _ _ (.inl rfl) ⟨5, _, _, rfl, rfl, ?_⟩
        | refine hQ _ _ (.inl rfl) ⟨_, rfl, ?_⟩
        | (refine jl_call (f := 12) rfl rfl rfl rfl rfl (hT) (by simp [BelL, Bel]) ?_; rintro r rfl; simp (maxSteps := 1000000) [show cs.length ≤ 140737488355328 by omega, hfz, hw1, hT0, hT1])
        | (refine jd_call (f := 12) rfl rfl rfl rfl rfl (hT) (by simp [BelL, Bel]) ?_; simp (maxSteps := 1000000) [show cs.length ≤ 140737488355328 by omega, hfz, hw1, hT0, hT1])
        | (refine jl_call (f := 11) rfl rfl rfl rfl rfl (mayF 0 cs hok) (by simp [BelL, Bel]) ?_; rintro r rfl; simp (maxSteps := 1000000) [show cs.length ≤ 140737488355328 by omega, hfz, hw1, hT0, hT1])
        | (refine jd_call (f := 11) rfl rfl rfl rfl rfl (mayF 0 cs hok) (by simp [BelL, Bel]) ?_; simp (maxSteps := 1000000) [show cs.length ≤ 140737488355328 by omega, hfz, hw1, hT0, hT1])
        | (refine jd_newc rfl rfl (by simp) ?_; simp (maxSteps := 1000000) [thD, thL, show cs.length ≤ 140737488355328 by omega, hfz, hw1, hT0, hT1])
        | (refine okN_or ?_; simp (maxSteps := 1000000) [thD, thL, show cs.length ≤ 140737488355328 by omega, hfz, hw1, hT0, hT1])
        | (refine okC_guard (fun hc => ?_) (fun hc => ?_) <;> (first | simp (maxSteps := 1000000) [hc, of_decide_eq_true hc, show cs.length ≤ 140737488355328 by omega, hfz, hw1, hT0, hT1] | simp (maxSteps := 1000000) [hc, of_decide_eq_false hc, show cs.length ≤ 140737488355328 by omega, hfz, hw1, hT0, hT1] | simp (maxSteps := 1000000) [hc, show cs.length ≤ 140737488355328 by omega, hfz, hw1, hT0, hT1]) <;> (try simp at hc) <;> (try (exfalso; first | omega | exact absurd hc (by assumption))))
        | (refine okJ_guard (fun hc => ?_) (fun hc => ?_) <;> (first | simp (maxSteps := 1000000) [hc, of_decide_eq_true hc, show cs.length ≤ 140737488355328 by omega, hfz, hw1, hT0, hT1] | simp (maxSteps := 1000000) [hc, of_decide_eq_false hc, show cs.length ≤ 140737488355328 by omega, hfz, hw1, hT0, hT1] | simp (maxSteps := 1000000) [hc, show cs.length ≤ 140737488355328 by omega, hfz, hw1, hT0, hT1]) <;> (try simp at hc) <;> (try (exfalso; first | omega | exact absurd hc (by assumption))))
        | (refine And.intro (by first | assumption | omega | (simp [BelL, Bel]; done) | (simp; omega)) ?_; try simp (maxSteps := 1000000) [show cs.length ≤ 140737488355328 by omega, hfz, hw1, hT0, hT1])
        | (refine okC_or ?_; simp (maxSteps := 1000000) [show cs.length ≤ 140737488355328 by omega, hfz, hw1, hT0, hT1])
      refine jl_call (f := 8) rfl rfl rfl rfl rfl (pickedN p _ (by omega) (by omega)) (by simp [BelL, Bel]) ?_
      rintro r ⟨f, ⟨hf0, hf1⟩, rfl⟩
      have hnz : (cs.length : Int) ≠ 0 := by omega
      have hd0 : 0 ≤ f / cs.length := Int.ediv_nonneg hf0 (by omega)
      have hm0 : 0 ≤ f % cs.length := Int.emod_nonneg f (by omega)
      have hm1 : f % cs.length < cs.length := Int.emod_lt_of_pos f (by omega)
      have he := Int.mul_ediv_add_emod f cs.length
      have hm2 : ¬ f % cs.length < 0 := by omega
      have hm3 : ¬ (cs.length : Int) ≤ f % cs.length := by omega
      have hm4 : (f % (cs.length : Int)).toNat < cs.length := by omega
      have hget : ∀ c : Nat, c < cs.length → (tailsTo b cs.length)[c]? = some ((tailsTo b cs.length).getD c 0) := fun c hc => by
        rw [List.getD_eq_getElem?_getD, List.getElem?_eq_getElem (by simpa using hc)]; rfl
      have hg1 := hget _ hm4
      have key : f / cs.length < (tailsTo b cs.length).getD (f % (cs.length : Int)).toNat 0 → f < T := fun hlt => by
        have h1 := hlaw _ hm4 (by omega)
        have h2 : (f / cs.length) * (cs.length : Int) ≤ ((tailsTo b cs.length).getD (f % (cs.length : Int)).toNat 0 - 1) * cs.length := Int.mul_le_mul_of_nonneg_right (by omega) (by omega)
        rw [Int.mul_comm] at h2
        omega
      simp
      repeat' first
        | refine jw_ret (hQ _ _ (.inr rfl) ⟨5, _, _, rfl, rfl, ?_⟩)
        | refine jw_ret (hQ _ _ (.inr rfl) ⟨_, rfl, ?_⟩)
        | refine jw_seq_k fun K hK => ?_
        | refine jw_block ?_
        | (refine jw_skip ?_; simp)
        | (refine jw_exit ?_; simp)
        | (refine jw_cond rfl (fun hc => ?_) (fun hc => ?_) <;> (try simp at hc) <;> (try (exfalso; first | omega | exact absurd hc (by assumption))))
        | ((fail_if_success (refine jw_c (id := 18) ?_)); (refine jw_c ?_; simp (maxSteps := 1000000) [hw1, hm2, hm3, hm0, hm1, hm4, hg1]))
        | ((fail_if_success (refine jw_draw_j (id := 18) mixed (by kernel_rfl) ?_)); (refine jw_draw_j mixed (by kernel_rfl) ?_; simp (maxSteps := 1000000) [hw1, hm2, hm3, hm0, hm1, hm4, hg1]))
        | (first | (apply hK; clear hK) | (clear hK; apply hK; clear hK) | (clear hK; clear hK; apply hK; clear hK) | (clear hK; clear hK; clear hK; apply hK; clear hK))
        | exact hQ _ _ (.inl rfl) ⟨5, _, _, rfl, rfl, rfl⟩
        | refine hQ _ _ (.inl rfl) ⟨5, _, _, rfl, rfl, ?_⟩
        | refine hQ _ _ (.inl rfl) ⟨_, rfl, ?_⟩
        | (refine jl_call (f := 9) rfl rfl rfl rfl rfl (placeOk 0 cs hok _ (by omega)) (by simp [BelL, Bel]) ?_; rintro r rfl; simp (maxSteps := 1000000) [hw1, hm2, hm3, hm0, hm1, hm4, hg1])
        | (refine jd_call (f := 9) rfl rfl rfl rfl rfl (placeOk 0 cs hok _ (by omega)) (by simp [BelL, Bel]) ?_; simp (maxSteps := 1000000) [hw1, hm2, hm3, hm0, hm1, hm4, hg1])
        | (refine jd_newc rfl rfl (by simp) ?_; simp (maxSteps := 1000000) [thD, thL, hw1, hm2, hm3, hm0, hm1, hm4, hg1])
        | (refine okN_or ?_; simp (maxSteps := 1000000) [thD, thL, hw1, hm2, hm3, hm0, hm1, hm4, hg1])
        | (refine okC_guard (fun hc => ?_) (fun hc => ?_) <;> (first | simp (maxSteps := 1000000) [hc, of_decide_eq_true hc, hw1, hm2, hm3, hm0, hm1, hm4, hg1] | simp (maxSteps := 1000000) [hc, of_decide_eq_false hc, hw1, hm2, hm3, hm0, hm1, hm4, hg1] | simp (maxSteps := 1000000) [hc, hw1, hm2, hm3, hm0, hm1, hm4, hg1]) <;> (try simp at hc) <;> (try (exfalso; first | omega | exact absurd hc (by assumption))))
        | (refine okJ_guard (fun hc => ?_) (fun hc => ?_) <;> (first | simp (maxSteps := 1000000) [hc, of_decide_eq_true hc, hw1, hm2, hm3, hm0, hm1, hm4, hg1] | simp (maxSteps := 1000000) [hc, of_decide_eq_false hc, hw1, hm2, hm3, hm0, hm1, hm4, hg1] | simp (maxSteps := 1000000) [hc, hw1, hm2, hm3, hm0, hm1, hm4, hg1]) <;> (try simp at hc) <;> (try (exfalso; first | omega | exact absurd hc (by assumption))))
        | (refine And.intro (by first | assumption | omega | (simp [BelL, Bel]; done) | (simp; omega)) ?_; try simp (maxSteps := 1000000) [hw1, hm2, hm3, hm0, hm1, hm4, hg1])
        | (refine okC_or ?_; simp (maxSteps := 1000000) [hw1, hm2, hm3, hm0, hm1, hm4, hg1])
      · rename_i hc1 hc2 _ _
        have h4 : f / cs.length < (tailsTo b cs.length).getD (f % (cs.length : Int)).toNat 0 := by
          rw [List.getD_eq_getElem?_getD, List.getElem?_eq_getElem (by simpa using hm4)]
          assumption
        have := key h4
        omega
      all_goals
        rcases hat with rfl | ⟨c, hcl, hcp, hce⟩
        · repeat' first
            | refine jw_ret (hQ _ _ (.inr rfl) ⟨5, _, _, rfl, rfl, ?_⟩)
            | refine jw_ret (hQ _ _ (.inr rfl) ⟨_, rfl, ?_⟩)
            | refine jw_seq_k fun K hK => ?_
            | refine jw_block ?_
            | (refine jw_skip ?_; simp)
            | (refine jw_exit ?_; simp)
            | (refine jw_cond rfl (fun hc => ?_) (fun hc => ?_) <;> (try simp at hc) <;> (try (exfalso; first | omega | exact absurd hc (by assumption))))
            | (refine jw_c ?_; simp (maxSteps := 1000000))
            | (refine jw_draw_j mixed (by kernel_rfl) ?_; simp (maxSteps := 1000000))
            | (first | (apply hK; clear hK) | (clear hK; apply hK; clear hK) | (clear hK; clear hK; apply hK; clear hK) | (clear hK; clear hK; clear hK; apply hK; clear hK))
            | exact hQ _ _ (.inl rfl) ⟨5, _, _, rfl, rfl, rfl⟩
            | refine hQ _ _ (.inl rfl) ⟨5, _, _, rfl, rfl, ?_⟩
            | refine hQ _ _ (.inl rfl) ⟨_, rfl, ?_⟩
            | (refine jd_newc rfl rfl (by simp) ?_; simp (maxSteps := 1000000) [thD, thL])
            | (refine okN_or ?_; simp (maxSteps := 1000000) [thD, thL])
            | (refine okC_guard (fun hc => ?_) (fun hc => ?_) <;> (first | simp (maxSteps := 1000000) [hc, of_decide_eq_true hc] | simp (maxSteps := 1000000) [hc, of_decide_eq_false hc] | simp (maxSteps := 1000000) [hc]) <;> (try simp at hc) <;> (try (exfalso; first | omega | exact absurd hc (by assumption))))
            | (refine okJ_guard (fun hc => ?_) (fun hc => ?_) <;> (first | simp (maxSteps := 1000000) [hc, of_decide_eq_true hc] | simp (maxSteps := 1000000) [hc, of_decide_eq_false hc] | simp (maxSteps := 1000000) [hc]) <;> (try simp at hc) <;> (try (exfalso; first | omega | exact absurd hc (by assumption))))
            | (refine And.intro (by first | assumption | omega | (simp [BelL, Bel]; done) | (simp; omega)) ?_; try simp (maxSteps := 1000000))
            | (refine okC_or ?_; simp (maxSteps := 1000000))
          all_goals rfl
        · have hcb := hb _ (List.mem_of_getElem? (hget c hcl))
          have hp0 : 0 ≤ ((tailsTo b cs.length).getD c 0 - 1) * (cs.length : Int) := Int.mul_nonneg (by omega) (by omega)
          have hp1 : ((tailsTo b cs.length).getD c 0 - 1) * (cs.length : Int) ≤ 63 * cs.length := Int.mul_le_mul_of_nonneg_right (by omega) (by omega)
          have hw2 := wrap_i64 (n := T - 1) (by omega) (by omega)
          have hq : T - 1 = (c : Int) + ((tailsTo b cs.length).getD c 0 - 1) * cs.length := by omega
          have hqm : (T - 1) % cs.length = c := by rw [hq, Int.add_mul_emod_self_right, Int.emod_eq_of_lt (by omega) (by omega)]
          have hqd : (T - 1) / cs.length = (tailsTo b cs.length).getD c 0 - 1 := by rw [hq, Int.add_mul_ediv_right _ _ hnz, Int.ediv_eq_zero_of_lt (by omega) (by omega)]; simp
          have hTn : T ≠ 0 := by omega
          have hgc := hget c hcl
          have hlt2 : (tailsTo b cs.length).getD c 0 - 1 < (tailsTo b cs.length).getD c 0 := by omega
          repeat' first
            | refine jw_ret (hQ _ _ (.inr rfl) ⟨5, _, _, rfl, rfl, ?_⟩)
            | refine jw_ret (hQ _ _ (.inr rfl) ⟨_, rfl, ?_⟩)
            | refine jw_seq_k fun K hK => ?_
            | refine jw_block ?_
            | (refine jw_skip ?_; simp)
            | (refine jw_exit ?_; simp)
            | (refine jw_cond rfl (fun hc => ?_) (fun hc => ?_) <;> (try simp at hc) <;> (try (exfalso; first | omega | exact absurd hc (by assumption))))
            | (refine jw_c ?_; simp (maxSteps := 1000000) [hTn, hw2, hqm, hqd, hcl, hgc, hlt2])
            | (refine jw_draw_j mixed (by kernel_rfl) ?_; simp (maxSteps := 1000000) [hTn, hw2, hqm, hqd, hcl, hgc, hlt2])
            | (first | (apply hK; clear hK) | (clear hK; apply hK; clear hK) | (clear hK; clear hK; apply hK; clear hK) | (clear hK; clear hK; clear hK; apply hK; clear hK))
            | exact hQ _ _ (.inl rfl) ⟨5, _, _, rfl, rfl, rfl⟩
            | refine hQ _ _ (.inl rfl) ⟨5, _, _, rfl, rfl, ?_⟩
            | refine hQ _ _ (.inl rfl) ⟨_, rfl, ?_⟩
            | (refine jl_call (f := 9) rfl rfl rfl rfl rfl (placeOk 0 cs hok _ (by omega)) (by simp [BelL, Bel]) ?_; rintro r rfl; simp (maxSteps := 1000000) [hTn, hw2, hqm, hqd, hcl, hgc, hlt2])
            | (refine jd_call (f := 9) rfl rfl rfl rfl rfl (placeOk 0 cs hok _ (by omega)) (by simp [BelL, Bel]) ?_; simp (maxSteps := 1000000) [hTn, hw2, hqm, hqd, hcl, hgc, hlt2])
            | (refine jd_newc rfl rfl (by simp) ?_; simp (maxSteps := 1000000) [thD, thL, hTn, hw2, hqm, hqd, hcl, hgc, hlt2])
            | (refine okN_or ?_; simp (maxSteps := 1000000) [thD, thL, hTn, hw2, hqm, hqd, hcl, hgc, hlt2])
            | (refine okC_guard (fun hc => ?_) (fun hc => ?_) <;> (first | simp (maxSteps := 1000000) [hc, of_decide_eq_true hc, hTn, hw2, hqm, hqd, hcl, hgc, hlt2] | simp (maxSteps := 1000000) [hc, of_decide_eq_false hc, hTn, hw2, hqm, hqd, hcl, hgc, hlt2] | simp (maxSteps := 1000000) [hc, hTn, hw2, hqm, hqd, hcl, hgc, hlt2]) <;> (try simp at hc) <;> (try (exfalso; first | omega | exact absurd hc (by assumption))))
            | (refine okJ_guard (fun hc => ?_) (fun hc => ?_) <;> (first | simp (maxSteps := 1000000) [hc, of_decide_eq_true hc, hTn, hw2, hqm, hqd, hcl, hgc, hlt2] | simp (maxSteps := 1000000) [hc, of_decide_eq_false hc, hTn, hw2, hqm, hqd, hcl, hgc, hlt2] | simp (maxSteps := 1000000) [hc, hTn, hw2, hqm, hqd, hcl, hgc, hlt2]) <;> (try simp at hc) <;> (try (exfalso; first | omega | exact absurd hc (by assumption))))
            | (refine And.intro (by first | assumption | omega | (simp [BelL, Bel]; done) | (simp; omega)) ?_; try simp (maxSteps := 1000000) [hTn, hw2, hqm, hqd, hcl, hgc, hlt2])
            | (refine okC_or ?_; simp (maxSteps := 1000000) [hTn, hw2, hqm, hqd, hcl, hgc, hlt2])
          all_goals (congr 1; rw [decide_eq_true_eq]; omega)
  · omega
end Go.Proofs.Ytaoohkfocajdcaa
