/- LayoutFor: a layout that may be. -/
import Derived.Test.YtaoohkfocajdcaaPlace
set_option linter.unusedVariables false
set_option linter.unusedSimpArgs false
set_option maxRecDepth 20000
set_option maxHeartbeats 20000000
namespace Go.Proofs.Ytaoohkfocajdcaa
open Go Go.Vm Go.Proofs

/-- The units that LayoutFor lays: one after the other, from a start. -/
def unitsOf (t : Int) (a n : Nat) : List Int := (List.range n).map fun k => (((a + k : Nat) : Int) + t % 6) % 6
theorem unitsOf_succ (t : Int) (a n : Nat) : unitsOf t a (n + 1) = unitsOf t a n ++ [((a : Int) + n + t % 6) % 6] := by
  unfold unitsOf; rw [List.range_succ, List.map_append]; simp
@[simp] theorem unitsOf_length (t : Int) (a n : Nat) : (unitsOf t a n).length = n := by simp [unitsOf]
theorem unitsOf_add (t : Int) (a n m : Nat) : unitsOf t a (n + m) = unitsOf t a n ++ unitsOf t (a + n) m := by
  unfold unitsOf
  rw [List.range_add, List.map_append, List.map_map]
  congr 1
  exact List.map_congr_left fun k _ => by simp [Nat.add_assoc]
theorem unitsOf_bound (t : Int) (a n : Nat) : ∀ u ∈ unitsOf t a n, 0 ≤ u ∧ u < 6 := by
  intro u hu
  obtain ⟨k, _, rfl⟩ := List.mem_map.1 hu
  omega
theorem unitsOf_nodup (t : Int) (a : Nat) {n : Nat} (hn : n ≤ 6) : (unitsOf t a n).Nodup := by
  refine List.Pairwise.map (R := fun x y : Nat => x ≠ y ∧ x < n ∧ y < n) _ ?_ ?_
  · rintro x y ⟨h1, h2, h3⟩ h
    omega
  · have h1 : (List.range n).Pairwise (· ≠ ·) := List.nodup_range
    refine h1.imp_of_mem ?_
    intro x y hx hy hxy
    exact ⟨hxy, List.mem_range.1 hx, List.mem_range.1 hy⟩
/-- What LayoutFor has laid after some chains. -/
def Chs (t : Int) (cs : List (List Int)) (U : Nat) : Prop := cs.flatten = unitsOf t 0 U ∧ U ≤ 5 ∧ cs.length ≤ U ∧ ∀ c ∈ cs, 1 ≤ c.length ∧ c.length ≤ 3
theorem Chs.snoc {t : Int} {cs : List (List Int)} {U n : Nat} (h : Chs t cs U) (h1 : 1 ≤ n) (h3 : n ≤ 3) (h5 : U + n ≤ 5) : Chs t (cs ++ [unitsOf t U n]) (U + n) := by
  obtain ⟨a, b, c, d⟩ := h
  refine ⟨by rw [List.flatten_append, a, unitsOf_add, Nat.zero_add]; simp, h5, by simp; omega, fun x hx => ?_⟩
  rcases List.mem_append.1 hx with hx | hx
  · exact d x hx
  · rw [List.mem_singleton.1 hx, unitsOf_length]; exact ⟨h1, h3⟩
theorem Chs.ok {t e : Int} {cs : List (List Int)} {U : Nat} (h : Chs t cs U) (he : 0 ≤ e ∧ e ≤ 1000000) (hn : 1 ≤ cs.length) : LayOk e cs ∧ cs.flatten.length ≤ 5 := by
  obtain ⟨a, b, c, d⟩ := h
  exact ⟨⟨he.1, he.2, hn, by omega, d, by rw [a]; exact unitsOf_bound _ _ _, by rw [a]; exact unitsOf_nodup _ _ (by omega)⟩, by rw [a, unitsOf_length]; exact b⟩

theorem frz_lay {σ : Store} {lc : Nat} {E : Int} {cs : List (List Int)} (h : σ[lc]? = some (some (.c (cs.map intsD)))) : frz σ 6 (.agg [.int .i64 E, .ms lc cs.length 0 cs.length 1]) = some (layD E cs) := by
  have : (cs.map intsD).mapM (frz σ 4) = some (cs.map intsD) := frzL_bel fun d hd => by
    obtain ⟨c, _, rfl⟩ := List.mem_map.1 hd
    exact frz_ints σ 3 c
  have ht : (cs.map intsD).take cs.length = cs.map intsD := List.take_of_length_le (by simp)
  simp [frz, h, this, layD, chainsD, ht]
theorem app_len0 (σ X : Store) : (σ ++ X)[σ.length]? = X[0]? := by rw [List.getElem?_append_right (by omega)]; simp
theorem app_len (σ X : Store) (j : Nat) : (σ ++ X)[σ.length + j]? = X[j]? := by rw [List.getElem?_append_right (by omega)]; simp
theorem set_len0 (σ X : Store) (y : Option Ob) : (σ ++ X).set σ.length y = σ ++ X.set 0 y := by rw [List.set_append_right _ _ (by omega)]; simp
theorem set_len (σ X : Store) (j : Nat) (y : Option Ob) : (σ ++ X).set (σ.length + j) y = σ ++ X.set j y := by rw [List.set_append_right _ _ (by omega)]; simp

theorem layForF {G : Globals} (a : List Int) (az : a.length * 8 ≤ 140737488351232) (e t : Int) : FV Try.prog G 7 [numsD .i64 a, .int .i64 e, .int .i64 t]
    (fun r => ∃ cs : List (List Int), r = layD (e % 1000000) cs ∧ LayOk (e % 1000000) cs ∧ cs.flatten.length ≤ 5) := by
  have hp0 := Int.emod_nonneg t (show (6 : Int) ≠ 0 by omega)
  have hp1 := Int.emod_lt_of_pos t (show (0 : Int) < 6 by omega)
  have hE : 0 ≤ e % 1000000 ∧ e % 1000000 ≤ 1000000 := by omega
  refine fv_enter Try.func7 rfl rfl fun Q hQ => ?_
  repeat' first
    | refine jw_ret (hQ _ _ (.inr rfl) ⟨5, _, _, rfl, rfl, ?_⟩)
    | refine jw_ret (hQ _ _ (.inr rfl) ⟨_, rfl, ?_⟩)
    | refine jw_seq_k fun K hK => ?_
    | refine jw_block ?_
    | (refine jw_skip ?_; try simp)
    | (refine jw_exit ?_; try simp)
    | (refine jw_cond rfl (fun hc => ?_) (fun hc => ?_) <;> (try simp at hc) <;> (try (exfalso; first | omega | exact absurd hc (by assumption))))
    | (refine jw_c ?_; simp (maxSteps := 1000000) [Try.f7])
    | (refine jw_draw_j mixed (by kernel_rfl) ?_; simp (maxSteps := 1000000) [Try.f7])
    | (first | (apply hK; clear hK) | (clear hK; apply hK; clear hK) | (clear hK; clear hK; apply hK; clear hK) | (clear hK; clear hK; clear hK; apply hK; clear hK))
    | exact hQ _ _ (.inl rfl) ⟨5, _, _, rfl, rfl, rfl⟩
    | refine hQ _ _ (.inl rfl) ⟨5, _, _, rfl, rfl, ?_⟩
    | refine hQ _ _ (.inl rfl) ⟨_, rfl, ?_⟩
    | (refine jl_call (f := 8) rfl rfl rfl rfl rfl (pickedG _ _ (by omega) (by omega)) (by simp [BelL, Bel]) ?_; rintro r rfl; simp (maxSteps := 1000000) [Try.f7])
    | (refine jd_call (f := 8) rfl rfl rfl rfl rfl (pickedG _ _ (by omega) (by omega)) (by simp [BelL, Bel]) ?_; simp (maxSteps := 1000000) [Try.f7])
    | (refine jd_newc rfl rfl (by simp) ?_; simp (maxSteps := 1000000) [thD, thL, Try.f7])
    | (refine okN_or ?_; simp (maxSteps := 1000000) [thD, thL, Try.f7])
    | (refine okC_guard (fun hc => ?_) (fun hc => ?_) <;> (first | simp (maxSteps := 1000000) [hc, of_decide_eq_true hc, Try.f7] | simp (maxSteps := 1000000) [hc, of_decide_eq_false hc, Try.f7] | simp (maxSteps := 1000000) [hc, Try.f7]) <;> (try simp at hc) <;> (try (exfalso; first | omega | exact absurd hc (by assumption))))
    | (refine okJ_guard (fun hc => ?_) (fun hc => ?_) <;> (first | simp (maxSteps := 1000000) [hc, of_decide_eq_true hc, Try.f7] | simp (maxSteps := 1000000) [hc, of_decide_eq_false hc, Try.f7] | simp (maxSteps := 1000000) [hc, Try.f7]) <;> (try simp at hc) <;> (try (exfalso; first | omega | exact absurd hc (by assumption))))
    | (refine And.intro (by first | assumption | omega | (simp [BelL, Bel]; done) | (simp; omega)) ?_; try simp (maxSteps := 1000000) [Try.f7])
    | (refine okC_or ?_; simp (maxSteps := 1000000) [Try.f7])
  generalize hEE : e % 1000000 = E at *
  (repeat refine jw_seq_k fun K hK => ?_); refine jw_loop_k (fun m z => ∃ (i U : Nat) (cs : List (List Int)) (d : D) (σ : Store), i ≤ a.length ∧ a.length - i = m ∧ Chs t cs U ∧ 1 < σ.length ∧ σ[0]? = some (some (.c [.int .i64 0, .nsl])) ∧ σ[1]? = some (some (.c [.int .i64 E, d])) ∧
      (cs = [] ∧ d = .nsl ∨ ∃ lc, lc ≠ 0 ∧ lc ≠ 1 ∧ lc < σ.length ∧ cs ≠ [] ∧ d = .ms lc cs.length 0 cs.length 1 ∧ σ[lc]? = some (some (.c (cs.map intsD)))) ∧
      z = ⟨[numsD .i64 a, .any, .int .i64 t, .any, .any, .any, .ptr 0 2 0, .ptr 1 2 0, .int .i64 U, .int .i64 i] ++ List.replicate 59 .any, σ⟩)
    (sl := [numsD .i64 a, .any, .int .i64 t, .any, .any, .any, .ptr 0 2 0, .ptr 1 2 0, .int .i64 (0 : Nat), .int .i64 (0 : Nat)] ++ List.replicate 59 .any) (by simp)
    ⟨0, 0, [], .nsl, _, by omega, rfl, ⟨rfl, by omega, by simp, by simp⟩, by simp, rfl, rfl, .inl ⟨rfl, rfl⟩, rfl⟩ ?_
  rintro m z ⟨i, U, cs, d, σ, hi, rfl, hcs, hl1, h0, h1, hd, rfl⟩ KL hKL
  have hU := hcs.2.1
  have hA1 : ∀ X : Store, (σ ++ X)[1]? = σ[1]? := fun X => List.getElem?_append_left hl1
  have hA0 : ∀ X : Store, (σ ++ X)[0]? = σ[0]? := fun X => List.getElem?_append_left (by omega)
  have hS1 : ∀ (X : Store) (y : Option Ob), (σ ++ X).set 1 y = σ.set 1 y ++ X := fun X y => List.set_append_left _ _ hl1
  have hw := wrap_i64 (n := (i : Int) + 1) (by omega) (by omega)
  by_cases hlt : i < a.length
  · by_cases hlu : U < 5
    · have hm0 := Int.emod_nonneg a[i] (show (3 : Int) ≠ 0 by omega)
      have hm1 := Int.emod_lt_of_pos a[i] (show (0 : Int) < 3 by omega)
      have hw1 := wrap_i64 (n := 1 + a[i] % 3) (by omega) (by omega)
      have hw2 := wrap_i64 (n := 5 - (U : Int)) (by omega) (by omega)
      repeat' first
        | refine jw_ret (hQ _ _ (.inr rfl) ⟨5, _, _, rfl, rfl, ?_⟩)
        | refine jw_ret (hQ _ _ (.inr rfl) ⟨_, rfl, ?_⟩)
        | refine jw_seq_k fun K hK => ?_
        | refine jw_block ?_
        | (refine jw_skip ?_; try simp)
        | (refine jw_exit ?_; try simp)
        | (refine jw_cond rfl (fun hc => ?_) (fun hc => ?_) <;> (try simp at hc) <;> (try (exfalso; first | omega | exact absurd hc (by assumption))))
        | (refine jw_c ?_; simp (maxSteps := 1000000) [hlt, hlu, hw, hw1, hw2])
        | (refine jw_draw_j mixed (by kernel_rfl) ?_; simp (maxSteps := 1000000) [hlt, hlu, hw, hw1, hw2])
        | (first | (apply hK; clear hK) | (clear hK; apply hK; clear hK) | (clear hK; clear hK; apply hK; clear hK) | (clear hK; clear hK; clear hK; apply hK; clear hK))
        | exact hQ _ _ (.inl rfl) ⟨5, _, _, rfl, rfl, rfl⟩
        | refine hQ _ _ (.inl rfl) ⟨5, _, _, rfl, rfl, ?_⟩
        | refine hQ _ _ (.inl rfl) ⟨_, rfl, ?_⟩
        | (refine jl_call (f := 8) rfl rfl rfl rfl rfl (pickedG _ _ (by omega) (by omega)) (by simp [BelL, Bel]) ?_; rintro r rfl; simp (maxSteps := 1000000) [hlt, hlu, hw, hw1, hw2])
        | (refine jd_call (f := 8) rfl rfl rfl rfl rfl (pickedG _ _ (by omega) (by omega)) (by simp [BelL, Bel]) ?_; simp (maxSteps := 1000000) [hlt, hlu, hw, hw1, hw2])
        | (refine jd_newc rfl rfl (by simp) ?_; simp (maxSteps := 1000000) [thD, thL, hlt, hlu, hw, hw1, hw2])
        | (refine okN_or ?_; simp (maxSteps := 1000000) [thD, thL, hlt, hlu, hw, hw1, hw2])
        | (refine okC_guard (fun hc => ?_) (fun hc => ?_) <;> (first | simp (maxSteps := 1000000) [hc, of_decide_eq_true hc, hlt, hlu, hw, hw1, hw2] | simp (maxSteps := 1000000) [hc, of_decide_eq_false hc, hlt, hlu, hw, hw1, hw2] | simp (maxSteps := 1000000) [hc, hlt, hlu, hw, hw1, hw2]) <;> (try simp at hc) <;> (try (exfalso; first | omega | exact absurd hc (by assumption))))
        | (refine okJ_guard (fun hc => ?_) (fun hc => ?_) <;> (first | simp (maxSteps := 1000000) [hc, of_decide_eq_true hc, hlt, hlu, hw, hw1, hw2] | simp (maxSteps := 1000000) [hc, of_decide_eq_false hc, hlt, hlu, hw, hw1, hw2] | simp (maxSteps := 1000000) [hc, hlt, hlu, hw, hw1, hw2]) <;> (try simp at hc) <;> (try (exfalso; first | omega | exact absurd hc (by assumption))))
        | (refine And.intro (by first | assumption | omega | (simp [BelL, Bel]; done) | (simp; omega)) ?_; try simp (maxSteps := 1000000) [hlt, hlu, hw, hw1, hw2])
        | (refine okC_or ?_; simp (maxSteps := 1000000) [hlt, hlu, hw, hw1, hw2])
      obtain ⟨n, hn⟩ : ∃ n : Nat, (if 5 - (U : Int) < 1 + a[i] % 3 then 5 - (U : Int) else 1 + a[i] % 3) = n := ⟨(if 5 - (U : Int) < 1 + a[i] % 3 then 5 - (U : Int) else 1 + a[i] % 3).toNat, by split <;> omega⟩
      have hnb : 1 ≤ n ∧ n ≤ 3 ∧ U + n ≤ 5 := by split at hn <;> omega
      rw [hn]
      refine jw_nil 11 1 rfl ?_
      (repeat refine jw_seq_k fun K hK => ?_); refine jw_loop_k (fun m z => ∃ (k : Nat) (τ : Store), k ≤ n ∧ n - k = m ∧
          z = ⟨[numsD .i64 a, .any, .int .i64 t, .any, .any, .any, .ptr 0 2 0, .ptr 1 2 0, .int .i64 U, .int .i64 i, .int .i64 n, .ms σ.length k 0 k 1, .int .i64 k] ++ List.replicate 56 .any, σ ++ some (.c ((unitsOf t U k).map (.int .i64))) :: τ⟩)
        (sl := [numsD .i64 a, .any, .int .i64 t, .any, .any, .any, .ptr 0 2 0, .ptr 1 2 0, .int .i64 U, .int .i64 i, .int .i64 n, .ms σ.length 0 0 0 1, .int .i64 (0 : Nat)] ++ List.replicate 56 .any) (by simp)
        ⟨0, [], by omega, rfl, rfl⟩ ?_
      rintro m z ⟨k, τ, hk, rfl, rfl⟩ KL2 hKL2
      have hw3 := wrap_i64 (n := (k : Int) + 1) (by omega) (by omega)
      by_cases hlk : k < n
      · have hw4 := wrap_i64 (n := (U : Int) + k) (by omega) (by omega)
        have hw5 := wrap_i64 (n := (U : Int) + k + t % 6) (by omega) (by omega)
        have hr6 : ((U : Int) + k + t % 6).tmod 6 = ((U : Int) + k + t % 6) % 6 := Int.tmod_eq_emod_of_nonneg (by omega)
        have hw6 := wrap_i64 (n := ((U : Int) + k + t % 6) % 6) (by omega) (by omega)
        repeat' first
          | refine jw_ret (hQ _ _ (.inr rfl) ⟨5, _, _, rfl, rfl, ?_⟩)
          | refine jw_ret (hQ _ _ (.inr rfl) ⟨_, rfl, ?_⟩)
          | refine jw_seq_k fun K hK => ?_
          | refine jw_block ?_
          | (refine jw_skip ?_; try simp)
          | (refine jw_exit ?_; try simp)
          | (refine jw_cond rfl (fun hc => ?_) (fun hc => ?_) <;> (try simp at hc) <;> (try (exfalso; first | omega | exact absurd hc (by assumption))))
          | (refine jw_c ?_; simp (maxSteps := 1000000) [hlk, hw3, hw4, hw5, hr6, hw6, show k + 1 ≤ 140737488355328 by omega, hA1, hA0, hS1, app_len0, app_len, set_len0, set_len])
          | (refine jw_draw_j mixed (by kernel_rfl) ?_; simp (maxSteps := 1000000) [hlk, hw3, hw4, hw5, hr6, hw6, show k + 1 ≤ 140737488355328 by omega, hA1, hA0, hS1, app_len0, app_len, set_len0, set_len])
          | (first | (apply hK; clear hK) | (clear hK; apply hK; clear hK) | (clear hK; clear hK; apply hK; clear hK) | (clear hK; clear hK; clear hK; apply hK; clear hK))
          | exact hQ _ _ (.inl rfl) ⟨5, _, _, rfl, rfl, rfl⟩
          | refine hQ _ _ (.inl rfl) ⟨5, _, _, rfl, rfl, ?_⟩
          | refine hQ _ _ (.inl rfl) ⟨_, rfl, ?_⟩
          | (refine jl_call (f := 8) rfl rfl rfl rfl rfl (pickedG _ _ (by omega) (by omega)) (by simp [BelL, Bel]) ?_; rintro r rfl; simp (maxSteps := 1000000) [hlk, hw3, hw4, hw5, hr6, hw6, show k + 1 ≤ 140737488355328 by omega, hA1, hA0, hS1, app_len0, app_len, set_len0, set_len])
          | (refine jd_call (f := 8) rfl rfl rfl rfl rfl (pickedG _ _ (by omega) (by omega)) (by simp [BelL, Bel]) ?_; simp (maxSteps := 1000000) [hlk, hw3, hw4, hw5, hr6, hw6, show k + 1 ≤ 140737488355328 by omega, hA1, hA0, hS1, app_len0, app_len, set_len0, set_len])
          | (refine jd_newc rfl rfl (by simp) ?_; simp (maxSteps := 1000000) [thD, thL, hlk, hw3, hw4, hw5, hr6, hw6, show k + 1 ≤ 140737488355328 by omega, hA1, hA0, hS1, app_len0, app_len, set_len0, set_len])
          | (refine okN_or ?_; simp (maxSteps := 1000000) [thD, thL, hlk, hw3, hw4, hw5, hr6, hw6, show k + 1 ≤ 140737488355328 by omega, hA1, hA0, hS1, app_len0, app_len, set_len0, set_len])
          | (refine okC_guard (fun hc => ?_) (fun hc => ?_) <;> (first | simp (maxSteps := 1000000) [hc, of_decide_eq_true hc, hlk, hw3, hw4, hw5, hr6, hw6, show k + 1 ≤ 140737488355328 by omega, hA1, hA0, hS1, app_len0, app_len, set_len0, set_len] | simp (maxSteps := 1000000) [hc, of_decide_eq_false hc, hlk, hw3, hw4, hw5, hr6, hw6, show k + 1 ≤ 140737488355328 by omega, hA1, hA0, hS1, app_len0, app_len, set_len0, set_len] | simp (maxSteps := 1000000) [hc, hlk, hw3, hw4, hw5, hr6, hw6, show k + 1 ≤ 140737488355328 by omega, hA1, hA0, hS1, app_len0, app_len, set_len0, set_len]) <;> (try simp at hc) <;> (try (exfalso; first | omega | exact absurd hc (by assumption))))
          | (refine okJ_guard (fun hc => ?_) (fun hc => ?_) <;> (first | simp (maxSteps := 1000000) [hc, of_decide_eq_true hc, hlk, hw3, hw4, hw5, hr6, hw6, show k + 1 ≤ 140737488355328 by omega, hA1, hA0, hS1, app_len0, app_len, set_len0, set_len] | simp (maxSteps := 1000000) [hc, of_decide_eq_false hc, hlk, hw3, hw4, hw5, hr6, hw6, show k + 1 ≤ 140737488355328 by omega, hA1, hA0, hS1, app_len0, app_len, set_len0, set_len] | simp (maxSteps := 1000000) [hc, hlk, hw3, hw4, hw5, hr6, hw6, show k + 1 ≤ 140737488355328 by omega, hA1, hA0, hS1, app_len0, app_len, set_len0, set_len]) <;> (try simp at hc) <;> (try (exfalso; first | omega | exact absurd hc (by assumption))))
          | (refine And.intro (by first | assumption | omega | (simp [BelL, Bel]; done) | (simp; omega)) ?_; try simp (maxSteps := 1000000) [hlk, hw3, hw4, hw5, hr6, hw6, show k + 1 ≤ 140737488355328 by omega, hA1, hA0, hS1, app_len0, app_len, set_len0, set_len])
          | (refine okC_or ?_; simp (maxSteps := 1000000) [hlk, hw3, hw4, hw5, hr6, hw6, show k + 1 ≤ 140737488355328 by omega, hA1, hA0, hS1, app_len0, app_len, set_len0, set_len])
        have hM : (unitsOf t U k).map (D.int .i64) ++ [D.int .i64 (((U : Int) + k + t) % 6)] = (unitsOf t U (k + 1)).map (D.int .i64) := by simp [unitsOf_succ]
        rw [hM]
        refine hKL2 (n - (k + 1)) _ _ (by omega) ?_ ⟨k + 1, _, by omega, rfl, rfl⟩
        simp
      · have hkn : k = n := by omega
        subst hkn
        refine jw_frz1 11 (cs := (unitsOf t U k).map (.int .i64)) rfl (by simp) (by simp) (by simp [flatD]) (by omega) (by omega) ?_
        have hw7 := wrap_i64 (n := (U : Int) + k) (by omega) (by omega)
        have hfz : List.take k (List.map (D.int .i64) (unitsOf t U k)) = List.map (D.int .i64) (unitsOf t U k) := List.take_of_length_le (by simp)
        have hin : D.sl false (List.map (D.int .i64) (unitsOf t U k)) k = intsD (unitsOf t U k) := by simp [intsD]
        have hsn := hcs.snoc hnb.1 hnb.2.1 hnb.2.2
        rcases hd with ⟨rfl, rfl⟩ | ⟨lc, hc0, hc1, hcl, hcn, rfl, hct⟩
        · repeat' first
            | refine jw_ret (hQ _ _ (.inr rfl) ⟨5, _, _, rfl, rfl, ?_⟩)
            | refine jw_ret (hQ _ _ (.inr rfl) ⟨_, rfl, ?_⟩)
            | refine jw_seq_k fun K hK => ?_
            | refine jw_block ?_
            | (refine jw_skip ?_; try simp)
            | (refine jw_exit ?_; try simp)
            | (refine jw_cond rfl (fun hc => ?_) (fun hc => ?_) <;> (try simp at hc) <;> (try (exfalso; first | omega | exact absurd hc (by assumption))))
            | (refine jw_c ?_; simp (maxSteps := 1000000) [hlk, hfz, hw, hw7, h1, hA1, hA0, hS1, app_len0, app_len, set_len0, set_len, okCell, okRef])
            | (refine jw_draw_j mixed (by kernel_rfl) ?_; simp (maxSteps := 1000000) [hlk, hfz, hw, hw7, h1, hA1, hA0, hS1, app_len0, app_len, set_len0, set_len, okCell, okRef])
            | (first | (apply hK; clear hK) | (clear hK; apply hK; clear hK) | (clear hK; clear hK; apply hK; clear hK) | (clear hK; clear hK; clear hK; apply hK; clear hK))
            | exact hQ _ _ (.inl rfl) ⟨5, _, _, rfl, rfl, rfl⟩
            | refine hQ _ _ (.inl rfl) ⟨5, _, _, rfl, rfl, ?_⟩
            | refine hQ _ _ (.inl rfl) ⟨_, rfl, ?_⟩
            | (refine jd_newc rfl rfl (by simp) ?_; simp (maxSteps := 1000000) [thD, thL, hlk, hfz, hw, hw7, h1, hA1, hA0, hS1, app_len0, app_len, set_len0, set_len, okCell, okRef])
            | (refine okN_or ?_; simp (maxSteps := 1000000) [thD, thL, hlk, hfz, hw, hw7, h1, hA1, hA0, hS1, app_len0, app_len, set_len0, set_len, okCell, okRef])
            | (refine okC_guard (fun hc => ?_) (fun hc => ?_) <;> (first | simp (maxSteps := 1000000) [hc, of_decide_eq_true hc, hlk, hfz, hw, hw7, h1, hA1, hA0, hS1, app_len0, app_len, set_len0, set_len, okCell, okRef] | simp (maxSteps := 1000000) [hc, of_decide_eq_false hc, hlk, hfz, hw, hw7, h1, hA1, hA0, hS1, app_len0, app_len, set_len0, set_len, okCell, okRef] | simp (maxSteps := 1000000) [hc, hlk, hfz, hw, hw7, h1, hA1, hA0, hS1, app_len0, app_len, set_len0, set_len, okCell, okRef]) <;> (try simp at hc) <;> (try (exfalso; first | omega | exact absurd hc (by assumption))))
            | (refine okJ_guard (fun hc => ?_) (fun hc => ?_) <;> (first | simp (maxSteps := 1000000) [hc, of_decide_eq_true hc, hlk, hfz, hw, hw7, h1, hA1, hA0, hS1, app_len0, app_len, set_len0, set_len, okCell, okRef] | simp (maxSteps := 1000000) [hc, of_decide_eq_false hc, hlk, hfz, hw, hw7, h1, hA1, hA0, hS1, app_len0, app_len, set_len0, set_len, okCell, okRef] | simp (maxSteps := 1000000) [hc, hlk, hfz, hw, hw7, h1, hA1, hA0, hS1, app_len0, app_len, set_len0, set_len, okCell, okRef]) <;> (try simp at hc) <;> (try (exfalso; first | omega | exact absurd hc (by assumption))))
            | (refine And.intro (by first | assumption | omega | (simp [BelL, Bel]; done) | (simp; omega)) ?_; try simp (maxSteps := 1000000) [hlk, hfz, hw, hw7, h1, hA1, hA0, hS1, app_len0, app_len, set_len0, set_len, okCell, okRef])
            | (refine okC_or ?_; simp (maxSteps := 1000000) [hlk, hfz, hw, hw7, h1, hA1, hA0, hS1, app_len0, app_len, set_len0, set_len, okCell, okRef])
          rw [hin]
          refine hKL (a.length - (i + 1)) _ _ (by omega) ?_ ⟨i + 1, U + k, [unitsOf t U k], .ms (σ.length + (τ.length + 1 + 1)) 1 0 1 1, _, by omega, rfl, hsn, ?_, ?_, ?_, .inr ⟨σ.length + (τ.length + 1 + 1), by omega, by omega, ?_, by simp, rfl, ?_⟩, rfl⟩
          · simp
          · simp <;> omega
          · rw [List.getElem?_append_left (by simp; omega), List.getElem?_set_ne (by omega)]; exact h0
          · rw [List.getElem?_append_left (by simpa using hl1), List.getElem?_set_self hl1]
          · simp <;> omega
          · rw [List.getElem?_append_right (by simp), List.length_set, Nat.add_sub_cancel_left]
            simp
        · have hAc : ∀ X : Store, (σ ++ X)[lc]? = σ[lc]? := fun X => List.getElem?_append_left hcl
          have hSc : ∀ (X : Store) (y : Option Ob), (σ ++ X).set lc y = σ.set lc y ++ X := fun X y => List.set_append_left _ _ hcl
          have hT1 : ∀ (X : Store) (y : Option Ob), (σ.set lc y ++ X)[1]? = σ[1]? := fun X y => by rw [List.getElem?_append_left (by simpa using hl1), List.getElem?_set_ne (fun h => hc1 h)]
          have hTc : ∀ (X : Store) (y : Option Ob), (σ.set lc y ++ X)[lc]? = some y := fun X y => by rw [List.getElem?_append_left (by simpa using hcl), List.getElem?_set_self hcl]
          have hTS : ∀ (X : Store) (y z : Option Ob), (σ.set lc y ++ X).set 1 z = (σ.set lc y).set 1 z ++ X := fun X y z => List.set_append_left _ _ (by simpa using hl1)
          have hn24 : (cs.length + 1) * 24 ≤ 140737488355328 := by have := hcs.2.2.1; omega
          have hok : okCells σ (cs.map intsD) = true := by unfold okCells; rw [List.all_eq_true]; intro d hd; obtain ⟨c, _, rfl⟩ := List.mem_map.1 hd; rfl
          repeat' first
            | refine jw_ret (hQ _ _ (.inr rfl) ⟨5, _, _, rfl, rfl, ?_⟩)
            | refine jw_ret (hQ _ _ (.inr rfl) ⟨_, rfl, ?_⟩)
            | refine jw_seq_k fun K hK => ?_
            | refine jw_block ?_
            | (refine jw_skip ?_; try simp)
            | (refine jw_exit ?_; try simp)
            | (refine jw_cond rfl (fun hc => ?_) (fun hc => ?_) <;> (try simp at hc) <;> (try (exfalso; first | omega | exact absurd hc (by assumption))))
            | (refine jw_c ?_; simp (maxSteps := 1000000) [hlk, hfz, hw, hw7, h1, hAc, hSc, hct, hT1, hTc, hTS, hn24, hok, hA1, hA0, hS1, app_len0, app_len, set_len0, set_len, okCell, okRef])
            | (refine jw_draw_j mixed (by kernel_rfl) ?_; simp (maxSteps := 1000000) [hlk, hfz, hw, hw7, h1, hAc, hSc, hct, hT1, hTc, hTS, hn24, hok, hA1, hA0, hS1, app_len0, app_len, set_len0, set_len, okCell, okRef])
            | (first | (apply hK; clear hK) | (clear hK; apply hK; clear hK) | (clear hK; clear hK; apply hK; clear hK) | (clear hK; clear hK; clear hK; apply hK; clear hK))
            | exact hQ _ _ (.inl rfl) ⟨5, _, _, rfl, rfl, rfl⟩
            | refine hQ _ _ (.inl rfl) ⟨5, _, _, rfl, rfl, ?_⟩
            | refine hQ _ _ (.inl rfl) ⟨_, rfl, ?_⟩
            | (refine jd_newc rfl rfl (by simp) ?_; simp (maxSteps := 1000000) [thD, thL, hlk, hfz, hw, hw7, h1, hAc, hSc, hct, hT1, hTc, hTS, hn24, hok, hA1, hA0, hS1, app_len0, app_len, set_len0, set_len, okCell, okRef])
            | (refine okN_or ?_; simp (maxSteps := 1000000) [thD, thL, hlk, hfz, hw, hw7, h1, hAc, hSc, hct, hT1, hTc, hTS, hn24, hok, hA1, hA0, hS1, app_len0, app_len, set_len0, set_len, okCell, okRef])
            | (refine okC_guard (fun hc => ?_) (fun hc => ?_) <;> (first | simp (maxSteps := 1000000) [hc, of_decide_eq_true hc, hlk, hfz, hw, hw7, h1, hAc, hSc, hct, hT1, hTc, hTS, hn24, hok, hA1, hA0, hS1, app_len0, app_len, set_len0, set_len, okCell, okRef] | simp (maxSteps := 1000000) [hc, of_decide_eq_false hc, hlk, hfz, hw, hw7, h1, hAc, hSc, hct, hT1, hTc, hTS, hn24, hok, hA1, hA0, hS1, app_len0, app_len, set_len0, set_len, okCell, okRef] | simp (maxSteps := 1000000) [hc, hlk, hfz, hw, hw7, h1, hAc, hSc, hct, hT1, hTc, hTS, hn24, hok, hA1, hA0, hS1, app_len0, app_len, set_len0, set_len, okCell, okRef]) <;> (try simp at hc) <;> (try (exfalso; first | omega | exact absurd hc (by assumption))))
            | (refine okJ_guard (fun hc => ?_) (fun hc => ?_) <;> (first | simp (maxSteps := 1000000) [hc, of_decide_eq_true hc, hlk, hfz, hw, hw7, h1, hAc, hSc, hct, hT1, hTc, hTS, hn24, hok, hA1, hA0, hS1, app_len0, app_len, set_len0, set_len, okCell, okRef] | simp (maxSteps := 1000000) [hc, of_decide_eq_false hc, hlk, hfz, hw, hw7, h1, hAc, hSc, hct, hT1, hTc, hTS, hn24, hok, hA1, hA0, hS1, app_len0, app_len, set_len0, set_len, okCell, okRef] | simp (maxSteps := 1000000) [hc, hlk, hfz, hw, hw7, h1, hAc, hSc, hct, hT1, hTc, hTS, hn24, hok, hA1, hA0, hS1, app_len0, app_len, set_len0, set_len, okCell, okRef]) <;> (try simp at hc) <;> (try (exfalso; first | omega | exact absurd hc (by assumption))))
            | (refine And.intro (by first | assumption | omega | (simp [BelL, Bel]; done) | (simp; omega)) ?_; try simp (maxSteps := 1000000) [hlk, hfz, hw, hw7, h1, hAc, hSc, hct, hT1, hTc, hTS, hn24, hok, hA1, hA0, hS1, app_len0, app_len, set_len0, set_len, okCell, okRef])
            | (refine okC_or ?_; simp (maxSteps := 1000000) [hlk, hfz, hw, hw7, h1, hAc, hSc, hct, hT1, hTc, hTS, hn24, hok, hA1, hA0, hS1, app_len0, app_len, set_len0, set_len, okCell, okRef])
          rw [hin, ← show (cs ++ [unitsOf t U k]).length = cs.length + 1 by simp]
          refine hKL (a.length - (i + 1)) _ _ (by omega) ?_ ⟨i + 1, U + k, cs ++ [unitsOf t U k], .ms lc (cs ++ [unitsOf t U k]).length 0 (cs ++ [unitsOf t U k]).length 1, _, by omega, rfl, hsn, ?_, ?_, ?_, .inr ⟨lc, hc0, hc1, ?_, by simp, rfl, ?_⟩, rfl⟩
          · simp
          · simp <;> omega
          · rw [List.getElem?_append_left (by simp; omega), List.getElem?_set_ne (by omega), List.getElem?_set_ne (by omega)]; exact h0
          · rw [List.getElem?_append_left (by simpa using hl1), List.getElem?_set_self (by simpa using hl1)]
          · simp <;> omega
          · rw [List.getElem?_append_left (by simpa using hcl), List.getElem?_set_ne (by omega), List.getElem?_set_self hcl, List.map_append]; rfl
    · rcases hd with ⟨rfl, rfl⟩ | ⟨lc, hc0, hc1, hcl, hcn, rfl, hct⟩
      · have := hcs.1
        rw [show U = 5 by omega] at this
        cases this
      · have hcn0 : cs.length ≠ 0 := fun h => hcn (List.length_eq_zero_iff.1 h)
        repeat' first
          | refine jw_ret (hQ _ _ (.inr rfl) ⟨5, _, _, rfl, rfl, ?_⟩)
          | refine jw_ret (hQ _ _ (.inr rfl) ⟨_, rfl, ?_⟩)
          | refine jw_seq_k fun K hK => ?_
          | refine jw_block ?_
          | (refine jw_skip ?_; try simp)
          | (refine jw_exit ?_; try simp)
          | (refine jw_cond rfl (fun hc => ?_) (fun hc => ?_) <;> (try simp at hc) <;> (try (exfalso; first | omega | exact absurd hc (by assumption))))
          | (refine jw_c ?_; simp (maxSteps := 1000000) [hlt, hlu, h1, h0, hct, hcn, hcn0, okCell, okRef])
          | (refine jw_draw_j mixed (by kernel_rfl) ?_; simp (maxSteps := 1000000) [hlt, hlu, h1, h0, hct, hcn, hcn0, okCell, okRef])
          | (first | (apply hK; clear hK) | (clear hK; apply hK; clear hK) | (clear hK; clear hK; apply hK; clear hK) | (clear hK; clear hK; clear hK; apply hK; clear hK))
          | exact hQ _ _ (.inl rfl) ⟨5, _, _, rfl, rfl, rfl⟩
          | refine hQ _ _ (.inl rfl) ⟨5, _, _, rfl, rfl, ?_⟩
          | refine hQ _ _ (.inl rfl) ⟨_, rfl, ?_⟩
          | (refine jd_newc rfl rfl (by simp) ?_; simp (maxSteps := 1000000) [thD, thL, hlt, hlu, h1, h0, hct, hcn, hcn0, okCell, okRef])
          | (refine okN_or ?_; simp (maxSteps := 1000000) [thD, thL, hlt, hlu, h1, h0, hct, hcn, hcn0, okCell, okRef])
          | (refine okC_guard (fun hc => ?_) (fun hc => ?_) <;> (first | simp (maxSteps := 1000000) [hc, of_decide_eq_true hc, hlt, hlu, h1, h0, hct, hcn, hcn0, okCell, okRef] | simp (maxSteps := 1000000) [hc, of_decide_eq_false hc, hlt, hlu, h1, h0, hct, hcn, hcn0, okCell, okRef] | simp (maxSteps := 1000000) [hc, hlt, hlu, h1, h0, hct, hcn, hcn0, okCell, okRef]) <;> (try simp at hc) <;> (try (exfalso; first | omega | exact absurd hc (by assumption))))
          | (refine okJ_guard (fun hc => ?_) (fun hc => ?_) <;> (first | simp (maxSteps := 1000000) [hc, of_decide_eq_true hc, hlt, hlu, h1, h0, hct, hcn, hcn0, okCell, okRef] | simp (maxSteps := 1000000) [hc, of_decide_eq_false hc, hlt, hlu, h1, h0, hct, hcn, hcn0, okCell, okRef] | simp (maxSteps := 1000000) [hc, hlt, hlu, h1, h0, hct, hcn, hcn0, okCell, okRef]) <;> (try simp at hc) <;> (try (exfalso; first | omega | exact absurd hc (by assumption))))
          | (refine And.intro (by first | assumption | omega | (simp [BelL, Bel]; done) | (simp; omega)) ?_; try simp (maxSteps := 1000000) [hlt, hlu, h1, h0, hct, hcn, hcn0, okCell, okRef])
          | (refine okC_or ?_; simp (maxSteps := 1000000) [hlt, hlu, h1, h0, hct, hcn, hcn0, okCell, okRef])
        (repeat refine jw_seq_k fun K hK => ?_); refine jw_ret (hQ _ _ (.inr rfl) ⟨6, _, _, ?_, frz_lay (lc := lc) (cs := cs) (E := E) (by rw [List.getElem?_set_ne (by omega)]; exact hct), cs, rfl, hcs.ok hE (by have := List.length_pos_iff.2 hcn; omega)⟩)
        simp [List.getElem?_set_self (show 0 < σ.length by omega)]
  · rcases hd with ⟨rfl, rfl⟩ | ⟨lc, hc0, hc1, hcl, hcn, rfl, hct⟩
    · have hT1 : ∀ (X : Store) (y : Option Ob), (σ.set 1 y ++ X)[1]? = some y := fun X y => by rw [List.getElem?_append_left (by simpa using hl1), List.getElem?_set_self hl1]
      have hT0 : ∀ (X : Store) (y : Option Ob), (σ.set 1 y ++ X)[0]? = σ[0]? := fun X y => by rw [List.getElem?_append_left (by simp; omega), List.getElem?_set_ne (by omega)]
      have hTL : ∀ (X : Store) (y : Option Ob) (j : Nat), (σ.set 1 y ++ X)[σ.length + j]? = X[j]? := fun X y j => by rw [List.getElem?_append_right (by simp)]; simp
      have hTS : ∀ (X : Store) (y z : Option Ob), (σ.set 1 y ++ X).set 0 z = (σ.set 1 y).set 0 z ++ X := fun X y z => List.set_append_left _ _ (by simp; omega)
      repeat' first
        | refine jw_ret (hQ _ _ (.inr rfl) ⟨5, _, _, rfl, rfl, ?_⟩)
        | refine jw_ret (hQ _ _ (.inr rfl) ⟨_, rfl, ?_⟩)
        | refine jw_seq_k fun K hK => ?_
        | refine jw_block ?_
        | (refine jw_skip ?_; try simp)
        | (refine jw_exit ?_; try simp)
        | (refine jw_cond rfl (fun hc => ?_) (fun hc => ?_) <;> (try simp at hc) <;> (try (exfalso; first | omega | exact absurd hc (by assumption))))
        | (refine jw_c ?_; simp (maxSteps := 1000000) [hlt, h1, h0, ↓hT1, ↓hT0, ↓hTL, hTS, ↓hA1, hA0, hS1, app_len0, app_len, set_len0, set_len, okCell, okRef])
        | (refine jw_draw_j mixed (by kernel_rfl) ?_; simp (maxSteps := 1000000) [hlt, h1, h0, ↓hT1, ↓hT0, ↓hTL, hTS, ↓hA1, hA0, hS1, app_len0, app_len, set_len0, set_len, okCell, okRef])
        | (first | (apply hK; clear hK) | (clear hK; apply hK; clear hK) | (clear hK; clear hK; apply hK; clear hK) | (clear hK; clear hK; clear hK; apply hK; clear hK))
        | exact hQ _ _ (.inl rfl) ⟨5, _, _, rfl, rfl, rfl⟩
        | refine hQ _ _ (.inl rfl) ⟨5, _, _, rfl, rfl, ?_⟩
        | refine hQ _ _ (.inl rfl) ⟨_, rfl, ?_⟩
        | (refine jl_call (f := 8) rfl rfl rfl rfl rfl (pickedG _ _ (by omega) (by omega)) (by simp [BelL, Bel]) ?_; rintro r rfl; simp (maxSteps := 1000000) [hlt, h1, h0, ↓hT1, ↓hT0, ↓hTL, hTS, ↓hA1, hA0, hS1, app_len0, app_len, set_len0, set_len, okCell, okRef])
        | (refine jd_call (f := 8) rfl rfl rfl rfl rfl (pickedG _ _ (by omega) (by omega)) (by simp [BelL, Bel]) ?_; simp (maxSteps := 1000000) [hlt, h1, h0, ↓hT1, ↓hT0, ↓hTL, hTS, ↓hA1, hA0, hS1, app_len0, app_len, set_len0, set_len, okCell, okRef])
        | (refine jd_newc rfl rfl (by simp) ?_; simp (maxSteps := 1000000) [thD, thL, hlt, h1, h0, ↓hT1, ↓hT0, ↓hTL, hTS, ↓hA1, hA0, hS1, app_len0, app_len, set_len0, set_len, okCell, okRef])
        | (refine okN_or ?_; simp (maxSteps := 1000000) [thD, thL, hlt, h1, h0, ↓hT1, ↓hT0, ↓hTL, hTS, ↓hA1, hA0, hS1, app_len0, app_len, set_len0, set_len, okCell, okRef])
        | (refine okC_guard (fun hc => ?_) (fun hc => ?_) <;> (first | simp (maxSteps := 1000000) [hc, of_decide_eq_true hc, hlt, h1, h0, ↓hT1, ↓hT0, ↓hTL, hTS, ↓hA1, hA0, hS1, app_len0, app_len, set_len0, set_len, okCell, okRef] | simp (maxSteps := 1000000) [hc, of_decide_eq_false hc, hlt, h1, h0, ↓hT1, ↓hT0, ↓hTL, hTS, ↓hA1, hA0, hS1, app_len0, app_len, set_len0, set_len, okCell, okRef] | simp (maxSteps := 1000000) [hc, hlt, h1, h0, ↓hT1, ↓hT0, ↓hTL, hTS, ↓hA1, hA0, hS1, app_len0, app_len, set_len0, set_len, okCell, okRef]) <;> (try simp at hc) <;> (try (exfalso; first | omega | exact absurd hc (by assumption))))
        | (refine okJ_guard (fun hc => ?_) (fun hc => ?_) <;> (first | simp (maxSteps := 1000000) [hc, of_decide_eq_true hc, hlt, h1, h0, ↓hT1, ↓hT0, ↓hTL, hTS, ↓hA1, hA0, hS1, app_len0, app_len, set_len0, set_len, okCell, okRef] | simp (maxSteps := 1000000) [hc, of_decide_eq_false hc, hlt, h1, h0, ↓hT1, ↓hT0, ↓hTL, hTS, ↓hA1, hA0, hS1, app_len0, app_len, set_len0, set_len, okCell, okRef] | simp (maxSteps := 1000000) [hc, hlt, h1, h0, ↓hT1, ↓hT0, ↓hTL, hTS, ↓hA1, hA0, hS1, app_len0, app_len, set_len0, set_len, okCell, okRef]) <;> (try simp at hc) <;> (try (exfalso; first | omega | exact absurd hc (by assumption))))
        | (refine And.intro (by first | assumption | omega | (simp [BelL, Bel]; done) | (simp; omega)) ?_; try simp (maxSteps := 1000000) [hlt, h1, h0, ↓hT1, ↓hT0, ↓hTL, hTS, ↓hA1, hA0, hS1, app_len0, app_len, set_len0, set_len, okCell, okRef])
        | (refine okC_or ?_; simp (maxSteps := 1000000) [hlt, h1, h0, ↓hT1, ↓hT0, ↓hTL, hTS, ↓hA1, hA0, hS1, app_len0, app_len, set_len0, set_len, okCell, okRef])
      have hone : Chs t [[t % 6]] 1 := ⟨by simp [unitsOf], by omega, by simp, by simp⟩
      have hz0 : ∀ (X : Store) (x y : Option Ob), ((σ.set 1 x).set 0 y ++ X)[0]? = some y := fun X x y => by rw [List.getElem?_append_left (by simp; omega), List.getElem?_set_self (by simp; omega)]
      have hzL : ∀ (X : Store) (x y : Option Ob) (j : Nat), ((σ.set 1 x).set 0 y ++ X)[σ.length + j]? = X[j]? := fun X x y j => by rw [List.getElem?_append_right (by simp)]; simp
      have hzL0 : ∀ (X : Store) (x y : Option Ob), ((σ.set 1 x).set 0 y ++ X)[σ.length]? = X[0]? := fun X x y => hzL X x y 0
      (repeat refine jw_seq_k fun K hK => ?_); refine jw_ret (hQ _ _ (.inr rfl) ⟨6, layD E [[t % 6]], .agg [.int .i64 E, .ms (σ.length + 1) 1 0 1 1], ?_, ?_, [[t % 6]], rfl, hone.ok hE (by simp)⟩)
      · simp [↓hz0]
      · simp [↓hzL, ↓hzL0, layD, chainsD, intsD]
    · have hcn0 : cs.length ≠ 0 := fun h => hcn (List.length_eq_zero_iff.1 h)
      repeat' first
        | refine jw_ret (hQ _ _ (.inr rfl) ⟨5, _, _, rfl, rfl, ?_⟩)
        | refine jw_ret (hQ _ _ (.inr rfl) ⟨_, rfl, ?_⟩)
        | refine jw_seq_k fun K hK => ?_
        | refine jw_block ?_
        | (refine jw_skip ?_; try simp)
        | (refine jw_exit ?_; try simp)
        | (refine jw_cond rfl (fun hc => ?_) (fun hc => ?_) <;> (try simp at hc) <;> (try (exfalso; first | omega | exact absurd hc (by assumption))))
        | (refine jw_c ?_; simp (maxSteps := 1000000) [hlt, h1, h0, hct, hcn, hcn0, okCell, okRef])
        | (refine jw_draw_j mixed (by kernel_rfl) ?_; simp (maxSteps := 1000000) [hlt, h1, h0, hct, hcn, hcn0, okCell, okRef])
        | (first | (apply hK; clear hK) | (clear hK; apply hK; clear hK) | (clear hK; clear hK; apply hK; clear hK) | (clear hK; clear hK; clear hK; apply hK; clear hK))
        | exact hQ _ _ (.inl rfl) ⟨5, _, _, rfl, rfl, rfl⟩
        | refine hQ _ _ (.inl rfl) ⟨5, _, _, rfl, rfl, ?_⟩
        | refine hQ _ _ (.inl rfl) ⟨_, rfl, ?_⟩
        | (refine jd_newc rfl rfl (by simp) ?_; simp (maxSteps := 1000000) [thD, thL, hlt, h1, h0, hct, hcn, hcn0, okCell, okRef])
        | (refine okN_or ?_; simp (maxSteps := 1000000) [thD, thL, hlt, h1, h0, hct, hcn, hcn0, okCell, okRef])
        | (refine okC_guard (fun hc => ?_) (fun hc => ?_) <;> (first | simp (maxSteps := 1000000) [hc, of_decide_eq_true hc, hlt, h1, h0, hct, hcn, hcn0, okCell, okRef] | simp (maxSteps := 1000000) [hc, of_decide_eq_false hc, hlt, h1, h0, hct, hcn, hcn0, okCell, okRef] | simp (maxSteps := 1000000) [hc, hlt, h1, h0, hct, hcn, hcn0, okCell, okRef]) <;> (try simp at hc) <;> (try (exfalso; first | omega | exact absurd hc (by assumption))))
        | (refine okJ_guard (fun hc => ?_) (fun hc => ?_) <;> (first | simp (maxSteps := 1000000) [hc, of_decide_eq_true hc, hlt, h1, h0, hct, hcn, hcn0, okCell, okRef] | simp (maxSteps := 1000000) [hc, of_decide_eq_false hc, hlt, h1, h0, hct, hcn, hcn0, okCell, okRef] | simp (maxSteps := 1000000) [hc, hlt, h1, h0, hct, hcn, hcn0, okCell, okRef]) <;> (try simp at hc) <;> (try (exfalso; first | omega | exact absurd hc (by assumption))))
        | (refine And.intro (by first | assumption | omega | (simp [BelL, Bel]; done) | (simp; omega)) ?_; try simp (maxSteps := 1000000) [hlt, h1, h0, hct, hcn, hcn0, okCell, okRef])
        | (refine okC_or ?_; simp (maxSteps := 1000000) [hlt, h1, h0, hct, hcn, hcn0, okCell, okRef])
      (repeat refine jw_seq_k fun K hK => ?_); refine jw_ret (hQ _ _ (.inr rfl) ⟨6, _, _, ?_, frz_lay (lc := lc) (cs := cs) (E := E) (by rw [List.getElem?_set_ne (by omega)]; exact hct), cs, rfl, hcs.ok hE (by have := List.length_pos_iff.2 hcn; omega)⟩)
      simp [List.getElem?_set_self (show 0 < σ.length by omega)]

theorem pickedN {G : Globals} (x m : Int) (h1 : 0 < m) (h2 : m ≤ 9223372036854775807) : FV Try.prog G 8 [.int .i64 x, .int .i64 m] (fun r => ∃ f : Int, (0 ≤ f ∧ f < m) ∧ r = .int .i64 f) :=
  (pickedG x m h1 h2).mono fun r h => ⟨x % m, ⟨Int.emod_nonneg x (by omega), Int.emod_lt_of_pos x h1⟩, h⟩
theorem placeOk {G : Globals} (e : Int) (cs : List (List Int)) (h : LayOk e cs) (p : Int) (hp : 0 ≤ p ∧ p < 64 * cs.length) : FV Try.prog G 9 [layD e cs, .int .i64 p]
    (fun r => r = .tup [.int .i64 (p % cs.length), .int .i64 (p / cs.length), .int .i64 0]) :=
  (placeF e cs h p ⟨hp.1, by have := h.2.2.2.1; omega⟩).mono fun r h => by rw [h, if_pos hp.2]
theorem placeBad {G : Globals} (e : Int) (cs : List (List Int)) (h : LayOk e cs) (p : Int) (hp : 64 * cs.length ≤ p ∧ p ≤ 1000) : FV Try.prog G 9 [layD e cs, .int .i64 p]
    (fun r => r = .tup [.int .i64 0, .int .i64 0, .int .i64 2]) :=
  (placeF e cs h p ⟨by omega, by omega⟩).mono fun r h => by rw [h, if_neg (by omega)]
end Go.Proofs.Ytaoohkfocajdcaa
