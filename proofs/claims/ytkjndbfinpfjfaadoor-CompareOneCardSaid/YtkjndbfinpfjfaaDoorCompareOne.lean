/- CompareOne: the walk. -/
import Derived.Test.YtkjndbfinpfjfaaDoorCompare
import Derived.Test.YtkjndbfinpfjfaaDoorRaw
set_option linter.unusedVariables false
set_option linter.unusedSimpArgs false
set_option maxRecDepth 20000
set_option maxHeartbeats 20000000
namespace Go.Proofs.YtkjndbfinpfjfaaDoor
open Go Go.Vm Go.Proofs

def gotM (v : Nat → Int) (j : Nat) : List D := (List.range 6).map fun i => D.int .i64 (if i < j then v i else 0)
theorem gotM_len (v : Nat → Int) (j : Nat) : (gotM v j).length = 6 := by unfold gotM; rw [List.length_map, List.length_range]
theorem gotM_get {v : Nat → Int} {i j : Nat} (h : i < 6) (hj : i < j) : (gotM v j)[i]? = some (.int .i64 (v i)) := by
  unfold gotM; rw [List.getElem?_map, List.getElem?_range h]; simp [hj]
theorem gotM_set {v : Nat → Int} {j : Nat} (h : j < 6) : (gotM v j).take j ++ D.int .i64 (v j) :: (gotM v j).drop (j + 1) = gotM v (j + 1) := by
  rw [put_eq_set (by rw [gotM_len]; exact h)]
  refine List.ext_getElem? fun i => ?_
  by_cases hi : i = j
  · subst hi; rw [List.getElem?_set_self (by rw [gotM_len]; exact h), gotM_get h (Nat.lt_succ_self _)]
  · rw [List.getElem?_set_ne (fun e => hi e.symm)]
    unfold gotM
    rw [List.getElem?_map, List.getElem?_map]
    by_cases h6 : i < 6
    · rw [List.getElem?_range h6]
      have : (i < j) ↔ (i < j + 1) := by omega
      simp [this]
    · rw [List.getElem?_eq_none (by rw [List.length_range]; omega)]; rfl
@[simp] theorem belL_gotM (n : Nat) (v : Nat → Int) (j : Nat) : BelL n (gotM v j) := belL_intg .i64 _ _ n
theorem gotM_0 (v : Nat → Int) : gotM v 0 = [.int .i64 0, .int .i64 0, .int .i64 0, .int .i64 0, .int .i64 0, .int .i64 0] := rfl

theorem gotM_6 (v : Nat → Int) : gotM v 6 = [.int .i64 (v 0), .int .i64 (v 1), .int .i64 (v 2), .int .i64 (v 3), .int .i64 (v 4), .int .i64 (v 5)] := rfl
/-- What Compare tells of two values, by comparison. -/
theorem one_law {k i k' i' : Int} {L L' : List Nat} (hE : ¬ (k ≠ k' ∧ k ≠ 0 ∧ k' ≠ 0)) : ∃ v : Nat → Int, (∀ j : Nat, j < 6 → cmpD (13 + j) k i L k' i' L' = (v j, 0)) ∧
    (((k = 0 ∨ k ≠ 0 ∧ k' = 0) ∧ v = fun _ => 1) ∨ (k = k' ∧ k ≠ 0 ∧ ((v 0 = 2 ∧ v 1 = 0 ∧ v 2 = 0 ∧ v 3 = 2 ∧ v 4 = 0 ∧ v 5 = 2) ∨ (v 0 = 0 ∧ v 1 = 2 ∧ v 2 = 2 ∧ v 3 = 2 ∧ v 4 = 0 ∧ v 5 = 0) ∨ (v 0 = 0 ∧ v 1 = 2 ∧ v 2 = 0 ∧ v 3 = 0 ∧ v 4 = 2 ∧ v 5 = 2)))) := by
  have hr : ordV k i L k' i' L' = -1 ∨ ordV k i L k' i' L' = 0 ∨ ordV k i L k' i' L' = 1 := ord_range _ _ _ _ _ _
  by_cases hN : k = 0 ∨ k' = 0
  · exact ⟨fun _ => 1, fun j h => by simp [cmpD, hN], .inl ⟨by omega, rfl⟩⟩
  · have hk : k = k' := by omega
    subst hk
    have k0 : k ≠ 0 := by omega
    refine ⟨fun j => if holdsD (13 + (j : Int)) (ordV k i L k i' L') then 2 else 0, fun j h => ?_, .inr ⟨rfl, k0, ?_⟩⟩
    · simp only [cmpD, k0, or_self, if_false, ne_eq, not_true_eq_false]
      split <;> rfl
    · rcases hr with hr | hr | hr <;> rw [hr] <;> simp [holdsD]

theorem compareOne (a b a' b' : Int) (s s' : ByteArray) (hb : (Lit.int .i64 b).wf = true) (hb' : (Lit.int .i64 b').wf = true) (hs : s.size ≤ 140737488351232) (hs' : s'.size ≤ 140737488351232) :
    FV Tryd.prog utfG 4 [.agg [.int .i64 a, .int .i64 b, .str s], .agg [.int .i64 a', .int .i64 b', .str s']] (fun r => r = .bool true) := by
  have w := wf_i64 hb
  have w' := wf_i64 hb'
  refine fv_enter_v Tryd.func4 rfl rfl fun Q hQ => ?_
  repeat' first
    | refine jw_ret (hQ _ _ (.inr rfl) ⟨5, _, _, rfl, rfl, ?_⟩)
    | refine jw_ret (hQ _ _ (.inr rfl) ⟨_, rfl, ?_⟩)
    | refine jw_seq_k fun K hK => ?_
    | refine jw_block ?_
    | (refine jw_skip ?_; try simp)
    | (refine jw_exit ?_; try simp)
    | (refine jw_cond rfl (fun hc => ?_) (fun hc => ?_) <;> (try simp at hc) <;> (try (exfalso; first | omega | exact absurd hc (by assumption))))
    | (refine jw_c ?_; simp (maxSteps := 1000000) [Tryd.f4, vaD])
    | (refine jw_draw_j mixed (by kernel_rfl) ?_; simp (maxSteps := 1000000) [Tryd.f4, vaD])
    | (first | (apply hK; clear hK) | (clear hK; apply hK; clear hK) | (clear hK; clear hK; apply hK; clear hK) | (clear hK; clear hK; clear hK; apply hK; clear hK))
    | exact hQ _ _ (.inl rfl) ⟨5, _, _, rfl, rfl, rfl⟩
    | refine hQ _ _ (.inl rfl) ⟨5, _, _, rfl, rfl, ?_⟩
    | refine hQ _ _ (.inl rfl) ⟨_, rfl, ?_⟩
    | (refine jl_call (f := 11) rfl rfl rfl rfl rfl (valuedF a b s w.1 w.2 (by omega)) (by simp [BelL, Bel]) ?_; rintro r ⟨k, i, L, ok, rfl⟩; simp (maxSteps := 1000000) [Tryd.f4, vaD])
    | (refine jl_call (f := 11) rfl rfl rfl rfl rfl (valuedF a' b' s' w'.1 w'.2 (by omega)) (by simp [BelL, Bel]) ?_; rintro r ⟨k', i', L', ok', rfl⟩; simp (maxSteps := 1000000) [Tryd.f4, vaD])
    | (refine jd_newc rfl rfl (by simp) ?_; simp (maxSteps := 1000000) [thD, thL, Tryd.f4, vaD])
    | (refine okN_or ?_; simp (maxSteps := 1000000) [thD, thL, Tryd.f4, vaD])
    | (refine okC_guard (fun hc => ?_) (fun hc => ?_) <;> (first | simp (maxSteps := 1000000) [hc, of_decide_eq_true hc, Tryd.f4, vaD] | simp (maxSteps := 1000000) [hc, of_decide_eq_false hc, Tryd.f4, vaD] | simp (maxSteps := 1000000) [hc, Tryd.f4, vaD]) <;> (try simp at hc) <;> (try (exfalso; first | omega | exact absurd hc (by assumption))))
    | (refine okJ_guard (fun hc => ?_) (fun hc => ?_) <;> (first | simp (maxSteps := 1000000) [hc, of_decide_eq_true hc, Tryd.f4, vaD] | simp (maxSteps := 1000000) [hc, of_decide_eq_false hc, Tryd.f4, vaD] | simp (maxSteps := 1000000) [hc, Tryd.f4, vaD]) <;> (try simp at hc) <;> (try (exfalso; first | omega | exact absurd hc (by assumption))))
    | (refine And.intro (by first | assumption | omega | (simp [BelL, Bel]; done) | (simp; omega)) ?_; try simp (maxSteps := 1000000) [Tryd.f4, vaD])
    | (refine okC_or ?_; simp (maxSteps := 1000000) [Tryd.f4, vaD])
  have hC := fun op (h1 : 13 ≤ op) (h2 : op ≤ 18) => compareF (G := utfG) vstr h1 h2 ok ok'
  unfold vaD at hC
  generalize hS : bytesS L = S at hC ⊢
  generalize hS' : bytesS L' = S' at hC ⊢
  by_cases hE : k ≠ k' ∧ k ≠ 0 ∧ k' ≠ 0
  · obtain ⟨k2, k0, k1⟩ := hE
    have hB := fun op h1 h2 => (hC op h1 h2).mono (R' := fun r => r = .tup [.int .i64 0, .int .i64 12]) (by rintro r rfl; simp [cmpD, k0, k1, k2])
    clear hC
    refine jw_loop_v (fun m z => ∃ (j : Nat), (j ≤ 6) ∧ 6 - j = m ∧ z = ⟨List.replicate 5 .any ++ [.ptr 2 3 0, .ptr 3 3 0, .any, .int .i64 j] ++ List.replicate 133 .any, [none, none, some (.c [.int .i64 k, .int .i64 i, .str S]), some (.c [.int .i64 k', .int .i64 i', .str S']), none]⟩) ⟨List.replicate 5 .any ++ [.ptr 2 3 0, .ptr 3 3 0, .any, .int .i64 (0)] ++ List.replicate 133 .any, [none, none, some (.c [.int .i64 k, .int .i64 i, .str S]), some (.c [.int .i64 k', .int .i64 i', .str S']), none]⟩ (view_takeE (sl := List.replicate 5 .any ++ [.ptr 2 3 0, .ptr 3 3 0, .any, .int .i64 (0)] ++ List.replicate 133 .any) (σ0 := [none, none, some (.c [.int .i64 k, .int .i64 i, .str S]), some (.c [.int .i64 k', .int .i64 i', .str S']), none]) 5 (by simp) (by first | omega | simp) (by first | omega | (simp; done) | (simp; omega)) (by first | exact LewS.refl _ | simp) (by simp [BelL, Bel]) (by simp [BelS, BelOb, BelL, Bel])) ⟨(0), ?_, rfl, rfl⟩ ?_
    rotate_left
    rintro m z ⟨j, hA, rfl, rfl⟩ KA hKA
    · have hw := wrap_i64 (n := 13 + (j : Int)) (by omega) (by omega)
      have hw2 := wrap_i64 (n := (j : Int) + 1) (by omega) (by omega)
      by_cases hj : j < 6
      · repeat' first
          | refine jw_ret (hQ _ _ (.inr rfl) ⟨5, _, _, rfl, rfl, ?_⟩)
          | refine jw_ret (hQ _ _ (.inr rfl) ⟨_, rfl, ?_⟩)
          | refine jw_seq_k fun K hK => ?_
          | refine jw_block ?_
          | (refine jw_skip ?_; try simp)
          | (refine jw_exit ?_; try simp)
          | (refine jw_cond rfl (fun hc => ?_) (fun hc => ?_) <;> (try simp at hc) <;> (try (exfalso; first | omega | exact absurd hc (by assumption))))
          | (refine jw_c ?_; simp (maxSteps := 1000000) [k0, k1, k2, hw, hw2, show (j : Int) < 6 by omega])
          | (refine jw_draw_j mixed (by kernel_rfl) ?_; simp (maxSteps := 1000000) [k0, k1, k2, hw, hw2, show (j : Int) < 6 by omega])
          | (first | (apply hK; clear hK) | (clear hK; apply hK; clear hK) | (clear hK; clear hK; apply hK; clear hK) | (clear hK; clear hK; clear hK; apply hK; clear hK))
          | exact hQ _ _ (.inl rfl) ⟨5, _, _, rfl, rfl, rfl⟩
          | refine hQ _ _ (.inl rfl) ⟨5, _, _, rfl, rfl, ?_⟩
          | refine hQ _ _ (.inl rfl) ⟨_, rfl, ?_⟩
          | (refine jl_call (f := 13) rfl rfl rfl rfl rfl (hB _ (by omega) (by omega)) (by simp [BelL, Bel]) ?_; rintro r rfl; simp (maxSteps := 1000000) [k0, k1, k2, hw, hw2, show (j : Int) < 6 by omega])
          | (refine jd_call (f := 13) rfl rfl rfl rfl rfl (hB _ (by omega) (by omega)) (by simp [BelL, Bel]) ?_; simp (maxSteps := 1000000) [k0, k1, k2, hw, hw2, show (j : Int) < 6 by omega])
          | (refine jd_newc rfl rfl (by simp) ?_; simp (maxSteps := 1000000) [thD, thL, k0, k1, k2, hw, hw2, show (j : Int) < 6 by omega])
          | (refine okN_or ?_; simp (maxSteps := 1000000) [thD, thL, k0, k1, k2, hw, hw2, show (j : Int) < 6 by omega])
          | (refine okC_guard (fun hc => ?_) (fun hc => ?_) <;> (first | simp (maxSteps := 1000000) [hc, of_decide_eq_true hc, k0, k1, k2, hw, hw2, show (j : Int) < 6 by omega] | simp (maxSteps := 1000000) [hc, of_decide_eq_false hc, k0, k1, k2, hw, hw2, show (j : Int) < 6 by omega] | simp (maxSteps := 1000000) [hc, k0, k1, k2, hw, hw2, show (j : Int) < 6 by omega]) <;> (try simp at hc) <;> (try (exfalso; first | omega | exact absurd hc (by assumption))))
          | (refine okJ_guard (fun hc => ?_) (fun hc => ?_) <;> (first | simp (maxSteps := 1000000) [hc, of_decide_eq_true hc, k0, k1, k2, hw, hw2, show (j : Int) < 6 by omega] | simp (maxSteps := 1000000) [hc, of_decide_eq_false hc, k0, k1, k2, hw, hw2, show (j : Int) < 6 by omega] | simp (maxSteps := 1000000) [hc, k0, k1, k2, hw, hw2, show (j : Int) < 6 by omega]) <;> (try simp at hc) <;> (try (exfalso; first | omega | exact absurd hc (by assumption))))
          | (refine And.intro (by first | assumption | omega | (simp [BelL, Bel]; done) | (simp; omega)) ?_; try simp (maxSteps := 1000000) [k0, k1, k2, hw, hw2, show (j : Int) < 6 by omega])
          | (refine okC_or ?_; simp (maxSteps := 1000000) [k0, k1, k2, hw, hw2, show (j : Int) < 6 by omega])
        refine hKA (6 - (j + 1)) _ ⟨List.replicate 5 .any ++ [.ptr 2 3 0, .ptr 3 3 0, .any, .int .i64 (j + 1)] ++ List.replicate 133 .any, [none, none, some (.c [.int .i64 k, .int .i64 i, .str S]), some (.c [.int .i64 k', .int .i64 i', .str S']), none]⟩ (by omega) (view_takeE (sl := List.replicate 5 .any ++ [.ptr 2 3 0, .ptr 3 3 0, .any, .int .i64 (j + 1)] ++ List.replicate 133 .any) (σ0 := [none, none, some (.c [.int .i64 k, .int .i64 i, .str S]), some (.c [.int .i64 k', .int .i64 i', .str S']), none]) 5 (by simp) (by first | omega | simp) (by first | omega | (simp; done) | (simp; omega)) (by first | exact LewS.refl _ | simp) (by simp [BelL, Bel]) (by simp [BelS, BelOb, BelL, Bel])) ⟨(j + 1), ?_, rfl, rfl⟩
        omega
      · repeat' first
          | refine jw_seq_k fun K hK => ?_
          | refine jw_block ?_
          | (refine jw_skip ?_; try simp)
          | (refine jw_exit ?_; try simp)
          | (refine jw_cond rfl (fun hc => ?_) (fun hc => ?_) <;> (try simp at hc) <;> (try (exfalso; first | omega | exact absurd hc (by assumption))))
          | (refine jw_c ?_; simp (maxSteps := 1000000) [k0, k1, k2, show ¬ (j : Int) < 6 by omega])
          | (refine jw_draw_j mixed (by kernel_rfl) ?_; simp (maxSteps := 1000000) [k0, k1, k2, show ¬ (j : Int) < 6 by omega])
          | (first | (apply hK; clear hK) | (clear hK; apply hK; clear hK) | (clear hK; clear hK; apply hK; clear hK) | (clear hK; clear hK; clear hK; apply hK; clear hK))
          | (refine jw_ret (hQ _ _ (.inr rfl) (ret_ok 0 ?_ (by first | omega | simp))); simp (maxSteps := 1000000) [okRet, BelL, Bel, BelS, BelOb, k0, k1, k2, show ¬ (j : Int) < 6 by omega])
          | (refine hQ _ _ (.inl rfl) (ret_ok 0 ?_ (by first | omega | simp)); simp (maxSteps := 1000000) [okRet, BelL, Bel, BelS, BelOb, k0, k1, k2, show ¬ (j : Int) < 6 by omega])
          | (refine jd_newc rfl rfl (by simp) ?_; simp (maxSteps := 1000000) [thD, thL, k0, k1, k2, show ¬ (j : Int) < 6 by omega])
          | (refine okN_or ?_; simp (maxSteps := 1000000) [thD, thL, k0, k1, k2, show ¬ (j : Int) < 6 by omega])
          | (refine okC_guard (fun hc => ?_) (fun hc => ?_) <;> (first | simp (maxSteps := 1000000) [hc, of_decide_eq_true hc, k0, k1, k2, show ¬ (j : Int) < 6 by omega] | simp (maxSteps := 1000000) [hc, of_decide_eq_false hc, k0, k1, k2, show ¬ (j : Int) < 6 by omega] | simp (maxSteps := 1000000) [hc, k0, k1, k2, show ¬ (j : Int) < 6 by omega]) <;> (try simp at hc) <;> (try (exfalso; first | omega | exact absurd hc (by assumption))))
          | (refine okJ_guard (fun hc => ?_) (fun hc => ?_) <;> (first | simp (maxSteps := 1000000) [hc, of_decide_eq_true hc, k0, k1, k2, show ¬ (j : Int) < 6 by omega] | simp (maxSteps := 1000000) [hc, of_decide_eq_false hc, k0, k1, k2, show ¬ (j : Int) < 6 by omega] | simp (maxSteps := 1000000) [hc, k0, k1, k2, show ¬ (j : Int) < 6 by omega]) <;> (try simp at hc) <;> (try (exfalso; first | omega | exact absurd hc (by assumption))))
          | (refine And.intro (by first | assumption | omega | (simp [BelL, Bel]; done) | (simp; omega)) ?_; try simp (maxSteps := 1000000) [k0, k1, k2, show ¬ (j : Int) < 6 by omega])
          | (refine okC_or ?_; simp (maxSteps := 1000000) [k0, k1, k2, show ¬ (j : Int) < 6 by omega])
    · omega
  · obtain ⟨v, hv1, hv⟩ := one_law (i := i) (L := L) (i' := i') (L' := L') hE
    have hB := fun (j : Nat) (h : j < 6) => (hC (13 + j) (by omega) (by omega)).mono (R' := fun r => r = .tup [.int .i64 (v j), .int .i64 0]) (by rintro r rfl; rw [hv1 j h])
    clear hC hv1 hS hS'
    refine jw_loop_v (fun m z => ∃ (j : Nat), (j ≤ 6) ∧ 6 - j = m ∧ z = ⟨List.replicate 5 .any ++ [.ptr 2 3 0, .ptr 3 3 0, .ptr 4 6 0, .int .i64 j] ++ List.replicate 133 .any, [none, none, some (.c [.int .i64 k, .int .i64 i, .str S]), some (.c [.int .i64 k', .int .i64 i', .str S']), some (.c (gotM v j))]⟩) ⟨List.replicate 5 .any ++ [.ptr 2 3 0, .ptr 3 3 0, .ptr 4 6 0, .int .i64 (0)] ++ List.replicate 133 .any, [none, none, some (.c [.int .i64 k, .int .i64 i, .str S]), some (.c [.int .i64 k', .int .i64 i', .str S']), some (.c (gotM v (0)))]⟩ (view_takeE (sl := List.replicate 5 .any ++ [.ptr 2 3 0, .ptr 3 3 0, .ptr 4 6 0, .int .i64 (0)] ++ List.replicate 133 .any) (σ0 := [none, none, some (.c [.int .i64 k, .int .i64 i, .str S]), some (.c [.int .i64 k', .int .i64 i', .str S']), some (.c (gotM v (0)))]) 5 (by simp [gotM_0]) (by first | omega | simp) (by first | omega | (simp [gotM_0]; done) | (simp [gotM_0]; omega)) (by first | exact LewS.refl _ | simp [gotM_0]) (by simp [BelL, Bel, gotM_0]) (by simp [BelS, BelOb, BelL, Bel, gotM_0])) ⟨(0), ?_, rfl, rfl⟩ ?_
    rotate_left
    rintro m z ⟨j, hA, rfl, rfl⟩ KA hKA
    · have hw := wrap_i64 (n := 13 + (j : Int)) (by omega) (by omega)
      have hw2 := wrap_i64 (n := (j : Int) + 1) (by omega) (by omega)
      have lM := gotM_len v j
      by_cases hj : j < 6
      · have hsm : (gotM v j).set j (.int .i64 (v j)) = gotM v (j + 1) := by rw [← put_eq_set (by rw [lM]; exact hj), gotM_set hj]
        have hBj := hB j hj
        have hsm2 := gotM_set (v := v) hj
        repeat' first
          | refine jw_ret (hQ _ _ (.inr rfl) ⟨5, _, _, rfl, rfl, ?_⟩)
          | refine jw_ret (hQ _ _ (.inr rfl) ⟨_, rfl, ?_⟩)
          | refine jw_seq_k fun K hK => ?_
          | refine jw_block ?_
          | (refine jw_skip ?_; try simp)
          | (refine jw_exit ?_; try simp)
          | (refine jw_cond rfl (fun hc => ?_) (fun hc => ?_) <;> (try simp at hc) <;> (try (exfalso; first | omega | exact absurd hc (by assumption))))
          | (refine jw_c ?_; simp (maxSteps := 1000000) [hw, hw2, lM, hj, show (j : Int) < 6 by omega, hsm2, okCell])
          | (refine jw_draw_j mixed (by kernel_rfl) ?_; simp (maxSteps := 1000000) [hw, hw2, lM, hj, show (j : Int) < 6 by omega, hsm2, okCell])
          | (first | (apply hK; clear hK) | (clear hK; apply hK; clear hK) | (clear hK; clear hK; apply hK; clear hK) | (clear hK; clear hK; clear hK; apply hK; clear hK))
          | exact hQ _ _ (.inl rfl) ⟨5, _, _, rfl, rfl, rfl⟩
          | refine hQ _ _ (.inl rfl) ⟨5, _, _, rfl, rfl, ?_⟩
          | refine hQ _ _ (.inl rfl) ⟨_, rfl, ?_⟩
          | (refine jl_call (f := 13) rfl rfl rfl rfl rfl (hBj) (by simp [BelL, Bel]) ?_; rintro r rfl; simp (maxSteps := 1000000) [hw, hw2, lM, hj, show (j : Int) < 6 by omega, hsm2, okCell])
          | (refine jd_call (f := 13) rfl rfl rfl rfl rfl (hBj) (by simp [BelL, Bel]) ?_; simp (maxSteps := 1000000) [hw, hw2, lM, hj, show (j : Int) < 6 by omega, hsm2, okCell])
          | (refine jd_newc rfl rfl (by simp) ?_; simp (maxSteps := 1000000) [thD, thL, hw, hw2, lM, hj, show (j : Int) < 6 by omega, hsm2, okCell])
          | (refine okN_or ?_; simp (maxSteps := 1000000) [thD, thL, hw, hw2, lM, hj, show (j : Int) < 6 by omega, hsm2, okCell])
          | (refine okC_guard (fun hc => ?_) (fun hc => ?_) <;> (first | simp (maxSteps := 1000000) [hc, of_decide_eq_true hc, hw, hw2, lM, hj, show (j : Int) < 6 by omega, hsm2, okCell] | simp (maxSteps := 1000000) [hc, of_decide_eq_false hc, hw, hw2, lM, hj, show (j : Int) < 6 by omega, hsm2, okCell] | simp (maxSteps := 1000000) [hc, hw, hw2, lM, hj, show (j : Int) < 6 by omega, hsm2, okCell]) <;> (try simp at hc) <;> (try (exfalso; first | omega | exact absurd hc (by assumption))))
          | (refine okJ_guard (fun hc => ?_) (fun hc => ?_) <;> (first | simp (maxSteps := 1000000) [hc, of_decide_eq_true hc, hw, hw2, lM, hj, show (j : Int) < 6 by omega, hsm2, okCell] | simp (maxSteps := 1000000) [hc, of_decide_eq_false hc, hw, hw2, lM, hj, show (j : Int) < 6 by omega, hsm2, okCell] | simp (maxSteps := 1000000) [hc, hw, hw2, lM, hj, show (j : Int) < 6 by omega, hsm2, okCell]) <;> (try simp at hc) <;> (try (exfalso; first | omega | exact absurd hc (by assumption))))
          | (refine And.intro (by first | assumption | omega | (simp [BelL, Bel]; done) | (simp; omega)) ?_; try simp (maxSteps := 1000000) [hw, hw2, lM, hj, show (j : Int) < 6 by omega, hsm2, okCell])
          | (refine okC_or ?_; simp (maxSteps := 1000000) [hw, hw2, lM, hj, show (j : Int) < 6 by omega, hsm2, okCell])
        all_goals
          refine hKA (6 - (j + 1)) _ ⟨List.replicate 5 .any ++ [.ptr 2 3 0, .ptr 3 3 0, .ptr 4 6 0, .int .i64 (j + 1)] ++ List.replicate 133 .any, [none, none, some (.c [.int .i64 k, .int .i64 i, .str S]), some (.c [.int .i64 k', .int .i64 i', .str S']), some (.c (gotM v (j + 1)))]⟩ (by omega) (view_takeE (sl := List.replicate 5 .any ++ [.ptr 2 3 0, .ptr 3 3 0, .ptr 4 6 0, .int .i64 (j + 1)] ++ List.replicate 133 .any) (σ0 := [none, none, some (.c [.int .i64 k, .int .i64 i, .str S]), some (.c [.int .i64 k', .int .i64 i', .str S']), some (.c (gotM v (j + 1)))]) 5 (by simp) (by first | omega | simp) (by first | omega | (simp; done) | (simp; omega)) (by first | exact LewS.refl _ | simp) (by simp [BelL, Bel]) (by simp [BelS, BelOb, BelL, Bel])) ⟨(j + 1), ?_, rfl, rfl⟩
          omega
      · obtain rfl : j = 6 := by omega
        rw [gotM_6]
        clear hB hw hw2 lM
        rcases hv with ⟨hk, rfl⟩ | ⟨rfl, k0, hv⟩
        · dsimp only
          have h0 : k = 0 ∨ (¬ k = 0 ∧ k' = 0) := by omega
          rcases h0 with rfl | ⟨k0, rfl⟩
          · repeat' first
              | refine jw_seq_k fun K hK => ?_
              | refine jw_block ?_
              | (refine jw_skip ?_; try simp)
              | (refine jw_exit ?_; try simp)
              | (refine jw_cond rfl (fun hc => ?_) (fun hc => ?_) <;> (try simp at hc) <;> (try (exfalso; first | omega | exact absurd hc (by assumption))))
              | (refine jw_c ?_; simp (maxSteps := 1000000))
              | (refine jw_draw_j mixed (by kernel_rfl) ?_; simp (maxSteps := 1000000))
              | (first | (apply hK; clear hK) | (clear hK; apply hK; clear hK) | (clear hK; clear hK; apply hK; clear hK) | (clear hK; clear hK; clear hK; apply hK; clear hK))
              | refine jw_unroll 7 ?_
              | refine ul_k fun K hK => ?_
              | (refine jw_ret (hQ _ _ (.inr rfl) (ret_ok 0 ?_ (by first | omega | simp))); simp (maxSteps := 1000000) [okRet, BelL, Bel, BelS, BelOb])
              | (refine hQ _ _ (.inl rfl) (ret_ok 0 ?_ (by first | omega | simp)); simp (maxSteps := 1000000) [okRet, BelL, Bel, BelS, BelOb])
              | (refine jd_newc rfl rfl (by simp) ?_; simp (maxSteps := 1000000) [thD, thL])
              | (refine okN_or ?_; simp (maxSteps := 1000000) [thD, thL])
              | (refine okC_guard (fun hc => ?_) (fun hc => ?_) <;> (first | simp (maxSteps := 1000000) [hc, of_decide_eq_true hc] | simp (maxSteps := 1000000) [hc, of_decide_eq_false hc] | simp (maxSteps := 1000000) [hc]) <;> (try simp at hc) <;> (try (exfalso; first | omega | exact absurd hc (by assumption))))
              | (refine okJ_guard (fun hc => ?_) (fun hc => ?_) <;> (first | simp (maxSteps := 1000000) [hc, of_decide_eq_true hc] | simp (maxSteps := 1000000) [hc, of_decide_eq_false hc] | simp (maxSteps := 1000000) [hc]) <;> (try simp at hc) <;> (try (exfalso; first | omega | exact absurd hc (by assumption))))
              | (refine And.intro (by first | assumption | omega | (simp [BelL, Bel]; done) | (simp; omega)) ?_; try simp (maxSteps := 1000000))
              | (refine okC_or ?_; simp (maxSteps := 1000000))
          · repeat' first
              | refine jw_seq_k fun K hK => ?_
              | refine jw_block ?_
              | (refine jw_skip ?_; try simp)
              | (refine jw_exit ?_; try simp)
              | (refine jw_cond rfl (fun hc => ?_) (fun hc => ?_) <;> (try simp at hc) <;> (try (exfalso; first | omega | exact absurd hc (by assumption))))
              | (refine jw_c ?_; simp (maxSteps := 1000000) [k0])
              | (refine jw_draw_j mixed (by kernel_rfl) ?_; simp (maxSteps := 1000000) [k0])
              | (first | (apply hK; clear hK) | (clear hK; apply hK; clear hK) | (clear hK; clear hK; apply hK; clear hK) | (clear hK; clear hK; clear hK; apply hK; clear hK))
              | refine jw_unroll 7 ?_
              | refine ul_k fun K hK => ?_
              | (refine jw_ret (hQ _ _ (.inr rfl) (ret_ok 0 ?_ (by first | omega | simp))); simp (maxSteps := 1000000) [okRet, BelL, Bel, BelS, BelOb, k0])
              | (refine hQ _ _ (.inl rfl) (ret_ok 0 ?_ (by first | omega | simp)); simp (maxSteps := 1000000) [okRet, BelL, Bel, BelS, BelOb, k0])
              | (refine jd_newc rfl rfl (by simp) ?_; simp (maxSteps := 1000000) [thD, thL, k0])
              | (refine okN_or ?_; simp (maxSteps := 1000000) [thD, thL, k0])
              | (refine okC_guard (fun hc => ?_) (fun hc => ?_) <;> (first | simp (maxSteps := 1000000) [hc, of_decide_eq_true hc, k0] | simp (maxSteps := 1000000) [hc, of_decide_eq_false hc, k0] | simp (maxSteps := 1000000) [hc, k0]) <;> (try simp at hc) <;> (try (exfalso; first | omega | exact absurd hc (by assumption))))
              | (refine okJ_guard (fun hc => ?_) (fun hc => ?_) <;> (first | simp (maxSteps := 1000000) [hc, of_decide_eq_true hc, k0] | simp (maxSteps := 1000000) [hc, of_decide_eq_false hc, k0] | simp (maxSteps := 1000000) [hc, k0]) <;> (try simp at hc) <;> (try (exfalso; first | omega | exact absurd hc (by assumption))))
              | (refine And.intro (by first | assumption | omega | (simp [BelL, Bel]; done) | (simp; omega)) ?_; try simp (maxSteps := 1000000) [k0])
              | (refine okC_or ?_; simp (maxSteps := 1000000) [k0])
        · rcases hv with ⟨e0, e1, e2, e3, e4, e5⟩ | ⟨e0, e1, e2, e3, e4, e5⟩ | ⟨e0, e1, e2, e3, e4, e5⟩
          all_goals rw [e0, e1, e2, e3, e4, e5]
          · as_aux_lemma =>
              repeat' first
                | refine jw_seq_k fun K hK => ?_
                | refine jw_block ?_
                | (refine jw_skip ?_; try simp)
                | (refine jw_exit ?_; try simp)
                | (refine jw_cond rfl (fun hc => ?_) (fun hc => ?_) <;> (try simp at hc) <;> (try (exfalso; first | omega | exact absurd hc (by assumption))))
                | (refine jw_c ?_; simp (maxSteps := 1000000) [k0])
                | (refine jw_draw_j mixed (by kernel_rfl) ?_; simp (maxSteps := 1000000) [k0])
                | (first | (apply hK; clear hK) | (clear hK; apply hK; clear hK) | (clear hK; clear hK; apply hK; clear hK) | (clear hK; clear hK; clear hK; apply hK; clear hK))
                | refine jw_unroll 7 ?_
                | refine ul_k fun K hK => ?_
                | (refine jw_ret (hQ _ _ (.inr rfl) (ret_ok 0 ?_ (by first | omega | simp))); simp (maxSteps := 1000000) [okRet, BelL, Bel, BelS, BelOb, k0])
                | (refine hQ _ _ (.inl rfl) (ret_ok 0 ?_ (by first | omega | simp)); simp (maxSteps := 1000000) [okRet, BelL, Bel, BelS, BelOb, k0])
                | (refine jd_newc rfl rfl (by simp) ?_; simp (maxSteps := 1000000) [thD, thL, k0])
                | (refine okN_or ?_; simp (maxSteps := 1000000) [thD, thL, k0])
                | (refine okC_guard (fun hc => ?_) (fun hc => ?_) <;> (first | simp (maxSteps := 1000000) [hc, of_decide_eq_true hc, k0] | simp (maxSteps := 1000000) [hc, of_decide_eq_false hc, k0] | simp (maxSteps := 1000000) [hc, k0]) <;> (try simp at hc) <;> (try (exfalso; first | omega | exact absurd hc (by assumption))))
                | (refine okJ_guard (fun hc => ?_) (fun hc => ?_) <;> (first | simp (maxSteps := 1000000) [hc, of_decide_eq_true hc, k0] | simp (maxSteps := 1000000) [hc, of_decide_eq_false hc, k0] | simp (maxSteps := 1000000) [hc, k0]) <;> (try simp at hc) <;> (try (exfalso; first | omega | exact absurd hc (by assumption))))
                | (refine And.intro (by first | assumption | omega | (simp [BelL, Bel]; done) | (simp; omega)) ?_; try simp (maxSteps := 1000000) [k0])
                | (refine okC_or ?_; simp (maxSteps := 1000000) [k0])
          · as_aux_lemma =>
              repeat' first
                | refine jw_seq_k fun K hK => ?_
                | refine jw_block ?_
                | (refine jw_skip ?_; try simp)
                | (refine jw_exit ?_; try simp)
                | (refine jw_cond rfl (fun hc => ?_) (fun hc => ?_) <;> (try simp at hc) <;> (try (exfalso; first | omega | exact absurd hc (by assumption))))
                | (refine jw_c ?_; simp (maxSteps := 1000000) [k0])
                | (refine jw_draw_j mixed (by kernel_rfl) ?_; simp (maxSteps := 1000000) [k0])
                | (first | (apply hK; clear hK) | (clear hK; apply hK; clear hK) | (clear hK; clear hK; apply hK; clear hK) | (clear hK; clear hK; clear hK; apply hK; clear hK))
                | refine jw_unroll 7 ?_
                | refine ul_k fun K hK => ?_
                | (refine jw_ret (hQ _ _ (.inr rfl) (ret_ok 0 ?_ (by first | omega | simp))); simp (maxSteps := 1000000) [okRet, BelL, Bel, BelS, BelOb, k0])
                | (refine hQ _ _ (.inl rfl) (ret_ok 0 ?_ (by first | omega | simp)); simp (maxSteps := 1000000) [okRet, BelL, Bel, BelS, BelOb, k0])
                | (refine jd_newc rfl rfl (by simp) ?_; simp (maxSteps := 1000000) [thD, thL, k0])
                | (refine okN_or ?_; simp (maxSteps := 1000000) [thD, thL, k0])
                | (refine okC_guard (fun hc => ?_) (fun hc => ?_) <;> (first | simp (maxSteps := 1000000) [hc, of_decide_eq_true hc, k0] | simp (maxSteps := 1000000) [hc, of_decide_eq_false hc, k0] | simp (maxSteps := 1000000) [hc, k0]) <;> (try simp at hc) <;> (try (exfalso; first | omega | exact absurd hc (by assumption))))
                | (refine okJ_guard (fun hc => ?_) (fun hc => ?_) <;> (first | simp (maxSteps := 1000000) [hc, of_decide_eq_true hc, k0] | simp (maxSteps := 1000000) [hc, of_decide_eq_false hc, k0] | simp (maxSteps := 1000000) [hc, k0]) <;> (try simp at hc) <;> (try (exfalso; first | omega | exact absurd hc (by assumption))))
                | (refine And.intro (by first | assumption | omega | (simp [BelL, Bel]; done) | (simp; omega)) ?_; try simp (maxSteps := 1000000) [k0])
                | (refine okC_or ?_; simp (maxSteps := 1000000) [k0])
          · as_aux_lemma =>
              repeat' first
                | refine jw_seq_k fun K hK => ?_
                | refine jw_block ?_
                | (refine jw_skip ?_; try simp)
                | (refine jw_exit ?_; try simp)
                | (refine jw_cond rfl (fun hc => ?_) (fun hc => ?_) <;> (try simp at hc) <;> (try (exfalso; first | omega | exact absurd hc (by assumption))))
                | (refine jw_c ?_; simp (maxSteps := 1000000) [k0])
                | (refine jw_draw_j mixed (by kernel_rfl) ?_; simp (maxSteps := 1000000) [k0])
                | (first | (apply hK; clear hK) | (clear hK; apply hK; clear hK) | (clear hK; clear hK; apply hK; clear hK) | (clear hK; clear hK; clear hK; apply hK; clear hK))
                | refine jw_unroll 7 ?_
                | refine ul_k fun K hK => ?_
                | (refine jw_ret (hQ _ _ (.inr rfl) (ret_ok 0 ?_ (by first | omega | simp))); simp (maxSteps := 1000000) [okRet, BelL, Bel, BelS, BelOb, k0])
                | (refine hQ _ _ (.inl rfl) (ret_ok 0 ?_ (by first | omega | simp)); simp (maxSteps := 1000000) [okRet, BelL, Bel, BelS, BelOb, k0])
                | (refine jd_newc rfl rfl (by simp) ?_; simp (maxSteps := 1000000) [thD, thL, k0])
                | (refine okN_or ?_; simp (maxSteps := 1000000) [thD, thL, k0])
                | (refine okC_guard (fun hc => ?_) (fun hc => ?_) <;> (first | simp (maxSteps := 1000000) [hc, of_decide_eq_true hc, k0] | simp (maxSteps := 1000000) [hc, of_decide_eq_false hc, k0] | simp (maxSteps := 1000000) [hc, k0]) <;> (try simp at hc) <;> (try (exfalso; first | omega | exact absurd hc (by assumption))))
                | (refine okJ_guard (fun hc => ?_) (fun hc => ?_) <;> (first | simp (maxSteps := 1000000) [hc, of_decide_eq_true hc, k0] | simp (maxSteps := 1000000) [hc, of_decide_eq_false hc, k0] | simp (maxSteps := 1000000) [hc, k0]) <;> (try simp at hc) <;> (try (exfalso; first | omega | exact absurd hc (by assumption))))
                | (refine And.intro (by first | assumption | omega | (simp [BelL, Bel]; done) | (simp; omega)) ?_; try simp (maxSteps := 1000000) [k0])
                | (refine okC_or ?_; simp (maxSteps := 1000000) [k0])
    · omega
theorem compareOne_row (a : List D) (ap : Parts RawP a) (b : List D) (bp : Parts RawP b) : FV Tryd.prog utfG 4 [.agg a, .agg b] (fun r => r = .bool true) := by
  obtain ⟨k, i, s, h1, h2, h3, rfl⟩ := raw_of ap
  obtain ⟨k', i', s', h1', h2', h3', rfl⟩ := raw_of bp
  exact compareOne k i k' i' s s' h2 h2' h3 h3'
end Go.Proofs.YtkjndbfinpfjfaaDoor
