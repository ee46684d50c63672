/- SwapBack: the walk and the law. -/
import Derived.Test.YtaoohkfocajdcaaSwapPure
set_option linter.unusedVariables false
set_option linter.unusedSimpArgs false
set_option maxRecDepth 20000
set_option maxHeartbeats 20000000
namespace Go.Proofs.Ytaoohkfocajdcaa
open Go Go.Vm Go.Proofs

theorem sameIntsT {G : Globals} (l : List Int) (hl : l.length ≤ 1000000) : FV Try.prog G 14 [numsD .i64 l, numsD .i64 l] (fun r => r = .bool true) := by
  refine fv_enter_v Try.func14 rfl rfl fun Q hQ => ?_
  repeat' first
    | refine jw_ret (hQ _ _ (.inr rfl) ⟨5, _, _, rfl, rfl, ?_⟩)
    | refine jw_ret (hQ _ _ (.inr rfl) ⟨_, rfl, ?_⟩)
    | refine jw_seq_k fun K hK => ?_
    | refine jw_block ?_
    | (refine jw_skip ?_; try simp)
    | (refine jw_exit ?_; try simp)
    | (refine jw_cond rfl (fun hc => ?_) (fun hc => ?_) <;> (try simp at hc) <;> (try (exfalso; first | omega | exact absurd hc (by assumption))))
    | (refine jw_c ?_; simp (maxSteps := 1000000) [Try.f14, numsD])
    | (refine jw_draw_j mixed (by kernel_rfl) ?_; simp (maxSteps := 1000000) [Try.f14, numsD])
    | (first | (apply hK; clear hK) | (clear hK; apply hK; clear hK) | (clear hK; clear hK; apply hK; clear hK) | (clear hK; clear hK; clear hK; apply hK; clear hK))
    | exact hQ _ _ (.inl rfl) ⟨5, _, _, rfl, rfl, rfl⟩
    | refine hQ _ _ (.inl rfl) ⟨5, _, _, rfl, rfl, ?_⟩
    | refine hQ _ _ (.inl rfl) ⟨_, rfl, ?_⟩
    | (refine jd_newc rfl rfl (by simp) ?_; simp (maxSteps := 1000000) [thD, thL, Try.f14, numsD])
    | (refine okN_or ?_; simp (maxSteps := 1000000) [thD, thL, Try.f14, numsD])
    | (refine okC_guard (fun hc => ?_) (fun hc => ?_) <;> (first | simp (maxSteps := 1000000) [hc, of_decide_eq_true hc, Try.f14, numsD] | simp (maxSteps := 1000000) [hc, of_decide_eq_false hc, Try.f14, numsD] | simp (maxSteps := 1000000) [hc, Try.f14, numsD]) <;> (try simp at hc) <;> (try (exfalso; first | omega | exact absurd hc (by assumption))))
    | (refine okJ_guard (fun hc => ?_) (fun hc => ?_) <;> (first | simp (maxSteps := 1000000) [hc, of_decide_eq_true hc, Try.f14, numsD] | simp (maxSteps := 1000000) [hc, of_decide_eq_false hc, Try.f14, numsD] | simp (maxSteps := 1000000) [hc, Try.f14, numsD]) <;> (try simp at hc) <;> (try (exfalso; first | omega | exact absurd hc (by assumption))))
    | (refine And.intro (by first | assumption | omega | (simp [BelL, Bel]; done) | (simp; omega)) ?_; try simp (maxSteps := 1000000) [Try.f14, numsD])
    | (refine okC_or ?_; simp (maxSteps := 1000000) [Try.f14, numsD])
  refine jw_loop_v (fun m z => ∃ (i : Nat), (i ≤ l.length) ∧ l.length - i = m ∧ z = ⟨[numsD .i64 l, numsD .i64 l, .any, .any, .any, .int .i64 i] ++ List.replicate 20 .any, []⟩) ⟨[numsD .i64 l, numsD .i64 l, .any, .any, .any, .int .i64 (0)] ++ List.replicate 20 .any, []⟩ (view_takeE (sl := [numsD .i64 l, numsD .i64 l, .any, .any, .any, .int .i64 (0)] ++ List.replicate 20 .any) (σ0 := []) 0 (by simp [numsD]) (by first | omega | simp) (by first | omega | (simp [numsD]; done) | (simp [numsD]; omega)) (by first | exact LewS.refl _ | simp [numsD]) (by simp [BelL, Bel, numsD]) (by simp [BelS, BelOb, BelL, Bel, numsD])) ⟨(0), ?_, rfl, rfl⟩ ?_
  rotate_left
  rintro m z ⟨i, hA, rfl, rfl⟩ KA hKA
  · have hw := wrap_i64 (n := (i : Int) + 1) (by omega) (by omega)
    by_cases hlt : i < l.length
    · repeat' first
        | refine jw_ret (hQ _ _ (.inr rfl) ⟨5, _, _, rfl, rfl, ?_⟩)
        | refine jw_ret (hQ _ _ (.inr rfl) ⟨_, rfl, ?_⟩)
        | refine jw_seq_k fun K hK => ?_
        | refine jw_block ?_
        | (refine jw_skip ?_; try simp)
        | (refine jw_exit ?_; try simp)
        | (refine jw_cond rfl (fun hc => ?_) (fun hc => ?_) <;> (try simp at hc) <;> (try (exfalso; first | omega | exact absurd hc (by assumption))))
        | (refine jw_c ?_; simp (maxSteps := 1000000) [hlt, numsD, hw])
        | (refine jw_draw_j mixed (by kernel_rfl) ?_; simp (maxSteps := 1000000) [hlt, numsD, hw])
        | (first | (apply hK; clear hK) | (clear hK; apply hK; clear hK) | (clear hK; clear hK; apply hK; clear hK) | (clear hK; clear hK; clear hK; apply hK; clear hK))
        | exact hQ _ _ (.inl rfl) ⟨5, _, _, rfl, rfl, rfl⟩
        | refine hQ _ _ (.inl rfl) ⟨5, _, _, rfl, rfl, ?_⟩
        | refine hQ _ _ (.inl rfl) ⟨_, rfl, ?_⟩
        | (refine jd_newc rfl rfl (by simp) ?_; simp (maxSteps := 1000000) [thD, thL, hlt, numsD, hw])
        | (refine okN_or ?_; simp (maxSteps := 1000000) [thD, thL, hlt, numsD, hw])
        | (refine okC_guard (fun hc => ?_) (fun hc => ?_) <;> (first | simp (maxSteps := 1000000) [hc, of_decide_eq_true hc, hlt, numsD, hw] | simp (maxSteps := 1000000) [hc, of_decide_eq_false hc, hlt, numsD, hw] | simp (maxSteps := 1000000) [hc, hlt, numsD, hw]) <;> (try simp at hc) <;> (try (exfalso; first | omega | exact absurd hc (by assumption))))
        | (refine okJ_guard (fun hc => ?_) (fun hc => ?_) <;> (first | simp (maxSteps := 1000000) [hc, of_decide_eq_true hc, hlt, numsD, hw] | simp (maxSteps := 1000000) [hc, of_decide_eq_false hc, hlt, numsD, hw] | simp (maxSteps := 1000000) [hc, hlt, numsD, hw]) <;> (try simp at hc) <;> (try (exfalso; first | omega | exact absurd hc (by assumption))))
        | (refine And.intro (by first | assumption | omega | (simp [BelL, Bel]; done) | (simp; omega)) ?_; try simp (maxSteps := 1000000) [hlt, numsD, hw])
        | (refine okC_or ?_; simp (maxSteps := 1000000) [hlt, numsD, hw])
      refine hKA (l.length - (i + 1)) _ ⟨[numsD .i64 l, numsD .i64 l, .any, .any, .any, .int .i64 (i + 1)] ++ List.replicate 20 .any, []⟩ (by omega) (view_takeE (sl := [numsD .i64 l, numsD .i64 l, .any, .any, .any, .int .i64 (i + 1)] ++ List.replicate 20 .any) (σ0 := []) 0 (by simp [numsD]) (by first | omega | simp) (by first | omega | (simp [numsD]; done) | (simp [numsD]; omega)) (by first | exact LewS.refl _ | simp [numsD]) (by simp [BelL, Bel, numsD]) (by simp [BelS, BelOb, BelL, Bel, numsD])) ⟨(i + 1), ?_, rfl, rfl⟩
      omega
    · repeat' first
        | refine jw_seq_k fun K hK => ?_
        | refine jw_block ?_
        | (refine jw_skip ?_; try simp)
        | (refine jw_exit ?_; try simp)
        | (refine jw_cond rfl (fun hc => ?_) (fun hc => ?_) <;> (try simp at hc) <;> (try (exfalso; first | omega | exact absurd hc (by assumption))))
        | (refine jw_c ?_; simp (maxSteps := 1000000) [hlt, numsD])
        | (refine jw_draw_j mixed (by kernel_rfl) ?_; simp (maxSteps := 1000000) [hlt, numsD])
        | (first | (apply hK; clear hK) | (clear hK; apply hK; clear hK) | (clear hK; clear hK; apply hK; clear hK) | (clear hK; clear hK; clear hK; apply hK; clear hK))
        | (refine jw_ret (hQ _ _ (.inr rfl) (ret_ok 0 ?_ (by first | omega | simp))); simp (maxSteps := 1000000) [okRet, BelL, Bel, BelS, BelOb, hlt, numsD])
        | (refine hQ _ _ (.inl rfl) (ret_ok 0 ?_ (by first | omega | simp)); simp (maxSteps := 1000000) [okRet, BelL, Bel, BelS, BelOb, hlt, numsD])
        | (refine jd_newc rfl rfl (by simp) ?_; simp (maxSteps := 1000000) [thD, thL, hlt, numsD])
        | (refine okN_or ?_; simp (maxSteps := 1000000) [thD, thL, hlt, numsD])
        | (refine okC_guard (fun hc => ?_) (fun hc => ?_) <;> (first | simp (maxSteps := 1000000) [hc, of_decide_eq_true hc, hlt, numsD] | simp (maxSteps := 1000000) [hc, of_decide_eq_false hc, hlt, numsD] | simp (maxSteps := 1000000) [hc, hlt, numsD]) <;> (try simp at hc) <;> (try (exfalso; first | omega | exact absurd hc (by assumption))))
        | (refine okJ_guard (fun hc => ?_) (fun hc => ?_) <;> (first | simp (maxSteps := 1000000) [hc, of_decide_eq_true hc, hlt, numsD] | simp (maxSteps := 1000000) [hc, of_decide_eq_false hc, hlt, numsD] | simp (maxSteps := 1000000) [hc, hlt, numsD]) <;> (try simp at hc) <;> (try (exfalso; first | omega | exact absurd hc (by assumption))))
        | (refine And.intro (by first | assumption | omega | (simp [BelL, Bel]; done) | (simp; omega)) ?_; try simp (maxSteps := 1000000) [hlt, numsD])
        | (refine okC_or ?_; simp (maxSteps := 1000000) [hlt, numsD])
  · omega

theorem swapBack (a : List Int) (aw : ∀ n ∈ a, (Lit.int .i64 n).wf = true) (az : a.length * 8 ≤ 140737488351232) (_ : a.length ≤ 9223372036854775807) (ep : Int) (_ : (Lit.int .i64 ep).wf = true) (t : Int) (_ : (Lit.int .i64 t).wf = true)
    (w : Int) (_ : (Lit.int .i64 w).wf = true) (p : Int) (_ : (Lit.int .i64 p).wf = true) :
    FV Try.prog [] 6 [numsD .i64 a, .int .i64 ep, .int .i64 t, .int .i64 w, .int .i64 p] (fun r => r = .bool true) := by
  have e0 := Int.emod_nonneg ep (show (999998 : Int) ≠ 0 by omega)
  have e1 := Int.emod_lt_of_pos ep (show (0 : Int) < 999998 by omega)
  have hP := pickedG (G := []) ep 999998 (by omega) (by omega)
  have hLF := layForF (G := []) a az (ep % 999998) t
  rw [show ep % 999998 % 1000000 = ep % 999998 by omega] at hLF
  generalize ep % 999998 = E at *
  refine fv_enter_v Try.func6 rfl rfl fun Q hQ => ?_
  repeat' first
    | refine jw_ret (hQ _ _ (.inr rfl) ⟨5, _, _, rfl, rfl, ?_⟩)
    | refine jw_ret (hQ _ _ (.inr rfl) ⟨_, rfl, ?_⟩)
    | refine jw_seq_k fun K hK => ?_
    | refine jw_block ?_
    | (refine jw_skip ?_; try simp)
    | (refine jw_exit ?_; try simp)
    | (refine jw_cond rfl (fun hc => ?_) (fun hc => ?_) <;> (try simp at hc) <;> (try (exfalso; first | omega | exact absurd hc (by assumption))))
    | (refine jw_c ?_; simp (maxSteps := 1000000) [Try.f6, layD, chainsD, okCell, okRef])
    | (refine jw_draw_j mixed (by kernel_rfl) ?_; simp (maxSteps := 1000000) [Try.f6, layD, chainsD, okCell, okRef])
    | (first | (apply hK; clear hK) | (clear hK; apply hK; clear hK) | (clear hK; clear hK; apply hK; clear hK) | (clear hK; clear hK; clear hK; apply hK; clear hK))
    | exact hQ _ _ (.inl rfl) ⟨5, _, _, rfl, rfl, rfl⟩
    | refine hQ _ _ (.inl rfl) ⟨5, _, _, rfl, rfl, ?_⟩
    | refine hQ _ _ (.inl rfl) ⟨_, rfl, ?_⟩
    | (refine jl_call (f := 8) rfl rfl rfl rfl rfl (hP) (by simp [BelL, Bel]) ?_; rintro r rfl; simp (maxSteps := 1000000) [Try.f6, layD, chainsD, okCell, okRef])
    | (refine jd_call (f := 8) rfl rfl rfl rfl rfl (hP) (by simp [BelL, Bel]) ?_; simp (maxSteps := 1000000) [Try.f6, layD, chainsD, okCell, okRef])
    | (refine jl_call (f := 7) rfl rfl rfl rfl rfl (hLF) (by simp [BelL, Bel]) ?_; rintro r ⟨cs, rfl, hok, hn5⟩; simp (maxSteps := 1000000) [Try.f6, layD, chainsD, okCell, okRef])
    | (refine jd_newc rfl rfl (by simp) ?_; simp (maxSteps := 1000000) [thD, thL, Try.f6, layD, chainsD, okCell, okRef])
    | (refine okN_or ?_; simp (maxSteps := 1000000) [thD, thL, Try.f6, layD, chainsD, okCell, okRef])
    | (refine okC_guard (fun hc => ?_) (fun hc => ?_) <;> (first | simp (maxSteps := 1000000) [hc, of_decide_eq_true hc, Try.f6, layD, chainsD, okCell, okRef] | simp (maxSteps := 1000000) [hc, of_decide_eq_false hc, Try.f6, layD, chainsD, okCell, okRef] | simp (maxSteps := 1000000) [hc, Try.f6, layD, chainsD, okCell, okRef]) <;> (try simp at hc) <;> (try (exfalso; first | omega | exact absurd hc (by assumption))))
    | (refine okJ_guard (fun hc => ?_) (fun hc => ?_) <;> (first | simp (maxSteps := 1000000) [hc, of_decide_eq_true hc, Try.f6, layD, chainsD, okCell, okRef] | simp (maxSteps := 1000000) [hc, of_decide_eq_false hc, Try.f6, layD, chainsD, okCell, okRef] | simp (maxSteps := 1000000) [hc, Try.f6, layD, chainsD, okCell, okRef]) <;> (try simp at hc) <;> (try (exfalso; first | omega | exact absurd hc (by assumption))))
    | (refine And.intro (by first | assumption | omega | (simp [BelL, Bel]; done) | (simp; omega)) ?_; try simp (maxSteps := 1000000) [Try.f6, layD, chainsD, okCell, okRef])
    | (refine okC_or ?_; simp (maxSteps := 1000000) [Try.f6, layD, chainsD, okCell, okRef])
  have hok' := hok
  obtain ⟨_, _, hc1, hc6, hc3, _, hnd⟩ := hok'
  have hM1 : 1 ≤ cs.flatten.length := by
    cases cs with
    | nil => simp at hc1
    | cons c cs =>
      have := (hc3 c (by simp)).1
      rw [List.flatten_cons, List.length_append]
      omega
  refine jw_loop_v (fun m z => ∃ (i : Nat), ∃ (F : List Int), (i ≤ cs.length ∧ F = (cs.take i).flatten) ∧ cs.length - i = m ∧ z = ⟨[.any, .any, .any, .int .i64 w, .int .i64 p] ++ List.replicate 6 .any ++ [.ptr 0 2 0, .ms 1 F.length 0 F.length 1, .int .i64 i] ++ List.replicate 180 .any, [some (.c [.int .i64 E, chainsD cs]), some (.c (F.map (.int .i64)))]⟩) ⟨[.any, .any, .any, .int .i64 w, .int .i64 p] ++ List.replicate 6 .any ++ [.ptr 0 2 0, .ms 1 ([]).length 0 ([]).length 1, .int .i64 (0)] ++ List.replicate 180 .any, [some (.c [.int .i64 E, chainsD cs]), some (.c (([]).map (.int .i64)))]⟩ ((view_nil 12 1 rfl).trans (view_takeE (sl := [.any, .any, .any, .int .i64 w, .int .i64 p] ++ List.replicate 6 .any ++ [.ptr 0 2 0, .ms 1 ([]).length 0 ([]).length 1, .int .i64 (0)] ++ List.replicate 180 .any) (σ0 := [some (.c [.int .i64 E, chainsD cs]), some (.c (([]).map (.int .i64)))]) 2 (by simp [chainsD, thL, thD, thS, thOb]) (by first | omega | simp) (by first | omega | (simp [chainsD, thL, thD, thS, thOb]; done) | (simp [chainsD, thL, thD, thS, thOb]; omega)) (by first | exact LewS.refl _ | simp [chainsD, thL, thD, thS, thOb]) (by simp [BelL, Bel, thL, thD, thS, thOb, chainsD]) (by simp [BelS, BelOb, BelL, Bel, thL, thD, thS, thOb, chainsD]))) ⟨(0), ([]), ?_, rfl, rfl⟩ ?_
  rotate_left
  rintro m z ⟨i, F, hA, rfl, rfl⟩ KA hKA
  · obtain ⟨hi, hF⟩ := hA
    have hw := wrap_i64 (n := (i : Int) + 1) (by omega) (by omega)
    have hF5 : F.length ≤ 5 := by
      have : cs.flatten = F ++ (cs.drop i).flatten := by rw [hF, ← List.flatten_append, List.take_append_drop]
      rw [this, List.length_append] at hn5
      omega
    by_cases hlt : i < cs.length
    · have hci := hc3 _ (List.getElem_mem hlt)
      have hF2 : F ++ cs[i] = (cs.take (i + 1)).flatten := by rw [hF, List.take_succ_eq_append_getElem hlt, List.flatten_append, List.flatten_singleton]
      have hcz : (F.length + cs[i].length) * 8 ≤ 140737488355328 := by omega
      repeat' first
        | refine jw_ret (hQ _ _ (.inr rfl) ⟨5, _, _, rfl, rfl, ?_⟩)
        | refine jw_ret (hQ _ _ (.inr rfl) ⟨_, rfl, ?_⟩)
        | refine jw_seq_k fun K hK => ?_
        | refine jw_block ?_
        | (refine jw_skip ?_; try simp)
        | (refine jw_exit ?_; try simp)
        | (refine jw_cond rfl (fun hc => ?_) (fun hc => ?_) <;> (try simp at hc) <;> (try (exfalso; first | omega | exact absurd hc (by assumption))))
        | (refine jw_c ?_; simp (maxSteps := 1000000) [hlt, chainsD, intsD, hw, hcz])
        | (refine jw_draw_j mixed (by kernel_rfl) ?_; simp (maxSteps := 1000000) [hlt, chainsD, intsD, hw, hcz])
        | (first | (apply hK; clear hK) | (clear hK; apply hK; clear hK) | (clear hK; clear hK; apply hK; clear hK) | (clear hK; clear hK; clear hK; apply hK; clear hK))
        | exact hQ _ _ (.inl rfl) ⟨5, _, _, rfl, rfl, rfl⟩
        | refine hQ _ _ (.inl rfl) ⟨5, _, _, rfl, rfl, ?_⟩
        | refine hQ _ _ (.inl rfl) ⟨_, rfl, ?_⟩
        | (refine jd_newc rfl rfl (by simp) ?_; simp (maxSteps := 1000000) [thD, thL, hlt, chainsD, intsD, hw, hcz])
        | (refine okN_or ?_; simp (maxSteps := 1000000) [thD, thL, hlt, chainsD, intsD, hw, hcz])
        | (refine okC_guard (fun hc => ?_) (fun hc => ?_) <;> (first | simp (maxSteps := 1000000) [hc, of_decide_eq_true hc, hlt, chainsD, intsD, hw, hcz] | simp (maxSteps := 1000000) [hc, of_decide_eq_false hc, hlt, chainsD, intsD, hw, hcz] | simp (maxSteps := 1000000) [hc, hlt, chainsD, intsD, hw, hcz]) <;> (try simp at hc) <;> (try (exfalso; first | omega | exact absurd hc (by assumption))))
        | (refine okJ_guard (fun hc => ?_) (fun hc => ?_) <;> (first | simp (maxSteps := 1000000) [hc, of_decide_eq_true hc, hlt, chainsD, intsD, hw, hcz] | simp (maxSteps := 1000000) [hc, of_decide_eq_false hc, hlt, chainsD, intsD, hw, hcz] | simp (maxSteps := 1000000) [hc, hlt, chainsD, intsD, hw, hcz]) <;> (try simp at hc) <;> (try (exfalso; first | omega | exact absurd hc (by assumption))))
        | (refine And.intro (by first | assumption | omega | (simp [BelL, Bel]; done) | (simp; omega)) ?_; try simp (maxSteps := 1000000) [hlt, chainsD, intsD, hw, hcz])
        | (refine okC_or ?_; simp (maxSteps := 1000000) [hlt, chainsD, intsD, hw, hcz])
      refine hKA (cs.length - (i + 1)) _ ⟨[.any, .any, .any, .int .i64 w, .int .i64 p] ++ List.replicate 6 .any ++ [.ptr 0 2 0, .ms 1 (F ++ cs[i]).length 0 (F ++ cs[i]).length 1, .int .i64 (i + 1)] ++ List.replicate 180 .any, [some (.c [.int .i64 E, chainsD cs]), some (.c ((F ++ cs[i]).map (.int .i64)))]⟩ (by omega) (view_takeE (sl := [.any, .any, .any, .int .i64 w, .int .i64 p] ++ List.replicate 6 .any ++ [.ptr 0 2 0, .ms 1 (F ++ cs[i]).length 0 (F ++ cs[i]).length 1, .int .i64 (i + 1)] ++ List.replicate 180 .any) (σ0 := [some (.c [.int .i64 E, chainsD cs]), some (.c ((F ++ cs[i]).map (.int .i64)))]) 2 (by simp [chainsD]) (by first | omega | simp) (by first | omega | (simp [chainsD]; done) | (simp [chainsD]; omega)) (by first | exact LewS.refl _ | simp [chainsD]) (by simp [BelL, Bel, chainsD]) (by simp [BelS, BelOb, BelL, Bel, chainsD])) ⟨(i + 1), (F ++ cs[i]), ?_, rfl, rfl⟩
      exact ⟨by omega, hF2⟩
    · obtain rfl : i = cs.length := by omega
      rw [List.take_length] at hF
      have hn5' := hn5
      have hM1' := hM1
      rw [← hF] at hn5' hM1'
      have hFn : F.Nodup := hF ▸ hnd
      have hFm : ∀ u ∈ F, 0 ≤ u ∧ u < 6 := hF ▸ hok.2.2.2.2.2.1
      have q0 := Int.emod_nonneg w (show (F.length : Int) ≠ 0 by omega)
      have q1 := Int.emod_lt_of_pos w (show (0 : Int) < F.length by omega)
      have hPw := pickedG (G := []) w F.length (by omega) (by omega)
      obtain ⟨q, hq⟩ : ∃ q : Nat, w % (F.length : Int) = q := ⟨(w % (F.length : Int)).toNat, by omega⟩
      rw [hq] at hPw q1
      have hqF : q < F.length := by omega
      obtain ⟨O, hO⟩ : ∃ O, F[q] = O := ⟨_, rfl⟩
      have hOF : O ∈ F := hO ▸ List.getElem_mem hqF
      have htk : List.take F.length (F.map (D.int .i64)) = F.map (.int .i64) := List.take_of_length_le (by simp)
      have ht1 : ∀ X, thL 1 X (cs.map intsD) = cs.map intsD := fun X => thL_flat 1 X (belL_chains 1 cs)
      repeat' first
        | refine jw_ret (hQ _ _ (.inr rfl) ⟨5, _, _, rfl, rfl, ?_⟩)
        | refine jw_ret (hQ _ _ (.inr rfl) ⟨_, rfl, ?_⟩)
        | refine jw_seq_k fun K hK => ?_
        | refine jw_block ?_
        | (refine jw_skip ?_; try simp)
        | (refine jw_exit ?_; try simp)
        | (refine jw_cond rfl (fun hc => ?_) (fun hc => ?_) <;> (try simp at hc) <;> (try (exfalso; first | omega | exact absurd hc (by assumption))))
        | ((fail_if_success (refine jw_c (id := 7) ?_)); (refine jw_c ?_; simp (maxSteps := 1000000) [chainsD]))
        | ((fail_if_success (refine jw_draw_j (id := 7) mixed (by kernel_rfl) ?_)); (refine jw_draw_j mixed (by kernel_rfl) ?_; simp (maxSteps := 1000000) [chainsD]))
        | (first | (apply hK; clear hK) | (clear hK; apply hK; clear hK) | (clear hK; clear hK; apply hK; clear hK) | (clear hK; clear hK; clear hK; apply hK; clear hK))
        | exact hQ _ _ (.inl rfl) ⟨5, _, _, rfl, rfl, rfl⟩
        | refine hQ _ _ (.inl rfl) ⟨5, _, _, rfl, rfl, ?_⟩
        | refine hQ _ _ (.inl rfl) ⟨_, rfl, ?_⟩
        | (refine jd_newc rfl rfl (by simp) ?_; simp (maxSteps := 1000000) [thD, thL, chainsD])
        | (refine okN_or ?_; simp (maxSteps := 1000000) [thD, thL, chainsD])
        | (refine okC_guard (fun hc => ?_) (fun hc => ?_) <;> (first | simp (maxSteps := 1000000) [hc, of_decide_eq_true hc, chainsD] | simp (maxSteps := 1000000) [hc, of_decide_eq_false hc, chainsD] | simp (maxSteps := 1000000) [hc, chainsD]) <;> (try simp at hc) <;> (try (exfalso; first | omega | exact absurd hc (by assumption))))
        | (refine okJ_guard (fun hc => ?_) (fun hc => ?_) <;> (first | simp (maxSteps := 1000000) [hc, of_decide_eq_true hc, chainsD] | simp (maxSteps := 1000000) [hc, of_decide_eq_false hc, chainsD] | simp (maxSteps := 1000000) [hc, chainsD]) <;> (try simp at hc) <;> (try (exfalso; first | omega | exact absurd hc (by assumption))))
        | (refine And.intro (by first | assumption | omega | (simp [BelL, Bel]; done) | (simp; omega)) ?_; try simp (maxSteps := 1000000) [chainsD])
        | (refine okC_or ?_; simp (maxSteps := 1000000) [chainsD])
      (refine jw_view (view_frz 1 _ rfl (by simp [BelL, Bel, htk, ht1, chainsD])) ?_; simp (maxSteps := 1000000) [thL, thD, thS, thOb, htk, ht1, chainsD])
      repeat' first
        | refine jw_ret (hQ _ _ (.inr rfl) ⟨5, _, _, rfl, rfl, ?_⟩)
        | refine jw_ret (hQ _ _ (.inr rfl) ⟨_, rfl, ?_⟩)
        | refine jw_seq_k fun K hK => ?_
        | refine jw_block ?_
        | (refine jw_skip ?_; try simp)
        | (refine jw_exit ?_; try simp)
        | (refine jw_cond rfl (fun hc => ?_) (fun hc => ?_) <;> (try simp at hc) <;> (try (exfalso; first | omega | exact absurd hc (by assumption))))
        | (refine jw_c ?_; simp (maxSteps := 1000000) [chainsD, hqF, hO])
        | (refine jw_draw_j mixed (by kernel_rfl) ?_; simp (maxSteps := 1000000) [chainsD, hqF, hO])
        | (first | (apply hK; clear hK) | (clear hK; apply hK; clear hK) | (clear hK; clear hK; apply hK; clear hK) | (clear hK; clear hK; clear hK; apply hK; clear hK))
        | exact hQ _ _ (.inl rfl) ⟨5, _, _, rfl, rfl, rfl⟩
        | refine hQ _ _ (.inl rfl) ⟨5, _, _, rfl, rfl, ?_⟩
        | refine hQ _ _ (.inl rfl) ⟨_, rfl, ?_⟩
        | (refine jl_call (f := 8) rfl rfl rfl rfl rfl (hPw) (by simp [BelL, Bel]) ?_; rintro r rfl; simp (maxSteps := 1000000) [chainsD, hqF, hO])
        | (refine jd_call (f := 8) rfl rfl rfl rfl rfl (hPw) (by simp [BelL, Bel]) ?_; simp (maxSteps := 1000000) [chainsD, hqF, hO])
        | (refine jd_newc rfl rfl (by simp) ?_; simp (maxSteps := 1000000) [thD, thL, chainsD, hqF, hO])
        | (refine okN_or ?_; simp (maxSteps := 1000000) [thD, thL, chainsD, hqF, hO])
        | (refine okC_guard (fun hc => ?_) (fun hc => ?_) <;> (first | simp (maxSteps := 1000000) [hc, of_decide_eq_true hc, chainsD, hqF, hO] | simp (maxSteps := 1000000) [hc, of_decide_eq_false hc, chainsD, hqF, hO] | simp (maxSteps := 1000000) [hc, chainsD, hqF, hO]) <;> (try simp at hc) <;> (try (exfalso; first | omega | exact absurd hc (by assumption))))
        | (refine okJ_guard (fun hc => ?_) (fun hc => ?_) <;> (first | simp (maxSteps := 1000000) [hc, of_decide_eq_true hc, chainsD, hqF, hO] | simp (maxSteps := 1000000) [hc, of_decide_eq_false hc, chainsD, hqF, hO] | simp (maxSteps := 1000000) [hc, chainsD, hqF, hO]) <;> (try simp at hc) <;> (try (exfalso; first | omega | exact absurd hc (by assumption))))
        | (refine And.intro (by first | assumption | omega | (simp [BelL, Bel]; done) | (simp; omega)) ?_; try simp (maxSteps := 1000000) [chainsD, hqF, hO])
        | (refine okC_or ?_; simp (maxSteps := 1000000) [chainsD, hqF, hO])
      refine jw_loop_v (fun m z => ∃ (k : Nat), ∃ (f : Nat), (k ≤ F.length ∧ Below F f ∧ ((f : Int) ∉ F ∨ k ≤ f)) ∧ F.length - k = m ∧ z = ⟨List.replicate 4 .any ++ [.int .i64 p] ++ List.replicate 6 .any ++ [.ptr 0 2 0, numsD .i64 F, .any, .int .i64 O, .int .i64 f, .int .i64 k] ++ List.replicate 177 .any, [some (.c [.int .i64 E, chainsD cs])]⟩) ⟨List.replicate 4 .any ++ [.int .i64 p] ++ List.replicate 6 .any ++ [.ptr 0 2 0, numsD .i64 F, .any, .int .i64 O, .int .i64 (0), .int .i64 (0)] ++ List.replicate 177 .any, [some (.c [.int .i64 E, chainsD cs])]⟩ (view_takeE (sl := List.replicate 4 .any ++ [.int .i64 p] ++ List.replicate 6 .any ++ [.ptr 0 2 0, numsD .i64 F, .any, .int .i64 O, .int .i64 (0), .int .i64 (0)] ++ List.replicate 177 .any) (σ0 := [some (.c [.int .i64 E, chainsD cs])]) 1 (by simp [numsD, chainsD]) (by first | omega | simp) (by first | omega | (simp [numsD, chainsD]; done) | (simp [numsD, chainsD]; omega)) (by first | exact LewS.refl _ | simp [numsD, chainsD]) (by simp [BelL, Bel, numsD, chainsD]) (by simp [BelS, BelOb, BelL, Bel, numsD, chainsD])) ⟨(0), (0), ?_, rfl, rfl⟩ ?_
      rotate_left
      rintro m z ⟨k, f, hB, rfl, rfl⟩ KB hKB
      · obtain ⟨hk, hbel, hfo⟩ := hB
        have hfle := below_le hbel
        have hwk := wrap_i64 (n := (k : Int) + 1) (by omega) (by omega)
        by_cases hltk : k < F.length
        · repeat' first
            | refine jw_ret (hQ _ _ (.inr rfl) ⟨5, _, _, rfl, rfl, ?_⟩)
            | refine jw_ret (hQ _ _ (.inr rfl) ⟨_, rfl, ?_⟩)
            | refine jw_seq_k fun K hK => ?_
            | refine jw_block ?_
            | (refine jw_skip ?_; try simp)
            | (refine jw_exit ?_; try simp)
            | (refine jw_cond rfl (fun hc => ?_) (fun hc => ?_) <;> (try simp at hc) <;> (try (exfalso; first | omega | exact absurd hc (by assumption))))
            | (refine jw_c ?_; simp (maxSteps := 1000000) [hltk, numsD, chainsD])
            | (refine jw_draw_j mixed (by kernel_rfl) ?_; simp (maxSteps := 1000000) [hltk, numsD, chainsD])
            | (first | (apply hK; clear hK) | (clear hK; apply hK; clear hK) | (clear hK; clear hK; apply hK; clear hK) | (clear hK; clear hK; clear hK; apply hK; clear hK))
            | exact hQ _ _ (.inl rfl) ⟨5, _, _, rfl, rfl, rfl⟩
            | refine hQ _ _ (.inl rfl) ⟨5, _, _, rfl, rfl, ?_⟩
            | refine hQ _ _ (.inl rfl) ⟨_, rfl, ?_⟩
            | (refine jd_newc rfl rfl (by simp) ?_; simp (maxSteps := 1000000) [thD, thL, hltk, numsD, chainsD])
            | (refine okN_or ?_; simp (maxSteps := 1000000) [thD, thL, hltk, numsD, chainsD])
            | (refine okC_guard (fun hc => ?_) (fun hc => ?_) <;> (first | simp (maxSteps := 1000000) [hc, of_decide_eq_true hc, hltk, numsD, chainsD] | simp (maxSteps := 1000000) [hc, of_decide_eq_false hc, hltk, numsD, chainsD] | simp (maxSteps := 1000000) [hc, hltk, numsD, chainsD]) <;> (try simp at hc) <;> (try (exfalso; first | omega | exact absurd hc (by assumption))))
            | (refine okJ_guard (fun hc => ?_) (fun hc => ?_) <;> (first | simp (maxSteps := 1000000) [hc, of_decide_eq_true hc, hltk, numsD, chainsD] | simp (maxSteps := 1000000) [hc, of_decide_eq_false hc, hltk, numsD, chainsD] | simp (maxSteps := 1000000) [hc, hltk, numsD, chainsD]) <;> (try simp at hc) <;> (try (exfalso; first | omega | exact absurd hc (by assumption))))
            | (refine And.intro (by first | assumption | omega | (simp [BelL, Bel]; done) | (simp; omega)) ?_; try simp (maxSteps := 1000000) [hltk, numsD, chainsD])
            | (refine okC_or ?_; simp (maxSteps := 1000000) [hltk, numsD, chainsD])
          refine jw_loop_v (fun m z => ∃ (i : Nat), ∃ (f : Nat), (i ≤ F.length ∧ Pass F k i f) ∧ F.length - i = m ∧ z = ⟨List.replicate 4 .any ++ [.int .i64 p] ++ List.replicate 6 .any ++ [.ptr 0 2 0, numsD .i64 F, .any, .int .i64 O, .int .i64 f, .int .i64 k, .int .i64 i] ++ List.replicate 176 .any, [some (.c [.int .i64 E, chainsD cs])]⟩) ⟨List.replicate 4 .any ++ [.int .i64 p] ++ List.replicate 6 .any ++ [.ptr 0 2 0, numsD .i64 F, .any, .int .i64 O, .int .i64 (f), .int .i64 k, .int .i64 (0)] ++ List.replicate 176 .any, [some (.c [.int .i64 E, chainsD cs])]⟩ (view_takeE (sl := List.replicate 4 .any ++ [.int .i64 p] ++ List.replicate 6 .any ++ [.ptr 0 2 0, numsD .i64 F, .any, .int .i64 O, .int .i64 (f), .int .i64 k, .int .i64 (0)] ++ List.replicate 176 .any) (σ0 := [some (.c [.int .i64 E, chainsD cs])]) 1 (by simp [numsD, chainsD]) (by first | omega | simp) (by first | omega | (simp [numsD, chainsD]; done) | (simp [numsD, chainsD]; omega)) (by first | exact LewS.refl _ | simp [numsD, chainsD]) (by simp [BelL, Bel, numsD, chainsD]) (by simp [BelS, BelOb, BelL, Bel, numsD, chainsD])) ⟨(0), (f), ?_, rfl, rfl⟩ ?_
          rotate_left
          rintro m z ⟨i, f, hC, rfl, rfl⟩ KC hKC
          · obtain ⟨hii, hps⟩ := hC
            have hfl := below_le hps.1
            have hwi := wrap_i64 (n := (i : Int) + 1) (by omega) (by omega)
            have hwf := wrap_i64 (n := (f : Int) + 1) (by omega) (by omega)
            by_cases hlti : i < F.length
            · by_cases hef : F[i] = (f : Int)
              · repeat' first
                  | refine jw_ret (hQ _ _ (.inr rfl) ⟨5, _, _, rfl, rfl, ?_⟩)
                  | refine jw_ret (hQ _ _ (.inr rfl) ⟨_, rfl, ?_⟩)
                  | refine jw_seq_k fun K hK => ?_
                  | refine jw_block ?_
                  | (refine jw_skip ?_; try simp)
                  | (refine jw_exit ?_; try simp)
                  | (refine jw_cond rfl (fun hc => ?_) (fun hc => ?_) <;> (try simp at hc) <;> (try (exfalso; first | omega | exact absurd hc (by assumption))))
                  | (refine jw_c ?_; simp (maxSteps := 1000000) [hlti, numsD, chainsD, hef, hwi, hwf])
                  | (refine jw_draw_j mixed (by kernel_rfl) ?_; simp (maxSteps := 1000000) [hlti, numsD, chainsD, hef, hwi, hwf])
                  | (first | (apply hK; clear hK) | (clear hK; apply hK; clear hK) | (clear hK; clear hK; apply hK; clear hK) | (clear hK; clear hK; clear hK; apply hK; clear hK))
                  | exact hQ _ _ (.inl rfl) ⟨5, _, _, rfl, rfl, rfl⟩
                  | refine hQ _ _ (.inl rfl) ⟨5, _, _, rfl, rfl, ?_⟩
                  | refine hQ _ _ (.inl rfl) ⟨_, rfl, ?_⟩
                  | (refine jd_newc rfl rfl (by simp) ?_; simp (maxSteps := 1000000) [thD, thL, hlti, numsD, chainsD, hef, hwi, hwf])
                  | (refine okN_or ?_; simp (maxSteps := 1000000) [thD, thL, hlti, numsD, chainsD, hef, hwi, hwf])
                  | (refine okC_guard (fun hc => ?_) (fun hc => ?_) <;> (first | simp (maxSteps := 1000000) [hc, of_decide_eq_true hc, hlti, numsD, chainsD, hef, hwi, hwf] | simp (maxSteps := 1000000) [hc, of_decide_eq_false hc, hlti, numsD, chainsD, hef, hwi, hwf] | simp (maxSteps := 1000000) [hc, hlti, numsD, chainsD, hef, hwi, hwf]) <;> (try simp at hc) <;> (try (exfalso; first | omega | exact absurd hc (by assumption))))
                  | (refine okJ_guard (fun hc => ?_) (fun hc => ?_) <;> (first | simp (maxSteps := 1000000) [hc, of_decide_eq_true hc, hlti, numsD, chainsD, hef, hwi, hwf] | simp (maxSteps := 1000000) [hc, of_decide_eq_false hc, hlti, numsD, chainsD, hef, hwi, hwf] | simp (maxSteps := 1000000) [hc, hlti, numsD, chainsD, hef, hwi, hwf]) <;> (try simp at hc) <;> (try (exfalso; first | omega | exact absurd hc (by assumption))))
                  | (refine And.intro (by first | assumption | omega | (simp [BelL, Bel]; done) | (simp; omega)) ?_; try simp (maxSteps := 1000000) [hlti, numsD, chainsD, hef, hwi, hwf])
                  | (refine okC_or ?_; simp (maxSteps := 1000000) [hlti, numsD, chainsD, hef, hwi, hwf])
                refine hKC (F.length - (i + 1)) _ ⟨List.replicate 4 .any ++ [.int .i64 p] ++ List.replicate 6 .any ++ [.ptr 0 2 0, numsD .i64 F, .any, .int .i64 O, .int .i64 (f + 1), .int .i64 k, .int .i64 (i + 1)] ++ List.replicate 176 .any, [some (.c [.int .i64 E, chainsD cs])]⟩ (by omega) (view_takeE (sl := List.replicate 4 .any ++ [.int .i64 p] ++ List.replicate 6 .any ++ [.ptr 0 2 0, numsD .i64 F, .any, .int .i64 O, .int .i64 (f + 1), .int .i64 k, .int .i64 (i + 1)] ++ List.replicate 176 .any) (σ0 := [some (.c [.int .i64 E, chainsD cs])]) 1 (by simp [numsD, chainsD]) (by first | omega | simp) (by first | omega | (simp [numsD, chainsD]; done) | (simp [numsD, chainsD]; omega)) (by first | exact LewS.refl _ | simp [numsD, chainsD]) (by simp [BelL, Bel, numsD, chainsD]) (by simp [BelS, BelOb, BelL, Bel, numsD, chainsD])) ⟨(i + 1), (f + 1), ?_, rfl, rfl⟩
                exact ⟨by omega, pass_hit hps hlti hef⟩
              · repeat' first
                  | refine jw_ret (hQ _ _ (.inr rfl) ⟨5, _, _, rfl, rfl, ?_⟩)
                  | refine jw_ret (hQ _ _ (.inr rfl) ⟨_, rfl, ?_⟩)
                  | refine jw_seq_k fun K hK => ?_
                  | refine jw_block ?_
                  | (refine jw_skip ?_; try simp)
                  | (refine jw_exit ?_; try simp)
                  | (refine jw_cond rfl (fun hc => ?_) (fun hc => ?_) <;> (try simp at hc) <;> (try (exfalso; first | omega | exact absurd hc (by assumption))))
                  | (refine jw_c ?_; simp (maxSteps := 1000000) [hlti, numsD, chainsD, hef, hwi, hwf])
                  | (refine jw_draw_j mixed (by kernel_rfl) ?_; simp (maxSteps := 1000000) [hlti, numsD, chainsD, hef, hwi, hwf])
                  | (first | (apply hK; clear hK) | (clear hK; apply hK; clear hK) | (clear hK; clear hK; apply hK; clear hK) | (clear hK; clear hK; clear hK; apply hK; clear hK))
                  | exact hQ _ _ (.inl rfl) ⟨5, _, _, rfl, rfl, rfl⟩
                  | refine hQ _ _ (.inl rfl) ⟨5, _, _, rfl, rfl, ?_⟩
                  | refine hQ _ _ (.inl rfl) ⟨_, rfl, ?_⟩
                  | (refine jd_newc rfl rfl (by simp) ?_; simp (maxSteps := 1000000) [thD, thL, hlti, numsD, chainsD, hef, hwi, hwf])
                  | (refine okN_or ?_; simp (maxSteps := 1000000) [thD, thL, hlti, numsD, chainsD, hef, hwi, hwf])
                  | (refine okC_guard (fun hc => ?_) (fun hc => ?_) <;> (first | simp (maxSteps := 1000000) [hc, of_decide_eq_true hc, hlti, numsD, chainsD, hef, hwi, hwf] | simp (maxSteps := 1000000) [hc, of_decide_eq_false hc, hlti, numsD, chainsD, hef, hwi, hwf] | simp (maxSteps := 1000000) [hc, hlti, numsD, chainsD, hef, hwi, hwf]) <;> (try simp at hc) <;> (try (exfalso; first | omega | exact absurd hc (by assumption))))
                  | (refine okJ_guard (fun hc => ?_) (fun hc => ?_) <;> (first | simp (maxSteps := 1000000) [hc, of_decide_eq_true hc, hlti, numsD, chainsD, hef, hwi, hwf] | simp (maxSteps := 1000000) [hc, of_decide_eq_false hc, hlti, numsD, chainsD, hef, hwi, hwf] | simp (maxSteps := 1000000) [hc, hlti, numsD, chainsD, hef, hwi, hwf]) <;> (try simp at hc) <;> (try (exfalso; first | omega | exact absurd hc (by assumption))))
                  | (refine And.intro (by first | assumption | omega | (simp [BelL, Bel]; done) | (simp; omega)) ?_; try simp (maxSteps := 1000000) [hlti, numsD, chainsD, hef, hwi, hwf])
                  | (refine okC_or ?_; simp (maxSteps := 1000000) [hlti, numsD, chainsD, hef, hwi, hwf])
                refine hKC (F.length - (i + 1)) _ ⟨List.replicate 4 .any ++ [.int .i64 p] ++ List.replicate 6 .any ++ [.ptr 0 2 0, numsD .i64 F, .any, .int .i64 O, .int .i64 (f), .int .i64 k, .int .i64 (i + 1)] ++ List.replicate 176 .any, [some (.c [.int .i64 E, chainsD cs])]⟩ (by omega) (view_takeE (sl := List.replicate 4 .any ++ [.int .i64 p] ++ List.replicate 6 .any ++ [.ptr 0 2 0, numsD .i64 F, .any, .int .i64 O, .int .i64 (f), .int .i64 k, .int .i64 (i + 1)] ++ List.replicate 176 .any) (σ0 := [some (.c [.int .i64 E, chainsD cs])]) 1 (by simp [numsD, chainsD]) (by first | omega | simp) (by first | omega | (simp [numsD, chainsD]; done) | (simp [numsD, chainsD]; omega)) (by first | exact LewS.refl _ | simp [numsD, chainsD]) (by simp [BelL, Bel, numsD, chainsD]) (by simp [BelS, BelOb, BelL, Bel, numsD, chainsD])) ⟨(i + 1), (f), ?_, rfl, rfl⟩
                exact ⟨by omega, pass_miss hps hlti hef⟩
            · obtain rfl : i = F.length := by omega
              repeat' first
                | refine jw_ret (hQ _ _ (.inr rfl) ⟨5, _, _, rfl, rfl, ?_⟩)
                | refine jw_ret (hQ _ _ (.inr rfl) ⟨_, rfl, ?_⟩)
                | refine jw_seq_k fun K hK => ?_
                | refine jw_block ?_
                | (refine jw_skip ?_; try simp)
                | (refine jw_exit ?_; try simp)
                | (refine jw_cond rfl (fun hc => ?_) (fun hc => ?_) <;> (try simp at hc) <;> (try (exfalso; first | omega | exact absurd hc (by assumption))))
                | (refine jw_c ?_; simp (maxSteps := 1000000) [hlti, numsD, chainsD, hwk])
                | (refine jw_draw_j mixed (by kernel_rfl) ?_; simp (maxSteps := 1000000) [hlti, numsD, chainsD, hwk])
                | (first | (apply hK; clear hK) | (clear hK; apply hK; clear hK) | (clear hK; clear hK; apply hK; clear hK) | (clear hK; clear hK; clear hK; apply hK; clear hK))
                | exact hQ _ _ (.inl rfl) ⟨5, _, _, rfl, rfl, rfl⟩
                | refine hQ _ _ (.inl rfl) ⟨5, _, _, rfl, rfl, ?_⟩
                | refine hQ _ _ (.inl rfl) ⟨_, rfl, ?_⟩
                | (refine jd_newc rfl rfl (by simp) ?_; simp (maxSteps := 1000000) [thD, thL, hlti, numsD, chainsD, hwk])
                | (refine okN_or ?_; simp (maxSteps := 1000000) [thD, thL, hlti, numsD, chainsD, hwk])
                | (refine okC_guard (fun hc => ?_) (fun hc => ?_) <;> (first | simp (maxSteps := 1000000) [hc, of_decide_eq_true hc, hlti, numsD, chainsD, hwk] | simp (maxSteps := 1000000) [hc, of_decide_eq_false hc, hlti, numsD, chainsD, hwk] | simp (maxSteps := 1000000) [hc, hlti, numsD, chainsD, hwk]) <;> (try simp at hc) <;> (try (exfalso; first | omega | exact absurd hc (by assumption))))
                | (refine okJ_guard (fun hc => ?_) (fun hc => ?_) <;> (first | simp (maxSteps := 1000000) [hc, of_decide_eq_true hc, hlti, numsD, chainsD, hwk] | simp (maxSteps := 1000000) [hc, of_decide_eq_false hc, hlti, numsD, chainsD, hwk] | simp (maxSteps := 1000000) [hc, hlti, numsD, chainsD, hwk]) <;> (try simp at hc) <;> (try (exfalso; first | omega | exact absurd hc (by assumption))))
                | (refine And.intro (by first | assumption | omega | (simp [BelL, Bel]; done) | (simp; omega)) ?_; try simp (maxSteps := 1000000) [hlti, numsD, chainsD, hwk])
                | (refine okC_or ?_; simp (maxSteps := 1000000) [hlti, numsD, chainsD, hwk])
              refine hKB (F.length - (k + 1)) _ ⟨List.replicate 4 .any ++ [.int .i64 p] ++ List.replicate 6 .any ++ [.ptr 0 2 0, numsD .i64 F, .any, .int .i64 O, .int .i64 (f), .int .i64 (k + 1)] ++ List.replicate 177 .any, [some (.c [.int .i64 E, chainsD cs])]⟩ (by omega) (view_takeE (sl := List.replicate 4 .any ++ [.int .i64 p] ++ List.replicate 6 .any ++ [.ptr 0 2 0, numsD .i64 F, .any, .int .i64 O, .int .i64 (f), .int .i64 (k + 1)] ++ List.replicate 177 .any) (σ0 := [some (.c [.int .i64 E, chainsD cs])]) 1 (by simp [numsD, chainsD]) (by first | omega | simp) (by first | omega | (simp [numsD, chainsD]; done) | (simp [numsD, chainsD]; omega)) (by first | exact LewS.refl _ | simp [numsD, chainsD]) (by simp [BelL, Bel, numsD, chainsD]) (by simp [BelS, BelOb, BelL, Bel, numsD, chainsD])) ⟨(k + 1), (f), ?_, rfl, rfl⟩
              exact ⟨by omega, hps.1, pass_end hps⟩
          · exact ⟨by omega, pass_start hbel hfo⟩
        · obtain rfl : k = F.length := by omega
          obtain ⟨hff, hf6⟩ := free_end hbel hfo
          have hx : 0 ≤ (f : Int) ∧ (f : Int) < 6 := by omega
          have hOx := hFm O hOF
          subst hF
          have hF1k : cs.flatten.length ≤ 1000 := by omega
          have hok1 := sw_ok hok (by omega) hx hff (old := O)
          have hmem := sw_mem hnd hOF hff
          have hback := sw_back hnd (old := O) hff
          have hlen1 := sw_len hnd O f
          have hS1 := swapOk (G := []) E cs hok (by omega) O f hx hOF hff hF1k
          have hS2 := swapOk (G := []) (E + 1) (cs.map (sw O f)) hok1 (by omega) f O hOx hmem.1 hmem.2 (by omega)
          have hS3 := swapNone (G := []) E cs hok f O hOx hff hF1k
          rw [hback] at hS2
          have hcX : (cs.map (sw O f)).length = cs.length := by simp
          have hMay := mayF (G := []) (E + 1) _ hok1
          have hpl1 := fun x hx => placeOk (G := []) E cs hok x hx
          have hpl2 := fun x hx => placeOk (G := []) (E + 1) _ hok1 x hx
          rw [hcX] at hpl2
          generalize cs.map (sw O f) = X at *
          have hwE1 := wrap_i64 (n := E + 1) (by omega) (by omega)
          have hwE2 := wrap_i64 (n := E + 2) (by omega) (by omega)
          have hE2 : E + 1 + 1 = E + 2 := by omega
          repeat' first
            | refine jw_ret (hQ _ _ (.inr rfl) ⟨5, _, _, rfl, rfl, ?_⟩)
            | refine jw_ret (hQ _ _ (.inr rfl) ⟨_, rfl, ?_⟩)
            | refine jw_seq_k fun K hK => ?_
            | refine jw_block ?_
            | (refine jw_skip ?_; try simp)
            | (refine jw_exit ?_; try simp)
            | (refine jw_cond rfl (fun hc => ?_) (fun hc => ?_) <;> (try simp at hc) <;> (try (exfalso; first | omega | exact absurd hc (by assumption))))
            | (refine jw_c ?_; simp (maxSteps := 1000000) [hltk, numsD, layD, chainsD, okCell, okRef, hwE1, hwE2, hE2])
            | (refine jw_draw_j mixed (by kernel_rfl) ?_; simp (maxSteps := 1000000) [hltk, numsD, layD, chainsD, okCell, okRef, hwE1, hwE2, hE2])
            | (first | (apply hK; clear hK) | (clear hK; apply hK; clear hK) | (clear hK; clear hK; apply hK; clear hK) | (clear hK; clear hK; clear hK; apply hK; clear hK))
            | exact hQ _ _ (.inl rfl) ⟨5, _, _, rfl, rfl, rfl⟩
            | refine hQ _ _ (.inl rfl) ⟨5, _, _, rfl, rfl, ?_⟩
            | refine hQ _ _ (.inl rfl) ⟨_, rfl, ?_⟩
            | (refine jl_call (f := 13) rfl rfl rfl rfl rfl (hS1) (by simp [BelL, Bel]) ?_; rintro r rfl; simp (maxSteps := 1000000) [hltk, numsD, layD, chainsD, okCell, okRef, hwE1, hwE2, hE2])
            | (refine jd_call (f := 13) rfl rfl rfl rfl rfl (hS1) (by simp [BelL, Bel]) ?_; simp (maxSteps := 1000000) [hltk, numsD, layD, chainsD, okCell, okRef, hwE1, hwE2, hE2])
            | (refine jl_call (f := 13) rfl rfl rfl rfl rfl (hS2) (by simp [BelL, Bel]) ?_; rintro r rfl; simp (maxSteps := 1000000) [hltk, numsD, layD, chainsD, okCell, okRef, hwE1, hwE2, hE2])
            | (refine jd_call (f := 13) rfl rfl rfl rfl rfl (hS2) (by simp [BelL, Bel]) ?_; simp (maxSteps := 1000000) [hltk, numsD, layD, chainsD, okCell, okRef, hwE1, hwE2, hE2])
            | (refine jl_call (f := 13) rfl rfl rfl rfl rfl (hS3) (by simp [BelL, Bel]) ?_; rintro r rfl; simp (maxSteps := 1000000) [hltk, numsD, layD, chainsD, okCell, okRef, hwE1, hwE2, hE2])
            | (refine jd_call (f := 13) rfl rfl rfl rfl rfl (hS3) (by simp [BelL, Bel]) ?_; simp (maxSteps := 1000000) [hltk, numsD, layD, chainsD, okCell, okRef, hwE1, hwE2, hE2])
            | (refine jl_call (f := 11) rfl rfl rfl rfl rfl (hMay) (by simp [BelL, Bel]) ?_; rintro r rfl; simp (maxSteps := 1000000) [hltk, numsD, layD, chainsD, okCell, okRef, hwE1, hwE2, hE2])
            | (refine jd_call (f := 11) rfl rfl rfl rfl rfl (hMay) (by simp [BelL, Bel]) ?_; simp (maxSteps := 1000000) [hltk, numsD, layD, chainsD, okCell, okRef, hwE1, hwE2, hE2])
            | (refine jd_newc rfl rfl (by simp) ?_; simp (maxSteps := 1000000) [thD, thL, hltk, numsD, layD, chainsD, okCell, okRef, hwE1, hwE2, hE2])
            | (refine okN_or ?_; simp (maxSteps := 1000000) [thD, thL, hltk, numsD, layD, chainsD, okCell, okRef, hwE1, hwE2, hE2])
            | (refine okC_guard (fun hc => ?_) (fun hc => ?_) <;> (first | simp (maxSteps := 1000000) [hc, of_decide_eq_true hc, hltk, numsD, layD, chainsD, okCell, okRef, hwE1, hwE2, hE2] | simp (maxSteps := 1000000) [hc, of_decide_eq_false hc, hltk, numsD, layD, chainsD, okCell, okRef, hwE1, hwE2, hE2] | simp (maxSteps := 1000000) [hc, hltk, numsD, layD, chainsD, okCell, okRef, hwE1, hwE2, hE2]) <;> (try simp at hc) <;> (try (exfalso; first | omega | exact absurd hc (by assumption))))
            | (refine okJ_guard (fun hc => ?_) (fun hc => ?_) <;> (first | simp (maxSteps := 1000000) [hc, of_decide_eq_true hc, hltk, numsD, layD, chainsD, okCell, okRef, hwE1, hwE2, hE2] | simp (maxSteps := 1000000) [hc, of_decide_eq_false hc, hltk, numsD, layD, chainsD, okCell, okRef, hwE1, hwE2, hE2] | simp (maxSteps := 1000000) [hc, hltk, numsD, layD, chainsD, okCell, okRef, hwE1, hwE2, hE2]) <;> (try simp at hc) <;> (try (exfalso; first | omega | exact absurd hc (by assumption))))
            | (refine And.intro (by first | assumption | omega | (simp [BelL, Bel]; done) | (simp; omega)) ?_; try simp (maxSteps := 1000000) [hltk, numsD, layD, chainsD, okCell, okRef, hwE1, hwE2, hE2])
            | (refine okC_or ?_; simp (maxSteps := 1000000) [hltk, numsD, layD, chainsD, okCell, okRef, hwE1, hwE2, hE2])
          refine jw_loop_v (fun m z => ∃ (i : Nat), (i ≤ cs.length) ∧ cs.length - i = m ∧ z = ⟨List.replicate 4 .any ++ [.int .i64 p] ++ List.replicate 6 .any ++ [.ptr 0 2 0] ++ List.replicate 6 .any ++ [.ptr 1 2 0, .any, .ptr 2 2 0, .any, .any, .any, .int .i64 i] ++ List.replicate 169 .any, [some (.c [.int .i64 E, chainsD cs]), some (.c [.int .i64 (E + 1), chainsD X]), some (.c [.int .i64 (E + 2), chainsD cs])]⟩) ⟨List.replicate 4 .any ++ [.int .i64 p] ++ List.replicate 6 .any ++ [.ptr 0 2 0] ++ List.replicate 6 .any ++ [.ptr 1 2 0, .any, .ptr 2 2 0, .any, .any, .any, .int .i64 (0)] ++ List.replicate 169 .any, [some (.c [.int .i64 E, chainsD cs]), some (.c [.int .i64 (E + 1), chainsD X]), some (.c [.int .i64 (E + 2), chainsD cs])]⟩ (view_takeE (sl := List.replicate 4 .any ++ [.int .i64 p] ++ List.replicate 6 .any ++ [.ptr 0 2 0] ++ List.replicate 6 .any ++ [.ptr 1 2 0, .any, .ptr 2 2 0, .any, .any, .any, .int .i64 (0)] ++ List.replicate 169 .any) (σ0 := [some (.c [.int .i64 E, chainsD cs]), some (.c [.int .i64 (E + 1), chainsD X]), some (.c [.int .i64 (E + 2), chainsD cs])]) 3 (by simp [chainsD]) (by first | omega | simp) (by first | omega | (simp [chainsD]; done) | (simp [chainsD]; omega)) (by first | exact LewS.refl _ | simp [chainsD]) (by simp [BelL, Bel, chainsD]) (by simp [BelS, BelOb, BelL, Bel, chainsD])) ⟨(0), ?_, rfl, rfl⟩ ?_
          rotate_left
          rintro m z ⟨i, hD, rfl, rfl⟩ KD hKD
          · have hw := wrap_i64 (n := (i : Int) + 1) (by omega) (by omega)
            by_cases hlt : i < cs.length
            · have hci := hc3 _ (List.getElem_mem hlt)
              have hsm := sameIntsT (G := []) cs[i] (by omega)
              repeat' first
                | refine jw_ret (hQ _ _ (.inr rfl) ⟨5, _, _, rfl, rfl, ?_⟩)
                | refine jw_ret (hQ _ _ (.inr rfl) ⟨_, rfl, ?_⟩)
                | refine jw_seq_k fun K hK => ?_
                | refine jw_block ?_
                | (refine jw_skip ?_; try simp)
                | (refine jw_exit ?_; try simp)
                | (refine jw_cond rfl (fun hc => ?_) (fun hc => ?_) <;> (try simp at hc) <;> (try (exfalso; first | omega | exact absurd hc (by assumption))))
                | (refine jw_c ?_; simp (maxSteps := 1000000) [hlt, chainsD, hw])
                | (refine jw_draw_j mixed (by kernel_rfl) ?_; simp (maxSteps := 1000000) [hlt, chainsD, hw])
                | (first | (apply hK; clear hK) | (clear hK; apply hK; clear hK) | (clear hK; clear hK; apply hK; clear hK) | (clear hK; clear hK; clear hK; apply hK; clear hK))
                | exact hQ _ _ (.inl rfl) ⟨5, _, _, rfl, rfl, rfl⟩
                | refine hQ _ _ (.inl rfl) ⟨5, _, _, rfl, rfl, ?_⟩
                | refine hQ _ _ (.inl rfl) ⟨_, rfl, ?_⟩
                | (refine jl_call (f := 14) rfl rfl rfl rfl rfl (hsm) (by simp [BelL, Bel]) ?_; rintro r rfl; simp (maxSteps := 1000000) [hlt, chainsD, hw])
                | (refine jd_call (f := 14) rfl rfl rfl rfl rfl (hsm) (by simp [BelL, Bel]) ?_; simp (maxSteps := 1000000) [hlt, chainsD, hw])
                | (refine jd_newc rfl rfl (by simp) ?_; simp (maxSteps := 1000000) [thD, thL, hlt, chainsD, hw])
                | (refine okN_or ?_; simp (maxSteps := 1000000) [thD, thL, hlt, chainsD, hw])
                | (refine okC_guard (fun hc => ?_) (fun hc => ?_) <;> (first | simp (maxSteps := 1000000) [hc, of_decide_eq_true hc, hlt, chainsD, hw] | simp (maxSteps := 1000000) [hc, of_decide_eq_false hc, hlt, chainsD, hw] | simp (maxSteps := 1000000) [hc, hlt, chainsD, hw]) <;> (try simp at hc) <;> (try (exfalso; first | omega | exact absurd hc (by assumption))))
                | (refine okJ_guard (fun hc => ?_) (fun hc => ?_) <;> (first | simp (maxSteps := 1000000) [hc, of_decide_eq_true hc, hlt, chainsD, hw] | simp (maxSteps := 1000000) [hc, of_decide_eq_false hc, hlt, chainsD, hw] | simp (maxSteps := 1000000) [hc, hlt, chainsD, hw]) <;> (try simp at hc) <;> (try (exfalso; first | omega | exact absurd hc (by assumption))))
                | (refine And.intro (by first | assumption | omega | (simp [BelL, Bel]; done) | (simp; omega)) ?_; try simp (maxSteps := 1000000) [hlt, chainsD, hw])
                | (refine okC_or ?_; simp (maxSteps := 1000000) [hlt, chainsD, hw])
              refine hKD (cs.length - (i + 1)) _ ⟨List.replicate 4 .any ++ [.int .i64 p] ++ List.replicate 6 .any ++ [.ptr 0 2 0] ++ List.replicate 6 .any ++ [.ptr 1 2 0, .any, .ptr 2 2 0, .any, .any, .any, .int .i64 (i + 1)] ++ List.replicate 169 .any, [some (.c [.int .i64 E, chainsD cs]), some (.c [.int .i64 (E + 1), chainsD X]), some (.c [.int .i64 (E + 2), chainsD cs])]⟩ (by omega) (view_takeE (sl := List.replicate 4 .any ++ [.int .i64 p] ++ List.replicate 6 .any ++ [.ptr 0 2 0] ++ List.replicate 6 .any ++ [.ptr 1 2 0, .any, .ptr 2 2 0, .any, .any, .any, .int .i64 (i + 1)] ++ List.replicate 169 .any) (σ0 := [some (.c [.int .i64 E, chainsD cs]), some (.c [.int .i64 (E + 1), chainsD X]), some (.c [.int .i64 (E + 2), chainsD cs])]) 3 (by simp [chainsD]) (by first | omega | simp) (by first | omega | (simp [chainsD]; done) | (simp [chainsD]; omega)) (by first | exact LewS.refl _ | simp [chainsD]) (by simp [BelL, Bel, chainsD]) (by simp [BelS, BelOb, BelL, Bel, chainsD])) ⟨(i + 1), ?_, rfl, rfl⟩
              omega
            · have hw1 := wrap_i64 (n := (cs.length : Int) * 64) (by omega) (by omega)
              have p0 := Int.emod_nonneg p (show (cs.length : Int) * 64 ≠ 0 by omega)
              have p1 := Int.emod_lt_of_pos p (show (0 : Int) < (cs.length : Int) * 64 by omega)
              have hPp := pickedG (G := []) p ((cs.length : Int) * 64) (by omega) (by omega)
              generalize p % ((cs.length : Int) * 64) = z at *
              repeat' first
                | refine jw_seq_k fun K hK => ?_
                | refine jw_block ?_
                | (refine jw_skip ?_; try simp)
                | (refine jw_exit ?_; try simp)
                | (refine jw_cond rfl (fun hc => ?_) (fun hc => ?_) <;> (try simp at hc) <;> (try (exfalso; first | omega | exact absurd hc (by assumption))))
                | (refine jw_c ?_; simp (maxSteps := 1000000) [hlt, chainsD, layD, hw1])
                | (refine jw_draw_j mixed (by kernel_rfl) ?_; simp (maxSteps := 1000000) [hlt, chainsD, layD, hw1])
                | (first | (apply hK; clear hK) | (clear hK; apply hK; clear hK) | (clear hK; clear hK; apply hK; clear hK) | (clear hK; clear hK; clear hK; apply hK; clear hK))
                | (refine jl_call (f := 8) rfl rfl rfl rfl rfl (hPp) (by simp [BelL, Bel]) ?_; rintro r rfl; simp (maxSteps := 1000000) [hlt, chainsD, layD, hw1])
                | (refine jd_call (f := 8) rfl rfl rfl rfl rfl (hPp) (by simp [BelL, Bel]) ?_; simp (maxSteps := 1000000) [hlt, chainsD, layD, hw1])
                | (refine jl_call (f := 9) rfl rfl rfl rfl rfl (hpl1 z (by omega)) (by simp [BelL, Bel]) ?_; rintro r rfl; simp (maxSteps := 1000000) [hlt, chainsD, layD, hw1])
                | (refine jd_call (f := 9) rfl rfl rfl rfl rfl (hpl1 z (by omega)) (by simp [BelL, Bel]) ?_; simp (maxSteps := 1000000) [hlt, chainsD, layD, hw1])
                | (refine jl_call (f := 9) rfl rfl rfl rfl rfl (hpl2 z (by omega)) (by simp [BelL, Bel]) ?_; rintro r rfl; simp (maxSteps := 1000000) [hlt, chainsD, layD, hw1])
                | (refine jd_call (f := 9) rfl rfl rfl rfl rfl (hpl2 z (by omega)) (by simp [BelL, Bel]) ?_; simp (maxSteps := 1000000) [hlt, chainsD, layD, hw1])
                | (refine jw_ret (hQ _ _ (.inr rfl) (ret_ok 0 ?_ (by first | omega | simp))); simp (maxSteps := 1000000) [okRet, BelL, Bel, BelS, BelOb, hlt, chainsD, layD, hw1])
                | (refine hQ _ _ (.inl rfl) (ret_ok 0 ?_ (by first | omega | simp)); simp (maxSteps := 1000000) [okRet, BelL, Bel, BelS, BelOb, hlt, chainsD, layD, hw1])
                | (refine jd_newc rfl rfl (by simp) ?_; simp (maxSteps := 1000000) [thD, thL, hlt, chainsD, layD, hw1])
                | (refine okN_or ?_; simp (maxSteps := 1000000) [thD, thL, hlt, chainsD, layD, hw1])
                | (refine okC_guard (fun hc => ?_) (fun hc => ?_) <;> (first | simp (maxSteps := 1000000) [hc, of_decide_eq_true hc, hlt, chainsD, layD, hw1] | simp (maxSteps := 1000000) [hc, of_decide_eq_false hc, hlt, chainsD, layD, hw1] | simp (maxSteps := 1000000) [hc, hlt, chainsD, layD, hw1]) <;> (try simp at hc) <;> (try (exfalso; first | omega | exact absurd hc (by assumption))))
                | (refine okJ_guard (fun hc => ?_) (fun hc => ?_) <;> (first | simp (maxSteps := 1000000) [hc, of_decide_eq_true hc, hlt, chainsD, layD, hw1] | simp (maxSteps := 1000000) [hc, of_decide_eq_false hc, hlt, chainsD, layD, hw1] | simp (maxSteps := 1000000) [hc, hlt, chainsD, layD, hw1]) <;> (try simp at hc) <;> (try (exfalso; first | omega | exact absurd hc (by assumption))))
                | (refine And.intro (by first | assumption | omega | (simp [BelL, Bel]; done) | (simp; omega)) ?_; try simp (maxSteps := 1000000) [hlt, chainsD, layD, hw1])
                | (refine okC_or ?_; simp (maxSteps := 1000000) [hlt, chainsD, layD, hw1])
          · omega
      · exact ⟨by omega, fun v hv => by omega, .inr (by omega)⟩
  · exact ⟨by omega, rfl⟩
end Go.Proofs.Ytaoohkfocajdcaa
