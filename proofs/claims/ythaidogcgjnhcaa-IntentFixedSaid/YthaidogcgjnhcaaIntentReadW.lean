/- intent.Decode: writes, as often as told. -/
import Derived.Test.YthaidogcgjnhcaaIntentRead
set_option linter.unusedVariables false
set_option linter.unusedSimpArgs false
set_option maxRecDepth 20000
set_option maxHeartbeats 20000000
namespace Go.Proofs.Ythaidogcgjnhcaa
open Go Go.Vm Go.Proofs

def flagGone : List Int → Bool
  | [x] => decide (x = 1)
  | _ => false
def flagOdd : List Int → Bool
  | [x] => decide (1 < x)
  | _ => false
/-- A write; the tape behind it; what its flag was. -/
def writeR (t : Tp) : Wr × Tp × Bool :=
  (⟨(textR t).1, (textR (takeR (textR t).2 1).2).1, flagGone (takeR (textR t).2 1).1⟩, (textR (takeR (textR t).2 1).2).2, flagOdd (takeR (textR t).2 1).1)
theorem readWriteF {G : Globals} (t : Tp) (odd : Bool) (hb : Bytes t.b) (hl : t.b.length ≤ 1000000) :
    FC Try.prog G 24 [.ptr 1 1 0, .ptr 2 1 0] [some (.c (tpC t)), some (.c [.ptr 0 2 0]), some (.c [.bool odd])]
      (fun d σ' => d = .agg (wrC (writeR t).1) ∧ σ' = [some (.c (tpC (writeR t).2.1)), some (.c [.ptr 0 2 0]), some (.c [.bool (odd || (writeR t).2.2)])]) := by
  have h1 := readTextF (G := G) t hb hl
  have hl1 := text_len t
  have h2 := takeF (G := G) (textR t).2 1 (by omega)
  have hl2 := take_len (textR t).2 1
  have hb2 := take_bytes (text_bytes hb).2 1
  have h3 := readTextF (G := G) (takeR (textR t).2 1).2 hb2.2 (by omega)
  have hr1 := fun r => renL_flat r (tpC_bel 0 (textR t).2)
  have hr2 := fun r => renL_flat r (tpC_bel 0 (takeR (textR t).2 1).2)
  have hr3 := fun r => renL_flat r (tpC_bel 0 (textR (takeR (textR t).2 1).2).2)
  have hfl : (takeR (textR t).2 1).1 = [] ∨ ∃ x, (takeR (textR t).2 1).1 = [x] := by
    have : (takeR (textR t).2 1).1.length ≤ 1 := by
      unfold takeR; split
      · simp
      · simp; omega
    match (takeR (textR t).2 1).1, this with
    | [], _ => exact .inl rfl
    | [x], _ => exact .inr ⟨x, rfl⟩
  unfold writeR
  refine fc_to ?_
  refine fc_enter_v Try.func24 rfl rfl fun Q hQ => ?_
  dsimp only at hQ
  generalize (takeR (textR t).2 1).1 = F at *
  generalize (takeR (textR t).2 1).2 = u at *
  generalize (textR u).1 = val at *
  generalize (textR u).2 = v at *
  generalize (textR t).1 = key at *
  generalize (textR t).2 = w at *
  rcases hfl with rfl | ⟨x, rfl⟩
  · have e1 : flagGone [] = false := rfl
    have e2 : flagOdd [] = false := rfl
    rw [e1, e2, Bool.or_false] at hQ
    repeat' first
      | refine jw_ret (hQ _ _ (.inr rfl) ⟨5, _, _, rfl, rfl, ?_⟩)
      | refine jw_ret (hQ _ _ (.inr rfl) ⟨_, rfl, ?_⟩)
      | refine jw_seq_k fun K hK => ?_
      | refine jw_block ?_
      | (refine jw_skip ?_; try simp)
      | (refine jw_exit ?_; try simp)
      | (refine jw_cond rfl (fun hc => ?_) (fun hc => ?_) <;> (try simp at hc) <;> (try (exfalso; first | omega | exact absurd hc (by assumption))))
      | (refine jw_c ?_; simp (maxSteps := 1000000) [Try.f24, hr1, hr2, hr3, numsD, okCell])
      | (refine jw_draw_j mixed (by kernel_rfl) ?_; simp (maxSteps := 1000000) [Try.f24, hr1, hr2, hr3, numsD, okCell])
      | (first | (apply hK; clear hK) | (clear hK; apply hK; clear hK) | (clear hK; clear hK; apply hK; clear hK) | (clear hK; clear hK; clear hK; apply hK; clear hK))
      | exact hQ _ _ (.inl rfl) ⟨5, _, _, rfl, rfl, rfl⟩
      | refine hQ _ _ (.inl rfl) ⟨5, _, _, rfl, rfl, ?_⟩
      | refine hQ _ _ (.inl rfl) ⟨_, rfl, ?_⟩
      | (refine jl_fr (f := 22) 0 rfl rfl rfl rfl rfl (h1) (by simp [renL, renD, renD_flat, renL_flat, Try.f24, hr1, hr2, hr3, numsD, okCell]) rfl (by simp [BelL, Bel]) (by simp [BelOb, BelL, Bel]) ?_; rintro d0 x g ⟨rfl, hg⟩; obtain ⟨rfl, rfl⟩ := List.cons.inj hg; simp (maxSteps := 1000000) [renOb, renL, renD, renD_flat, renL_flat, Try.f24, hr1, hr2, hr3, numsD, okCell])
      | (refine jl_fr (f := 25) 0 rfl rfl rfl rfl rfl (h2) (by simp [renL, renD, renD_flat, renL_flat, Try.f24, hr1, hr2, hr3, numsD, okCell]) rfl (by simp [BelL, Bel]) (by simp [BelOb, BelL, Bel]) ?_; rintro d0 x g ⟨rfl, hg⟩; obtain ⟨rfl, rfl⟩ := List.cons.inj hg; simp (maxSteps := 1000000) [renOb, renL, renD, renD_flat, renL_flat, Try.f24, hr1, hr2, hr3, numsD, okCell])
      | (refine jd_newc rfl rfl (by simp) ?_; simp (maxSteps := 1000000) [thD, thL, Try.f24, hr1, hr2, hr3, numsD, okCell])
      | (refine okN_or ?_; simp (maxSteps := 1000000) [thD, thL, Try.f24, hr1, hr2, hr3, numsD, okCell])
      | (refine okC_guard (fun hc => ?_) (fun hc => ?_) <;> (first | simp (maxSteps := 1000000) [hc, of_decide_eq_true hc, Try.f24, hr1, hr2, hr3, numsD, okCell] | simp (maxSteps := 1000000) [hc, of_decide_eq_false hc, Try.f24, hr1, hr2, hr3, numsD, okCell] | simp (maxSteps := 1000000) [hc, Try.f24, hr1, hr2, hr3, numsD, okCell]) <;> (try simp at hc) <;> (try (exfalso; first | omega | exact absurd hc (by assumption))))
      | (refine okJ_guard (fun hc => ?_) (fun hc => ?_) <;> (first | simp (maxSteps := 1000000) [hc, of_decide_eq_true hc, Try.f24, hr1, hr2, hr3, numsD, okCell] | simp (maxSteps := 1000000) [hc, of_decide_eq_false hc, Try.f24, hr1, hr2, hr3, numsD, okCell] | simp (maxSteps := 1000000) [hc, Try.f24, hr1, hr2, hr3, numsD, okCell]) <;> (try simp at hc) <;> (try (exfalso; first | omega | exact absurd hc (by assumption))))
      | (refine And.intro (by first | assumption | omega | (simp [BelL, Bel]; done) | (simp; omega)) ?_; try simp (maxSteps := 1000000) [Try.f24, hr1, hr2, hr3, numsD, okCell])
      | (refine okC_or ?_; simp (maxSteps := 1000000) [Try.f24, hr1, hr2, hr3, numsD, okCell])
    repeat' first
      | refine jw_seq_k fun K hK => ?_
      | refine jw_block ?_
      | (refine jw_skip ?_; try simp)
      | (refine jw_exit ?_; try simp)
      | (refine jw_cond rfl (fun hc => ?_) (fun hc => ?_) <;> (try simp at hc) <;> (try (exfalso; first | omega | exact absurd hc (by assumption))))
      | (refine jw_c ?_; simp (maxSteps := 1000000) [hr1, hr2, hr3, numsD, okCell])
      | (refine jw_draw_j mixed (by kernel_rfl) ?_; simp (maxSteps := 1000000) [hr1, hr2, hr3, numsD, okCell])
      | (first | (apply hK; clear hK) | (clear hK; apply hK; clear hK) | (clear hK; clear hK; apply hK; clear hK) | (clear hK; clear hK; clear hK; apply hK; clear hK))
      | refine jw_unroll 1 ?_
      | refine ul_k fun K hK => ?_
      | (refine jl_fr (f := 22) 0 rfl rfl rfl rfl rfl (h3) (by simp [renL, renD, renD_flat, renL_flat, hr1, hr2, hr3, numsD, okCell]) rfl (by simp [BelL, Bel]) (by simp [BelOb, BelL, Bel]) ?_; rintro d0 x g ⟨rfl, hg⟩; obtain ⟨rfl, rfl⟩ := List.cons.inj hg; simp (maxSteps := 1000000) [renOb, renL, renD, renD_flat, renL_flat, hr1, hr2, hr3, numsD, okCell])
      | (refine jw_ret (hQ _ _ (.inr rfl) (ret_ok 3 ?_ (by first | omega | simp))); simp (maxSteps := 1000000) [okRet, BelL, Bel, BelS, BelOb, hr1, hr2, hr3, numsD, okCell])
      | (refine hQ _ _ (.inl rfl) (ret_ok 3 ?_ (by first | omega | simp)); simp (maxSteps := 1000000) [okRet, BelL, Bel, BelS, BelOb, hr1, hr2, hr3, numsD, okCell])
      | (refine jd_newc rfl rfl (by simp) ?_; simp (maxSteps := 1000000) [thD, thL, hr1, hr2, hr3, numsD, okCell])
      | (refine okN_or ?_; simp (maxSteps := 1000000) [thD, thL, hr1, hr2, hr3, numsD, okCell])
      | (refine okC_guard (fun hc => ?_) (fun hc => ?_) <;> (first | simp (maxSteps := 1000000) [hc, of_decide_eq_true hc, hr1, hr2, hr3, numsD, okCell] | simp (maxSteps := 1000000) [hc, of_decide_eq_false hc, hr1, hr2, hr3, numsD, okCell] | simp (maxSteps := 1000000) [hc, hr1, hr2, hr3, numsD, okCell]) <;> (try simp at hc) <;> (try (exfalso; first | omega | exact absurd hc (by assumption))))
      | (refine okJ_guard (fun hc => ?_) (fun hc => ?_) <;> (first | simp (maxSteps := 1000000) [hc, of_decide_eq_true hc, hr1, hr2, hr3, numsD, okCell] | simp (maxSteps := 1000000) [hc, of_decide_eq_false hc, hr1, hr2, hr3, numsD, okCell] | simp (maxSteps := 1000000) [hc, hr1, hr2, hr3, numsD, okCell]) <;> (try simp at hc) <;> (try (exfalso; first | omega | exact absurd hc (by assumption))))
      | (refine And.intro (by first | assumption | omega | (simp [BelL, Bel]; done) | (simp; omega)) ?_; try simp (maxSteps := 1000000) [hr1, hr2, hr3, numsD, okCell])
      | (refine okC_or ?_; simp (maxSteps := 1000000) [hr1, hr2, hr3, numsD, okCell])
    all_goals exact LewL.refl _
  · repeat' first
      | refine jw_ret (hQ _ _ (.inr rfl) ⟨5, _, _, rfl, rfl, ?_⟩)
      | refine jw_ret (hQ _ _ (.inr rfl) ⟨_, rfl, ?_⟩)
      | refine jw_seq_k fun K hK => ?_
      | refine jw_block ?_
      | (refine jw_skip ?_; try simp)
      | (refine jw_exit ?_; try simp)
      | (refine jw_cond rfl (fun hc => ?_) (fun hc => ?_) <;> (try simp at hc) <;> (try (exfalso; first | omega | exact absurd hc (by assumption))))
      | (refine jw_c ?_; simp (maxSteps := 1000000) [Try.f24, hr1, hr2, hr3, numsD, okCell])
      | (refine jw_draw_j mixed (by kernel_rfl) ?_; simp (maxSteps := 1000000) [Try.f24, hr1, hr2, hr3, numsD, okCell])
      | (first | (apply hK; clear hK) | (clear hK; apply hK; clear hK) | (clear hK; clear hK; apply hK; clear hK) | (clear hK; clear hK; clear hK; apply hK; clear hK))
      | exact hQ _ _ (.inl rfl) ⟨5, _, _, rfl, rfl, rfl⟩
      | refine hQ _ _ (.inl rfl) ⟨5, _, _, rfl, rfl, ?_⟩
      | refine hQ _ _ (.inl rfl) ⟨_, rfl, ?_⟩
      | (refine jl_fr (f := 22) 0 rfl rfl rfl rfl rfl (h1) (by simp [renL, renD, renD_flat, renL_flat, Try.f24, hr1, hr2, hr3, numsD, okCell]) rfl (by simp [BelL, Bel]) (by simp [BelOb, BelL, Bel]) ?_; rintro d0 x g ⟨rfl, hg⟩; obtain ⟨rfl, rfl⟩ := List.cons.inj hg; simp (maxSteps := 1000000) [renOb, renL, renD, renD_flat, renL_flat, Try.f24, hr1, hr2, hr3, numsD, okCell])
      | (refine jl_fr (f := 25) 0 rfl rfl rfl rfl rfl (h2) (by simp [renL, renD, renD_flat, renL_flat, Try.f24, hr1, hr2, hr3, numsD, okCell]) rfl (by simp [BelL, Bel]) (by simp [BelOb, BelL, Bel]) ?_; rintro d0 x g ⟨rfl, hg⟩; obtain ⟨rfl, rfl⟩ := List.cons.inj hg; simp (maxSteps := 1000000) [renOb, renL, renD, renD_flat, renL_flat, Try.f24, hr1, hr2, hr3, numsD, okCell])
      | (refine jd_newc rfl rfl (by simp) ?_; simp (maxSteps := 1000000) [thD, thL, Try.f24, hr1, hr2, hr3, numsD, okCell])
      | (refine okN_or ?_; simp (maxSteps := 1000000) [thD, thL, Try.f24, hr1, hr2, hr3, numsD, okCell])
      | (refine okC_guard (fun hc => ?_) (fun hc => ?_) <;> (first | simp (maxSteps := 1000000) [hc, of_decide_eq_true hc, Try.f24, hr1, hr2, hr3, numsD, okCell] | simp (maxSteps := 1000000) [hc, of_decide_eq_false hc, Try.f24, hr1, hr2, hr3, numsD, okCell] | simp (maxSteps := 1000000) [hc, Try.f24, hr1, hr2, hr3, numsD, okCell]) <;> (try simp at hc) <;> (try (exfalso; first | omega | exact absurd hc (by assumption))))
      | (refine okJ_guard (fun hc => ?_) (fun hc => ?_) <;> (first | simp (maxSteps := 1000000) [hc, of_decide_eq_true hc, Try.f24, hr1, hr2, hr3, numsD, okCell] | simp (maxSteps := 1000000) [hc, of_decide_eq_false hc, Try.f24, hr1, hr2, hr3, numsD, okCell] | simp (maxSteps := 1000000) [hc, Try.f24, hr1, hr2, hr3, numsD, okCell]) <;> (try simp at hc) <;> (try (exfalso; first | omega | exact absurd hc (by assumption))))
      | (refine And.intro (by first | assumption | omega | (simp [BelL, Bel]; done) | (simp; omega)) ?_; try simp (maxSteps := 1000000) [Try.f24, hr1, hr2, hr3, numsD, okCell])
      | (refine okC_or ?_; simp (maxSteps := 1000000) [Try.f24, hr1, hr2, hr3, numsD, okCell])
    have e1 : flagGone [x] = decide (x = 1) := rfl
    have e2 : flagOdd [x] = decide (1 < x) := rfl
    rw [e1, e2] at hQ
    cases odd with
    | true =>
      repeat' first
        | refine jw_seq_k fun K hK => ?_
        | refine jw_block ?_
        | (refine jw_skip ?_; try simp)
        | (refine jw_exit ?_; try simp)
        | (refine jw_cond rfl (fun hc => ?_) (fun hc => ?_) <;> (try simp at hc) <;> (try (exfalso; first | omega | exact absurd hc (by assumption))))
        | (refine jw_c ?_; simp (maxSteps := 1000000) [hr1, hr2, hr3, numsD, okCell])
        | (refine jw_draw_j mixed (by kernel_rfl) ?_; simp (maxSteps := 1000000) [hr1, hr2, hr3, numsD, okCell])
        | (first | (apply hK; clear hK) | (clear hK; apply hK; clear hK) | (clear hK; clear hK; apply hK; clear hK) | (clear hK; clear hK; clear hK; apply hK; clear hK))
        | refine jw_unroll 2 ?_
        | refine ul_k fun K hK => ?_
        | (refine jl_fr (f := 22) 0 rfl rfl rfl rfl rfl (h3) (by simp [renL, renD, renD_flat, renL_flat, hr1, hr2, hr3, numsD, okCell]) rfl (by simp [BelL, Bel]) (by simp [BelOb, BelL, Bel]) ?_; rintro d0 x g ⟨rfl, hg⟩; obtain ⟨rfl, rfl⟩ := List.cons.inj hg; simp (maxSteps := 1000000) [renOb, renL, renD, renD_flat, renL_flat, hr1, hr2, hr3, numsD, okCell])
        | (refine jw_ret (hQ _ _ (.inr rfl) (ret_ok 3 ?_ (by first | omega | simp))); simp (maxSteps := 1000000) [okRet, BelL, Bel, BelS, BelOb, hr1, hr2, hr3, numsD, okCell])
        | (refine hQ _ _ (.inl rfl) (ret_ok 3 ?_ (by first | omega | simp)); simp (maxSteps := 1000000) [okRet, BelL, Bel, BelS, BelOb, hr1, hr2, hr3, numsD, okCell])
        | (refine jd_newc rfl rfl (by simp) ?_; simp (maxSteps := 1000000) [thD, thL, hr1, hr2, hr3, numsD, okCell])
        | (refine okN_or ?_; simp (maxSteps := 1000000) [thD, thL, hr1, hr2, hr3, numsD, okCell])
        | (refine okC_guard (fun hc => ?_) (fun hc => ?_) <;> (first | simp (maxSteps := 1000000) [hc, of_decide_eq_true hc, hr1, hr2, hr3, numsD, okCell] | simp (maxSteps := 1000000) [hc, of_decide_eq_false hc, hr1, hr2, hr3, numsD, okCell] | simp (maxSteps := 1000000) [hc, hr1, hr2, hr3, numsD, okCell]) <;> (try simp at hc) <;> (try (exfalso; first | omega | exact absurd hc (by assumption))))
        | (refine okJ_guard (fun hc => ?_) (fun hc => ?_) <;> (first | simp (maxSteps := 1000000) [hc, of_decide_eq_true hc, hr1, hr2, hr3, numsD, okCell] | simp (maxSteps := 1000000) [hc, of_decide_eq_false hc, hr1, hr2, hr3, numsD, okCell] | simp (maxSteps := 1000000) [hc, hr1, hr2, hr3, numsD, okCell]) <;> (try simp at hc) <;> (try (exfalso; first | omega | exact absurd hc (by assumption))))
        | (refine And.intro (by first | assumption | omega | (simp [BelL, Bel]; done) | (simp; omega)) ?_; try simp (maxSteps := 1000000) [hr1, hr2, hr3, numsD, okCell])
        | (refine okC_or ?_; simp (maxSteps := 1000000) [hr1, hr2, hr3, numsD, okCell])
      all_goals exact LewL.refl _
    | false =>
      repeat' first
        | refine jw_seq_k fun K hK => ?_
        | refine jw_block ?_
        | (refine jw_skip ?_; try simp)
        | (refine jw_exit ?_; try simp)
        | (refine jw_cond rfl (fun hc => ?_) (fun hc => ?_) <;> (try simp at hc) <;> (try (exfalso; first | omega | exact absurd hc (by assumption))))
        | (refine jw_c ?_; simp (maxSteps := 1000000) [hr1, hr2, hr3, numsD, okCell])
        | (refine jw_draw_j mixed (by kernel_rfl) ?_; simp (maxSteps := 1000000) [hr1, hr2, hr3, numsD, okCell])
        | (first | (apply hK; clear hK) | (clear hK; apply hK; clear hK) | (clear hK; clear hK; apply hK; clear hK) | (clear hK; clear hK; clear hK; apply hK; clear hK))
        | refine jw_unroll 2 ?_
        | refine ul_k fun K hK => ?_
        | (refine jl_fr (f := 22) 0 rfl rfl rfl rfl rfl (h3) (by simp [renL, renD, renD_flat, renL_flat, hr1, hr2, hr3, numsD, okCell]) rfl (by simp [BelL, Bel]) (by simp [BelOb, BelL, Bel]) ?_; rintro d0 x g ⟨rfl, hg⟩; obtain ⟨rfl, rfl⟩ := List.cons.inj hg; simp (maxSteps := 1000000) [renOb, renL, renD, renD_flat, renL_flat, hr1, hr2, hr3, numsD, okCell])
        | (refine jw_ret (hQ _ _ (.inr rfl) (ret_ok 3 ?_ (by first | omega | simp))); simp (maxSteps := 1000000) [okRet, BelL, Bel, BelS, BelOb, hr1, hr2, hr3, numsD, okCell])
        | (refine hQ _ _ (.inl rfl) (ret_ok 3 ?_ (by first | omega | simp)); simp (maxSteps := 1000000) [okRet, BelL, Bel, BelS, BelOb, hr1, hr2, hr3, numsD, okCell])
        | (refine jd_newc rfl rfl (by simp) ?_; simp (maxSteps := 1000000) [thD, thL, hr1, hr2, hr3, numsD, okCell])
        | (refine okN_or ?_; simp (maxSteps := 1000000) [thD, thL, hr1, hr2, hr3, numsD, okCell])
        | (refine okC_guard (fun hc => ?_) (fun hc => ?_) <;> (first | simp (maxSteps := 1000000) [hc, of_decide_eq_true hc, hr1, hr2, hr3, numsD, okCell] | simp (maxSteps := 1000000) [hc, of_decide_eq_false hc, hr1, hr2, hr3, numsD, okCell] | simp (maxSteps := 1000000) [hc, hr1, hr2, hr3, numsD, okCell]) <;> (try simp at hc) <;> (try (exfalso; first | omega | exact absurd hc (by assumption))))
        | (refine okJ_guard (fun hc => ?_) (fun hc => ?_) <;> (first | simp (maxSteps := 1000000) [hc, of_decide_eq_true hc, hr1, hr2, hr3, numsD, okCell] | simp (maxSteps := 1000000) [hc, of_decide_eq_false hc, hr1, hr2, hr3, numsD, okCell] | simp (maxSteps := 1000000) [hc, hr1, hr2, hr3, numsD, okCell]) <;> (try simp at hc) <;> (try (exfalso; first | omega | exact absurd hc (by assumption))))
        | (refine And.intro (by first | assumption | omega | (simp [BelL, Bel]; done) | (simp; omega)) ?_; try simp (maxSteps := 1000000) [hr1, hr2, hr3, numsD, okCell])
        | (refine okC_or ?_; simp (maxSteps := 1000000) [hr1, hr2, hr3, numsD, okCell])
      all_goals exact LewL.refl _

def timesW : Nat → Tp → Bool → List Wr × Tp × Bool
  | 0, t, o => ([], t, o)
  | n + 1, t, o => if t.bad = true then ([], t, o) else ((writeR t).1 :: (timesW n (writeR t).2.1 (o || (writeR t).2.2)).1, (timesW n (writeR t).2.1 (o || (writeR t).2.2)).2)
theorem timesW_bad (n : Nat) {t : Tp} (o : Bool) (h : t.bad = true) : timesW n t o = ([], t, o) := by
  cases n with
  | zero => rfl
  | succ n => unfold timesW; rw [if_pos h]
theorem timesW_step (n : Nat) {t : Tp} (o : Bool) (h : ¬ t.bad = true) : timesW (n + 1) t o = ((writeR t).1 :: (timesW n (writeR t).2.1 (o || (writeR t).2.2)).1, (timesW n (writeR t).2.1 (o || (writeR t).2.2)).2) := by
  conv => lhs; unfold timesW
  rw [if_neg h]
theorem write_good {t : Tp} (h : (writeR t).2.1.bad = false) : t.bad = false ∧ (writeR t).2.1.b.length + 9 ≤ t.b.length := by
  unfold writeR at h ⊢
  dsimp only at h ⊢
  have h1 := text_good h
  have h2 := take_good h1.1
  have h3 := text_good h2.1
  have e : (takeR (textR t).2 1).2.b.length + 1 = (textR t).2.b.length := by
    rw [h2.2.2]
    simp only [List.length_drop]
    omega
  exact ⟨h3.1, by omega⟩
theorem write_bytes {t : Tp} (h : Bytes t.b) : Bytes (writeR t).2.1.b ∧ (writeR t).2.1.b.length ≤ t.b.length := by
  have h1 := text_bytes h
  have h2 := take_bytes h1.2 1
  have h3 := text_bytes h2.2
  have l1 := text_len t
  have l2 := take_len (textR t).2 1
  have l3 := text_len (takeR (textR t).2 1).2
  unfold writeR
  dsimp only
  exact ⟨h3.2, by omega⟩
theorem timesWriteF {G : Globals} (t : Tp) (odd : Bool) (hb : Bytes t.b) (hl : t.b.length ≤ 100000) :
    FC Try.prog G 23 [.ptr 0 2 0, .fn (.func 24) [] [.ptr 1 1 0, .ptr 2 1 0]] [some (.c (tpC t)), some (.c [.ptr 0 2 0]), some (.c [.bool odd])]
      (fun d σ' => d = wrsD (timesW (numR t).1 (numR t).2 odd).1 ∧ σ' = [some (.c (tpC (timesW (numR t).1 (numR t).2 odd).2.1)), some (.c [.ptr 0 2 0]), some (.c [.bool (timesW (numR t).1 (numR t).2 odd).2.2])]) := by
  have hn := readNumF (G := G) t hb
  have hnb := num_bytes hb
  have hnl := num_len t
  have hnt := num_lt hb
  refine fc_enter_v Try.func23 rfl rfl fun Q hQ => ?_
  generalize (numR t).1 = n at *
  generalize (numR t).2 = u at *
  have hru := fun r => renL_flat r (tpC_bel 0 u)
  repeat' first
    | refine jw_ret (hQ _ _ (.inr rfl) ⟨5, _, _, rfl, rfl, ?_⟩)
    | refine jw_ret (hQ _ _ (.inr rfl) ⟨_, rfl, ?_⟩)
    | refine jw_seq_k fun K hK => ?_
    | refine jw_block ?_
    | (refine jw_skip ?_; try simp)
    | (refine jw_exit ?_; try simp)
    | (refine jw_cond rfl (fun hc => ?_) (fun hc => ?_) <;> (try simp at hc) <;> (try (exfalso; first | omega | exact absurd hc (by assumption))))
    | (refine jw_c ?_; simp (maxSteps := 1000000) [Try.f23, hru])
    | (refine jw_draw_j mixed (by kernel_rfl) ?_; simp (maxSteps := 1000000) [Try.f23, hru])
    | (first | (apply hK; clear hK) | (clear hK; apply hK; clear hK) | (clear hK; clear hK; apply hK; clear hK) | (clear hK; clear hK; clear hK; apply hK; clear hK))
    | exact hQ _ _ (.inl rfl) ⟨5, _, _, rfl, rfl, rfl⟩
    | refine hQ _ _ (.inl rfl) ⟨5, _, _, rfl, rfl, ?_⟩
    | refine hQ _ _ (.inl rfl) ⟨_, rfl, ?_⟩
    | (refine jl_fr (f := 19) 0 rfl rfl rfl rfl rfl (hn) (by simp [renL, renD, renD_flat, renL_flat, Try.f23, hru]) rfl (by simp [BelL, Bel]) (by simp [BelOb, BelL, Bel]) ?_; rintro d0 x g ⟨rfl, hg⟩; obtain ⟨rfl, rfl⟩ := List.cons.inj hg; simp (maxSteps := 1000000) [renOb, renL, renD, renD_flat, renL_flat, Try.f23, hru])
    | (refine jd_newc rfl rfl (by simp) ?_; simp (maxSteps := 1000000) [thD, thL, Try.f23, hru])
    | (refine okN_or ?_; simp (maxSteps := 1000000) [thD, thL, Try.f23, hru])
    | (refine okC_guard (fun hc => ?_) (fun hc => ?_) <;> (first | simp (maxSteps := 1000000) [hc, of_decide_eq_true hc, Try.f23, hru] | simp (maxSteps := 1000000) [hc, of_decide_eq_false hc, Try.f23, hru] | simp (maxSteps := 1000000) [hc, Try.f23, hru]) <;> (try simp at hc) <;> (try (exfalso; first | omega | exact absurd hc (by assumption))))
    | (refine okJ_guard (fun hc => ?_) (fun hc => ?_) <;> (first | simp (maxSteps := 1000000) [hc, of_decide_eq_true hc, Try.f23, hru] | simp (maxSteps := 1000000) [hc, of_decide_eq_false hc, Try.f23, hru] | simp (maxSteps := 1000000) [hc, Try.f23, hru]) <;> (try simp at hc) <;> (try (exfalso; first | omega | exact absurd hc (by assumption))))
    | (refine And.intro (by first | assumption | omega | (simp [BelL, Bel]; done) | (simp; omega)) ?_; try simp (maxSteps := 1000000) [Try.f23, hru])
    | (refine okC_or ?_; simp (maxSteps := 1000000) [Try.f23, hru])
  obtain ⟨U, V, O, hUV⟩ : ∃ U V O, timesW n u odd = (U, V, O) := ⟨_, _, _, rfl⟩
  rw [hUV] at hQ
  dsimp only at hQ
  refine jw_loop_v (fun m z => ∃ (i : Nat), ∃ (us : List Wr), ∃ (q : Tp), ∃ (o : Bool), (i ≤ n ∧ Bytes q.b ∧ q.b.length ≤ t.b.length ∧ (us ++ (timesW (n - i) q o).1 = U ∧ (timesW (n - i) q o).2 = (V, O)) ∧ (q.bad = false → us.length * 8 + q.b.length ≤ t.b.length) ∧ us.length * 8 ≤ t.b.length + 8) ∧ n - i = m ∧ z = ⟨[.ptr 0 2 0, .fn (.func 24) [] [.ptr 1 1 0, .ptr 2 1 0], .any, .any, .any, .ms 3 (us.length * 3) 0 us.length 3, .int .i64 ((n : Int) - i)] ++ List.replicate 19 .any, [some (.c (tpC q)), some (.c [.ptr 0 2 0]), some (.c [.bool o]), some (.c (us.flatMap wrC))]⟩) ⟨[.ptr 0 2 0, .fn (.func 24) [] [.ptr 1 1 0, .ptr 2 1 0], .any, .any, .any, .ms 3 (([]).length * 3) 0 ([]).length 3, .int .i64 ((n : Int) - (0))] ++ List.replicate 19 .any, [some (.c (tpC (u))), some (.c [.ptr 0 2 0]), some (.c [.bool (odd)]), some (.c (([]).flatMap wrC))]⟩ ((view_nil 5 3 rfl).trans (view_takeE (sl := [.ptr 0 2 0, .fn (.func 24) [] [.ptr 1 1 0, .ptr 2 1 0], .any, .any, .any, .ms 3 (([]).length * 3) 0 ([]).length 3, .int .i64 ((n : Int) - (0))] ++ List.replicate 19 .any) (σ0 := [some (.c (tpC (u))), some (.c [.ptr 0 2 0]), some (.c [.bool (odd)]), some (.c (([]).flatMap wrC))]) 4 (by simp [hru, thL, thD, thS, thOb]) (by first | omega | simp) (by first | omega | (simp [hru, thL, thD, thS, thOb]; done) | (simp [hru, thL, thD, thS, thOb]; omega)) (by first | exact LewS.refl _ | simp [hru, thL, thD, thS, thOb]) (by simp [BelL, Bel, thL, thD, thS, thOb, hru]) (by simp [BelS, BelOb, BelL, Bel, thL, thD, thS, thOb, hru]))) ⟨(0), ([]), (u), (odd), ?_, rfl, rfl⟩ ?_
  rotate_left
  rintro m z ⟨i, us, q, o, hA, rfl, rfl⟩ KA hKA
  · obtain ⟨hin, hqb, hql, ⟨hU, hV⟩, hgood, hul⟩ := hA
    have hone := readWriteF (G := G) q o hqb (by omega)
    have hrl := wrs_len us
    have hw := wrap_i64 (n := (n : Int) - i - 1) (by omega) (by omega)
    obtain ⟨qb, qbad⟩ := q
    dsimp only at hqb hql hgood
    by_cases hgo : i < n ∧ qbad = false
    · obtain ⟨hlt, rfl⟩ := hgo
      have hg := hgood rfl
      have hst := timesW_step (n - (i + 1)) (t := ⟨qb, false⟩) o (by simp)
      rw [show n - (i + 1) + 1 = n - i by omega] at hst
      rw [hst] at hU hV
      dsimp only at hU hV
      have hnb2 := write_bytes (t := ⟨qb, false⟩) hqb
      have hng := write_good (t := ⟨qb, false⟩)
      generalize (writeR ⟨qb, false⟩).1 = r at *
      generalize (writeR ⟨qb, false⟩).2.1 = q' at *
      generalize (o || (writeR ⟨qb, false⟩).2.2) = o' at *
      dsimp only at hnb2 hng
      obtain ⟨key, val, gn⟩ := r
      unfold tpC at hone
      repeat' first
        | refine jw_ret (hQ _ _ (.inr rfl) ⟨5, _, _, rfl, rfl, ?_⟩)
        | refine jw_ret (hQ _ _ (.inr rfl) ⟨_, rfl, ?_⟩)
        | refine jw_seq_k fun K hK => ?_
        | refine jw_block ?_
        | (refine jw_skip ?_; try simp)
        | (refine jw_exit ?_; try simp)
        | (refine jw_cond rfl (fun hc => ?_) (fun hc => ?_) <;> (try simp at hc) <;> (try (exfalso; first | omega | exact absurd hc (by assumption))))
        | (refine jw_c ?_; simp (maxSteps := 1000000) [show (0 : Int) < (n : Int) - i by omega, tpC, hrl, hw, wrC, numsD, okCell, show us.length + 1 ≤ 1000000 by omega])
        | (refine jw_draw_j mixed (by kernel_rfl) ?_; simp (maxSteps := 1000000) [show (0 : Int) < (n : Int) - i by omega, tpC, hrl, hw, wrC, numsD, okCell, show us.length + 1 ≤ 1000000 by omega])
        | (first | (apply hK; clear hK) | (clear hK; apply hK; clear hK) | (clear hK; clear hK; apply hK; clear hK) | (clear hK; clear hK; clear hK; apply hK; clear hK))
        | exact hQ _ _ (.inl rfl) ⟨5, _, _, rfl, rfl, rfl⟩
        | refine hQ _ _ (.inl rfl) ⟨5, _, _, rfl, rfl, ?_⟩
        | refine hQ _ _ (.inl rfl) ⟨_, rfl, ?_⟩
        | (refine jl_frs (f := 24) [0, 1, 2] rfl rfl rfl rfl rfl (hone) ?_ ?_ (by simp) (by simp) ?_ ?_ ?_; (focus (simp [rho, renS, renOb, renL, renD, renD_flat, renL_flat, renL_append, show (0 : Int) < (n : Int) - i by omega, tpC, hrl, hw, wrC, numsD, okCell, show us.length + 1 ≤ 1000000 by omega]; done)); (focus (simp [rho, renS, renOb, renL, renD, renD_flat, renL_flat, renL_append, show (0 : Int) < (n : Int) - i by omega, tpC, hrl, hw, wrC, numsD, okCell, show us.length + 1 ≤ 1000000 by omega]; done)); (focus (simp [BelL, Bel]; done)); (focus (simp [BelS, BelOb, BelL, Bel, show (0 : Int) < (n : Int) - i by omega, tpC, hrl, hw, wrC, numsD, okCell, show us.length + 1 ≤ 1000000 by omega]; done)); rintro d0 g ⟨rfl, rfl⟩; simp (maxSteps := 1000000) [glue, putAll, rho, renS, renOb, renL, renD, renD_flat, renL_flat, renL_append, show (0 : Int) < (n : Int) - i by omega, tpC, hrl, hw, wrC, numsD, okCell, show us.length + 1 ≤ 1000000 by omega])
        | (refine jd_newc rfl rfl (by simp) ?_; simp (maxSteps := 1000000) [thD, thL, show (0 : Int) < (n : Int) - i by omega, tpC, hrl, hw, wrC, numsD, okCell, show us.length + 1 ≤ 1000000 by omega])
        | (refine okN_or ?_; simp (maxSteps := 1000000) [thD, thL, show (0 : Int) < (n : Int) - i by omega, tpC, hrl, hw, wrC, numsD, okCell, show us.length + 1 ≤ 1000000 by omega])
        | (refine okC_guard (fun hc => ?_) (fun hc => ?_) <;> (first | simp (maxSteps := 1000000) [hc, of_decide_eq_true hc, show (0 : Int) < (n : Int) - i by omega, tpC, hrl, hw, wrC, numsD, okCell, show us.length + 1 ≤ 1000000 by omega] | simp (maxSteps := 1000000) [hc, of_decide_eq_false hc, show (0 : Int) < (n : Int) - i by omega, tpC, hrl, hw, wrC, numsD, okCell, show us.length + 1 ≤ 1000000 by omega] | simp (maxSteps := 1000000) [hc, show (0 : Int) < (n : Int) - i by omega, tpC, hrl, hw, wrC, numsD, okCell, show us.length + 1 ≤ 1000000 by omega]) <;> (try simp at hc) <;> (try (exfalso; first | omega | exact absurd hc (by assumption))))
        | (refine okJ_guard (fun hc => ?_) (fun hc => ?_) <;> (first | simp (maxSteps := 1000000) [hc, of_decide_eq_true hc, show (0 : Int) < (n : Int) - i by omega, tpC, hrl, hw, wrC, numsD, okCell, show us.length + 1 ≤ 1000000 by omega] | simp (maxSteps := 1000000) [hc, of_decide_eq_false hc, show (0 : Int) < (n : Int) - i by omega, tpC, hrl, hw, wrC, numsD, okCell, show us.length + 1 ≤ 1000000 by omega] | simp (maxSteps := 1000000) [hc, show (0 : Int) < (n : Int) - i by omega, tpC, hrl, hw, wrC, numsD, okCell, show us.length + 1 ≤ 1000000 by omega]) <;> (try simp at hc) <;> (try (exfalso; first | omega | exact absurd hc (by assumption))))
        | (refine And.intro (by first | assumption | omega | (simp [BelL, Bel]; done) | (simp; omega)) ?_; try simp (maxSteps := 1000000) [show (0 : Int) < (n : Int) - i by omega, tpC, hrl, hw, wrC, numsD, okCell, show us.length + 1 ≤ 1000000 by omega])
        | (refine okC_or ?_; simp (maxSteps := 1000000) [show (0 : Int) < (n : Int) - i by omega, tpC, hrl, hw, wrC, numsD, okCell, show us.length + 1 ≤ 1000000 by omega])
      refine hKA (n - (i + 1)) _ ⟨[.ptr 0 2 0, .fn (.func 24) [] [.ptr 1 1 0, .ptr 2 1 0], .any, .any, .any, .ms 3 ((us ++ [(⟨key, val, gn⟩ : Wr)]).length * 3) 0 (us ++ [(⟨key, val, gn⟩ : Wr)]).length 3, .int .i64 ((n : Int) - (i + 1))] ++ List.replicate 19 .any, [some (.c (tpC (q'))), some (.c [.ptr 0 2 0]), some (.c [.bool (o')]), some (.c ((us ++ [(⟨key, val, gn⟩ : Wr)]).flatMap wrC))]⟩ (by omega) (view_takeE (sl := [.ptr 0 2 0, .fn (.func 24) [] [.ptr 1 1 0, .ptr 2 1 0], .any, .any, .any, .ms 3 ((us ++ [(⟨key, val, gn⟩ : Wr)]).length * 3) 0 (us ++ [(⟨key, val, gn⟩ : Wr)]).length 3, .int .i64 ((n : Int) - (i + 1))] ++ List.replicate 19 .any) (σ0 := [some (.c (tpC (q'))), some (.c [.ptr 0 2 0]), some (.c [.bool (o')]), some (.c ((us ++ [(⟨key, val, gn⟩ : Wr)]).flatMap wrC))]) 4 (by simp [tpC, wrC, numsD, List.flatMap_append, show (us.length + 1) * 3 = us.length * 3 + 3 by omega, show (n : Int) - ((i : Int) + 1) = (n : Int) - i - 1 by omega]) (by first | omega | simp) (by first | omega | (simp [tpC, wrC, numsD, List.flatMap_append, show (us.length + 1) * 3 = us.length * 3 + 3 by omega, show (n : Int) - ((i : Int) + 1) = (n : Int) - i - 1 by omega]; done) | (simp [tpC, wrC, numsD, List.flatMap_append, show (us.length + 1) * 3 = us.length * 3 + 3 by omega, show (n : Int) - ((i : Int) + 1) = (n : Int) - i - 1 by omega]; omega)) (by first | exact LewS.refl _ | simp [tpC, wrC, numsD, List.flatMap_append, show (us.length + 1) * 3 = us.length * 3 + 3 by omega, show (n : Int) - ((i : Int) + 1) = (n : Int) - i - 1 by omega]) (by simp [BelL, Bel, tpC, wrC, numsD, List.flatMap_append, show (us.length + 1) * 3 = us.length * 3 + 3 by omega, show (n : Int) - ((i : Int) + 1) = (n : Int) - i - 1 by omega]) (by simp [BelS, BelOb, BelL, Bel, tpC, wrC, numsD, List.flatMap_append, show (us.length + 1) * 3 = us.length * 3 + 3 by omega, show (n : Int) - ((i : Int) + 1) = (n : Int) - i - 1 by omega])) ⟨(i + 1), (us ++ [(⟨key, val, gn⟩ : Wr)]), (q'), (o'), ?_, rfl, rfl⟩
      refine ⟨by omega, hnb2.1, by omega, ⟨?_, hV⟩, fun h => ?_, ?_⟩
      · rw [← hU]; simp
      · have := hng h; rw [List.length_append, List.length_singleton]; omega
      · rw [List.length_append, List.length_singleton]; omega
    · have hend : timesW (n - i) ⟨qb, qbad⟩ o = ([], ⟨qb, qbad⟩, o) := by
        by_cases hb : qbad = true
        · exact timesW_bad _ o hb
        · have : n - i = 0 := by
            have hb2 : qbad = false := by simpa using hb
            have : ¬ i < n := fun h => hgo ⟨h, hb2⟩
            omega
          rw [this]; rfl
      rw [hend] at hU hV
      dsimp only at hU hV
      rw [List.append_nil] at hU
      obtain ⟨rfl, rfl⟩ := Prod.mk.inj hV
      subst hU
      have hct : List.take (us.length * 3) (us.flatMap wrC) = us.flatMap wrC := List.take_of_length_le (by omega)
      by_cases hlt : i < n
      · have hb : qbad = true := by
          cases qbad with
          | true => rfl
          | false => exact (hgo ⟨hlt, rfl⟩).elim
        subst hb
        repeat' first
          | refine jw_ret (hQ _ _ (.inr rfl) ⟨5, _, _, rfl, rfl, ?_⟩)
          | refine jw_ret (hQ _ _ (.inr rfl) ⟨_, rfl, ?_⟩)
          | refine jw_seq_k fun K hK => ?_
          | refine jw_block ?_
          | (refine jw_skip ?_; try simp)
          | (refine jw_exit ?_; try simp)
          | (refine jw_cond rfl (fun hc => ?_) (fun hc => ?_) <;> (try simp at hc) <;> (try (exfalso; first | omega | exact absurd hc (by assumption))))
          | ((fail_if_success (refine jw_c (id := 6) ?_)); (refine jw_c ?_; simp (maxSteps := 1000000) [show (0 : Int) < (n : Int) - i by omega, tpC]))
          | ((fail_if_success (refine jw_draw_j (id := 6) mixed (by kernel_rfl) ?_)); (refine jw_draw_j mixed (by kernel_rfl) ?_; simp (maxSteps := 1000000) [show (0 : Int) < (n : Int) - i by omega, tpC]))
          | (first | (apply hK; clear hK) | (clear hK; apply hK; clear hK) | (clear hK; clear hK; apply hK; clear hK) | (clear hK; clear hK; clear hK; apply hK; clear hK))
          | exact hQ _ _ (.inl rfl) ⟨5, _, _, rfl, rfl, rfl⟩
          | refine hQ _ _ (.inl rfl) ⟨5, _, _, rfl, rfl, ?_⟩
          | refine hQ _ _ (.inl rfl) ⟨_, rfl, ?_⟩
          | (refine jd_newc rfl rfl (by simp) ?_; simp (maxSteps := 1000000) [thD, thL, show (0 : Int) < (n : Int) - i by omega, tpC])
          | (refine okN_or ?_; simp (maxSteps := 1000000) [thD, thL, show (0 : Int) < (n : Int) - i by omega, tpC])
          | (refine okC_guard (fun hc => ?_) (fun hc => ?_) <;> (first | simp (maxSteps := 1000000) [hc, of_decide_eq_true hc, show (0 : Int) < (n : Int) - i by omega, tpC] | simp (maxSteps := 1000000) [hc, of_decide_eq_false hc, show (0 : Int) < (n : Int) - i by omega, tpC] | simp (maxSteps := 1000000) [hc, show (0 : Int) < (n : Int) - i by omega, tpC]) <;> (try simp at hc) <;> (try (exfalso; first | omega | exact absurd hc (by assumption))))
          | (refine okJ_guard (fun hc => ?_) (fun hc => ?_) <;> (first | simp (maxSteps := 1000000) [hc, of_decide_eq_true hc, show (0 : Int) < (n : Int) - i by omega, tpC] | simp (maxSteps := 1000000) [hc, of_decide_eq_false hc, show (0 : Int) < (n : Int) - i by omega, tpC] | simp (maxSteps := 1000000) [hc, show (0 : Int) < (n : Int) - i by omega, tpC]) <;> (try simp at hc) <;> (try (exfalso; first | omega | exact absurd hc (by assumption))))
          | (refine And.intro (by first | assumption | omega | (simp [BelL, Bel]; done) | (simp; omega)) ?_; try simp (maxSteps := 1000000) [show (0 : Int) < (n : Int) - i by omega, tpC])
          | (refine okC_or ?_; simp (maxSteps := 1000000) [show (0 : Int) < (n : Int) - i by omega, tpC])
        (refine jw_view (view_frz 3 _ rfl (by simp [BelL, Bel, thL_flat, thD_flat, hrl, hct, numsD])) ?_; simp (maxSteps := 1000000) [thL, thD, thS, thOb, thL_flat, thD_flat, hrl, hct, numsD])
        repeat' first
          | refine jw_seq_k fun K hK => ?_
          | refine jw_block ?_
          | (refine jw_skip ?_; try simp)
          | (refine jw_exit ?_; try simp)
          | (refine jw_cond rfl (fun hc => ?_) (fun hc => ?_) <;> (try simp at hc) <;> (try (exfalso; first | omega | exact absurd hc (by assumption))))
          | (refine jw_c ?_; simp (maxSteps := 1000000) [tpC, wrsD, numsD])
          | (refine jw_draw_j mixed (by kernel_rfl) ?_; simp (maxSteps := 1000000) [tpC, wrsD, numsD])
          | (first | (apply hK; clear hK) | (clear hK; apply hK; clear hK) | (clear hK; clear hK; apply hK; clear hK) | (clear hK; clear hK; clear hK; apply hK; clear hK))
          | (refine jw_ret (hQ _ _ (.inr rfl) (ret_ok 3 ?_ (by first | omega | simp))); simp (maxSteps := 1000000) [okRet, BelL, Bel, BelS, BelOb, tpC, wrsD, numsD])
          | (refine hQ _ _ (.inl rfl) (ret_ok 3 ?_ (by first | omega | simp)); simp (maxSteps := 1000000) [okRet, BelL, Bel, BelS, BelOb, tpC, wrsD, numsD])
          | (refine jd_newc rfl rfl (by simp) ?_; simp (maxSteps := 1000000) [thD, thL, tpC, wrsD, numsD])
          | (refine okN_or ?_; simp (maxSteps := 1000000) [thD, thL, tpC, wrsD, numsD])
          | (refine okC_guard (fun hc => ?_) (fun hc => ?_) <;> (first | simp (maxSteps := 1000000) [hc, of_decide_eq_true hc, tpC, wrsD, numsD] | simp (maxSteps := 1000000) [hc, of_decide_eq_false hc, tpC, wrsD, numsD] | simp (maxSteps := 1000000) [hc, tpC, wrsD, numsD]) <;> (try simp at hc) <;> (try (exfalso; first | omega | exact absurd hc (by assumption))))
          | (refine okJ_guard (fun hc => ?_) (fun hc => ?_) <;> (first | simp (maxSteps := 1000000) [hc, of_decide_eq_true hc, tpC, wrsD, numsD] | simp (maxSteps := 1000000) [hc, of_decide_eq_false hc, tpC, wrsD, numsD] | simp (maxSteps := 1000000) [hc, tpC, wrsD, numsD]) <;> (try simp at hc) <;> (try (exfalso; first | omega | exact absurd hc (by assumption))))
          | (refine And.intro (by first | assumption | omega | (simp [BelL, Bel]; done) | (simp; omega)) ?_; try simp (maxSteps := 1000000) [tpC, wrsD, numsD])
          | (refine okC_or ?_; simp (maxSteps := 1000000) [tpC, wrsD, numsD])
      · repeat' first
          | refine jw_ret (hQ _ _ (.inr rfl) ⟨5, _, _, rfl, rfl, ?_⟩)
          | refine jw_ret (hQ _ _ (.inr rfl) ⟨_, rfl, ?_⟩)
          | refine jw_seq_k fun K hK => ?_
          | refine jw_block ?_
          | (refine jw_skip ?_; try simp)
          | (refine jw_exit ?_; try simp)
          | (refine jw_cond rfl (fun hc => ?_) (fun hc => ?_) <;> (try simp at hc) <;> (try (exfalso; first | omega | exact absurd hc (by assumption))))
          | ((fail_if_success (refine jw_c (id := 6) ?_)); (refine jw_c ?_; simp (maxSteps := 1000000) [show ¬ (0 : Int) < (n : Int) - i by omega, tpC]))
          | ((fail_if_success (refine jw_draw_j (id := 6) mixed (by kernel_rfl) ?_)); (refine jw_draw_j mixed (by kernel_rfl) ?_; simp (maxSteps := 1000000) [show ¬ (0 : Int) < (n : Int) - i by omega, tpC]))
          | (first | (apply hK; clear hK) | (clear hK; apply hK; clear hK) | (clear hK; clear hK; apply hK; clear hK) | (clear hK; clear hK; clear hK; apply hK; clear hK))
          | exact hQ _ _ (.inl rfl) ⟨5, _, _, rfl, rfl, rfl⟩
          | refine hQ _ _ (.inl rfl) ⟨5, _, _, rfl, rfl, ?_⟩
          | refine hQ _ _ (.inl rfl) ⟨_, rfl, ?_⟩
          | (refine jd_newc rfl rfl (by simp) ?_; simp (maxSteps := 1000000) [thD, thL, show ¬ (0 : Int) < (n : Int) - i by omega, tpC])
          | (refine okN_or ?_; simp (maxSteps := 1000000) [thD, thL, show ¬ (0 : Int) < (n : Int) - i by omega, tpC])
          | (refine okC_guard (fun hc => ?_) (fun hc => ?_) <;> (first | simp (maxSteps := 1000000) [hc, of_decide_eq_true hc, show ¬ (0 : Int) < (n : Int) - i by omega, tpC] | simp (maxSteps := 1000000) [hc, of_decide_eq_false hc, show ¬ (0 : Int) < (n : Int) - i by omega, tpC] | simp (maxSteps := 1000000) [hc, show ¬ (0 : Int) < (n : Int) - i by omega, tpC]) <;> (try simp at hc) <;> (try (exfalso; first | omega | exact absurd hc (by assumption))))
          | (refine okJ_guard (fun hc => ?_) (fun hc => ?_) <;> (first | simp (maxSteps := 1000000) [hc, of_decide_eq_true hc, show ¬ (0 : Int) < (n : Int) - i by omega, tpC] | simp (maxSteps := 1000000) [hc, of_decide_eq_false hc, show ¬ (0 : Int) < (n : Int) - i by omega, tpC] | simp (maxSteps := 1000000) [hc, show ¬ (0 : Int) < (n : Int) - i by omega, tpC]) <;> (try simp at hc) <;> (try (exfalso; first | omega | exact absurd hc (by assumption))))
          | (refine And.intro (by first | assumption | omega | (simp [BelL, Bel]; done) | (simp; omega)) ?_; try simp (maxSteps := 1000000) [show ¬ (0 : Int) < (n : Int) - i by omega, tpC])
          | (refine okC_or ?_; simp (maxSteps := 1000000) [show ¬ (0 : Int) < (n : Int) - i by omega, tpC])
        (refine jw_view (view_frz 3 _ rfl (by simp [BelL, Bel, thL_flat, thD_flat, hrl, hct, numsD])) ?_; simp (maxSteps := 1000000) [thL, thD, thS, thOb, thL_flat, thD_flat, hrl, hct, numsD])
        repeat' first
          | refine jw_seq_k fun K hK => ?_
          | refine jw_block ?_
          | (refine jw_skip ?_; try simp)
          | (refine jw_exit ?_; try simp)
          | (refine jw_cond rfl (fun hc => ?_) (fun hc => ?_) <;> (try simp at hc) <;> (try (exfalso; first | omega | exact absurd hc (by assumption))))
          | (refine jw_c ?_; simp (maxSteps := 1000000) [tpC, wrsD, numsD])
          | (refine jw_draw_j mixed (by kernel_rfl) ?_; simp (maxSteps := 1000000) [tpC, wrsD, numsD])
          | (first | (apply hK; clear hK) | (clear hK; apply hK; clear hK) | (clear hK; clear hK; apply hK; clear hK) | (clear hK; clear hK; clear hK; apply hK; clear hK))
          | (refine jw_ret (hQ _ _ (.inr rfl) (ret_ok 3 ?_ (by first | omega | simp))); simp (maxSteps := 1000000) [okRet, BelL, Bel, BelS, BelOb, tpC, wrsD, numsD])
          | (refine hQ _ _ (.inl rfl) (ret_ok 3 ?_ (by first | omega | simp)); simp (maxSteps := 1000000) [okRet, BelL, Bel, BelS, BelOb, tpC, wrsD, numsD])
          | (refine jd_newc rfl rfl (by simp) ?_; simp (maxSteps := 1000000) [thD, thL, tpC, wrsD, numsD])
          | (refine okN_or ?_; simp (maxSteps := 1000000) [thD, thL, tpC, wrsD, numsD])
          | (refine okC_guard (fun hc => ?_) (fun hc => ?_) <;> (first | simp (maxSteps := 1000000) [hc, of_decide_eq_true hc, tpC, wrsD, numsD] | simp (maxSteps := 1000000) [hc, of_decide_eq_false hc, tpC, wrsD, numsD] | simp (maxSteps := 1000000) [hc, tpC, wrsD, numsD]) <;> (try simp at hc) <;> (try (exfalso; first | omega | exact absurd hc (by assumption))))
          | (refine okJ_guard (fun hc => ?_) (fun hc => ?_) <;> (first | simp (maxSteps := 1000000) [hc, of_decide_eq_true hc, tpC, wrsD, numsD] | simp (maxSteps := 1000000) [hc, of_decide_eq_false hc, tpC, wrsD, numsD] | simp (maxSteps := 1000000) [hc, tpC, wrsD, numsD]) <;> (try simp at hc) <;> (try (exfalso; first | omega | exact absurd hc (by assumption))))
          | (refine And.intro (by first | assumption | omega | (simp [BelL, Bel]; done) | (simp; omega)) ?_; try simp (maxSteps := 1000000) [tpC, wrsD, numsD])
          | (refine okC_or ?_; simp (maxSteps := 1000000) [tpC, wrsD, numsD])
  · refine ⟨by omega, hnb, hnl, ⟨?_, ?_⟩, fun _ => ?_, ?_⟩
    · rw [Nat.sub_zero, hUV]; rfl
    · rw [Nat.sub_zero, hUV]
    · simpa using hnl
    · simp
end Go.Proofs.Ythaidogcgjnhcaa
