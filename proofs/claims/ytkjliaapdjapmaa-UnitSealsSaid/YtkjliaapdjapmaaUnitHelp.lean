/- What the laws of units are told with. -/
import Derived.Test.YtkjliaapdjapmaaUnitJobs
set_option linter.unusedVariables false
set_option linter.unusedSimpArgs false
set_option maxRecDepth 20000
set_option maxHeartbeats 20000000
namespace Go.Proofs.Ytkjliaapdjapmaa
open Go Go.Vm Go.Proofs

theorem rp_ext (a b : Rp) : a = b ↔ a.code = b.code ∧ a.junk = b.junk ∧ a.tail = b.tail ∧ a.data = b.data := by
  cases a; cases b
  simp only [Rp.mk.injEq]
  exact ⟨fun ⟨h1, h2, h3, h4⟩ => ⟨h1, h2, h4, h3⟩, fun ⟨h1, h2, h3, h4⟩ => ⟨h1, h2, h4, h3⟩⟩
theorem sameReplyF {G : Globals} (a b : Rp) (ha : a.data.length ≤ 1000000) : FV Try.prog G 10 [rpD a, rpD b] (fun r => r = .bool (decide (a = b))) := by
  refine fv_enter_v Try.func10 rfl rfl fun Q hQ => ?_
  have hs := sameBytes (G := G) a.data b.data ha
  have he : decide (a = b) = ((a.code == b.code) && (a.junk == b.junk) && (a.tail == b.tail) && decide (a.data = b.data)) := by
    rw [Bool.eq_iff_iff]; simp [rp_ext a b]; constructor
    · rintro ⟨h1, h2, h3, h4⟩; exact ⟨⟨⟨h1, h2⟩, h3⟩, h4⟩
    · rintro ⟨⟨⟨h1, h2⟩, h3⟩, h4⟩; exact ⟨h1, h2, h3, h4⟩
  rw [he] at hQ
  repeat' first
    | refine jw_seq_k fun K hK => ?_
    | refine jw_block ?_
    | (refine jw_skip ?_; try simp)
    | (refine jw_exit ?_; try simp)
    | (refine jw_cond rfl (fun hc => ?_) (fun hc => ?_) <;> (try simp at hc) <;> (try (exfalso; first | omega | exact absurd hc (by assumption))))
    | (refine jw_c ?_; simp (maxSteps := 1000000) [Try.f10, rpD, rpC])
    | (refine jw_draw_j mixed (by kernel_rfl) ?_; simp (maxSteps := 1000000) [Try.f10, rpD, rpC])
    | (first | (apply hK; clear hK) | (clear hK; apply hK; clear hK) | (clear hK; clear hK; apply hK; clear hK) | (clear hK; clear hK; clear hK; apply hK; clear hK))
    | (refine jw_ret (hQ _ _ (.inr rfl) (ret_ok 0 ?_ (by first | omega | simp))); simp (maxSteps := 1000000) [okRet, BelL, Bel, BelS, BelOb, Try.f10, rpD, rpC])
    | (refine hQ _ _ (.inl rfl) (ret_ok 0 ?_ (by first | omega | simp)); simp (maxSteps := 1000000) [okRet, BelL, Bel, BelS, BelOb, Try.f10, rpD, rpC])
    | (refine jl_call (f := 15) rfl rfl rfl rfl rfl (hs) (by simp [BelL, Bel]) ?_; rintro r rfl; simp (maxSteps := 1000000) [Try.f10, rpD, rpC])
    | (refine jd_call (f := 15) rfl rfl rfl rfl rfl (hs) (by simp [BelL, Bel]) ?_; simp (maxSteps := 1000000) [Try.f10, rpD, rpC])
    | (refine jd_newc rfl rfl (by simp) ?_; simp (maxSteps := 1000000) [thD, thL, Try.f10, rpD, rpC])
    | (refine okN_or ?_; simp (maxSteps := 1000000) [thD, thL, Try.f10, rpD, rpC])
    | (refine okC_guard (fun hc => ?_) (fun hc => ?_) <;> (first | simp (maxSteps := 1000000) [hc, of_decide_eq_true hc, Try.f10, rpD, rpC] | simp (maxSteps := 1000000) [hc, of_decide_eq_false hc, Try.f10, rpD, rpC] | simp (maxSteps := 1000000) [hc, Try.f10, rpD, rpC]) <;> (try simp at hc) <;> (try (exfalso; first | omega | exact absurd hc (by assumption))))
    | (refine okJ_guard (fun hc => ?_) (fun hc => ?_) <;> (first | simp (maxSteps := 1000000) [hc, of_decide_eq_true hc, Try.f10, rpD, rpC] | simp (maxSteps := 1000000) [hc, of_decide_eq_false hc, Try.f10, rpD, rpC] | simp (maxSteps := 1000000) [hc, Try.f10, rpD, rpC]) <;> (try simp at hc) <;> (try (exfalso; first | omega | exact absurd hc (by assumption))))
    | (refine And.intro (by first | assumption | omega | (simp [BelL, Bel]; done) | (simp; omega)) ?_; try simp (maxSteps := 1000000) [Try.f10, rpD, rpC])
    | (refine okC_or ?_; simp (maxSteps := 1000000) [Try.f10, rpD, rpC])
  all_goals clear hQ he hs
  all_goals (intros; simp_all)

def lookJ (e : Int) (n : Nat) : List Job := (List.range n).map fun (a : Nat) => ⟨2, e, (a : Int), []⟩
theorem lookJ_succ (e : Int) (n : Nat) : lookJ e (n + 1) = lookJ e n ++ [⟨2, e, (n : Int), []⟩] := by unfold lookJ; rw [List.range_succ, List.map_append]; rfl
@[simp] theorem lookJ_length (e : Int) (n : Nat) : (lookJ e n).length = n := by simp [lookJ]
theorem lookF {G : Globals} (e : Int) : FV Try.prog G 13 [.int .i64 e] (fun r => r = jobsD (lookJ e 6)) := by
  refine fv_enter_v Try.func13 rfl rfl fun Q hQ => ?_
  repeat' first
    | refine jw_ret (hQ _ _ (.inr rfl) ⟨5, _, _, rfl, rfl, ?_⟩)
    | refine jw_ret (hQ _ _ (.inr rfl) ⟨_, rfl, ?_⟩)
    | refine jw_seq_k fun K hK => ?_
    | refine jw_block ?_
    | (refine jw_skip ?_; try simp)
    | (refine jw_exit ?_; try simp)
    | (refine jw_cond rfl (fun hc => ?_) (fun hc => ?_) <;> (try simp at hc) <;> (try (exfalso; first | omega | exact absurd hc (by assumption))))
    | (refine jw_c ?_; simp (maxSteps := 1000000) [Try.f13])
    | (refine jw_draw_j mixed (by kernel_rfl) ?_; simp (maxSteps := 1000000) [Try.f13])
    | (first | (apply hK; clear hK) | (clear hK; apply hK; clear hK) | (clear hK; clear hK; apply hK; clear hK) | (clear hK; clear hK; clear hK; apply hK; clear hK))
    | exact hQ _ _ (.inl rfl) ⟨5, _, _, rfl, rfl, rfl⟩
    | refine hQ _ _ (.inl rfl) ⟨5, _, _, rfl, rfl, ?_⟩
    | refine hQ _ _ (.inl rfl) ⟨_, rfl, ?_⟩
    | (refine jd_newc rfl rfl (by simp) ?_; simp (maxSteps := 1000000) [thD, thL, Try.f13])
    | (refine okN_or ?_; simp (maxSteps := 1000000) [thD, thL, Try.f13])
    | (refine okC_guard (fun hc => ?_) (fun hc => ?_) <;> (first | simp (maxSteps := 1000000) [hc, of_decide_eq_true hc, Try.f13] | simp (maxSteps := 1000000) [hc, of_decide_eq_false hc, Try.f13] | simp (maxSteps := 1000000) [hc, Try.f13]) <;> (try simp at hc) <;> (try (exfalso; first | omega | exact absurd hc (by assumption))))
    | (refine okJ_guard (fun hc => ?_) (fun hc => ?_) <;> (first | simp (maxSteps := 1000000) [hc, of_decide_eq_true hc, Try.f13] | simp (maxSteps := 1000000) [hc, of_decide_eq_false hc, Try.f13] | simp (maxSteps := 1000000) [hc, Try.f13]) <;> (try simp at hc) <;> (try (exfalso; first | omega | exact absurd hc (by assumption))))
    | (refine And.intro (by first | assumption | omega | (simp [BelL, Bel]; done) | (simp; omega)) ?_; try simp (maxSteps := 1000000) [Try.f13])
    | (refine okC_or ?_; simp (maxSteps := 1000000) [Try.f13])
  refine jw_loop_v (fun m z => ∃ (i : Nat), (i ≤ 6) ∧ 6 - i = m ∧ z = ⟨[.int .i64 e, .any, .any, .ms 0 (i * 4) 0 i 4, .int .i64 i] ++ List.replicate 11 .any, [some (.c ((lookJ e i).flatMap jobC))]⟩) ⟨[.int .i64 e, .any, .any, .ms 0 ((0) * 4) 0 (0) 4, .int .i64 (0)] ++ List.replicate 11 .any, [some (.c ((lookJ e (0)).flatMap jobC))]⟩ ((view_nil 3 4 rfl).trans (view_takeE (sl := [.int .i64 e, .any, .any, .ms 0 ((0) * 4) 0 (0) 4, .int .i64 (0)] ++ List.replicate 11 .any) (σ0 := [some (.c ((lookJ e (0)).flatMap jobC))]) 1 (by simp [lookJ, thL, thD, thS, thOb]) (by first | omega | simp) (by first | omega | (simp [lookJ, thL, thD, thS, thOb]; done) | (simp [lookJ, thL, thD, thS, thOb]; omega)) (by first | exact LewS.refl _ | simp [lookJ, thL, thD, thS, thOb]) (by simp [BelL, Bel, thL, thD, thS, thOb, lookJ]) (by simp [BelS, BelOb, BelL, Bel, thL, thD, thS, thOb, lookJ]))) ⟨(0), ?_, rfl, rfl⟩ ?_
  rotate_left
  rintro m z ⟨i, hA, rfl, rfl⟩ KA hKA
  · have hw := wrap_i64 (n := (i : Int) + 1) (by omega) (by omega)
    have hlr := flat_len (f := jobC) (z := 4) (fun _ => rfl) (lookJ e i)
    rw [lookJ_length] at hlr
    have hT := lookJ_succ e i
    by_cases hlt : i < 6
    · repeat' first
        | refine jw_ret (hQ _ _ (.inr rfl) ⟨5, _, _, rfl, rfl, ?_⟩)
        | refine jw_ret (hQ _ _ (.inr rfl) ⟨_, rfl, ?_⟩)
        | refine jw_seq_k fun K hK => ?_
        | refine jw_block ?_
        | (refine jw_skip ?_; try simp)
        | (refine jw_exit ?_; try simp)
        | (refine jw_cond rfl (fun hc => ?_) (fun hc => ?_) <;> (try simp at hc) <;> (try (exfalso; first | omega | exact absurd hc (by assumption))))
        | (refine jw_c ?_; simp (maxSteps := 1000000) [show (i : Int) < 6 by omega, hlr, hw, okCell, show i + 1 ≤ 400 by omega])
        | (refine jw_draw_j mixed (by kernel_rfl) ?_; simp (maxSteps := 1000000) [show (i : Int) < 6 by omega, hlr, hw, okCell, show i + 1 ≤ 400 by omega])
        | (first | (apply hK; clear hK) | (clear hK; apply hK; clear hK) | (clear hK; clear hK; apply hK; clear hK) | (clear hK; clear hK; clear hK; apply hK; clear hK))
        | exact hQ _ _ (.inl rfl) ⟨5, _, _, rfl, rfl, rfl⟩
        | refine hQ _ _ (.inl rfl) ⟨5, _, _, rfl, rfl, ?_⟩
        | refine hQ _ _ (.inl rfl) ⟨_, rfl, ?_⟩
        | (refine jd_newc rfl rfl (by simp) ?_; simp (maxSteps := 1000000) [thD, thL, show (i : Int) < 6 by omega, hlr, hw, okCell, show i + 1 ≤ 400 by omega])
        | (refine okN_or ?_; simp (maxSteps := 1000000) [thD, thL, show (i : Int) < 6 by omega, hlr, hw, okCell, show i + 1 ≤ 400 by omega])
        | (refine okC_guard (fun hc => ?_) (fun hc => ?_) <;> (first | simp (maxSteps := 1000000) [hc, of_decide_eq_true hc, show (i : Int) < 6 by omega, hlr, hw, okCell, show i + 1 ≤ 400 by omega] | simp (maxSteps := 1000000) [hc, of_decide_eq_false hc, show (i : Int) < 6 by omega, hlr, hw, okCell, show i + 1 ≤ 400 by omega] | simp (maxSteps := 1000000) [hc, show (i : Int) < 6 by omega, hlr, hw, okCell, show i + 1 ≤ 400 by omega]) <;> (try simp at hc) <;> (try (exfalso; first | omega | exact absurd hc (by assumption))))
        | (refine okJ_guard (fun hc => ?_) (fun hc => ?_) <;> (first | simp (maxSteps := 1000000) [hc, of_decide_eq_true hc, show (i : Int) < 6 by omega, hlr, hw, okCell, show i + 1 ≤ 400 by omega] | simp (maxSteps := 1000000) [hc, of_decide_eq_false hc, show (i : Int) < 6 by omega, hlr, hw, okCell, show i + 1 ≤ 400 by omega] | simp (maxSteps := 1000000) [hc, show (i : Int) < 6 by omega, hlr, hw, okCell, show i + 1 ≤ 400 by omega]) <;> (try simp at hc) <;> (try (exfalso; first | omega | exact absurd hc (by assumption))))
        | (refine And.intro (by first | assumption | omega | (simp [BelL, Bel]; done) | (simp; omega)) ?_; try simp (maxSteps := 1000000) [show (i : Int) < 6 by omega, hlr, hw, okCell, show i + 1 ≤ 400 by omega])
        | (refine okC_or ?_; simp (maxSteps := 1000000) [show (i : Int) < 6 by omega, hlr, hw, okCell, show i + 1 ≤ 400 by omega])
      refine hKA (6 - (i + 1)) _ ⟨[.int .i64 e, .any, .any, .ms 0 ((i + 1) * 4) 0 (i + 1) 4, .int .i64 (i + 1)] ++ List.replicate 11 .any, [some (.c ((lookJ e (i + 1)).flatMap jobC))]⟩ (by omega) (view_takeE (sl := [.int .i64 e, .any, .any, .ms 0 ((i + 1) * 4) 0 (i + 1) 4, .int .i64 (i + 1)] ++ List.replicate 11 .any) (σ0 := [some (.c ((lookJ e (i + 1)).flatMap jobC))]) 1 (by simp [hT, jobC, numsD, List.flatMap_append, show (i + 1) * 4 = i * 4 + 4 by omega]) (by first | omega | simp) (by first | omega | (simp [hT, jobC, numsD, List.flatMap_append, show (i + 1) * 4 = i * 4 + 4 by omega]; done) | (simp [hT, jobC, numsD, List.flatMap_append, show (i + 1) * 4 = i * 4 + 4 by omega]; omega)) (by first | exact LewS.refl _ | simp [hT, jobC, numsD, List.flatMap_append, show (i + 1) * 4 = i * 4 + 4 by omega]) (by simp [BelL, Bel, hT, jobC, numsD, List.flatMap_append, show (i + 1) * 4 = i * 4 + 4 by omega]) (by simp [BelS, BelOb, BelL, Bel, hT, jobC, numsD, List.flatMap_append, show (i + 1) * 4 = i * 4 + 4 by omega])) ⟨(i + 1), ?_, rfl, rfl⟩
      omega
    · obtain rfl : i = 6 := by omega
      (refine jw_view (view_frz 0 _ rfl (by simp [BelL, Bel, hlr])) ?_; simp (maxSteps := 1000000) [thL, thD, thS, thOb, hlr])
      have htk : List.take 24 ((lookJ e 6).flatMap jobC) = (lookJ e 6).flatMap jobC := List.take_of_length_le (by omega)
      repeat' first
        | refine jw_seq_k fun K hK => ?_
        | refine jw_block ?_
        | (refine jw_skip ?_; try simp)
        | (refine jw_exit ?_; try simp)
        | (refine jw_cond rfl (fun hc => ?_) (fun hc => ?_) <;> (try simp at hc) <;> (try (exfalso; first | omega | exact absurd hc (by assumption))))
        | (refine jw_c ?_; simp (maxSteps := 1000000) [htk, jobsD])
        | (refine jw_draw_j mixed (by kernel_rfl) ?_; simp (maxSteps := 1000000) [htk, jobsD])
        | (first | (apply hK; clear hK) | (clear hK; apply hK; clear hK) | (clear hK; clear hK; apply hK; clear hK) | (clear hK; clear hK; clear hK; apply hK; clear hK))
        | (refine jw_ret (hQ _ _ (.inr rfl) (ret_ok 0 ?_ (by first | omega | simp))); simp (maxSteps := 1000000) [okRet, BelL, Bel, BelS, BelOb, htk, jobsD])
        | (refine hQ _ _ (.inl rfl) (ret_ok 0 ?_ (by first | omega | simp)); simp (maxSteps := 1000000) [okRet, BelL, Bel, BelS, BelOb, htk, jobsD])
        | (refine jd_newc rfl rfl (by simp) ?_; simp (maxSteps := 1000000) [thD, thL, htk, jobsD])
        | (refine okN_or ?_; simp (maxSteps := 1000000) [thD, thL, htk, jobsD])
        | (refine okC_guard (fun hc => ?_) (fun hc => ?_) <;> (first | simp (maxSteps := 1000000) [hc, of_decide_eq_true hc, htk, jobsD] | simp (maxSteps := 1000000) [hc, of_decide_eq_false hc, htk, jobsD] | simp (maxSteps := 1000000) [hc, htk, jobsD]) <;> (try simp at hc) <;> (try (exfalso; first | omega | exact absurd hc (by assumption))))
        | (refine okJ_guard (fun hc => ?_) (fun hc => ?_) <;> (first | simp (maxSteps := 1000000) [hc, of_decide_eq_true hc, htk, jobsD] | simp (maxSteps := 1000000) [hc, of_decide_eq_false hc, htk, jobsD] | simp (maxSteps := 1000000) [hc, htk, jobsD]) <;> (try simp at hc) <;> (try (exfalso; first | omega | exact absurd hc (by assumption))))
        | (refine And.intro (by first | assumption | omega | (simp [BelL, Bel]; done) | (simp; omega)) ?_; try simp (maxSteps := 1000000) [htk, jobsD])
        | (refine okC_or ?_; simp (maxSteps := 1000000) [htk, jobsD])
  · omega

/-- The last replies are the same. -/
theorem sameTailF {G : Globals} (a b : List Rp) (n : Nat) (hn : n ≤ 100) (hna : n ≤ a.length) (hnb : n ≤ b.length) (hla : a.length ≤ 100000) (hlb : b.length ≤ 100000) (hd : ∀ r ∈ a, r.data.length ≤ 1000000) (h : a.drop (a.length - n) = b.drop (b.length - n)) :
    FV Try.prog G 14 [rpsD a, rpsD b, .int .i64 n] (fun r => r = .bool true) := by
  refine fv_enter_v Try.func14 rfl rfl fun Q hQ => ?_
  have h1 : ¬ (a.length : Int) < n := by omega
  have h2 : ¬ (b.length : Int) < n := by omega
  repeat' first
    | refine jw_ret (hQ _ _ (.inr rfl) ⟨5, _, _, rfl, rfl, ?_⟩)
    | refine jw_ret (hQ _ _ (.inr rfl) ⟨_, rfl, ?_⟩)
    | refine jw_seq_k fun K hK => ?_
    | refine jw_block ?_
    | (refine jw_skip ?_; try simp)
    | (refine jw_exit ?_; try simp)
    | (refine jw_cond rfl (fun hc => ?_) (fun hc => ?_) <;> (try simp at hc) <;> (try (exfalso; first | omega | exact absurd hc (by assumption))))
    | (refine jw_c ?_; simp (maxSteps := 1000000) [Try.f14, rpsD, h1, h2])
    | (refine jw_draw_j mixed (by kernel_rfl) ?_; simp (maxSteps := 1000000) [Try.f14, rpsD, h1, h2])
    | (first | (apply hK; clear hK) | (clear hK; apply hK; clear hK) | (clear hK; clear hK; apply hK; clear hK) | (clear hK; clear hK; clear hK; apply hK; clear hK))
    | exact hQ _ _ (.inl rfl) ⟨5, _, _, rfl, rfl, rfl⟩
    | refine hQ _ _ (.inl rfl) ⟨5, _, _, rfl, rfl, ?_⟩
    | refine hQ _ _ (.inl rfl) ⟨_, rfl, ?_⟩
    | (refine jd_newc rfl rfl (by simp) ?_; simp (maxSteps := 1000000) [thD, thL, Try.f14, rpsD, h1, h2])
    | (refine okN_or ?_; simp (maxSteps := 1000000) [thD, thL, Try.f14, rpsD, h1, h2])
    | (refine okC_guard (fun hc => ?_) (fun hc => ?_) <;> (first | simp (maxSteps := 1000000) [hc, of_decide_eq_true hc, Try.f14, rpsD, h1, h2] | simp (maxSteps := 1000000) [hc, of_decide_eq_false hc, Try.f14, rpsD, h1, h2] | simp (maxSteps := 1000000) [hc, Try.f14, rpsD, h1, h2]) <;> (try simp at hc) <;> (try (exfalso; first | omega | exact absurd hc (by assumption))))
    | (refine okJ_guard (fun hc => ?_) (fun hc => ?_) <;> (first | simp (maxSteps := 1000000) [hc, of_decide_eq_true hc, Try.f14, rpsD, h1, h2] | simp (maxSteps := 1000000) [hc, of_decide_eq_false hc, Try.f14, rpsD, h1, h2] | simp (maxSteps := 1000000) [hc, Try.f14, rpsD, h1, h2]) <;> (try simp at hc) <;> (try (exfalso; first | omega | exact absurd hc (by assumption))))
    | (refine And.intro (by first | assumption | omega | (simp [BelL, Bel]; done) | (simp; omega)) ?_; try simp (maxSteps := 1000000) [Try.f14, rpsD, h1, h2])
    | (refine okC_or ?_; simp (maxSteps := 1000000) [Try.f14, rpsD, h1, h2])
  refine jw_loop_v (fun m z => ∃ (i : Nat), (1 ≤ i ∧ i ≤ n + 1) ∧ n + 1 - i = m ∧ z = ⟨[rpsD a, rpsD b, .int .i64 n] ++ List.replicate 4 .any ++ [.int .i64 i] ++ List.replicate 31 .any, []⟩) ⟨[rpsD a, rpsD b, .int .i64 n] ++ List.replicate 4 .any ++ [.int .i64 (1)] ++ List.replicate 31 .any, []⟩ (view_takeE (sl := [rpsD a, rpsD b, .int .i64 n] ++ List.replicate 4 .any ++ [.int .i64 (1)] ++ List.replicate 31 .any) (σ0 := []) 0 (by simp [rpsD]) (by first | omega | simp) (by first | omega | (simp [rpsD]; done) | (simp [rpsD]; omega)) (by first | exact LewS.refl _ | simp [rpsD]) (by simp [BelL, Bel, rpsD]) (by simp [BelS, BelOb, BelL, Bel, rpsD])) ⟨(1), ?_, rfl, rfl⟩ ?_
  rotate_left
  rintro m z ⟨i, hA, rfl, rfl⟩ KA hKA
  · obtain ⟨hi1, hi2⟩ := hA
    have hw := wrap_i64 (n := (i : Int) + 1) (by omega) (by omega)
    by_cases hlt : i ≤ n
    · have hwa := wrap_i64 (n := (a.length : Int) - i) (by omega) (by omega)
      have hwb := wrap_i64 (n := (b.length : Int) - i) (by omega) (by omega)
      have ha : a.length - i < a.length := by omega
      have hb : b.length - i < b.length := by omega
      have hda := flat_drop (f := rpC) (z := 4) (fun _ => rfl) a _ ha
      have hdb := flat_drop (f := rpC) (z := 4) (fun _ => rfl) b _ hb
      have hlea := flat_len (f := rpC) (z := 4) (fun _ => rfl) a
      have hleb := flat_len (f := rpC) (z := 4) (fun _ => rfl) b
      have hta : ((a.length : Int) - i).toNat = a.length - i := by omega
      have htb : ((b.length : Int) - i).toNat = b.length - i := by omega
      have he : a[a.length - i] = b[b.length - i] := by
        have e1 : (a.drop (a.length - n))[n - i]? = (b.drop (b.length - n))[n - i]? := by rw [h]
        rw [List.getElem?_drop, List.getElem?_drop, show a.length - n + (n - i) = a.length - i by omega, show b.length - n + (n - i) = b.length - i by omega, List.getElem?_eq_getElem ha, List.getElem?_eq_getElem hb] at e1
        exact Option.some.inj e1
      have hs := sameReplyF (G := G) a[a.length - i] b[b.length - i] (hd _ (List.getElem_mem ha))
      rw [he] at hs
      simp only [decide_true, rpD, rpC] at hs
      repeat' first
        | refine jw_ret (hQ _ _ (.inr rfl) ⟨5, _, _, rfl, rfl, ?_⟩)
        | refine jw_ret (hQ _ _ (.inr rfl) ⟨_, rfl, ?_⟩)
        | refine jw_seq_k fun K hK => ?_
        | refine jw_block ?_
        | (refine jw_skip ?_; try simp)
        | (refine jw_exit ?_; try simp)
        | (refine jw_cond rfl (fun hc => ?_) (fun hc => ?_) <;> (try simp at hc) <;> (try (exfalso; first | omega | exact absurd hc (by assumption))))
        | (refine jw_c ?_; simp (maxSteps := 1000000) [show (i : Int) ≤ n by omega, rpsD, rpC, hwa, hwb, hda, hdb, hlea, hleb, hta, htb, he, hw, show (0 : Int) ≤ (a.length : Int) - i by omega, show (0 : Int) ≤ (b.length : Int) - i by omega, show (a.length : Int) - i < a.length by omega, show (b.length : Int) - i < b.length by omega, show (a.length - i) * 4 < a.length * 4 by omega, show (b.length - i) * 4 < b.length * 4 by omega])
        | (refine jw_draw_j mixed (by kernel_rfl) ?_; simp (maxSteps := 1000000) [show (i : Int) ≤ n by omega, rpsD, rpC, hwa, hwb, hda, hdb, hlea, hleb, hta, htb, he, hw, show (0 : Int) ≤ (a.length : Int) - i by omega, show (0 : Int) ≤ (b.length : Int) - i by omega, show (a.length : Int) - i < a.length by omega, show (b.length : Int) - i < b.length by omega, show (a.length - i) * 4 < a.length * 4 by omega, show (b.length - i) * 4 < b.length * 4 by omega])
        | (first | (apply hK; clear hK) | (clear hK; apply hK; clear hK) | (clear hK; clear hK; apply hK; clear hK) | (clear hK; clear hK; clear hK; apply hK; clear hK))
        | exact hQ _ _ (.inl rfl) ⟨5, _, _, rfl, rfl, rfl⟩
        | refine hQ _ _ (.inl rfl) ⟨5, _, _, rfl, rfl, ?_⟩
        | refine hQ _ _ (.inl rfl) ⟨_, rfl, ?_⟩
        | (refine jl_call (f := 10) rfl rfl rfl rfl rfl (hs) (by simp [BelL, Bel]) ?_; rintro r rfl; simp (maxSteps := 1000000) [show (i : Int) ≤ n by omega, rpsD, rpC, hwa, hwb, hda, hdb, hlea, hleb, hta, htb, he, hw, show (0 : Int) ≤ (a.length : Int) - i by omega, show (0 : Int) ≤ (b.length : Int) - i by omega, show (a.length : Int) - i < a.length by omega, show (b.length : Int) - i < b.length by omega, show (a.length - i) * 4 < a.length * 4 by omega, show (b.length - i) * 4 < b.length * 4 by omega])
        | (refine jd_call (f := 10) rfl rfl rfl rfl rfl (hs) (by simp [BelL, Bel]) ?_; simp (maxSteps := 1000000) [show (i : Int) ≤ n by omega, rpsD, rpC, hwa, hwb, hda, hdb, hlea, hleb, hta, htb, he, hw, show (0 : Int) ≤ (a.length : Int) - i by omega, show (0 : Int) ≤ (b.length : Int) - i by omega, show (a.length : Int) - i < a.length by omega, show (b.length : Int) - i < b.length by omega, show (a.length - i) * 4 < a.length * 4 by omega, show (b.length - i) * 4 < b.length * 4 by omega])
        | (refine jd_newc rfl rfl (by simp) ?_; simp (maxSteps := 1000000) [thD, thL, show (i : Int) ≤ n by omega, rpsD, rpC, hwa, hwb, hda, hdb, hlea, hleb, hta, htb, he, hw, show (0 : Int) ≤ (a.length : Int) - i by omega, show (0 : Int) ≤ (b.length : Int) - i by omega, show (a.length : Int) - i < a.length by omega, show (b.length : Int) - i < b.length by omega, show (a.length - i) * 4 < a.length * 4 by omega, show (b.length - i) * 4 < b.length * 4 by omega])
        | (refine okN_or ?_; simp (maxSteps := 1000000) [thD, thL, show (i : Int) ≤ n by omega, rpsD, rpC, hwa, hwb, hda, hdb, hlea, hleb, hta, htb, he, hw, show (0 : Int) ≤ (a.length : Int) - i by omega, show (0 : Int) ≤ (b.length : Int) - i by omega, show (a.length : Int) - i < a.length by omega, show (b.length : Int) - i < b.length by omega, show (a.length - i) * 4 < a.length * 4 by omega, show (b.length - i) * 4 < b.length * 4 by omega])
        | (refine okC_guard (fun hc => ?_) (fun hc => ?_) <;> (first | simp (maxSteps := 1000000) [hc, of_decide_eq_true hc, show (i : Int) ≤ n by omega, rpsD, rpC, hwa, hwb, hda, hdb, hlea, hleb, hta, htb, he, hw, show (0 : Int) ≤ (a.length : Int) - i by omega, show (0 : Int) ≤ (b.length : Int) - i by omega, show (a.length : Int) - i < a.length by omega, show (b.length : Int) - i < b.length by omega, show (a.length - i) * 4 < a.length * 4 by omega, show (b.length - i) * 4 < b.length * 4 by omega] | simp (maxSteps := 1000000) [hc, of_decide_eq_false hc, show (i : Int) ≤ n by omega, rpsD, rpC, hwa, hwb, hda, hdb, hlea, hleb, hta, htb, he, hw, show (0 : Int) ≤ (a.length : Int) - i by omega, show (0 : Int) ≤ (b.length : Int) - i by omega, show (a.length : Int) - i < a.length by omega, show (b.length : Int) - i < b.length by omega, show (a.length - i) * 4 < a.length * 4 by omega, show (b.length - i) * 4 < b.length * 4 by omega] | simp (maxSteps := 1000000) [hc, show (i : Int) ≤ n by omega, rpsD, rpC, hwa, hwb, hda, hdb, hlea, hleb, hta, htb, he, hw, show (0 : Int) ≤ (a.length : Int) - i by omega, show (0 : Int) ≤ (b.length : Int) - i by omega, show (a.length : Int) - i < a.length by omega, show (b.length : Int) - i < b.length by omega, show (a.length - i) * 4 < a.length * 4 by omega, show (b.length - i) * 4 < b.length * 4 by omega]) <;> (try simp at hc) <;> (try (exfalso; first | omega | exact absurd hc (by assumption))))
        | (refine okJ_guard (fun hc => ?_) (fun hc => ?_) <;> (first | simp (maxSteps := 1000000) [hc, of_decide_eq_true hc, show (i : Int) ≤ n by omega, rpsD, rpC, hwa, hwb, hda, hdb, hlea, hleb, hta, htb, he, hw, show (0 : Int) ≤ (a.length : Int) - i by omega, show (0 : Int) ≤ (b.length : Int) - i by omega, show (a.length : Int) - i < a.length by omega, show (b.length : Int) - i < b.length by omega, show (a.length - i) * 4 < a.length * 4 by omega, show (b.length - i) * 4 < b.length * 4 by omega] | simp (maxSteps := 1000000) [hc, of_decide_eq_false hc, show (i : Int) ≤ n by omega, rpsD, rpC, hwa, hwb, hda, hdb, hlea, hleb, hta, htb, he, hw, show (0 : Int) ≤ (a.length : Int) - i by omega, show (0 : Int) ≤ (b.length : Int) - i by omega, show (a.length : Int) - i < a.length by omega, show (b.length : Int) - i < b.length by omega, show (a.length - i) * 4 < a.length * 4 by omega, show (b.length - i) * 4 < b.length * 4 by omega] | simp (maxSteps := 1000000) [hc, show (i : Int) ≤ n by omega, rpsD, rpC, hwa, hwb, hda, hdb, hlea, hleb, hta, htb, he, hw, show (0 : Int) ≤ (a.length : Int) - i by omega, show (0 : Int) ≤ (b.length : Int) - i by omega, show (a.length : Int) - i < a.length by omega, show (b.length : Int) - i < b.length by omega, show (a.length - i) * 4 < a.length * 4 by omega, show (b.length - i) * 4 < b.length * 4 by omega]) <;> (try simp at hc) <;> (try (exfalso; first | omega | exact absurd hc (by assumption))))
        | (refine And.intro (by first | assumption | omega | (simp [BelL, Bel]; done) | (simp; omega)) ?_; try simp (maxSteps := 1000000) [show (i : Int) ≤ n by omega, rpsD, rpC, hwa, hwb, hda, hdb, hlea, hleb, hta, htb, he, hw, show (0 : Int) ≤ (a.length : Int) - i by omega, show (0 : Int) ≤ (b.length : Int) - i by omega, show (a.length : Int) - i < a.length by omega, show (b.length : Int) - i < b.length by omega, show (a.length - i) * 4 < a.length * 4 by omega, show (b.length - i) * 4 < b.length * 4 by omega])
        | (refine okC_or ?_; simp (maxSteps := 1000000) [show (i : Int) ≤ n by omega, rpsD, rpC, hwa, hwb, hda, hdb, hlea, hleb, hta, htb, he, hw, show (0 : Int) ≤ (a.length : Int) - i by omega, show (0 : Int) ≤ (b.length : Int) - i by omega, show (a.length : Int) - i < a.length by omega, show (b.length : Int) - i < b.length by omega, show (a.length - i) * 4 < a.length * 4 by omega, show (b.length - i) * 4 < b.length * 4 by omega])
      refine hKA (n + 1 - (i + 1)) _ ⟨[rpsD a, rpsD b, .int .i64 n] ++ List.replicate 4 .any ++ [.int .i64 (i + 1)] ++ List.replicate 31 .any, []⟩ (by omega) (view_takeE (sl := [rpsD a, rpsD b, .int .i64 n] ++ List.replicate 4 .any ++ [.int .i64 (i + 1)] ++ List.replicate 31 .any) (σ0 := []) 0 (by simp [rpsD]) (by first | omega | simp) (by first | omega | (simp [rpsD]; done) | (simp [rpsD]; omega)) (by first | exact LewS.refl _ | simp [rpsD]) (by simp [BelL, Bel, rpsD]) (by simp [BelS, BelOb, BelL, Bel, rpsD])) ⟨(i + 1), ?_, rfl, rfl⟩
      omega
    · repeat' first
        | refine jw_seq_k fun K hK => ?_
        | refine jw_block ?_
        | (refine jw_skip ?_; try simp)
        | (refine jw_exit ?_; try simp)
        | (refine jw_cond rfl (fun hc => ?_) (fun hc => ?_) <;> (try simp at hc) <;> (try (exfalso; first | omega | exact absurd hc (by assumption))))
        | (refine jw_c ?_; simp (maxSteps := 1000000) [show ¬ (i : Int) ≤ n by omega])
        | (refine jw_draw_j mixed (by kernel_rfl) ?_; simp (maxSteps := 1000000) [show ¬ (i : Int) ≤ n by omega])
        | (first | (apply hK; clear hK) | (clear hK; apply hK; clear hK) | (clear hK; clear hK; apply hK; clear hK) | (clear hK; clear hK; clear hK; apply hK; clear hK))
        | (refine jw_ret (hQ _ _ (.inr rfl) (ret_ok 0 ?_ (by first | omega | simp))); simp (maxSteps := 1000000) [okRet, BelL, Bel, BelS, BelOb, show ¬ (i : Int) ≤ n by omega])
        | (refine hQ _ _ (.inl rfl) (ret_ok 0 ?_ (by first | omega | simp)); simp (maxSteps := 1000000) [okRet, BelL, Bel, BelS, BelOb, show ¬ (i : Int) ≤ n by omega])
        | (refine jd_newc rfl rfl (by simp) ?_; simp (maxSteps := 1000000) [thD, thL, show ¬ (i : Int) ≤ n by omega])
        | (refine okN_or ?_; simp (maxSteps := 1000000) [thD, thL, show ¬ (i : Int) ≤ n by omega])
        | (refine okC_guard (fun hc => ?_) (fun hc => ?_) <;> (first | simp (maxSteps := 1000000) [hc, of_decide_eq_true hc, show ¬ (i : Int) ≤ n by omega] | simp (maxSteps := 1000000) [hc, of_decide_eq_false hc, show ¬ (i : Int) ≤ n by omega] | simp (maxSteps := 1000000) [hc, show ¬ (i : Int) ≤ n by omega]) <;> (try simp at hc) <;> (try (exfalso; first | omega | exact absurd hc (by assumption))))
        | (refine okJ_guard (fun hc => ?_) (fun hc => ?_) <;> (first | simp (maxSteps := 1000000) [hc, of_decide_eq_true hc, show ¬ (i : Int) ≤ n by omega] | simp (maxSteps := 1000000) [hc, of_decide_eq_false hc, show ¬ (i : Int) ≤ n by omega] | simp (maxSteps := 1000000) [hc, show ¬ (i : Int) ≤ n by omega]) <;> (try simp at hc) <;> (try (exfalso; first | omega | exact absurd hc (by assumption))))
        | (refine And.intro (by first | assumption | omega | (simp [BelL, Bel]; done) | (simp; omega)) ?_; try simp (maxSteps := 1000000) [show ¬ (i : Int) ≤ n by omega])
        | (refine okC_or ?_; simp (maxSteps := 1000000) [show ¬ (i : Int) ≤ n by omega])
  · omega

/-- Play, of jobs that stand in the store. -/
theorem playZ {G : Globals} (js : List Job) (hn : js.length ≤ 400) (hd : ∀ j ∈ js, j.data.length ≤ 100000) (k v n : Nat) (σ : Store) (hv : v = js.length * 4) (hn' : n = js.length) (h : σ[k]? = some (some (.c (js.flatMap jobC)))) :
    FC Try.prog G 9 [.ms k v 0 n 4] σ (fun d σ' => d = .tup [rpsD (runU un0 js).1, .int .i64 0] ∧ σ' = thS k (js.flatMap jobC) σ) := by
  subst hv hn'
  have hl := flat_len (f := jobC) (z := 4) (fun _ => rfl) js
  refine fc_frz k _ h (belL_jobs 0 js) ?_
  have e : thL k (js.flatMap jobC) [.ms k (js.length * 4) 0 js.length 4] = [jobsD js] := by
    simp [thL, thD, hl, jobsD, List.take_of_length_le]
  rw [e]
  exact (fc_val (playF js hn hd) ⟨bel_jobs 0 js, trivial⟩).mono fun d σ' h => h
end Go.Proofs.Ytkjliaapdjapmaa
