/- May an expression be asked: the walks. Eval. -/
import Derived.Test.YtmgoekfgdgejiaaDoorEvGo
set_option linter.unusedVariables false
set_option linter.unusedSimpArgs false
set_option maxRecDepth 20000
set_option maxHeartbeats 20000000
namespace Go.Proofs.YtmgoekfgdgejiaaDoor
open Go Go.Vm Go.Proofs

theorem ba0 : (ByteArray.mk #[]).toList = [] := ByteArray.toList_eq _
theorem ba1 : (ByteArray.mk #[]).size = 0 := rfl
theorem ba2 : ByteArray.mk #[] ++ ByteArray.mk #[] = ByteArray.mk #[] := by decide
def placedD (w : Nat) : D := .fn (.func 39) [] [.ref [.int .i64 w]]
/-- What is no place. -/
theorem formNo {G : Globals} (w : Nat) (k : Int) {e : Ex} (ho : opE e ≠ 3) (h3 : ∀ p, e ≠ .plc p) : FV Tryd.prog G 39 [exD e, .int .i64 k, .ref [.int .i64 w]] (fun r => ∃ b, r = .tup [.bool b, .bool false]) := by
  refine fv_enter_v Tryd.func39 rfl rfl fun Q hQ => ?_
  unfold exD
  cases e with
  | con v =>
    repeat' first
      | refine jw_ret (hQ _ _ (.inr rfl) ⟨5, _, _, rfl, rfl, ?_⟩)
      | refine jw_ret (hQ _ _ (.inr rfl) ⟨_, rfl, ?_⟩)
      | refine jw_seq_k fun K hK => ?_
      | refine jw_block ?_
      | ((first | refine jw_skip ?_ | refine jw_exit ?_); try simp)
      | (refine jw_cond rfl (fun hc => ?_) (fun hc => ?_) <;> (try simp at hc) <;> (try (exfalso; first | omega | exact absurd hc (by assumption))))
      | ((fail_if_success (refine jw_c (id := 1) ?_)); (refine jw_c ?_; simp (maxSteps := 1000000) [Tryd.f39, exC]))
      | ((fail_if_success (refine jw_draw_j (id := 1) mixed (by kernel_rfl) ?_)); (refine jw_draw_j mixed (by kernel_rfl) ?_; simp (maxSteps := 1000000) [Tryd.f39, exC]))
      | (first | (apply hK; clear hK) | (clear hK; apply hK; clear hK) | (clear hK; clear hK; apply hK; clear hK) | (clear hK; clear hK; clear hK; apply hK; clear hK))
      | exact hQ _ _ (.inl rfl) ⟨5, _, _, rfl, rfl, rfl⟩
      | refine hQ _ _ (.inl rfl) ⟨5, _, _, rfl, rfl, ?_⟩
      | refine hQ _ _ (.inl rfl) ⟨_, rfl, ?_⟩
      | ((first | refine jd_newc rfl rfl (by simp) ?_ | refine okN_or ?_); simp (maxSteps := 1000000) [thD, thL, Tryd.f39, exC])
      | ((first | refine okC_guard (fun hc => ?_) (fun hc => ?_) | refine okJ_guard (fun hc => ?_) (fun hc => ?_)) <;> (first | have hd := of_decide_eq_true hc | have hd := of_decide_eq_false hc | have hd := hc) <;> simp (maxSteps := 1000000) [hc, hd, Tryd.f39, exC] <;> (try simp at hc) <;> (try (exfalso; first | omega | exact absurd hc (by assumption))))
      | (refine And.intro (by first | assumption | omega | (simp [BelL, Bel]; done) | (simp; omega)) ?_; try simp (maxSteps := 1000000) [Tryd.f39, exC])
      | (refine okC_or ?_; simp (maxSteps := 1000000) [Tryd.f39, exC])
    (refine jw_view (view_frz 0 _ rfl (by simp [BelL, Bel, thL_flat])) ?_; simp (maxSteps := 1000000) [thL, thD, thS, thOb, thL_flat])
    repeat' first
      | refine jw_seq_k fun K hK => ?_
      | refine jw_block ?_
      | ((first | refine jw_skip ?_ | refine jw_exit ?_); try simp)
      | (refine jw_cond rfl (fun hc => ?_) (fun hc => ?_) <;> (try simp at hc) <;> (try (exfalso; first | omega | exact absurd hc (by assumption))))
      | ((first | refine jw_c ?_ | refine jw_draw_j mixed (by kernel_rfl) ?_); simp (maxSteps := 1000000) [ba0, ba1, ba2])
      | (first | (apply hK; clear hK) | (clear hK; apply hK; clear hK) | (clear hK; clear hK; apply hK; clear hK) | (clear hK; clear hK; clear hK; apply hK; clear hK))
      | ((first | refine jw_ret (hQ _ _ (.inr rfl) (ret_ok 0 ?_ (by first | omega | simp))) | refine hQ _ _ (.inl rfl) (ret_ok 0 ?_ (by first | omega | simp))); simp (maxSteps := 1000000) [okRet, BelL, Bel, BelS, BelOb, ba0, ba1, ba2])
      | ((first | refine jd_newc rfl rfl (by simp) ?_ | refine okN_or ?_); simp (maxSteps := 1000000) [thD, thL, ba0, ba1, ba2])
      | ((first | refine okC_guard (fun hc => ?_) (fun hc => ?_) | refine okJ_guard (fun hc => ?_) (fun hc => ?_)) <;> (first | have hd := of_decide_eq_true hc | have hd := of_decide_eq_false hc | have hd := hc) <;> simp (maxSteps := 1000000) [hc, hd, ba0, ba1, ba2] <;> (try simp at hc) <;> (try (exfalso; first | omega | exact absurd hc (by assumption))))
      | (refine And.intro (by first | assumption | omega | (simp [BelL, Bel]; done) | (simp; omega)) ?_; try simp (maxSteps := 1000000) [ba0, ba1, ba2])
      | (refine okC_or ?_; simp (maxSteps := 1000000) [ba0, ba1, ba2])
    all_goals exact ⟨_, rfl⟩
  | plc p => exact absurd rfl (h3 p)
  | un op a =>
    have ho : ¬ op = 3 := ho
    repeat' first
      | refine jw_ret (hQ _ _ (.inr rfl) ⟨5, _, _, rfl, rfl, ?_⟩)
      | refine jw_ret (hQ _ _ (.inr rfl) ⟨_, rfl, ?_⟩)
      | refine jw_seq_k fun K hK => ?_
      | refine jw_block ?_
      | ((first | refine jw_skip ?_ | refine jw_exit ?_); try simp)
      | (refine jw_cond rfl (fun hc => ?_) (fun hc => ?_) <;> (try simp at hc) <;> (try (exfalso; first | omega | exact absurd hc (by assumption))))
      | ((fail_if_success (refine jw_c (id := 1) ?_)); (refine jw_c ?_; simp (maxSteps := 1000000) [Tryd.f39, exC]))
      | ((fail_if_success (refine jw_draw_j (id := 1) mixed (by kernel_rfl) ?_)); (refine jw_draw_j mixed (by kernel_rfl) ?_; simp (maxSteps := 1000000) [Tryd.f39, exC]))
      | (first | (apply hK; clear hK) | (clear hK; apply hK; clear hK) | (clear hK; clear hK; apply hK; clear hK) | (clear hK; clear hK; clear hK; apply hK; clear hK))
      | exact hQ _ _ (.inl rfl) ⟨5, _, _, rfl, rfl, rfl⟩
      | refine hQ _ _ (.inl rfl) ⟨5, _, _, rfl, rfl, ?_⟩
      | refine hQ _ _ (.inl rfl) ⟨_, rfl, ?_⟩
      | ((first | refine jd_newc rfl rfl (by simp) ?_ | refine okN_or ?_); simp (maxSteps := 1000000) [thD, thL, Tryd.f39, exC])
      | ((first | refine okC_guard (fun hc => ?_) (fun hc => ?_) | refine okJ_guard (fun hc => ?_) (fun hc => ?_)) <;> (first | have hd := of_decide_eq_true hc | have hd := of_decide_eq_false hc | have hd := hc) <;> simp (maxSteps := 1000000) [hc, hd, Tryd.f39, exC] <;> (try simp at hc) <;> (try (exfalso; first | omega | exact absurd hc (by assumption))))
      | (refine And.intro (by first | assumption | omega | (simp [BelL, Bel]; done) | (simp; omega)) ?_; try simp (maxSteps := 1000000) [Tryd.f39, exC])
      | (refine okC_or ?_; simp (maxSteps := 1000000) [Tryd.f39, exC])
    (refine jw_view (view_frz 0 _ rfl (by simp [BelL, Bel, thL_flat])) ?_; simp (maxSteps := 1000000) [thL, thD, thS, thOb, thL_flat])
    repeat' first
      | refine jw_seq_k fun K hK => ?_
      | refine jw_block ?_
      | ((first | refine jw_skip ?_ | refine jw_exit ?_); try simp)
      | (refine jw_cond rfl (fun hc => ?_) (fun hc => ?_) <;> (try simp at hc) <;> (try (exfalso; first | omega | exact absurd hc (by assumption))))
      | ((first | refine jw_c ?_ | refine jw_draw_j mixed (by kernel_rfl) ?_); simp (maxSteps := 1000000) [ho, ba0, ba1, ba2])
      | (first | (apply hK; clear hK) | (clear hK; apply hK; clear hK) | (clear hK; clear hK; apply hK; clear hK) | (clear hK; clear hK; clear hK; apply hK; clear hK))
      | ((first | refine jw_ret (hQ _ _ (.inr rfl) (ret_ok 0 ?_ (by first | omega | simp))) | refine hQ _ _ (.inl rfl) (ret_ok 0 ?_ (by first | omega | simp))); simp (maxSteps := 1000000) [okRet, BelL, Bel, BelS, BelOb, ho, ba0, ba1, ba2])
      | ((first | refine jd_newc rfl rfl (by simp) ?_ | refine okN_or ?_); simp (maxSteps := 1000000) [thD, thL, ho, ba0, ba1, ba2])
      | ((first | refine okC_guard (fun hc => ?_) (fun hc => ?_) | refine okJ_guard (fun hc => ?_) (fun hc => ?_)) <;> (first | have hd := of_decide_eq_true hc | have hd := of_decide_eq_false hc | have hd := hc) <;> simp (maxSteps := 1000000) [hc, hd, ho, ba0, ba1, ba2] <;> (try simp at hc) <;> (try (exfalso; first | omega | exact absurd hc (by assumption))))
      | (refine And.intro (by first | assumption | omega | (simp [BelL, Bel]; done) | (simp; omega)) ?_; try simp (maxSteps := 1000000) [ho, ba0, ba1, ba2])
      | (refine okC_or ?_; simp (maxSteps := 1000000) [ho, ba0, ba1, ba2])
    all_goals exact ⟨_, rfl⟩
  | bin op a b =>
    have ho : ¬ op = 3 := ho
    repeat' first
      | refine jw_ret (hQ _ _ (.inr rfl) ⟨5, _, _, rfl, rfl, ?_⟩)
      | refine jw_ret (hQ _ _ (.inr rfl) ⟨_, rfl, ?_⟩)
      | refine jw_seq_k fun K hK => ?_
      | refine jw_block ?_
      | ((first | refine jw_skip ?_ | refine jw_exit ?_); try simp)
      | (refine jw_cond rfl (fun hc => ?_) (fun hc => ?_) <;> (try simp at hc) <;> (try (exfalso; first | omega | exact absurd hc (by assumption))))
      | ((fail_if_success (refine jw_c (id := 1) ?_)); (refine jw_c ?_; simp (maxSteps := 1000000) [Tryd.f39, exC]))
      | ((fail_if_success (refine jw_draw_j (id := 1) mixed (by kernel_rfl) ?_)); (refine jw_draw_j mixed (by kernel_rfl) ?_; simp (maxSteps := 1000000) [Tryd.f39, exC]))
      | (first | (apply hK; clear hK) | (clear hK; apply hK; clear hK) | (clear hK; clear hK; apply hK; clear hK) | (clear hK; clear hK; clear hK; apply hK; clear hK))
      | exact hQ _ _ (.inl rfl) ⟨5, _, _, rfl, rfl, rfl⟩
      | refine hQ _ _ (.inl rfl) ⟨5, _, _, rfl, rfl, ?_⟩
      | refine hQ _ _ (.inl rfl) ⟨_, rfl, ?_⟩
      | ((first | refine jd_newc rfl rfl (by simp) ?_ | refine okN_or ?_); simp (maxSteps := 1000000) [thD, thL, Tryd.f39, exC])
      | ((first | refine okC_guard (fun hc => ?_) (fun hc => ?_) | refine okJ_guard (fun hc => ?_) (fun hc => ?_)) <;> (first | have hd := of_decide_eq_true hc | have hd := of_decide_eq_false hc | have hd := hc) <;> simp (maxSteps := 1000000) [hc, hd, Tryd.f39, exC] <;> (try simp at hc) <;> (try (exfalso; first | omega | exact absurd hc (by assumption))))
      | (refine And.intro (by first | assumption | omega | (simp [BelL, Bel]; done) | (simp; omega)) ?_; try simp (maxSteps := 1000000) [Tryd.f39, exC])
      | (refine okC_or ?_; simp (maxSteps := 1000000) [Tryd.f39, exC])
    (refine jw_view (view_frz 0 _ rfl (by simp [BelL, Bel, thL_flat])) ?_; simp (maxSteps := 1000000) [thL, thD, thS, thOb, thL_flat])
    repeat' first
      | refine jw_seq_k fun K hK => ?_
      | refine jw_block ?_
      | ((first | refine jw_skip ?_ | refine jw_exit ?_); try simp)
      | (refine jw_cond rfl (fun hc => ?_) (fun hc => ?_) <;> (try simp at hc) <;> (try (exfalso; first | omega | exact absurd hc (by assumption))))
      | ((first | refine jw_c ?_ | refine jw_draw_j mixed (by kernel_rfl) ?_); simp (maxSteps := 1000000) [ho, ba0, ba1, ba2])
      | (first | (apply hK; clear hK) | (clear hK; apply hK; clear hK) | (clear hK; clear hK; apply hK; clear hK) | (clear hK; clear hK; clear hK; apply hK; clear hK))
      | ((first | refine jw_ret (hQ _ _ (.inr rfl) (ret_ok 0 ?_ (by first | omega | simp))) | refine hQ _ _ (.inl rfl) (ret_ok 0 ?_ (by first | omega | simp))); simp (maxSteps := 1000000) [okRet, BelL, Bel, BelS, BelOb, ho, ba0, ba1, ba2])
      | ((first | refine jd_newc rfl rfl (by simp) ?_ | refine okN_or ?_); simp (maxSteps := 1000000) [thD, thL, ho, ba0, ba1, ba2])
      | ((first | refine okC_guard (fun hc => ?_) (fun hc => ?_) | refine okJ_guard (fun hc => ?_) (fun hc => ?_)) <;> (first | have hd := of_decide_eq_true hc | have hd := of_decide_eq_false hc | have hd := hc) <;> simp (maxSteps := 1000000) [hc, hd, ho, ba0, ba1, ba2] <;> (try simp at hc) <;> (try (exfalso; first | omega | exact absurd hc (by assumption))))
      | (refine And.intro (by first | assumption | omega | (simp [BelL, Bel]; done) | (simp; omega)) ?_; try simp (maxSteps := 1000000) [ho, ba0, ba1, ba2])
      | (refine okC_or ?_; simp (maxSteps := 1000000) [ho, ba0, ba1, ba2])
    all_goals exact ⟨_, rfl⟩
theorem formYes {G : Globals} {w p : Nat} (k : Int) (h : p < w) : FV Tryd.prog G 39 [exD (.plc p), .int .i64 k, .ref [.int .i64 w]] (fun r => r = .tup [.bool true, .bool true]) := by
  refine fv_enter_v Tryd.func39 rfl rfl fun Q hQ => ?_
  unfold exD exC
  repeat' first
    | refine jw_ret (hQ _ _ (.inr rfl) ⟨5, _, _, rfl, rfl, ?_⟩)
    | refine jw_ret (hQ _ _ (.inr rfl) ⟨_, rfl, ?_⟩)
    | refine jw_seq_k fun K hK => ?_
    | refine jw_block ?_
    | ((first | refine jw_skip ?_ | refine jw_exit ?_); try simp)
    | (refine jw_cond rfl (fun hc => ?_) (fun hc => ?_) <;> (try simp at hc) <;> (try (exfalso; first | omega | exact absurd hc (by assumption))))
    | ((fail_if_success (refine jw_c (id := 1) ?_)); (refine jw_c ?_; simp (maxSteps := 1000000) [Tryd.f39]))
    | ((fail_if_success (refine jw_draw_j (id := 1) mixed (by kernel_rfl) ?_)); (refine jw_draw_j mixed (by kernel_rfl) ?_; simp (maxSteps := 1000000) [Tryd.f39]))
    | (first | (apply hK; clear hK) | (clear hK; apply hK; clear hK) | (clear hK; clear hK; apply hK; clear hK) | (clear hK; clear hK; clear hK; apply hK; clear hK))
    | exact hQ _ _ (.inl rfl) ⟨5, _, _, rfl, rfl, rfl⟩
    | refine hQ _ _ (.inl rfl) ⟨5, _, _, rfl, rfl, ?_⟩
    | refine hQ _ _ (.inl rfl) ⟨_, rfl, ?_⟩
    | ((first | refine jd_newc rfl rfl (by simp) ?_ | refine okN_or ?_); simp (maxSteps := 1000000) [thD, thL, Tryd.f39])
    | ((first | refine okC_guard (fun hc => ?_) (fun hc => ?_) | refine okJ_guard (fun hc => ?_) (fun hc => ?_)) <;> (first | have hd := of_decide_eq_true hc | have hd := of_decide_eq_false hc | have hd := hc) <;> simp (maxSteps := 1000000) [hc, hd, Tryd.f39] <;> (try simp at hc) <;> (try (exfalso; first | omega | exact absurd hc (by assumption))))
    | (refine And.intro (by first | assumption | omega | (simp [BelL, Bel]; done) | (simp; omega)) ?_; try simp (maxSteps := 1000000) [Tryd.f39])
    | (refine okC_or ?_; simp (maxSteps := 1000000) [Tryd.f39])
  (refine jw_view (view_frz 0 _ rfl (by simp [BelL, Bel, thL_flat])) ?_; simp (maxSteps := 1000000) [thL, thD, thS, thOb, thL_flat])
  repeat' first
    | refine jw_seq_k fun K hK => ?_
    | refine jw_block ?_
    | ((first | refine jw_skip ?_ | refine jw_exit ?_); try simp)
    | (refine jw_cond rfl (fun hc => ?_) (fun hc => ?_) <;> (try simp at hc) <;> (try (exfalso; first | omega | exact absurd hc (by assumption))))
    | ((first | refine jw_c ?_ | refine jw_draw_j mixed (by kernel_rfl) ?_); simp (maxSteps := 1000000) [h, show (p : Int) < w by omega, ba0, ba1, ba2])
    | (first | (apply hK; clear hK) | (clear hK; apply hK; clear hK) | (clear hK; clear hK; apply hK; clear hK) | (clear hK; clear hK; clear hK; apply hK; clear hK))
    | ((first | refine jw_ret (hQ _ _ (.inr rfl) (ret_ok 0 ?_ (by first | omega | simp))) | refine hQ _ _ (.inl rfl) (ret_ok 0 ?_ (by first | omega | simp))); simp (maxSteps := 1000000) [okRet, BelL, Bel, BelS, BelOb, h, show (p : Int) < w by omega, ba0, ba1, ba2])
    | ((first | refine jd_newc rfl rfl (by simp) ?_ | refine okN_or ?_); simp (maxSteps := 1000000) [thD, thL, h, show (p : Int) < w by omega, ba0, ba1, ba2])
    | ((first | refine okC_guard (fun hc => ?_) (fun hc => ?_) | refine okJ_guard (fun hc => ?_) (fun hc => ?_)) <;> (first | have hd := of_decide_eq_true hc | have hd := of_decide_eq_false hc | have hd := hc) <;> simp (maxSteps := 1000000) [hc, hd, h, show (p : Int) < w by omega, ba0, ba1, ba2] <;> (try simp at hc) <;> (try (exfalso; first | omega | exact absurd hc (by assumption))))
    | (refine And.intro (by first | assumption | omega | (simp [BelL, Bel]; done) | (simp; omega)) ?_; try simp (maxSteps := 1000000) [h, show (p : Int) < w by omega, ba0, ba1, ba2])
    | (refine okC_or ?_; simp (maxSteps := 1000000) [h, show (p : Int) < w by omega, ba0, ba1, ba2])
def subsN : Ex → Nat
  | .con _ => 0
  | .plc _ => 0
  | .un _ _ => 1
  | .bin _ _ _ => 2
theorem partsF {G : Globals} {e : Ex} (h : (∃ v, e = .con v) ∨ (∃ op a, e = .un op a ∧ 4 ≤ op ∧ op ≤ 7) ∨ ∃ op a b, e = .bin op a b ∧ 8 ≤ op ∧ op ≤ 20) : FV Tryd.prog G 44 [exD e] (fun r => r = .int .i64 (subsN e)) := by
  unfold exD
  refine fv_enter_v Tryd.func44 rfl rfl fun Q hQ => ?_
  rcases h with ⟨v, rfl⟩ | ⟨op, a, rfl, h1, h2⟩ | ⟨op, a, b, rfl, h1, h2⟩
  · repeat' first
      | refine jw_seq_k fun K hK => ?_
      | refine jw_block ?_
      | ((first | refine jw_skip ?_ | refine jw_exit ?_); try simp)
      | (refine jw_cond rfl (fun hc => ?_) (fun hc => ?_) <;> (try simp at hc) <;> (try (exfalso; first | omega | exact absurd hc (by assumption))))
      | ((first | refine jw_c ?_ | refine jw_draw_j mixed (by kernel_rfl) ?_); simp (maxSteps := 1000000) [Tryd.f44, exC, subsN])
      | (first | (apply hK; clear hK) | (clear hK; apply hK; clear hK) | (clear hK; clear hK; apply hK; clear hK) | (clear hK; clear hK; clear hK; apply hK; clear hK))
      | ((first | refine jw_ret (hQ _ _ (.inr rfl) (ret_ok 0 ?_ (by first | omega | simp))) | refine hQ _ _ (.inl rfl) (ret_ok 0 ?_ (by first | omega | simp))); simp (maxSteps := 1000000) [okRet, BelL, Bel, BelS, BelOb, Tryd.f44, exC, subsN])
      | ((first | refine jd_newc rfl rfl (by simp) ?_ | refine okN_or ?_); simp (maxSteps := 1000000) [thD, thL, Tryd.f44, exC, subsN])
      | ((first | refine okC_guard (fun hc => ?_) (fun hc => ?_) | refine okJ_guard (fun hc => ?_) (fun hc => ?_)) <;> (first | have hd := of_decide_eq_true hc | have hd := of_decide_eq_false hc | have hd := hc) <;> simp (maxSteps := 1000000) [hc, hd, Tryd.f44, exC, subsN] <;> (try simp at hc) <;> (try (exfalso; first | omega | exact absurd hc (by assumption))))
      | (refine And.intro (by first | assumption | omega | (simp [BelL, Bel]; done) | (simp; omega)) ?_; try simp (maxSteps := 1000000) [Tryd.f44, exC, subsN])
      | (refine okC_or ?_; simp (maxSteps := 1000000) [Tryd.f44, exC, subsN])
  · repeat' first
      | refine jw_seq_k fun K hK => ?_
      | refine jw_block ?_
      | ((first | refine jw_skip ?_ | refine jw_exit ?_); try simp)
      | (refine jw_cond rfl (fun hc => ?_) (fun hc => ?_) <;> (try simp at hc) <;> (try (exfalso; first | omega | exact absurd hc (by assumption))))
      | ((first | refine jw_c ?_ | refine jw_draw_j mixed (by kernel_rfl) ?_); simp (maxSteps := 1000000) [Tryd.f44, exC, subsN, h1, h2, show ¬ op = 1 by omega])
      | (first | (apply hK; clear hK) | (clear hK; apply hK; clear hK) | (clear hK; clear hK; apply hK; clear hK) | (clear hK; clear hK; clear hK; apply hK; clear hK))
      | ((first | refine jw_ret (hQ _ _ (.inr rfl) (ret_ok 0 ?_ (by first | omega | simp))) | refine hQ _ _ (.inl rfl) (ret_ok 0 ?_ (by first | omega | simp))); simp (maxSteps := 1000000) [okRet, BelL, Bel, BelS, BelOb, Tryd.f44, exC, subsN, h1, h2, show ¬ op = 1 by omega])
      | ((first | refine jd_newc rfl rfl (by simp) ?_ | refine okN_or ?_); simp (maxSteps := 1000000) [thD, thL, Tryd.f44, exC, subsN, h1, h2, show ¬ op = 1 by omega])
      | ((first | refine okC_guard (fun hc => ?_) (fun hc => ?_) | refine okJ_guard (fun hc => ?_) (fun hc => ?_)) <;> (first | have hd := of_decide_eq_true hc | have hd := of_decide_eq_false hc | have hd := hc) <;> simp (maxSteps := 1000000) [hc, hd, Tryd.f44, exC, subsN, h1, h2, show ¬ op = 1 by omega] <;> (try simp at hc) <;> (try (exfalso; first | omega | exact absurd hc (by assumption))))
      | (refine And.intro (by first | assumption | omega | (simp [BelL, Bel]; done) | (simp; omega)) ?_; try simp (maxSteps := 1000000) [Tryd.f44, exC, subsN, h1, h2, show ¬ op = 1 by omega])
      | (refine okC_or ?_; simp (maxSteps := 1000000) [Tryd.f44, exC, subsN, h1, h2, show ¬ op = 1 by omega])
  · repeat' first
      | refine jw_seq_k fun K hK => ?_
      | refine jw_block ?_
      | ((first | refine jw_skip ?_ | refine jw_exit ?_); try simp)
      | (refine jw_cond rfl (fun hc => ?_) (fun hc => ?_) <;> (try simp at hc) <;> (try (exfalso; first | omega | exact absurd hc (by assumption))))
      | ((first | refine jw_c ?_ | refine jw_draw_j mixed (by kernel_rfl) ?_); simp (maxSteps := 1000000) [Tryd.f44, exC, subsN, h1, h2, show ¬ op = 1 by omega, show ¬ op ≤ 7 by omega, show 4 ≤ op by omega])
      | (first | (apply hK; clear hK) | (clear hK; apply hK; clear hK) | (clear hK; clear hK; apply hK; clear hK) | (clear hK; clear hK; clear hK; apply hK; clear hK))
      | ((first | refine jw_ret (hQ _ _ (.inr rfl) (ret_ok 0 ?_ (by first | omega | simp))) | refine hQ _ _ (.inl rfl) (ret_ok 0 ?_ (by first | omega | simp))); simp (maxSteps := 1000000) [okRet, BelL, Bel, BelS, BelOb, Tryd.f44, exC, subsN, h1, h2, show ¬ op = 1 by omega, show ¬ op ≤ 7 by omega, show 4 ≤ op by omega])
      | ((first | refine jd_newc rfl rfl (by simp) ?_ | refine okN_or ?_); simp (maxSteps := 1000000) [thD, thL, Tryd.f44, exC, subsN, h1, h2, show ¬ op = 1 by omega, show ¬ op ≤ 7 by omega, show 4 ≤ op by omega])
      | ((first | refine okC_guard (fun hc => ?_) (fun hc => ?_) | refine okJ_guard (fun hc => ?_) (fun hc => ?_)) <;> (first | have hd := of_decide_eq_true hc | have hd := of_decide_eq_false hc | have hd := hc) <;> simp (maxSteps := 1000000) [hc, hd, Tryd.f44, exC, subsN, h1, h2, show ¬ op = 1 by omega, show ¬ op ≤ 7 by omega, show 4 ≤ op by omega] <;> (try simp at hc) <;> (try (exfalso; first | omega | exact absurd hc (by assumption))))
      | (refine And.intro (by first | assumption | omega | (simp [BelL, Bel]; done) | (simp; omega)) ?_; try simp (maxSteps := 1000000) [Tryd.f44, exC, subsN, h1, h2, show ¬ op = 1 by omega, show ¬ op ≤ 7 by omega, show 4 ≤ op by omega])
      | (refine okC_or ?_; simp (maxSteps := 1000000) [Tryd.f44, exC, subsN, h1, h2, show ¬ op = 1 by omega, show ¬ op ≤ 7 by omega, show 4 ≤ op by omega])
theorem mayF {G : Globals} (hV : VStr G) {ts : List Int} : ∀ (e : Ex) (t : Int), wt ts e t → ∀ k : Nat, k + dp e ≤ 12 → FV Tryd.prog G 38 [exD e, placedD ts.length, .int .i64 k] (fun r => r = .bool true)
  | .con v, t, h, k, hk => by
    have hF := formNo (G := G) ts.length k (e := .con v) (by simp [opE]) (by intro p; simp)
    have hP := partsF (G := G) (e := .con v) (.inl ⟨v, rfl⟩)
    have hC := checkV hV h.1
    simp only [dp] at hk
    unfold exD exC vlD vlC at *
    unfold placedD subsN at *
    refine fv_enter_v Tryd.func38 rfl rfl fun Q hQ => ?_
    repeat' first
      | refine jw_ret (hQ _ _ (.inr rfl) ⟨5, _, _, rfl, rfl, ?_⟩)
      | refine jw_ret (hQ _ _ (.inr rfl) ⟨_, rfl, ?_⟩)
      | refine jw_seq_k fun K hK => ?_
      | refine jw_block ?_
      | ((first | refine jw_skip ?_ | refine jw_exit ?_); try simp)
      | (refine jw_cond rfl (fun hc => ?_) (fun hc => ?_) <;> (try simp at hc) <;> (try (exfalso; first | omega | exact absurd hc (by assumption))))
      | ((fail_if_success (refine jw_c (id := 3) ?_)); (refine jw_c ?_; simp (maxSteps := 1000000) [Tryd.f38, show ¬ (k : Int) = 12 by omega, show ¬ k = 12 by omega]))
      | ((fail_if_success (refine jw_draw_j (id := 3) mixed (by kernel_rfl) ?_)); (refine jw_draw_j mixed (by kernel_rfl) ?_; simp (maxSteps := 1000000) [Tryd.f38, show ¬ (k : Int) = 12 by omega, show ¬ k = 12 by omega]))
      | (first | (apply hK; clear hK) | (clear hK; apply hK; clear hK) | (clear hK; clear hK; apply hK; clear hK) | (clear hK; clear hK; clear hK; apply hK; clear hK))
      | exact hQ _ _ (.inl rfl) ⟨5, _, _, rfl, rfl, rfl⟩
      | refine hQ _ _ (.inl rfl) ⟨5, _, _, rfl, rfl, ?_⟩
      | refine hQ _ _ (.inl rfl) ⟨_, rfl, ?_⟩
      | ((first | refine jd_newc rfl rfl (by simp) ?_ | refine okN_or ?_); simp (maxSteps := 1000000) [thD, thL, Tryd.f38, show ¬ (k : Int) = 12 by omega, show ¬ k = 12 by omega])
      | ((first | refine okC_guard (fun hc => ?_) (fun hc => ?_) | refine okJ_guard (fun hc => ?_) (fun hc => ?_)) <;> (first | have hd := of_decide_eq_true hc | have hd := of_decide_eq_false hc | have hd := hc) <;> simp (maxSteps := 1000000) [hc, hd, Tryd.f38, show ¬ (k : Int) = 12 by omega, show ¬ k = 12 by omega] <;> (try simp at hc) <;> (try (exfalso; first | omega | exact absurd hc (by assumption))))
      | (refine And.intro (by first | assumption | omega | (simp [BelL, Bel]; done) | (simp; omega)) ?_; try simp (maxSteps := 1000000) [Tryd.f38, show ¬ (k : Int) = 12 by omega, show ¬ k = 12 by omega])
      | (refine okC_or ?_; simp (maxSteps := 1000000) [Tryd.f38, show ¬ (k : Int) = 12 by omega, show ¬ k = 12 by omega])
    (refine jw_view (view_frz 0 _ rfl (by simp [BelL, Bel, thL_flat])) ?_; simp (maxSteps := 1000000) [thL, thD, thS, thOb, thL_flat])
    repeat' first
      | refine jw_seq_k fun K hK => ?_
      | refine jw_block ?_
      | ((first | refine jw_skip ?_ | refine jw_exit ?_); try simp)
      | (refine jw_cond rfl (fun hc => ?_) (fun hc => ?_) <;> (try simp at hc) <;> (try (exfalso; first | omega | exact absurd hc (by assumption))))
      | ((first | refine jw_c ?_ | refine jw_draw_j mixed (by kernel_rfl) ?_ | (refine jl_call (f := 39) rfl rfl rfl rfl rfl (hF) (by simp [BelL, Bel]) ?_; rintro r ⟨b, rfl⟩) | (refine jl_call (f := 44) rfl rfl rfl rfl rfl (hP) (by simp [BelL, Bel]) ?_; rintro r rfl) | refine jd_call (f := 44) rfl rfl rfl rfl rfl (hP) (by simp [BelL, Bel]) ?_ | (refine jl_call (f := 16) rfl rfl rfl rfl rfl (hC) (by simp [BelL, Bel]) ?_; rintro r rfl) | refine jd_call (f := 16) rfl rfl rfl rfl rfl (hC) (by simp [BelL, Bel]) ?_); simp (maxSteps := 1000000) [ba0, ba1, ba2])
      | (first | (apply hK; clear hK) | (clear hK; apply hK; clear hK) | (clear hK; clear hK; apply hK; clear hK) | (clear hK; clear hK; clear hK; apply hK; clear hK))
      | ((first | refine jw_ret (hQ _ _ (.inr rfl) (ret_ok 0 ?_ (by first | omega | simp))) | refine hQ _ _ (.inl rfl) (ret_ok 0 ?_ (by first | omega | simp))); simp (maxSteps := 1000000) [okRet, BelL, Bel, BelS, BelOb, ba0, ba1, ba2])
      | ((first | refine jd_newc rfl rfl (by simp) ?_ | refine okN_or ?_); simp (maxSteps := 1000000) [thD, thL, ba0, ba1, ba2])
      | ((first | refine okC_guard (fun hc => ?_) (fun hc => ?_) | refine okJ_guard (fun hc => ?_) (fun hc => ?_)) <;> (first | have hd := of_decide_eq_true hc | have hd := of_decide_eq_false hc | have hd := hc) <;> simp (maxSteps := 1000000) [hc, hd, ba0, ba1, ba2] <;> (try simp at hc) <;> (try (exfalso; first | omega | exact absurd hc (by assumption))))
      | (refine And.intro (by first | assumption | omega | (simp [BelL, Bel]; done) | (simp; omega)) ?_; try simp (maxSteps := 1000000) [ba0, ba1, ba2])
      | (refine okC_or ?_; simp (maxSteps := 1000000) [ba0, ba1, ba2])
  | .plc p, t, h, k, hk => by
    have hF := formYes (G := G) (w := ts.length) (p := p) k (List.getElem?_eq_some_iff.1 h).1
    simp only [dp] at hk
    unfold exD exC at *
    unfold placedD at *
    refine fv_enter_v Tryd.func38 rfl rfl fun Q hQ => ?_
    repeat' first
      | refine jw_ret (hQ _ _ (.inr rfl) ⟨5, _, _, rfl, rfl, ?_⟩)
      | refine jw_ret (hQ _ _ (.inr rfl) ⟨_, rfl, ?_⟩)
      | refine jw_seq_k fun K hK => ?_
      | refine jw_block ?_
      | ((first | refine jw_skip ?_ | refine jw_exit ?_); try simp)
      | (refine jw_cond rfl (fun hc => ?_) (fun hc => ?_) <;> (try simp at hc) <;> (try (exfalso; first | omega | exact absurd hc (by assumption))))
      | ((fail_if_success (refine jw_c (id := 3) ?_)); (refine jw_c ?_; simp (maxSteps := 1000000) [Tryd.f38, show ¬ (k : Int) = 12 by omega, show ¬ k = 12 by omega]))
      | ((fail_if_success (refine jw_draw_j (id := 3) mixed (by kernel_rfl) ?_)); (refine jw_draw_j mixed (by kernel_rfl) ?_; simp (maxSteps := 1000000) [Tryd.f38, show ¬ (k : Int) = 12 by omega, show ¬ k = 12 by omega]))
      | (first | (apply hK; clear hK) | (clear hK; apply hK; clear hK) | (clear hK; clear hK; apply hK; clear hK) | (clear hK; clear hK; clear hK; apply hK; clear hK))
      | exact hQ _ _ (.inl rfl) ⟨5, _, _, rfl, rfl, rfl⟩
      | refine hQ _ _ (.inl rfl) ⟨5, _, _, rfl, rfl, ?_⟩
      | refine hQ _ _ (.inl rfl) ⟨_, rfl, ?_⟩
      | ((first | refine jd_newc rfl rfl (by simp) ?_ | refine okN_or ?_); simp (maxSteps := 1000000) [thD, thL, Tryd.f38, show ¬ (k : Int) = 12 by omega, show ¬ k = 12 by omega])
      | ((first | refine okC_guard (fun hc => ?_) (fun hc => ?_) | refine okJ_guard (fun hc => ?_) (fun hc => ?_)) <;> (first | have hd := of_decide_eq_true hc | have hd := of_decide_eq_false hc | have hd := hc) <;> simp (maxSteps := 1000000) [hc, hd, Tryd.f38, show ¬ (k : Int) = 12 by omega, show ¬ k = 12 by omega] <;> (try simp at hc) <;> (try (exfalso; first | omega | exact absurd hc (by assumption))))
      | (refine And.intro (by first | assumption | omega | (simp [BelL, Bel]; done) | (simp; omega)) ?_; try simp (maxSteps := 1000000) [Tryd.f38, show ¬ (k : Int) = 12 by omega, show ¬ k = 12 by omega])
      | (refine okC_or ?_; simp (maxSteps := 1000000) [Tryd.f38, show ¬ (k : Int) = 12 by omega, show ¬ k = 12 by omega])
    (refine jw_view (view_frz 0 _ rfl (by simp [BelL, Bel, thL_flat])) ?_; simp (maxSteps := 1000000) [thL, thD, thS, thOb, thL_flat])
    repeat' first
      | refine jw_seq_k fun K hK => ?_
      | refine jw_block ?_
      | ((first | refine jw_skip ?_ | refine jw_exit ?_); try simp)
      | (refine jw_cond rfl (fun hc => ?_) (fun hc => ?_) <;> (try simp at hc) <;> (try (exfalso; first | omega | exact absurd hc (by assumption))))
      | ((first | refine jw_c ?_ | refine jw_draw_j mixed (by kernel_rfl) ?_ | (refine jl_call (f := 39) rfl rfl rfl rfl rfl (hF) (by simp [BelL, Bel]) ?_; rintro r rfl) | refine jd_call (f := 39) rfl rfl rfl rfl rfl (hF) (by simp [BelL, Bel]) ?_); simp (maxSteps := 1000000))
      | (first | (apply hK; clear hK) | (clear hK; apply hK; clear hK) | (clear hK; clear hK; apply hK; clear hK) | (clear hK; clear hK; clear hK; apply hK; clear hK))
      | ((first | refine jw_ret (hQ _ _ (.inr rfl) (ret_ok 0 ?_ (by first | omega | simp))) | refine hQ _ _ (.inl rfl) (ret_ok 0 ?_ (by first | omega | simp))); simp (maxSteps := 1000000) [okRet, BelL, Bel, BelS, BelOb])
      | ((first | refine jd_newc rfl rfl (by simp) ?_ | refine okN_or ?_); simp (maxSteps := 1000000) [thD, thL])
      | ((first | refine okC_guard (fun hc => ?_) (fun hc => ?_) | refine okJ_guard (fun hc => ?_) (fun hc => ?_)) <;> (first | have hd := of_decide_eq_true hc | have hd := of_decide_eq_false hc | have hd := hc) <;> simp (maxSteps := 1000000) [hc, hd] <;> (try simp at hc) <;> (try (exfalso; first | omega | exact absurd hc (by assumption))))
      | (refine And.intro (by first | assumption | omega | (simp [BelL, Bel]; done) | (simp; omega)) ?_; try simp (maxSteps := 1000000))
      | (refine okC_or ?_; simp (maxSteps := 1000000))
  | .un op a, t, h, k, hk => by
    obtain ⟨u, hu, h1, h2⟩ : ∃ u, wt ts a u ∧ 4 ≤ op ∧ op ≤ 7 := by
      rcases h with ⟨rfl, _, h⟩ | ⟨rfl, _, h⟩ | ⟨ho, _, u, _, _, h⟩
      · exact ⟨2, h, by omega, by omega⟩
      · exact ⟨1, h, by omega, by omega⟩
      · exact ⟨u, h, by omega, by omega⟩
    simp only [dp] at hk
    have ih := mayF hV a u hu (k + 1) (by omega)
    have hF := formNo (G := G) ts.length k (e := .un op a) (by simp [opE]; omega) (by intro p; simp)
    have hP := partsF (G := G) (e := .un op a) (.inr (.inl ⟨op, a, rfl, h1, h2⟩))
    have t3 := exC_all a
    have hw := wrap_i64 (n := (k : Int) + 1) (by omega) (by omega)
    have hpos := dp_pos a
    unfold exD placedD subsN at *
    refine fv_enter_v Tryd.func38 rfl rfl fun Q hQ => ?_
    repeat' first
      | refine jw_ret (hQ _ _ (.inr rfl) ⟨5, _, _, rfl, rfl, ?_⟩)
      | refine jw_ret (hQ _ _ (.inr rfl) ⟨_, rfl, ?_⟩)
      | refine jw_seq_k fun K hK => ?_
      | refine jw_block ?_
      | ((first | refine jw_skip ?_ | refine jw_exit ?_); try simp)
      | (refine jw_cond rfl (fun hc => ?_) (fun hc => ?_) <;> (try simp at hc) <;> (try (exfalso; first | omega | exact absurd hc (by assumption))))
      | ((fail_if_success (refine jw_c (id := 3) ?_)); (refine jw_c ?_; simp (maxSteps := 1000000) [Tryd.f38, exC, show ¬ (k : Int) = 12 by omega, show ¬ k = 12 by omega]))
      | ((fail_if_success (refine jw_draw_j (id := 3) mixed (by kernel_rfl) ?_)); (refine jw_draw_j mixed (by kernel_rfl) ?_; simp (maxSteps := 1000000) [Tryd.f38, exC, show ¬ (k : Int) = 12 by omega, show ¬ k = 12 by omega]))
      | (first | (apply hK; clear hK) | (clear hK; apply hK; clear hK) | (clear hK; clear hK; apply hK; clear hK) | (clear hK; clear hK; clear hK; apply hK; clear hK))
      | exact hQ _ _ (.inl rfl) ⟨5, _, _, rfl, rfl, rfl⟩
      | refine hQ _ _ (.inl rfl) ⟨5, _, _, rfl, rfl, ?_⟩
      | refine hQ _ _ (.inl rfl) ⟨_, rfl, ?_⟩
      | ((first | refine jd_newc rfl rfl (by simp) ?_ | refine okN_or ?_); simp (maxSteps := 1000000) [thD, thL, Tryd.f38, exC, show ¬ (k : Int) = 12 by omega, show ¬ k = 12 by omega])
      | ((first | refine okC_guard (fun hc => ?_) (fun hc => ?_) | refine okJ_guard (fun hc => ?_) (fun hc => ?_)) <;> (first | have hd := of_decide_eq_true hc | have hd := of_decide_eq_false hc | have hd := hc) <;> simp (maxSteps := 1000000) [hc, hd, Tryd.f38, exC, show ¬ (k : Int) = 12 by omega, show ¬ k = 12 by omega] <;> (try simp at hc) <;> (try (exfalso; first | omega | exact absurd hc (by assumption))))
      | (refine And.intro (by first | assumption | omega | (simp [BelL, Bel]; done) | (simp; omega)) ?_; try simp (maxSteps := 1000000) [Tryd.f38, exC, show ¬ (k : Int) = 12 by omega, show ¬ k = 12 by omega])
      | (refine okC_or ?_; simp (maxSteps := 1000000) [Tryd.f38, exC, show ¬ (k : Int) = 12 by omega, show ¬ k = 12 by omega])
    (refine jw_view (view_frz 0 _ rfl (by simp [BelL, Bel, thL_flat])) ?_; simp (maxSteps := 1000000) [thL, thD, thS, thOb, thL_flat])
    repeat' first
      | refine jw_seq_k fun K hK => ?_
      | refine jw_block ?_
      | ((first | refine jw_skip ?_ | refine jw_exit ?_); try simp)
      | (refine jw_cond rfl (fun hc => ?_) (fun hc => ?_) <;> (try simp at hc) <;> (try (exfalso; first | omega | exact absurd hc (by assumption))))
      | ((first | refine jw_c ?_ | refine jw_draw_j mixed (by kernel_rfl) ?_ | (refine jl_call (f := 39) rfl rfl rfl rfl rfl (hF) (by simp [BelL, Bel]) ?_; rintro r ⟨b, rfl⟩) | (refine jl_call (f := 44) rfl rfl rfl rfl rfl (hP) (by simp [BelL, Bel]) ?_; rintro r rfl) | refine jd_call (f := 44) rfl rfl rfl rfl rfl (hP) (by simp [BelL, Bel]) ?_ | (refine jl_call (f := 38) rfl rfl rfl rfl rfl (ih) (by simp [BelL, Bel]) ?_; rintro r rfl) | refine jd_call (f := 38) rfl rfl rfl rfl rfl (ih) (by simp [BelL, Bel]) ?_); simp (maxSteps := 1000000) [exC, t3, hw, okCell, show ¬ op = 1 by omega, ba0, ba1, ba2, show IntKind.i64.wrap 1 = 1 from rfl])
      | (first | (apply hK; clear hK) | (clear hK; apply hK; clear hK) | (clear hK; clear hK; apply hK; clear hK) | (clear hK; clear hK; clear hK; apply hK; clear hK))
      | refine jw_unroll 3 ?_
      | refine ul_k fun K hK => ?_
      | ((first | refine jw_ret (hQ _ _ (.inr rfl) (ret_ok 0 ?_ (by first | omega | simp))) | refine hQ _ _ (.inl rfl) (ret_ok 0 ?_ (by first | omega | simp))); simp (maxSteps := 1000000) [okRet, BelL, Bel, BelS, BelOb, exC, t3, hw, okCell, show ¬ op = 1 by omega, ba0, ba1, ba2, show IntKind.i64.wrap 1 = 1 from rfl])
      | ((first | refine jd_newc rfl rfl (by simp) ?_ | refine okN_or ?_); simp (maxSteps := 1000000) [thD, thL, exC, t3, hw, okCell, show ¬ op = 1 by omega, ba0, ba1, ba2, show IntKind.i64.wrap 1 = 1 from rfl])
      | ((first | refine okC_guard (fun hc => ?_) (fun hc => ?_) | refine okJ_guard (fun hc => ?_) (fun hc => ?_)) <;> (first | have hd := of_decide_eq_true hc | have hd := of_decide_eq_false hc | have hd := hc) <;> simp (maxSteps := 1000000) [hc, hd, exC, t3, hw, okCell, show ¬ op = 1 by omega, ba0, ba1, ba2, show IntKind.i64.wrap 1 = 1 from rfl] <;> (try simp at hc) <;> (try (exfalso; first | omega | exact absurd hc (by assumption))))
      | (refine And.intro (by first | assumption | omega | (simp [BelL, Bel]; done) | (simp; omega)) ?_; try simp (maxSteps := 1000000) [exC, t3, hw, okCell, show ¬ op = 1 by omega, ba0, ba1, ba2, show IntKind.i64.wrap 1 = 1 from rfl])
      | (refine okC_or ?_; simp (maxSteps := 1000000) [exC, t3, hw, okCell, show ¬ op = 1 by omega, ba0, ba1, ba2, show IntKind.i64.wrap 1 = 1 from rfl])
  | .bin op a b, t, h, k, hk => by
    obtain ⟨u, hua, hub, h1, h2⟩ : ∃ u, wt ts a u ∧ wt ts b u ∧ 8 ≤ op ∧ op ≤ 20 := by
      rcases h with ⟨h1, h2, _, h3, h4⟩ | ⟨h1, h2, _, u, _, _, h3, h4⟩ | ⟨ho, _, h3, h4⟩
      · exact ⟨2, h3, h4, by omega, by omega⟩
      · exact ⟨u, h3, h4, by omega, by omega⟩
      · exact ⟨1, h3, h4, by omega, by omega⟩
    simp only [dp] at hk
    have iha := mayF hV a u hua (k + 1) (by omega)
    have ihb := mayF hV b u hub (k + 1) (by omega)
    have hF := formNo (G := G) ts.length k (e := .bin op a b) (by simp [opE]; omega) (by intro p; simp)
    have hP := partsF (G := G) (e := .bin op a b) (.inr (.inr ⟨op, a, b, rfl, h1, h2⟩))
    have t1 := exC_take a (exC b)
    have t2 := exC_drop a (exC b)
    have t3 := exC_all a
    have t4 := exC_all b
    have hw := wrap_i64 (n := (k : Int) + 1) (by omega) (by omega)
    have hpos := dp_pos a
    unfold exD placedD subsN at *
    refine fv_enter_v Tryd.func38 rfl rfl fun Q hQ => ?_
    repeat' first
      | refine jw_ret (hQ _ _ (.inr rfl) ⟨5, _, _, rfl, rfl, ?_⟩)
      | refine jw_ret (hQ _ _ (.inr rfl) ⟨_, rfl, ?_⟩)
      | refine jw_seq_k fun K hK => ?_
      | refine jw_block ?_
      | ((first | refine jw_skip ?_ | refine jw_exit ?_); try simp)
      | (refine jw_cond rfl (fun hc => ?_) (fun hc => ?_) <;> (try simp at hc) <;> (try (exfalso; first | omega | exact absurd hc (by assumption))))
      | ((fail_if_success (refine jw_c (id := 3) ?_)); (refine jw_c ?_; simp (maxSteps := 1000000) [Tryd.f38, exC, show ¬ (k : Int) = 12 by omega, show ¬ k = 12 by omega]))
      | ((fail_if_success (refine jw_draw_j (id := 3) mixed (by kernel_rfl) ?_)); (refine jw_draw_j mixed (by kernel_rfl) ?_; simp (maxSteps := 1000000) [Tryd.f38, exC, show ¬ (k : Int) = 12 by omega, show ¬ k = 12 by omega]))
      | (first | (apply hK; clear hK) | (clear hK; apply hK; clear hK) | (clear hK; clear hK; apply hK; clear hK) | (clear hK; clear hK; clear hK; apply hK; clear hK))
      | exact hQ _ _ (.inl rfl) ⟨5, _, _, rfl, rfl, rfl⟩
      | refine hQ _ _ (.inl rfl) ⟨5, _, _, rfl, rfl, ?_⟩
      | refine hQ _ _ (.inl rfl) ⟨_, rfl, ?_⟩
      | ((first | refine jd_newc rfl rfl (by simp) ?_ | refine okN_or ?_); simp (maxSteps := 1000000) [thD, thL, Tryd.f38, exC, show ¬ (k : Int) = 12 by omega, show ¬ k = 12 by omega])
      | ((first | refine okC_guard (fun hc => ?_) (fun hc => ?_) | refine okJ_guard (fun hc => ?_) (fun hc => ?_)) <;> (first | have hd := of_decide_eq_true hc | have hd := of_decide_eq_false hc | have hd := hc) <;> simp (maxSteps := 1000000) [hc, hd, Tryd.f38, exC, show ¬ (k : Int) = 12 by omega, show ¬ k = 12 by omega] <;> (try simp at hc) <;> (try (exfalso; first | omega | exact absurd hc (by assumption))))
      | (refine And.intro (by first | assumption | omega | (simp [BelL, Bel]; done) | (simp; omega)) ?_; try simp (maxSteps := 1000000) [Tryd.f38, exC, show ¬ (k : Int) = 12 by omega, show ¬ k = 12 by omega])
      | (refine okC_or ?_; simp (maxSteps := 1000000) [Tryd.f38, exC, show ¬ (k : Int) = 12 by omega, show ¬ k = 12 by omega])
    (refine jw_view (view_frz 0 _ rfl (by simp [BelL, Bel, thL_flat])) ?_; simp (maxSteps := 1000000) [thL, thD, thS, thOb, thL_flat])
    repeat' first
      | refine jw_seq_k fun K hK => ?_
      | refine jw_block ?_
      | ((first | refine jw_skip ?_ | refine jw_exit ?_); try simp)
      | (refine jw_cond rfl (fun hc => ?_) (fun hc => ?_) <;> (try simp at hc) <;> (try (exfalso; first | omega | exact absurd hc (by assumption))))
      | ((first | refine jw_c ?_ | refine jw_draw_j mixed (by kernel_rfl) ?_ | (refine jl_call (f := 39) rfl rfl rfl rfl rfl (hF) (by simp [BelL, Bel]) ?_; rintro r ⟨b, rfl⟩) | (refine jl_call (f := 44) rfl rfl rfl rfl rfl (hP) (by simp [BelL, Bel]) ?_; rintro r rfl) | refine jd_call (f := 44) rfl rfl rfl rfl rfl (hP) (by simp [BelL, Bel]) ?_ | (refine jl_call (f := 38) rfl rfl rfl rfl rfl (iha) (by simp [BelL, Bel]) ?_; rintro r rfl) | refine jd_call (f := 38) rfl rfl rfl rfl rfl (iha) (by simp [BelL, Bel]) ?_ | (refine jl_call (f := 38) rfl rfl rfl rfl rfl (ihb) (by simp [BelL, Bel]) ?_; rintro r rfl) | refine jd_call (f := 38) rfl rfl rfl rfl rfl (ihb) (by simp [BelL, Bel]) ?_); simp (maxSteps := 1000000) [exC, t1, t2, t3, t4, hw, okCell, show ¬ op = 1 by omega, ba0, ba1, ba2, show IntKind.i64.wrap 1 = 1 from rfl, show IntKind.i64.wrap 2 = 2 from rfl])
      | (first | (apply hK; clear hK) | (clear hK; apply hK; clear hK) | (clear hK; clear hK; apply hK; clear hK) | (clear hK; clear hK; clear hK; apply hK; clear hK))
      | refine jw_unroll 3 ?_
      | refine ul_k fun K hK => ?_
      | ((first | refine jw_ret (hQ _ _ (.inr rfl) (ret_ok 0 ?_ (by first | omega | simp))) | refine hQ _ _ (.inl rfl) (ret_ok 0 ?_ (by first | omega | simp))); simp (maxSteps := 1000000) [okRet, BelL, Bel, BelS, BelOb, exC, t1, t2, t3, t4, hw, okCell, show ¬ op = 1 by omega, ba0, ba1, ba2, show IntKind.i64.wrap 1 = 1 from rfl, show IntKind.i64.wrap 2 = 2 from rfl])
      | ((first | refine jd_newc rfl rfl (by simp) ?_ | refine okN_or ?_); simp (maxSteps := 1000000) [thD, thL, exC, t1, t2, t3, t4, hw, okCell, show ¬ op = 1 by omega, ba0, ba1, ba2, show IntKind.i64.wrap 1 = 1 from rfl, show IntKind.i64.wrap 2 = 2 from rfl])
      | ((first | refine okC_guard (fun hc => ?_) (fun hc => ?_) | refine okJ_guard (fun hc => ?_) (fun hc => ?_)) <;> (first | have hd := of_decide_eq_true hc | have hd := of_decide_eq_false hc | have hd := hc) <;> simp (maxSteps := 1000000) [hc, hd, exC, t1, t2, t3, t4, hw, okCell, show ¬ op = 1 by omega, ba0, ba1, ba2, show IntKind.i64.wrap 1 = 1 from rfl, show IntKind.i64.wrap 2 = 2 from rfl] <;> (try simp at hc) <;> (try (exfalso; first | omega | exact absurd hc (by assumption))))
      | (refine And.intro (by first | assumption | omega | (simp [BelL, Bel]; done) | (simp; omega)) ?_; try simp (maxSteps := 1000000) [exC, t1, t2, t3, t4, hw, okCell, show ¬ op = 1 by omega, ba0, ba1, ba2, show IntKind.i64.wrap 1 = 1 from rfl, show IntKind.i64.wrap 2 = 2 from rfl])
      | (refine okC_or ?_; simp (maxSteps := 1000000) [exC, t1, t2, t3, t4, hw, okCell, show ¬ op = 1 by omega, ba0, ba1, ba2, show IntKind.i64.wrap 1 = 1 from rfl, show IntKind.i64.wrap 2 = 2 from rfl])
end Go.Proofs.YtmgoekfgdgejiaaDoor
