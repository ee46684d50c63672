/- A unit: crash, seal. -/
import Derived.Test.YtkjliaapdjapmaaUnit
set_option linter.unusedVariables false
set_option linter.unusedSimpArgs false
set_option maxRecDepth 20000
set_option maxHeartbeats 20000000
namespace Go.Proofs.Ytkjliaapdjapmaa
open Go Go.Vm Go.Proofs

def crashR (u : Un) (at_ down : Int) : Un := match u.slots.getD at_.toNat .none with
  | .data b => if down < (b.length : Int) + 8 then { u with slots := u.slots.set at_.toNat .none } else u
  | _ => u
theorem crashF {G : Globals} (u : Un) (hu : UnOk u) (a n : Int) (ha : 0 ≤ a ∧ a < 64) :
    FC Try.prog G 19 [.ptr 0 66 0, .int .i64 a, .int .i64 n] [some (.c (unC u))] (fun d σ' => d = .tup [] ∧ σ' = [some (.c (unC (crashR u a n)))]) := by
  have hl := hu.1
  have hi : a.toNat < u.slots.length := by omega
  have hg := un_slot hi
  have hgg := fun h => get_of hg h
  have hok := hu.get (show a.toNat < 64 by omega)
  have hp0 := un_setslot hi .none
  simp only [slotD] at hp0
  refine fc_enter_v Try.func19 rfl rfl fun Q hQ => ?_
  unfold crashR at hQ
  generalize u.slots.getD a.toNat .none = s at *
  cases s with
  | data b =>
    have hb : b.length ≤ 4000 := hok
    have hw := wrap_i64 (n := (b.length : Int) + 8) (by omega) (by omega)
    repeat' first
      | refine jw_seq_k fun K hK => ?_
      | refine jw_block ?_
      | (refine jw_skip ?_; try simp)
      | (refine jw_exit ?_; try simp)
      | (refine jw_cond rfl (fun hc => ?_) (fun hc => ?_) <;> (try simp at hc) <;> (try (exfalso; first | omega | exact absurd hc (by assumption))))
      | (refine jw_c ?_; simp (maxSteps := 1000000) [Try.f19, hl, hg, hgg, ha.1, ha.2, slotD, vAssert, numsD, hp0, un_head, hw, okCell, -putCells, put_one, put_all, show a.toNat < 66 by omega])
      | (refine jw_draw_j mixed (by kernel_rfl) ?_; simp (maxSteps := 1000000) [Try.f19, hl, hg, hgg, ha.1, ha.2, slotD, vAssert, numsD, hp0, un_head, hw, okCell, -putCells, put_one, put_all, show a.toNat < 66 by omega])
      | (first | (apply hK; clear hK) | (clear hK; apply hK; clear hK) | (clear hK; clear hK; apply hK; clear hK) | (clear hK; clear hK; clear hK; apply hK; clear hK))
      | (refine jw_ret (hQ _ _ (.inr rfl) (ret_ok 1 ?_ (by first | omega | simp))); simp (maxSteps := 1000000) [okRet, BelL, Bel, BelS, BelOb, Try.f19, hl, hg, hgg, ha.1, ha.2, slotD, vAssert, numsD, hp0, un_head, hw, okCell, -putCells, put_one, put_all, show a.toNat < 66 by omega])
      | (refine hQ _ _ (.inl rfl) (ret_ok 1 ?_ (by first | omega | simp)); simp (maxSteps := 1000000) [okRet, BelL, Bel, BelS, BelOb, Try.f19, hl, hg, hgg, ha.1, ha.2, slotD, vAssert, numsD, hp0, un_head, hw, okCell, -putCells, put_one, put_all, show a.toNat < 66 by omega])
      | (refine jd_newc rfl rfl (by simp) ?_; simp (maxSteps := 1000000) [thD, thL, Try.f19, hl, hg, hgg, ha.1, ha.2, slotD, vAssert, numsD, hp0, un_head, hw, okCell, -putCells, put_one, put_all, show a.toNat < 66 by omega])
      | (refine okN_or ?_; simp (maxSteps := 1000000) [thD, thL, Try.f19, hl, hg, hgg, ha.1, ha.2, slotD, vAssert, numsD, hp0, un_head, hw, okCell, -putCells, put_one, put_all, show a.toNat < 66 by omega])
      | (refine okC_guard (fun hc => ?_) (fun hc => ?_) <;> (first | simp (maxSteps := 1000000) [hc, of_decide_eq_true hc, Try.f19, hl, hg, hgg, ha.1, ha.2, slotD, vAssert, numsD, hp0, un_head, hw, okCell, -putCells, put_one, put_all, show a.toNat < 66 by omega] | simp (maxSteps := 1000000) [hc, of_decide_eq_false hc, Try.f19, hl, hg, hgg, ha.1, ha.2, slotD, vAssert, numsD, hp0, un_head, hw, okCell, -putCells, put_one, put_all, show a.toNat < 66 by omega] | simp (maxSteps := 1000000) [hc, Try.f19, hl, hg, hgg, ha.1, ha.2, slotD, vAssert, numsD, hp0, un_head, hw, okCell, -putCells, put_one, put_all, show a.toNat < 66 by omega]) <;> (try simp at hc) <;> (try (exfalso; first | omega | exact absurd hc (by assumption))))
      | (refine okJ_guard (fun hc => ?_) (fun hc => ?_) <;> (first | simp (maxSteps := 1000000) [hc, of_decide_eq_true hc, Try.f19, hl, hg, hgg, ha.1, ha.2, slotD, vAssert, numsD, hp0, un_head, hw, okCell, -putCells, put_one, put_all, show a.toNat < 66 by omega] | simp (maxSteps := 1000000) [hc, of_decide_eq_false hc, Try.f19, hl, hg, hgg, ha.1, ha.2, slotD, vAssert, numsD, hp0, un_head, hw, okCell, -putCells, put_one, put_all, show a.toNat < 66 by omega] | simp (maxSteps := 1000000) [hc, Try.f19, hl, hg, hgg, ha.1, ha.2, slotD, vAssert, numsD, hp0, un_head, hw, okCell, -putCells, put_one, put_all, show a.toNat < 66 by omega]) <;> (try simp at hc) <;> (try (exfalso; first | omega | exact absurd hc (by assumption))))
      | (refine And.intro (by first | assumption | omega | (simp [BelL, Bel]; done) | (simp; omega)) ?_; try simp (maxSteps := 1000000) [Try.f19, hl, hg, hgg, ha.1, ha.2, slotD, vAssert, numsD, hp0, un_head, hw, okCell, -putCells, put_one, put_all, show a.toNat < 66 by omega])
      | (refine okC_or ?_; simp (maxSteps := 1000000) [Try.f19, hl, hg, hgg, ha.1, ha.2, slotD, vAssert, numsD, hp0, un_head, hw, okCell, -putCells, put_one, put_all, show a.toNat < 66 by omega])
    all_goals (first | clear hQ hK | clear hQ)
    all_goals (repeat' split)
    all_goals first | (exfalso; omega) | simp_all
  | _ =>
    repeat' first
      | refine jw_seq_k fun K hK => ?_
      | refine jw_block ?_
      | (refine jw_skip ?_; try simp)
      | (refine jw_exit ?_; try simp)
      | (refine jw_cond rfl (fun hc => ?_) (fun hc => ?_) <;> (try simp at hc) <;> (try (exfalso; first | omega | exact absurd hc (by assumption))))
      | (refine jw_c ?_; simp (maxSteps := 1000000) [Try.f19, hl, hg, hgg, ha.1, ha.2, slotD, vAssert, hp0, un_head, okCell, -putCells, put_one, put_all, show a.toNat < 66 by omega])
      | (refine jw_draw_j mixed (by kernel_rfl) ?_; simp (maxSteps := 1000000) [Try.f19, hl, hg, hgg, ha.1, ha.2, slotD, vAssert, hp0, un_head, okCell, -putCells, put_one, put_all, show a.toNat < 66 by omega])
      | (first | (apply hK; clear hK) | (clear hK; apply hK; clear hK) | (clear hK; clear hK; apply hK; clear hK) | (clear hK; clear hK; clear hK; apply hK; clear hK))
      | (refine jw_ret (hQ _ _ (.inr rfl) (ret_ok 1 ?_ (by first | omega | simp))); simp (maxSteps := 1000000) [okRet, BelL, Bel, BelS, BelOb, Try.f19, hl, hg, hgg, ha.1, ha.2, slotD, vAssert, hp0, un_head, okCell, -putCells, put_one, put_all, show a.toNat < 66 by omega])
      | (refine hQ _ _ (.inl rfl) (ret_ok 1 ?_ (by first | omega | simp)); simp (maxSteps := 1000000) [okRet, BelL, Bel, BelS, BelOb, Try.f19, hl, hg, hgg, ha.1, ha.2, slotD, vAssert, hp0, un_head, okCell, -putCells, put_one, put_all, show a.toNat < 66 by omega])
      | (refine jd_newc rfl rfl (by simp) ?_; simp (maxSteps := 1000000) [thD, thL, Try.f19, hl, hg, hgg, ha.1, ha.2, slotD, vAssert, hp0, un_head, okCell, -putCells, put_one, put_all, show a.toNat < 66 by omega])
      | (refine okN_or ?_; simp (maxSteps := 1000000) [thD, thL, Try.f19, hl, hg, hgg, ha.1, ha.2, slotD, vAssert, hp0, un_head, okCell, -putCells, put_one, put_all, show a.toNat < 66 by omega])
      | (refine okC_guard (fun hc => ?_) (fun hc => ?_) <;> (first | simp (maxSteps := 1000000) [hc, of_decide_eq_true hc, Try.f19, hl, hg, hgg, ha.1, ha.2, slotD, vAssert, hp0, un_head, okCell, -putCells, put_one, put_all, show a.toNat < 66 by omega] | simp (maxSteps := 1000000) [hc, of_decide_eq_false hc, Try.f19, hl, hg, hgg, ha.1, ha.2, slotD, vAssert, hp0, un_head, okCell, -putCells, put_one, put_all, show a.toNat < 66 by omega] | simp (maxSteps := 1000000) [hc, Try.f19, hl, hg, hgg, ha.1, ha.2, slotD, vAssert, hp0, un_head, okCell, -putCells, put_one, put_all, show a.toNat < 66 by omega]) <;> (try simp at hc) <;> (try (exfalso; first | omega | exact absurd hc (by assumption))))
      | (refine okJ_guard (fun hc => ?_) (fun hc => ?_) <;> (first | simp (maxSteps := 1000000) [hc, of_decide_eq_true hc, Try.f19, hl, hg, hgg, ha.1, ha.2, slotD, vAssert, hp0, un_head, okCell, -putCells, put_one, put_all, show a.toNat < 66 by omega] | simp (maxSteps := 1000000) [hc, of_decide_eq_false hc, Try.f19, hl, hg, hgg, ha.1, ha.2, slotD, vAssert, hp0, un_head, okCell, -putCells, put_one, put_all, show a.toNat < 66 by omega] | simp (maxSteps := 1000000) [hc, Try.f19, hl, hg, hgg, ha.1, ha.2, slotD, vAssert, hp0, un_head, okCell, -putCells, put_one, put_all, show a.toNat < 66 by omega]) <;> (try simp at hc) <;> (try (exfalso; first | omega | exact absurd hc (by assumption))))
      | (refine And.intro (by first | assumption | omega | (simp [BelL, Bel]; done) | (simp; omega)) ?_; try simp (maxSteps := 1000000) [Try.f19, hl, hg, hgg, ha.1, ha.2, slotD, vAssert, hp0, un_head, okCell, -putCells, put_one, put_all, show a.toNat < 66 by omega])
      | (refine okC_or ?_; simp (maxSteps := 1000000) [Try.f19, hl, hg, hgg, ha.1, ha.2, slotD, vAssert, hp0, un_head, okCell, -putCells, put_one, put_all, show a.toNat < 66 by omega])
    all_goals (first | clear hQ hK | clear hQ)
    all_goals (repeat' split)
    all_goals first | (exfalso; omega) | simp_all

/-! ### seal -/
theorem backF {G : Globals} (u : Un) (hl : u.slots.length = 64) (σ : Store) (h : σ[0]? = some (some (.c (unC u)))) : FC Try.prog G 22 [.ms 0 66 0 64 1] σ
    (fun d σ' => d = .fn (.func 23) [] [.ptr σ.length 1 0] ∧ σ' = σ ++ [some (.c [.ms 0 66 0 64 1])]) := by
  refine fc_enter_k Try.func22 rfl rfl fun Q hQ => ?_
  repeat' first
    | refine jw_ret (hQ _ _ (.inr rfl) ⟨5, _, _, rfl, rfl, ?_⟩)
    | refine jw_ret (hQ _ _ (.inr rfl) ⟨_, rfl, ?_⟩)
    | refine jw_seq_k fun K hK => ?_
    | refine jw_block ?_
    | (refine jw_skip ?_; try simp)
    | (refine jw_exit ?_; try simp)
    | (refine jw_cond rfl (fun hc => ?_) (fun hc => ?_) <;> (try simp at hc) <;> (try (exfalso; first | omega | exact absurd hc (by assumption))))
    | (refine jw_c ?_; simp (maxSteps := 1000000) [Try.f22, okCell, okRef, h, hl])
    | (refine jw_draw_j mixed (by kernel_rfl) ?_; simp (maxSteps := 1000000) [Try.f22, okCell, okRef, h, hl])
    | (first | (apply hK; clear hK) | (clear hK; apply hK; clear hK) | (clear hK; clear hK; apply hK; clear hK) | (clear hK; clear hK; clear hK; apply hK; clear hK))
    | exact hQ _ _ (.inl rfl) ⟨5, _, _, rfl, rfl, rfl⟩
    | refine hQ _ _ (.inl rfl) ⟨5, _, _, rfl, rfl, ?_⟩
    | refine hQ _ _ (.inl rfl) ⟨_, rfl, ?_⟩
    | (refine jd_newc rfl rfl (by simp) ?_; simp (maxSteps := 1000000) [thD, thL, Try.f22, okCell, okRef, h, hl])
    | (refine okN_or ?_; simp (maxSteps := 1000000) [thD, thL, Try.f22, okCell, okRef, h, hl])
    | (refine okC_guard (fun hc => ?_) (fun hc => ?_) <;> (first | simp (maxSteps := 1000000) [hc, of_decide_eq_true hc, Try.f22, okCell, okRef, h, hl] | simp (maxSteps := 1000000) [hc, of_decide_eq_false hc, Try.f22, okCell, okRef, h, hl] | simp (maxSteps := 1000000) [hc, Try.f22, okCell, okRef, h, hl]) <;> (try simp at hc) <;> (try (exfalso; first | omega | exact absurd hc (by assumption))))
    | (refine okJ_guard (fun hc => ?_) (fun hc => ?_) <;> (first | simp (maxSteps := 1000000) [hc, of_decide_eq_true hc, Try.f22, okCell, okRef, h, hl] | simp (maxSteps := 1000000) [hc, of_decide_eq_false hc, Try.f22, okCell, okRef, h, hl] | simp (maxSteps := 1000000) [hc, Try.f22, okCell, okRef, h, hl]) <;> (try simp at hc) <;> (try (exfalso; first | omega | exact absurd hc (by assumption))))
    | (refine And.intro (by first | assumption | omega | (simp [BelL, Bel]; done) | (simp; omega)) ?_; try simp (maxSteps := 1000000) [Try.f22, okCell, okRef, h, hl])
    | (refine okC_or ?_; simp (maxSteps := 1000000) [Try.f22, okCell, okRef, h, hl])

theorem backIt {G : Globals} (sl : List Slot) (hs : sl.length = 64) (b : Nat) :
    IterC Try.prog G 23 [] [.ptr b 1 0] 64 (fun k => [.int .i64 ((63 : Int) - k), slotD (sl.getD (63 - k) .none)])
      (fun σ => σ[b]? = some (some (.c [.ms 0 66 0 64 1])) ∧ ∃ u : Un, u.slots = sl ∧ σ[0]? = some (some (.c (unC u)))) := by
  intro l I E hI hy σ h0
  refine fc_enter_k Try.func23 rfl rfl fun Q hQ => ?_
  obtain ⟨hb, u, hu, h00⟩ := hI _ _ h0
  repeat' first
    | refine jw_ret (hQ _ _ (.inr rfl) ⟨5, _, _, rfl, rfl, ?_⟩)
    | refine jw_ret (hQ _ _ (.inr rfl) ⟨_, rfl, ?_⟩)
    | refine jw_seq_k fun K hK => ?_
    | refine jw_block ?_
    | (refine jw_skip ?_; try simp)
    | (refine jw_exit ?_; try simp)
    | (refine jw_cond rfl (fun hc => ?_) (fun hc => ?_) <;> (try simp at hc) <;> (try (exfalso; first | omega | exact absurd hc (by assumption))))
    | (refine jw_c ?_; simp (maxSteps := 1000000) [Try.f23, hb, okRef, h00, hs, hu])
    | (refine jw_draw_j mixed (by kernel_rfl) ?_; simp (maxSteps := 1000000) [Try.f23, hb, okRef, h00, hs, hu])
    | (first | (apply hK; clear hK) | (clear hK; apply hK; clear hK) | (clear hK; clear hK; apply hK; clear hK) | (clear hK; clear hK; clear hK; apply hK; clear hK))
    | exact hQ _ _ (.inl rfl) ⟨5, _, _, rfl, rfl, rfl⟩
    | refine hQ _ _ (.inl rfl) ⟨5, _, _, rfl, rfl, ?_⟩
    | refine hQ _ _ (.inl rfl) ⟨_, rfl, ?_⟩
    | (refine jd_newc rfl rfl (by simp) ?_; simp (maxSteps := 1000000) [thD, thL, Try.f23, hb, okRef, h00, hs, hu])
    | (refine okN_or ?_; simp (maxSteps := 1000000) [thD, thL, Try.f23, hb, okRef, h00, hs, hu])
    | (refine okC_guard (fun hc => ?_) (fun hc => ?_) <;> (first | simp (maxSteps := 1000000) [hc, of_decide_eq_true hc, Try.f23, hb, okRef, h00, hs, hu] | simp (maxSteps := 1000000) [hc, of_decide_eq_false hc, Try.f23, hb, okRef, h00, hs, hu] | simp (maxSteps := 1000000) [hc, Try.f23, hb, okRef, h00, hs, hu]) <;> (try simp at hc) <;> (try (exfalso; first | omega | exact absurd hc (by assumption))))
    | (refine okJ_guard (fun hc => ?_) (fun hc => ?_) <;> (first | simp (maxSteps := 1000000) [hc, of_decide_eq_true hc, Try.f23, hb, okRef, h00, hs, hu] | simp (maxSteps := 1000000) [hc, of_decide_eq_false hc, Try.f23, hb, okRef, h00, hs, hu] | simp (maxSteps := 1000000) [hc, Try.f23, hb, okRef, h00, hs, hu]) <;> (try simp at hc) <;> (try (exfalso; first | omega | exact absurd hc (by assumption))))
    | (refine And.intro (by first | assumption | omega | (simp [BelL, Bel]; done) | (simp; omega)) ?_; try simp (maxSteps := 1000000) [Try.f23, hb, okRef, h00, hs, hu])
    | (refine okC_or ?_; simp (maxSteps := 1000000) [Try.f23, hb, okRef, h00, hs, hu])
  (repeat refine jw_seq_k fun K hK => ?_); refine jw_loop_k (fun m z => ∃ (k : Nat) (g : Store), k ≤ 64 ∧ 64 - k = m ∧ I k g ∧ z = ⟨[.yl l, .ptr b 1 0, .any, .int .i64 ((63 : Int) - k)] ++ List.replicate 15 .any, g⟩)
    (sl := [.yl l, .ptr b 1 0, .any, .int .i64 ((63 : Int) - (0 : Nat))] ++ List.replicate 15 .any) (by simp) ⟨0, σ, by omega, rfl, h0, rfl⟩ ?_
  rintro m z ⟨k, g, hn, rfl, hg, rfl⟩ KL hKL
  obtain ⟨hb, u, hu, h00⟩ := hI _ _ hg
  by_cases hk : k < 64
  · have hw := wrap_i64 (n := (63 : Int) - k - 1) (by omega) (by omega)
    have hg1 := un_slot (u := u) (i := 63 - k) (by rw [hu, hs]; omega)
    have hg2 := fun h => get_of hg1 h
    have hy' := hy k g hk hg
    dsimp only at hy'
    have ht : ((63 : Int) - k).toNat = 63 - k := by omega
    rw [show sl.getD (63 - k) .none = sl[63 - k] by rw [List.getD_eq_getElem?_getD, List.getElem?_eq_getElem (by omega)]; rfl] at hy'
    rw [hu] at hg1 hg2
    repeat' first
      | refine jw_ret (hQ _ _ (.inr rfl) ⟨5, _, _, rfl, rfl, ?_⟩)
      | refine jw_ret (hQ _ _ (.inr rfl) ⟨_, rfl, ?_⟩)
      | refine jw_seq_k fun K hK => ?_
      | refine jw_block ?_
      | (refine jw_skip ?_; try simp)
      | (refine jw_exit ?_; try simp)
      | (refine jw_cond rfl (fun hc => ?_) (fun hc => ?_) <;> (try simp at hc) <;> (try (exfalso; first | omega | exact absurd hc (by assumption))))
      | (refine jw_ci ?_; simp (maxSteps := 1000000) [hb, h00, okRef, hu, hs, hg1, hg2, ht, show 63 - k < 66 by omega, show 63 - k < 64 by omega, show (0 : Int) ≤ 63 - k by omega, show (63 : Int) - k < 64 by omega, hw])
      | (refine jw_draw_j mixed (by kernel_rfl) ?_; simp (maxSteps := 1000000) [hb, h00, okRef, hu, hs, hg1, hg2, ht, show 63 - k < 66 by omega, show 63 - k < 64 by omega, show (0 : Int) ≤ 63 - k by omega, show (63 : Int) - k < 64 by omega, hw])
      | (first | (apply hK; clear hK) | (clear hK; apply hK; clear hK) | (clear hK; clear hK; apply hK; clear hK) | (clear hK; clear hK; clear hK; apply hK; clear hK))
      | exact hQ _ _ (.inl rfl) ⟨5, _, _, rfl, rfl, rfl⟩
      | refine hQ _ _ (.inl rfl) ⟨5, _, _, rfl, rfl, ?_⟩
      | refine hQ _ _ (.inl rfl) ⟨_, rfl, ?_⟩
      | (refine jli_yield rfl rfl rfl rfl rfl (hy') ?_; rintro t σ' hE; simp (maxSteps := 1000000) [hb, h00, okRef, hu, hs, hg1, hg2, ht, show 63 - k < 66 by omega, show 63 - k < 64 by omega, show (0 : Int) ≤ 63 - k by omega, show (63 : Int) - k < 64 by omega, hw])
      | (refine jd_newc rfl rfl (by simp) ?_; simp (maxSteps := 1000000) [thD, thL, hb, h00, okRef, hu, hs, hg1, hg2, ht, show 63 - k < 66 by omega, show 63 - k < 64 by omega, show (0 : Int) ≤ 63 - k by omega, show (63 : Int) - k < 64 by omega, hw])
      | (refine okN_or ?_; simp (maxSteps := 1000000) [thD, thL, hb, h00, okRef, hu, hs, hg1, hg2, ht, show 63 - k < 66 by omega, show 63 - k < 64 by omega, show (0 : Int) ≤ 63 - k by omega, show (63 : Int) - k < 64 by omega, hw])
      | (refine okI_guard (fun hc => ?_) (fun hc => ?_) <;> (first | simp (maxSteps := 1000000) [hc, of_decide_eq_true hc, hb, h00, okRef, hu, hs, hg1, hg2, ht, show 63 - k < 66 by omega, show 63 - k < 64 by omega, show (0 : Int) ≤ 63 - k by omega, show (63 : Int) - k < 64 by omega, hw] | simp (maxSteps := 1000000) [hc, of_decide_eq_false hc, hb, h00, okRef, hu, hs, hg1, hg2, ht, show 63 - k < 66 by omega, show 63 - k < 64 by omega, show (0 : Int) ≤ 63 - k by omega, show (63 : Int) - k < 64 by omega, hw] | simp (maxSteps := 1000000) [hc, hb, h00, okRef, hu, hs, hg1, hg2, ht, show 63 - k < 66 by omega, show 63 - k < 64 by omega, show (0 : Int) ≤ 63 - k by omega, show (63 : Int) - k < 64 by omega, hw]) <;> (try simp at hc) <;> (try (exfalso; first | omega | exact absurd hc (by assumption))))
      | (refine okJ_guard (fun hc => ?_) (fun hc => ?_) <;> (first | simp (maxSteps := 1000000) [hc, of_decide_eq_true hc, hb, h00, okRef, hu, hs, hg1, hg2, ht, show 63 - k < 66 by omega, show 63 - k < 64 by omega, show (0 : Int) ≤ 63 - k by omega, show (63 : Int) - k < 64 by omega, hw] | simp (maxSteps := 1000000) [hc, of_decide_eq_false hc, hb, h00, okRef, hu, hs, hg1, hg2, ht, show 63 - k < 66 by omega, show 63 - k < 64 by omega, show (0 : Int) ≤ 63 - k by omega, show (63 : Int) - k < 64 by omega, hw] | simp (maxSteps := 1000000) [hc, hb, h00, okRef, hu, hs, hg1, hg2, ht, show 63 - k < 66 by omega, show 63 - k < 64 by omega, show (0 : Int) ≤ 63 - k by omega, show (63 : Int) - k < 64 by omega, hw]) <;> (try simp at hc) <;> (try (exfalso; first | omega | exact absurd hc (by assumption))))
      | (refine And.intro (by first | assumption | omega | (simp [BelL, Bel]; done) | (simp; omega)) ?_; try simp (maxSteps := 1000000) [hb, h00, okRef, hu, hs, hg1, hg2, ht, show 63 - k < 66 by omega, show 63 - k < 64 by omega, show (0 : Int) ≤ 63 - k by omega, show (63 : Int) - k < 64 by omega, hw])
    all_goals cases t
    all_goals first
      | exact .inr hE
      | (refine hKL (64 - (k + 1)) _ _ (by omega) (by simp; omega) ⟨k + 1, σ', by omega, rfl, hE, rfl⟩)
      | contradiction
  · obtain rfl : k = 64 := by omega
    repeat' first
      | refine jw_ret (hQ _ _ (.inr rfl) ⟨5, _, _, rfl, rfl, ?_⟩)
      | refine jw_ret (hQ _ _ (.inr rfl) ⟨_, rfl, ?_⟩)
      | refine jw_seq_k fun K hK => ?_
      | refine jw_block ?_
      | (refine jw_skip ?_; try simp)
      | (refine jw_exit ?_; try simp)
      | (refine jw_cond rfl (fun hc => ?_) (fun hc => ?_) <;> (try simp at hc) <;> (try (exfalso; first | omega | exact absurd hc (by assumption))))
      | (refine jw_c ?_; simp (maxSteps := 1000000))
      | (refine jw_draw_j mixed (by kernel_rfl) ?_; simp (maxSteps := 1000000))
      | (first | (apply hK; clear hK) | (clear hK; apply hK; clear hK) | (clear hK; clear hK; apply hK; clear hK) | (clear hK; clear hK; clear hK; apply hK; clear hK))
      | exact hQ _ _ (.inl rfl) ⟨5, _, _, rfl, rfl, rfl⟩
      | refine hQ _ _ (.inl rfl) ⟨5, _, _, rfl, rfl, ?_⟩
      | refine hQ _ _ (.inl rfl) ⟨_, rfl, ?_⟩
      | (refine jd_newc rfl rfl (by simp) ?_; simp (maxSteps := 1000000) [thD, thL])
      | (refine okN_or ?_; simp (maxSteps := 1000000) [thD, thL])
      | (refine okC_guard (fun hc => ?_) (fun hc => ?_) <;> (first | simp (maxSteps := 1000000) [hc, of_decide_eq_true hc] | simp (maxSteps := 1000000) [hc, of_decide_eq_false hc] | simp (maxSteps := 1000000) [hc]) <;> (try simp at hc) <;> (try (exfalso; first | omega | exact absurd hc (by assumption))))
      | (refine okJ_guard (fun hc => ?_) (fun hc => ?_) <;> (first | simp (maxSteps := 1000000) [hc, of_decide_eq_true hc] | simp (maxSteps := 1000000) [hc, of_decide_eq_false hc] | simp (maxSteps := 1000000) [hc]) <;> (try simp at hc) <;> (try (exfalso; first | omega | exact absurd hc (by assumption))))
      | (refine And.intro (by first | assumption | omega | (simp [BelL, Bel]; done) | (simp; omega)) ?_; try simp (maxSteps := 1000000))
      | (refine okC_or ?_; simp (maxSteps := 1000000))
    exact .inl hg

/-- The last slot that is written, and one. -/
def tailN (sl : List Slot) : Nat → Nat
  | 0 => 0
  | n + 1 => if sl.getD n .none = .none then tailN sl n else n + 1
def sealR (u : Un) (e : Int) : Rp × Un :=
  if e ≤ u.epoch then ({ code := 18 }, u) else if 1000000 < e then ({ code := 2 }, u) else ({ tail := tailN u.slots 64 }, { u with epoch := e })

theorem slot_guard (s : Slot) : guardOk Try.prog true 49 (slotD s) .nif = true := by cases s <;> rfl
theorem slot_eq (s : Slot) (σ : Store) : eqD Try.prog σ 20 49 (slotD s) .nif = some (decide (s = .none)) := by
  cases s <;> simp [slotD]

theorem sealF {G : Globals} (u : Un) (hu : UnOk u) (e : Int) :
    FC Try.prog G 18 [.ptr 0 66 0, .int .i64 e] [some (.c (unC u))] (fun d σ' => d = rpD (sealR u e).1 ∧ σ' = [some (.c (unC (sealR u e).2))]) := by
  have hl := hu.1
  refine fc_to ?_
  refine fc_enter_v Try.func18 rfl rfl fun Q hQ => ?_
  unfold sealR at hQ
  repeat' first
    | refine jw_seq_k fun K hK => ?_
    | refine jw_block ?_
    | (refine jw_skip ?_; try simp)
    | (refine jw_exit ?_; try simp)
    | (refine jw_cond rfl (fun hc => ?_) (fun hc => ?_) <;> (try simp at hc) <;> (try (exfalso; first | omega | exact absurd hc (by assumption))))
    | (refine jw_c ?_; simp (maxSteps := 1000000) [Try.f18, hl, un_head, un_epoch, un_epoch', un_setepoch, -putCells, put_one, put_all, okCell, okRef, rpD, rpC, numsD])
    | (refine jw_draw_j mixed (by kernel_rfl) ?_; simp (maxSteps := 1000000) [Try.f18, hl, un_head, un_epoch, un_epoch', un_setepoch, -putCells, put_one, put_all, okCell, okRef, rpD, rpC, numsD])
    | (first | (apply hK; clear hK) | (clear hK; apply hK; clear hK) | (clear hK; clear hK; apply hK; clear hK) | (clear hK; clear hK; clear hK; apply hK; clear hK))
    | (refine jw_ret (hQ _ _ (.inr rfl) (ret_ok 1 ?_ (by first | omega | simp))); simp (maxSteps := 1000000) [okRet, BelL, Bel, BelS, BelOb, Try.f18, hl, un_head, un_epoch, un_epoch', un_setepoch, -putCells, put_one, put_all, okCell, okRef, rpD, rpC, numsD])
    | (refine hQ _ _ (.inl rfl) (ret_ok 1 ?_ (by first | omega | simp)); simp (maxSteps := 1000000) [okRet, BelL, Bel, BelS, BelOb, Try.f18, hl, un_head, un_epoch, un_epoch', un_setepoch, -putCells, put_one, put_all, okCell, okRef, rpD, rpC, numsD])
    | (refine jl_fc (f := 22) rfl rfl rfl rfl rfl (backF { u with epoch := e } hl _ rfl) ?_; rintro r σ' ⟨rfl, rfl⟩; simp (maxSteps := 1000000) [Try.f18, hl, un_head, un_epoch, un_epoch', un_setepoch, -putCells, put_one, put_all, okCell, okRef, rpD, rpC, numsD])
    | (refine jd_newc rfl rfl (by simp) ?_; simp (maxSteps := 1000000) [thD, thL, Try.f18, hl, un_head, un_epoch, un_epoch', un_setepoch, -putCells, put_one, put_all, okCell, okRef, rpD, rpC, numsD])
    | (refine okN_or ?_; simp (maxSteps := 1000000) [thD, thL, Try.f18, hl, un_head, un_epoch, un_epoch', un_setepoch, -putCells, put_one, put_all, okCell, okRef, rpD, rpC, numsD])
    | (refine okC_guard (fun hc => ?_) (fun hc => ?_) <;> (first | simp (maxSteps := 1000000) [hc, of_decide_eq_true hc, Try.f18, hl, un_head, un_epoch, un_epoch', un_setepoch, -putCells, put_one, put_all, okCell, okRef, rpD, rpC, numsD] | simp (maxSteps := 1000000) [hc, of_decide_eq_false hc, Try.f18, hl, un_head, un_epoch, un_epoch', un_setepoch, -putCells, put_one, put_all, okCell, okRef, rpD, rpC, numsD] | simp (maxSteps := 1000000) [hc, Try.f18, hl, un_head, un_epoch, un_epoch', un_setepoch, -putCells, put_one, put_all, okCell, okRef, rpD, rpC, numsD]) <;> (try simp at hc) <;> (try (exfalso; first | omega | exact absurd hc (by assumption))))
    | (refine okJ_guard (fun hc => ?_) (fun hc => ?_) <;> (first | simp (maxSteps := 1000000) [hc, of_decide_eq_true hc, Try.f18, hl, un_head, un_epoch, un_epoch', un_setepoch, -putCells, put_one, put_all, okCell, okRef, rpD, rpC, numsD] | simp (maxSteps := 1000000) [hc, of_decide_eq_false hc, Try.f18, hl, un_head, un_epoch, un_epoch', un_setepoch, -putCells, put_one, put_all, okCell, okRef, rpD, rpC, numsD] | simp (maxSteps := 1000000) [hc, Try.f18, hl, un_head, un_epoch, un_epoch', un_setepoch, -putCells, put_one, put_all, okCell, okRef, rpD, rpC, numsD]) <;> (try simp at hc) <;> (try (exfalso; first | omega | exact absurd hc (by assumption))))
    | (refine And.intro (by first | assumption | omega | (simp [BelL, Bel]; done) | (simp; omega)) ?_; try simp (maxSteps := 1000000) [Try.f18, hl, un_head, un_epoch, un_epoch', un_setepoch, -putCells, put_one, put_all, okCell, okRef, rpD, rpC, numsD])
    | (refine okC_or ?_; simp (maxSteps := 1000000) [Try.f18, hl, un_head, un_epoch, un_epoch', un_setepoch, -putCells, put_one, put_all, okCell, okRef, rpD, rpC, numsD])
  · all_goals (first | clear hQ hK | clear hQ)
    all_goals (repeat' split)
    all_goals first | (exfalso; omega) | simp_all
  · all_goals (first | clear hQ hK | clear hQ)
    all_goals (repeat' split)
    all_goals first | (exfalso; omega) | simp_all
  · refine jw_iter (backIt u.slots hl 2) rfl (fun r k σ => σ = [some (.c (unC { u with epoch := e })), some (.c [.int .i64 0, .bool false, .nsl, .int .i64 0]), some (.c [.ms 0 66 0 64 1]), r] ∧ tailN u.slots 64 = tailN u.slots (64 - k))
      (fun x r σ => x = .ret ∧ σ = [some (.c (unC { u with epoch := e })), some (.c [.int .i64 0, .bool false, .nsl, .int .i64 (tailN u.slots 64)]), some (.c [.ms 0 66 0 64 1]), r])
      (by rintro r k σ ⟨rfl, _⟩; exact ⟨rfl, { u with epoch := e }, rfl, rfl⟩) (by intro k _; rfl) (by rintro r k σ ⟨rfl, _⟩; rfl) (by rintro r r' k σ ⟨rfl, h⟩; exact ⟨rfl, h⟩) (by rintro x r σ ⟨_, rfl⟩; rfl) (by rintro x r r' σ ⟨rfl, rfl⟩; exact ⟨rfl, rfl⟩) (fun r => ⟨rfl, rfl⟩) ?_ ?_ ?_
    · rintro k σ r hk _ ⟨rfl, hT⟩
      obtain ⟨s, hs⟩ : ∃ s, u.slots.getD (63 - k) .none = s := ⟨_, rfl⟩
      dsimp only [setL]
      rw [hs]
      have hw := wrap_i64 (n := (63 : Int) - k + 1) (by omega) (by omega)
      have hT2 : tailN u.slots (64 - k) = if s = .none then tailN u.slots (64 - (k + 1)) else 64 - k := by
        rw [show 64 - k = (63 - k) + 1 by omega]
        show (if u.slots.getD (63 - k) .none = .none then tailN u.slots (63 - k) else (63 - k) + 1) = _
        rw [hs, show 63 - k = 64 - (k + 1) by omega]
      repeat' first
        | refine jw_ret (hQ _ _ (.inr rfl) ⟨5, _, _, rfl, rfl, ?_⟩)
        | refine jw_ret (hQ _ _ (.inr rfl) ⟨_, rfl, ?_⟩)
        | refine jw_seq_k fun K hK => ?_
        | refine jw_block ?_
        | (refine jw_skip ?_; try simp)
        | (refine jw_exit ?_; try simp)
        | (refine jw_cond rfl (fun hc => ?_) (fun hc => ?_) <;> (try simp at hc) <;> (try (exfalso; first | omega | exact absurd hc (by assumption))))
        | (refine jw_c ?_; simp (maxSteps := 1000000) [setL])
        | (refine jw_draw_j mixed (by kernel_rfl) ?_; simp (maxSteps := 1000000) [setL])
        | (first | (apply hK; clear hK) | (clear hK; apply hK; clear hK) | (clear hK; clear hK; apply hK; clear hK) | (clear hK; clear hK; clear hK; apply hK; clear hK))
        | exact hQ _ _ (.inl rfl) ⟨5, _, _, rfl, rfl, rfl⟩
        | refine hQ _ _ (.inl rfl) ⟨5, _, _, rfl, rfl, ?_⟩
        | refine hQ _ _ (.inl rfl) ⟨_, rfl, ?_⟩
        | (refine jd_newc rfl rfl (by simp) ?_; simp (maxSteps := 1000000) [thD, thL, setL])
        | (refine okN_or ?_; simp (maxSteps := 1000000) [thD, thL, setL])
        | (refine okC_guard (fun hc => ?_) (fun hc => ?_) <;> (first | simp (maxSteps := 1000000) [hc, of_decide_eq_true hc, setL] | simp (maxSteps := 1000000) [hc, of_decide_eq_false hc, setL] | simp (maxSteps := 1000000) [hc, setL]) <;> (try simp at hc) <;> (try (exfalso; first | omega | exact absurd hc (by assumption))))
        | (refine okJ_guard (fun hc => ?_) (fun hc => ?_) <;> (first | simp (maxSteps := 1000000) [hc, of_decide_eq_true hc, setL] | simp (maxSteps := 1000000) [hc, of_decide_eq_false hc, setL] | simp (maxSteps := 1000000) [hc, setL]) <;> (try simp at hc) <;> (try (exfalso; first | omega | exact absurd hc (by assumption))))
        | (refine And.intro (by first | assumption | omega | (simp [BelL, Bel]; done) | (simp; omega)) ?_; try simp (maxSteps := 1000000) [setL])
        | (refine okC_or ?_; simp (maxSteps := 1000000) [setL])
      intro r σ st _
      rintro rfl _
      by_cases h0 : s = .none
      · rw [if_pos h0] at hT2
        repeat' first
          | refine jw_ret (hQ _ _ (.inr rfl) ⟨5, _, _, rfl, rfl, ?_⟩)
          | refine jw_ret (hQ _ _ (.inr rfl) ⟨_, rfl, ?_⟩)
          | refine jw_seq_k fun K hK => ?_
          | refine jw_block ?_
          | (refine jw_skip ?_; try simp)
          | (refine jw_exit ?_; try simp)
          | (refine jw_cond rfl (fun hc => ?_) (fun hc => ?_) <;> (try simp at hc) <;> (try (exfalso; first | omega | exact absurd hc (by assumption))))
          | (refine jw_c ?_; simp (maxSteps := 1000000) [slot_guard, slot_eq, h0])
          | (refine jw_draw_j mixed (by kernel_rfl) ?_; simp (maxSteps := 1000000) [slot_guard, slot_eq, h0])
          | (first | (apply hK; clear hK) | (clear hK; apply hK; clear hK) | (clear hK; clear hK; apply hK; clear hK) | (clear hK; clear hK; clear hK; apply hK; clear hK))
          | exact hQ _ _ (.inl rfl) ⟨5, _, _, rfl, rfl, rfl⟩
          | refine hQ _ _ (.inl rfl) ⟨5, _, _, rfl, rfl, ?_⟩
          | refine hQ _ _ (.inl rfl) ⟨_, rfl, ?_⟩
          | (refine jd_newc rfl rfl (by simp) ?_; simp (maxSteps := 1000000) [thD, thL, slot_guard, slot_eq, h0])
          | (refine okN_or ?_; simp (maxSteps := 1000000) [thD, thL, slot_guard, slot_eq, h0])
          | (refine okC_guard (fun hc => ?_) (fun hc => ?_) <;> (first | simp (maxSteps := 1000000) [hc, of_decide_eq_true hc, slot_guard, slot_eq, h0] | simp (maxSteps := 1000000) [hc, of_decide_eq_false hc, slot_guard, slot_eq, h0] | simp (maxSteps := 1000000) [hc, slot_guard, slot_eq, h0]) <;> (try simp at hc) <;> (try (exfalso; first | omega | exact absurd hc (by assumption))))
          | (refine okJ_guard (fun hc => ?_) (fun hc => ?_) <;> (first | simp (maxSteps := 1000000) [hc, of_decide_eq_true hc, slot_guard, slot_eq, h0] | simp (maxSteps := 1000000) [hc, of_decide_eq_false hc, slot_guard, slot_eq, h0] | simp (maxSteps := 1000000) [hc, slot_guard, slot_eq, h0]) <;> (try simp at hc) <;> (try (exfalso; first | omega | exact absurd hc (by assumption))))
          | (refine And.intro (by first | assumption | omega | (simp [BelL, Bel]; done) | (simp; omega)) ?_; try simp (maxSteps := 1000000) [slot_guard, slot_eq, h0])
          | (refine okC_or ?_; simp (maxSteps := 1000000) [slot_guard, slot_eq, h0])
        exact ⟨_, .refl _, rfl, by rw [show 63 - k = 64 - (k + 1) by omega]; exact hT.trans hT2⟩
      · rw [if_neg h0] at hT2
        repeat' first
          | refine jw_ret (hQ _ _ (.inr rfl) ⟨5, _, _, rfl, rfl, ?_⟩)
          | refine jw_ret (hQ _ _ (.inr rfl) ⟨_, rfl, ?_⟩)
          | refine jw_seq_k fun K hK => ?_
          | refine jw_block ?_
          | (refine jw_skip ?_; try simp)
          | (refine jw_exit ?_; try simp)
          | (refine jw_cond rfl (fun hc => ?_) (fun hc => ?_) <;> (try simp at hc) <;> (try (exfalso; first | omega | exact absurd hc (by assumption))))
          | (refine jw_c ?_; simp (maxSteps := 1000000) [slot_guard, slot_eq, h0, hw])
          | (refine jw_draw_j mixed (by kernel_rfl) ?_; simp (maxSteps := 1000000) [slot_guard, slot_eq, h0, hw])
          | (first | (apply hK; clear hK) | (clear hK; apply hK; clear hK) | (clear hK; clear hK; apply hK; clear hK) | (clear hK; clear hK; clear hK; apply hK; clear hK))
          | exact hQ _ _ (.inl rfl) ⟨5, _, _, rfl, rfl, rfl⟩
          | refine hQ _ _ (.inl rfl) ⟨5, _, _, rfl, rfl, ?_⟩
          | refine hQ _ _ (.inl rfl) ⟨_, rfl, ?_⟩
          | (refine jd_newc rfl rfl (by simp) ?_; simp (maxSteps := 1000000) [thD, thL, slot_guard, slot_eq, h0, hw])
          | (refine okN_or ?_; simp (maxSteps := 1000000) [thD, thL, slot_guard, slot_eq, h0, hw])
          | (refine okC_guard (fun hc => ?_) (fun hc => ?_) <;> (first | simp (maxSteps := 1000000) [hc, of_decide_eq_true hc, slot_guard, slot_eq, h0, hw] | simp (maxSteps := 1000000) [hc, of_decide_eq_false hc, slot_guard, slot_eq, h0, hw] | simp (maxSteps := 1000000) [hc, slot_guard, slot_eq, h0, hw]) <;> (try simp at hc) <;> (try (exfalso; first | omega | exact absurd hc (by assumption))))
          | (refine okJ_guard (fun hc => ?_) (fun hc => ?_) <;> (first | simp (maxSteps := 1000000) [hc, of_decide_eq_true hc, slot_guard, slot_eq, h0, hw] | simp (maxSteps := 1000000) [hc, of_decide_eq_false hc, slot_guard, slot_eq, h0, hw] | simp (maxSteps := 1000000) [hc, slot_guard, slot_eq, h0, hw]) <;> (try simp at hc) <;> (try (exfalso; first | omega | exact absurd hc (by assumption))))
          | (refine And.intro (by first | assumption | omega | (simp [BelL, Bel]; done) | (simp; omega)) ?_; try simp (maxSteps := 1000000) [slot_guard, slot_eq, h0, hw])
          | (refine okC_or ?_; simp (maxSteps := 1000000) [slot_guard, slot_eq, h0, hw])
        (repeat refine jw_seq_k fun K hK => ?_); refine jw_ret ⟨_, .refl _, .inr ⟨by simp, rfl, ?_⟩⟩
        simp [hT, hT2]
        omega
    · rintro σ ⟨rfl, hT⟩
      have h0 : tailN u.slots 64 = 0 := hT
      rw [h0] at hQ
      clear hT h0
      have e1 : ¬ e ≤ u.epoch := by omega
      have e2 : ¬ 1000000 < e := by omega
      simp
      repeat' first
        | refine jw_seq_k fun K hK => ?_
        | refine jw_block ?_
        | (refine jw_skip ?_; try simp)
        | (refine jw_exit ?_; try simp)
        | (refine jw_cond rfl (fun hc => ?_) (fun hc => ?_) <;> (try simp at hc) <;> (try (exfalso; first | omega | exact absurd hc (by assumption))))
        | (refine jw_c ?_; simp (maxSteps := 1000000) [hl, numsD, rpD, rpC, e1, e2])
        | (refine jw_draw_j mixed (by kernel_rfl) ?_; simp (maxSteps := 1000000) [hl, numsD, rpD, rpC, e1, e2])
        | (first | (apply hK; clear hK) | (clear hK; apply hK; clear hK) | (clear hK; clear hK; apply hK; clear hK) | (clear hK; clear hK; clear hK; apply hK; clear hK))
        | (refine jw_ret (hQ _ _ (.inr rfl) (ret_ok 1 ?_ (by first | omega | simp))); simp (maxSteps := 1000000) [okRet, BelL, Bel, BelS, BelOb, hl, numsD, rpD, rpC, e1, e2])
        | (refine hQ _ _ (.inl rfl) (ret_ok 1 ?_ (by first | omega | simp)); simp (maxSteps := 1000000) [okRet, BelL, Bel, BelS, BelOb, hl, numsD, rpD, rpC, e1, e2])
        | (refine jd_newc rfl rfl (by simp) ?_; simp (maxSteps := 1000000) [thD, thL, hl, numsD, rpD, rpC, e1, e2])
        | (refine okN_or ?_; simp (maxSteps := 1000000) [thD, thL, hl, numsD, rpD, rpC, e1, e2])
        | (refine okC_guard (fun hc => ?_) (fun hc => ?_) <;> (first | simp (maxSteps := 1000000) [hc, of_decide_eq_true hc, hl, numsD, rpD, rpC, e1, e2] | simp (maxSteps := 1000000) [hc, of_decide_eq_false hc, hl, numsD, rpD, rpC, e1, e2] | simp (maxSteps := 1000000) [hc, hl, numsD, rpD, rpC, e1, e2]) <;> (try simp at hc) <;> (try (exfalso; first | omega | exact absurd hc (by assumption))))
        | (refine okJ_guard (fun hc => ?_) (fun hc => ?_) <;> (first | simp (maxSteps := 1000000) [hc, of_decide_eq_true hc, hl, numsD, rpD, rpC, e1, e2] | simp (maxSteps := 1000000) [hc, of_decide_eq_false hc, hl, numsD, rpD, rpC, e1, e2] | simp (maxSteps := 1000000) [hc, hl, numsD, rpD, rpC, e1, e2]) <;> (try simp at hc) <;> (try (exfalso; first | omega | exact absurd hc (by assumption))))
        | (refine And.intro (by first | assumption | omega | (simp [BelL, Bel]; done) | (simp; omega)) ?_; try simp (maxSteps := 1000000) [hl, numsD, rpD, rpC, e1, e2])
        | (refine okC_or ?_; simp (maxSteps := 1000000) [hl, numsD, rpD, rpC, e1, e2])
    · rintro x σ _ ⟨rfl, rfl⟩
      simp
      refine hQ _ _ (.inr rfl) (ret_ok 1 ?_ (by simp))
      simp [okRet, BelL, Bel, BelS, BelOb, rpD, rpC, numsD]
      clear hQ
      have e1 : ¬ e ≤ u.epoch := by omega
      have e2 : ¬ 1000000 < e := by omega
      generalize tailN u.slots 64 = T
      simp [e1, e2]
end Go.Proofs.Ytkjliaapdjapmaa
