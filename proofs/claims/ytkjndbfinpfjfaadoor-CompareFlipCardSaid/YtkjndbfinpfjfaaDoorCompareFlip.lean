/- CompareFlip: the walk. -/
import Derived.Test.YtkjndbfinpfjfaaDoorCompare
import Derived.Test.YtkjndbfinpfjfaaDoorRaw
set_option linter.unusedVariables false
set_option linter.unusedSimpArgs false
set_option maxRecDepth 20000
set_option maxHeartbeats 20000000
namespace Go.Proofs.YtkjndbfinpfjfaaDoor
open Go Go.Vm Go.Proofs

def flipD (op : Int) : Int := if op = 15 then 17 else if op = 16 then 18 else if op = 17 then 15 else if op = 18 then 16 else op
theorem cmpD_flip {op k i k' i' : Int} {L L' : List Nat} (h1 : 13 ≤ op) (h2 : op ≤ 18) : cmpD (flipD op) k' i' L' k i L = cmpD op k i L k' i' L' := by
  have ha : ordV k' i' L' k i L = - ordV k i L k' i' L' := ord_anti _ _ _ _ _ _
  have h : op = 13 ∨ op = 14 ∨ op = 15 ∨ op = 16 ∨ op = 17 ∨ op = 18 := by omega
  have hr : ordV k i L k' i' L' = -1 ∨ ordV k i L k' i' L' = 0 ∨ ordV k i L k' i' L' = 1 := ord_range _ _ _ _ _ _
  unfold cmpD
  rw [ha]
  generalize ordV k i L k' i' L' = o at hr ⊢
  have e1 : (k' = 0 ∨ k = 0) ↔ (k = 0 ∨ k' = 0) := by omega
  have e2 : (k' ≠ k) ↔ (k ≠ k') := by omega
  have e3 : holdsD (flipD op) (-o) = holdsD op o := by rcases h with rfl | rfl | rfl | rfl | rfl | rfl <;> rcases hr with rfl | rfl | rfl <;> rfl
  simp only [e1, e2, e3]
theorem ordV_self (k i : Int) (L : List Nat) : ordV k i L k i L = 0 := (ord_zero _ _ _ _ _ _).2 ⟨rfl, rfl, rfl⟩

theorem compareFlip (a b a' b' c : Int) (s s' : ByteArray) (hb : (Lit.int .i64 b).wf = true) (hb' : (Lit.int .i64 b').wf = true) (hs : s.size ≤ 140737488351232) (hs' : s'.size ≤ 140737488351232) :
    FV Tryd.prog utfG 5 [.agg [.int .i64 a, .int .i64 b, .str s], .agg [.int .i64 a', .int .i64 b', .str s'], .int .i64 c] (fun r => r = .bool true) := by
  have w := wf_i64 hb
  have w' := wf_i64 hb'
  refine fv_enter Tryd.func5 rfl rfl fun Q hQ => ?_
  ((repeat refine jw_seq_k fun K hK => ?_); refine jw_reg ?_; simp (maxSteps := 1000000) [Tryd.f5]; (first | (apply hK; clear hK) | (clear hK; apply hK; clear hK) | (clear hK; clear hK; apply hK; clear hK) | (clear hK; clear hK; clear hK; apply hK; clear hK) | (clear hK; clear hK; clear hK; clear hK; apply hK; clear hK) | (clear hK; clear hK; clear hK; clear hK; clear hK; apply hK; clear hK) | (clear hK; clear hK; clear hK; clear hK; clear hK; clear hK; apply hK; clear hK)))
  ((repeat refine jw_seq_k fun K hK => ?_); refine jw_reg ?_; simp (maxSteps := 1000000); (first | (apply hK; clear hK) | (clear hK; apply hK; clear hK) | (clear hK; clear hK; apply hK; clear hK) | (clear hK; clear hK; clear hK; apply hK; clear hK) | (clear hK; clear hK; clear hK; clear hK; apply hK; clear hK) | (clear hK; clear hK; clear hK; clear hK; clear hK; apply hK; clear hK) | (clear hK; clear hK; clear hK; clear hK; clear hK; clear hK; apply hK; clear hK)))
  ((repeat refine jw_seq_k fun K hK => ?_); refine jw_c ?_; simp (maxSteps := 1000000))
  refine jl_call (f := 14) rfl rfl rfl rfl rfl (pickedG c 6 (by decide) (by decide)) (by simp [BelL, Bel]) ?_
  rintro r rfl
  simp
  (first | (apply hK; clear hK) | (clear hK; apply hK; clear hK) | (clear hK; clear hK; apply hK; clear hK) | (clear hK; clear hK; clear hK; apply hK; clear hK) | (clear hK; clear hK; clear hK; clear hK; apply hK; clear hK) | (clear hK; clear hK; clear hK; clear hK; clear hK; apply hK; clear hK) | (clear hK; clear hK; clear hK; clear hK; clear hK; clear hK; apply hK; clear hK))
  ((repeat refine jw_seq_k fun K hK => ?_); refine jw_c ?_; simp (maxSteps := 1000000))
  refine jl_call (f := 11) rfl rfl rfl rfl rfl (valuedF a b s w.1 w.2 (by omega)) (by simp [BelL, Bel]) ?_
  rintro r ⟨k, i, L, ok, rfl⟩
  simp [vaD]
  (first | (apply hK; clear hK) | (clear hK; apply hK; clear hK) | (clear hK; clear hK; apply hK; clear hK) | (clear hK; clear hK; clear hK; apply hK; clear hK) | (clear hK; clear hK; clear hK; clear hK; apply hK; clear hK) | (clear hK; clear hK; clear hK; clear hK; clear hK; apply hK; clear hK) | (clear hK; clear hK; clear hK; clear hK; clear hK; clear hK; apply hK; clear hK))
  ((repeat refine jw_seq_k fun K hK => ?_); refine jw_c ?_; simp (maxSteps := 1000000))
  refine jl_call (f := 11) rfl rfl rfl rfl rfl (valuedF a' b' s' w'.1 w'.2 (by omega)) (by simp [BelL, Bel]) ?_
  rintro r ⟨k', i', L', ok', rfl⟩
  simp [vaD]
  (first | (apply hK; clear hK) | (clear hK; apply hK; clear hK) | (clear hK; clear hK; apply hK; clear hK) | (clear hK; clear hK; clear hK; apply hK; clear hK) | (clear hK; clear hK; clear hK; clear hK; apply hK; clear hK) | (clear hK; clear hK; clear hK; clear hK; clear hK; apply hK; clear hK) | (clear hK; clear hK; clear hK; clear hK; clear hK; clear hK; apply hK; clear hK))
  have p1 : 0 ≤ c % 6 := Int.emod_nonneg _ (by decide)
  have p2 : c % 6 < 6 := Int.emod_lt_of_pos _ (by decide)
  have hC := fun op (h1 : 13 ≤ op) (h2 : op ≤ 18) => compareF (G := utfG) vstr h1 h2 ok ok'
  have hD := fun op (h1 : 13 ≤ op) (h2 : op ≤ 18) => (compareF (G := utfG) vstr (op := flipD op) (by unfold flipD; repeat' split; all_goals omega) (by unfold flipD; repeat' split; all_goals omega) ok' ok).mono (R' := fun r => r = .tup [.int .i64 (cmpD op k i L k' i' L').1, .int .i64 (cmpD op k i L k' i' L').2]) (by rintro r rfl; rw [cmpD_flip h1 h2])
  have hS := compareF (G := utfG) vstr (op := 13) (by decide) (by decide) ok ok
  unfold vaD at hC hD hS
  have hS2 : cmpD 13 k i L k i L = if k = 0 then (1, 0) else (2, 0) := by
    unfold cmpD holdsD
    rw [ordV_self]
    by_cases h0 : k = 0 <;> simp [h0]
  rw [hS2] at hS
  generalize c % 6 = j at p1 p2 ⊢
  have hj : j = 0 ∨ j = 1 ∨ j = 2 ∨ j = 3 ∨ j = 4 ∨ j = 5 := by omega
  by_cases k0 : k = 0
  · simp only [k0, if_true] at hS hC hD ⊢
    rcases hj with rfl | rfl | rfl | rfl | rfl | rfl
    all_goals
      repeat' first
        | refine jw_ret (hQ _ _ (.inr rfl) ⟨5, _, _, rfl, rfl, ?_⟩)
        | refine jw_ret (hQ _ _ (.inr rfl) ⟨_, rfl, ?_⟩)
        | refine jw_seq_k fun K hK => ?_
        | refine jw_block ?_
        | (refine jw_skip ?_; simp)
        | (refine jw_exit ?_; simp)
        | (refine jw_cond rfl (fun hc => ?_) (fun hc => ?_) <;> (try simp at hc) <;> (try (exfalso; omega)))
        | (refine jw_c ?_; simp (maxSteps := 1000000))
        | (refine jw_draw_q mixed (by kernel_rfl) ?_; simp (maxSteps := 1000000))
        | (first | (apply hK; clear hK) | (clear hK; apply hK; clear hK) | (clear hK; clear hK; apply hK; clear hK) | (clear hK; clear hK; clear hK; apply hK; clear hK))
        | exact hQ _ _ (.inl rfl) ⟨5, _, _, rfl, rfl, rfl⟩
        | refine hQ _ _ (.inl rfl) ⟨5, _, _, rfl, rfl, ?_⟩
        | refine hQ _ _ (.inl rfl) ⟨_, rfl, ?_⟩
        | (refine jl_call (f := 13) rfl rfl rfl rfl rfl (hC _ (by omega) (by omega)) (by simp [BelL, Bel]) ?_; rintro r rfl; simp (maxSteps := 1000000))
        | (refine jq_call (f := 13) rfl rfl rfl rfl (hC _ (by omega) (by omega)) (by simp [BelL, Bel]) rfl ?_; simp (maxSteps := 1000000))
        | (refine jl_call (f := 13) rfl rfl rfl rfl rfl (hD 13 (by omega) (by omega)) (by simp [BelL, Bel]) ?_; rintro r rfl; simp (maxSteps := 1000000))
        | (refine jq_call (f := 13) rfl rfl rfl rfl (hD 13 (by omega) (by omega)) (by simp [BelL, Bel]) rfl ?_; simp (maxSteps := 1000000))
        | (refine jl_call (f := 13) rfl rfl rfl rfl rfl (hD 14 (by omega) (by omega)) (by simp [BelL, Bel]) ?_; rintro r rfl; simp (maxSteps := 1000000))
        | (refine jq_call (f := 13) rfl rfl rfl rfl (hD 14 (by omega) (by omega)) (by simp [BelL, Bel]) rfl ?_; simp (maxSteps := 1000000))
        | (refine jl_call (f := 13) rfl rfl rfl rfl rfl (hD 15 (by omega) (by omega)) (by simp [BelL, Bel]) ?_; rintro r rfl; simp (maxSteps := 1000000))
        | (refine jq_call (f := 13) rfl rfl rfl rfl (hD 15 (by omega) (by omega)) (by simp [BelL, Bel]) rfl ?_; simp (maxSteps := 1000000))
        | (refine jl_call (f := 13) rfl rfl rfl rfl rfl (hD 16 (by omega) (by omega)) (by simp [BelL, Bel]) ?_; rintro r rfl; simp (maxSteps := 1000000))
        | (refine jq_call (f := 13) rfl rfl rfl rfl (hD 16 (by omega) (by omega)) (by simp [BelL, Bel]) rfl ?_; simp (maxSteps := 1000000))
        | (refine jl_call (f := 13) rfl rfl rfl rfl rfl (hD 17 (by omega) (by omega)) (by simp [BelL, Bel]) ?_; rintro r rfl; simp (maxSteps := 1000000))
        | (refine jq_call (f := 13) rfl rfl rfl rfl (hD 17 (by omega) (by omega)) (by simp [BelL, Bel]) rfl ?_; simp (maxSteps := 1000000))
        | (refine jl_call (f := 13) rfl rfl rfl rfl rfl (hD 18 (by omega) (by omega)) (by simp [BelL, Bel]) ?_; rintro r rfl; simp (maxSteps := 1000000))
        | (refine jq_call (f := 13) rfl rfl rfl rfl (hD 18 (by omega) (by omega)) (by simp [BelL, Bel]) rfl ?_; simp (maxSteps := 1000000))
        | (refine jl_call (f := 13) rfl rfl rfl rfl rfl (hS) (by simp [BelL, Bel]) ?_; rintro r rfl; simp (maxSteps := 1000000))
        | (refine jq_call (f := 13) rfl rfl rfl rfl (hS) (by simp [BelL, Bel]) rfl ?_; simp (maxSteps := 1000000))
        | (refine okC_guard (fun hc => ?_) (fun hc => ?_) <;> (first | simp (maxSteps := 1000000) [hc, of_decide_eq_true hc] | simp (maxSteps := 1000000) [hc, of_decide_eq_false hc] | simp (maxSteps := 1000000) [hc]) <;> (try simp at hc) <;> (try (exfalso; omega)))
        | (refine okQ_guard (fun hc => ?_) (fun hc => ?_) <;> (first | simp (maxSteps := 1000000) [hc, of_decide_eq_true hc] | simp (maxSteps := 1000000) [hc, of_decide_eq_false hc] | simp (maxSteps := 1000000) [hc]) <;> (try simp at hc) <;> (try (exfalso; omega)))
        | (refine And.intro (by first | assumption | omega | (simp; omega)) ?_; try simp (maxSteps := 1000000))
        | (refine okC_or ?_; simp (maxSteps := 1000000))
    all_goals rfl
  · simp only [k0, if_false] at hS
    rcases hj with rfl | rfl | rfl | rfl | rfl | rfl
    all_goals
      repeat' first
        | refine jw_ret (hQ _ _ (.inr rfl) ⟨5, _, _, rfl, rfl, ?_⟩)
        | refine jw_ret (hQ _ _ (.inr rfl) ⟨_, rfl, ?_⟩)
        | refine jw_seq_k fun K hK => ?_
        | refine jw_block ?_
        | (refine jw_skip ?_; simp)
        | (refine jw_exit ?_; simp)
        | (refine jw_cond rfl (fun hc => ?_) (fun hc => ?_) <;> (try simp at hc) <;> (try (exfalso; omega)))
        | (refine jw_c ?_; simp (maxSteps := 1000000) [k0])
        | (refine jw_draw_q mixed (by kernel_rfl) ?_; simp (maxSteps := 1000000) [k0])
        | (first | (apply hK; clear hK) | (clear hK; apply hK; clear hK) | (clear hK; clear hK; apply hK; clear hK) | (clear hK; clear hK; clear hK; apply hK; clear hK))
        | exact hQ _ _ (.inl rfl) ⟨5, _, _, rfl, rfl, rfl⟩
        | refine hQ _ _ (.inl rfl) ⟨5, _, _, rfl, rfl, ?_⟩
        | refine hQ _ _ (.inl rfl) ⟨_, rfl, ?_⟩
        | (refine jl_call (f := 13) rfl rfl rfl rfl rfl (hC _ (by omega) (by omega)) (by simp [BelL, Bel]) ?_; rintro r rfl; simp (maxSteps := 1000000) [k0])
        | (refine jq_call (f := 13) rfl rfl rfl rfl (hC _ (by omega) (by omega)) (by simp [BelL, Bel]) rfl ?_; simp (maxSteps := 1000000) [k0])
        | (refine jl_call (f := 13) rfl rfl rfl rfl rfl (hD 13 (by omega) (by omega)) (by simp [BelL, Bel]) ?_; rintro r rfl; simp (maxSteps := 1000000) [k0])
        | (refine jq_call (f := 13) rfl rfl rfl rfl (hD 13 (by omega) (by omega)) (by simp [BelL, Bel]) rfl ?_; simp (maxSteps := 1000000) [k0])
        | (refine jl_call (f := 13) rfl rfl rfl rfl rfl (hD 14 (by omega) (by omega)) (by simp [BelL, Bel]) ?_; rintro r rfl; simp (maxSteps := 1000000) [k0])
        | (refine jq_call (f := 13) rfl rfl rfl rfl (hD 14 (by omega) (by omega)) (by simp [BelL, Bel]) rfl ?_; simp (maxSteps := 1000000) [k0])
        | (refine jl_call (f := 13) rfl rfl rfl rfl rfl (hD 15 (by omega) (by omega)) (by simp [BelL, Bel]) ?_; rintro r rfl; simp (maxSteps := 1000000) [k0])
        | (refine jq_call (f := 13) rfl rfl rfl rfl (hD 15 (by omega) (by omega)) (by simp [BelL, Bel]) rfl ?_; simp (maxSteps := 1000000) [k0])
        | (refine jl_call (f := 13) rfl rfl rfl rfl rfl (hD 16 (by omega) (by omega)) (by simp [BelL, Bel]) ?_; rintro r rfl; simp (maxSteps := 1000000) [k0])
        | (refine jq_call (f := 13) rfl rfl rfl rfl (hD 16 (by omega) (by omega)) (by simp [BelL, Bel]) rfl ?_; simp (maxSteps := 1000000) [k0])
        | (refine jl_call (f := 13) rfl rfl rfl rfl rfl (hD 17 (by omega) (by omega)) (by simp [BelL, Bel]) ?_; rintro r rfl; simp (maxSteps := 1000000) [k0])
        | (refine jq_call (f := 13) rfl rfl rfl rfl (hD 17 (by omega) (by omega)) (by simp [BelL, Bel]) rfl ?_; simp (maxSteps := 1000000) [k0])
        | (refine jl_call (f := 13) rfl rfl rfl rfl rfl (hD 18 (by omega) (by omega)) (by simp [BelL, Bel]) ?_; rintro r rfl; simp (maxSteps := 1000000) [k0])
        | (refine jq_call (f := 13) rfl rfl rfl rfl (hD 18 (by omega) (by omega)) (by simp [BelL, Bel]) rfl ?_; simp (maxSteps := 1000000) [k0])
        | (refine jl_call (f := 13) rfl rfl rfl rfl rfl (hS) (by simp [BelL, Bel]) ?_; rintro r rfl; simp (maxSteps := 1000000) [k0])
        | (refine jq_call (f := 13) rfl rfl rfl rfl (hS) (by simp [BelL, Bel]) rfl ?_; simp (maxSteps := 1000000) [k0])
        | (refine okC_guard (fun hc => ?_) (fun hc => ?_) <;> (first | simp (maxSteps := 1000000) [hc, of_decide_eq_true hc, k0] | simp (maxSteps := 1000000) [hc, of_decide_eq_false hc, k0] | simp (maxSteps := 1000000) [hc, k0]) <;> (try simp at hc) <;> (try (exfalso; omega)))
        | (refine okQ_guard (fun hc => ?_) (fun hc => ?_) <;> (first | simp (maxSteps := 1000000) [hc, of_decide_eq_true hc, k0] | simp (maxSteps := 1000000) [hc, of_decide_eq_false hc, k0] | simp (maxSteps := 1000000) [hc, k0]) <;> (try simp at hc) <;> (try (exfalso; omega)))
        | (refine And.intro (by first | assumption | omega | (simp; omega)) ?_; try simp (maxSteps := 1000000) [k0])
        | (refine okC_or ?_; simp (maxSteps := 1000000) [k0])
    all_goals rfl
theorem compareFlip_row (a : List D) (ap : Parts RawP a) (b : List D) (bp : Parts RawP b) (c : Int) (_ : (Lit.int .i64 c).wf = true) : FV Tryd.prog utfG 5 [.agg a, .agg b, .int .i64 c] (fun r => r = .bool true) := by
  obtain ⟨k, i, s, h1, h2, h3, rfl⟩ := raw_of ap
  obtain ⟨k', i', s', h1', h2', h3', rfl⟩ := raw_of bp
  exact compareFlip k i k' i' c s s' h2 h2' h3 h3'
end Go.Proofs.YtkjndbfinpfjfaaDoor
