/- holds, Compare: the walk. -/
import Derived.Test.YtmgoekfgdgejiaaDoorOrder
set_option linter.unusedVariables false
set_option linter.unusedSimpArgs false
set_option maxRecDepth 20000
set_option maxHeartbeats 20000000
namespace Go.Proofs.YtmgoekfgdgejiaaDoor
open Go Go.Vm Go.Proofs

/-- Does the comparison hold of what is ahead, the same, behind? -/
def holdsD (op c : Int) : Bool := if op = 13 then c == 0 else if op = 14 then c != 0 else if op = 15 then decide (c < 0) else if op = 16 then decide (c ≤ 0) else if op = 17 then decide (c > 0) else decide (c ≥ 0)

theorem holdsF {G : Globals} (op c : Int) (h1 : 13 ≤ op) (h2 : op ≤ 18) (h3 : c = -1 ∨ c = 0 ∨ c = 1) : FV Tryd.prog G 64 [.int .i64 op, .int .i64 c] (fun r => r = .bool (holdsD op c)) := by
  have h : op = 13 ∨ op = 14 ∨ op = 15 ∨ op = 16 ∨ op = 17 ∨ op = 18 := by omega
  refine fv_enter Tryd.func64 rfl rfl fun Q hQ => ?_
  rcases h with rfl | rfl | rfl | rfl | rfl | rfl <;> rcases h3 with rfl | rfl | rfl
  all_goals
    repeat' first
      | refine jw_ret (hQ _ _ (.inr rfl) ⟨5, _, _, rfl, rfl, ?_⟩)
      | refine jw_ret (hQ _ _ (.inr rfl) ⟨_, rfl, ?_⟩)
      | refine jw_seq_k fun K hK => ?_
      | refine jw_block ?_
      | ((first | refine jw_skip ?_ | refine jw_exit ?_); try simp)
      | (refine jw_cond rfl (fun hc => ?_) (fun hc => ?_) <;> (try simp at hc) <;> (try (exfalso; first | omega | exact absurd hc (by assumption))))
      | ((first | refine jw_c ?_ | refine jw_draw_j mixed (by kernel_rfl) ?_); simp (maxSteps := 1000000) [Tryd.f64])
      | (first | (apply hK; clear hK) | (clear hK; apply hK; clear hK) | (clear hK; clear hK; apply hK; clear hK) | (clear hK; clear hK; clear hK; apply hK; clear hK))
      | exact hQ _ _ (.inl rfl) ⟨5, _, _, rfl, rfl, rfl⟩
      | refine hQ _ _ (.inl rfl) ⟨5, _, _, rfl, rfl, ?_⟩
      | refine hQ _ _ (.inl rfl) ⟨_, rfl, ?_⟩
      | ((first | refine jd_newc rfl rfl (by simp) ?_ | refine okN_or ?_); simp (maxSteps := 1000000) [thD, thL, Tryd.f64])
      | ((first | refine okC_guard (fun hc => ?_) (fun hc => ?_) | refine okJ_guard (fun hc => ?_) (fun hc => ?_)) <;> (first | have hd := of_decide_eq_true hc | have hd := of_decide_eq_false hc | have hd := hc) <;> simp (maxSteps := 1000000) [hc, hd, Tryd.f64] <;> (try simp at hc) <;> (try (exfalso; first | omega | exact absurd hc (by assumption))))
      | (refine And.intro (by first | assumption | omega | (simp [BelL, Bel]; done) | (simp; omega)) ?_; try simp (maxSteps := 1000000) [Tryd.f64])
      | (refine okC_or ?_; simp (maxSteps := 1000000) [Tryd.f64])
    rfl

/-- What Compare answers of values that may be. -/
def cmpD (op k i : Int) (L : List Nat) (k' i' : Int) (L' : List Nat) : Int × Int :=
  if k = 0 ∨ k' = 0 then (1, 0) else if k ≠ k' then (0, 12) else if holdsD op (ordV k i L k' i' L') then (2, 0) else (0, 0)
theorem compareF {G : Globals} (hV : VStr G) {op k i k' i' : Int} {L L' : List Nat} (h1 : 13 ≤ op) (h2 : op ≤ 18) (h : OkV k i L) (h' : OkV k' i' L') :
    FV Tryd.prog G 49 [.int .i64 op, vaD k i L, vaD k' i' L'] (fun r => r = .tup [.int .i64 (cmpD op k i L k' i' L').1, .int .i64 (cmpD op k i L k' i' L').2]) := by
  have hr : ordV k i L k' i' L' = -1 ∨ ordV k i L k' i' L' = 0 ∨ ordV k i L k' i' L' = 1 := ord_range _ _ _ _ _ _
  refine fv_enter Tryd.func49 rfl rfl fun Q hQ => ?_
  repeat' first
    | refine jw_ret (hQ _ _ (.inr rfl) ⟨5, _, _, rfl, rfl, ?_⟩)
    | refine jw_ret (hQ _ _ (.inr rfl) ⟨_, rfl, ?_⟩)
    | refine jw_seq_k fun K hK => ?_
    | refine jw_block ?_
    | ((first | refine jw_skip ?_ | refine jw_exit ?_); try simp)
    | (refine jw_cond rfl (fun hc => ?_) (fun hc => ?_) <;> (try simp at hc) <;> (try (exfalso; first | omega | exact absurd hc (by assumption))))
    | ((first | refine jw_c ?_ | refine jw_draw_j mixed (by kernel_rfl) ?_ | (refine jl_call (f := 63) rfl rfl rfl rfl rfl (bothF hV h h') (by simp [BelL, Bel]) ?_; rintro r rfl) | refine jd_call (f := 63) rfl rfl rfl rfl rfl (bothF hV h h') (by simp [BelL, Bel]) ?_ | (refine jl_call (f := 65) rfl rfl rfl rfl rfl (ordF k i k' i' L L') (by simp [BelL, Bel]) ?_; rintro r rfl) | refine jd_call (f := 65) rfl rfl rfl rfl rfl (ordF k i k' i' L L') (by simp [BelL, Bel]) ?_ | (refine jl_call (f := 64) rfl rfl rfl rfl rfl (holdsF op _ h1 h2 hr) (by simp [BelL, Bel]) ?_; rintro r rfl) | refine jd_call (f := 64) rfl rfl rfl rfl rfl (holdsF op _ h1 h2 hr) (by simp [BelL, Bel]) ?_); simp (maxSteps := 1000000) [Tryd.f49, vaD])
    | (first | (apply hK; clear hK) | (clear hK; apply hK; clear hK) | (clear hK; clear hK; apply hK; clear hK) | (clear hK; clear hK; clear hK; apply hK; clear hK))
    | exact hQ _ _ (.inl rfl) ⟨5, _, _, rfl, rfl, rfl⟩
    | refine hQ _ _ (.inl rfl) ⟨5, _, _, rfl, rfl, ?_⟩
    | refine hQ _ _ (.inl rfl) ⟨_, rfl, ?_⟩
    | ((first | refine jd_newc rfl rfl (by simp) ?_ | refine okN_or ?_); simp (maxSteps := 1000000) [thD, thL, Tryd.f49, vaD])
    | ((first | refine okC_guard (fun hc => ?_) (fun hc => ?_) | refine okJ_guard (fun hc => ?_) (fun hc => ?_)) <;> (first | have hd := of_decide_eq_true hc | have hd := of_decide_eq_false hc | have hd := hc) <;> simp (maxSteps := 1000000) [hc, hd, Tryd.f49, vaD] <;> (try simp at hc) <;> (try (exfalso; first | omega | exact absurd hc (by assumption))))
    | (refine And.intro (by first | assumption | omega | (simp [BelL, Bel]; done) | (simp; omega)) ?_; try simp (maxSteps := 1000000) [Tryd.f49, vaD])
    | (refine okC_or ?_; simp (maxSteps := 1000000) [Tryd.f49, vaD])
  all_goals (first | clear hQ hK | clear hQ)
  all_goals simp_all [cmpD]
end Go.Proofs.YtmgoekfgdgejiaaDoor
