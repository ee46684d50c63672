/- May an intent be: the walk. -/
import Derived.Test.YthaidogcgjnhcaaIntentOf
set_option linter.unusedVariables false
set_option linter.unusedSimpArgs false
set_option maxRecDepth 20000
set_option maxHeartbeats 20000000
namespace Go.Proofs.Ythaidogcgjnhcaa
open Go Go.Vm Go.Proofs

/-- How two texts of bytes stand. -/
def cmpL (a b : List Int) : Int := Lib.compareBytes (Lib.bytesOf a) (Lib.bytesOf b)
theorem cmpBF {G : Globals} (a b : List Int) : FV Try.prog G 16 [bytesD a, bytesD b] (fun r => r = .int .i64 (cmpL a b)) := by
  refine fv_enter_v Try.func16 rfl rfl fun Q hQ => ?_
  repeat' first
    | refine jw_ret (hQ _ _ (.inr rfl) ⟨5, _, _, rfl, rfl, ?_⟩)
    | refine jw_ret (hQ _ _ (.inr rfl) ⟨_, rfl, ?_⟩)
    | refine jw_seq_k fun K hK => ?_
    | refine jw_block ?_
    | (refine jw_skip ?_; try simp)
    | (refine jw_exit ?_; try simp)
    | (refine jw_cond rfl (fun hc => ?_) (fun hc => ?_) <;> (try simp at hc) <;> (try (exfalso; first | omega | exact absurd hc (by assumption))))
    | (refine jw_c ?_; simp (maxSteps := 1000000) [Try.f16])
    | (refine jw_draw_j mixed (by kernel_rfl) ?_; simp (maxSteps := 1000000) [Try.f16])
    | (first | (apply hK; clear hK) | (clear hK; apply hK; clear hK) | (clear hK; clear hK; apply hK; clear hK) | (clear hK; clear hK; clear hK; apply hK; clear hK))
    | exact hQ _ _ (.inl rfl) ⟨5, _, _, rfl, rfl, rfl⟩
    | refine hQ _ _ (.inl rfl) ⟨5, _, _, rfl, rfl, ?_⟩
    | refine hQ _ _ (.inl rfl) ⟨_, rfl, ?_⟩
    | (refine jd_newc rfl rfl (by simp) ?_; simp (maxSteps := 1000000) [thD, thL, Try.f16])
    | (refine okN_or ?_; simp (maxSteps := 1000000) [thD, thL, Try.f16])
    | (refine okC_guard (fun hc => ?_) (fun hc => ?_) <;> (first | simp (maxSteps := 1000000) [hc, of_decide_eq_true hc, Try.f16] | simp (maxSteps := 1000000) [hc, of_decide_eq_false hc, Try.f16] | simp (maxSteps := 1000000) [hc, Try.f16]) <;> (try simp at hc) <;> (try (exfalso; first | omega | exact absurd hc (by assumption))))
    | (refine okJ_guard (fun hc => ?_) (fun hc => ?_) <;> (first | simp (maxSteps := 1000000) [hc, of_decide_eq_true hc, Try.f16] | simp (maxSteps := 1000000) [hc, of_decide_eq_false hc, Try.f16] | simp (maxSteps := 1000000) [hc, Try.f16]) <;> (try simp at hc) <;> (try (exfalso; first | omega | exact absurd hc (by assumption))))
    | (refine And.intro (by first | assumption | omega | (simp [BelL, Bel]; done) | (simp; omega)) ?_; try simp (maxSteps := 1000000) [Try.f16])
    | (refine okC_or ?_; simp (maxSteps := 1000000) [Try.f16])
  refine jl_cmpB (f := 28) (fn := Try.f28) a b rfl rfl rfl rfl rfl Try.func28 (by kernel_rfl) rfl (by kernel_rfl) (by kernel_rfl) ?_
  simp
  repeat' first
    | refine jw_seq_k fun K hK => ?_
    | refine jw_block ?_
    | (refine jw_skip ?_; try simp)
    | (refine jw_exit ?_; try simp)
    | (refine jw_cond rfl (fun hc => ?_) (fun hc => ?_) <;> (try simp at hc) <;> (try (exfalso; first | omega | exact absurd hc (by assumption))))
    | (refine jw_c ?_; simp (maxSteps := 1000000))
    | (refine jw_draw_j mixed (by kernel_rfl) ?_; simp (maxSteps := 1000000))
    | (first | (apply hK; clear hK) | (clear hK; apply hK; clear hK) | (clear hK; clear hK; apply hK; clear hK) | (clear hK; clear hK; clear hK; apply hK; clear hK))
    | (refine jw_ret (hQ _ _ (.inr rfl) (ret_ok 0 ?_ (by first | omega | simp))); simp (maxSteps := 1000000) [okRet, BelL, Bel, BelS, BelOb])
    | (refine hQ _ _ (.inl rfl) (ret_ok 0 ?_ (by first | omega | simp)); simp (maxSteps := 1000000) [okRet, BelL, Bel, BelS, BelOb])
    | (refine jd_newc rfl rfl (by simp) ?_; simp (maxSteps := 1000000) [thD, thL])
    | (refine okN_or ?_; simp (maxSteps := 1000000) [thD, thL])
    | (refine okC_guard (fun hc => ?_) (fun hc => ?_) <;> (first | simp (maxSteps := 1000000) [hc, of_decide_eq_true hc] | simp (maxSteps := 1000000) [hc, of_decide_eq_false hc] | simp (maxSteps := 1000000) [hc]) <;> (try simp at hc) <;> (try (exfalso; first | omega | exact absurd hc (by assumption))))
    | (refine okJ_guard (fun hc => ?_) (fun hc => ?_) <;> (first | simp (maxSteps := 1000000) [hc, of_decide_eq_true hc] | simp (maxSteps := 1000000) [hc, of_decide_eq_false hc] | simp (maxSteps := 1000000) [hc]) <;> (try simp at hc) <;> (try (exfalso; first | omega | exact absurd hc (by assumption))))
    | (refine And.intro (by first | assumption | omega | (simp [BelL, Bel]; done) | (simp; omega)) ?_; try simp (maxSteps := 1000000))
    | (refine okC_or ?_; simp (maxSteps := 1000000))
  rfl
theorem countF {G : Globals} (n low : Int) : FV Try.prog G 15 [.int .i64 n, .int .i64 low] (fun r => r = .bool (decide (low ≤ n) && decide (n ≤ 1048576))) := by
  refine fv_enter_v Try.func15 rfl rfl fun Q hQ => ?_
  by_cases h1 : low ≤ n
  · by_cases h2 : n ≤ 1048576
    · repeat' first
        | refine jw_seq_k fun K hK => ?_
        | refine jw_block ?_
        | (refine jw_skip ?_; try simp)
        | (refine jw_exit ?_; try simp)
        | (refine jw_cond rfl (fun hc => ?_) (fun hc => ?_) <;> (try simp at hc) <;> (try (exfalso; first | omega | exact absurd hc (by assumption))))
        | (refine jw_c ?_; simp (maxSteps := 1000000) [Try.f15, h1, h2])
        | (refine jw_draw_j mixed (by kernel_rfl) ?_; simp (maxSteps := 1000000) [Try.f15, h1, h2])
        | (first | (apply hK; clear hK) | (clear hK; apply hK; clear hK) | (clear hK; clear hK; apply hK; clear hK) | (clear hK; clear hK; clear hK; apply hK; clear hK))
        | (refine jw_ret (hQ _ _ (.inr rfl) (ret_ok 0 ?_ (by first | omega | simp))); simp (maxSteps := 1000000) [okRet, BelL, Bel, BelS, BelOb, Try.f15, h1, h2])
        | (refine hQ _ _ (.inl rfl) (ret_ok 0 ?_ (by first | omega | simp)); simp (maxSteps := 1000000) [okRet, BelL, Bel, BelS, BelOb, Try.f15, h1, h2])
        | (refine jd_newc rfl rfl (by simp) ?_; simp (maxSteps := 1000000) [thD, thL, Try.f15, h1, h2])
        | (refine okN_or ?_; simp (maxSteps := 1000000) [thD, thL, Try.f15, h1, h2])
        | (refine okC_guard (fun hc => ?_) (fun hc => ?_) <;> (first | simp (maxSteps := 1000000) [hc, of_decide_eq_true hc, Try.f15, h1, h2] | simp (maxSteps := 1000000) [hc, of_decide_eq_false hc, Try.f15, h1, h2] | simp (maxSteps := 1000000) [hc, Try.f15, h1, h2]) <;> (try simp at hc) <;> (try (exfalso; first | omega | exact absurd hc (by assumption))))
        | (refine okJ_guard (fun hc => ?_) (fun hc => ?_) <;> (first | simp (maxSteps := 1000000) [hc, of_decide_eq_true hc, Try.f15, h1, h2] | simp (maxSteps := 1000000) [hc, of_decide_eq_false hc, Try.f15, h1, h2] | simp (maxSteps := 1000000) [hc, Try.f15, h1, h2]) <;> (try simp at hc) <;> (try (exfalso; first | omega | exact absurd hc (by assumption))))
        | (refine And.intro (by first | assumption | omega | (simp [BelL, Bel]; done) | (simp; omega)) ?_; try simp (maxSteps := 1000000) [Try.f15, h1, h2])
        | (refine okC_or ?_; simp (maxSteps := 1000000) [Try.f15, h1, h2])
    · repeat' first
        | refine jw_seq_k fun K hK => ?_
        | refine jw_block ?_
        | (refine jw_skip ?_; try simp)
        | (refine jw_exit ?_; try simp)
        | (refine jw_cond rfl (fun hc => ?_) (fun hc => ?_) <;> (try simp at hc) <;> (try (exfalso; first | omega | exact absurd hc (by assumption))))
        | (refine jw_c ?_; simp (maxSteps := 1000000) [Try.f15, h1, h2])
        | (refine jw_draw_j mixed (by kernel_rfl) ?_; simp (maxSteps := 1000000) [Try.f15, h1, h2])
        | (first | (apply hK; clear hK) | (clear hK; apply hK; clear hK) | (clear hK; clear hK; apply hK; clear hK) | (clear hK; clear hK; clear hK; apply hK; clear hK))
        | (refine jw_ret (hQ _ _ (.inr rfl) (ret_ok 0 ?_ (by first | omega | simp))); simp (maxSteps := 1000000) [okRet, BelL, Bel, BelS, BelOb, Try.f15, h1, h2])
        | (refine hQ _ _ (.inl rfl) (ret_ok 0 ?_ (by first | omega | simp)); simp (maxSteps := 1000000) [okRet, BelL, Bel, BelS, BelOb, Try.f15, h1, h2])
        | (refine jd_newc rfl rfl (by simp) ?_; simp (maxSteps := 1000000) [thD, thL, Try.f15, h1, h2])
        | (refine okN_or ?_; simp (maxSteps := 1000000) [thD, thL, Try.f15, h1, h2])
        | (refine okC_guard (fun hc => ?_) (fun hc => ?_) <;> (first | simp (maxSteps := 1000000) [hc, of_decide_eq_true hc, Try.f15, h1, h2] | simp (maxSteps := 1000000) [hc, of_decide_eq_false hc, Try.f15, h1, h2] | simp (maxSteps := 1000000) [hc, Try.f15, h1, h2]) <;> (try simp at hc) <;> (try (exfalso; first | omega | exact absurd hc (by assumption))))
        | (refine okJ_guard (fun hc => ?_) (fun hc => ?_) <;> (first | simp (maxSteps := 1000000) [hc, of_decide_eq_true hc, Try.f15, h1, h2] | simp (maxSteps := 1000000) [hc, of_decide_eq_false hc, Try.f15, h1, h2] | simp (maxSteps := 1000000) [hc, Try.f15, h1, h2]) <;> (try simp at hc) <;> (try (exfalso; first | omega | exact absurd hc (by assumption))))
        | (refine And.intro (by first | assumption | omega | (simp [BelL, Bel]; done) | (simp; omega)) ?_; try simp (maxSteps := 1000000) [Try.f15, h1, h2])
        | (refine okC_or ?_; simp (maxSteps := 1000000) [Try.f15, h1, h2])
  · repeat' first
      | refine jw_seq_k fun K hK => ?_
      | refine jw_block ?_
      | (refine jw_skip ?_; try simp)
      | (refine jw_exit ?_; try simp)
      | (refine jw_cond rfl (fun hc => ?_) (fun hc => ?_) <;> (try simp at hc) <;> (try (exfalso; first | omega | exact absurd hc (by assumption))))
      | (refine jw_c ?_; simp (maxSteps := 1000000) [Try.f15, h1])
      | (refine jw_draw_j mixed (by kernel_rfl) ?_; simp (maxSteps := 1000000) [Try.f15, h1])
      | (first | (apply hK; clear hK) | (clear hK; apply hK; clear hK) | (clear hK; clear hK; apply hK; clear hK) | (clear hK; clear hK; clear hK; apply hK; clear hK))
      | (refine jw_ret (hQ _ _ (.inr rfl) (ret_ok 0 ?_ (by first | omega | simp))); simp (maxSteps := 1000000) [okRet, BelL, Bel, BelS, BelOb, Try.f15, h1])
      | (refine hQ _ _ (.inl rfl) (ret_ok 0 ?_ (by first | omega | simp)); simp (maxSteps := 1000000) [okRet, BelL, Bel, BelS, BelOb, Try.f15, h1])
      | (refine jd_newc rfl rfl (by simp) ?_; simp (maxSteps := 1000000) [thD, thL, Try.f15, h1])
      | (refine okN_or ?_; simp (maxSteps := 1000000) [thD, thL, Try.f15, h1])
      | (refine okC_guard (fun hc => ?_) (fun hc => ?_) <;> (first | simp (maxSteps := 1000000) [hc, of_decide_eq_true hc, Try.f15, h1] | simp (maxSteps := 1000000) [hc, of_decide_eq_false hc, Try.f15, h1] | simp (maxSteps := 1000000) [hc, Try.f15, h1]) <;> (try simp at hc) <;> (try (exfalso; first | omega | exact absurd hc (by assumption))))
      | (refine okJ_guard (fun hc => ?_) (fun hc => ?_) <;> (first | simp (maxSteps := 1000000) [hc, of_decide_eq_true hc, Try.f15, h1] | simp (maxSteps := 1000000) [hc, of_decide_eq_false hc, Try.f15, h1] | simp (maxSteps := 1000000) [hc, Try.f15, h1]) <;> (try simp at hc) <;> (try (exfalso; first | omega | exact absurd hc (by assumption))))
      | (refine And.intro (by first | assumption | omega | (simp [BelL, Bel]; done) | (simp; omega)) ?_; try simp (maxSteps := 1000000) [Try.f15, h1])
      | (refine okC_or ?_; simp (maxSteps := 1000000) [Try.f15, h1])

def rgOkB (r : Rg) : Bool := decide (r.low.length ≤ 1201) && decide (r.high.length ≤ 1201)
def wrOkB (ws : List Wr) (i : Nat) : Bool := match ws[i]? with
  | some w => decide (1 ≤ w.key.length) && decide (w.key.length ≤ 1200) && decide (w.val.length ≤ 4000) && !(w.gone && decide (0 < w.val.length)) && (i == 0 || match ws[i - 1]? with
    | some v => decide (cmpL v.key w.key < 0)
    | none => true)
  | none => true
def numsOkB (x : It) : Bool := decide (1 ≤ x.client) && decide (x.client ≤ 1048576) && decide (1 ≤ x.number) && decide (x.number ≤ 1048576) && decide (0 ≤ x.base) && decide (x.base ≤ 1048576) && decide (x.reads.length ≤ 400) && decide (x.writes.length ≤ 400)
def mayB (x : It) : Bool := numsOkB x && x.reads.all rgOkB && (List.range x.writes.length).all (wrOkB x.writes)

theorem wrOk_at (ws : List Wr) (k : Nat) (key val : List Int) (g : Bool) (h : ws[k]? = some ⟨key, val, g⟩) (P : List Int) (hp : 0 < k → ∃ v g, ws[k - 1]? = some ⟨P, v, g⟩) :
    wrOkB ws k = true ↔ (1 ≤ key.length ∧ key.length ≤ 1200 ∧ val.length ≤ 4000 ∧ g.toNat * val.length = 0 ∧ (k = 0 ∨ cmpL P key < 0)) := by
  unfold wrOkB
  rw [h]
  by_cases h0 : k = 0
  · subst h0
    cases g <;> simp [and_assoc]
  · obtain ⟨v, g', hv⟩ := hp (by omega)
    rw [hv]
    cases g <;> simp [h0, and_assoc]
theorem all_take_succ {α : Type} (p : α → Bool) (l : List α) {i : Nat} (h : i < l.length) (h0 : (l.take i).all p = true) (h1 : p l[i] = true) : (l.take (i + 1)).all p = true := by
  rw [List.take_succ_eq_append_getElem h, List.all_append, h0]; simp [h1]
theorem all_false {α : Type} (p : α → Bool) (l : List α) {i : Nat} (h : i < l.length) (h1 : p l[i] = false) : l.all p = false := by
  rw [List.all_eq_false]; exact ⟨l[i], List.getElem_mem h, by simp [h1]⟩
theorem range_false (p : Nat → Bool) {n i : Nat} (h : i < n) (h1 : p i = false) : (List.range n).all p = false := by
  rw [List.all_eq_false]; exact ⟨i, List.mem_range.2 h, by simp [h1]⟩

theorem mayF {G : Globals} (x : It) (hr : x.reads.length ≤ 140737488351232) (hw : x.writes.length ≤ 140737488351232) : FV Try.prog G 7 [itD x] (fun r => r = .bool (mayB x)) := by
  obtain ⟨c, n, b, rs, ws⟩ := x
  dsimp only at hr hw
  have hN : mayB ⟨c, n, b, rs, ws⟩ = (numsOkB ⟨c, n, b, rs, ws⟩ && rs.all rgOkB && (List.range ws.length).all (wrOkB ws)) := rfl
  refine fv_enter_v Try.func7 rfl rfl fun Q hQ => ?_
  rw [hN] at hQ
  repeat' first
    | refine jw_ret (hQ _ _ (.inr rfl) ⟨5, _, _, rfl, rfl, ?_⟩)
    | refine jw_ret (hQ _ _ (.inr rfl) ⟨_, rfl, ?_⟩)
    | refine jw_seq_k fun K hK => ?_
    | refine jw_block ?_
    | (refine jw_skip ?_; try simp)
    | (refine jw_exit ?_; try simp)
    | (refine jw_cond rfl (fun hc => ?_) (fun hc => ?_) <;> (try simp at hc) <;> (try (exfalso; first | omega | exact absurd hc (by assumption))))
    | ((fail_if_success (refine jw_c (id := 1) ?_)); (refine jw_c ?_; simp (maxSteps := 1000000) [Try.f7, itD, itC]))
    | ((fail_if_success (refine jw_draw_j (id := 1) mixed (by kernel_rfl) ?_)); (refine jw_draw_j mixed (by kernel_rfl) ?_; simp (maxSteps := 1000000) [Try.f7, itD, itC]))
    | (first | (apply hK; clear hK) | (clear hK; apply hK; clear hK) | (clear hK; clear hK; apply hK; clear hK) | (clear hK; clear hK; clear hK; apply hK; clear hK))
    | exact hQ _ _ (.inl rfl) ⟨5, _, _, rfl, rfl, rfl⟩
    | refine hQ _ _ (.inl rfl) ⟨5, _, _, rfl, rfl, ?_⟩
    | refine hQ _ _ (.inl rfl) ⟨_, rfl, ?_⟩
    | (refine jd_newc rfl rfl (by simp) ?_; simp (maxSteps := 1000000) [thD, thL, Try.f7, itD, itC])
    | (refine okN_or ?_; simp (maxSteps := 1000000) [thD, thL, Try.f7, itD, itC])
    | (refine okC_guard (fun hc => ?_) (fun hc => ?_) <;> (first | simp (maxSteps := 1000000) [hc, of_decide_eq_true hc, Try.f7, itD, itC] | simp (maxSteps := 1000000) [hc, of_decide_eq_false hc, Try.f7, itD, itC] | simp (maxSteps := 1000000) [hc, Try.f7, itD, itC]) <;> (try simp at hc) <;> (try (exfalso; first | omega | exact absurd hc (by assumption))))
    | (refine okJ_guard (fun hc => ?_) (fun hc => ?_) <;> (first | simp (maxSteps := 1000000) [hc, of_decide_eq_true hc, Try.f7, itD, itC] | simp (maxSteps := 1000000) [hc, of_decide_eq_false hc, Try.f7, itD, itC] | simp (maxSteps := 1000000) [hc, Try.f7, itD, itC]) <;> (try simp at hc) <;> (try (exfalso; first | omega | exact absurd hc (by assumption))))
    | (refine And.intro (by first | assumption | omega | (simp [BelL, Bel]; done) | (simp; omega)) ?_; try simp (maxSteps := 1000000) [Try.f7, itD, itC])
    | (refine okC_or ?_; simp (maxSteps := 1000000) [Try.f7, itD, itC])
  (refine jw_view (view_frz 0 _ rfl (by simp [BelL, Bel])) ?_; simp (maxSteps := 1000000) [thL, thD, thS, thOb])
  by_cases hn : numsOkB ⟨c, n, b, rs, ws⟩ = true
  · rw [hn] at hQ
    simp only [numsOkB, Bool.and_eq_true, decide_eq_true_eq] at hn
    obtain ⟨⟨⟨⟨⟨⟨⟨n1, n2⟩, n3⟩, n4⟩, n5⟩, n6⟩, n7⟩, n8⟩ := hn
    have hr400 : ¬ (400 : Int) < rs.length := by omega
    have hw400 : ¬ (400 : Int) < ws.length := by omega
    repeat' first
      | refine jw_ret (hQ _ _ (.inr rfl) ⟨5, _, _, rfl, rfl, ?_⟩)
      | refine jw_ret (hQ _ _ (.inr rfl) ⟨_, rfl, ?_⟩)
      | refine jw_seq_k fun K hK => ?_
      | refine jw_block ?_
      | (refine jw_skip ?_; try simp)
      | (refine jw_exit ?_; try simp)
      | (refine jw_cond rfl (fun hc => ?_) (fun hc => ?_) <;> (try simp at hc) <;> (try (exfalso; first | omega | exact absurd hc (by assumption))))
      | (refine jw_c ?_; simp (maxSteps := 1000000) [n1, n2, n3, n4, n5, n6, hr400, hw400, rgsD, wrsD])
      | (refine jw_draw_j mixed (by kernel_rfl) ?_; simp (maxSteps := 1000000) [n1, n2, n3, n4, n5, n6, hr400, hw400, rgsD, wrsD])
      | (first | (apply hK; clear hK) | (clear hK; apply hK; clear hK) | (clear hK; clear hK; apply hK; clear hK) | (clear hK; clear hK; clear hK; apply hK; clear hK))
      | exact hQ _ _ (.inl rfl) ⟨5, _, _, rfl, rfl, rfl⟩
      | refine hQ _ _ (.inl rfl) ⟨5, _, _, rfl, rfl, ?_⟩
      | refine hQ _ _ (.inl rfl) ⟨_, rfl, ?_⟩
      | (refine jl_call (f := 15) rfl rfl rfl rfl rfl (countF _ _) (by simp [BelL, Bel]) ?_; rintro r rfl; simp (maxSteps := 1000000) [n1, n2, n3, n4, n5, n6, hr400, hw400, rgsD, wrsD])
      | (refine jd_call (f := 15) rfl rfl rfl rfl rfl (countF _ _) (by simp [BelL, Bel]) ?_; simp (maxSteps := 1000000) [n1, n2, n3, n4, n5, n6, hr400, hw400, rgsD, wrsD])
      | (refine jd_newc rfl rfl (by simp) ?_; simp (maxSteps := 1000000) [thD, thL, n1, n2, n3, n4, n5, n6, hr400, hw400, rgsD, wrsD])
      | (refine okN_or ?_; simp (maxSteps := 1000000) [thD, thL, n1, n2, n3, n4, n5, n6, hr400, hw400, rgsD, wrsD])
      | (refine okC_guard (fun hc => ?_) (fun hc => ?_) <;> (first | simp (maxSteps := 1000000) [hc, of_decide_eq_true hc, n1, n2, n3, n4, n5, n6, hr400, hw400, rgsD, wrsD] | simp (maxSteps := 1000000) [hc, of_decide_eq_false hc, n1, n2, n3, n4, n5, n6, hr400, hw400, rgsD, wrsD] | simp (maxSteps := 1000000) [hc, n1, n2, n3, n4, n5, n6, hr400, hw400, rgsD, wrsD]) <;> (try simp at hc) <;> (try (exfalso; first | omega | exact absurd hc (by assumption))))
      | (refine okJ_guard (fun hc => ?_) (fun hc => ?_) <;> (first | simp (maxSteps := 1000000) [hc, of_decide_eq_true hc, n1, n2, n3, n4, n5, n6, hr400, hw400, rgsD, wrsD] | simp (maxSteps := 1000000) [hc, of_decide_eq_false hc, n1, n2, n3, n4, n5, n6, hr400, hw400, rgsD, wrsD] | simp (maxSteps := 1000000) [hc, n1, n2, n3, n4, n5, n6, hr400, hw400, rgsD, wrsD]) <;> (try simp at hc) <;> (try (exfalso; first | omega | exact absurd hc (by assumption))))
      | (refine And.intro (by first | assumption | omega | (simp [BelL, Bel]; done) | (simp; omega)) ?_; try simp (maxSteps := 1000000) [n1, n2, n3, n4, n5, n6, hr400, hw400, rgsD, wrsD])
      | (refine okC_or ?_; simp (maxSteps := 1000000) [n1, n2, n3, n4, n5, n6, hr400, hw400, rgsD, wrsD])
    refine jw_loop_v (fun m z => ∃ (i : Nat), (i ≤ rs.length ∧ (rs.take i).all rgOkB = true) ∧ rs.length - i = m ∧ z = ⟨[.any, .ref [.int .i64 c, .int .i64 n, .int .i64 b, rgsD rs, wrsD ws]] ++ List.replicate 34 .any ++ [rgsD rs, .int .i64 rs.length, .int .i64 i] ++ List.replicate 62 .any, []⟩) ⟨[.any, .ref [.int .i64 c, .int .i64 n, .int .i64 b, rgsD rs, wrsD ws]] ++ List.replicate 34 .any ++ [rgsD rs, .int .i64 rs.length, .int .i64 (0)] ++ List.replicate 62 .any, []⟩ (view_takeE (sl := [.any, .ref [.int .i64 c, .int .i64 n, .int .i64 b, rgsD rs, wrsD ws]] ++ List.replicate 34 .any ++ [rgsD rs, .int .i64 rs.length, .int .i64 (0)] ++ List.replicate 62 .any) (σ0 := []) 0 (by simp [rgsD, wrsD]) (by first | omega | simp) (by first | omega | (simp [rgsD, wrsD]; done) | (simp [rgsD, wrsD]; omega)) (by first | exact LewS.refl _ | simp [rgsD, wrsD]) (by simp [BelL, Bel, rgsD, wrsD]) (by simp [BelS, BelOb, BelL, Bel, rgsD, wrsD])) ⟨(0), ?_, rfl, rfl⟩ ?_
    rotate_left
    rintro m z ⟨i, hA, rfl, rfl⟩ KA hKA
    · obtain ⟨hil, hall⟩ := hA
      have hwi := wrap_i64 (n := (i : Int) + 1) (by omega) (by omega)
      by_cases hlt : i < rs.length
      · have hdr := flat_drop rgC_len rs i hlt
        have hlen := rgs_len rs
        obtain ⟨r, hx⟩ : ∃ r, rs[i] = r := ⟨_, rfl⟩
        by_cases hok : rgOkB r = true
        · have hnx := all_take_succ rgOkB rs hlt hall (by rw [hx]; exact hok)
          simp only [rgOkB, Bool.and_eq_true, decide_eq_true_eq] at hok
          obtain ⟨lo, hi⟩ := r
          dsimp only at hok
          have hm : ¬ (1201 : Int) < (if (lo.length : Int) < hi.length then (hi.length : Int) else lo.length) := by split <;> omega
          repeat' first
            | refine jw_ret (hQ _ _ (.inr rfl) ⟨5, _, _, rfl, rfl, ?_⟩)
            | refine jw_ret (hQ _ _ (.inr rfl) ⟨_, rfl, ?_⟩)
            | refine jw_seq_k fun K hK => ?_
            | refine jw_block ?_
            | (refine jw_skip ?_; try simp)
            | (refine jw_exit ?_; try simp)
            | (refine jw_cond rfl (fun hc => ?_) (fun hc => ?_) <;> (try simp at hc) <;> (try (exfalso; first | omega | exact absurd hc (by assumption))))
            | (refine jw_c ?_; simp (maxSteps := 1000000) [hlt, rgsD, hdr, hx, hlen, rgC, numsD, hwi, hm, show (i : Int) < rs.length by omega, show i * 2 < rs.length * 2 by omega])
            | (refine jw_draw_j mixed (by kernel_rfl) ?_; simp (maxSteps := 1000000) [hlt, rgsD, hdr, hx, hlen, rgC, numsD, hwi, hm, show (i : Int) < rs.length by omega, show i * 2 < rs.length * 2 by omega])
            | (first | (apply hK; clear hK) | (clear hK; apply hK; clear hK) | (clear hK; clear hK; apply hK; clear hK) | (clear hK; clear hK; clear hK; apply hK; clear hK))
            | exact hQ _ _ (.inl rfl) ⟨5, _, _, rfl, rfl, rfl⟩
            | refine hQ _ _ (.inl rfl) ⟨5, _, _, rfl, rfl, ?_⟩
            | refine hQ _ _ (.inl rfl) ⟨_, rfl, ?_⟩
            | (refine jd_newc rfl rfl (by simp) ?_; simp (maxSteps := 1000000) [thD, thL, hlt, rgsD, hdr, hx, hlen, rgC, numsD, hwi, hm, show (i : Int) < rs.length by omega, show i * 2 < rs.length * 2 by omega])
            | (refine okN_or ?_; simp (maxSteps := 1000000) [thD, thL, hlt, rgsD, hdr, hx, hlen, rgC, numsD, hwi, hm, show (i : Int) < rs.length by omega, show i * 2 < rs.length * 2 by omega])
            | (refine okC_guard (fun hc => ?_) (fun hc => ?_) <;> (first | simp (maxSteps := 1000000) [hc, of_decide_eq_true hc, hlt, rgsD, hdr, hx, hlen, rgC, numsD, hwi, hm, show (i : Int) < rs.length by omega, show i * 2 < rs.length * 2 by omega] | simp (maxSteps := 1000000) [hc, of_decide_eq_false hc, hlt, rgsD, hdr, hx, hlen, rgC, numsD, hwi, hm, show (i : Int) < rs.length by omega, show i * 2 < rs.length * 2 by omega] | simp (maxSteps := 1000000) [hc, hlt, rgsD, hdr, hx, hlen, rgC, numsD, hwi, hm, show (i : Int) < rs.length by omega, show i * 2 < rs.length * 2 by omega]) <;> (try simp at hc) <;> (try (exfalso; first | omega | exact absurd hc (by assumption))))
            | (refine okJ_guard (fun hc => ?_) (fun hc => ?_) <;> (first | simp (maxSteps := 1000000) [hc, of_decide_eq_true hc, hlt, rgsD, hdr, hx, hlen, rgC, numsD, hwi, hm, show (i : Int) < rs.length by omega, show i * 2 < rs.length * 2 by omega] | simp (maxSteps := 1000000) [hc, of_decide_eq_false hc, hlt, rgsD, hdr, hx, hlen, rgC, numsD, hwi, hm, show (i : Int) < rs.length by omega, show i * 2 < rs.length * 2 by omega] | simp (maxSteps := 1000000) [hc, hlt, rgsD, hdr, hx, hlen, rgC, numsD, hwi, hm, show (i : Int) < rs.length by omega, show i * 2 < rs.length * 2 by omega]) <;> (try simp at hc) <;> (try (exfalso; first | omega | exact absurd hc (by assumption))))
            | (refine And.intro (by first | assumption | omega | (simp [BelL, Bel]; done) | (simp; omega)) ?_; try simp (maxSteps := 1000000) [hlt, rgsD, hdr, hx, hlen, rgC, numsD, hwi, hm, show (i : Int) < rs.length by omega, show i * 2 < rs.length * 2 by omega])
            | (refine okC_or ?_; simp (maxSteps := 1000000) [hlt, rgsD, hdr, hx, hlen, rgC, numsD, hwi, hm, show (i : Int) < rs.length by omega, show i * 2 < rs.length * 2 by omega])
          refine hKA (rs.length - (i + 1)) _ ⟨[.any, .ref [.int .i64 c, .int .i64 n, .int .i64 b, rgsD rs, wrsD ws]] ++ List.replicate 34 .any ++ [rgsD rs, .int .i64 rs.length, .int .i64 (i + 1)] ++ List.replicate 62 .any, []⟩ (by omega) (view_takeE (sl := [.any, .ref [.int .i64 c, .int .i64 n, .int .i64 b, rgsD rs, wrsD ws]] ++ List.replicate 34 .any ++ [rgsD rs, .int .i64 rs.length, .int .i64 (i + 1)] ++ List.replicate 62 .any) (σ0 := []) 0 (by simp [rgsD, wrsD]) (by first | omega | simp) (by first | omega | (simp [rgsD, wrsD]; done) | (simp [rgsD, wrsD]; omega)) (by first | exact LewS.refl _ | simp [rgsD, wrsD]) (by simp [BelL, Bel, rgsD, wrsD]) (by simp [BelS, BelOb, BelL, Bel, rgsD, wrsD])) ⟨(i + 1), ?_, rfl, rfl⟩
          exact ⟨by omega, hnx⟩
        · have hf := all_false rgOkB rs hlt (by rw [hx]; simpa using hok)
          rw [hf] at hQ
          simp only [rgOkB, Bool.and_eq_true, decide_eq_true_eq] at hok
          obtain ⟨lo, hi⟩ := r
          dsimp only at hok
          have hm : (1201 : Int) < (if (lo.length : Int) < hi.length then (hi.length : Int) else lo.length) := by split <;> omega
          repeat' first
            | refine jw_seq_k fun K hK => ?_
            | refine jw_block ?_
            | (refine jw_skip ?_; try simp)
            | (refine jw_exit ?_; try simp)
            | (refine jw_cond rfl (fun hc => ?_) (fun hc => ?_) <;> (try simp at hc) <;> (try (exfalso; first | omega | exact absurd hc (by assumption))))
            | (refine jw_c ?_; simp (maxSteps := 1000000) [hlt, rgsD, hdr, hx, hlen, rgC, numsD, hwi, hm, show (i : Int) < rs.length by omega, show i * 2 < rs.length * 2 by omega])
            | (refine jw_draw_j mixed (by kernel_rfl) ?_; simp (maxSteps := 1000000) [hlt, rgsD, hdr, hx, hlen, rgC, numsD, hwi, hm, show (i : Int) < rs.length by omega, show i * 2 < rs.length * 2 by omega])
            | (first | (apply hK; clear hK) | (clear hK; apply hK; clear hK) | (clear hK; clear hK; apply hK; clear hK) | (clear hK; clear hK; clear hK; apply hK; clear hK))
            | (refine jw_ret (hQ _ _ (.inr rfl) (ret_ok 0 ?_ (by first | omega | simp))); simp (maxSteps := 1000000) [okRet, BelL, Bel, BelS, BelOb, hlt, rgsD, hdr, hx, hlen, rgC, numsD, hwi, hm, show (i : Int) < rs.length by omega, show i * 2 < rs.length * 2 by omega])
            | (refine hQ _ _ (.inl rfl) (ret_ok 0 ?_ (by first | omega | simp)); simp (maxSteps := 1000000) [okRet, BelL, Bel, BelS, BelOb, hlt, rgsD, hdr, hx, hlen, rgC, numsD, hwi, hm, show (i : Int) < rs.length by omega, show i * 2 < rs.length * 2 by omega])
            | (refine jd_newc rfl rfl (by simp) ?_; simp (maxSteps := 1000000) [thD, thL, hlt, rgsD, hdr, hx, hlen, rgC, numsD, hwi, hm, show (i : Int) < rs.length by omega, show i * 2 < rs.length * 2 by omega])
            | (refine okN_or ?_; simp (maxSteps := 1000000) [thD, thL, hlt, rgsD, hdr, hx, hlen, rgC, numsD, hwi, hm, show (i : Int) < rs.length by omega, show i * 2 < rs.length * 2 by omega])
            | (refine okC_guard (fun hc => ?_) (fun hc => ?_) <;> (first | simp (maxSteps := 1000000) [hc, of_decide_eq_true hc, hlt, rgsD, hdr, hx, hlen, rgC, numsD, hwi, hm, show (i : Int) < rs.length by omega, show i * 2 < rs.length * 2 by omega] | simp (maxSteps := 1000000) [hc, of_decide_eq_false hc, hlt, rgsD, hdr, hx, hlen, rgC, numsD, hwi, hm, show (i : Int) < rs.length by omega, show i * 2 < rs.length * 2 by omega] | simp (maxSteps := 1000000) [hc, hlt, rgsD, hdr, hx, hlen, rgC, numsD, hwi, hm, show (i : Int) < rs.length by omega, show i * 2 < rs.length * 2 by omega]) <;> (try simp at hc) <;> (try (exfalso; first | omega | exact absurd hc (by assumption))))
            | (refine okJ_guard (fun hc => ?_) (fun hc => ?_) <;> (first | simp (maxSteps := 1000000) [hc, of_decide_eq_true hc, hlt, rgsD, hdr, hx, hlen, rgC, numsD, hwi, hm, show (i : Int) < rs.length by omega, show i * 2 < rs.length * 2 by omega] | simp (maxSteps := 1000000) [hc, of_decide_eq_false hc, hlt, rgsD, hdr, hx, hlen, rgC, numsD, hwi, hm, show (i : Int) < rs.length by omega, show i * 2 < rs.length * 2 by omega] | simp (maxSteps := 1000000) [hc, hlt, rgsD, hdr, hx, hlen, rgC, numsD, hwi, hm, show (i : Int) < rs.length by omega, show i * 2 < rs.length * 2 by omega]) <;> (try simp at hc) <;> (try (exfalso; first | omega | exact absurd hc (by assumption))))
            | (refine And.intro (by first | assumption | omega | (simp [BelL, Bel]; done) | (simp; omega)) ?_; try simp (maxSteps := 1000000) [hlt, rgsD, hdr, hx, hlen, rgC, numsD, hwi, hm, show (i : Int) < rs.length by omega, show i * 2 < rs.length * 2 by omega])
            | (refine okC_or ?_; simp (maxSteps := 1000000) [hlt, rgsD, hdr, hx, hlen, rgC, numsD, hwi, hm, show (i : Int) < rs.length by omega, show i * 2 < rs.length * 2 by omega])
      · have hrs : rs.all rgOkB = true := by rw [show i = rs.length by omega, List.take_of_length_le (Nat.le_refl _)] at hall; exact hall
        rw [hrs] at hQ
        repeat' first
          | refine jw_ret (hQ _ _ (.inr rfl) ⟨5, _, _, rfl, rfl, ?_⟩)
          | refine jw_ret (hQ _ _ (.inr rfl) ⟨_, rfl, ?_⟩)
          | refine jw_seq_k fun K hK => ?_
          | refine jw_block ?_
          | (refine jw_skip ?_; try simp)
          | (refine jw_exit ?_; try simp)
          | (refine jw_cond rfl (fun hc => ?_) (fun hc => ?_) <;> (try simp at hc) <;> (try (exfalso; first | omega | exact absurd hc (by assumption))))
          | ((fail_if_success (refine jw_c (id := 10) ?_)); (refine jw_c ?_; simp (maxSteps := 1000000) [hlt, wrsD, show ¬ (i : Int) < rs.length by omega]))
          | ((fail_if_success (refine jw_draw_j (id := 10) mixed (by kernel_rfl) ?_)); (refine jw_draw_j mixed (by kernel_rfl) ?_; simp (maxSteps := 1000000) [hlt, wrsD, show ¬ (i : Int) < rs.length by omega]))
          | (first | (apply hK; clear hK) | (clear hK; apply hK; clear hK) | (clear hK; clear hK; apply hK; clear hK) | (clear hK; clear hK; clear hK; apply hK; clear hK))
          | exact hQ _ _ (.inl rfl) ⟨5, _, _, rfl, rfl, rfl⟩
          | refine hQ _ _ (.inl rfl) ⟨5, _, _, rfl, rfl, ?_⟩
          | refine hQ _ _ (.inl rfl) ⟨_, rfl, ?_⟩
          | (refine jd_newc rfl rfl (by simp) ?_; simp (maxSteps := 1000000) [thD, thL, hlt, wrsD, show ¬ (i : Int) < rs.length by omega])
          | (refine okN_or ?_; simp (maxSteps := 1000000) [thD, thL, hlt, wrsD, show ¬ (i : Int) < rs.length by omega])
          | (refine okC_guard (fun hc => ?_) (fun hc => ?_) <;> (first | simp (maxSteps := 1000000) [hc, of_decide_eq_true hc, hlt, wrsD, show ¬ (i : Int) < rs.length by omega] | simp (maxSteps := 1000000) [hc, of_decide_eq_false hc, hlt, wrsD, show ¬ (i : Int) < rs.length by omega] | simp (maxSteps := 1000000) [hc, hlt, wrsD, show ¬ (i : Int) < rs.length by omega]) <;> (try simp at hc) <;> (try (exfalso; first | omega | exact absurd hc (by assumption))))
          | (refine okJ_guard (fun hc => ?_) (fun hc => ?_) <;> (first | simp (maxSteps := 1000000) [hc, of_decide_eq_true hc, hlt, wrsD, show ¬ (i : Int) < rs.length by omega] | simp (maxSteps := 1000000) [hc, of_decide_eq_false hc, hlt, wrsD, show ¬ (i : Int) < rs.length by omega] | simp (maxSteps := 1000000) [hc, hlt, wrsD, show ¬ (i : Int) < rs.length by omega]) <;> (try simp at hc) <;> (try (exfalso; first | omega | exact absurd hc (by assumption))))
          | (refine And.intro (by first | assumption | omega | (simp [BelL, Bel]; done) | (simp; omega)) ?_; try simp (maxSteps := 1000000) [hlt, wrsD, show ¬ (i : Int) < rs.length by omega])
          | (refine okC_or ?_; simp (maxSteps := 1000000) [hlt, wrsD, show ¬ (i : Int) < rs.length by omega])
        refine jw_loop_v (fun m z => ∃ (k : Nat), (k ≤ ws.length ∧ (List.range k).all (wrOkB ws) = true) ∧ ws.length - k = m ∧ z = ⟨[.any, .ref [.int .i64 c, .int .i64 n, .int .i64 b, rgsD rs, wrsD ws]] ++ List.replicate 50 .any ++ [wrsD ws, .int .i64 ws.length, .int .i64 k] ++ List.replicate 46 .any, []⟩) ⟨[.any, .ref [.int .i64 c, .int .i64 n, .int .i64 b, rgsD rs, wrsD ws]] ++ List.replicate 50 .any ++ [wrsD ws, .int .i64 ws.length, .int .i64 (0)] ++ List.replicate 46 .any, []⟩ (view_takeE (sl := [.any, .ref [.int .i64 c, .int .i64 n, .int .i64 b, rgsD rs, wrsD ws]] ++ List.replicate 50 .any ++ [wrsD ws, .int .i64 ws.length, .int .i64 (0)] ++ List.replicate 46 .any) (σ0 := []) 0 (by simp [rgsD, wrsD]) (by first | omega | simp) (by first | omega | (simp [rgsD, wrsD]; done) | (simp [rgsD, wrsD]; omega)) (by first | exact LewS.refl _ | simp [rgsD, wrsD]) (by simp [BelL, Bel, rgsD, wrsD]) (by simp [BelS, BelOb, BelL, Bel, rgsD, wrsD])) ⟨(0), ?_, rfl, rfl⟩ ?_
        rotate_left
        rintro m z ⟨k, hB, rfl, rfl⟩ KB hKB
        · obtain ⟨hkl, hall2⟩ := hB
          have hwk := wrap_i64 (n := (k : Int) + 1) (by omega) (by omega)
          by_cases hlt : k < ws.length
          · have hdr := flat_drop wrC_len ws k hlt
            have hlen := wrs_len ws
            have hget : ws[k]? = some ws[k] := List.getElem?_eq_getElem hlt
            obtain ⟨w, hx⟩ : ∃ w, ws[k] = w := ⟨_, rfl⟩
            rw [hx] at hget
            have hdr' : 0 < k → List.drop ((k - 1) * 3) (ws.flatMap wrC) = wrC (ws[k - 1]'(by omega)) ++ (ws.drop (k - 1 + 1)).flatMap wrC := fun h => flat_drop wrC_len ws (k - 1) (by omega)
            obtain ⟨key, val, g⟩ := w
            by_cases k0 : k = 0
            · have hiff := wrOk_at ws k key val g hget [] (fun h => by omega)
              cases g
              all_goals
                simp only [Bool.toNat_true, Bool.toNat_false, Nat.one_mul, Nat.zero_mul, true_and] at hiff
                by_cases hok : wrOkB ws k = true
                · have hnx : (List.range (k + 1)).all (wrOkB ws) = true := by rw [List.range_succ, List.all_append, hall2]; simp [hok]
                  have hi := hiff.1 hok
                  repeat' first
                    | refine jw_ret (hQ _ _ (.inr rfl) ⟨5, _, _, rfl, rfl, ?_⟩)
                    | refine jw_ret (hQ _ _ (.inr rfl) ⟨_, rfl, ?_⟩)
                    | refine jw_seq_k fun K hK => ?_
                    | refine jw_block ?_
                    | (refine jw_skip ?_; try simp)
                    | (refine jw_exit ?_; try simp)
                    | (refine jw_cond rfl (fun hc => ?_) (fun hc => ?_) <;> (try simp at hc) <;> (try (exfalso; first | omega | exact absurd hc (by assumption))))
                    | (refine jw_c ?_; simp (maxSteps := 1000000) [hlt, wrsD, hdr, hx, hlen, wrC, numsD, hwk, show (k : Int) < ws.length by omega, show ¬ 0 < k by omega, show ¬ (0 : Int) < k by omega, show k * 3 < ws.length * 3 by omega])
                    | (refine jw_draw_j mixed (by kernel_rfl) ?_; simp (maxSteps := 1000000) [hlt, wrsD, hdr, hx, hlen, wrC, numsD, hwk, show (k : Int) < ws.length by omega, show ¬ 0 < k by omega, show ¬ (0 : Int) < k by omega, show k * 3 < ws.length * 3 by omega])
                    | (first | (apply hK; clear hK) | (clear hK; apply hK; clear hK) | (clear hK; clear hK; apply hK; clear hK) | (clear hK; clear hK; clear hK; apply hK; clear hK))
                    | exact hQ _ _ (.inl rfl) ⟨5, _, _, rfl, rfl, rfl⟩
                    | refine hQ _ _ (.inl rfl) ⟨5, _, _, rfl, rfl, ?_⟩
                    | refine hQ _ _ (.inl rfl) ⟨_, rfl, ?_⟩
                    | (refine jl_call (f := 16) rfl rfl rfl rfl rfl (cmpBF _ _) (by simp [BelL, Bel]) ?_; rintro r rfl; simp (maxSteps := 1000000) [hlt, wrsD, hdr, hx, hlen, wrC, numsD, hwk, show (k : Int) < ws.length by omega, show ¬ 0 < k by omega, show ¬ (0 : Int) < k by omega, show k * 3 < ws.length * 3 by omega])
                    | (refine jd_call (f := 16) rfl rfl rfl rfl rfl (cmpBF _ _) (by simp [BelL, Bel]) ?_; simp (maxSteps := 1000000) [hlt, wrsD, hdr, hx, hlen, wrC, numsD, hwk, show (k : Int) < ws.length by omega, show ¬ 0 < k by omega, show ¬ (0 : Int) < k by omega, show k * 3 < ws.length * 3 by omega])
                    | (refine jd_newc rfl rfl (by simp) ?_; simp (maxSteps := 1000000) [thD, thL, hlt, wrsD, hdr, hx, hlen, wrC, numsD, hwk, show (k : Int) < ws.length by omega, show ¬ 0 < k by omega, show ¬ (0 : Int) < k by omega, show k * 3 < ws.length * 3 by omega])
                    | (refine okN_or ?_; simp (maxSteps := 1000000) [thD, thL, hlt, wrsD, hdr, hx, hlen, wrC, numsD, hwk, show (k : Int) < ws.length by omega, show ¬ 0 < k by omega, show ¬ (0 : Int) < k by omega, show k * 3 < ws.length * 3 by omega])
                    | (refine okC_guard (fun hc => ?_) (fun hc => ?_) <;> (first | simp (maxSteps := 1000000) [hc, of_decide_eq_true hc, hlt, wrsD, hdr, hx, hlen, wrC, numsD, hwk, show (k : Int) < ws.length by omega, show ¬ 0 < k by omega, show ¬ (0 : Int) < k by omega, show k * 3 < ws.length * 3 by omega] | simp (maxSteps := 1000000) [hc, of_decide_eq_false hc, hlt, wrsD, hdr, hx, hlen, wrC, numsD, hwk, show (k : Int) < ws.length by omega, show ¬ 0 < k by omega, show ¬ (0 : Int) < k by omega, show k * 3 < ws.length * 3 by omega] | simp (maxSteps := 1000000) [hc, hlt, wrsD, hdr, hx, hlen, wrC, numsD, hwk, show (k : Int) < ws.length by omega, show ¬ 0 < k by omega, show ¬ (0 : Int) < k by omega, show k * 3 < ws.length * 3 by omega]) <;> (try simp at hc) <;> (try (exfalso; first | omega | exact absurd hc (by assumption))))
                    | (refine okJ_guard (fun hc => ?_) (fun hc => ?_) <;> (first | simp (maxSteps := 1000000) [hc, of_decide_eq_true hc, hlt, wrsD, hdr, hx, hlen, wrC, numsD, hwk, show (k : Int) < ws.length by omega, show ¬ 0 < k by omega, show ¬ (0 : Int) < k by omega, show k * 3 < ws.length * 3 by omega] | simp (maxSteps := 1000000) [hc, of_decide_eq_false hc, hlt, wrsD, hdr, hx, hlen, wrC, numsD, hwk, show (k : Int) < ws.length by omega, show ¬ 0 < k by omega, show ¬ (0 : Int) < k by omega, show k * 3 < ws.length * 3 by omega] | simp (maxSteps := 1000000) [hc, hlt, wrsD, hdr, hx, hlen, wrC, numsD, hwk, show (k : Int) < ws.length by omega, show ¬ 0 < k by omega, show ¬ (0 : Int) < k by omega, show k * 3 < ws.length * 3 by omega]) <;> (try simp at hc) <;> (try (exfalso; first | omega | exact absurd hc (by assumption))))
                    | (refine And.intro (by first | assumption | omega | (simp [BelL, Bel]; done) | (simp; omega)) ?_; try simp (maxSteps := 1000000) [hlt, wrsD, hdr, hx, hlen, wrC, numsD, hwk, show (k : Int) < ws.length by omega, show ¬ 0 < k by omega, show ¬ (0 : Int) < k by omega, show k * 3 < ws.length * 3 by omega])
                    | (refine okC_or ?_; simp (maxSteps := 1000000) [hlt, wrsD, hdr, hx, hlen, wrC, numsD, hwk, show (k : Int) < ws.length by omega, show ¬ 0 < k by omega, show ¬ (0 : Int) < k by omega, show k * 3 < ws.length * 3 by omega])
                  refine hKB (ws.length - (k + 1)) _ ⟨[.any, .ref [.int .i64 c, .int .i64 n, .int .i64 b, rgsD rs, wrsD ws]] ++ List.replicate 50 .any ++ [wrsD ws, .int .i64 ws.length, .int .i64 (k + 1)] ++ List.replicate 46 .any, []⟩ (by omega) (view_takeE (sl := [.any, .ref [.int .i64 c, .int .i64 n, .int .i64 b, rgsD rs, wrsD ws]] ++ List.replicate 50 .any ++ [wrsD ws, .int .i64 ws.length, .int .i64 (k + 1)] ++ List.replicate 46 .any) (σ0 := []) 0 (by simp [rgsD, wrsD]) (by first | omega | simp) (by first | omega | (simp [rgsD, wrsD]; done) | (simp [rgsD, wrsD]; omega)) (by first | exact LewS.refl _ | simp [rgsD, wrsD]) (by simp [BelL, Bel, rgsD, wrsD]) (by simp [BelS, BelOb, BelL, Bel, rgsD, wrsD])) ⟨(k + 1), ?_, rfl, rfl⟩
                  exact ⟨by omega, hnx⟩
                · have hf : (List.range ws.length).all (wrOkB ws) = false := range_false _ hlt (by simpa using hok)
                  rw [hf] at hQ
                  have hi := mt hiff.2 hok
                  repeat' first
                    | refine jw_seq_k fun K hK => ?_
                    | refine jw_block ?_
                    | (refine jw_skip ?_; try simp)
                    | (refine jw_exit ?_; try simp)
                    | (refine jw_cond rfl (fun hc => ?_) (fun hc => ?_) <;> (try simp at hc) <;> (try (exfalso; first | omega | exact absurd hc (by assumption))))
                    | (refine jw_c ?_; simp (maxSteps := 1000000) [hlt, wrsD, hdr, hx, hlen, wrC, numsD, hwk, show (k : Int) < ws.length by omega, show ¬ 0 < k by omega, show ¬ (0 : Int) < k by omega, show k * 3 < ws.length * 3 by omega])
                    | (refine jw_draw_j mixed (by kernel_rfl) ?_; simp (maxSteps := 1000000) [hlt, wrsD, hdr, hx, hlen, wrC, numsD, hwk, show (k : Int) < ws.length by omega, show ¬ 0 < k by omega, show ¬ (0 : Int) < k by omega, show k * 3 < ws.length * 3 by omega])
                    | (first | (apply hK; clear hK) | (clear hK; apply hK; clear hK) | (clear hK; clear hK; apply hK; clear hK) | (clear hK; clear hK; clear hK; apply hK; clear hK))
                    | (refine jl_call (f := 16) rfl rfl rfl rfl rfl (cmpBF _ _) (by simp [BelL, Bel]) ?_; rintro r rfl; simp (maxSteps := 1000000) [hlt, wrsD, hdr, hx, hlen, wrC, numsD, hwk, show (k : Int) < ws.length by omega, show ¬ 0 < k by omega, show ¬ (0 : Int) < k by omega, show k * 3 < ws.length * 3 by omega])
                    | (refine jd_call (f := 16) rfl rfl rfl rfl rfl (cmpBF _ _) (by simp [BelL, Bel]) ?_; simp (maxSteps := 1000000) [hlt, wrsD, hdr, hx, hlen, wrC, numsD, hwk, show (k : Int) < ws.length by omega, show ¬ 0 < k by omega, show ¬ (0 : Int) < k by omega, show k * 3 < ws.length * 3 by omega])
                    | (refine jw_ret (hQ _ _ (.inr rfl) (ret_ok 0 ?_ (by first | omega | simp))); simp (maxSteps := 1000000) [okRet, BelL, Bel, BelS, BelOb, hlt, wrsD, hdr, hx, hlen, wrC, numsD, hwk, show (k : Int) < ws.length by omega, show ¬ 0 < k by omega, show ¬ (0 : Int) < k by omega, show k * 3 < ws.length * 3 by omega])
                    | (refine hQ _ _ (.inl rfl) (ret_ok 0 ?_ (by first | omega | simp)); simp (maxSteps := 1000000) [okRet, BelL, Bel, BelS, BelOb, hlt, wrsD, hdr, hx, hlen, wrC, numsD, hwk, show (k : Int) < ws.length by omega, show ¬ 0 < k by omega, show ¬ (0 : Int) < k by omega, show k * 3 < ws.length * 3 by omega])
                    | (refine jd_newc rfl rfl (by simp) ?_; simp (maxSteps := 1000000) [thD, thL, hlt, wrsD, hdr, hx, hlen, wrC, numsD, hwk, show (k : Int) < ws.length by omega, show ¬ 0 < k by omega, show ¬ (0 : Int) < k by omega, show k * 3 < ws.length * 3 by omega])
                    | (refine okN_or ?_; simp (maxSteps := 1000000) [thD, thL, hlt, wrsD, hdr, hx, hlen, wrC, numsD, hwk, show (k : Int) < ws.length by omega, show ¬ 0 < k by omega, show ¬ (0 : Int) < k by omega, show k * 3 < ws.length * 3 by omega])
                    | (refine okC_guard (fun hc => ?_) (fun hc => ?_) <;> (first | simp (maxSteps := 1000000) [hc, of_decide_eq_true hc, hlt, wrsD, hdr, hx, hlen, wrC, numsD, hwk, show (k : Int) < ws.length by omega, show ¬ 0 < k by omega, show ¬ (0 : Int) < k by omega, show k * 3 < ws.length * 3 by omega] | simp (maxSteps := 1000000) [hc, of_decide_eq_false hc, hlt, wrsD, hdr, hx, hlen, wrC, numsD, hwk, show (k : Int) < ws.length by omega, show ¬ 0 < k by omega, show ¬ (0 : Int) < k by omega, show k * 3 < ws.length * 3 by omega] | simp (maxSteps := 1000000) [hc, hlt, wrsD, hdr, hx, hlen, wrC, numsD, hwk, show (k : Int) < ws.length by omega, show ¬ 0 < k by omega, show ¬ (0 : Int) < k by omega, show k * 3 < ws.length * 3 by omega]) <;> (try simp at hc) <;> (try (exfalso; first | omega | exact absurd hc (by assumption))))
                    | (refine okJ_guard (fun hc => ?_) (fun hc => ?_) <;> (first | simp (maxSteps := 1000000) [hc, of_decide_eq_true hc, hlt, wrsD, hdr, hx, hlen, wrC, numsD, hwk, show (k : Int) < ws.length by omega, show ¬ 0 < k by omega, show ¬ (0 : Int) < k by omega, show k * 3 < ws.length * 3 by omega] | simp (maxSteps := 1000000) [hc, of_decide_eq_false hc, hlt, wrsD, hdr, hx, hlen, wrC, numsD, hwk, show (k : Int) < ws.length by omega, show ¬ 0 < k by omega, show ¬ (0 : Int) < k by omega, show k * 3 < ws.length * 3 by omega] | simp (maxSteps := 1000000) [hc, hlt, wrsD, hdr, hx, hlen, wrC, numsD, hwk, show (k : Int) < ws.length by omega, show ¬ 0 < k by omega, show ¬ (0 : Int) < k by omega, show k * 3 < ws.length * 3 by omega]) <;> (try simp at hc) <;> (try (exfalso; first | omega | exact absurd hc (by assumption))))
                    | (refine And.intro (by first | assumption | omega | (simp [BelL, Bel]; done) | (simp; omega)) ?_; try simp (maxSteps := 1000000) [hlt, wrsD, hdr, hx, hlen, wrC, numsD, hwk, show (k : Int) < ws.length by omega, show ¬ 0 < k by omega, show ¬ (0 : Int) < k by omega, show k * 3 < ws.length * 3 by omega])
                    | (refine okC_or ?_; simp (maxSteps := 1000000) [hlt, wrsD, hdr, hx, hlen, wrC, numsD, hwk, show (k : Int) < ws.length by omega, show ¬ 0 < k by omega, show ¬ (0 : Int) < k by omega, show k * 3 < ws.length * 3 by omega])
                  all_goals first | (exfalso; omega) | (have hv : val.length = 0 := List.length_eq_zero_iff.2 (by assumption)
                                                        exfalso
                                                        omega)
            · have hwm : IntKind.i64.wrap ((k : Int) - 1) = ((k - 1 : Nat) : Int) := by rw [wrap_i64 (by omega) (by omega)]; omega
              obtain ⟨⟨P, pv, pg⟩, hpx⟩ : ∃ v, ws[k - 1]'(by omega) = v := ⟨_, rfl⟩
              have hd2 := hdr' (by omega)
              rw [hpx] at hd2
              have hiff := wrOk_at ws k key val g hget P (fun h => ⟨pv, pg, by rw [List.getElem?_eq_getElem (by omega), hpx]⟩)
              cases g
              all_goals
                simp only [Bool.toNat_true, Bool.toNat_false, Nat.one_mul, Nat.zero_mul, true_and] at hiff
                by_cases hok : wrOkB ws k = true
                · have hnx : (List.range (k + 1)).all (wrOkB ws) = true := by rw [List.range_succ, List.all_append, hall2]; simp [hok]
                  have hi := hiff.1 hok
                  repeat' first
                    | refine jw_ret (hQ _ _ (.inr rfl) ⟨5, _, _, rfl, rfl, ?_⟩)
                    | refine jw_ret (hQ _ _ (.inr rfl) ⟨_, rfl, ?_⟩)
                    | refine jw_seq_k fun K hK => ?_
                    | refine jw_block ?_
                    | (refine jw_skip ?_; try simp)
                    | (refine jw_exit ?_; try simp)
                    | (refine jw_cond rfl (fun hc => ?_) (fun hc => ?_) <;> (try simp at hc) <;> (try (exfalso; first | omega | exact absurd hc (by assumption))))
                    | (refine jw_c ?_; simp (maxSteps := 1000000) [hlt, wrsD, hdr, hx, hlen, wrC, numsD, hwk, show (k : Int) < ws.length by omega, show k * 3 < ws.length * 3 by omega, hwm, hd2, show 0 < k by omega, show k - 1 < ws.length by omega, show (0 : Int) < k by omega, show (k - 1) * 3 < ws.length * 3 by omega])
                    | (refine jw_draw_j mixed (by kernel_rfl) ?_; simp (maxSteps := 1000000) [hlt, wrsD, hdr, hx, hlen, wrC, numsD, hwk, show (k : Int) < ws.length by omega, show k * 3 < ws.length * 3 by omega, hwm, hd2, show 0 < k by omega, show k - 1 < ws.length by omega, show (0 : Int) < k by omega, show (k - 1) * 3 < ws.length * 3 by omega])
                    | (first | (apply hK; clear hK) | (clear hK; apply hK; clear hK) | (clear hK; clear hK; apply hK; clear hK) | (clear hK; clear hK; clear hK; apply hK; clear hK))
                    | exact hQ _ _ (.inl rfl) ⟨5, _, _, rfl, rfl, rfl⟩
                    | refine hQ _ _ (.inl rfl) ⟨5, _, _, rfl, rfl, ?_⟩
                    | refine hQ _ _ (.inl rfl) ⟨_, rfl, ?_⟩
                    | (refine jl_call (f := 16) rfl rfl rfl rfl rfl (cmpBF _ _) (by simp [BelL, Bel]) ?_; rintro r rfl; simp (maxSteps := 1000000) [hlt, wrsD, hdr, hx, hlen, wrC, numsD, hwk, show (k : Int) < ws.length by omega, show k * 3 < ws.length * 3 by omega, hwm, hd2, show 0 < k by omega, show k - 1 < ws.length by omega, show (0 : Int) < k by omega, show (k - 1) * 3 < ws.length * 3 by omega])
                    | (refine jd_call (f := 16) rfl rfl rfl rfl rfl (cmpBF _ _) (by simp [BelL, Bel]) ?_; simp (maxSteps := 1000000) [hlt, wrsD, hdr, hx, hlen, wrC, numsD, hwk, show (k : Int) < ws.length by omega, show k * 3 < ws.length * 3 by omega, hwm, hd2, show 0 < k by omega, show k - 1 < ws.length by omega, show (0 : Int) < k by omega, show (k - 1) * 3 < ws.length * 3 by omega])
                    | (refine jd_newc rfl rfl (by simp) ?_; simp (maxSteps := 1000000) [thD, thL, hlt, wrsD, hdr, hx, hlen, wrC, numsD, hwk, show (k : Int) < ws.length by omega, show k * 3 < ws.length * 3 by omega, hwm, hd2, show 0 < k by omega, show k - 1 < ws.length by omega, show (0 : Int) < k by omega, show (k - 1) * 3 < ws.length * 3 by omega])
                    | (refine okN_or ?_; simp (maxSteps := 1000000) [thD, thL, hlt, wrsD, hdr, hx, hlen, wrC, numsD, hwk, show (k : Int) < ws.length by omega, show k * 3 < ws.length * 3 by omega, hwm, hd2, show 0 < k by omega, show k - 1 < ws.length by omega, show (0 : Int) < k by omega, show (k - 1) * 3 < ws.length * 3 by omega])
                    | (refine okC_guard (fun hc => ?_) (fun hc => ?_) <;> (first | simp (maxSteps := 1000000) [hc, of_decide_eq_true hc, hlt, wrsD, hdr, hx, hlen, wrC, numsD, hwk, show (k : Int) < ws.length by omega, show k * 3 < ws.length * 3 by omega, hwm, hd2, show 0 < k by omega, show k - 1 < ws.length by omega, show (0 : Int) < k by omega, show (k - 1) * 3 < ws.length * 3 by omega] | simp (maxSteps := 1000000) [hc, of_decide_eq_false hc, hlt, wrsD, hdr, hx, hlen, wrC, numsD, hwk, show (k : Int) < ws.length by omega, show k * 3 < ws.length * 3 by omega, hwm, hd2, show 0 < k by omega, show k - 1 < ws.length by omega, show (0 : Int) < k by omega, show (k - 1) * 3 < ws.length * 3 by omega] | simp (maxSteps := 1000000) [hc, hlt, wrsD, hdr, hx, hlen, wrC, numsD, hwk, show (k : Int) < ws.length by omega, show k * 3 < ws.length * 3 by omega, hwm, hd2, show 0 < k by omega, show k - 1 < ws.length by omega, show (0 : Int) < k by omega, show (k - 1) * 3 < ws.length * 3 by omega]) <;> (try simp at hc) <;> (try (exfalso; first | omega | exact absurd hc (by assumption))))
                    | (refine okJ_guard (fun hc => ?_) (fun hc => ?_) <;> (first | simp (maxSteps := 1000000) [hc, of_decide_eq_true hc, hlt, wrsD, hdr, hx, hlen, wrC, numsD, hwk, show (k : Int) < ws.length by omega, show k * 3 < ws.length * 3 by omega, hwm, hd2, show 0 < k by omega, show k - 1 < ws.length by omega, show (0 : Int) < k by omega, show (k - 1) * 3 < ws.length * 3 by omega] | simp (maxSteps := 1000000) [hc, of_decide_eq_false hc, hlt, wrsD, hdr, hx, hlen, wrC, numsD, hwk, show (k : Int) < ws.length by omega, show k * 3 < ws.length * 3 by omega, hwm, hd2, show 0 < k by omega, show k - 1 < ws.length by omega, show (0 : Int) < k by omega, show (k - 1) * 3 < ws.length * 3 by omega] | simp (maxSteps := 1000000) [hc, hlt, wrsD, hdr, hx, hlen, wrC, numsD, hwk, show (k : Int) < ws.length by omega, show k * 3 < ws.length * 3 by omega, hwm, hd2, show 0 < k by omega, show k - 1 < ws.length by omega, show (0 : Int) < k by omega, show (k - 1) * 3 < ws.length * 3 by omega]) <;> (try simp at hc) <;> (try (exfalso; first | omega | exact absurd hc (by assumption))))
                    | (refine And.intro (by first | assumption | omega | (simp [BelL, Bel]; done) | (simp; omega)) ?_; try simp (maxSteps := 1000000) [hlt, wrsD, hdr, hx, hlen, wrC, numsD, hwk, show (k : Int) < ws.length by omega, show k * 3 < ws.length * 3 by omega, hwm, hd2, show 0 < k by omega, show k - 1 < ws.length by omega, show (0 : Int) < k by omega, show (k - 1) * 3 < ws.length * 3 by omega])
                    | (refine okC_or ?_; simp (maxSteps := 1000000) [hlt, wrsD, hdr, hx, hlen, wrC, numsD, hwk, show (k : Int) < ws.length by omega, show k * 3 < ws.length * 3 by omega, hwm, hd2, show 0 < k by omega, show k - 1 < ws.length by omega, show (0 : Int) < k by omega, show (k - 1) * 3 < ws.length * 3 by omega])
                  refine hKB (ws.length - (k + 1)) _ ⟨[.any, .ref [.int .i64 c, .int .i64 n, .int .i64 b, rgsD rs, wrsD ws]] ++ List.replicate 50 .any ++ [wrsD ws, .int .i64 ws.length, .int .i64 (k + 1)] ++ List.replicate 46 .any, []⟩ (by omega) (view_takeE (sl := [.any, .ref [.int .i64 c, .int .i64 n, .int .i64 b, rgsD rs, wrsD ws]] ++ List.replicate 50 .any ++ [wrsD ws, .int .i64 ws.length, .int .i64 (k + 1)] ++ List.replicate 46 .any) (σ0 := []) 0 (by simp [rgsD, wrsD]) (by first | omega | simp) (by first | omega | (simp [rgsD, wrsD]; done) | (simp [rgsD, wrsD]; omega)) (by first | exact LewS.refl _ | simp [rgsD, wrsD]) (by simp [BelL, Bel, rgsD, wrsD]) (by simp [BelS, BelOb, BelL, Bel, rgsD, wrsD])) ⟨(k + 1), ?_, rfl, rfl⟩
                  exact ⟨by omega, hnx⟩
                · have hf : (List.range ws.length).all (wrOkB ws) = false := range_false _ hlt (by simpa using hok)
                  rw [hf] at hQ
                  have hi := mt hiff.2 hok
                  repeat' first
                    | refine jw_seq_k fun K hK => ?_
                    | refine jw_block ?_
                    | (refine jw_skip ?_; try simp)
                    | (refine jw_exit ?_; try simp)
                    | (refine jw_cond rfl (fun hc => ?_) (fun hc => ?_) <;> (try simp at hc) <;> (try (exfalso; first | omega | exact absurd hc (by assumption))))
                    | (refine jw_c ?_; simp (maxSteps := 1000000) [hlt, wrsD, hdr, hx, hlen, wrC, numsD, hwk, show (k : Int) < ws.length by omega, show k * 3 < ws.length * 3 by omega, hwm, hd2, show 0 < k by omega, show (0 : Int) < k by omega, show k - 1 < ws.length by omega, show (k - 1) * 3 < ws.length * 3 by omega])
                    | (refine jw_draw_j mixed (by kernel_rfl) ?_; simp (maxSteps := 1000000) [hlt, wrsD, hdr, hx, hlen, wrC, numsD, hwk, show (k : Int) < ws.length by omega, show k * 3 < ws.length * 3 by omega, hwm, hd2, show 0 < k by omega, show (0 : Int) < k by omega, show k - 1 < ws.length by omega, show (k - 1) * 3 < ws.length * 3 by omega])
                    | (first | (apply hK; clear hK) | (clear hK; apply hK; clear hK) | (clear hK; clear hK; apply hK; clear hK) | (clear hK; clear hK; clear hK; apply hK; clear hK))
                    | (refine jl_call (f := 16) rfl rfl rfl rfl rfl (cmpBF _ _) (by simp [BelL, Bel]) ?_; rintro r rfl; simp (maxSteps := 1000000) [hlt, wrsD, hdr, hx, hlen, wrC, numsD, hwk, show (k : Int) < ws.length by omega, show k * 3 < ws.length * 3 by omega, hwm, hd2, show 0 < k by omega, show (0 : Int) < k by omega, show k - 1 < ws.length by omega, show (k - 1) * 3 < ws.length * 3 by omega])
                    | (refine jd_call (f := 16) rfl rfl rfl rfl rfl (cmpBF _ _) (by simp [BelL, Bel]) ?_; simp (maxSteps := 1000000) [hlt, wrsD, hdr, hx, hlen, wrC, numsD, hwk, show (k : Int) < ws.length by omega, show k * 3 < ws.length * 3 by omega, hwm, hd2, show 0 < k by omega, show (0 : Int) < k by omega, show k - 1 < ws.length by omega, show (k - 1) * 3 < ws.length * 3 by omega])
                    | (refine jw_ret (hQ _ _ (.inr rfl) (ret_ok 0 ?_ (by first | omega | simp))); simp (maxSteps := 1000000) [okRet, BelL, Bel, BelS, BelOb, hlt, wrsD, hdr, hx, hlen, wrC, numsD, hwk, show (k : Int) < ws.length by omega, show k * 3 < ws.length * 3 by omega, hwm, hd2, show 0 < k by omega, show (0 : Int) < k by omega, show k - 1 < ws.length by omega, show (k - 1) * 3 < ws.length * 3 by omega])
                    | (refine hQ _ _ (.inl rfl) (ret_ok 0 ?_ (by first | omega | simp)); simp (maxSteps := 1000000) [okRet, BelL, Bel, BelS, BelOb, hlt, wrsD, hdr, hx, hlen, wrC, numsD, hwk, show (k : Int) < ws.length by omega, show k * 3 < ws.length * 3 by omega, hwm, hd2, show 0 < k by omega, show (0 : Int) < k by omega, show k - 1 < ws.length by omega, show (k - 1) * 3 < ws.length * 3 by omega])
                    | (refine jd_newc rfl rfl (by simp) ?_; simp (maxSteps := 1000000) [thD, thL, hlt, wrsD, hdr, hx, hlen, wrC, numsD, hwk, show (k : Int) < ws.length by omega, show k * 3 < ws.length * 3 by omega, hwm, hd2, show 0 < k by omega, show (0 : Int) < k by omega, show k - 1 < ws.length by omega, show (k - 1) * 3 < ws.length * 3 by omega])
                    | (refine okN_or ?_; simp (maxSteps := 1000000) [thD, thL, hlt, wrsD, hdr, hx, hlen, wrC, numsD, hwk, show (k : Int) < ws.length by omega, show k * 3 < ws.length * 3 by omega, hwm, hd2, show 0 < k by omega, show (0 : Int) < k by omega, show k - 1 < ws.length by omega, show (k - 1) * 3 < ws.length * 3 by omega])
                    | (refine okC_guard (fun hc => ?_) (fun hc => ?_) <;> (first | simp (maxSteps := 1000000) [hc, of_decide_eq_true hc, hlt, wrsD, hdr, hx, hlen, wrC, numsD, hwk, show (k : Int) < ws.length by omega, show k * 3 < ws.length * 3 by omega, hwm, hd2, show 0 < k by omega, show (0 : Int) < k by omega, show k - 1 < ws.length by omega, show (k - 1) * 3 < ws.length * 3 by omega] | simp (maxSteps := 1000000) [hc, of_decide_eq_false hc, hlt, wrsD, hdr, hx, hlen, wrC, numsD, hwk, show (k : Int) < ws.length by omega, show k * 3 < ws.length * 3 by omega, hwm, hd2, show 0 < k by omega, show (0 : Int) < k by omega, show k - 1 < ws.length by omega, show (k - 1) * 3 < ws.length * 3 by omega] | simp (maxSteps := 1000000) [hc, hlt, wrsD, hdr, hx, hlen, wrC, numsD, hwk, show (k : Int) < ws.length by omega, show k * 3 < ws.length * 3 by omega, hwm, hd2, show 0 < k by omega, show (0 : Int) < k by omega, show k - 1 < ws.length by omega, show (k - 1) * 3 < ws.length * 3 by omega]) <;> (try simp at hc) <;> (try (exfalso; first | omega | exact absurd hc (by assumption))))
                    | (refine okJ_guard (fun hc => ?_) (fun hc => ?_) <;> (first | simp (maxSteps := 1000000) [hc, of_decide_eq_true hc, hlt, wrsD, hdr, hx, hlen, wrC, numsD, hwk, show (k : Int) < ws.length by omega, show k * 3 < ws.length * 3 by omega, hwm, hd2, show 0 < k by omega, show (0 : Int) < k by omega, show k - 1 < ws.length by omega, show (k - 1) * 3 < ws.length * 3 by omega] | simp (maxSteps := 1000000) [hc, of_decide_eq_false hc, hlt, wrsD, hdr, hx, hlen, wrC, numsD, hwk, show (k : Int) < ws.length by omega, show k * 3 < ws.length * 3 by omega, hwm, hd2, show 0 < k by omega, show (0 : Int) < k by omega, show k - 1 < ws.length by omega, show (k - 1) * 3 < ws.length * 3 by omega] | simp (maxSteps := 1000000) [hc, hlt, wrsD, hdr, hx, hlen, wrC, numsD, hwk, show (k : Int) < ws.length by omega, show k * 3 < ws.length * 3 by omega, hwm, hd2, show 0 < k by omega, show (0 : Int) < k by omega, show k - 1 < ws.length by omega, show (k - 1) * 3 < ws.length * 3 by omega]) <;> (try simp at hc) <;> (try (exfalso; first | omega | exact absurd hc (by assumption))))
                    | (refine And.intro (by first | assumption | omega | (simp [BelL, Bel]; done) | (simp; omega)) ?_; try simp (maxSteps := 1000000) [hlt, wrsD, hdr, hx, hlen, wrC, numsD, hwk, show (k : Int) < ws.length by omega, show k * 3 < ws.length * 3 by omega, hwm, hd2, show 0 < k by omega, show (0 : Int) < k by omega, show k - 1 < ws.length by omega, show (k - 1) * 3 < ws.length * 3 by omega])
                    | (refine okC_or ?_; simp (maxSteps := 1000000) [hlt, wrsD, hdr, hx, hlen, wrC, numsD, hwk, show (k : Int) < ws.length by omega, show k * 3 < ws.length * 3 by omega, hwm, hd2, show 0 < k by omega, show (0 : Int) < k by omega, show k - 1 < ws.length by omega, show (k - 1) * 3 < ws.length * 3 by omega])
                  all_goals first | (exfalso; omega) | (have hv : val.length = 0 := List.length_eq_zero_iff.2 (by assumption)
                                                        exfalso
                                                        omega)
          · have hws : (List.range ws.length).all (wrOkB ws) = true := by rw [show ws.length = k by omega]; exact hall2
            rw [hws] at hQ
            repeat' first
              | refine jw_seq_k fun K hK => ?_
              | refine jw_block ?_
              | (refine jw_skip ?_; try simp)
              | (refine jw_exit ?_; try simp)
              | (refine jw_cond rfl (fun hc => ?_) (fun hc => ?_) <;> (try simp at hc) <;> (try (exfalso; first | omega | exact absurd hc (by assumption))))
              | (refine jw_c ?_; simp (maxSteps := 1000000) [hlt, wrsD, show ¬ (k : Int) < ws.length by omega])
              | (refine jw_draw_j mixed (by kernel_rfl) ?_; simp (maxSteps := 1000000) [hlt, wrsD, show ¬ (k : Int) < ws.length by omega])
              | (first | (apply hK; clear hK) | (clear hK; apply hK; clear hK) | (clear hK; clear hK; apply hK; clear hK) | (clear hK; clear hK; clear hK; apply hK; clear hK))
              | (refine jw_ret (hQ _ _ (.inr rfl) (ret_ok 0 ?_ (by first | omega | simp))); simp (maxSteps := 1000000) [okRet, BelL, Bel, BelS, BelOb, hlt, wrsD, show ¬ (k : Int) < ws.length by omega])
              | (refine hQ _ _ (.inl rfl) (ret_ok 0 ?_ (by first | omega | simp)); simp (maxSteps := 1000000) [okRet, BelL, Bel, BelS, BelOb, hlt, wrsD, show ¬ (k : Int) < ws.length by omega])
              | (refine jd_newc rfl rfl (by simp) ?_; simp (maxSteps := 1000000) [thD, thL, hlt, wrsD, show ¬ (k : Int) < ws.length by omega])
              | (refine okN_or ?_; simp (maxSteps := 1000000) [thD, thL, hlt, wrsD, show ¬ (k : Int) < ws.length by omega])
              | (refine okC_guard (fun hc => ?_) (fun hc => ?_) <;> (first | simp (maxSteps := 1000000) [hc, of_decide_eq_true hc, hlt, wrsD, show ¬ (k : Int) < ws.length by omega] | simp (maxSteps := 1000000) [hc, of_decide_eq_false hc, hlt, wrsD, show ¬ (k : Int) < ws.length by omega] | simp (maxSteps := 1000000) [hc, hlt, wrsD, show ¬ (k : Int) < ws.length by omega]) <;> (try simp at hc) <;> (try (exfalso; first | omega | exact absurd hc (by assumption))))
              | (refine okJ_guard (fun hc => ?_) (fun hc => ?_) <;> (first | simp (maxSteps := 1000000) [hc, of_decide_eq_true hc, hlt, wrsD, show ¬ (k : Int) < ws.length by omega] | simp (maxSteps := 1000000) [hc, of_decide_eq_false hc, hlt, wrsD, show ¬ (k : Int) < ws.length by omega] | simp (maxSteps := 1000000) [hc, hlt, wrsD, show ¬ (k : Int) < ws.length by omega]) <;> (try simp at hc) <;> (try (exfalso; first | omega | exact absurd hc (by assumption))))
              | (refine And.intro (by first | assumption | omega | (simp [BelL, Bel]; done) | (simp; omega)) ?_; try simp (maxSteps := 1000000) [hlt, wrsD, show ¬ (k : Int) < ws.length by omega])
              | (refine okC_or ?_; simp (maxSteps := 1000000) [hlt, wrsD, show ¬ (k : Int) < ws.length by omega])
        · simp
    · simp
  · have hn2 : numsOkB ⟨c, n, b, rs, ws⟩ = false := by simpa using hn
    rw [hn2] at hQ
    clear hn2
    simp only [numsOkB, Bool.and_eq_true, decide_eq_true_eq] at hn
    repeat' first
      | refine jw_seq_k fun K hK => ?_
      | refine jw_block ?_
      | (refine jw_skip ?_; try simp)
      | (refine jw_exit ?_; try simp)
      | (refine jw_cond rfl (fun hc => ?_) (fun hc => ?_) <;> (try simp at hc) <;> (try (exfalso; first | omega | exact absurd hc (by assumption))))
      | (refine jw_c ?_; simp (maxSteps := 1000000) [rgsD, wrsD])
      | (refine jw_draw_j mixed (by kernel_rfl) ?_; simp (maxSteps := 1000000) [rgsD, wrsD])
      | (first | (apply hK; clear hK) | (clear hK; apply hK; clear hK) | (clear hK; clear hK; apply hK; clear hK) | (clear hK; clear hK; clear hK; apply hK; clear hK))
      | (refine jl_call (f := 15) rfl rfl rfl rfl rfl (countF _ _) (by simp [BelL, Bel]) ?_; rintro r rfl; simp (maxSteps := 1000000) [rgsD, wrsD])
      | (refine jd_call (f := 15) rfl rfl rfl rfl rfl (countF _ _) (by simp [BelL, Bel]) ?_; simp (maxSteps := 1000000) [rgsD, wrsD])
      | (refine jw_ret (hQ _ _ (.inr rfl) (ret_ok 0 ?_ (by first | omega | simp))); simp (maxSteps := 1000000) [okRet, BelL, Bel, BelS, BelOb, rgsD, wrsD])
      | (refine hQ _ _ (.inl rfl) (ret_ok 0 ?_ (by first | omega | simp)); simp (maxSteps := 1000000) [okRet, BelL, Bel, BelS, BelOb, rgsD, wrsD])
      | (refine jd_newc rfl rfl (by simp) ?_; simp (maxSteps := 1000000) [thD, thL, rgsD, wrsD])
      | (refine okN_or ?_; simp (maxSteps := 1000000) [thD, thL, rgsD, wrsD])
      | (refine okC_guard (fun hc => ?_) (fun hc => ?_) <;> (first | simp (maxSteps := 1000000) [hc, of_decide_eq_true hc, rgsD, wrsD] | simp (maxSteps := 1000000) [hc, of_decide_eq_false hc, rgsD, wrsD] | simp (maxSteps := 1000000) [hc, rgsD, wrsD]) <;> (try simp at hc) <;> (try (exfalso; first | omega | exact absurd hc (by assumption))))
      | (refine okJ_guard (fun hc => ?_) (fun hc => ?_) <;> (first | simp (maxSteps := 1000000) [hc, of_decide_eq_true hc, rgsD, wrsD] | simp (maxSteps := 1000000) [hc, of_decide_eq_false hc, rgsD, wrsD] | simp (maxSteps := 1000000) [hc, rgsD, wrsD]) <;> (try simp at hc) <;> (try (exfalso; first | omega | exact absurd hc (by assumption))))
      | (refine And.intro (by first | assumption | omega | (simp [BelL, Bel]; done) | (simp; omega)) ?_; try simp (maxSteps := 1000000) [rgsD, wrsD])
      | (refine okC_or ?_; simp (maxSteps := 1000000) [rgsD, wrsD])
end Go.Proofs.Ythaidogcgjnhcaa
