/- intent.Decode: texts, ranges, writes, as often as told. -/
import Derived.Test.YthaidogcgjnhcaaIntentTape
import Derived.Test.YthaidogcgjnhcaaIntentOf
import Derived.Test.YthaidogcgjnhcaaFrs
set_option linter.unusedVariables false
set_option linter.unusedSimpArgs false
set_option maxRecDepth 20000
set_option maxHeartbeats 20000000
namespace Go.Proofs.Ythaidogcgjnhcaa
open Go Go.Vm Go.Proofs

def textR (t : Tp) : List Int × Tp := takeR (numR t).2 (numR t).1
theorem take_len (t : Tp) (n : Nat) : (takeR t n).1.length ≤ t.b.length ∧ (takeR t n).2.b.length ≤ t.b.length := by
  unfold takeR
  split
  · simp
  · simp; omega
theorem num_len (t : Tp) : (numR t).2.b.length ≤ t.b.length := (take_len t 4).2
theorem num_bytes {t : Tp} (h : Bytes t.b) : Bytes (numR t).2.b := (take_bytes h 4).2
theorem text_bytes {t : Tp} (h : Bytes t.b) : Bytes (textR t).1 ∧ Bytes (textR t).2.b := take_bytes (num_bytes h) _
theorem text_len (t : Tp) : (textR t).1.length ≤ t.b.length ∧ (textR t).2.b.length ≤ t.b.length := by
  have h1 := num_len t
  have h2 := take_len (numR t).2 (numR t).1
  unfold textR
  omega
theorem le4_lt {l : List Int} (h : Bytes l) : le4 l < 4294967296 := by
  unfold le4
  split
  · rename_i a b c d
    have := h a (by simp); have := h b (by simp); have := h c (by simp); have := h d (by simp)
    omega
  · omega
theorem num_lt {t : Tp} (h : Bytes t.b) : (numR t).1 < 4294967296 := le4_lt (take_bytes h 4).1
theorem readTextF {G : Globals} (t : Tp) (hb : Bytes t.b) (hl : t.b.length ≤ 1000000) : FC Try.prog G 22 [.ptr 0 2 0] [some (.c (tpC t))] (fun d σ' => d = bytesD (textR t).1 ∧ σ' = [some (.c (tpC (textR t).2))]) := by
  have hn := readNumF (G := G) t hb
  have ht := takeF (G := G) (numR t).2 (numR t).1 (by have := num_lt hb; omega)
  have hc1 := cloneF (G := G) (textR t).1 (by have := (text_len t).1; omega)
  have e : takeR (numR t).2 (numR t).1 = textR t := rfl
  rw [e] at ht
  have hr1 := fun r => renL_flat r (tpC_bel 0 (numR t).2)
  have hr2 := fun r => renL_flat r (tpC_bel 0 (textR t).2)
  refine fc_enter_v Try.func22 rfl rfl fun Q hQ => ?_
  repeat' first
    | refine jw_seq_k fun K hK => ?_
    | refine jw_block ?_
    | (refine jw_skip ?_; try simp)
    | (refine jw_exit ?_; try simp)
    | (refine jw_cond rfl (fun hc => ?_) (fun hc => ?_) <;> (try simp at hc) <;> (try (exfalso; first | omega | exact absurd hc (by assumption))))
    | (refine jw_c ?_; simp (maxSteps := 1000000) [Try.f22, hr1, hr2])
    | (refine jw_draw_j mixed (by kernel_rfl) ?_; simp (maxSteps := 1000000) [Try.f22, hr1, hr2])
    | (first | (apply hK; clear hK) | (clear hK; apply hK; clear hK) | (clear hK; clear hK; apply hK; clear hK) | (clear hK; clear hK; clear hK; apply hK; clear hK))
    | (refine jl_fr (f := 19) 0 rfl rfl rfl rfl rfl (hn) (by simp [renL, renD, renD_flat, renL_flat, Try.f22, hr1, hr2]) rfl (by simp [BelL, Bel]) (by simp [BelOb, BelL, Bel]) ?_; rintro d0 x g ⟨rfl, hg⟩; obtain ⟨rfl, rfl⟩ := List.cons.inj hg; simp (maxSteps := 1000000) [renOb, renL, renD, renD_flat, renL_flat, Try.f22, hr1, hr2])
    | (refine jl_fr (f := 25) 0 rfl rfl rfl rfl rfl (ht) (by simp [renL, renD, renD_flat, renL_flat, Try.f22, hr1, hr2]) rfl (by simp [BelL, Bel]) (by simp [BelOb, BelL, Bel]) ?_; rintro d0 x g ⟨rfl, hg⟩; obtain ⟨rfl, rfl⟩ := List.cons.inj hg; simp (maxSteps := 1000000) [renOb, renL, renD, renD_flat, renL_flat, Try.f22, hr1, hr2])
    | (refine jl_call (f := 29) rfl rfl rfl rfl rfl (hc1) (by simp [BelL, Bel]) ?_; rintro r rfl; simp (maxSteps := 1000000) [Try.f22, hr1, hr2])
    | (refine jd_call (f := 29) rfl rfl rfl rfl rfl (hc1) (by simp [BelL, Bel]) ?_; simp (maxSteps := 1000000) [Try.f22, hr1, hr2])
    | (refine jw_ret (hQ _ _ (.inr rfl) (ret_ok 1 ?_ (by first | omega | simp))); simp (maxSteps := 1000000) [okRet, BelL, Bel, BelS, BelOb, Try.f22, hr1, hr2])
    | (refine hQ _ _ (.inl rfl) (ret_ok 1 ?_ (by first | omega | simp)); simp (maxSteps := 1000000) [okRet, BelL, Bel, BelS, BelOb, Try.f22, hr1, hr2])
    | (refine jd_newc rfl rfl (by simp) ?_; simp (maxSteps := 1000000) [thD, thL, Try.f22, hr1, hr2])
    | (refine okN_or ?_; simp (maxSteps := 1000000) [thD, thL, Try.f22, hr1, hr2])
    | (refine okC_guard (fun hc => ?_) (fun hc => ?_) <;> (first | simp (maxSteps := 1000000) [hc, of_decide_eq_true hc, Try.f22, hr1, hr2] | simp (maxSteps := 1000000) [hc, of_decide_eq_false hc, Try.f22, hr1, hr2] | simp (maxSteps := 1000000) [hc, Try.f22, hr1, hr2]) <;> (try simp at hc) <;> (try (exfalso; first | omega | exact absurd hc (by assumption))))
    | (refine okJ_guard (fun hc => ?_) (fun hc => ?_) <;> (first | simp (maxSteps := 1000000) [hc, of_decide_eq_true hc, Try.f22, hr1, hr2] | simp (maxSteps := 1000000) [hc, of_decide_eq_false hc, Try.f22, hr1, hr2] | simp (maxSteps := 1000000) [hc, Try.f22, hr1, hr2]) <;> (try simp at hc) <;> (try (exfalso; first | omega | exact absurd hc (by assumption))))
    | (refine And.intro (by first | assumption | omega | (simp [BelL, Bel]; done) | (simp; omega)) ?_; try simp (maxSteps := 1000000) [Try.f22, hr1, hr2])
    | (refine okC_or ?_; simp (maxSteps := 1000000) [Try.f22, hr1, hr2])

def rangeR (t : Tp) : Rg × Tp := (⟨(textR t).1, (textR (textR t).2).1⟩, (textR (textR t).2).2)
theorem readRangeF {G : Globals} (t : Tp) (hb : Bytes t.b) (hl : t.b.length ≤ 1000000) : FC Try.prog G 21 [.ptr 1 1 0] [some (.c (tpC t)), some (.c [.ptr 0 2 0])] (fun d σ' => d = .agg (rgC (rangeR t).1) ∧ σ' = [some (.c (tpC (rangeR t).2)), some (.c [.ptr 0 2 0])]) := by
  have h1 := readTextF (G := G) t hb hl
  have h2 := readTextF (G := G) (textR t).2 (text_bytes hb).2 (by have := (text_len t).2; omega)
  have hr1 := fun r => renL_flat r (tpC_bel 0 (textR t).2)
  have hr2 := fun r => renL_flat r (tpC_bel 0 (textR (textR t).2).2)
  refine fc_enter_v Try.func21 rfl rfl fun Q hQ => ?_
  repeat' first
    | refine jw_seq_k fun K hK => ?_
    | refine jw_block ?_
    | (refine jw_skip ?_; try simp)
    | (refine jw_exit ?_; try simp)
    | (refine jw_cond rfl (fun hc => ?_) (fun hc => ?_) <;> (try simp at hc) <;> (try (exfalso; first | omega | exact absurd hc (by assumption))))
    | (refine jw_c ?_; simp (maxSteps := 1000000) [Try.f21, hr1, hr2, numsD, okCell])
    | (refine jw_draw_j mixed (by kernel_rfl) ?_; simp (maxSteps := 1000000) [Try.f21, hr1, hr2, numsD, okCell])
    | (first | (apply hK; clear hK) | (clear hK; apply hK; clear hK) | (clear hK; clear hK; apply hK; clear hK) | (clear hK; clear hK; clear hK; apply hK; clear hK))
    | (refine jl_fr (f := 22) 0 rfl rfl rfl rfl rfl (h1) (by simp [renL, renD, renD_flat, renL_flat, Try.f21, hr1, hr2, numsD, okCell]) rfl (by simp [BelL, Bel]) (by simp [BelOb, BelL, Bel]) ?_; rintro d0 x g ⟨rfl, hg⟩; obtain ⟨rfl, rfl⟩ := List.cons.inj hg; simp (maxSteps := 1000000) [renOb, renL, renD, renD_flat, renL_flat, Try.f21, hr1, hr2, numsD, okCell])
    | (refine jl_fr (f := 22) 0 rfl rfl rfl rfl rfl (h2) (by simp [renL, renD, renD_flat, renL_flat, Try.f21, hr1, hr2, numsD, okCell]) rfl (by simp [BelL, Bel]) (by simp [BelOb, BelL, Bel]) ?_; rintro d0 x g ⟨rfl, hg⟩; obtain ⟨rfl, rfl⟩ := List.cons.inj hg; simp (maxSteps := 1000000) [renOb, renL, renD, renD_flat, renL_flat, Try.f21, hr1, hr2, numsD, okCell])
    | (refine jw_ret (hQ _ _ (.inr rfl) (ret_ok 2 ?_ (by first | omega | simp))); simp (maxSteps := 1000000) [okRet, BelL, Bel, BelS, BelOb, Try.f21, hr1, hr2, numsD, okCell])
    | (refine hQ _ _ (.inl rfl) (ret_ok 2 ?_ (by first | omega | simp)); simp (maxSteps := 1000000) [okRet, BelL, Bel, BelS, BelOb, Try.f21, hr1, hr2, numsD, okCell])
    | (refine jd_newc rfl rfl (by simp) ?_; simp (maxSteps := 1000000) [thD, thL, Try.f21, hr1, hr2, numsD, okCell])
    | (refine okN_or ?_; simp (maxSteps := 1000000) [thD, thL, Try.f21, hr1, hr2, numsD, okCell])
    | (refine okC_guard (fun hc => ?_) (fun hc => ?_) <;> (first | simp (maxSteps := 1000000) [hc, of_decide_eq_true hc, Try.f21, hr1, hr2, numsD, okCell] | simp (maxSteps := 1000000) [hc, of_decide_eq_false hc, Try.f21, hr1, hr2, numsD, okCell] | simp (maxSteps := 1000000) [hc, Try.f21, hr1, hr2, numsD, okCell]) <;> (try simp at hc) <;> (try (exfalso; first | omega | exact absurd hc (by assumption))))
    | (refine okJ_guard (fun hc => ?_) (fun hc => ?_) <;> (first | simp (maxSteps := 1000000) [hc, of_decide_eq_true hc, Try.f21, hr1, hr2, numsD, okCell] | simp (maxSteps := 1000000) [hc, of_decide_eq_false hc, Try.f21, hr1, hr2, numsD, okCell] | simp (maxSteps := 1000000) [hc, Try.f21, hr1, hr2, numsD, okCell]) <;> (try simp at hc) <;> (try (exfalso; first | omega | exact absurd hc (by assumption))))
    | (refine And.intro (by first | assumption | omega | (simp [BelL, Bel]; done) | (simp; omega)) ?_; try simp (maxSteps := 1000000) [Try.f21, hr1, hr2, numsD, okCell])
    | (refine okC_or ?_; simp (maxSteps := 1000000) [Try.f21, hr1, hr2, numsD, okCell])
  all_goals exact ⟨rfl, rfl⟩

/-- A thing, as often as told, as long as nothing is bad. -/
def timesR {α : Type} (one : Tp → α × Tp) : Nat → Tp → List α × Tp
  | 0, t => ([], t)
  | n + 1, t => if t.bad = true then ([], t) else ((one t).1 :: (timesR one n (one t).2).1, (timesR one n (one t).2).2)
theorem timesR_bad {α : Type} (one : Tp → α × Tp) (n : Nat) {t : Tp} (h : t.bad = true) : timesR one n t = ([], t) := by
  cases n with
  | zero => rfl
  | succ n => unfold timesR; rw [if_pos h]
theorem timesR_step {α : Type} (one : Tp → α × Tp) (n : Nat) {t : Tp} (h : ¬ t.bad = true) : timesR one (n + 1) t = ((one t).1 :: (timesR one n (one t).2).1, (timesR one n (one t).2).2) := by
  conv => lhs; unfold timesR
  rw [if_neg h]
theorem take_good {t : Tp} {n : Nat} (h : (takeR t n).2.bad = false) : t.bad = false ∧ n ≤ t.b.length ∧ takeR t n = (t.b.take n, ⟨t.b.drop n, false⟩) := by
  unfold takeR at h ⊢
  split
  · rename_i hc; rw [if_pos hc] at h; cases h
  · rename_i hc
    rw [if_neg hc] at h
    dsimp only at h
    exact ⟨h, by omega, by rw [h]⟩
theorem text_good {t : Tp} (h : (textR t).2.bad = false) : t.bad = false ∧ (textR t).2.b.length + (textR t).1.length + 4 = t.b.length := by
  unfold textR at h ⊢
  obtain ⟨h1, h2, h3⟩ := take_good h
  have h1' : (takeR t 4).2.bad = false := h1
  obtain ⟨g1, g2, g3⟩ := take_good h1'
  refine ⟨g1, ?_⟩
  rw [h3]
  have e : (numR t).2 = ⟨t.b.drop 4, false⟩ := by unfold numR; rw [g3]
  rw [e] at h2 ⊢
  dsimp only at h2 ⊢
  simp only [List.length_take, List.length_drop] at h2 ⊢
  omega
theorem range_good {t : Tp} (h : (rangeR t).2.bad = false) : t.bad = false ∧ (rangeR t).2.b.length + 8 ≤ t.b.length := by
  unfold rangeR at h ⊢
  dsimp only at h ⊢
  have h1 := text_good h
  have h2 := text_good h1.1
  exact ⟨h2.1, by omega⟩
theorem range_bytes {t : Tp} (h : Bytes t.b) : Bytes (rangeR t).2.b ∧ (rangeR t).2.b.length ≤ t.b.length := by
  have h1 := text_bytes h
  have h2 := text_bytes h1.2
  have l1 := text_len t
  have l2 := text_len (textR t).2
  unfold rangeR
  dsimp only
  exact ⟨h2.2, by omega⟩
theorem timesRangeF {G : Globals} (t : Tp) (hb : Bytes t.b) (hl : t.b.length ≤ 100000) :
    FC Try.prog G 20 [.ptr 0 2 0, .fn (.func 21) [] [.ptr 1 1 0]] [some (.c (tpC t)), some (.c [.ptr 0 2 0])]
      (fun d σ' => d = rgsD (timesR rangeR (numR t).1 (numR t).2).1 ∧ σ' = [some (.c (tpC (timesR rangeR (numR t).1 (numR t).2).2)), some (.c [.ptr 0 2 0])]) := by
  have hn := readNumF (G := G) t hb
  have hnb := num_bytes hb
  have hnl := num_len t
  have hnt := num_lt hb
  refine fc_enter_v Try.func20 rfl rfl fun Q hQ => ?_
  generalize (numR t).1 = n at *
  generalize (numR t).2 = u at *
  have hru := fun r => renL_flat r (tpC_bel 0 u)
  repeat' first
    | refine jw_ret (hQ _ _ (.inr rfl) ⟨5, _, _, rfl, rfl, ?_⟩)
    | refine jw_ret (hQ _ _ (.inr rfl) ⟨_, rfl, ?_⟩)
    | refine jw_seq_k fun K hK => ?_
    | refine jw_block ?_
    | (refine jw_skip ?_; try simp)
    | (refine jw_exit ?_; try simp)
    | (refine jw_cond rfl (fun hc => ?_) (fun hc => ?_) <;> (try simp at hc) <;> (try (exfalso; first | omega | exact absurd hc (by assumption))))
    | (refine jw_c ?_; simp (maxSteps := 1000000) [Try.f20, hru])
    | (refine jw_draw_j mixed (by kernel_rfl) ?_; simp (maxSteps := 1000000) [Try.f20, hru])
    | (first | (apply hK; clear hK) | (clear hK; apply hK; clear hK) | (clear hK; clear hK; apply hK; clear hK) | (clear hK; clear hK; clear hK; apply hK; clear hK))
    | exact hQ _ _ (.inl rfl) ⟨5, _, _, rfl, rfl, rfl⟩
    | refine hQ _ _ (.inl rfl) ⟨5, _, _, rfl, rfl, ?_⟩
    | refine hQ _ _ (.inl rfl) ⟨_, rfl, ?_⟩
    | (refine jl_fr (f := 19) 0 rfl rfl rfl rfl rfl (hn) (by simp [renL, renD, renD_flat, renL_flat, Try.f20, hru]) rfl (by simp [BelL, Bel]) (by simp [BelOb, BelL, Bel]) ?_; rintro d0 x g ⟨rfl, hg⟩; obtain ⟨rfl, rfl⟩ := List.cons.inj hg; simp (maxSteps := 1000000) [renOb, renL, renD, renD_flat, renL_flat, Try.f20, hru])
    | (refine jd_newc rfl rfl (by simp) ?_; simp (maxSteps := 1000000) [thD, thL, Try.f20, hru])
    | (refine okN_or ?_; simp (maxSteps := 1000000) [thD, thL, Try.f20, hru])
    | (refine okC_guard (fun hc => ?_) (fun hc => ?_) <;> (first | simp (maxSteps := 1000000) [hc, of_decide_eq_true hc, Try.f20, hru] | simp (maxSteps := 1000000) [hc, of_decide_eq_false hc, Try.f20, hru] | simp (maxSteps := 1000000) [hc, Try.f20, hru]) <;> (try simp at hc) <;> (try (exfalso; first | omega | exact absurd hc (by assumption))))
    | (refine okJ_guard (fun hc => ?_) (fun hc => ?_) <;> (first | simp (maxSteps := 1000000) [hc, of_decide_eq_true hc, Try.f20, hru] | simp (maxSteps := 1000000) [hc, of_decide_eq_false hc, Try.f20, hru] | simp (maxSteps := 1000000) [hc, Try.f20, hru]) <;> (try simp at hc) <;> (try (exfalso; first | omega | exact absurd hc (by assumption))))
    | (refine And.intro (by first | assumption | omega | (simp [BelL, Bel]; done) | (simp; omega)) ?_; try simp (maxSteps := 1000000) [Try.f20, hru])
    | (refine okC_or ?_; simp (maxSteps := 1000000) [Try.f20, hru])
  obtain ⟨U, V, hUV⟩ : ∃ U V, timesR rangeR n u = (U, V) := ⟨_, _, rfl⟩
  rw [hUV] at hQ
  dsimp only at hQ
  have hcell := fun r => show renD r (.ptr 0 2 0) = .ptr (r 0) 2 0 from rfl
  refine jw_loop_v (fun m z => ∃ (i : Nat), ∃ (us : List Rg), ∃ (q : Tp), (i ≤ n ∧ Bytes q.b ∧ q.b.length ≤ t.b.length ∧ (us ++ (timesR rangeR (n - i) q).1 = U ∧ (timesR rangeR (n - i) q).2 = V) ∧ (q.bad = false → us.length * 8 + q.b.length ≤ t.b.length) ∧ us.length * 8 ≤ t.b.length + 8) ∧ n - i = m ∧ z = ⟨[.ptr 0 2 0, .fn (.func 21) [] [.ptr 1 1 0], .any, .any, .any, .ms 2 (us.length * 2) 0 us.length 2, .int .i64 ((n : Int) - i)] ++ List.replicate 19 .any, [some (.c (tpC q)), some (.c [.ptr 0 2 0]), some (.c (us.flatMap rgC))]⟩) ⟨[.ptr 0 2 0, .fn (.func 21) [] [.ptr 1 1 0], .any, .any, .any, .ms 2 (([]).length * 2) 0 ([]).length 2, .int .i64 ((n : Int) - (0))] ++ List.replicate 19 .any, [some (.c (tpC (u))), some (.c [.ptr 0 2 0]), some (.c (([]).flatMap rgC))]⟩ ((view_nil 5 2 rfl).trans (view_takeE (sl := [.ptr 0 2 0, .fn (.func 21) [] [.ptr 1 1 0], .any, .any, .any, .ms 2 (([]).length * 2) 0 ([]).length 2, .int .i64 ((n : Int) - (0))] ++ List.replicate 19 .any) (σ0 := [some (.c (tpC (u))), some (.c [.ptr 0 2 0]), some (.c (([]).flatMap rgC))]) 3 (by simp [hru, thL, thD, thS, thOb]) (by first | omega | simp) (by first | omega | (simp [hru, thL, thD, thS, thOb]; done) | (simp [hru, thL, thD, thS, thOb]; omega)) (by first | exact LewS.refl _ | simp [hru, thL, thD, thS, thOb]) (by simp [BelL, Bel, thL, thD, thS, thOb, hru]) (by simp [BelS, BelOb, BelL, Bel, thL, thD, thS, thOb, hru]))) ⟨(0), ([]), (u), ?_, rfl, rfl⟩ ?_
  rotate_left
  rintro m z ⟨i, us, q, hA, rfl, rfl⟩ KA hKA
  · obtain ⟨hin, hqb, hql, ⟨hU, hV⟩, hgood, hul⟩ := hA
    have hone := readRangeF (G := G) q hqb (by omega)
    have hrl := rgs_len us
    have hw := wrap_i64 (n := (n : Int) - i - 1) (by omega) (by omega)
    obtain ⟨qb, qbad⟩ := q
    dsimp only at hqb hql hgood
    have hrq := fun r => renL_flat r (tpC_bel 0 (rangeR ⟨qb, qbad⟩).2)
    by_cases hgo : i < n ∧ qbad = false
    · obtain ⟨hlt, rfl⟩ := hgo
      have hg := hgood rfl
      have hst := timesR_step rangeR (n - (i + 1)) (t := ⟨qb, false⟩) (by simp)
      rw [show n - (i + 1) + 1 = n - i by omega] at hst
      rw [hst] at hU hV
      dsimp only at hU hV
      have hnb2 := range_bytes (t := ⟨qb, false⟩) hqb
      have hng := range_good (t := ⟨qb, false⟩)
      generalize (rangeR ⟨qb, false⟩).1 = r at *
      generalize (rangeR ⟨qb, false⟩).2 = q' at *
      dsimp only at hnb2 hng
      obtain ⟨lo, hi⟩ := r
      unfold tpC at hone
      repeat' first
        | refine jw_ret (hQ _ _ (.inr rfl) ⟨5, _, _, rfl, rfl, ?_⟩)
        | refine jw_ret (hQ _ _ (.inr rfl) ⟨_, rfl, ?_⟩)
        | refine jw_seq_k fun K hK => ?_
        | refine jw_block ?_
        | (refine jw_skip ?_; try simp)
        | (refine jw_exit ?_; try simp)
        | (refine jw_cond rfl (fun hc => ?_) (fun hc => ?_) <;> (try simp at hc) <;> (try (exfalso; first | omega | exact absurd hc (by assumption))))
        | (refine jw_c ?_; simp (maxSteps := 1000000) [show (0 : Int) < (n : Int) - i by omega, tpC, hrl, hw, rgC, numsD, okCell, show us.length + 1 ≤ 1000000 by omega])
        | (refine jw_draw_j mixed (by kernel_rfl) ?_; simp (maxSteps := 1000000) [show (0 : Int) < (n : Int) - i by omega, tpC, hrl, hw, rgC, numsD, okCell, show us.length + 1 ≤ 1000000 by omega])
        | (first | (apply hK; clear hK) | (clear hK; apply hK; clear hK) | (clear hK; clear hK; apply hK; clear hK) | (clear hK; clear hK; clear hK; apply hK; clear hK))
        | exact hQ _ _ (.inl rfl) ⟨5, _, _, rfl, rfl, rfl⟩
        | refine hQ _ _ (.inl rfl) ⟨5, _, _, rfl, rfl, ?_⟩
        | refine hQ _ _ (.inl rfl) ⟨_, rfl, ?_⟩
        | (refine jl_frs (f := 21) [0, 1] rfl rfl rfl rfl rfl (hone) ?_ ?_ (by simp) (by simp) ?_ ?_ ?_; (focus (simp [rho, renS, renOb, renL, renD, renD_flat, renL_flat, renL_append, show (0 : Int) < (n : Int) - i by omega, tpC, hrl, hw, rgC, numsD, okCell, show us.length + 1 ≤ 1000000 by omega]; done)); (focus (simp [rho, renS, renOb, renL, renD, renD_flat, renL_flat, renL_append, show (0 : Int) < (n : Int) - i by omega, tpC, hrl, hw, rgC, numsD, okCell, show us.length + 1 ≤ 1000000 by omega]; done)); (focus (simp [BelL, Bel]; done)); (focus (simp [BelS, BelOb, BelL, Bel, show (0 : Int) < (n : Int) - i by omega, tpC, hrl, hw, rgC, numsD, okCell, show us.length + 1 ≤ 1000000 by omega]; done)); rintro d0 g ⟨rfl, rfl⟩; simp (maxSteps := 1000000) [glue, putAll, rho, renS, renOb, renL, renD, renD_flat, renL_flat, renL_append, show (0 : Int) < (n : Int) - i by omega, tpC, hrl, hw, rgC, numsD, okCell, show us.length + 1 ≤ 1000000 by omega])
        | (refine jd_newc rfl rfl (by simp) ?_; simp (maxSteps := 1000000) [thD, thL, show (0 : Int) < (n : Int) - i by omega, tpC, hrl, hw, rgC, numsD, okCell, show us.length + 1 ≤ 1000000 by omega])
        | (refine okN_or ?_; simp (maxSteps := 1000000) [thD, thL, show (0 : Int) < (n : Int) - i by omega, tpC, hrl, hw, rgC, numsD, okCell, show us.length + 1 ≤ 1000000 by omega])
        | (refine okC_guard (fun hc => ?_) (fun hc => ?_) <;> (first | simp (maxSteps := 1000000) [hc, of_decide_eq_true hc, show (0 : Int) < (n : Int) - i by omega, tpC, hrl, hw, rgC, numsD, okCell, show us.length + 1 ≤ 1000000 by omega] | simp (maxSteps := 1000000) [hc, of_decide_eq_false hc, show (0 : Int) < (n : Int) - i by omega, tpC, hrl, hw, rgC, numsD, okCell, show us.length + 1 ≤ 1000000 by omega] | simp (maxSteps := 1000000) [hc, show (0 : Int) < (n : Int) - i by omega, tpC, hrl, hw, rgC, numsD, okCell, show us.length + 1 ≤ 1000000 by omega]) <;> (try simp at hc) <;> (try (exfalso; first | omega | exact absurd hc (by assumption))))
        | (refine okJ_guard (fun hc => ?_) (fun hc => ?_) <;> (first | simp (maxSteps := 1000000) [hc, of_decide_eq_true hc, show (0 : Int) < (n : Int) - i by omega, tpC, hrl, hw, rgC, numsD, okCell, show us.length + 1 ≤ 1000000 by omega] | simp (maxSteps := 1000000) [hc, of_decide_eq_false hc, show (0 : Int) < (n : Int) - i by omega, tpC, hrl, hw, rgC, numsD, okCell, show us.length + 1 ≤ 1000000 by omega] | simp (maxSteps := 1000000) [hc, show (0 : Int) < (n : Int) - i by omega, tpC, hrl, hw, rgC, numsD, okCell, show us.length + 1 ≤ 1000000 by omega]) <;> (try simp at hc) <;> (try (exfalso; first | omega | exact absurd hc (by assumption))))
        | (refine And.intro (by first | assumption | omega | (simp [BelL, Bel]; done) | (simp; omega)) ?_; try simp (maxSteps := 1000000) [show (0 : Int) < (n : Int) - i by omega, tpC, hrl, hw, rgC, numsD, okCell, show us.length + 1 ≤ 1000000 by omega])
        | (refine okC_or ?_; simp (maxSteps := 1000000) [show (0 : Int) < (n : Int) - i by omega, tpC, hrl, hw, rgC, numsD, okCell, show us.length + 1 ≤ 1000000 by omega])
      refine hKA (n - (i + 1)) _ ⟨[.ptr 0 2 0, .fn (.func 21) [] [.ptr 1 1 0], .any, .any, .any, .ms 2 ((us ++ [(⟨lo, hi⟩ : Rg)]).length * 2) 0 (us ++ [(⟨lo, hi⟩ : Rg)]).length 2, .int .i64 ((n : Int) - (i + 1))] ++ List.replicate 19 .any, [some (.c (tpC (q'))), some (.c [.ptr 0 2 0]), some (.c ((us ++ [(⟨lo, hi⟩ : Rg)]).flatMap rgC))]⟩ (by omega) (view_takeE (sl := [.ptr 0 2 0, .fn (.func 21) [] [.ptr 1 1 0], .any, .any, .any, .ms 2 ((us ++ [(⟨lo, hi⟩ : Rg)]).length * 2) 0 (us ++ [(⟨lo, hi⟩ : Rg)]).length 2, .int .i64 ((n : Int) - (i + 1))] ++ List.replicate 19 .any) (σ0 := [some (.c (tpC (q'))), some (.c [.ptr 0 2 0]), some (.c ((us ++ [(⟨lo, hi⟩ : Rg)]).flatMap rgC))]) 3 (by simp [tpC, rgC, numsD, List.flatMap_append, show (us.length + 1) * 2 = us.length * 2 + 2 by omega, show (n : Int) - ((i : Int) + 1) = (n : Int) - i - 1 by omega]) (by first | omega | simp) (by first | omega | (simp [tpC, rgC, numsD, List.flatMap_append, show (us.length + 1) * 2 = us.length * 2 + 2 by omega, show (n : Int) - ((i : Int) + 1) = (n : Int) - i - 1 by omega]; done) | (simp [tpC, rgC, numsD, List.flatMap_append, show (us.length + 1) * 2 = us.length * 2 + 2 by omega, show (n : Int) - ((i : Int) + 1) = (n : Int) - i - 1 by omega]; omega)) (by first | exact LewS.refl _ | simp [tpC, rgC, numsD, List.flatMap_append, show (us.length + 1) * 2 = us.length * 2 + 2 by omega, show (n : Int) - ((i : Int) + 1) = (n : Int) - i - 1 by omega]) (by simp [BelL, Bel, tpC, rgC, numsD, List.flatMap_append, show (us.length + 1) * 2 = us.length * 2 + 2 by omega, show (n : Int) - ((i : Int) + 1) = (n : Int) - i - 1 by omega]) (by simp [BelS, BelOb, BelL, Bel, tpC, rgC, numsD, List.flatMap_append, show (us.length + 1) * 2 = us.length * 2 + 2 by omega, show (n : Int) - ((i : Int) + 1) = (n : Int) - i - 1 by omega])) ⟨(i + 1), (us ++ [(⟨lo, hi⟩ : Rg)]), (q'), ?_, rfl, rfl⟩
      refine ⟨by omega, hnb2.1, by omega, ⟨?_, hV⟩, fun h => ?_, ?_⟩
      · rw [← hU]; simp
      · have := hng h; rw [List.length_append, List.length_singleton]; omega
      · rw [List.length_append, List.length_singleton]; omega
    · have hend : timesR rangeR (n - i) ⟨qb, qbad⟩ = ([], ⟨qb, qbad⟩) := by
        by_cases hb : qbad = true
        · exact timesR_bad rangeR _ hb
        · have : n - i = 0 := by
            have hb2 : qbad = false := by simpa using hb
            have : ¬ i < n := fun h => hgo ⟨h, hb2⟩
            omega
          rw [this]; rfl
      rw [hend] at hU hV
      dsimp only at hU hV
      rw [List.append_nil] at hU
      subst hU
      subst hV
      have hct : List.take (us.length * 2) (us.flatMap rgC) = us.flatMap rgC := List.take_of_length_le (by omega)
      by_cases hlt : i < n
      · have hb : qbad = true := by
          cases qbad with
          | true => rfl
          | false => exact (hgo ⟨hlt, rfl⟩).elim
        subst hb
        repeat' first
          | refine jw_ret (hQ _ _ (.inr rfl) ⟨5, _, _, rfl, rfl, ?_⟩)
          | refine jw_ret (hQ _ _ (.inr rfl) ⟨_, rfl, ?_⟩)
          | refine jw_seq_k fun K hK => ?_
          | refine jw_block ?_
          | (refine jw_skip ?_; try simp)
          | (refine jw_exit ?_; try simp)
          | (refine jw_cond rfl (fun hc => ?_) (fun hc => ?_) <;> (try simp at hc) <;> (try (exfalso; first | omega | exact absurd hc (by assumption))))
          | ((fail_if_success (refine jw_c (id := 6) ?_)); (refine jw_c ?_; simp (maxSteps := 1000000) [show (0 : Int) < (n : Int) - i by omega, tpC]))
          | ((fail_if_success (refine jw_draw_j (id := 6) mixed (by kernel_rfl) ?_)); (refine jw_draw_j mixed (by kernel_rfl) ?_; simp (maxSteps := 1000000) [show (0 : Int) < (n : Int) - i by omega, tpC]))
          | (first | (apply hK; clear hK) | (clear hK; apply hK; clear hK) | (clear hK; clear hK; apply hK; clear hK) | (clear hK; clear hK; clear hK; apply hK; clear hK))
          | exact hQ _ _ (.inl rfl) ⟨5, _, _, rfl, rfl, rfl⟩
          | refine hQ _ _ (.inl rfl) ⟨5, _, _, rfl, rfl, ?_⟩
          | refine hQ _ _ (.inl rfl) ⟨_, rfl, ?_⟩
          | (refine jd_newc rfl rfl (by simp) ?_; simp (maxSteps := 1000000) [thD, thL, show (0 : Int) < (n : Int) - i by omega, tpC])
          | (refine okN_or ?_; simp (maxSteps := 1000000) [thD, thL, show (0 : Int) < (n : Int) - i by omega, tpC])
          | (refine okC_guard (fun hc => ?_) (fun hc => ?_) <;> (first | simp (maxSteps := 1000000) [hc, of_decide_eq_true hc, show (0 : Int) < (n : Int) - i by omega, tpC] | simp (maxSteps := 1000000) [hc, of_decide_eq_false hc, show (0 : Int) < (n : Int) - i by omega, tpC] | simp (maxSteps := 1000000) [hc, show (0 : Int) < (n : Int) - i by omega, tpC]) <;> (try simp at hc) <;> (try (exfalso; first | omega | exact absurd hc (by assumption))))
          | (refine okJ_guard (fun hc => ?_) (fun hc => ?_) <;> (first | simp (maxSteps := 1000000) [hc, of_decide_eq_true hc, show (0 : Int) < (n : Int) - i by omega, tpC] | simp (maxSteps := 1000000) [hc, of_decide_eq_false hc, show (0 : Int) < (n : Int) - i by omega, tpC] | simp (maxSteps := 1000000) [hc, show (0 : Int) < (n : Int) - i by omega, tpC]) <;> (try simp at hc) <;> (try (exfalso; first | omega | exact absurd hc (by assumption))))
          | (refine And.intro (by first | assumption | omega | (simp [BelL, Bel]; done) | (simp; omega)) ?_; try simp (maxSteps := 1000000) [show (0 : Int) < (n : Int) - i by omega, tpC])
          | (refine okC_or ?_; simp (maxSteps := 1000000) [show (0 : Int) < (n : Int) - i by omega, tpC])
        (refine jw_view (view_frz 2 _ rfl (by simp [BelL, Bel, thL_flat, thD_flat, hrl, hct, numsD])) ?_; simp (maxSteps := 1000000) [thL, thD, thS, thOb, thL_flat, thD_flat, hrl, hct, numsD])
        repeat' first
          | refine jw_seq_k fun K hK => ?_
          | refine jw_block ?_
          | (refine jw_skip ?_; try simp)
          | (refine jw_exit ?_; try simp)
          | (refine jw_cond rfl (fun hc => ?_) (fun hc => ?_) <;> (try simp at hc) <;> (try (exfalso; first | omega | exact absurd hc (by assumption))))
          | (refine jw_c ?_; simp (maxSteps := 1000000) [tpC, rgsD, numsD])
          | (refine jw_draw_j mixed (by kernel_rfl) ?_; simp (maxSteps := 1000000) [tpC, rgsD, numsD])
          | (first | (apply hK; clear hK) | (clear hK; apply hK; clear hK) | (clear hK; clear hK; apply hK; clear hK) | (clear hK; clear hK; clear hK; apply hK; clear hK))
          | (refine jw_ret (hQ _ _ (.inr rfl) (ret_ok 2 ?_ (by first | omega | simp))); simp (maxSteps := 1000000) [okRet, BelL, Bel, BelS, BelOb, tpC, rgsD, numsD])
          | (refine hQ _ _ (.inl rfl) (ret_ok 2 ?_ (by first | omega | simp)); simp (maxSteps := 1000000) [okRet, BelL, Bel, BelS, BelOb, tpC, rgsD, numsD])
          | (refine jd_newc rfl rfl (by simp) ?_; simp (maxSteps := 1000000) [thD, thL, tpC, rgsD, numsD])
          | (refine okN_or ?_; simp (maxSteps := 1000000) [thD, thL, tpC, rgsD, numsD])
          | (refine okC_guard (fun hc => ?_) (fun hc => ?_) <;> (first | simp (maxSteps := 1000000) [hc, of_decide_eq_true hc, tpC, rgsD, numsD] | simp (maxSteps := 1000000) [hc, of_decide_eq_false hc, tpC, rgsD, numsD] | simp (maxSteps := 1000000) [hc, tpC, rgsD, numsD]) <;> (try simp at hc) <;> (try (exfalso; first | omega | exact absurd hc (by assumption))))
          | (refine okJ_guard (fun hc => ?_) (fun hc => ?_) <;> (first | simp (maxSteps := 1000000) [hc, of_decide_eq_true hc, tpC, rgsD, numsD] | simp (maxSteps := 1000000) [hc, of_decide_eq_false hc, tpC, rgsD, numsD] | simp (maxSteps := 1000000) [hc, tpC, rgsD, numsD]) <;> (try simp at hc) <;> (try (exfalso; first | omega | exact absurd hc (by assumption))))
          | (refine And.intro (by first | assumption | omega | (simp [BelL, Bel]; done) | (simp; omega)) ?_; try simp (maxSteps := 1000000) [tpC, rgsD, numsD])
          | (refine okC_or ?_; simp (maxSteps := 1000000) [tpC, rgsD, numsD])
      · repeat' first
          | refine jw_ret (hQ _ _ (.inr rfl) ⟨5, _, _, rfl, rfl, ?_⟩)
          | refine jw_ret (hQ _ _ (.inr rfl) ⟨_, rfl, ?_⟩)
          | refine jw_seq_k fun K hK => ?_
          | refine jw_block ?_
          | (refine jw_skip ?_; try simp)
          | (refine jw_exit ?_; try simp)
          | (refine jw_cond rfl (fun hc => ?_) (fun hc => ?_) <;> (try simp at hc) <;> (try (exfalso; first | omega | exact absurd hc (by assumption))))
          | ((fail_if_success (refine jw_c (id := 6) ?_)); (refine jw_c ?_; simp (maxSteps := 1000000) [show ¬ (0 : Int) < (n : Int) - i by omega, tpC]))
          | ((fail_if_success (refine jw_draw_j (id := 6) mixed (by kernel_rfl) ?_)); (refine jw_draw_j mixed (by kernel_rfl) ?_; simp (maxSteps := 1000000) [show ¬ (0 : Int) < (n : Int) - i by omega, tpC]))
          | (first | (apply hK; clear hK) | (clear hK; apply hK; clear hK) | (clear hK; clear hK; apply hK; clear hK) | (clear hK; clear hK; clear hK; apply hK; clear hK))
          | exact hQ _ _ (.inl rfl) ⟨5, _, _, rfl, rfl, rfl⟩
          | refine hQ _ _ (.inl rfl) ⟨5, _, _, rfl, rfl, ?_⟩
          | refine hQ _ _ (.inl rfl) ⟨_, rfl, ?_⟩
          | (refine jd_newc rfl rfl (by simp) ?_; simp (maxSteps := 1000000) [thD, thL, show ¬ (0 : Int) < (n : Int) - i by omega, tpC])
          | (refine okN_or ?_; simp (maxSteps := 1000000) [thD, thL, show ¬ (0 : Int) < (n : Int) - i by omega, tpC])
          | (refine okC_guard (fun hc => ?_) (fun hc => ?_) <;> (first | simp (maxSteps := 1000000) [hc, of_decide_eq_true hc, show ¬ (0 : Int) < (n : Int) - i by omega, tpC] | simp (maxSteps := 1000000) [hc, of_decide_eq_false hc, show ¬ (0 : Int) < (n : Int) - i by omega, tpC] | simp (maxSteps := 1000000) [hc, show ¬ (0 : Int) < (n : Int) - i by omega, tpC]) <;> (try simp at hc) <;> (try (exfalso; first | omega | exact absurd hc (by assumption))))
          | (refine okJ_guard (fun hc => ?_) (fun hc => ?_) <;> (first | simp (maxSteps := 1000000) [hc, of_decide_eq_true hc, show ¬ (0 : Int) < (n : Int) - i by omega, tpC] | simp (maxSteps := 1000000) [hc, of_decide_eq_false hc, show ¬ (0 : Int) < (n : Int) - i by omega, tpC] | simp (maxSteps := 1000000) [hc, show ¬ (0 : Int) < (n : Int) - i by omega, tpC]) <;> (try simp at hc) <;> (try (exfalso; first | omega | exact absurd hc (by assumption))))
          | (refine And.intro (by first | assumption | omega | (simp [BelL, Bel]; done) | (simp; omega)) ?_; try simp (maxSteps := 1000000) [show ¬ (0 : Int) < (n : Int) - i by omega, tpC])
          | (refine okC_or ?_; simp (maxSteps := 1000000) [show ¬ (0 : Int) < (n : Int) - i by omega, tpC])
        (refine jw_view (view_frz 2 _ rfl (by simp [BelL, Bel, thL_flat, thD_flat, hrl, hct, numsD])) ?_; simp (maxSteps := 1000000) [thL, thD, thS, thOb, thL_flat, thD_flat, hrl, hct, numsD])
        repeat' first
          | refine jw_seq_k fun K hK => ?_
          | refine jw_block ?_
          | (refine jw_skip ?_; try simp)
          | (refine jw_exit ?_; try simp)
          | (refine jw_cond rfl (fun hc => ?_) (fun hc => ?_) <;> (try simp at hc) <;> (try (exfalso; first | omega | exact absurd hc (by assumption))))
          | (refine jw_c ?_; simp (maxSteps := 1000000) [tpC, rgsD, numsD])
          | (refine jw_draw_j mixed (by kernel_rfl) ?_; simp (maxSteps := 1000000) [tpC, rgsD, numsD])
          | (first | (apply hK; clear hK) | (clear hK; apply hK; clear hK) | (clear hK; clear hK; apply hK; clear hK) | (clear hK; clear hK; clear hK; apply hK; clear hK))
          | (refine jw_ret (hQ _ _ (.inr rfl) (ret_ok 2 ?_ (by first | omega | simp))); simp (maxSteps := 1000000) [okRet, BelL, Bel, BelS, BelOb, tpC, rgsD, numsD])
          | (refine hQ _ _ (.inl rfl) (ret_ok 2 ?_ (by first | omega | simp)); simp (maxSteps := 1000000) [okRet, BelL, Bel, BelS, BelOb, tpC, rgsD, numsD])
          | (refine jd_newc rfl rfl (by simp) ?_; simp (maxSteps := 1000000) [thD, thL, tpC, rgsD, numsD])
          | (refine okN_or ?_; simp (maxSteps := 1000000) [thD, thL, tpC, rgsD, numsD])
          | (refine okC_guard (fun hc => ?_) (fun hc => ?_) <;> (first | simp (maxSteps := 1000000) [hc, of_decide_eq_true hc, tpC, rgsD, numsD] | simp (maxSteps := 1000000) [hc, of_decide_eq_false hc, tpC, rgsD, numsD] | simp (maxSteps := 1000000) [hc, tpC, rgsD, numsD]) <;> (try simp at hc) <;> (try (exfalso; first | omega | exact absurd hc (by assumption))))
          | (refine okJ_guard (fun hc => ?_) (fun hc => ?_) <;> (first | simp (maxSteps := 1000000) [hc, of_decide_eq_true hc, tpC, rgsD, numsD] | simp (maxSteps := 1000000) [hc, of_decide_eq_false hc, tpC, rgsD, numsD] | simp (maxSteps := 1000000) [hc, tpC, rgsD, numsD]) <;> (try simp at hc) <;> (try (exfalso; first | omega | exact absurd hc (by assumption))))
          | (refine And.intro (by first | assumption | omega | (simp [BelL, Bel]; done) | (simp; omega)) ?_; try simp (maxSteps := 1000000) [tpC, rgsD, numsD])
          | (refine okC_or ?_; simp (maxSteps := 1000000) [tpC, rgsD, numsD])
  · refine ⟨by omega, hnb, hnl, ⟨?_, ?_⟩, fun _ => ?_, ?_⟩
    · rw [Nat.sub_zero, hUV]; rfl
    · rw [Nat.sub_zero, hUV]
    · simpa using hnl
    · simp
end Go.Proofs.Ythaidogcgjnhcaa
