/- Trees: at, way. The walks. -/
import Derived.Test.YtibcjkklgifgmaaTreeD
set_option linter.unusedVariables false
set_option linter.unusedSimpArgs false
set_option maxRecDepth 20000
set_option maxHeartbeats 20000000
namespace Go.Proofs.Ytibcjkklgifgmaa
open Go Go.Vm Go.Proofs

@[simp] theorem bel_bytes (n : Nat) (l : List Int) : Bel n (bytesD l) := belL_int .u8 l n
theorem cmpAtF {G : Globals} (e : En) (k : List Int) : FV Try.prog G 44 [.agg (enC e), bytesD k] (fun r => r = .int .i64 (cmpL e.k k)) := by
  refine fv_enter_v Try.func44 rfl rfl fun Q hQ => ?_
  repeat' first
    | refine jw_seq_k fun K hK => ?_
    | refine jw_block ?_
    | ((first | refine jw_skip ?_ | refine jw_exit ?_); try simp)
    | (refine jw_cond rfl (fun hc => ?_) (fun hc => ?_) <;> (try simp at hc) <;> (try (exfalso; first | omega | exact absurd hc (by assumption))))
    | ((first | refine jw_c ?_ | refine jw_draw_j mixed (by kernel_rfl) ?_ | (refine jl_call (f := 38) rfl rfl rfl rfl rfl (cmpBF _ _) (by simp [BelL, Bel]) ?_; rintro r rfl) | refine jd_call (f := 38) rfl rfl rfl rfl rfl (cmpBF _ _) (by simp [BelL, Bel]) ?_); simp (maxSteps := 1000000) [Try.f44, enC])
    | (first | (apply hK; clear hK) | (clear hK; apply hK; clear hK) | (clear hK; clear hK; apply hK; clear hK) | (clear hK; clear hK; clear hK; apply hK; clear hK))
    | ((first | refine jw_ret (hQ _ _ (.inr rfl) (ret_ok 0 ?_ (by first | omega | simp))) | refine hQ _ _ (.inl rfl) (ret_ok 0 ?_ (by first | omega | simp))); simp (maxSteps := 1000000) [okRet, BelL, Bel, BelS, BelOb, Try.f44, enC])
    | ((first | refine jd_newc rfl rfl (by simp) ?_ | refine okN_or ?_); simp (maxSteps := 1000000) [thD, thL, Try.f44, enC])
    | ((first | refine okC_guard (fun hc => ?_) (fun hc => ?_) | refine okJ_guard (fun hc => ?_) (fun hc => ?_)) <;> (first | have hd := of_decide_eq_true hc | have hd := of_decide_eq_false hc | have hd := hc) <;> simp (maxSteps := 1000000) [hc, hd, Try.f44, enC] <;> (try simp at hc) <;> (try (exfalso; first | omega | exact absurd hc (by assumption))))
    | (refine And.intro (by first | assumption | omega | (simp [BelL, Bel]; done) | (simp; omega)) ?_; try simp (maxSteps := 1000000) [Try.f44, enC])
    | (refine okC_or ?_; simp (maxSteps := 1000000) [Try.f44, enC])
/-- Where the search ends. -/
theorem at_unique {es : List En} {k : List Int} {i : Nat} (hi : i ≤ es.length) (h1 : ∀ x, (hx : x < i) → cmpL (es[x]'(by omega)).k k < 0) (h2 : (hx : i < es.length) → 0 ≤ cmpL es[i].k k) : atE es k = i := by
  induction es generalizing i with
  | nil => simp at hi; subst hi; rfl
  | cons e es ih =>
    cases i with
    | zero =>
      have := h2 (by simp)
      simp only [List.getElem_cons_zero] at this
      simp [atE, List.takeWhile_cons, show ¬ cmpL e.k k < 0 by omega]
    | succ i =>
      have h0 := h1 0 (by omega)
      simp only [List.getElem_cons_zero] at h0
      have := ih (i := i) (by simpa using hi) (fun x hx => by have := h1 (x + 1) (by omega); simpa using this) (fun hx => by have := h2 (by simpa using hx); simpa using this)
      unfold atE at this ⊢
      simp [List.takeWhile_cons, h0, this]
theorem srt_lt {es : List En} (h : Srt es) {x y : Nat} (hxy : x < y) (hy : y < es.length) : cmpL es[x].k es[y].k < 0 := List.pairwise_iff_getElem.1 h x y (by omega) hy hxy
theorem half_u {n : Nat} (h : n ≤ 1000000) : IntKind.i64.wrap ((IntKind.u64.wrap (n : Int)).fdiv (2 ^ min 1 IntKind.u64.bits)) = ((n / 2 : Nat) : Int) := by
  rw [wrap_u64 (by omega) (by omega), show min 1 IntKind.u64.bits = 1 from rfl]
  have e : (n : Int).fdiv (2 ^ 1) = ((n / 2 : Nat) : Int) := by
    rw [Int.fdiv_eq_ediv_of_nonneg _ (by decide)]; omega
  rw [e]
  exact wrap_i64 (by omega) (by omega)
theorem searchF {G : Globals} (f : Bool) (es : List En) (k : List Int) (hs : Srt es) (hl : es.length ≤ 100000) :
    FV Try.prog G 43 [ensD f es, bytesD k, .fn (.func 44) [] []] (fun r => r = .tup [.int .i64 (atE es k), .bool (atF es k)]) := by
  refine fv_enter_v Try.func43 rfl rfl fun Q hQ => ?_
  have hlen := ens_len es
  repeat' first
    | refine jw_ret (hQ _ _ (.inr rfl) ⟨5, _, _, rfl, rfl, ?_⟩)
    | refine jw_ret (hQ _ _ (.inr rfl) ⟨_, rfl, ?_⟩)
    | refine jw_seq_k fun K hK => ?_
    | refine jw_block ?_
    | ((first | refine jw_skip ?_ | refine jw_exit ?_); try simp)
    | (refine jw_cond rfl (fun hc => ?_) (fun hc => ?_) <;> (try simp at hc) <;> (try (exfalso; first | omega | exact absurd hc (by assumption))))
    | ((first | refine jw_c ?_ | refine jw_draw_j mixed (by kernel_rfl) ?_); simp (maxSteps := 1000000) [Try.f43, ensD])
    | (first | (apply hK; clear hK) | (clear hK; apply hK; clear hK) | (clear hK; clear hK; apply hK; clear hK) | (clear hK; clear hK; clear hK; apply hK; clear hK))
    | exact hQ _ _ (.inl rfl) ⟨5, _, _, rfl, rfl, rfl⟩
    | refine hQ _ _ (.inl rfl) ⟨5, _, _, rfl, rfl, ?_⟩
    | refine hQ _ _ (.inl rfl) ⟨_, rfl, ?_⟩
    | ((first | refine jd_newc rfl rfl (by simp) ?_ | refine okN_or ?_); simp (maxSteps := 1000000) [thD, thL, Try.f43, ensD])
    | ((first | refine okC_guard (fun hc => ?_) (fun hc => ?_) | refine okJ_guard (fun hc => ?_) (fun hc => ?_)) <;> (first | have hd := of_decide_eq_true hc | have hd := of_decide_eq_false hc | have hd := hc) <;> simp (maxSteps := 1000000) [hc, hd, Try.f43, ensD] <;> (try simp at hc) <;> (try (exfalso; first | omega | exact absurd hc (by assumption))))
    | (refine And.intro (by first | assumption | omega | (simp [BelL, Bel]; done) | (simp; omega)) ?_; try simp (maxSteps := 1000000) [Try.f43, ensD])
    | (refine okC_or ?_; simp (maxSteps := 1000000) [Try.f43, ensD])
  refine jw_loop_v (fun m z => ∃ (i : Nat), ∃ (j : Nat), (i ≤ j ∧ j ≤ es.length ∧ (∀ x, (hx : x < i) → (hy : x < es.length) → cmpL es[x].k k < 0) ∧ (∀ x, j ≤ x → (hy : x < es.length) → 0 ≤ cmpL es[x].k k)) ∧ j - i = m ∧ z = ⟨[ensD f es, bytesD k, .fn (.func 44) [] []] ++ List.replicate 5 .any ++ [.int .i64 es.length, .int .i64 i, .int .i64 j] ++ List.replicate 38 .any, []⟩) ⟨[ensD f es, bytesD k, .fn (.func 44) [] []] ++ List.replicate 5 .any ++ [.int .i64 es.length, .int .i64 (0), .int .i64 (es.length)] ++ List.replicate 38 .any, []⟩ (view_takeE (sl := [ensD f es, bytesD k, .fn (.func 44) [] []] ++ List.replicate 5 .any ++ [.int .i64 es.length, .int .i64 (0), .int .i64 (es.length)] ++ List.replicate 38 .any) (σ0 := []) 0 (by simp [ensD]) (by first | omega | simp) (by first | omega | (simp [ensD]; done) | (simp [ensD]; omega)) (by first | exact LewS.refl _ | simp [ensD]) (by simp [BelL, Bel, ensD]) (by simp [BelS, BelOb, BelL, Bel, ensD])) ⟨(0), (es.length), ?_, rfl, rfl⟩ ?_
  rotate_left
  rintro m z ⟨i, j, hA, rfl, rfl⟩ KA hKA
  · obtain ⟨hij, hj, h1, h2⟩ := hA
    by_cases hlt : i < j
    · have hwa := wrap_i64 (n := (i : Int) + j) (by omega) (by omega)
      have ea : (i : Int) + j = ((i + j : Nat) : Int) := by omega
      have hh := half_u (n := i + j) (by omega)
      rw [← ea] at hh
      obtain ⟨m, hm⟩ : ∃ m, (i + j) / 2 = m := ⟨_, rfl⟩
      rw [hm] at hh
      have hml : m < es.length := by omega
      have hdr := flat_drop enC_len es m hml
      have hw1 := wrap_i64 (n := (m : Int) + 1) (by omega) (by omega)
      obtain ⟨e, he⟩ : ∃ e, es[m] = e := ⟨_, rfl⟩
      have hC := cmpAtF (G := G) e k
      unfold enC at hC
      rw [he] at hdr
      by_cases c : cmpL e.k k < 0
      · repeat' first
          | refine jw_ret (hQ _ _ (.inr rfl) ⟨5, _, _, rfl, rfl, ?_⟩)
          | refine jw_ret (hQ _ _ (.inr rfl) ⟨_, rfl, ?_⟩)
          | refine jw_seq_k fun K hK => ?_
          | refine jw_block ?_
          | ((first | refine jw_skip ?_ | refine jw_exit ?_); try simp)
          | (refine jw_cond rfl (fun hc => ?_) (fun hc => ?_) <;> (try simp at hc) <;> (try (exfalso; first | omega | exact absurd hc (by assumption))))
          | ((first | refine jw_c ?_ | refine jw_draw_j mixed (by kernel_rfl) ?_ | (refine jl_call (f := 44) rfl rfl rfl rfl rfl (hC) (by simp [BelL, Bel]) ?_; rintro r rfl) | refine jd_call (f := 44) rfl rfl rfl rfl rfl (hC) (by simp [BelL, Bel]) ?_); simp (maxSteps := 1000000) [hlt, ensD, hwa, hh, hdr, hlen, enC, hw1, c, show (m : Int) < es.length by omega, show m * 2 < es.length * 2 by omega])
          | (first | (apply hK; clear hK) | (clear hK; apply hK; clear hK) | (clear hK; clear hK; apply hK; clear hK) | (clear hK; clear hK; clear hK; apply hK; clear hK))
          | exact hQ _ _ (.inl rfl) ⟨5, _, _, rfl, rfl, rfl⟩
          | refine hQ _ _ (.inl rfl) ⟨5, _, _, rfl, rfl, ?_⟩
          | refine hQ _ _ (.inl rfl) ⟨_, rfl, ?_⟩
          | ((first | refine jd_newc rfl rfl (by simp) ?_ | refine okN_or ?_); simp (maxSteps := 1000000) [thD, thL, hlt, ensD, hwa, hh, hdr, hlen, enC, hw1, c, show (m : Int) < es.length by omega, show m * 2 < es.length * 2 by omega])
          | ((first | refine okC_guard (fun hc => ?_) (fun hc => ?_) | refine okJ_guard (fun hc => ?_) (fun hc => ?_)) <;> (first | have hd := of_decide_eq_true hc | have hd := of_decide_eq_false hc | have hd := hc) <;> simp (maxSteps := 1000000) [hc, hd, hlt, ensD, hwa, hh, hdr, hlen, enC, hw1, c, show (m : Int) < es.length by omega, show m * 2 < es.length * 2 by omega] <;> (try simp at hc) <;> (try (exfalso; first | omega | exact absurd hc (by assumption))))
          | (refine And.intro (by first | assumption | omega | (simp [BelL, Bel]; done) | (simp; omega)) ?_; try simp (maxSteps := 1000000) [hlt, ensD, hwa, hh, hdr, hlen, enC, hw1, c, show (m : Int) < es.length by omega, show m * 2 < es.length * 2 by omega])
          | (refine okC_or ?_; simp (maxSteps := 1000000) [hlt, ensD, hwa, hh, hdr, hlen, enC, hw1, c, show (m : Int) < es.length by omega, show m * 2 < es.length * 2 by omega])
        refine hKA ((j) - (m + 1)) _ ⟨[ensD f es, bytesD k, .fn (.func 44) [] []] ++ List.replicate 5 .any ++ [.int .i64 es.length, .int .i64 (m + 1), .int .i64 (j)] ++ List.replicate 38 .any, []⟩ (by omega) (view_takeE (sl := [ensD f es, bytesD k, .fn (.func 44) [] []] ++ List.replicate 5 .any ++ [.int .i64 es.length, .int .i64 (m + 1), .int .i64 (j)] ++ List.replicate 38 .any) (σ0 := []) 0 (by simp [ensD]) (by first | omega | simp) (by first | omega | (simp [ensD]; done) | (simp [ensD]; omega)) (by first | exact LewS.refl _ | simp [ensD]) (by simp [BelL, Bel, ensD]) (by simp [BelS, BelOb, BelL, Bel, ensD])) ⟨(m + 1), (j), ?_, rfl, rfl⟩
        refine ⟨by omega, hj, fun x hx hy => ?_, h2⟩
        by_cases e1 : x = m
        · subst e1; rw [he]; exact c
        · have := srt_lt hs (show x < m by omega) hml
          rw [he] at this
          exact cmpL_lt this (Int.le_of_lt c)
      · repeat' first
          | refine jw_ret (hQ _ _ (.inr rfl) ⟨5, _, _, rfl, rfl, ?_⟩)
          | refine jw_ret (hQ _ _ (.inr rfl) ⟨_, rfl, ?_⟩)
          | refine jw_seq_k fun K hK => ?_
          | refine jw_block ?_
          | ((first | refine jw_skip ?_ | refine jw_exit ?_); try simp)
          | (refine jw_cond rfl (fun hc => ?_) (fun hc => ?_) <;> (try simp at hc) <;> (try (exfalso; first | omega | exact absurd hc (by assumption))))
          | ((first | refine jw_c ?_ | refine jw_draw_j mixed (by kernel_rfl) ?_ | (refine jl_call (f := 44) rfl rfl rfl rfl rfl (hC) (by simp [BelL, Bel]) ?_; rintro r rfl) | refine jd_call (f := 44) rfl rfl rfl rfl rfl (hC) (by simp [BelL, Bel]) ?_); simp (maxSteps := 1000000) [hlt, ensD, hwa, hh, hdr, hlen, enC, hw1, c, show (m : Int) < es.length by omega, show m * 2 < es.length * 2 by omega])
          | (first | (apply hK; clear hK) | (clear hK; apply hK; clear hK) | (clear hK; clear hK; apply hK; clear hK) | (clear hK; clear hK; clear hK; apply hK; clear hK))
          | exact hQ _ _ (.inl rfl) ⟨5, _, _, rfl, rfl, rfl⟩
          | refine hQ _ _ (.inl rfl) ⟨5, _, _, rfl, rfl, ?_⟩
          | refine hQ _ _ (.inl rfl) ⟨_, rfl, ?_⟩
          | ((first | refine jd_newc rfl rfl (by simp) ?_ | refine okN_or ?_); simp (maxSteps := 1000000) [thD, thL, hlt, ensD, hwa, hh, hdr, hlen, enC, hw1, c, show (m : Int) < es.length by omega, show m * 2 < es.length * 2 by omega])
          | ((first | refine okC_guard (fun hc => ?_) (fun hc => ?_) | refine okJ_guard (fun hc => ?_) (fun hc => ?_)) <;> (first | have hd := of_decide_eq_true hc | have hd := of_decide_eq_false hc | have hd := hc) <;> simp (maxSteps := 1000000) [hc, hd, hlt, ensD, hwa, hh, hdr, hlen, enC, hw1, c, show (m : Int) < es.length by omega, show m * 2 < es.length * 2 by omega] <;> (try simp at hc) <;> (try (exfalso; first | omega | exact absurd hc (by assumption))))
          | (refine And.intro (by first | assumption | omega | (simp [BelL, Bel]; done) | (simp; omega)) ?_; try simp (maxSteps := 1000000) [hlt, ensD, hwa, hh, hdr, hlen, enC, hw1, c, show (m : Int) < es.length by omega, show m * 2 < es.length * 2 by omega])
          | (refine okC_or ?_; simp (maxSteps := 1000000) [hlt, ensD, hwa, hh, hdr, hlen, enC, hw1, c, show (m : Int) < es.length by omega, show m * 2 < es.length * 2 by omega])
        refine hKA ((m) - (i)) _ ⟨[ensD f es, bytesD k, .fn (.func 44) [] []] ++ List.replicate 5 .any ++ [.int .i64 es.length, .int .i64 (i), .int .i64 (m)] ++ List.replicate 38 .any, []⟩ (by omega) (view_takeE (sl := [ensD f es, bytesD k, .fn (.func 44) [] []] ++ List.replicate 5 .any ++ [.int .i64 es.length, .int .i64 (i), .int .i64 (m)] ++ List.replicate 38 .any) (σ0 := []) 0 (by simp [ensD]) (by first | omega | simp) (by first | omega | (simp [ensD]; done) | (simp [ensD]; omega)) (by first | exact LewS.refl _ | simp [ensD]) (by simp [BelL, Bel, ensD]) (by simp [BelS, BelOb, BelL, Bel, ensD])) ⟨(i), (m), ?_, rfl, rfl⟩
        refine ⟨by omega, by omega, h1, fun x hx hy => ?_⟩
        by_cases e1 : x = m
        · subst e1; rw [he]; omega
        · have := srt_lt hs (show m < x by omega) hy
          rw [he] at this
          by_cases g : cmpL es[x].k k < 0
          · have := cmpL_lt this (Int.le_of_lt g); omega
          · omega
    · have hi : i = j := by omega
      subst hi
      have hat : atE es k = i := at_unique hj (fun x hx => h1 x hx (by omega)) (fun hx => h2 i (Nat.le_refl _) hx)
      rw [hat] at hQ
      by_cases hil : i < es.length
      · have hdr := flat_drop enC_len es i hil
        have hF : atF es k = decide (cmpL es[i].k k = 0) := by unfold atF; rw [hat, List.getElem?_eq_getElem hil]
        rw [hF] at hQ
        obtain ⟨e, he⟩ : ∃ e, es[i] = e := ⟨_, rfl⟩
        have hC := cmpAtF (G := G) e k
        unfold enC at hC
        rw [he] at hdr hQ
        repeat' first
          | refine jw_seq_k fun K hK => ?_
          | refine jw_block ?_
          | ((first | refine jw_skip ?_ | refine jw_exit ?_); try simp)
          | (refine jw_cond rfl (fun hc => ?_) (fun hc => ?_) <;> (try simp at hc) <;> (try (exfalso; first | omega | exact absurd hc (by assumption))))
          | ((first | refine jw_c ?_ | refine jw_draw_j mixed (by kernel_rfl) ?_ | (refine jl_call (f := 44) rfl rfl rfl rfl rfl (hC) (by simp [BelL, Bel]) ?_; rintro r rfl) | refine jd_call (f := 44) rfl rfl rfl rfl rfl (hC) (by simp [BelL, Bel]) ?_); simp (maxSteps := 1000000) [hlt, ensD, hdr, hlen, enC, hil, show (i : Int) < es.length by omega, show i * 2 < es.length * 2 by omega])
          | (first | (apply hK; clear hK) | (clear hK; apply hK; clear hK) | (clear hK; clear hK; apply hK; clear hK) | (clear hK; clear hK; clear hK; apply hK; clear hK))
          | ((first | refine jw_ret (hQ _ _ (.inr rfl) (ret_ok 0 ?_ (by first | omega | simp))) | refine hQ _ _ (.inl rfl) (ret_ok 0 ?_ (by first | omega | simp))); simp (maxSteps := 1000000) [okRet, BelL, Bel, BelS, BelOb, hlt, ensD, hdr, hlen, enC, hil, show (i : Int) < es.length by omega, show i * 2 < es.length * 2 by omega])
          | ((first | refine jd_newc rfl rfl (by simp) ?_ | refine okN_or ?_); simp (maxSteps := 1000000) [thD, thL, hlt, ensD, hdr, hlen, enC, hil, show (i : Int) < es.length by omega, show i * 2 < es.length * 2 by omega])
          | ((first | refine okC_guard (fun hc => ?_) (fun hc => ?_) | refine okJ_guard (fun hc => ?_) (fun hc => ?_)) <;> (first | have hd := of_decide_eq_true hc | have hd := of_decide_eq_false hc | have hd := hc) <;> simp (maxSteps := 1000000) [hc, hd, hlt, ensD, hdr, hlen, enC, hil, show (i : Int) < es.length by omega, show i * 2 < es.length * 2 by omega] <;> (try simp at hc) <;> (try (exfalso; first | omega | exact absurd hc (by assumption))))
          | (refine And.intro (by first | assumption | omega | (simp [BelL, Bel]; done) | (simp; omega)) ?_; try simp (maxSteps := 1000000) [hlt, ensD, hdr, hlen, enC, hil, show (i : Int) < es.length by omega, show i * 2 < es.length * 2 by omega])
          | (refine okC_or ?_; simp (maxSteps := 1000000) [hlt, ensD, hdr, hlen, enC, hil, show (i : Int) < es.length by omega, show i * 2 < es.length * 2 by omega])
        by_cases h : cmpL e.k k = 0 <;> simp [h]
      · have hF : atF es k = false := by unfold atF; rw [hat, List.getElem?_eq_none (by omega)]
        rw [hF] at hQ
        repeat' first
          | refine jw_seq_k fun K hK => ?_
          | refine jw_block ?_
          | ((first | refine jw_skip ?_ | refine jw_exit ?_); try simp)
          | (refine jw_cond rfl (fun hc => ?_) (fun hc => ?_) <;> (try simp at hc) <;> (try (exfalso; first | omega | exact absurd hc (by assumption))))
          | ((first | refine jw_c ?_ | refine jw_draw_j mixed (by kernel_rfl) ?_); simp (maxSteps := 1000000) [hlt, ensD, hlen, hil])
          | (first | (apply hK; clear hK) | (clear hK; apply hK; clear hK) | (clear hK; clear hK; apply hK; clear hK) | (clear hK; clear hK; clear hK; apply hK; clear hK))
          | ((first | refine jw_ret (hQ _ _ (.inr rfl) (ret_ok 0 ?_ (by first | omega | simp))) | refine hQ _ _ (.inl rfl) (ret_ok 0 ?_ (by first | omega | simp))); simp (maxSteps := 1000000) [okRet, BelL, Bel, BelS, BelOb, hlt, ensD, hlen, hil])
          | ((first | refine jd_newc rfl rfl (by simp) ?_ | refine okN_or ?_); simp (maxSteps := 1000000) [thD, thL, hlt, ensD, hlen, hil])
          | ((first | refine okC_guard (fun hc => ?_) (fun hc => ?_) | refine okJ_guard (fun hc => ?_) (fun hc => ?_)) <;> (first | have hd := of_decide_eq_true hc | have hd := of_decide_eq_false hc | have hd := hc) <;> simp (maxSteps := 1000000) [hc, hd, hlt, ensD, hlen, hil] <;> (try simp at hc) <;> (try (exfalso; first | omega | exact absurd hc (by assumption))))
          | (refine And.intro (by first | assumption | omega | (simp [BelL, Bel]; done) | (simp; omega)) ?_; try simp (maxSteps := 1000000) [hlt, ensD, hlen, hil])
          | (refine okC_or ?_; simp (maxSteps := 1000000) [hlt, ensD, hlen, hil])
  · exact ⟨by omega, Nat.le_refl _, fun x hx => by omega, fun x hx hy => by omega⟩
theorem atFn {G : Globals} (f : Bool) (es : List En) (k : List Int) (hs : Srt es) (hl : es.length ≤ 100000) :
    FV Try.prog G 34 [ensD f es, bytesD k] (fun r => r = .tup [.int .i64 (atE es k), .bool (atF es k)]) := by
  have hS := searchF (G := G) f es k hs hl
  refine fv_enter_v Try.func34 rfl rfl fun Q hQ => ?_
  repeat' first
    | refine jw_seq_k fun K hK => ?_
    | refine jw_block ?_
    | ((first | refine jw_skip ?_ | refine jw_exit ?_); try simp)
    | (refine jw_cond rfl (fun hc => ?_) (fun hc => ?_) <;> (try simp at hc) <;> (try (exfalso; first | omega | exact absurd hc (by assumption))))
    | ((first | refine jw_c ?_ | refine jw_draw_j mixed (by kernel_rfl) ?_ | (refine jl_call (f := 43) rfl rfl rfl rfl rfl (hS) (by simp [BelL, Bel]) ?_; rintro r rfl) | refine jd_call (f := 43) rfl rfl rfl rfl rfl (hS) (by simp [BelL, Bel]) ?_); simp (maxSteps := 1000000) [Try.f34])
    | (first | (apply hK; clear hK) | (clear hK; apply hK; clear hK) | (clear hK; clear hK; apply hK; clear hK) | (clear hK; clear hK; clear hK; apply hK; clear hK))
    | ((first | refine jw_ret (hQ _ _ (.inr rfl) (ret_ok 0 ?_ (by first | omega | simp))) | refine hQ _ _ (.inl rfl) (ret_ok 0 ?_ (by first | omega | simp))); simp (maxSteps := 1000000) [okRet, BelL, Bel, BelS, BelOb, Try.f34])
    | ((first | refine jd_newc rfl rfl (by simp) ?_ | refine okN_or ?_); simp (maxSteps := 1000000) [thD, thL, Try.f34])
    | ((first | refine okC_guard (fun hc => ?_) (fun hc => ?_) | refine okJ_guard (fun hc => ?_) (fun hc => ?_)) <;> (first | have hd := of_decide_eq_true hc | have hd := of_decide_eq_false hc | have hd := hc) <;> simp (maxSteps := 1000000) [hc, hd, Try.f34] <;> (try simp at hc) <;> (try (exfalso; first | omega | exact absurd hc (by assumption))))
    | (refine And.intro (by first | assumption | omega | (simp [BelL, Bel]; done) | (simp; omega)) ?_; try simp (maxSteps := 1000000) [Try.f34])
    | (refine okC_or ?_; simp (maxSteps := 1000000) [Try.f34])

theorem way_at : ∀ {ks : List T} {k : List Int} {i : Nat}, i < ks.length → (∀ x, (hx : x < i) → (hy : x + 1 < ks.length) → cmpL ks[x + 1].low k ≤ 0) → ((hx : i + 1 < ks.length) → ¬ cmpL ks[i + 1].low k ≤ 0) → wayT ks k = i
  | [], _, _, h, _, _ => by simp at h
  | [t], k, i, h, _, _ => by simp at h; subst h; rfl
  | t :: u :: ts, k, i, h, h1, h2 => by
    unfold wayT
    cases i with
    | zero =>
      have := h2 (by simp)
      simp only [Nat.zero_add, List.getElem_cons_succ, List.getElem_cons_zero] at this
      rw [if_neg this]
    | succ i =>
      have h0 := h1 0 (by omega) (by simp)
      simp only [Nat.zero_add, List.getElem_cons_succ, List.getElem_cons_zero] at h0
      rw [if_pos h0, way_at (ks := u :: ts) (i := i) (by simpa using h) (fun x hx hy => by have := h1 (x + 1) (by omega) (by simpa using hy); simpa using this) (fun hx => by have := h2 (by simpa using hx); simpa using this)]
theorem wayF {G : Globals} (t : T) (k : List Int) (h0 : t.ks ≠ []) (hl : t.ks.length ≤ 100000) : FV Try.prog G 31 [tD t, bytesD k] (fun r => r = .int .i64 (wayT t.ks k)) := by
  have hpos := List.length_pos_iff.2 h0
  rw [tD_eq]
  refine fv_enter_v Try.func31 rfl rfl fun Q hQ => ?_
  generalize t.ks = ks at *
  have hlen := tDs_len ks
  repeat' first
    | refine jw_ret (hQ _ _ (.inr rfl) ⟨5, _, _, rfl, rfl, ?_⟩)
    | refine jw_ret (hQ _ _ (.inr rfl) ⟨_, rfl, ?_⟩)
    | refine jw_seq_k fun K hK => ?_
    | refine jw_block ?_
    | ((first | refine jw_skip ?_ | refine jw_exit ?_); try simp)
    | (refine jw_cond rfl (fun hc => ?_) (fun hc => ?_) <;> (try simp at hc) <;> (try (exfalso; first | omega | exact absurd hc (by assumption))))
    | ((first | refine jw_c ?_ | refine jw_draw_j mixed (by kernel_rfl) ?_); simp (maxSteps := 1000000) [Try.f31])
    | (first | (apply hK; clear hK) | (clear hK; apply hK; clear hK) | (clear hK; clear hK; apply hK; clear hK) | (clear hK; clear hK; clear hK; apply hK; clear hK))
    | exact hQ _ _ (.inl rfl) ⟨5, _, _, rfl, rfl, rfl⟩
    | refine hQ _ _ (.inl rfl) ⟨5, _, _, rfl, rfl, ?_⟩
    | refine hQ _ _ (.inl rfl) ⟨_, rfl, ?_⟩
    | ((first | refine jd_newc rfl rfl (by simp) ?_ | refine okN_or ?_); simp (maxSteps := 1000000) [thD, thL, Try.f31])
    | ((first | refine okC_guard (fun hc => ?_) (fun hc => ?_) | refine okJ_guard (fun hc => ?_) (fun hc => ?_)) <;> (first | have hd := of_decide_eq_true hc | have hd := of_decide_eq_false hc | have hd := hc) <;> simp (maxSteps := 1000000) [hc, hd, Try.f31] <;> (try simp at hc) <;> (try (exfalso; first | omega | exact absurd hc (by assumption))))
    | (refine And.intro (by first | assumption | omega | (simp [BelL, Bel]; done) | (simp; omega)) ?_; try simp (maxSteps := 1000000) [Try.f31])
    | (refine okC_or ?_; simp (maxSteps := 1000000) [Try.f31])
  refine jw_loop_v (fun m z => ∃ (i : Nat), (i < ks.length ∧ (∀ x, (hx : x < i) → (hy : x + 1 < ks.length) → cmpL ks[x + 1].low k ≤ 0)) ∧ ks.length - i = m ∧ z = ⟨[.ref [ensD false t.es, ksD false ks, bytesD t.low], bytesD k, .any, .any, .any, .int .i64 ((i + 1 : Nat) : Int)] ++ List.replicate 26 .any, []⟩) ⟨[.ref [ensD false t.es, ksD false ks, bytesD t.low], bytesD k, .any, .any, .any, .int .i64 (((0) + 1 : Nat) : Int)] ++ List.replicate 26 .any, []⟩ (view_takeE (sl := [.ref [ensD false t.es, ksD false ks, bytesD t.low], bytesD k, .any, .any, .any, .int .i64 (((0) + 1 : Nat) : Int)] ++ List.replicate 26 .any) (σ0 := []) 0 (by simp [belL_int, bel_bytes]) (by first | omega | simp) (by first | omega | (simp [belL_int, bel_bytes]; done) | (simp [belL_int, bel_bytes]; omega)) (by first | exact LewS.refl _ | simp [belL_int, bel_bytes]) (by simp [BelL, Bel, belL_int, bel_bytes]) (by simp [BelS, BelOb, BelL, Bel, belL_int, bel_bytes])) ⟨(0), ?_, rfl, rfl⟩ ?_
  rotate_left
  rintro m z ⟨i, hA, rfl, rfl⟩ KA hKA
  · obtain ⟨hi, h1⟩ := hA
    have hw := wrap_i64 (n := (i : Int) + 1 + 1) (by omega) (by omega)
    have hw2 := wrap_i64 (n := (i : Int) + 1 - 1) (by omega) (by omega)
    have ei : (i : Int) + 1 - 1 = i := by omega
    rw [ei] at hw2
    by_cases hlt : i + 1 < ks.length
    · have hg : (tDs ks)[i + 1]? = some (.ref [ensD false ks[i + 1].es, ksD false ks[i + 1].ks, bytesD ks[i + 1].low]) := by rw [tDs_map, List.getElem?_map, List.getElem?_eq_getElem hlt, ← tD_eq]; rfl
      have hgg := fun h => get_of hg h
      obtain ⟨u, hu⟩ : ∃ u, ks[i + 1] = u := ⟨_, rfl⟩
      rw [hu] at hg
      simp only [hu] at hgg
      by_cases c : cmpL u.low k ≤ 0
      · repeat' first
          | refine jw_ret (hQ _ _ (.inr rfl) ⟨5, _, _, rfl, rfl, ?_⟩)
          | refine jw_ret (hQ _ _ (.inr rfl) ⟨_, rfl, ?_⟩)
          | refine jw_seq_k fun K hK => ?_
          | refine jw_block ?_
          | ((first | refine jw_skip ?_ | refine jw_exit ?_); try simp)
          | (refine jw_cond rfl (fun hc => ?_) (fun hc => ?_) <;> (try simp at hc) <;> (try (exfalso; first | omega | exact absurd hc (by assumption))))
          | ((first | refine jw_c ?_ | refine jw_draw_j mixed (by kernel_rfl) ?_ | (refine jl_call (f := 38) rfl rfl rfl rfl rfl (cmpBF _ _) (by simp [BelL, Bel]) ?_; rintro r rfl) | refine jd_call (f := 38) rfl rfl rfl rfl rfl (cmpBF _ _) (by simp [BelL, Bel]) ?_); simp (maxSteps := 1000000) [hlt, ksD, hg, hgg, hlen, hw, c, show (i : Int) + 1 < ks.length by omega])
          | (first | (apply hK; clear hK) | (clear hK; apply hK; clear hK) | (clear hK; clear hK; apply hK; clear hK) | (clear hK; clear hK; clear hK; apply hK; clear hK))
          | exact hQ _ _ (.inl rfl) ⟨5, _, _, rfl, rfl, rfl⟩
          | refine hQ _ _ (.inl rfl) ⟨5, _, _, rfl, rfl, ?_⟩
          | refine hQ _ _ (.inl rfl) ⟨_, rfl, ?_⟩
          | ((first | refine jd_newc rfl rfl (by simp) ?_ | refine okN_or ?_); simp (maxSteps := 1000000) [thD, thL, hlt, ksD, hg, hgg, hlen, hw, c, show (i : Int) + 1 < ks.length by omega])
          | ((first | refine okC_guard (fun hc => ?_) (fun hc => ?_) | refine okJ_guard (fun hc => ?_) (fun hc => ?_)) <;> (first | have hd := of_decide_eq_true hc | have hd := of_decide_eq_false hc | have hd := hc) <;> simp (maxSteps := 1000000) [hc, hd, hlt, ksD, hg, hgg, hlen, hw, c, show (i : Int) + 1 < ks.length by omega] <;> (try simp at hc) <;> (try (exfalso; first | omega | exact absurd hc (by assumption))))
          | (refine And.intro (by first | assumption | omega | (simp [BelL, Bel]; done) | (simp; omega)) ?_; try simp (maxSteps := 1000000) [hlt, ksD, hg, hgg, hlen, hw, c, show (i : Int) + 1 < ks.length by omega])
          | (refine okC_or ?_; simp (maxSteps := 1000000) [hlt, ksD, hg, hgg, hlen, hw, c, show (i : Int) + 1 < ks.length by omega])
        refine hKA (ks.length - (i + 1)) _ ⟨[.ref [ensD false t.es, ksD false ks, bytesD t.low], bytesD k, .any, .any, .any, .int .i64 (((i + 1) + 1 : Nat) : Int)] ++ List.replicate 26 .any, []⟩ (by omega) (view_takeE (sl := [.ref [ensD false t.es, ksD false ks, bytesD t.low], bytesD k, .any, .any, .any, .int .i64 (((i + 1) + 1 : Nat) : Int)] ++ List.replicate 26 .any) (σ0 := []) 0 (by simp [ksD]) (by first | omega | simp) (by first | omega | (simp [ksD]; done) | (simp [ksD]; omega)) (by first | exact LewS.refl _ | simp [ksD]) (by simp [BelL, Bel, ksD]) (by simp [BelS, BelOb, BelL, Bel, ksD])) ⟨(i + 1), ?_, rfl, rfl⟩
        refine ⟨hlt, fun x hx hy => ?_⟩
        by_cases e : x = i
        · subst e; rw [hu]; exact c
        · exact h1 x (by omega) hy
      · rw [way_at hi h1 (fun _ => by rw [hu]; exact c)] at hQ
        repeat' first
          | refine jw_seq_k fun K hK => ?_
          | refine jw_block ?_
          | ((first | refine jw_skip ?_ | refine jw_exit ?_); try simp)
          | (refine jw_cond rfl (fun hc => ?_) (fun hc => ?_) <;> (try simp at hc) <;> (try (exfalso; first | omega | exact absurd hc (by assumption))))
          | ((first | refine jw_c ?_ | refine jw_draw_j mixed (by kernel_rfl) ?_ | (refine jl_call (f := 38) rfl rfl rfl rfl rfl (cmpBF _ _) (by simp [BelL, Bel]) ?_; rintro r rfl) | refine jd_call (f := 38) rfl rfl rfl rfl rfl (cmpBF _ _) (by simp [BelL, Bel]) ?_); simp (maxSteps := 1000000) [hlt, ksD, hg, hgg, hlen, hw2, ei, c, show (i : Int) + 1 < ks.length by omega])
          | (first | (apply hK; clear hK) | (clear hK; apply hK; clear hK) | (clear hK; clear hK; apply hK; clear hK) | (clear hK; clear hK; clear hK; apply hK; clear hK))
          | ((first | refine jw_ret (hQ _ _ (.inr rfl) (ret_ok 0 ?_ (by first | omega | simp))) | refine hQ _ _ (.inl rfl) (ret_ok 0 ?_ (by first | omega | simp))); simp (maxSteps := 1000000) [okRet, BelL, Bel, BelS, BelOb, hlt, ksD, hg, hgg, hlen, hw2, ei, c, show (i : Int) + 1 < ks.length by omega])
          | ((first | refine jd_newc rfl rfl (by simp) ?_ | refine okN_or ?_); simp (maxSteps := 1000000) [thD, thL, hlt, ksD, hg, hgg, hlen, hw2, ei, c, show (i : Int) + 1 < ks.length by omega])
          | ((first | refine okC_guard (fun hc => ?_) (fun hc => ?_) | refine okJ_guard (fun hc => ?_) (fun hc => ?_)) <;> (first | have hd := of_decide_eq_true hc | have hd := of_decide_eq_false hc | have hd := hc) <;> simp (maxSteps := 1000000) [hc, hd, hlt, ksD, hg, hgg, hlen, hw2, ei, c, show (i : Int) + 1 < ks.length by omega] <;> (try simp at hc) <;> (try (exfalso; first | omega | exact absurd hc (by assumption))))
          | (refine And.intro (by first | assumption | omega | (simp [BelL, Bel]; done) | (simp; omega)) ?_; try simp (maxSteps := 1000000) [hlt, ksD, hg, hgg, hlen, hw2, ei, c, show (i : Int) + 1 < ks.length by omega])
          | (refine okC_or ?_; simp (maxSteps := 1000000) [hlt, ksD, hg, hgg, hlen, hw2, ei, c, show (i : Int) + 1 < ks.length by omega])
    · rw [way_at hi h1 (fun h => absurd h hlt)] at hQ
      repeat' first
        | refine jw_seq_k fun K hK => ?_
        | refine jw_block ?_
        | ((first | refine jw_skip ?_ | refine jw_exit ?_); try simp)
        | (refine jw_cond rfl (fun hc => ?_) (fun hc => ?_) <;> (try simp at hc) <;> (try (exfalso; first | omega | exact absurd hc (by assumption))))
        | ((first | refine jw_c ?_ | refine jw_draw_j mixed (by kernel_rfl) ?_); simp (maxSteps := 1000000) [hlt, ksD, hlen, hw2, ei, show ¬ (i : Int) + 1 < ks.length by omega])
        | (first | (apply hK; clear hK) | (clear hK; apply hK; clear hK) | (clear hK; clear hK; apply hK; clear hK) | (clear hK; clear hK; clear hK; apply hK; clear hK))
        | ((first | refine jw_ret (hQ _ _ (.inr rfl) (ret_ok 0 ?_ (by first | omega | simp))) | refine hQ _ _ (.inl rfl) (ret_ok 0 ?_ (by first | omega | simp))); simp (maxSteps := 1000000) [okRet, BelL, Bel, BelS, BelOb, hlt, ksD, hlen, hw2, ei, show ¬ (i : Int) + 1 < ks.length by omega])
        | ((first | refine jd_newc rfl rfl (by simp) ?_ | refine okN_or ?_); simp (maxSteps := 1000000) [thD, thL, hlt, ksD, hlen, hw2, ei, show ¬ (i : Int) + 1 < ks.length by omega])
        | ((first | refine okC_guard (fun hc => ?_) (fun hc => ?_) | refine okJ_guard (fun hc => ?_) (fun hc => ?_)) <;> (first | have hd := of_decide_eq_true hc | have hd := of_decide_eq_false hc | have hd := hc) <;> simp (maxSteps := 1000000) [hc, hd, hlt, ksD, hlen, hw2, ei, show ¬ (i : Int) + 1 < ks.length by omega] <;> (try simp at hc) <;> (try (exfalso; first | omega | exact absurd hc (by assumption))))
        | (refine And.intro (by first | assumption | omega | (simp [BelL, Bel]; done) | (simp; omega)) ?_; try simp (maxSteps := 1000000) [hlt, ksD, hlen, hw2, ei, show ¬ (i : Int) + 1 < ks.length by omega])
        | (refine okC_or ?_; simp (maxSteps := 1000000) [hlt, ksD, hlen, hw2, ei, show ¬ (i : Int) + 1 < ks.length by omega])
  · exact ⟨hpos, fun x hx => by omega⟩
end Go.Proofs.Ytibcjkklgifgmaa
