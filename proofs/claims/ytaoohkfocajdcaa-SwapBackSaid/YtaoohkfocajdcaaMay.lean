/- May: of a layout that is one, it says so. -/
import Derived.Test.YtaoohkfocajdcaaLay
set_option linter.unusedVariables false
set_option linter.unusedSimpArgs false
set_option maxRecDepth 20000
set_option maxHeartbeats 20000000
namespace Go.Proofs.Ytaoohkfocajdcaa
open Go Go.Vm Go.Proofs

/-- The bits of what was seen. -/
def Seen (n : Fin 64) (L : List Int) : Prop := ∀ u : Fin 6, n.val.testBit u.val = true ↔ (u.val : Int) ∈ L

theorem seen_bit : ∀ (n : Fin 64) (k : Fin 6), bits BinOp.and IntKind.i64 ((n.val : Int).fdiv (2 ^ min k.val IntKind.i64.bits)) 1 = if n.val.testBit k.val then 1 else 0 := by decide
theorem seen_or : ∀ (n : Fin 64) (k : Fin 6), bits BinOp.or IntKind.i64 (n.val : Int) (IntKind.i64.wrap (2 ^ min k.val IntKind.i64.bits)) = ((⟨(n.val ||| 2 ^ k.val) % 64, Nat.mod_lt _ (by decide)⟩ : Fin 64).val : Int) := by decide
theorem seen_set : ∀ (n : Fin 64) (k u : Fin 6), ((⟨(n.val ||| 2 ^ k.val) % 64, Nat.mod_lt _ (by decide)⟩ : Fin 64).val).testBit u.val = (n.val.testBit u.val || decide (u.val = k.val)) := by decide
theorem not_ahead {L : List Int} (h : L.Nodup) {g : Nat} {u : Int} (hu : L[g]? = some u) : u ∉ L.take g := by
  obtain ⟨hg, rfl⟩ := List.getElem?_eq_some_iff.1 hu
  have := h.sublist (List.take_sublist (g + 1) L)
  rw [List.take_succ_eq_append_getElem hg, List.nodup_append] at this
  exact fun hm => this.2.2 _ hm _ (List.mem_singleton.2 rfl) rfl

theorem seen_step {L : List Int} {g : Nat} {n : Fin 64} {u : Int} (hs : Seen n (L.take g)) (hu : L[g]? = some u) (hb : 0 ≤ u ∧ u < 6) : ∃ m : Fin 64, Seen m (L.take (g + 1)) ∧ bits BinOp.or IntKind.i64 (n.val : Int) (IntKind.i64.wrap (2 ^ min u.toNat IntKind.i64.bits)) = (m.val : Int) := by
  obtain ⟨k, hk⟩ : ∃ k : Fin 6, u.toNat = k.val := ⟨⟨u.toNat, by omega⟩, rfl⟩
  rw [hk]
  refine ⟨_, fun v => ?_, seen_or n k⟩
  obtain ⟨hg, hu⟩ := List.getElem?_eq_some_iff.1 hu
  rw [seen_set, List.take_succ_eq_append_getElem hg, List.mem_append, hu, List.mem_singleton, Bool.or_eq_true, hs v, decide_eq_true_eq]
  constructor
  · rintro (h | h)
    · exact .inl h
    · exact .inr (by omega)
  · rintro (h | h)
    · exact .inl h
    · exact .inr (by omega)
theorem seen_not {L : List Int} (hn : L.Nodup) {g : Nat} {n : Fin 64} {u : Int} (hs : Seen n (L.take g)) (hu : L[g]? = some u) (hb : 0 ≤ u ∧ u < 6) (hc : bits BinOp.and IntKind.i64 ((n.val : Int).fdiv (2 ^ min u.toNat IntKind.i64.bits)) 1 = 1) : False := by
  obtain ⟨k, hk⟩ : ∃ k : Fin 6, u.toNat = k.val := ⟨⟨u.toNat, by omega⟩, rfl⟩
  rw [hk, seen_bit] at hc
  split at hc
  · rename_i hbit
    have := (hs k).1 hbit
    rw [← hk, Int.toNat_of_nonneg hb.1] at this
    exact not_ahead hn hu this
  · cases hc

theorem mayF {G : Globals} (e : Int) (cs : List (List Int)) (h : LayOk e cs) : FV Try.prog G 11 [layD e cs] (fun r => r = .bool true) := by
  obtain ⟨h0, h1, h2, h3, h4, h5, h6⟩ := h
  refine fv_enter Try.func11 rfl rfl fun Q hQ => ?_
  repeat' first
    | refine jw_ret (hQ _ _ (.inr rfl) ⟨5, _, _, rfl, rfl, ?_⟩)
    | refine jw_ret (hQ _ _ (.inr rfl) ⟨_, rfl, ?_⟩)
    | (refine jw_ret (hQ _ _ (.inr rfl) (res_ok 9 ?_)); simp (maxSteps := 1000000) [okRes, -List.mapM_map, -List.mapM_append, Try.f11, layD, chainsD, h0, h1, h2, h3])
    | refine jw_seq_k fun K hK => ?_
    | refine jw_block ?_
    | (refine jw_skip ?_; try simp)
    | (refine jw_exit ?_; try simp)
    | (refine jw_cond rfl (fun hc => ?_) (fun hc => ?_) <;> (try simp at hc) <;> (try (exfalso; first | omega | exact absurd hc (by assumption))))
    | (refine jw_c ?_; simp (maxSteps := 1000000) [Try.f11, layD, chainsD, h0, h1, h2, h3])
    | (refine jw_draw_j mixed (by kernel_rfl) ?_; simp (maxSteps := 1000000) [Try.f11, layD, chainsD, h0, h1, h2, h3])
    | (first | (apply hK; clear hK) | (clear hK; apply hK; clear hK) | (clear hK; clear hK; apply hK; clear hK) | (clear hK; clear hK; clear hK; apply hK; clear hK))
    | exact hQ _ _ (.inl rfl) ⟨5, _, _, rfl, rfl, rfl⟩
    | refine hQ _ _ (.inl rfl) ⟨5, _, _, rfl, rfl, ?_⟩
    | refine hQ _ _ (.inl rfl) ⟨_, rfl, ?_⟩
    | (refine hQ _ _ (.inl rfl) (res_ok 9 ?_); simp (maxSteps := 1000000) [okRes, -List.mapM_map, -List.mapM_append, Try.f11, layD, chainsD, h0, h1, h2, h3])
    | (refine jd_newc rfl rfl (by simp) ?_; simp (maxSteps := 1000000) [thD, thL, Try.f11, layD, chainsD, h0, h1, h2, h3])
    | (refine okN_or ?_; simp (maxSteps := 1000000) [thD, thL, Try.f11, layD, chainsD, h0, h1, h2, h3])
    | (refine okC_guard (fun hc => ?_) (fun hc => ?_) <;> (first | simp (maxSteps := 1000000) [hc, of_decide_eq_true hc, Try.f11, layD, chainsD, h0, h1, h2, h3] | simp (maxSteps := 1000000) [hc, of_decide_eq_false hc, Try.f11, layD, chainsD, h0, h1, h2, h3] | simp (maxSteps := 1000000) [hc, Try.f11, layD, chainsD, h0, h1, h2, h3]) <;> (try simp at hc) <;> (try (exfalso; first | omega | exact absurd hc (by assumption))))
    | (refine okJ_guard (fun hc => ?_) (fun hc => ?_) <;> (first | simp (maxSteps := 1000000) [hc, of_decide_eq_true hc, Try.f11, layD, chainsD, h0, h1, h2, h3] | simp (maxSteps := 1000000) [hc, of_decide_eq_false hc, Try.f11, layD, chainsD, h0, h1, h2, h3] | simp (maxSteps := 1000000) [hc, Try.f11, layD, chainsD, h0, h1, h2, h3]) <;> (try simp at hc) <;> (try (exfalso; first | omega | exact absurd hc (by assumption))))
    | (refine And.intro (by first | assumption | omega | (simp [BelL, Bel]; done) | (simp; omega)) ?_; try simp (maxSteps := 1000000) [Try.f11, layD, chainsD, h0, h1, h2, h3])
    | (refine okC_or ?_; simp (maxSteps := 1000000) [Try.f11, layD, chainsD, h0, h1, h2, h3])
  (repeat refine jw_seq_k fun K hK => ?_); refine jw_loop_k (fun m z => ∃ (i : Nat), i ≤ cs.length ∧ cs.length - i = m ∧ z = ⟨[.any, .ptr 0 2 0, .ptr 1 1 0] ++ List.replicate 25 .any ++ [.sl false (cs.map intsD) cs.length, .int .i64 cs.length, .int .i64 i] ++ List.replicate 32 .any, [some (.c [.int .i64 e, .sl false (cs.map intsD) cs.length]), some (.c [.bool false])]⟩)
    (sl := [.any, .ptr 0 2 0, .ptr 1 1 0] ++ List.replicate 25 .any ++ [.sl false (cs.map intsD) cs.length, .int .i64 cs.length, .int .i64 (0 : Nat)] ++ List.replicate 32 .any) (by simp) ⟨0, by omega, rfl, rfl⟩ ?_
  rintro m z ⟨i, hi, rfl, rfl⟩ KL hKL
  have hw := wrap_i64 (n := (i : Int) + 1) (by omega) (by omega)
  by_cases hlt : i < cs.length
  · have hcl := h4 cs[i] (List.getElem_mem hlt)
    repeat' first
      | refine jw_ret (hQ _ _ (.inr rfl) ⟨5, _, _, rfl, rfl, ?_⟩)
      | refine jw_ret (hQ _ _ (.inr rfl) ⟨_, rfl, ?_⟩)
      | (refine jw_ret (hQ _ _ (.inr rfl) (res_ok 9 ?_)); simp (maxSteps := 1000000) [okRes, -List.mapM_map, -List.mapM_append, intsD, hw, hlt, hcl.1, hcl.2])
      | refine jw_seq_k fun K hK => ?_
      | refine jw_block ?_
      | (refine jw_skip ?_; try simp)
      | (refine jw_exit ?_; try simp)
      | (refine jw_cond rfl (fun hc => ?_) (fun hc => ?_) <;> (try simp at hc) <;> (try (exfalso; first | omega | exact absurd hc (by assumption))))
      | (refine jw_c ?_; simp (maxSteps := 1000000) [intsD, hw, hlt, hcl.1, hcl.2])
      | (refine jw_draw_j mixed (by kernel_rfl) ?_; simp (maxSteps := 1000000) [intsD, hw, hlt, hcl.1, hcl.2])
      | (first | (apply hK; clear hK) | (clear hK; apply hK; clear hK) | (clear hK; clear hK; apply hK; clear hK) | (clear hK; clear hK; clear hK; apply hK; clear hK))
      | exact hQ _ _ (.inl rfl) ⟨5, _, _, rfl, rfl, rfl⟩
      | refine hQ _ _ (.inl rfl) ⟨5, _, _, rfl, rfl, ?_⟩
      | refine hQ _ _ (.inl rfl) ⟨_, rfl, ?_⟩
      | (refine hQ _ _ (.inl rfl) (res_ok 9 ?_); simp (maxSteps := 1000000) [okRes, -List.mapM_map, -List.mapM_append, intsD, hw, hlt, hcl.1, hcl.2])
      | (refine jd_newc rfl rfl (by simp) ?_; simp (maxSteps := 1000000) [thD, thL, intsD, hw, hlt, hcl.1, hcl.2])
      | (refine okN_or ?_; simp (maxSteps := 1000000) [thD, thL, intsD, hw, hlt, hcl.1, hcl.2])
      | (refine okC_guard (fun hc => ?_) (fun hc => ?_) <;> (first | simp (maxSteps := 1000000) [hc, of_decide_eq_true hc, intsD, hw, hlt, hcl.1, hcl.2] | simp (maxSteps := 1000000) [hc, of_decide_eq_false hc, intsD, hw, hlt, hcl.1, hcl.2] | simp (maxSteps := 1000000) [hc, intsD, hw, hlt, hcl.1, hcl.2]) <;> (try simp at hc) <;> (try (exfalso; first | omega | exact absurd hc (by assumption))))
      | (refine okJ_guard (fun hc => ?_) (fun hc => ?_) <;> (first | simp (maxSteps := 1000000) [hc, of_decide_eq_true hc, intsD, hw, hlt, hcl.1, hcl.2] | simp (maxSteps := 1000000) [hc, of_decide_eq_false hc, intsD, hw, hlt, hcl.1, hcl.2] | simp (maxSteps := 1000000) [hc, intsD, hw, hlt, hcl.1, hcl.2]) <;> (try simp at hc) <;> (try (exfalso; first | omega | exact absurd hc (by assumption))))
      | (refine And.intro (by first | assumption | omega | (simp [BelL, Bel]; done) | (simp; omega)) ?_; try simp (maxSteps := 1000000) [intsD, hw, hlt, hcl.1, hcl.2])
      | (refine okC_or ?_; simp (maxSteps := 1000000) [intsD, hw, hlt, hcl.1, hcl.2])
    exact hKL (cs.length - (i + 1)) _ _ (by omega) (by simp) ⟨i + 1, by omega, rfl, rfl⟩
  · repeat' first
      | refine jw_ret (hQ _ _ (.inr rfl) ⟨5, _, _, rfl, rfl, ?_⟩)
      | refine jw_ret (hQ _ _ (.inr rfl) ⟨_, rfl, ?_⟩)
      | (refine jw_ret (hQ _ _ (.inr rfl) (res_ok 9 ?_)); simp (maxSteps := 1000000) [okRes, -List.mapM_map, -List.mapM_append, hlt])
      | refine jw_seq_k fun K hK => ?_
      | refine jw_block ?_
      | (refine jw_skip ?_; try simp)
      | (refine jw_exit ?_; try simp)
      | (refine jw_cond rfl (fun hc => ?_) (fun hc => ?_) <;> (try simp at hc) <;> (try (exfalso; first | omega | exact absurd hc (by assumption))))
      | (refine jw_c ?_; simp (maxSteps := 1000000) [hlt])
      | (refine jw_draw_j mixed (by kernel_rfl) ?_; simp (maxSteps := 1000000) [hlt])
      | (first | (apply hK; clear hK) | (clear hK; apply hK; clear hK) | (clear hK; clear hK; apply hK; clear hK) | (clear hK; clear hK; clear hK; apply hK; clear hK))
      | exact hQ _ _ (.inl rfl) ⟨5, _, _, rfl, rfl, rfl⟩
      | refine hQ _ _ (.inl rfl) ⟨5, _, _, rfl, rfl, ?_⟩
      | refine hQ _ _ (.inl rfl) ⟨_, rfl, ?_⟩
      | (refine hQ _ _ (.inl rfl) (res_ok 9 ?_); simp (maxSteps := 1000000) [okRes, -List.mapM_map, -List.mapM_append, hlt])
      | (refine jl_call (f := 15) rfl rfl rfl rfl rfl (unitsF e cs) (by simp [BelL, Bel]) ?_; rintro r rfl; simp (maxSteps := 1000000) [hlt])
      | (refine jd_call (f := 15) rfl rfl rfl rfl rfl (unitsF e cs) (by simp [BelL, Bel]) ?_; simp (maxSteps := 1000000) [hlt])
      | (refine jd_newc rfl rfl (by simp) ?_; simp (maxSteps := 1000000) [thD, thL, hlt])
      | (refine okN_or ?_; simp (maxSteps := 1000000) [thD, thL, hlt])
      | (refine okC_guard (fun hc => ?_) (fun hc => ?_) <;> (first | simp (maxSteps := 1000000) [hc, of_decide_eq_true hc, hlt] | simp (maxSteps := 1000000) [hc, of_decide_eq_false hc, hlt] | simp (maxSteps := 1000000) [hc, hlt]) <;> (try simp at hc) <;> (try (exfalso; first | omega | exact absurd hc (by assumption))))
      | (refine okJ_guard (fun hc => ?_) (fun hc => ?_) <;> (first | simp (maxSteps := 1000000) [hc, of_decide_eq_true hc, hlt] | simp (maxSteps := 1000000) [hc, of_decide_eq_false hc, hlt] | simp (maxSteps := 1000000) [hc, hlt]) <;> (try simp at hc) <;> (try (exfalso; first | omega | exact absurd hc (by assumption))))
      | (refine And.intro (by first | assumption | omega | (simp [BelL, Bel]; done) | (simp; omega)) ?_; try simp (maxSteps := 1000000) [hlt])
      | (refine okC_or ?_; simp (maxSteps := 1000000) [hlt])
    refine jw_each (unitsEach e cs (by omega) fun c hc => by have := h4 c hc; omega) rfl (fun r g σ => ∃ n : Fin 64, Seen n (cs.flatten.take g) ∧ σ = [some (.c [.int .i64 e, .sl false (cs.map intsD) cs.length]), some (.c [.bool false]), some (.c [.int .i64 (n.val : Int)]), r])
      (by rintro ds h; obtain ⟨u, _, rfl⟩ := List.mem_map.1 h; rfl) (by rintro r g σ ⟨n, _, rfl⟩; rfl) (by rintro r r' g σ ⟨n, hs, rfl⟩; exact ⟨n, hs, rfl⟩) (fun r => ⟨0, by simp [Seen], rfl⟩) ?_ ?_
    · rintro g ds σ r ⟨st, hst⟩ hds ⟨n, hs, rfl⟩
      simp only [List.getElem?_map, Option.map_eq_some_iff] at hds
      obtain ⟨u, hu, rfl⟩ := hds
      refine jw_c ?_
      simp [setL]
      rintro r σ st rfl n hs rfl
      have hin : u ∈ cs.flatten := List.mem_of_getElem? hu
      have hb := h5 u hin
      generalize Ob.lp _ _ _ _ _ _ = R
      repeat' first
        | refine jw_ret (hQ _ _ (.inr rfl) ⟨5, _, _, rfl, rfl, ?_⟩)
        | refine jw_ret (hQ _ _ (.inr rfl) ⟨_, rfl, ?_⟩)
        | (refine jw_ret (hQ _ _ (.inr rfl) (res_ok 9 ?_)); simp (maxSteps := 1000000) [okRes, -List.mapM_map, -List.mapM_append, hb.1])
        | refine jw_seq_k fun K hK => ?_
        | refine jw_block ?_
        | (refine jw_skip ?_; try simp)
        | (refine jw_exit ?_; try simp)
        | (refine jw_cond rfl (fun hc => ?_) (fun hc => ?_) <;> (try simp at hc) <;> (try (exfalso; first | omega | exact absurd hc (by assumption))))
        | (refine jw_c ?_; simp (maxSteps := 1000000) [hb.1])
        | (refine jw_reg_tail 4 mixed (by kernel_rfl) ?_; simp (maxSteps := 1000000) [hb.1])
        | (refine jw_draw_j mixed (by kernel_rfl) ?_; simp (maxSteps := 1000000) [hb.1])
        | (first | (apply hK; clear hK) | (clear hK; apply hK; clear hK) | (clear hK; clear hK; apply hK; clear hK) | (clear hK; clear hK; clear hK; apply hK; clear hK))
        | exact hQ _ _ (.inl rfl) ⟨5, _, _, rfl, rfl, rfl⟩
        | refine hQ _ _ (.inl rfl) ⟨5, _, _, rfl, rfl, ?_⟩
        | refine hQ _ _ (.inl rfl) ⟨_, rfl, ?_⟩
        | (refine hQ _ _ (.inl rfl) (res_ok 9 ?_); simp (maxSteps := 1000000) [okRes, -List.mapM_map, -List.mapM_append, hb.1])
        | (refine jd_newc rfl rfl (by simp) ?_; simp (maxSteps := 1000000) [thD, thL, hb.1])
        | (refine okN_or ?_; simp (maxSteps := 1000000) [thD, thL, hb.1])
        | (refine okC_guard (fun hc => ?_) (fun hc => ?_) <;> (first | simp (maxSteps := 1000000) [hc, of_decide_eq_true hc, hb.1] | simp (maxSteps := 1000000) [hc, of_decide_eq_false hc, hb.1] | simp (maxSteps := 1000000) [hc, hb.1]) <;> (try simp at hc) <;> (try (exfalso; first | omega | exact absurd hc (by assumption))))
        | (refine okJ_guard (fun hc => ?_) (fun hc => ?_) <;> (first | simp (maxSteps := 1000000) [hc, of_decide_eq_true hc, hb.1] | simp (maxSteps := 1000000) [hc, of_decide_eq_false hc, hb.1] | simp (maxSteps := 1000000) [hc, hb.1]) <;> (try simp at hc) <;> (try (exfalso; first | omega | exact absurd hc (by assumption))))
        | (refine And.intro (by first | assumption | omega | (simp [BelL, Bel]; done) | (simp; omega)) ?_; try simp (maxSteps := 1000000) [hb.1])
        | (refine okC_or ?_; simp (maxSteps := 1000000) [hb.1])
      · exact (seen_not h6 hs hu hb (by assumption)).elim
      · refine ⟨_, .refl _, ?_⟩
        simp
        exact seen_step hs hu hb
    · rintro σ ⟨n, _, rfl⟩
      simp
      repeat' first
        | refine jw_ret (hQ _ _ (.inr rfl) ⟨5, _, _, rfl, rfl, ?_⟩)
        | refine jw_ret (hQ _ _ (.inr rfl) ⟨_, rfl, ?_⟩)
        | (refine jw_ret (hQ _ _ (.inr rfl) (res_ok 9 ?_)); simp (maxSteps := 1000000) [okRes, -List.mapM_map, -List.mapM_append])
        | refine jw_seq_k fun K hK => ?_
        | refine jw_block ?_
        | (refine jw_skip ?_; try simp)
        | (refine jw_exit ?_; try simp)
        | (refine jw_cond rfl (fun hc => ?_) (fun hc => ?_) <;> (try simp at hc) <;> (try (exfalso; first | omega | exact absurd hc (by assumption))))
        | (refine jw_c ?_; simp (maxSteps := 1000000))
        | (refine jw_draw_j mixed (by kernel_rfl) ?_; simp (maxSteps := 1000000))
        | (first | (apply hK; clear hK) | (clear hK; apply hK; clear hK) | (clear hK; clear hK; apply hK; clear hK) | (clear hK; clear hK; clear hK; apply hK; clear hK))
        | exact hQ _ _ (.inl rfl) ⟨5, _, _, rfl, rfl, rfl⟩
        | refine hQ _ _ (.inl rfl) ⟨5, _, _, rfl, rfl, ?_⟩
        | refine hQ _ _ (.inl rfl) ⟨_, rfl, ?_⟩
        | (refine hQ _ _ (.inl rfl) (res_ok 9 ?_); simp (maxSteps := 1000000) [okRes, -List.mapM_map, -List.mapM_append])
        | (refine jd_newc rfl rfl (by simp) ?_; simp (maxSteps := 1000000) [thD, thL])
        | (refine okN_or ?_; simp (maxSteps := 1000000) [thD, thL])
        | (refine okC_guard (fun hc => ?_) (fun hc => ?_) <;> (first | simp (maxSteps := 1000000) [hc, of_decide_eq_true hc] | simp (maxSteps := 1000000) [hc, of_decide_eq_false hc] | simp (maxSteps := 1000000) [hc]) <;> (try simp at hc) <;> (try (exfalso; first | omega | exact absurd hc (by assumption))))
        | (refine okJ_guard (fun hc => ?_) (fun hc => ?_) <;> (first | simp (maxSteps := 1000000) [hc, of_decide_eq_true hc] | simp (maxSteps := 1000000) [hc, of_decide_eq_false hc] | simp (maxSteps := 1000000) [hc]) <;> (try simp at hc) <;> (try (exfalso; first | omega | exact absurd hc (by assumption))))
        | (refine And.intro (by first | assumption | omega | (simp [BelL, Bel]; done) | (simp; omega)) ?_; try simp (maxSteps := 1000000))
        | (refine okC_or ?_; simp (maxSteps := 1000000))
      rfl
end Go.Proofs.Ytaoohkfocajdcaa
