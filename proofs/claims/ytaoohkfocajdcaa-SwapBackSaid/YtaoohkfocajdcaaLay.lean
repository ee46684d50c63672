/- Layouts: what is read, the iterator over all units. -/
import Derived.Test.YtaoohkfocajdcaaVmFacts
import Derived.Test.YtaoohkfocajdcaaVmEach
set_option linter.unusedVariables false
set_option linter.unusedSimpArgs false
set_option maxRecDepth 20000
set_option maxHeartbeats 20000000
namespace Go.Proofs.Ytaoohkfocajdcaa
open Go Go.Vm Go.Proofs

def intsD (c : List Int) : D := .sl false (c.map (D.int .i64)) c.length
def chainsD (cs : List (List Int)) : D := .sl false (cs.map intsD) cs.length
def layD (e : Int) (cs : List (List Int)) : D := .agg [.int .i64 e, chainsD cs]
def LayOk (e : Int) (cs : List (List Int)) : Prop := 0 ≤ e ∧ e ≤ 1000000 ∧ 1 ≤ cs.length ∧ cs.length ≤ 6 ∧ (∀ c ∈ cs, 1 ≤ c.length ∧ c.length ≤ 3) ∧ (∀ u ∈ cs.flatten, 0 ≤ u ∧ u < 6) ∧ cs.flatten.Nodup

@[simp] theorem bel_ints (n : Nat) (c : List Int) : Bel n (intsD c) := belL_int _ _ _
@[simp] theorem belL_chains (n : Nat) : ∀ cs : List (List Int), BelL n (cs.map intsD)
  | [] => trivial
  | c :: cs => ⟨bel_ints n c, belL_chains n cs⟩
@[simp] theorem bel_chains (n : Nat) (cs : List (List Int)) : Bel n (chainsD cs) := belL_chains n cs
@[simp] theorem bel_lay (n : Nat) (e : Int) (cs : List (List Int)) : Bel n (layD e cs) := ⟨trivial, bel_chains n cs, trivial⟩
theorem frz_ints (σ : Store) (n : Nat) (c : List Int) : frz σ (n + 1) (intsD c) = some (intsD c) := by simp only [intsD, frz, frzL_int]; rfl
theorem frz_chains (σ : Store) (n : Nat) (cs : List (List Int)) : frz σ (n + 2) (chainsD cs) = some (chainsD cs) := by
  have : (cs.map intsD).mapM (frz σ (n + 1)) = some (cs.map intsD) := frzL_bel fun d hd => by
    obtain ⟨c, _, rfl⟩ := List.mem_map.1 hd
    exact frz_ints σ n c
  simp only [chainsD, frz, this]
  rfl
/-- How many units stand ahead of chain i. -/
def pre (cs : List (List Int)) (i : Nat) : Nat := (cs.take i).flatten.length
theorem pre_succ {cs : List (List Int)} {i : Nat} (h : i < cs.length) : pre cs (i + 1) = pre cs i + cs[i].length := by
  unfold pre; rw [List.take_succ_eq_append_getElem h, List.flatten_append, List.length_append, List.flatten_singleton]
theorem pre_all {cs : List (List Int)} {i : Nat} (h : cs.length ≤ i) : pre cs i = cs.flatten.length := by unfold pre; rw [List.take_of_length_le h]
theorem at_pre {cs : List (List Int)} {i j : Nat} (h : i < cs.length) (hj : j < cs[i].length) : cs.flatten[pre cs i + j]? = some cs[i][j] := by
  have e : cs = cs.take i ++ cs[i] :: cs.drop (i + 1) := by rw [← List.drop_eq_getElem_cons h, List.take_append_drop]
  have : cs.flatten = (cs.take i).flatten ++ (cs[i] ++ (cs.drop (i + 1)).flatten) := by
    conv => lhs; rw [e]
    rw [List.flatten_append, List.flatten_cons]
  rw [this, List.getElem?_append_right (by unfold pre; omega)]
  rw [show pre cs i + j - (cs.take i).flatten.length = j by unfold pre; omega, List.getElem?_append_left hj, List.getElem?_eq_getElem hj]

theorem unitsF {G : Globals} (e : Int) (cs : List (List Int)) : FV Try.prog G 15 [layD e cs] (fun r => r = .fn (.func 20) [] [.ref [.int .i64 e, chainsD cs]]) := by
  refine fv_enter Try.func15 rfl rfl fun Q hQ => ?_
  ((repeat refine jw_seq_k fun K hK => ?_); refine jw_reg ?_; simp (maxSteps := 1000000) [Try.f15, layD]; (first | (apply hK; clear hK) | (clear hK; apply hK; clear hK) | (clear hK; clear hK; apply hK; clear hK) | (clear hK; clear hK; clear hK; apply hK; clear hK) | (clear hK; clear hK; clear hK; clear hK; apply hK; clear hK) | (clear hK; clear hK; clear hK; clear hK; clear hK; apply hK; clear hK) | (clear hK; clear hK; clear hK; clear hK; clear hK; clear hK; apply hK; clear hK)))
  ((repeat refine jw_seq_k fun K hK => ?_); refine jw_reg ?_; simp (maxSteps := 1000000); (first | (apply hK; clear hK) | (clear hK; apply hK; clear hK) | (clear hK; clear hK; apply hK; clear hK) | (clear hK; clear hK; clear hK; apply hK; clear hK) | (clear hK; clear hK; clear hK; clear hK; apply hK; clear hK) | (clear hK; clear hK; clear hK; clear hK; clear hK; apply hK; clear hK) | (clear hK; clear hK; clear hK; clear hK; clear hK; clear hK; apply hK; clear hK)))
  (repeat refine jw_seq_k fun K hK => ?_); refine jw_ret (hQ _ _ (.inr rfl) ⟨5, _, _, rfl, ?_, rfl⟩)
  simp [frz_chains]

/-- All units, one by one; none of the rounds ends the loop. -/
theorem unitsIt {G : Globals} (e : Int) (cs : List (List Int)) (hn : cs.length ≤ 1000) (hc : ∀ c ∈ cs, c.length ≤ 1000) (l : Nat) (I : Nat → Store → Prop) (hI : ∀ (g : Nat) (u : Int) (σ : Store), cs.flatten[g]? = some u → I g σ → YC Try.prog G l [.int .i64 u] σ (fun t σ' => t = true ∧ I (g + 1) σ')) (σ : Store) (h0 : I 0 σ) :
    FC Try.prog G 20 [.yl l, .ref [.int .i64 e, chainsD cs]] σ (fun _ σ' => I cs.flatten.length σ') := by
  refine fc_enter_k Try.func20 rfl rfl fun Q hQ => ?_
  repeat' first
    | refine jw_ret (hQ _ _ (.inr rfl) ⟨5, _, _, rfl, rfl, ?_⟩)
    | refine jw_ret (hQ _ _ (.inr rfl) ⟨_, rfl, ?_⟩)
    | (refine jw_ret (hQ _ _ (.inr rfl) (res_ok 9 ?_)); simp (maxSteps := 1000000) [okRes, -List.mapM_map, -List.mapM_append, Try.f20, chainsD])
    | refine jw_seq_k fun K hK => ?_
    | refine jw_block ?_
    | (refine jw_skip ?_; try simp)
    | (refine jw_exit ?_; try simp)
    | (refine jw_cond rfl (fun hc => ?_) (fun hc => ?_) <;> (try simp at hc) <;> (try (exfalso; first | omega | exact absurd hc (by assumption))))
    | (refine jw_c ?_; simp (maxSteps := 1000000) [Try.f20, chainsD])
    | (refine jw_draw_j mixed (by kernel_rfl) ?_; simp (maxSteps := 1000000) [Try.f20, chainsD])
    | (first | (apply hK; clear hK) | (clear hK; apply hK; clear hK) | (clear hK; clear hK; apply hK; clear hK) | (clear hK; clear hK; clear hK; apply hK; clear hK))
    | exact hQ _ _ (.inl rfl) ⟨5, _, _, rfl, rfl, rfl⟩
    | refine hQ _ _ (.inl rfl) ⟨5, _, _, rfl, rfl, ?_⟩
    | refine hQ _ _ (.inl rfl) ⟨_, rfl, ?_⟩
    | (refine hQ _ _ (.inl rfl) (res_ok 9 ?_); simp (maxSteps := 1000000) [okRes, -List.mapM_map, -List.mapM_append, Try.f20, chainsD])
    | (refine jd_newc rfl rfl (by simp) ?_; simp (maxSteps := 1000000) [thD, thL, Try.f20, chainsD])
    | (refine okN_or ?_; simp (maxSteps := 1000000) [thD, thL, Try.f20, chainsD])
    | (refine okC_guard (fun hc => ?_) (fun hc => ?_) <;> (first | simp (maxSteps := 1000000) [hc, of_decide_eq_true hc, Try.f20, chainsD] | simp (maxSteps := 1000000) [hc, of_decide_eq_false hc, Try.f20, chainsD] | simp (maxSteps := 1000000) [hc, Try.f20, chainsD]) <;> (try simp at hc) <;> (try (exfalso; first | omega | exact absurd hc (by assumption))))
    | (refine okJ_guard (fun hc => ?_) (fun hc => ?_) <;> (first | simp (maxSteps := 1000000) [hc, of_decide_eq_true hc, Try.f20, chainsD] | simp (maxSteps := 1000000) [hc, of_decide_eq_false hc, Try.f20, chainsD] | simp (maxSteps := 1000000) [hc, Try.f20, chainsD]) <;> (try simp at hc) <;> (try (exfalso; first | omega | exact absurd hc (by assumption))))
    | (refine And.intro (by first | assumption | omega | (simp [BelL, Bel]; done) | (simp; omega)) ?_; try simp (maxSteps := 1000000) [Try.f20, chainsD])
    | (refine okC_or ?_; simp (maxSteps := 1000000) [Try.f20, chainsD])
  (repeat refine jw_seq_k fun K hK => ?_); refine jw_loop_k (fun m z => ∃ (i : Nat) (g : Store), i ≤ cs.length ∧ cs.length - i = m ∧ I (pre cs i) g ∧ z = ⟨[.yl l, .any, .any, .any, .any, .any, .any, .any, .sl false (cs.map intsD) cs.length, .int .i64 cs.length, .int .i64 i] ++ List.replicate 15 .any, g⟩)
    (sl := [.yl l, .any, .any, .any, .any, .any, .any, .any, .sl false (cs.map intsD) cs.length, .int .i64 cs.length, .int .i64 (0 : Nat)] ++ List.replicate 15 .any) (by simp) ⟨0, σ, by omega, rfl, by simpa [pre] using h0, by simp⟩ ?_
  rintro m z ⟨i, g, hi, rfl, hg, rfl⟩ KL hKL
  have hw := wrap_i64 (n := (i : Int) + 1) (by omega) (by omega)
  by_cases hlt : i < cs.length
  · have hcl := hc cs[i] (List.getElem_mem hlt)
    have hpre := pre_succ hlt
    repeat' first
      | refine jw_ret (hQ _ _ (.inr rfl) ⟨5, _, _, rfl, rfl, ?_⟩)
      | refine jw_ret (hQ _ _ (.inr rfl) ⟨_, rfl, ?_⟩)
      | (refine jw_ret (hQ _ _ (.inr rfl) (res_ok 9 ?_)); simp (maxSteps := 1000000) [okRes, -List.mapM_map, -List.mapM_append, intsD, hw, hlt])
      | refine jw_seq_k fun K hK => ?_
      | refine jw_block ?_
      | (refine jw_skip ?_; try simp)
      | (refine jw_exit ?_; try simp)
      | (refine jw_cond rfl (fun hc => ?_) (fun hc => ?_) <;> (try simp at hc) <;> (try (exfalso; first | omega | exact absurd hc (by assumption))))
      | (refine jw_c ?_; simp (maxSteps := 1000000) [intsD, hw, hlt])
      | (refine jw_draw_j mixed (by kernel_rfl) ?_; simp (maxSteps := 1000000) [intsD, hw, hlt])
      | (first | (apply hK; clear hK) | (clear hK; apply hK; clear hK) | (clear hK; clear hK; apply hK; clear hK) | (clear hK; clear hK; clear hK; apply hK; clear hK))
      | exact hQ _ _ (.inl rfl) ⟨5, _, _, rfl, rfl, rfl⟩
      | refine hQ _ _ (.inl rfl) ⟨5, _, _, rfl, rfl, ?_⟩
      | refine hQ _ _ (.inl rfl) ⟨_, rfl, ?_⟩
      | (refine hQ _ _ (.inl rfl) (res_ok 9 ?_); simp (maxSteps := 1000000) [okRes, -List.mapM_map, -List.mapM_append, intsD, hw, hlt])
      | (refine jd_newc rfl rfl (by simp) ?_; simp (maxSteps := 1000000) [thD, thL, intsD, hw, hlt])
      | (refine okN_or ?_; simp (maxSteps := 1000000) [thD, thL, intsD, hw, hlt])
      | (refine okC_guard (fun hc => ?_) (fun hc => ?_) <;> (first | simp (maxSteps := 1000000) [hc, of_decide_eq_true hc, intsD, hw, hlt] | simp (maxSteps := 1000000) [hc, of_decide_eq_false hc, intsD, hw, hlt] | simp (maxSteps := 1000000) [hc, intsD, hw, hlt]) <;> (try simp at hc) <;> (try (exfalso; first | omega | exact absurd hc (by assumption))))
      | (refine okJ_guard (fun hc => ?_) (fun hc => ?_) <;> (first | simp (maxSteps := 1000000) [hc, of_decide_eq_true hc, intsD, hw, hlt] | simp (maxSteps := 1000000) [hc, of_decide_eq_false hc, intsD, hw, hlt] | simp (maxSteps := 1000000) [hc, intsD, hw, hlt]) <;> (try simp at hc) <;> (try (exfalso; first | omega | exact absurd hc (by assumption))))
      | (refine And.intro (by first | assumption | omega | (simp [BelL, Bel]; done) | (simp; omega)) ?_; try simp (maxSteps := 1000000) [intsD, hw, hlt])
      | (refine okC_or ?_; simp (maxSteps := 1000000) [intsD, hw, hlt])
    (repeat refine jw_seq_k fun K hK => ?_); refine jw_loop_k (fun m z => ∃ (j : Nat) (g : Store), j ≤ cs[i].length ∧ cs[i].length - j = m ∧ I (pre cs i + j) g ∧ z = ⟨[.yl l, .any, .any, .any, .any, .any, .any, .any, .sl false (cs.map intsD) cs.length, .int .i64 cs.length, .int .i64 i, .any, .any, .any, intsD cs[i], .int .i64 cs[i].length, .int .i64 j] ++ List.replicate 9 .any, g⟩)
      (sl := [.yl l, .any, .any, .any, .any, .any, .any, .any, .sl false (cs.map intsD) cs.length, .int .i64 cs.length, .int .i64 i, .any, .any, .any, intsD cs[i], .int .i64 cs[i].length, .int .i64 (0 : Nat)] ++ List.replicate 9 .any) (by simp [intsD]) ⟨0, g, by omega, rfl, by simpa using hg, by simp⟩ ?_
    rintro m z ⟨j, g, hj, rfl, hg, rfl⟩ KL2 hKL2
    have hw2 := wrap_i64 (n := (j : Int) + 1) (by omega) (by omega)
    by_cases hlt2 : j < cs[i].length
    · have hat := at_pre hlt hlt2
      repeat' first
        | refine jw_ret (hQ _ _ (.inr rfl) ⟨5, _, _, rfl, rfl, ?_⟩)
        | refine jw_ret (hQ _ _ (.inr rfl) ⟨_, rfl, ?_⟩)
        | (refine jw_ret (hQ _ _ (.inr rfl) (res_ok 9 ?_)); simp (maxSteps := 1000000) [okRes, -List.mapM_map, -List.mapM_append, intsD, hw2, hlt2])
        | refine jw_seq_k fun K hK => ?_
        | refine jw_block ?_
        | (refine jw_skip ?_; try simp)
        | (refine jw_exit ?_; try simp)
        | (refine jw_cond rfl (fun hc => ?_) (fun hc => ?_) <;> (try simp at hc) <;> (try (exfalso; first | omega | exact absurd hc (by assumption))))
        | (refine jw_ci ?_; simp (maxSteps := 1000000) [intsD, hw2, hlt2])
        | (refine jw_draw_j mixed (by kernel_rfl) ?_; simp (maxSteps := 1000000) [intsD, hw2, hlt2])
        | (first | (apply hK; clear hK) | (clear hK; apply hK; clear hK) | (clear hK; clear hK; apply hK; clear hK) | (clear hK; clear hK; clear hK; apply hK; clear hK))
        | exact hQ _ _ (.inl rfl) ⟨5, _, _, rfl, rfl, rfl⟩
        | refine hQ _ _ (.inl rfl) ⟨5, _, _, rfl, rfl, ?_⟩
        | refine hQ _ _ (.inl rfl) ⟨_, rfl, ?_⟩
        | (refine hQ _ _ (.inl rfl) (res_ok 9 ?_); simp (maxSteps := 1000000) [okRes, -List.mapM_map, -List.mapM_append, intsD, hw2, hlt2])
        | (refine jli_yield rfl rfl rfl rfl rfl (hI _ _ _ hat hg) ?_; rintro t σ' ⟨rfl, hI2⟩; simp (maxSteps := 1000000) [intsD, hw2, hlt2])
        | (refine jd_newc rfl rfl (by simp) ?_; simp (maxSteps := 1000000) [thD, thL, intsD, hw2, hlt2])
        | (refine okN_or ?_; simp (maxSteps := 1000000) [thD, thL, intsD, hw2, hlt2])
        | (refine okI_guard (fun hc => ?_) (fun hc => ?_) <;> (first | simp (maxSteps := 1000000) [hc, of_decide_eq_true hc, intsD, hw2, hlt2] | simp (maxSteps := 1000000) [hc, of_decide_eq_false hc, intsD, hw2, hlt2] | simp (maxSteps := 1000000) [hc, intsD, hw2, hlt2]) <;> (try simp at hc) <;> (try (exfalso; first | omega | exact absurd hc (by assumption))))
        | (refine okJ_guard (fun hc => ?_) (fun hc => ?_) <;> (first | simp (maxSteps := 1000000) [hc, of_decide_eq_true hc, intsD, hw2, hlt2] | simp (maxSteps := 1000000) [hc, of_decide_eq_false hc, intsD, hw2, hlt2] | simp (maxSteps := 1000000) [hc, intsD, hw2, hlt2]) <;> (try simp at hc) <;> (try (exfalso; first | omega | exact absurd hc (by assumption))))
        | (refine And.intro (by first | assumption | omega | (simp [BelL, Bel]; done) | (simp; omega)) ?_; try simp (maxSteps := 1000000) [intsD, hw2, hlt2])
      exact hKL2 (cs[i].length - (j + 1)) _ _ (by omega) (by simp [intsD]) ⟨j + 1, _, by omega, rfl, hI2, rfl⟩
    · repeat' first
        | refine jw_ret (hQ _ _ (.inr rfl) ⟨5, _, _, rfl, rfl, ?_⟩)
        | refine jw_ret (hQ _ _ (.inr rfl) ⟨_, rfl, ?_⟩)
        | (refine jw_ret (hQ _ _ (.inr rfl) (res_ok 9 ?_)); simp (maxSteps := 1000000) [okRes, -List.mapM_map, -List.mapM_append, intsD, hw, hlt2])
        | refine jw_seq_k fun K hK => ?_
        | refine jw_block ?_
        | (refine jw_skip ?_; try simp)
        | (refine jw_exit ?_; try simp)
        | (refine jw_cond rfl (fun hc => ?_) (fun hc => ?_) <;> (try simp at hc) <;> (try (exfalso; first | omega | exact absurd hc (by assumption))))
        | (refine jw_c ?_; simp (maxSteps := 1000000) [intsD, hw, hlt2])
        | (refine jw_draw_j mixed (by kernel_rfl) ?_; simp (maxSteps := 1000000) [intsD, hw, hlt2])
        | (first | (apply hK; clear hK) | (clear hK; apply hK; clear hK) | (clear hK; clear hK; apply hK; clear hK) | (clear hK; clear hK; clear hK; apply hK; clear hK))
        | exact hQ _ _ (.inl rfl) ⟨5, _, _, rfl, rfl, rfl⟩
        | refine hQ _ _ (.inl rfl) ⟨5, _, _, rfl, rfl, ?_⟩
        | refine hQ _ _ (.inl rfl) ⟨_, rfl, ?_⟩
        | (refine hQ _ _ (.inl rfl) (res_ok 9 ?_); simp (maxSteps := 1000000) [okRes, -List.mapM_map, -List.mapM_append, intsD, hw, hlt2])
        | (refine jd_newc rfl rfl (by simp) ?_; simp (maxSteps := 1000000) [thD, thL, intsD, hw, hlt2])
        | (refine okN_or ?_; simp (maxSteps := 1000000) [thD, thL, intsD, hw, hlt2])
        | (refine okC_guard (fun hc => ?_) (fun hc => ?_) <;> (first | simp (maxSteps := 1000000) [hc, of_decide_eq_true hc, intsD, hw, hlt2] | simp (maxSteps := 1000000) [hc, of_decide_eq_false hc, intsD, hw, hlt2] | simp (maxSteps := 1000000) [hc, intsD, hw, hlt2]) <;> (try simp at hc) <;> (try (exfalso; first | omega | exact absurd hc (by assumption))))
        | (refine okJ_guard (fun hc => ?_) (fun hc => ?_) <;> (first | simp (maxSteps := 1000000) [hc, of_decide_eq_true hc, intsD, hw, hlt2] | simp (maxSteps := 1000000) [hc, of_decide_eq_false hc, intsD, hw, hlt2] | simp (maxSteps := 1000000) [hc, intsD, hw, hlt2]) <;> (try simp at hc) <;> (try (exfalso; first | omega | exact absurd hc (by assumption))))
        | (refine And.intro (by first | assumption | omega | (simp [BelL, Bel]; done) | (simp; omega)) ?_; try simp (maxSteps := 1000000) [intsD, hw, hlt2])
        | (refine okC_or ?_; simp (maxSteps := 1000000) [intsD, hw, hlt2])
      refine hKL (cs.length - (i + 1)) _ _ (by omega) (by simp) ⟨i + 1, _, by omega, rfl, ?_, rfl⟩
      rw [hpre, ← show j = cs[i].length by omega]
      exact hg
  · repeat' first
      | refine jw_ret (hQ _ _ (.inr rfl) ⟨5, _, _, rfl, rfl, ?_⟩)
      | refine jw_ret (hQ _ _ (.inr rfl) ⟨_, rfl, ?_⟩)
      | (refine jw_ret (hQ _ _ (.inr rfl) (res_ok 9 ?_)); simp (maxSteps := 1000000) [okRes, -List.mapM_map, -List.mapM_append, hlt])
      | refine jw_seq_k fun K hK => ?_
      | refine jw_block ?_
      | (refine jw_skip ?_; try simp)
      | (refine jw_exit ?_; try simp)
      | (refine jw_cond rfl (fun hc => ?_) (fun hc => ?_) <;> (try simp at hc) <;> (try (exfalso; first | omega | exact absurd hc (by assumption))))
      | (refine jw_c ?_; simp (maxSteps := 1000000) [hlt])
      | (refine jw_draw_j mixed (by kernel_rfl) ?_; simp (maxSteps := 1000000) [hlt])
      | (first | (apply hK; clear hK) | (clear hK; apply hK; clear hK) | (clear hK; clear hK; apply hK; clear hK) | (clear hK; clear hK; clear hK; apply hK; clear hK))
      | exact hQ _ _ (.inl rfl) ⟨5, _, _, rfl, rfl, rfl⟩
      | refine hQ _ _ (.inl rfl) ⟨5, _, _, rfl, rfl, ?_⟩
      | refine hQ _ _ (.inl rfl) ⟨_, rfl, ?_⟩
      | (refine hQ _ _ (.inl rfl) (res_ok 9 ?_); simp (maxSteps := 1000000) [okRes, -List.mapM_map, -List.mapM_append, hlt])
      | (refine jd_newc rfl rfl (by simp) ?_; simp (maxSteps := 1000000) [thD, thL, hlt])
      | (refine okN_or ?_; simp (maxSteps := 1000000) [thD, thL, hlt])
      | (refine okC_guard (fun hc => ?_) (fun hc => ?_) <;> (first | simp (maxSteps := 1000000) [hc, of_decide_eq_true hc, hlt] | simp (maxSteps := 1000000) [hc, of_decide_eq_false hc, hlt] | simp (maxSteps := 1000000) [hc, hlt]) <;> (try simp at hc) <;> (try (exfalso; first | omega | exact absurd hc (by assumption))))
      | (refine okJ_guard (fun hc => ?_) (fun hc => ?_) <;> (first | simp (maxSteps := 1000000) [hc, of_decide_eq_true hc, hlt] | simp (maxSteps := 1000000) [hc, of_decide_eq_false hc, hlt] | simp (maxSteps := 1000000) [hc, hlt]) <;> (try simp at hc) <;> (try (exfalso; first | omega | exact absurd hc (by assumption))))
      | (refine And.intro (by first | assumption | omega | (simp [BelL, Bel]; done) | (simp; omega)) ?_; try simp (maxSteps := 1000000) [hlt])
      | (refine okC_or ?_; simp (maxSteps := 1000000) [hlt])
    rw [pre_all (by omega)] at hg
    exact hg

theorem unitsEach {G : Globals} (e : Int) (cs : List (List Int)) (hn : cs.length ≤ 1000) (hc : ∀ c ∈ cs, c.length ≤ 1000) : Each Try.prog G 20 [] [.ref [.int .i64 e, chainsD cs]] (cs.flatten.map fun u => [D.int .i64 u]) := by
  intro l I hI σ h0
  rw [List.length_map]
  refine unitsIt e cs hn hc l I (fun g u σ hu hi => hI g _ σ ?_ hi) σ h0
  rw [List.getElem?_map, hu]
  rfl
end Go.Proofs.Ytaoohkfocajdcaa
