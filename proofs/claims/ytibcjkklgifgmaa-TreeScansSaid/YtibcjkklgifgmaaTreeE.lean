/- Trees: slices.Concat over entries and over nodes. The walks. -/
import Derived.Test.YtibcjkklgifgmaaTreeD
set_option linter.unusedVariables false
set_option linter.unusedSimpArgs false
set_option maxRecDepth 20000
set_option maxHeartbeats 20000000
namespace Go.Proofs.Ytibcjkklgifgmaa
open Go Go.Vm Go.Proofs

abbrev cellE (es : List En) : List D := es.flatMap enC
theorem cellE_len (es : List En) : (cellE es).length = es.length * 2 := ens_len es
theorem cellE_app (a b : List En) : cellE (a ++ b) = cellE a ++ cellE b := List.flatMap_append ..
theorem cellE_ok (es : List En) (σ : Store) : okCells σ (cellE es) = true := okCells_flat (fun _ => rfl) es
theorem tDs_len1 (ks : List T) : (tDs ks).length = ks.length * 1 := by rw [tDs_len, Nat.mul_one]
theorem tDs_app (a b : List T) : tDs (a ++ b) = tDs a ++ tDs b := by simp [tDs_map]
theorem tDs_ok (ks : List T) (σ : Store) : okCells σ (tDs ks) = true := by
  induction ks with
  | nil => simp [tDs, okCells]
  | cons t ts ih =>
    unfold tDs
    rw [tD_eq]
    simp only [okCells] at ih ⊢
    simpa using ih

/-! ### slices.Concat, over entries -/
def slE (p : Bool × List En) : D := ensD p.1 p.2
@[simp] theorem belL_slE (n : Nat) (ls : List (Bool × List En)) : BelL n (ls.map slE) := by
  induction ls with
  | nil => trivial
  | cons p ls ih => exact ⟨bel_ens n p.1 p.2, ih⟩
def catE (ls : List (Bool × List En)) (k : Nat) : List En := (ls.take k).flatMap (·.2)
theorem catE_succ {ls : List (Bool × List En)} {k : Nat} (h : k < ls.length) : catE ls (k + 1) = catE ls k ++ ls[k].2 := by
  unfold catE
  rw [List.take_succ_eq_append_getElem h, List.flatMap_append]; simp
theorem catE_le (ls : List (Bool × List En)) (k : Nat) : (catE ls k).length ≤ (ls.flatMap (·.2)).length := by
  have := congrArg List.length (congrArg (List.flatMap (·.2)) (List.take_append_drop k ls))
  rw [List.flatMap_append, List.length_append] at this
  unfold catE; omega
theorem apE : appT Try.prog 28 3 = none := by kernel_rfl
theorem growE {G : Globals} (n : Nat) (hn : 0 < n) (hn2 : n ≤ 100000) (σ : Store) : FC Try.prog G 51 [.nsl, .int .i64 n] σ (fun d σ' => d = .ms (σ.length + 1) 0 0 0 2 ∧ σ' = σ ++ [none, some (.c [])]) := by
  refine fc_enter_k Try.func51 rfl rfl fun Q hQ => ?_
  ((repeat refine jw_seq_k fun K hK => ?_); refine jw_reg ?_; simp (maxSteps := 1000000) [Try.f51]; (first | (apply hK; clear hK) | (clear hK; apply hK; clear hK) | (clear hK; clear hK; apply hK; clear hK) | (clear hK; clear hK; clear hK; apply hK; clear hK) | (clear hK; clear hK; clear hK; clear hK; apply hK; clear hK) | (clear hK; clear hK; clear hK; clear hK; clear hK; apply hK; clear hK) | (clear hK; clear hK; clear hK; clear hK; clear hK; clear hK; apply hK; clear hK)))
  ((repeat refine jw_seq_k fun K hK => ?_); refine jw_reg ?_; simp (maxSteps := 1000000); (first | (apply hK; clear hK) | (clear hK; apply hK; clear hK) | (clear hK; clear hK; apply hK; clear hK) | (clear hK; clear hK; clear hK; apply hK; clear hK) | (clear hK; clear hK; clear hK; clear hK; apply hK; clear hK) | (clear hK; clear hK; clear hK; clear hK; clear hK; apply hK; clear hK) | (clear hK; clear hK; clear hK; clear hK; clear hK; clear hK; apply hK; clear hK)))
  (repeat refine jw_seq_k fun K hK => ?_); refine jw_cond (t := false) ?_ (fun h => by cases h) (fun _ => ?_)
  · simp
  (refine jw_skip ?_; simp; (first | (apply hK; clear hK) | (clear hK; apply hK; clear hK) | (clear hK; clear hK; apply hK; clear hK) | (clear hK; clear hK; clear hK; apply hK; clear hK) | (clear hK; clear hK; clear hK; clear hK; apply hK; clear hK) | (clear hK; clear hK; clear hK; clear hK; clear hK; apply hK; clear hK) | (clear hK; clear hK; clear hK; clear hK; clear hK; clear hK; apply hK; clear hK)))
  ((repeat refine jw_seq_k fun K hK => ?_); refine jw_reg ?_; simp (maxSteps := 1000000) [wrap_i64 (n := (n : Int)) (by omega) (by omega)]; (first | (apply hK; clear hK) | (clear hK; apply hK; clear hK) | (clear hK; clear hK; apply hK; clear hK) | (clear hK; clear hK; clear hK; apply hK; clear hK) | (clear hK; clear hK; clear hK; clear hK; apply hK; clear hK) | (clear hK; clear hK; clear hK; clear hK; clear hK; apply hK; clear hK) | (clear hK; clear hK; clear hK; clear hK; clear hK; clear hK; apply hK; clear hK)))
  ((repeat refine jw_seq_k fun K hK => ?_); refine jw_reg ?_; simp (maxSteps := 1000000); (first | (apply hK; clear hK) | (clear hK; apply hK; clear hK) | (clear hK; clear hK; apply hK; clear hK) | (clear hK; clear hK; clear hK; apply hK; clear hK) | (clear hK; clear hK; clear hK; clear hK; apply hK; clear hK) | (clear hK; clear hK; clear hK; clear hK; clear hK; apply hK; clear hK) | (clear hK; clear hK; clear hK; clear hK; clear hK; clear hK; apply hK; clear hK)))
  (repeat refine jw_seq_k fun K hK => ?_); refine jw_cond (t := true) ?_ (fun _ => ?_) (fun h => by cases h)
  · simp; omega
  · (repeat refine jw_seq_k fun K hK => ?_)
    refine jw_region ?_
    refine jl_pre 8 ?_
    simp [hn, show (n : Int) ≤ 140737488355328 by omega, show (n : Int) * 48 ≤ 140737488355328 by omega, show n * 48 ≤ 140737488355328 by omega, apE]
    refine jl_slice0 rfl rfl rfl rfl rfl un28 sz48 (List.getElem?_concat_length ..) (by simp) hn ?_
    simp [set_last]
    (first | (apply hK; clear hK) | (clear hK; apply hK; clear hK) | (clear hK; clear hK; apply hK; clear hK) | (clear hK; clear hK; clear hK; apply hK; clear hK) | (clear hK; clear hK; clear hK; clear hK; apply hK; clear hK) | (clear hK; clear hK; clear hK; clear hK; clear hK; apply hK; clear hK) | (clear hK; clear hK; clear hK; clear hK; clear hK; clear hK; apply hK; clear hK))
    ((repeat refine jw_seq_k fun K hK => ?_); refine jw_reg ?_; simp (maxSteps := 1000000); (first | (apply hK; clear hK) | (clear hK; apply hK; clear hK) | (clear hK; clear hK; apply hK; clear hK) | (clear hK; clear hK; clear hK; apply hK; clear hK) | (clear hK; clear hK; clear hK; clear hK; apply hK; clear hK) | (clear hK; clear hK; clear hK; clear hK; clear hK; apply hK; clear hK) | (clear hK; clear hK; clear hK; clear hK; clear hK; clear hK; apply hK; clear hK)))
    exact jw_ret (hQ _ _ (.inr rfl) ⟨_, rfl, rfl, rfl⟩)
theorem grow0E {G : Globals} (σ : Store) : FC Try.prog G 51 [.nsl, .int .i64 0] σ (fun d σ' => d = .nsl ∧ σ' = σ) := by
  refine fc_enter_k Try.func51 rfl rfl fun Q hQ => ?_
  ((repeat refine jw_seq_k fun K hK => ?_); refine jw_reg ?_; simp (maxSteps := 1000000) [Try.f51]; (first | (apply hK; clear hK) | (clear hK; apply hK; clear hK) | (clear hK; clear hK; apply hK; clear hK) | (clear hK; clear hK; clear hK; apply hK; clear hK) | (clear hK; clear hK; clear hK; clear hK; apply hK; clear hK) | (clear hK; clear hK; clear hK; clear hK; clear hK; apply hK; clear hK) | (clear hK; clear hK; clear hK; clear hK; clear hK; clear hK; apply hK; clear hK)))
  ((repeat refine jw_seq_k fun K hK => ?_); refine jw_reg ?_; simp (maxSteps := 1000000); (first | (apply hK; clear hK) | (clear hK; apply hK; clear hK) | (clear hK; clear hK; apply hK; clear hK) | (clear hK; clear hK; clear hK; apply hK; clear hK) | (clear hK; clear hK; clear hK; clear hK; apply hK; clear hK) | (clear hK; clear hK; clear hK; clear hK; clear hK; apply hK; clear hK) | (clear hK; clear hK; clear hK; clear hK; clear hK; clear hK; apply hK; clear hK)))
  (repeat refine jw_seq_k fun K hK => ?_); refine jw_cond (t := false) ?_ (fun h => by cases h) (fun _ => ?_)
  · simp
  (refine jw_skip ?_; simp; (first | (apply hK; clear hK) | (clear hK; apply hK; clear hK) | (clear hK; clear hK; apply hK; clear hK) | (clear hK; clear hK; clear hK; apply hK; clear hK) | (clear hK; clear hK; clear hK; clear hK; apply hK; clear hK) | (clear hK; clear hK; clear hK; clear hK; clear hK; apply hK; clear hK) | (clear hK; clear hK; clear hK; clear hK; clear hK; clear hK; apply hK; clear hK)))
  ((repeat refine jw_seq_k fun K hK => ?_); refine jw_reg ?_; simp (maxSteps := 1000000); (first | (apply hK; clear hK) | (clear hK; apply hK; clear hK) | (clear hK; clear hK; apply hK; clear hK) | (clear hK; clear hK; clear hK; apply hK; clear hK) | (clear hK; clear hK; clear hK; clear hK; apply hK; clear hK) | (clear hK; clear hK; clear hK; clear hK; clear hK; apply hK; clear hK) | (clear hK; clear hK; clear hK; clear hK; clear hK; clear hK; apply hK; clear hK)))
  ((repeat refine jw_seq_k fun K hK => ?_); refine jw_reg ?_; simp (maxSteps := 1000000); (first | (apply hK; clear hK) | (clear hK; apply hK; clear hK) | (clear hK; clear hK; apply hK; clear hK) | (clear hK; clear hK; clear hK; apply hK; clear hK) | (clear hK; clear hK; clear hK; clear hK; apply hK; clear hK) | (clear hK; clear hK; clear hK; clear hK; clear hK; apply hK; clear hK) | (clear hK; clear hK; clear hK; clear hK; clear hK; clear hK; apply hK; clear hK)))
  (repeat refine jw_seq_k fun K hK => ?_); refine jw_cond (t := false) ?_ (fun h => by cases h) (fun _ => ?_)
  · simp
  (refine jw_skip ?_; simp; (first | (apply hK; clear hK) | (clear hK; apply hK; clear hK) | (clear hK; clear hK; apply hK; clear hK) | (clear hK; clear hK; clear hK; apply hK; clear hK) | (clear hK; clear hK; clear hK; clear hK; apply hK; clear hK) | (clear hK; clear hK; clear hK; clear hK; clear hK; apply hK; clear hK) | (clear hK; clear hK; clear hK; clear hK; clear hK; clear hK; apply hK; clear hK)))
  ((repeat refine jw_seq_k fun K hK => ?_); refine jw_reg ?_; simp (maxSteps := 1000000); (first | (apply hK; clear hK) | (clear hK; apply hK; clear hK) | (clear hK; clear hK; apply hK; clear hK) | (clear hK; clear hK; clear hK; apply hK; clear hK) | (clear hK; clear hK; clear hK; clear hK; apply hK; clear hK) | (clear hK; clear hK; clear hK; clear hK; clear hK; apply hK; clear hK) | (clear hK; clear hK; clear hK; clear hK; clear hK; clear hK; apply hK; clear hK)))
  exact jw_ret (hQ _ _ (.inr rfl) ⟨_, rfl, rfl, rfl⟩)
theorem concatE {G : Globals} (fl : Bool) (ls : List (Bool × List En)) (hT1 : (ls.flatMap (·.2)).length ≤ 100000) (hn : ls.length ≤ 100000) :
    FV Try.prog G 46 [.sl fl (ls.map slE) ls.length] (fun r => r = ensD false (ls.flatMap (·.2))) := by
  refine fv_to ?_
  refine fv_enter_v Try.func46 rfl rfl fun Q hQ => ?_
  have hall : catE ls ls.length = ls.flatMap (·.2) := by unfold catE; rw [List.take_length]
  repeat' first
    | refine jw_ret (hQ _ _ (.inr rfl) ⟨5, _, _, rfl, rfl, ?_⟩)
    | refine jw_ret (hQ _ _ (.inr rfl) ⟨_, rfl, ?_⟩)
    | refine jw_seq_k fun K hK => ?_
    | refine jw_block ?_
    | ((first | refine jw_skip ?_ | refine jw_exit ?_); try simp)
    | (refine jw_cond rfl (fun hc => ?_) (fun hc => ?_) <;> (try simp at hc) <;> (try (exfalso; first | omega | exact absurd hc (by assumption))))
    | ((first | refine jw_c ?_ | refine jw_draw_j mixed (by kernel_rfl) ?_); simp (maxSteps := 1000000) [Try.f46])
    | (first | (apply hK; clear hK) | (clear hK; apply hK; clear hK) | (clear hK; clear hK; apply hK; clear hK) | (clear hK; clear hK; clear hK; apply hK; clear hK))
    | exact hQ _ _ (.inl rfl) ⟨5, _, _, rfl, rfl, rfl⟩
    | refine hQ _ _ (.inl rfl) ⟨5, _, _, rfl, rfl, ?_⟩
    | refine hQ _ _ (.inl rfl) ⟨_, rfl, ?_⟩
    | ((first | refine jd_newc rfl rfl (by simp) ?_ | refine okN_or ?_); simp (maxSteps := 1000000) [thD, thL, Try.f46])
    | ((first | refine okC_guard (fun hc => ?_) (fun hc => ?_) | refine okJ_guard (fun hc => ?_) (fun hc => ?_)) <;> (first | have hd := of_decide_eq_true hc | have hd := of_decide_eq_false hc | have hd := hc) <;> simp (maxSteps := 1000000) [hc, hd, Try.f46] <;> (try simp at hc) <;> (try (exfalso; first | omega | exact absurd hc (by assumption))))
    | (refine And.intro (by first | assumption | omega | (simp [BelL, Bel]; done) | (simp; omega)) ?_; try simp (maxSteps := 1000000) [Try.f46])
    | (refine okC_or ?_; simp (maxSteps := 1000000) [Try.f46])
  refine jw_loop_v (fun m z => ∃ (i : Nat), (i ≤ ls.length) ∧ ls.length - i = m ∧ z = ⟨[.sl fl (ls.map slE) ls.length, .any, .any, .int .i64 ((catE ls i).length : Nat)] ++ List.replicate 5 .any ++ [.sl fl (ls.map slE) ls.length, .int .i64 ls.length, .int .i64 i] ++ List.replicate 24 .any, []⟩) ⟨[.sl fl (ls.map slE) ls.length, .any, .any, .int .i64 ((catE ls (0)).length : Nat)] ++ List.replicate 5 .any ++ [.sl fl (ls.map slE) ls.length, .int .i64 ls.length, .int .i64 (0)] ++ List.replicate 24 .any, []⟩ (view_takeE (sl := [.sl fl (ls.map slE) ls.length, .any, .any, .int .i64 ((catE ls (0)).length : Nat)] ++ List.replicate 5 .any ++ [.sl fl (ls.map slE) ls.length, .int .i64 ls.length, .int .i64 (0)] ++ List.replicate 24 .any) (σ0 := []) 0 (by simp [show catE ls 0 = [] from rfl]) (by first | omega | simp) (by first | omega | (simp [show catE ls 0 = [] from rfl]; done) | (simp [show catE ls 0 = [] from rfl]; omega)) (by first | exact LewS.refl _ | simp [show catE ls 0 = [] from rfl]) (by simp [BelL, Bel, show catE ls 0 = [] from rfl]) (by simp [BelS, BelOb, BelL, Bel, show catE ls 0 = [] from rfl])) ⟨(0), ?_, rfl, rfl⟩ ?_
  rotate_left
  rintro m z ⟨i, hA, rfl, rfl⟩ KA hKA
  · have hw := wrap_i64 (n := (i : Int) + 1) (by omega) (by omega)
    have hle := catE_le ls (i + 1)
    have hle0 := catE_le ls i
    have hsu := catE_succ (ls := ls) (k := i)
    generalize hC : (ls.flatMap (·.2)).length = C at *
    by_cases hlt : i < ls.length
    · have hsu := hsu hlt
      have hg : (ls.map slE)[i]? = some (ensD ls[i].1 ls[i].2) := by rw [List.getElem?_map, List.getElem?_eq_getElem hlt]; rfl
      have hgg := fun h => get_of hg h
      have hls := congrArg List.length hsu
      rw [List.length_append] at hls
      have hw2 := wrap_i64 (n := ((catE ls i).length : Int) + (ls[i].2.length : Int)) (by omega) (by omega)
      have e2 : ((catE ls i).length : Int) + (ls[i].2.length : Int) = ((catE ls (i + 1)).length : Nat) := by omega
      rw [e2] at hw2
      obtain ⟨p, hp⟩ : ∃ p, ls[i] = p := ⟨_, rfl⟩
      rw [hp] at hg e2 hls
      simp only [hp] at hgg
      generalize (catE ls i).length = N0 at *
      repeat' first
        | refine jw_ret (hQ _ _ (.inr rfl) ⟨5, _, _, rfl, rfl, ?_⟩)
        | refine jw_ret (hQ _ _ (.inr rfl) ⟨_, rfl, ?_⟩)
        | refine jw_seq_k fun K hK => ?_
        | refine jw_block ?_
        | ((first | refine jw_skip ?_ | refine jw_exit ?_); try simp)
        | (refine jw_cond rfl (fun hc => ?_) (fun hc => ?_) <;> (try simp at hc) <;> (try (exfalso; first | omega | exact absurd hc (by assumption))))
        | ((first | refine jw_c ?_ | refine jw_draw_j mixed (by kernel_rfl) ?_); simp (maxSteps := 1000000) [hlt, hg, hgg, ensD, hw, hw2, e2, show ¬ (((catE ls (i + 1)).length : Nat) : Int) < 0 by omega])
        | (first | (apply hK; clear hK) | (clear hK; apply hK; clear hK) | (clear hK; clear hK; apply hK; clear hK) | (clear hK; clear hK; clear hK; apply hK; clear hK))
        | exact hQ _ _ (.inl rfl) ⟨5, _, _, rfl, rfl, rfl⟩
        | refine hQ _ _ (.inl rfl) ⟨5, _, _, rfl, rfl, ?_⟩
        | refine hQ _ _ (.inl rfl) ⟨_, rfl, ?_⟩
        | ((first | refine jd_newc rfl rfl (by simp) ?_ | refine okN_or ?_); simp (maxSteps := 1000000) [thD, thL, hlt, hg, hgg, ensD, hw, hw2, e2, show ¬ (((catE ls (i + 1)).length : Nat) : Int) < 0 by omega])
        | ((first | refine okC_guard (fun hc => ?_) (fun hc => ?_) | refine okJ_guard (fun hc => ?_) (fun hc => ?_)) <;> (first | have hd := of_decide_eq_true hc | have hd := of_decide_eq_false hc | have hd := hc) <;> simp (maxSteps := 1000000) [hc, hd, hlt, hg, hgg, ensD, hw, hw2, e2, show ¬ (((catE ls (i + 1)).length : Nat) : Int) < 0 by omega] <;> (try simp at hc) <;> (try (exfalso; first | omega | exact absurd hc (by assumption))))
        | (refine And.intro (by first | assumption | omega | (simp [BelL, Bel]; done) | (simp; omega)) ?_; try simp (maxSteps := 1000000) [hlt, hg, hgg, ensD, hw, hw2, e2, show ¬ (((catE ls (i + 1)).length : Nat) : Int) < 0 by omega])
        | (refine okC_or ?_; simp (maxSteps := 1000000) [hlt, hg, hgg, ensD, hw, hw2, e2, show ¬ (((catE ls (i + 1)).length : Nat) : Int) < 0 by omega])
      refine hKA (ls.length - (i + 1)) _ ⟨[.sl fl (ls.map slE) ls.length, .any, .any, .int .i64 ((catE ls (i + 1)).length : Nat)] ++ List.replicate 5 .any ++ [.sl fl (ls.map slE) ls.length, .int .i64 ls.length, .int .i64 (i + 1)] ++ List.replicate 24 .any, []⟩ (by omega) (view_takeE (sl := [.sl fl (ls.map slE) ls.length, .any, .any, .int .i64 ((catE ls (i + 1)).length : Nat)] ++ List.replicate 5 .any ++ [.sl fl (ls.map slE) ls.length, .int .i64 ls.length, .int .i64 (i + 1)] ++ List.replicate 24 .any) (σ0 := []) 0 (by simp [hls, Int.natCast_add]) (by first | omega | simp) (by first | omega | (simp [hls, Int.natCast_add]; done) | (simp [hls, Int.natCast_add]; omega)) (by first | exact LewS.refl _ | simp [hls, Int.natCast_add]) (by simp [BelL, Bel, hls, Int.natCast_add]) (by simp [BelS, BelOb, BelL, Bel, hls, Int.natCast_add])) ⟨(i + 1), ?_, rfl, rfl⟩
      omega
    · have hi : i = ls.length := by omega
      subst hi
      have hcC : (catE ls ls.length).length = C := by rw [hall, hC]
      by_cases h0 : C = 0
      · have hC0 : (ls.flatMap (·.2)).length = 0 := by rw [hC, h0]
        have hr : ls.flatMap (·.2) = [] := List.length_eq_zero_iff.1 hC0
        rw [hr] at hQ
        rw [h0] at hcC
        clear hC hle hle0 hsu
        repeat' first
          | refine jw_ret (hQ _ _ (.inr rfl) ⟨5, _, _, rfl, rfl, ?_⟩)
          | refine jw_ret (hQ _ _ (.inr rfl) ⟨_, rfl, ?_⟩)
          | refine jw_seq_k fun K hK => ?_
          | refine jw_block ?_
          | ((first | refine jw_skip ?_ | refine jw_exit ?_); try simp)
          | (refine jw_cond rfl (fun hc => ?_) (fun hc => ?_) <;> (try simp at hc) <;> (try (exfalso; first | omega | exact absurd hc (by assumption))))
          | ((fail_if_success (refine jw_c (id := 9) ?_)); (refine jw_c ?_; simp (maxSteps := 1000000) [hlt, hcC]))
          | ((fail_if_success (refine jw_draw_j (id := 9) mixed (by kernel_rfl) ?_)); (refine jw_draw_j mixed (by kernel_rfl) ?_; simp (maxSteps := 1000000) [hlt, hcC]))
          | (first | (apply hK; clear hK) | (clear hK; apply hK; clear hK) | (clear hK; clear hK; apply hK; clear hK) | (clear hK; clear hK; clear hK; apply hK; clear hK))
          | exact hQ _ _ (.inl rfl) ⟨5, _, _, rfl, rfl, rfl⟩
          | refine hQ _ _ (.inl rfl) ⟨5, _, _, rfl, rfl, ?_⟩
          | refine hQ _ _ (.inl rfl) ⟨_, rfl, ?_⟩
          | ((first | refine jd_newc rfl rfl (by simp) ?_ | refine okN_or ?_); simp (maxSteps := 1000000) [thD, thL, hlt, hcC])
          | ((first | refine okC_guard (fun hc => ?_) (fun hc => ?_) | refine okJ_guard (fun hc => ?_) (fun hc => ?_)) <;> (first | have hd := of_decide_eq_true hc | have hd := of_decide_eq_false hc | have hd := hc) <;> simp (maxSteps := 1000000) [hc, hd, hlt, hcC] <;> (try simp at hc) <;> (try (exfalso; first | omega | exact absurd hc (by assumption))))
          | (refine And.intro (by first | assumption | omega | (simp [BelL, Bel]; done) | (simp; omega)) ?_; try simp (maxSteps := 1000000) [hlt, hcC])
          | (refine okC_or ?_; simp (maxSteps := 1000000) [hlt, hcC])
        repeat' first
          | refine jw_ret (hQ _ _ (.inr rfl) ⟨5, _, _, rfl, rfl, ?_⟩)
          | refine jw_ret (hQ _ _ (.inr rfl) ⟨_, rfl, ?_⟩)
          | refine jw_seq_k fun K hK => ?_
          | refine jw_block ?_
          | ((first | refine jw_skip ?_ | refine jw_exit ?_); try simp)
          | (refine jw_cond rfl (fun hc => ?_) (fun hc => ?_) <;> (try simp at hc) <;> (try (exfalso; first | omega | exact absurd hc (by assumption))))
          | ((first | refine jw_c ?_ | refine jw_draw_j mixed (by kernel_rfl) ?_ | (refine jl_fc (f := 51) rfl rfl rfl rfl rfl (grow0E _) ?_; rintro r σ' ⟨rfl, rfl⟩)); simp (maxSteps := 1000000) [hlt, hcC])
          | (first | (apply hK; clear hK) | (clear hK; apply hK; clear hK) | (clear hK; clear hK; apply hK; clear hK) | (clear hK; clear hK; clear hK; apply hK; clear hK))
          | exact hQ _ _ (.inl rfl) ⟨5, _, _, rfl, rfl, rfl⟩
          | refine hQ _ _ (.inl rfl) ⟨5, _, _, rfl, rfl, ?_⟩
          | refine hQ _ _ (.inl rfl) ⟨_, rfl, ?_⟩
          | ((first | refine jd_newc rfl rfl (by simp) ?_ | refine okN_or ?_); simp (maxSteps := 1000000) [thD, thL, hlt, hcC])
          | ((first | refine okC_guard (fun hc => ?_) (fun hc => ?_) | refine okJ_guard (fun hc => ?_) (fun hc => ?_)) <;> (first | have hd := of_decide_eq_true hc | have hd := of_decide_eq_false hc | have hd := hc) <;> simp (maxSteps := 1000000) [hc, hd, hlt, hcC] <;> (try simp at hc) <;> (try (exfalso; first | omega | exact absurd hc (by assumption))))
          | (refine And.intro (by first | assumption | omega | (simp [BelL, Bel]; done) | (simp; omega)) ?_; try simp (maxSteps := 1000000) [hlt, hcC])
          | (refine okC_or ?_; simp (maxSteps := 1000000) [hlt, hcC])
        refine jw_loop_v (fun m z => ∃ (i : Nat), (i ≤ ls.length) ∧ ls.length - i = m ∧ z = ⟨List.replicate 6 .any ++ [.ms 0 0 0 0 2] ++ List.replicate 18 .any ++ [.sl fl (ls.map slE) ls.length, .int .i64 ls.length, .int .i64 i] ++ List.replicate 8 .any, [some (.c [])]⟩) ⟨List.replicate 6 .any ++ [.ms 0 0 0 0 2] ++ List.replicate 18 .any ++ [.sl fl (ls.map slE) ls.length, .int .i64 ls.length, .int .i64 (0)] ++ List.replicate 8 .any, [some (.c [])]⟩ ((view_nil 6 2 rfl).trans (view_takeE (sl := List.replicate 6 .any ++ [.ms 0 0 0 0 2] ++ List.replicate 18 .any ++ [.sl fl (ls.map slE) ls.length, .int .i64 ls.length, .int .i64 (0)] ++ List.replicate 8 .any) (σ0 := [some (.c [])]) 1 (by simp [show catE ls 0 = [] from rfl, thL, thD, thS, thOb]) (by first | omega | simp) (by first | omega | (simp [show catE ls 0 = [] from rfl, thL, thD, thS, thOb]; done) | (simp [show catE ls 0 = [] from rfl, thL, thD, thS, thOb]; omega)) (by first | exact LewS.refl _ | simp [show catE ls 0 = [] from rfl, thL, thD, thS, thOb]) (by simp [BelL, Bel, thL, thD, thS, thOb, show catE ls 0 = [] from rfl]) (by simp [BelS, BelOb, BelL, Bel, thL, thD, thS, thOb, show catE ls 0 = [] from rfl]))) ⟨(0), ?_, rfl, rfl⟩ ?_
        rotate_left
        rintro m z ⟨i, hB, rfl, rfl⟩ KB hKB
        · have hw := wrap_i64 (n := (i : Int) + 1) (by omega) (by omega)
          have hle := catE_le ls (i + 1)
          have hsu := catE_succ (ls := ls) (k := i)
          rw [hC0] at hle
          by_cases hlt : i < ls.length
          · have hg : (ls.map slE)[i]? = some (ensD ls[i].1 ls[i].2) := by rw [List.getElem?_map, List.getElem?_eq_getElem hlt]; rfl
            have hgg := fun h => get_of hg h
            have hls := congrArg List.length (hsu hlt)
            rw [List.length_append] at hls
            have h00 : ls[i].2 = [] := List.length_eq_zero_iff.1 (by omega)
            obtain ⟨p, hp⟩ : ∃ p, ls[i] = p := ⟨_, rfl⟩
            rw [hp] at hg h00
            simp only [hp] at hgg
            obtain ⟨pf, pe⟩ := p
            dsimp only at h00
            subst h00
            repeat' first
              | refine jw_ret (hQ _ _ (.inr rfl) ⟨5, _, _, rfl, rfl, ?_⟩)
              | refine jw_ret (hQ _ _ (.inr rfl) ⟨_, rfl, ?_⟩)
              | refine jw_seq_k fun K hK => ?_
              | refine jw_block ?_
              | ((first | refine jw_skip ?_ | refine jw_exit ?_); try simp)
              | (refine jw_cond rfl (fun hc => ?_) (fun hc => ?_) <;> (try simp at hc) <;> (try (exfalso; first | omega | exact absurd hc (by assumption))))
              | ((first | refine jw_c ?_ | refine jw_draw_j mixed (by kernel_rfl) ?_); simp (maxSteps := 1000000) [hlt, hg, hgg, ensD, hw, okCell, enC])
              | (first | (apply hK; clear hK) | (clear hK; apply hK; clear hK) | (clear hK; clear hK; apply hK; clear hK) | (clear hK; clear hK; clear hK; apply hK; clear hK))
              | exact hQ _ _ (.inl rfl) ⟨5, _, _, rfl, rfl, rfl⟩
              | refine hQ _ _ (.inl rfl) ⟨5, _, _, rfl, rfl, ?_⟩
              | refine hQ _ _ (.inl rfl) ⟨_, rfl, ?_⟩
              | ((first | refine jd_newc rfl rfl (by simp) ?_ | refine okN_or ?_); simp (maxSteps := 1000000) [thD, thL, hlt, hg, hgg, ensD, hw, okCell, enC])
              | ((first | refine okC_guard (fun hc => ?_) (fun hc => ?_) | refine okJ_guard (fun hc => ?_) (fun hc => ?_)) <;> (first | have hd := of_decide_eq_true hc | have hd := of_decide_eq_false hc | have hd := hc) <;> simp (maxSteps := 1000000) [hc, hd, hlt, hg, hgg, ensD, hw, okCell, enC] <;> (try simp at hc) <;> (try (exfalso; first | omega | exact absurd hc (by assumption))))
              | (refine And.intro (by first | assumption | omega | (simp [BelL, Bel]; done) | (simp; omega)) ?_; try simp (maxSteps := 1000000) [hlt, hg, hgg, ensD, hw, okCell, enC])
              | (refine okC_or ?_; simp (maxSteps := 1000000) [hlt, hg, hgg, ensD, hw, okCell, enC])
            refine hKB (ls.length - (i + 1)) _ ⟨List.replicate 6 .any ++ [.ms 0 0 0 0 2] ++ List.replicate 18 .any ++ [.sl fl (ls.map slE) ls.length, .int .i64 ls.length, .int .i64 (i + 1)] ++ List.replicate 8 .any, [some (.c [])]⟩ (by omega) (view_takeE (sl := List.replicate 6 .any ++ [.ms 0 0 0 0 2] ++ List.replicate 18 .any ++ [.sl fl (ls.map slE) ls.length, .int .i64 ls.length, .int .i64 (i + 1)] ++ List.replicate 8 .any) (σ0 := [some (.c [])]) 1 (by simp [hls]) (by first | omega | simp) (by first | omega | (simp [hls]; done) | (simp [hls]; omega)) (by first | exact LewS.refl _ | simp [hls]) (by simp [BelL, Bel, hls]) (by simp [BelS, BelOb, BelL, Bel, hls])) ⟨(i + 1), ?_, rfl, rfl⟩
            omega
          · repeat' first
              | refine jw_ret (hQ _ _ (.inr rfl) ⟨5, _, _, rfl, rfl, ?_⟩)
              | refine jw_ret (hQ _ _ (.inr rfl) ⟨_, rfl, ?_⟩)
              | refine jw_seq_k fun K hK => ?_
              | refine jw_block ?_
              | ((first | refine jw_skip ?_ | refine jw_exit ?_); try simp)
              | (refine jw_cond rfl (fun hc => ?_) (fun hc => ?_) <;> (try simp at hc) <;> (try (exfalso; first | omega | exact absurd hc (by assumption))))
              | ((fail_if_success (refine jw_c (id := 15) ?_)); (refine jw_c ?_; simp (maxSteps := 1000000) [hlt]))
              | ((fail_if_success (refine jw_draw_j (id := 15) mixed (by kernel_rfl) ?_)); (refine jw_draw_j mixed (by kernel_rfl) ?_; simp (maxSteps := 1000000) [hlt]))
              | (first | (apply hK; clear hK) | (clear hK; apply hK; clear hK) | (clear hK; clear hK; apply hK; clear hK) | (clear hK; clear hK; clear hK; apply hK; clear hK))
              | exact hQ _ _ (.inl rfl) ⟨5, _, _, rfl, rfl, rfl⟩
              | refine hQ _ _ (.inl rfl) ⟨5, _, _, rfl, rfl, ?_⟩
              | refine hQ _ _ (.inl rfl) ⟨_, rfl, ?_⟩
              | ((first | refine jd_newc rfl rfl (by simp) ?_ | refine okN_or ?_); simp (maxSteps := 1000000) [thD, thL, hlt])
              | ((first | refine okC_guard (fun hc => ?_) (fun hc => ?_) | refine okJ_guard (fun hc => ?_) (fun hc => ?_)) <;> (first | have hd := of_decide_eq_true hc | have hd := of_decide_eq_false hc | have hd := hc) <;> simp (maxSteps := 1000000) [hc, hd, hlt] <;> (try simp at hc) <;> (try (exfalso; first | omega | exact absurd hc (by assumption))))
              | (refine And.intro (by first | assumption | omega | (simp [BelL, Bel]; done) | (simp; omega)) ?_; try simp (maxSteps := 1000000) [hlt])
              | (refine okC_or ?_; simp (maxSteps := 1000000) [hlt])
            (refine jw_view (view_frz 0 _ rfl (by simp [BelL, Bel])) ?_; simp (maxSteps := 1000000) [thL, thD, thS, thOb])
            repeat' first
              | refine jw_seq_k fun K hK => ?_
              | refine jw_block ?_
              | ((first | refine jw_skip ?_ | refine jw_exit ?_); try simp)
              | (refine jw_cond rfl (fun hc => ?_) (fun hc => ?_) <;> (try simp at hc) <;> (try (exfalso; first | omega | exact absurd hc (by assumption))))
              | ((first | refine jw_c ?_ | refine jw_draw_j mixed (by kernel_rfl) ?_); simp (maxSteps := 1000000) [ensD, enC])
              | (first | (apply hK; clear hK) | (clear hK; apply hK; clear hK) | (clear hK; clear hK; apply hK; clear hK) | (clear hK; clear hK; clear hK; apply hK; clear hK))
              | ((first | refine jw_ret (hQ _ _ (.inr rfl) (ret_ok 0 ?_ (by first | omega | simp))) | refine hQ _ _ (.inl rfl) (ret_ok 0 ?_ (by first | omega | simp))); simp (maxSteps := 1000000) [okRet, BelL, Bel, BelS, BelOb, ensD, enC])
              | ((first | refine jd_newc rfl rfl (by simp) ?_ | refine okN_or ?_); simp (maxSteps := 1000000) [thD, thL, ensD, enC])
              | ((first | refine okC_guard (fun hc => ?_) (fun hc => ?_) | refine okJ_guard (fun hc => ?_) (fun hc => ?_)) <;> (first | have hd := of_decide_eq_true hc | have hd := of_decide_eq_false hc | have hd := hc) <;> simp (maxSteps := 1000000) [hc, hd, ensD, enC] <;> (try simp at hc) <;> (try (exfalso; first | omega | exact absurd hc (by assumption))))
              | (refine And.intro (by first | assumption | omega | (simp [BelL, Bel]; done) | (simp; omega)) ?_; try simp (maxSteps := 1000000) [ensD, enC])
              | (refine okC_or ?_; simp (maxSteps := 1000000) [ensD, enC])
        · simp
      · have hgr := growE (G := G) C (by omega) hT1
        clear hle hle0 hsu
        repeat' first
          | refine jw_ret (hQ _ _ (.inr rfl) ⟨5, _, _, rfl, rfl, ?_⟩)
          | refine jw_ret (hQ _ _ (.inr rfl) ⟨_, rfl, ?_⟩)
          | refine jw_seq_k fun K hK => ?_
          | refine jw_block ?_
          | ((first | refine jw_skip ?_ | refine jw_exit ?_); try simp)
          | (refine jw_cond rfl (fun hc => ?_) (fun hc => ?_) <;> (try simp at hc) <;> (try (exfalso; first | omega | exact absurd hc (by assumption))))
          | ((fail_if_success (refine jw_c (id := 9) ?_)); (refine jw_c ?_; simp (maxSteps := 1000000) [hlt, hcC]))
          | ((fail_if_success (refine jw_draw_j (id := 9) mixed (by kernel_rfl) ?_)); (refine jw_draw_j mixed (by kernel_rfl) ?_; simp (maxSteps := 1000000) [hlt, hcC]))
          | (first | (apply hK; clear hK) | (clear hK; apply hK; clear hK) | (clear hK; clear hK; apply hK; clear hK) | (clear hK; clear hK; clear hK; apply hK; clear hK))
          | exact hQ _ _ (.inl rfl) ⟨5, _, _, rfl, rfl, rfl⟩
          | refine hQ _ _ (.inl rfl) ⟨5, _, _, rfl, rfl, ?_⟩
          | refine hQ _ _ (.inl rfl) ⟨_, rfl, ?_⟩
          | ((first | refine jd_newc rfl rfl (by simp) ?_ | refine okN_or ?_); simp (maxSteps := 1000000) [thD, thL, hlt, hcC])
          | ((first | refine okC_guard (fun hc => ?_) (fun hc => ?_) | refine okJ_guard (fun hc => ?_) (fun hc => ?_)) <;> (first | have hd := of_decide_eq_true hc | have hd := of_decide_eq_false hc | have hd := hc) <;> simp (maxSteps := 1000000) [hc, hd, hlt, hcC] <;> (try simp at hc) <;> (try (exfalso; first | omega | exact absurd hc (by assumption))))
          | (refine And.intro (by first | assumption | omega | (simp [BelL, Bel]; done) | (simp; omega)) ?_; try simp (maxSteps := 1000000) [hlt, hcC])
          | (refine okC_or ?_; simp (maxSteps := 1000000) [hlt, hcC])
        repeat' first
          | refine jw_ret (hQ _ _ (.inr rfl) ⟨5, _, _, rfl, rfl, ?_⟩)
          | refine jw_ret (hQ _ _ (.inr rfl) ⟨_, rfl, ?_⟩)
          | refine jw_seq_k fun K hK => ?_
          | refine jw_block ?_
          | ((first | refine jw_skip ?_ | refine jw_exit ?_); try simp)
          | (refine jw_cond rfl (fun hc => ?_) (fun hc => ?_) <;> (try simp at hc) <;> (try (exfalso; first | omega | exact absurd hc (by assumption))))
          | ((first | refine jw_c ?_ | refine jw_draw_j mixed (by kernel_rfl) ?_ | (refine jl_fc (f := 51) rfl rfl rfl rfl rfl (hgr _) ?_; rintro r σ' ⟨rfl, rfl⟩)); simp (maxSteps := 1000000) [hlt, hcC])
          | (first | (apply hK; clear hK) | (clear hK; apply hK; clear hK) | (clear hK; clear hK; apply hK; clear hK) | (clear hK; clear hK; clear hK; apply hK; clear hK))
          | exact hQ _ _ (.inl rfl) ⟨5, _, _, rfl, rfl, rfl⟩
          | refine hQ _ _ (.inl rfl) ⟨5, _, _, rfl, rfl, ?_⟩
          | refine hQ _ _ (.inl rfl) ⟨_, rfl, ?_⟩
          | ((first | refine jd_newc rfl rfl (by simp) ?_ | refine okN_or ?_); simp (maxSteps := 1000000) [thD, thL, hlt, hcC])
          | ((first | refine okC_guard (fun hc => ?_) (fun hc => ?_) | refine okJ_guard (fun hc => ?_) (fun hc => ?_)) <;> (first | have hd := of_decide_eq_true hc | have hd := of_decide_eq_false hc | have hd := hc) <;> simp (maxSteps := 1000000) [hc, hd, hlt, hcC] <;> (try simp at hc) <;> (try (exfalso; first | omega | exact absurd hc (by assumption))))
          | (refine And.intro (by first | assumption | omega | (simp [BelL, Bel]; done) | (simp; omega)) ?_; try simp (maxSteps := 1000000) [hlt, hcC])
          | (refine okC_or ?_; simp (maxSteps := 1000000) [hlt, hcC])
        refine jw_loop_v (fun m z => ∃ (i : Nat), (i ≤ ls.length) ∧ ls.length - i = m ∧ z = ⟨List.replicate 6 .any ++ [.ms 1 ((catE ls i).length * 2) 0 (catE ls i).length 2] ++ List.replicate 18 .any ++ [.sl fl (ls.map slE) ls.length, .int .i64 ls.length, .int .i64 i] ++ List.replicate 8 .any, [none, some (.c (cellE (catE ls i)))]⟩) ⟨List.replicate 6 .any ++ [.ms 1 ((catE ls (0)).length * 2) 0 (catE ls (0)).length 2] ++ List.replicate 18 .any ++ [.sl fl (ls.map slE) ls.length, .int .i64 ls.length, .int .i64 (0)] ++ List.replicate 8 .any, [none, some (.c (cellE (catE ls (0))))]⟩ (view_takeE (sl := List.replicate 6 .any ++ [.ms 1 ((catE ls (0)).length * 2) 0 (catE ls (0)).length 2] ++ List.replicate 18 .any ++ [.sl fl (ls.map slE) ls.length, .int .i64 ls.length, .int .i64 (0)] ++ List.replicate 8 .any) (σ0 := [none, some (.c (cellE (catE ls (0))))]) 2 (by simp [show catE ls 0 = [] from rfl, show cellE [] = [] from rfl]) (by first | omega | simp) (by first | omega | (simp [show catE ls 0 = [] from rfl, show cellE [] = [] from rfl]; done) | (simp [show catE ls 0 = [] from rfl, show cellE [] = [] from rfl]; omega)) (by first | exact LewS.refl _ | simp [show catE ls 0 = [] from rfl, show cellE [] = [] from rfl]) (by simp [BelL, Bel, show catE ls 0 = [] from rfl, show cellE [] = [] from rfl]) (by simp [BelS, BelOb, BelL, Bel, show catE ls 0 = [] from rfl, show cellE [] = [] from rfl])) ⟨(0), ?_, rfl, rfl⟩ ?_
        rotate_left
        rintro m z ⟨i, hB, rfl, rfl⟩ KB hKB
        · have hw := wrap_i64 (n := (i : Int) + 1) (by omega) (by omega)
          have hle := catE_le ls (i + 1)
          have hle0 := catE_le ls i
          have hsu := catE_succ (ls := ls) (k := i)
          rw [hC] at hle hle0
          have hcl := cellE_len (catE ls i)
          by_cases hlt : i < ls.length
          · have hg : (ls.map slE)[i]? = some (ensD ls[i].1 ls[i].2) := by rw [List.getElem?_map, List.getElem?_eq_getElem hlt]; rfl
            have hgg := fun h => get_of hg h
            have hls := congrArg List.length (hsu hlt)
            have hsu := hsu hlt
            rw [List.length_append] at hls
            have hcl2 := cellE_len ls[i].2
            have hca := cellE_app (catE ls i) ls[i].2
            rw [← hsu] at hca
            have hok := cellE_ok ls[i].2
            have hct : List.take (ls[i].2.length * 2) (cellE ls[i].2) = cellE ls[i].2 := List.take_of_length_le (by omega)
            obtain ⟨p, hp⟩ : ∃ p, ls[i] = p := ⟨_, rfl⟩
            rw [hp] at hg hls hcl2 hca hct
            simp only [hp] at hgg hok
            generalize catE ls i = C0 at *
            repeat' first
              | refine jw_ret (hQ _ _ (.inr rfl) ⟨5, _, _, rfl, rfl, ?_⟩)
              | refine jw_ret (hQ _ _ (.inr rfl) ⟨_, rfl, ?_⟩)
              | refine jw_seq_k fun K hK => ?_
              | refine jw_block ?_
              | ((first | refine jw_skip ?_ | refine jw_exit ?_); try simp)
              | (refine jw_cond rfl (fun hc => ?_) (fun hc => ?_) <;> (try simp at hc) <;> (try (exfalso; first | omega | exact absurd hc (by assumption))))
              | ((first | refine jw_c ?_ | refine jw_draw_j mixed (by kernel_rfl) ?_); simp (maxSteps := 1000000) [hlt, hg, hgg, ensD, hw, hcl, hcl2, hct, hok, show C0.length * 2 + p.2.length * 2 ≤ 140737488355328 by omega, show (C0.length + p.2.length) * 48 ≤ 140737488355328 by omega, show C0.length + p.2.length ≤ 140737488355328 by omega])
              | (first | (apply hK; clear hK) | (clear hK; apply hK; clear hK) | (clear hK; clear hK; apply hK; clear hK) | (clear hK; clear hK; clear hK; apply hK; clear hK))
              | exact hQ _ _ (.inl rfl) ⟨5, _, _, rfl, rfl, rfl⟩
              | refine hQ _ _ (.inl rfl) ⟨5, _, _, rfl, rfl, ?_⟩
              | refine hQ _ _ (.inl rfl) ⟨_, rfl, ?_⟩
              | ((first | refine jd_newc rfl rfl (by simp) ?_ | refine okN_or ?_); simp (maxSteps := 1000000) [thD, thL, hlt, hg, hgg, ensD, hw, hcl, hcl2, hct, hok, show C0.length * 2 + p.2.length * 2 ≤ 140737488355328 by omega, show (C0.length + p.2.length) * 48 ≤ 140737488355328 by omega, show C0.length + p.2.length ≤ 140737488355328 by omega])
              | ((first | refine okC_guard (fun hc => ?_) (fun hc => ?_) | refine okJ_guard (fun hc => ?_) (fun hc => ?_)) <;> (first | have hd := of_decide_eq_true hc | have hd := of_decide_eq_false hc | have hd := hc) <;> simp (maxSteps := 1000000) [hc, hd, hlt, hg, hgg, ensD, hw, hcl, hcl2, hct, hok, show C0.length * 2 + p.2.length * 2 ≤ 140737488355328 by omega, show (C0.length + p.2.length) * 48 ≤ 140737488355328 by omega, show C0.length + p.2.length ≤ 140737488355328 by omega] <;> (try simp at hc) <;> (try (exfalso; first | omega | exact absurd hc (by assumption))))
              | (refine And.intro (by first | assumption | omega | (simp [BelL, Bel]; done) | (simp; omega)) ?_; try simp (maxSteps := 1000000) [hlt, hg, hgg, ensD, hw, hcl, hcl2, hct, hok, show C0.length * 2 + p.2.length * 2 ≤ 140737488355328 by omega, show (C0.length + p.2.length) * 48 ≤ 140737488355328 by omega, show C0.length + p.2.length ≤ 140737488355328 by omega])
              | (refine okC_or ?_; simp (maxSteps := 1000000) [hlt, hg, hgg, ensD, hw, hcl, hcl2, hct, hok, show C0.length * 2 + p.2.length * 2 ≤ 140737488355328 by omega, show (C0.length + p.2.length) * 48 ≤ 140737488355328 by omega, show C0.length + p.2.length ≤ 140737488355328 by omega])
            refine hKB (ls.length - (i + 1)) _ ⟨List.replicate 6 .any ++ [.ms 1 ((catE ls (i + 1)).length * 2) 0 (catE ls (i + 1)).length 2] ++ List.replicate 18 .any ++ [.sl fl (ls.map slE) ls.length, .int .i64 ls.length, .int .i64 (i + 1)] ++ List.replicate 8 .any, [none, some (.c (cellE (catE ls (i + 1))))]⟩ (by omega) (view_takeE (sl := List.replicate 6 .any ++ [.ms 1 ((catE ls (i + 1)).length * 2) 0 (catE ls (i + 1)).length 2] ++ List.replicate 18 .any ++ [.sl fl (ls.map slE) ls.length, .int .i64 ls.length, .int .i64 (i + 1)] ++ List.replicate 8 .any) (σ0 := [none, some (.c (cellE (catE ls (i + 1))))]) 2 (by simp [hls, hca, Nat.add_mul]) (by first | omega | simp) (by first | omega | (simp [hls, hca, Nat.add_mul]; done) | (simp [hls, hca, Nat.add_mul]; omega)) (by first | exact LewS.refl _ | simp [hls, hca, Nat.add_mul]) (by simp [BelL, Bel, hls, hca, Nat.add_mul]) (by simp [BelS, BelOb, BelL, Bel, hls, hca, Nat.add_mul])) ⟨(i + 1), ?_, rfl, rfl⟩
            omega
          · have hi : i = ls.length := by omega
            subst hi
            rw [hall] at hcl ⊢
            have hct : List.take ((ls.flatMap (·.2)).length * 2) (cellE (ls.flatMap (·.2))) = cellE (ls.flatMap (·.2)) := List.take_of_length_le (by omega)
            generalize ls.flatMap (·.2) = R at *
            repeat' first
              | refine jw_ret (hQ _ _ (.inr rfl) ⟨5, _, _, rfl, rfl, ?_⟩)
              | refine jw_ret (hQ _ _ (.inr rfl) ⟨_, rfl, ?_⟩)
              | refine jw_seq_k fun K hK => ?_
              | refine jw_block ?_
              | ((first | refine jw_skip ?_ | refine jw_exit ?_); try simp)
              | (refine jw_cond rfl (fun hc => ?_) (fun hc => ?_) <;> (try simp at hc) <;> (try (exfalso; first | omega | exact absurd hc (by assumption))))
              | ((fail_if_success (refine jw_c (id := 15) ?_)); (refine jw_c ?_; simp (maxSteps := 1000000) [hlt]))
              | ((fail_if_success (refine jw_draw_j (id := 15) mixed (by kernel_rfl) ?_)); (refine jw_draw_j mixed (by kernel_rfl) ?_; simp (maxSteps := 1000000) [hlt]))
              | (first | (apply hK; clear hK) | (clear hK; apply hK; clear hK) | (clear hK; clear hK; apply hK; clear hK) | (clear hK; clear hK; clear hK; apply hK; clear hK))
              | exact hQ _ _ (.inl rfl) ⟨5, _, _, rfl, rfl, rfl⟩
              | refine hQ _ _ (.inl rfl) ⟨5, _, _, rfl, rfl, ?_⟩
              | refine hQ _ _ (.inl rfl) ⟨_, rfl, ?_⟩
              | ((first | refine jd_newc rfl rfl (by simp) ?_ | refine okN_or ?_); simp (maxSteps := 1000000) [thD, thL, hlt])
              | ((first | refine okC_guard (fun hc => ?_) (fun hc => ?_) | refine okJ_guard (fun hc => ?_) (fun hc => ?_)) <;> (first | have hd := of_decide_eq_true hc | have hd := of_decide_eq_false hc | have hd := hc) <;> simp (maxSteps := 1000000) [hc, hd, hlt] <;> (try simp at hc) <;> (try (exfalso; first | omega | exact absurd hc (by assumption))))
              | (refine And.intro (by first | assumption | omega | (simp [BelL, Bel]; done) | (simp; omega)) ?_; try simp (maxSteps := 1000000) [hlt])
              | (refine okC_or ?_; simp (maxSteps := 1000000) [hlt])
            (refine jw_view (view_frz 1 _ rfl (by simp [BelL, Bel, hct, hcl, thL_flat])) ?_; simp (maxSteps := 1000000) [thL, thD, thS, thOb, hct, hcl, thL_flat])
            repeat' first
              | refine jw_seq_k fun K hK => ?_
              | refine jw_block ?_
              | ((first | refine jw_skip ?_ | refine jw_exit ?_); try simp)
              | (refine jw_cond rfl (fun hc => ?_) (fun hc => ?_) <;> (try simp at hc) <;> (try (exfalso; first | omega | exact absurd hc (by assumption))))
              | ((first | refine jw_c ?_ | refine jw_draw_j mixed (by kernel_rfl) ?_); simp (maxSteps := 1000000) [ensD])
              | (first | (apply hK; clear hK) | (clear hK; apply hK; clear hK) | (clear hK; clear hK; apply hK; clear hK) | (clear hK; clear hK; clear hK; apply hK; clear hK))
              | ((first | refine jw_ret (hQ _ _ (.inr rfl) (ret_ok 0 ?_ (by first | omega | simp))) | refine hQ _ _ (.inl rfl) (ret_ok 0 ?_ (by first | omega | simp))); simp (maxSteps := 1000000) [okRet, BelL, Bel, BelS, BelOb, ensD])
              | ((first | refine jd_newc rfl rfl (by simp) ?_ | refine okN_or ?_); simp (maxSteps := 1000000) [thD, thL, ensD])
              | ((first | refine okC_guard (fun hc => ?_) (fun hc => ?_) | refine okJ_guard (fun hc => ?_) (fun hc => ?_)) <;> (first | have hd := of_decide_eq_true hc | have hd := of_decide_eq_false hc | have hd := hc) <;> simp (maxSteps := 1000000) [hc, hd, ensD] <;> (try simp at hc) <;> (try (exfalso; first | omega | exact absurd hc (by assumption))))
              | (refine And.intro (by first | assumption | omega | (simp [BelL, Bel]; done) | (simp; omega)) ?_; try simp (maxSteps := 1000000) [ensD])
              | (refine okC_or ?_; simp (maxSteps := 1000000) [ensD])
        · simp
  · simp

/-! ### slices.Concat, over nodes -/
def slK (p : Bool × List T) : D := ksD p.1 p.2
@[simp] theorem belL_slK (n : Nat) (ls : List (Bool × List T)) : BelL n (ls.map slK) := by
  induction ls with
  | nil => trivial
  | cons p ls ih => exact ⟨bel_ksD n p.1 p.2, ih⟩
def catK (ls : List (Bool × List T)) (k : Nat) : List T := (ls.take k).flatMap (·.2)
theorem catK_succ {ls : List (Bool × List T)} {k : Nat} (h : k < ls.length) : catK ls (k + 1) = catK ls k ++ ls[k].2 := by
  unfold catK
  rw [List.take_succ_eq_append_getElem h, List.flatMap_append]; simp
theorem catK_le (ls : List (Bool × List T)) (k : Nat) : (catK ls k).length ≤ (ls.flatMap (·.2)).length := by
  have := congrArg List.length (congrArg (List.flatMap (·.2)) (List.take_append_drop k ls))
  rw [List.flatMap_append, List.length_append] at this
  unfold catK; omega
theorem apK : appT Try.prog 57 3 = none := by kernel_rfl
theorem growK {G : Globals} (n : Nat) (hn : 0 < n) (hn2 : n ≤ 100000) (σ : Store) : FC Try.prog G 50 [.nsl, .int .i64 n] σ (fun d σ' => d = .ms (σ.length + 1) 0 0 0 1 ∧ σ' = σ ++ [none, some (.c [])]) := by
  refine fc_enter_k Try.func50 rfl rfl fun Q hQ => ?_
  ((repeat refine jw_seq_k fun K hK => ?_); refine jw_reg ?_; simp (maxSteps := 1000000) [Try.f50]; (first | (apply hK; clear hK) | (clear hK; apply hK; clear hK) | (clear hK; clear hK; apply hK; clear hK) | (clear hK; clear hK; clear hK; apply hK; clear hK) | (clear hK; clear hK; clear hK; clear hK; apply hK; clear hK) | (clear hK; clear hK; clear hK; clear hK; clear hK; apply hK; clear hK) | (clear hK; clear hK; clear hK; clear hK; clear hK; clear hK; apply hK; clear hK)))
  ((repeat refine jw_seq_k fun K hK => ?_); refine jw_reg ?_; simp (maxSteps := 1000000); (first | (apply hK; clear hK) | (clear hK; apply hK; clear hK) | (clear hK; clear hK; apply hK; clear hK) | (clear hK; clear hK; clear hK; apply hK; clear hK) | (clear hK; clear hK; clear hK; clear hK; apply hK; clear hK) | (clear hK; clear hK; clear hK; clear hK; clear hK; apply hK; clear hK) | (clear hK; clear hK; clear hK; clear hK; clear hK; clear hK; apply hK; clear hK)))
  (repeat refine jw_seq_k fun K hK => ?_); refine jw_cond (t := false) ?_ (fun h => by cases h) (fun _ => ?_)
  · simp
  (refine jw_skip ?_; simp; (first | (apply hK; clear hK) | (clear hK; apply hK; clear hK) | (clear hK; clear hK; apply hK; clear hK) | (clear hK; clear hK; clear hK; apply hK; clear hK) | (clear hK; clear hK; clear hK; clear hK; apply hK; clear hK) | (clear hK; clear hK; clear hK; clear hK; clear hK; apply hK; clear hK) | (clear hK; clear hK; clear hK; clear hK; clear hK; clear hK; apply hK; clear hK)))
  ((repeat refine jw_seq_k fun K hK => ?_); refine jw_reg ?_; simp (maxSteps := 1000000) [wrap_i64 (n := (n : Int)) (by omega) (by omega)]; (first | (apply hK; clear hK) | (clear hK; apply hK; clear hK) | (clear hK; clear hK; apply hK; clear hK) | (clear hK; clear hK; clear hK; apply hK; clear hK) | (clear hK; clear hK; clear hK; clear hK; apply hK; clear hK) | (clear hK; clear hK; clear hK; clear hK; clear hK; apply hK; clear hK) | (clear hK; clear hK; clear hK; clear hK; clear hK; clear hK; apply hK; clear hK)))
  ((repeat refine jw_seq_k fun K hK => ?_); refine jw_reg ?_; simp (maxSteps := 1000000); (first | (apply hK; clear hK) | (clear hK; apply hK; clear hK) | (clear hK; clear hK; apply hK; clear hK) | (clear hK; clear hK; clear hK; apply hK; clear hK) | (clear hK; clear hK; clear hK; clear hK; apply hK; clear hK) | (clear hK; clear hK; clear hK; clear hK; clear hK; apply hK; clear hK) | (clear hK; clear hK; clear hK; clear hK; clear hK; clear hK; apply hK; clear hK)))
  (repeat refine jw_seq_k fun K hK => ?_); refine jw_cond (t := true) ?_ (fun _ => ?_) (fun h => by cases h)
  · simp; omega
  · (repeat refine jw_seq_k fun K hK => ?_)
    refine jw_region ?_
    refine jl_pre 8 ?_
    simp [hn, show (n : Int) ≤ 140737488355328 by omega, show (n : Int) * 8 ≤ 140737488355328 by omega, show n * 8 ≤ 140737488355328 by omega, apK]
    refine jl_slice0 rfl rfl rfl rfl rfl un57 sz61 (List.getElem?_concat_length ..) (by simp) hn ?_
    simp [set_last]
    (first | (apply hK; clear hK) | (clear hK; apply hK; clear hK) | (clear hK; clear hK; apply hK; clear hK) | (clear hK; clear hK; clear hK; apply hK; clear hK) | (clear hK; clear hK; clear hK; clear hK; apply hK; clear hK) | (clear hK; clear hK; clear hK; clear hK; clear hK; apply hK; clear hK) | (clear hK; clear hK; clear hK; clear hK; clear hK; clear hK; apply hK; clear hK))
    ((repeat refine jw_seq_k fun K hK => ?_); refine jw_reg ?_; simp (maxSteps := 1000000); (first | (apply hK; clear hK) | (clear hK; apply hK; clear hK) | (clear hK; clear hK; apply hK; clear hK) | (clear hK; clear hK; clear hK; apply hK; clear hK) | (clear hK; clear hK; clear hK; clear hK; apply hK; clear hK) | (clear hK; clear hK; clear hK; clear hK; clear hK; apply hK; clear hK) | (clear hK; clear hK; clear hK; clear hK; clear hK; clear hK; apply hK; clear hK)))
    exact jw_ret (hQ _ _ (.inr rfl) ⟨_, rfl, rfl, rfl⟩)
theorem grow0K {G : Globals} (σ : Store) : FC Try.prog G 50 [.nsl, .int .i64 0] σ (fun d σ' => d = .nsl ∧ σ' = σ) := by
  refine fc_enter_k Try.func50 rfl rfl fun Q hQ => ?_
  ((repeat refine jw_seq_k fun K hK => ?_); refine jw_reg ?_; simp (maxSteps := 1000000) [Try.f50]; (first | (apply hK; clear hK) | (clear hK; apply hK; clear hK) | (clear hK; clear hK; apply hK; clear hK) | (clear hK; clear hK; clear hK; apply hK; clear hK) | (clear hK; clear hK; clear hK; clear hK; apply hK; clear hK) | (clear hK; clear hK; clear hK; clear hK; clear hK; apply hK; clear hK) | (clear hK; clear hK; clear hK; clear hK; clear hK; clear hK; apply hK; clear hK)))
  ((repeat refine jw_seq_k fun K hK => ?_); refine jw_reg ?_; simp (maxSteps := 1000000); (first | (apply hK; clear hK) | (clear hK; apply hK; clear hK) | (clear hK; clear hK; apply hK; clear hK) | (clear hK; clear hK; clear hK; apply hK; clear hK) | (clear hK; clear hK; clear hK; clear hK; apply hK; clear hK) | (clear hK; clear hK; clear hK; clear hK; clear hK; apply hK; clear hK) | (clear hK; clear hK; clear hK; clear hK; clear hK; clear hK; apply hK; clear hK)))
  (repeat refine jw_seq_k fun K hK => ?_); refine jw_cond (t := false) ?_ (fun h => by cases h) (fun _ => ?_)
  · simp
  (refine jw_skip ?_; simp; (first | (apply hK; clear hK) | (clear hK; apply hK; clear hK) | (clear hK; clear hK; apply hK; clear hK) | (clear hK; clear hK; clear hK; apply hK; clear hK) | (clear hK; clear hK; clear hK; clear hK; apply hK; clear hK) | (clear hK; clear hK; clear hK; clear hK; clear hK; apply hK; clear hK) | (clear hK; clear hK; clear hK; clear hK; clear hK; clear hK; apply hK; clear hK)))
  ((repeat refine jw_seq_k fun K hK => ?_); refine jw_reg ?_; simp (maxSteps := 1000000); (first | (apply hK; clear hK) | (clear hK; apply hK; clear hK) | (clear hK; clear hK; apply hK; clear hK) | (clear hK; clear hK; clear hK; apply hK; clear hK) | (clear hK; clear hK; clear hK; clear hK; apply hK; clear hK) | (clear hK; clear hK; clear hK; clear hK; clear hK; apply hK; clear hK) | (clear hK; clear hK; clear hK; clear hK; clear hK; clear hK; apply hK; clear hK)))
  ((repeat refine jw_seq_k fun K hK => ?_); refine jw_reg ?_; simp (maxSteps := 1000000); (first | (apply hK; clear hK) | (clear hK; apply hK; clear hK) | (clear hK; clear hK; apply hK; clear hK) | (clear hK; clear hK; clear hK; apply hK; clear hK) | (clear hK; clear hK; clear hK; clear hK; apply hK; clear hK) | (clear hK; clear hK; clear hK; clear hK; clear hK; apply hK; clear hK) | (clear hK; clear hK; clear hK; clear hK; clear hK; clear hK; apply hK; clear hK)))
  (repeat refine jw_seq_k fun K hK => ?_); refine jw_cond (t := false) ?_ (fun h => by cases h) (fun _ => ?_)
  · simp
  (refine jw_skip ?_; simp; (first | (apply hK; clear hK) | (clear hK; apply hK; clear hK) | (clear hK; clear hK; apply hK; clear hK) | (clear hK; clear hK; clear hK; apply hK; clear hK) | (clear hK; clear hK; clear hK; clear hK; apply hK; clear hK) | (clear hK; clear hK; clear hK; clear hK; clear hK; apply hK; clear hK) | (clear hK; clear hK; clear hK; clear hK; clear hK; clear hK; apply hK; clear hK)))
  ((repeat refine jw_seq_k fun K hK => ?_); refine jw_reg ?_; simp (maxSteps := 1000000); (first | (apply hK; clear hK) | (clear hK; apply hK; clear hK) | (clear hK; clear hK; apply hK; clear hK) | (clear hK; clear hK; clear hK; apply hK; clear hK) | (clear hK; clear hK; clear hK; clear hK; apply hK; clear hK) | (clear hK; clear hK; clear hK; clear hK; clear hK; apply hK; clear hK) | (clear hK; clear hK; clear hK; clear hK; clear hK; clear hK; apply hK; clear hK)))
  exact jw_ret (hQ _ _ (.inr rfl) ⟨_, rfl, rfl, rfl⟩)
theorem concatK {G : Globals} (fl : Bool) (ls : List (Bool × List T)) (hT1 : (ls.flatMap (·.2)).length ≤ 100000) (hn : ls.length ≤ 100000) :
    FV Try.prog G 42 [.sl fl (ls.map slK) ls.length] (fun r => r = ksD false (ls.flatMap (·.2))) := by
  refine fv_to ?_
  refine fv_enter_v Try.func42 rfl rfl fun Q hQ => ?_
  have hall : catK ls ls.length = ls.flatMap (·.2) := by unfold catK; rw [List.take_length]
  repeat' first
    | refine jw_ret (hQ _ _ (.inr rfl) ⟨5, _, _, rfl, rfl, ?_⟩)
    | refine jw_ret (hQ _ _ (.inr rfl) ⟨_, rfl, ?_⟩)
    | refine jw_seq_k fun K hK => ?_
    | refine jw_block ?_
    | ((first | refine jw_skip ?_ | refine jw_exit ?_); try simp)
    | (refine jw_cond rfl (fun hc => ?_) (fun hc => ?_) <;> (try simp at hc) <;> (try (exfalso; first | omega | exact absurd hc (by assumption))))
    | ((first | refine jw_c ?_ | refine jw_draw_j mixed (by kernel_rfl) ?_); simp (maxSteps := 1000000) [Try.f42])
    | (first | (apply hK; clear hK) | (clear hK; apply hK; clear hK) | (clear hK; clear hK; apply hK; clear hK) | (clear hK; clear hK; clear hK; apply hK; clear hK))
    | exact hQ _ _ (.inl rfl) ⟨5, _, _, rfl, rfl, rfl⟩
    | refine hQ _ _ (.inl rfl) ⟨5, _, _, rfl, rfl, ?_⟩
    | refine hQ _ _ (.inl rfl) ⟨_, rfl, ?_⟩
    | ((first | refine jd_newc rfl rfl (by simp) ?_ | refine okN_or ?_); simp (maxSteps := 1000000) [thD, thL, Try.f42])
    | ((first | refine okC_guard (fun hc => ?_) (fun hc => ?_) | refine okJ_guard (fun hc => ?_) (fun hc => ?_)) <;> (first | have hd := of_decide_eq_true hc | have hd := of_decide_eq_false hc | have hd := hc) <;> simp (maxSteps := 1000000) [hc, hd, Try.f42] <;> (try simp at hc) <;> (try (exfalso; first | omega | exact absurd hc (by assumption))))
    | (refine And.intro (by first | assumption | omega | (simp [BelL, Bel]; done) | (simp; omega)) ?_; try simp (maxSteps := 1000000) [Try.f42])
    | (refine okC_or ?_; simp (maxSteps := 1000000) [Try.f42])
  refine jw_loop_v (fun m z => ∃ (i : Nat), (i ≤ ls.length) ∧ ls.length - i = m ∧ z = ⟨[.sl fl (ls.map slK) ls.length, .any, .any, .int .i64 ((catK ls i).length : Nat)] ++ List.replicate 5 .any ++ [.sl fl (ls.map slK) ls.length, .int .i64 ls.length, .int .i64 i] ++ List.replicate 24 .any, []⟩) ⟨[.sl fl (ls.map slK) ls.length, .any, .any, .int .i64 ((catK ls (0)).length : Nat)] ++ List.replicate 5 .any ++ [.sl fl (ls.map slK) ls.length, .int .i64 ls.length, .int .i64 (0)] ++ List.replicate 24 .any, []⟩ (view_takeE (sl := [.sl fl (ls.map slK) ls.length, .any, .any, .int .i64 ((catK ls (0)).length : Nat)] ++ List.replicate 5 .any ++ [.sl fl (ls.map slK) ls.length, .int .i64 ls.length, .int .i64 (0)] ++ List.replicate 24 .any) (σ0 := []) 0 (by simp [show catK ls 0 = [] from rfl]) (by first | omega | simp) (by first | omega | (simp [show catK ls 0 = [] from rfl]; done) | (simp [show catK ls 0 = [] from rfl]; omega)) (by first | exact LewS.refl _ | simp [show catK ls 0 = [] from rfl]) (by simp [BelL, Bel, show catK ls 0 = [] from rfl]) (by simp [BelS, BelOb, BelL, Bel, show catK ls 0 = [] from rfl])) ⟨(0), ?_, rfl, rfl⟩ ?_
  rotate_left
  rintro m z ⟨i, hA, rfl, rfl⟩ KA hKA
  · have hw := wrap_i64 (n := (i : Int) + 1) (by omega) (by omega)
    have hle := catK_le ls (i + 1)
    have hle0 := catK_le ls i
    have hsu := catK_succ (ls := ls) (k := i)
    generalize hC : (ls.flatMap (·.2)).length = C at *
    by_cases hlt : i < ls.length
    · have hsu := hsu hlt
      have hg : (ls.map slK)[i]? = some (ksD ls[i].1 ls[i].2) := by rw [List.getElem?_map, List.getElem?_eq_getElem hlt]; rfl
      have hgg := fun h => get_of hg h
      have hls := congrArg List.length hsu
      rw [List.length_append] at hls
      have hw2 := wrap_i64 (n := ((catK ls i).length : Int) + (ls[i].2.length : Int)) (by omega) (by omega)
      have e2 : ((catK ls i).length : Int) + (ls[i].2.length : Int) = ((catK ls (i + 1)).length : Nat) := by omega
      rw [e2] at hw2
      obtain ⟨p, hp⟩ : ∃ p, ls[i] = p := ⟨_, rfl⟩
      rw [hp] at hg e2 hls
      simp only [hp] at hgg
      generalize (catK ls i).length = N0 at *
      repeat' first
        | refine jw_ret (hQ _ _ (.inr rfl) ⟨5, _, _, rfl, rfl, ?_⟩)
        | refine jw_ret (hQ _ _ (.inr rfl) ⟨_, rfl, ?_⟩)
        | refine jw_seq_k fun K hK => ?_
        | refine jw_block ?_
        | ((first | refine jw_skip ?_ | refine jw_exit ?_); try simp)
        | (refine jw_cond rfl (fun hc => ?_) (fun hc => ?_) <;> (try simp at hc) <;> (try (exfalso; first | omega | exact absurd hc (by assumption))))
        | ((first | refine jw_c ?_ | refine jw_draw_j mixed (by kernel_rfl) ?_); simp (maxSteps := 1000000) [hlt, hg, hgg, ksD, hw, hw2, e2, show ¬ (((catK ls (i + 1)).length : Nat) : Int) < 0 by omega])
        | (first | (apply hK; clear hK) | (clear hK; apply hK; clear hK) | (clear hK; clear hK; apply hK; clear hK) | (clear hK; clear hK; clear hK; apply hK; clear hK))
        | exact hQ _ _ (.inl rfl) ⟨5, _, _, rfl, rfl, rfl⟩
        | refine hQ _ _ (.inl rfl) ⟨5, _, _, rfl, rfl, ?_⟩
        | refine hQ _ _ (.inl rfl) ⟨_, rfl, ?_⟩
        | ((first | refine jd_newc rfl rfl (by simp) ?_ | refine okN_or ?_); simp (maxSteps := 1000000) [thD, thL, hlt, hg, hgg, ksD, hw, hw2, e2, show ¬ (((catK ls (i + 1)).length : Nat) : Int) < 0 by omega])
        | ((first | refine okC_guard (fun hc => ?_) (fun hc => ?_) | refine okJ_guard (fun hc => ?_) (fun hc => ?_)) <;> (first | have hd := of_decide_eq_true hc | have hd := of_decide_eq_false hc | have hd := hc) <;> simp (maxSteps := 1000000) [hc, hd, hlt, hg, hgg, ksD, hw, hw2, e2, show ¬ (((catK ls (i + 1)).length : Nat) : Int) < 0 by omega] <;> (try simp at hc) <;> (try (exfalso; first | omega | exact absurd hc (by assumption))))
        | (refine And.intro (by first | assumption | omega | (simp [BelL, Bel]; done) | (simp; omega)) ?_; try simp (maxSteps := 1000000) [hlt, hg, hgg, ksD, hw, hw2, e2, show ¬ (((catK ls (i + 1)).length : Nat) : Int) < 0 by omega])
        | (refine okC_or ?_; simp (maxSteps := 1000000) [hlt, hg, hgg, ksD, hw, hw2, e2, show ¬ (((catK ls (i + 1)).length : Nat) : Int) < 0 by omega])
      refine hKA (ls.length - (i + 1)) _ ⟨[.sl fl (ls.map slK) ls.length, .any, .any, .int .i64 ((catK ls (i + 1)).length : Nat)] ++ List.replicate 5 .any ++ [.sl fl (ls.map slK) ls.length, .int .i64 ls.length, .int .i64 (i + 1)] ++ List.replicate 24 .any, []⟩ (by omega) (view_takeE (sl := [.sl fl (ls.map slK) ls.length, .any, .any, .int .i64 ((catK ls (i + 1)).length : Nat)] ++ List.replicate 5 .any ++ [.sl fl (ls.map slK) ls.length, .int .i64 ls.length, .int .i64 (i + 1)] ++ List.replicate 24 .any) (σ0 := []) 0 (by simp [hls, Int.natCast_add]) (by first | omega | simp) (by first | omega | (simp [hls, Int.natCast_add]; done) | (simp [hls, Int.natCast_add]; omega)) (by first | exact LewS.refl _ | simp [hls, Int.natCast_add]) (by simp [BelL, Bel, hls, Int.natCast_add]) (by simp [BelS, BelOb, BelL, Bel, hls, Int.natCast_add])) ⟨(i + 1), ?_, rfl, rfl⟩
      omega
    · have hi : i = ls.length := by omega
      subst hi
      have hcC : (catK ls ls.length).length = C := by rw [hall, hC]
      by_cases h0 : C = 0
      · have hC0 : (ls.flatMap (·.2)).length = 0 := by rw [hC, h0]
        have hr : ls.flatMap (·.2) = [] := List.length_eq_zero_iff.1 hC0
        rw [hr] at hQ
        rw [h0] at hcC
        clear hC hle hle0 hsu
        repeat' first
          | refine jw_ret (hQ _ _ (.inr rfl) ⟨5, _, _, rfl, rfl, ?_⟩)
          | refine jw_ret (hQ _ _ (.inr rfl) ⟨_, rfl, ?_⟩)
          | refine jw_seq_k fun K hK => ?_
          | refine jw_block ?_
          | ((first | refine jw_skip ?_ | refine jw_exit ?_); try simp)
          | (refine jw_cond rfl (fun hc => ?_) (fun hc => ?_) <;> (try simp at hc) <;> (try (exfalso; first | omega | exact absurd hc (by assumption))))
          | ((fail_if_success (refine jw_c (id := 9) ?_)); (refine jw_c ?_; simp (maxSteps := 1000000) [hlt, hcC]))
          | ((fail_if_success (refine jw_draw_j (id := 9) mixed (by kernel_rfl) ?_)); (refine jw_draw_j mixed (by kernel_rfl) ?_; simp (maxSteps := 1000000) [hlt, hcC]))
          | (first | (apply hK; clear hK) | (clear hK; apply hK; clear hK) | (clear hK; clear hK; apply hK; clear hK) | (clear hK; clear hK; clear hK; apply hK; clear hK))
          | exact hQ _ _ (.inl rfl) ⟨5, _, _, rfl, rfl, rfl⟩
          | refine hQ _ _ (.inl rfl) ⟨5, _, _, rfl, rfl, ?_⟩
          | refine hQ _ _ (.inl rfl) ⟨_, rfl, ?_⟩
          | ((first | refine jd_newc rfl rfl (by simp) ?_ | refine okN_or ?_); simp (maxSteps := 1000000) [thD, thL, hlt, hcC])
          | ((first | refine okC_guard (fun hc => ?_) (fun hc => ?_) | refine okJ_guard (fun hc => ?_) (fun hc => ?_)) <;> (first | have hd := of_decide_eq_true hc | have hd := of_decide_eq_false hc | have hd := hc) <;> simp (maxSteps := 1000000) [hc, hd, hlt, hcC] <;> (try simp at hc) <;> (try (exfalso; first | omega | exact absurd hc (by assumption))))
          | (refine And.intro (by first | assumption | omega | (simp [BelL, Bel]; done) | (simp; omega)) ?_; try simp (maxSteps := 1000000) [hlt, hcC])
          | (refine okC_or ?_; simp (maxSteps := 1000000) [hlt, hcC])
        repeat' first
          | refine jw_ret (hQ _ _ (.inr rfl) ⟨5, _, _, rfl, rfl, ?_⟩)
          | refine jw_ret (hQ _ _ (.inr rfl) ⟨_, rfl, ?_⟩)
          | refine jw_seq_k fun K hK => ?_
          | refine jw_block ?_
          | ((first | refine jw_skip ?_ | refine jw_exit ?_); try simp)
          | (refine jw_cond rfl (fun hc => ?_) (fun hc => ?_) <;> (try simp at hc) <;> (try (exfalso; first | omega | exact absurd hc (by assumption))))
          | ((first | refine jw_c ?_ | refine jw_draw_j mixed (by kernel_rfl) ?_ | (refine jl_fc (f := 50) rfl rfl rfl rfl rfl (grow0K _) ?_; rintro r σ' ⟨rfl, rfl⟩)); simp (maxSteps := 1000000) [hlt, hcC])
          | (first | (apply hK; clear hK) | (clear hK; apply hK; clear hK) | (clear hK; clear hK; apply hK; clear hK) | (clear hK; clear hK; clear hK; apply hK; clear hK))
          | exact hQ _ _ (.inl rfl) ⟨5, _, _, rfl, rfl, rfl⟩
          | refine hQ _ _ (.inl rfl) ⟨5, _, _, rfl, rfl, ?_⟩
          | refine hQ _ _ (.inl rfl) ⟨_, rfl, ?_⟩
          | ((first | refine jd_newc rfl rfl (by simp) ?_ | refine okN_or ?_); simp (maxSteps := 1000000) [thD, thL, hlt, hcC])
          | ((first | refine okC_guard (fun hc => ?_) (fun hc => ?_) | refine okJ_guard (fun hc => ?_) (fun hc => ?_)) <;> (first | have hd := of_decide_eq_true hc | have hd := of_decide_eq_false hc | have hd := hc) <;> simp (maxSteps := 1000000) [hc, hd, hlt, hcC] <;> (try simp at hc) <;> (try (exfalso; first | omega | exact absurd hc (by assumption))))
          | (refine And.intro (by first | assumption | omega | (simp [BelL, Bel]; done) | (simp; omega)) ?_; try simp (maxSteps := 1000000) [hlt, hcC])
          | (refine okC_or ?_; simp (maxSteps := 1000000) [hlt, hcC])
        refine jw_loop_v (fun m z => ∃ (i : Nat), (i ≤ ls.length) ∧ ls.length - i = m ∧ z = ⟨List.replicate 6 .any ++ [.ms 0 0 0 0 1] ++ List.replicate 18 .any ++ [.sl fl (ls.map slK) ls.length, .int .i64 ls.length, .int .i64 i] ++ List.replicate 8 .any, [some (.c [])]⟩) ⟨List.replicate 6 .any ++ [.ms 0 0 0 0 1] ++ List.replicate 18 .any ++ [.sl fl (ls.map slK) ls.length, .int .i64 ls.length, .int .i64 (0)] ++ List.replicate 8 .any, [some (.c [])]⟩ ((view_nil 6 1 rfl).trans (view_takeE (sl := List.replicate 6 .any ++ [.ms 0 0 0 0 1] ++ List.replicate 18 .any ++ [.sl fl (ls.map slK) ls.length, .int .i64 ls.length, .int .i64 (0)] ++ List.replicate 8 .any) (σ0 := [some (.c [])]) 1 (by simp [show catK ls 0 = [] from rfl, thL, thD, thS, thOb]) (by first | omega | simp) (by first | omega | (simp [show catK ls 0 = [] from rfl, thL, thD, thS, thOb]; done) | (simp [show catK ls 0 = [] from rfl, thL, thD, thS, thOb]; omega)) (by first | exact LewS.refl _ | simp [show catK ls 0 = [] from rfl, thL, thD, thS, thOb]) (by simp [BelL, Bel, thL, thD, thS, thOb, show catK ls 0 = [] from rfl]) (by simp [BelS, BelOb, BelL, Bel, thL, thD, thS, thOb, show catK ls 0 = [] from rfl]))) ⟨(0), ?_, rfl, rfl⟩ ?_
        rotate_left
        rintro m z ⟨i, hB, rfl, rfl⟩ KB hKB
        · have hw := wrap_i64 (n := (i : Int) + 1) (by omega) (by omega)
          have hle := catK_le ls (i + 1)
          have hsu := catK_succ (ls := ls) (k := i)
          rw [hC0] at hle
          by_cases hlt : i < ls.length
          · have hg : (ls.map slK)[i]? = some (ksD ls[i].1 ls[i].2) := by rw [List.getElem?_map, List.getElem?_eq_getElem hlt]; rfl
            have hgg := fun h => get_of hg h
            have hls := congrArg List.length (hsu hlt)
            rw [List.length_append] at hls
            have h00 : ls[i].2 = [] := List.length_eq_zero_iff.1 (by omega)
            obtain ⟨p, hp⟩ : ∃ p, ls[i] = p := ⟨_, rfl⟩
            rw [hp] at hg h00
            simp only [hp] at hgg
            obtain ⟨pf, pe⟩ := p
            dsimp only at h00
            subst h00
            repeat' first
              | refine jw_ret (hQ _ _ (.inr rfl) ⟨5, _, _, rfl, rfl, ?_⟩)
              | refine jw_ret (hQ _ _ (.inr rfl) ⟨_, rfl, ?_⟩)
              | refine jw_seq_k fun K hK => ?_
              | refine jw_block ?_
              | ((first | refine jw_skip ?_ | refine jw_exit ?_); try simp)
              | (refine jw_cond rfl (fun hc => ?_) (fun hc => ?_) <;> (try simp at hc) <;> (try (exfalso; first | omega | exact absurd hc (by assumption))))
              | ((first | refine jw_c ?_ | refine jw_draw_j mixed (by kernel_rfl) ?_); simp (maxSteps := 1000000) [hlt, hg, hgg, ksD, hw, okCell, tDs])
              | (first | (apply hK; clear hK) | (clear hK; apply hK; clear hK) | (clear hK; clear hK; apply hK; clear hK) | (clear hK; clear hK; clear hK; apply hK; clear hK))
              | exact hQ _ _ (.inl rfl) ⟨5, _, _, rfl, rfl, rfl⟩
              | refine hQ _ _ (.inl rfl) ⟨5, _, _, rfl, rfl, ?_⟩
              | refine hQ _ _ (.inl rfl) ⟨_, rfl, ?_⟩
              | ((first | refine jd_newc rfl rfl (by simp) ?_ | refine okN_or ?_); simp (maxSteps := 1000000) [thD, thL, hlt, hg, hgg, ksD, hw, okCell, tDs])
              | ((first | refine okC_guard (fun hc => ?_) (fun hc => ?_) | refine okJ_guard (fun hc => ?_) (fun hc => ?_)) <;> (first | have hd := of_decide_eq_true hc | have hd := of_decide_eq_false hc | have hd := hc) <;> simp (maxSteps := 1000000) [hc, hd, hlt, hg, hgg, ksD, hw, okCell, tDs] <;> (try simp at hc) <;> (try (exfalso; first | omega | exact absurd hc (by assumption))))
              | (refine And.intro (by first | assumption | omega | (simp [BelL, Bel]; done) | (simp; omega)) ?_; try simp (maxSteps := 1000000) [hlt, hg, hgg, ksD, hw, okCell, tDs])
              | (refine okC_or ?_; simp (maxSteps := 1000000) [hlt, hg, hgg, ksD, hw, okCell, tDs])
            refine hKB (ls.length - (i + 1)) _ ⟨List.replicate 6 .any ++ [.ms 0 0 0 0 1] ++ List.replicate 18 .any ++ [.sl fl (ls.map slK) ls.length, .int .i64 ls.length, .int .i64 (i + 1)] ++ List.replicate 8 .any, [some (.c [])]⟩ (by omega) (view_takeE (sl := List.replicate 6 .any ++ [.ms 0 0 0 0 1] ++ List.replicate 18 .any ++ [.sl fl (ls.map slK) ls.length, .int .i64 ls.length, .int .i64 (i + 1)] ++ List.replicate 8 .any) (σ0 := [some (.c [])]) 1 (by simp [hls]) (by first | omega | simp) (by first | omega | (simp [hls]; done) | (simp [hls]; omega)) (by first | exact LewS.refl _ | simp [hls]) (by simp [BelL, Bel, hls]) (by simp [BelS, BelOb, BelL, Bel, hls])) ⟨(i + 1), ?_, rfl, rfl⟩
            omega
          · repeat' first
              | refine jw_ret (hQ _ _ (.inr rfl) ⟨5, _, _, rfl, rfl, ?_⟩)
              | refine jw_ret (hQ _ _ (.inr rfl) ⟨_, rfl, ?_⟩)
              | refine jw_seq_k fun K hK => ?_
              | refine jw_block ?_
              | ((first | refine jw_skip ?_ | refine jw_exit ?_); try simp)
              | (refine jw_cond rfl (fun hc => ?_) (fun hc => ?_) <;> (try simp at hc) <;> (try (exfalso; first | omega | exact absurd hc (by assumption))))
              | ((fail_if_success (refine jw_c (id := 15) ?_)); (refine jw_c ?_; simp (maxSteps := 1000000) [hlt]))
              | ((fail_if_success (refine jw_draw_j (id := 15) mixed (by kernel_rfl) ?_)); (refine jw_draw_j mixed (by kernel_rfl) ?_; simp (maxSteps := 1000000) [hlt]))
              | (first | (apply hK; clear hK) | (clear hK; apply hK; clear hK) | (clear hK; clear hK; apply hK; clear hK) | (clear hK; clear hK; clear hK; apply hK; clear hK))
              | exact hQ _ _ (.inl rfl) ⟨5, _, _, rfl, rfl, rfl⟩
              | refine hQ _ _ (.inl rfl) ⟨5, _, _, rfl, rfl, ?_⟩
              | refine hQ _ _ (.inl rfl) ⟨_, rfl, ?_⟩
              | ((first | refine jd_newc rfl rfl (by simp) ?_ | refine okN_or ?_); simp (maxSteps := 1000000) [thD, thL, hlt])
              | ((first | refine okC_guard (fun hc => ?_) (fun hc => ?_) | refine okJ_guard (fun hc => ?_) (fun hc => ?_)) <;> (first | have hd := of_decide_eq_true hc | have hd := of_decide_eq_false hc | have hd := hc) <;> simp (maxSteps := 1000000) [hc, hd, hlt] <;> (try simp at hc) <;> (try (exfalso; first | omega | exact absurd hc (by assumption))))
              | (refine And.intro (by first | assumption | omega | (simp [BelL, Bel]; done) | (simp; omega)) ?_; try simp (maxSteps := 1000000) [hlt])
              | (refine okC_or ?_; simp (maxSteps := 1000000) [hlt])
            (refine jw_view (view_frz 0 _ rfl (by simp [BelL, Bel])) ?_; simp (maxSteps := 1000000) [thL, thD, thS, thOb])
            repeat' first
              | refine jw_seq_k fun K hK => ?_
              | refine jw_block ?_
              | ((first | refine jw_skip ?_ | refine jw_exit ?_); try simp)
              | (refine jw_cond rfl (fun hc => ?_) (fun hc => ?_) <;> (try simp at hc) <;> (try (exfalso; first | omega | exact absurd hc (by assumption))))
              | ((first | refine jw_c ?_ | refine jw_draw_j mixed (by kernel_rfl) ?_); simp (maxSteps := 1000000) [ksD, tDs])
              | (first | (apply hK; clear hK) | (clear hK; apply hK; clear hK) | (clear hK; clear hK; apply hK; clear hK) | (clear hK; clear hK; clear hK; apply hK; clear hK))
              | ((first | refine jw_ret (hQ _ _ (.inr rfl) (ret_ok 0 ?_ (by first | omega | simp))) | refine hQ _ _ (.inl rfl) (ret_ok 0 ?_ (by first | omega | simp))); simp (maxSteps := 1000000) [okRet, BelL, Bel, BelS, BelOb, ksD, tDs])
              | ((first | refine jd_newc rfl rfl (by simp) ?_ | refine okN_or ?_); simp (maxSteps := 1000000) [thD, thL, ksD, tDs])
              | ((first | refine okC_guard (fun hc => ?_) (fun hc => ?_) | refine okJ_guard (fun hc => ?_) (fun hc => ?_)) <;> (first | have hd := of_decide_eq_true hc | have hd := of_decide_eq_false hc | have hd := hc) <;> simp (maxSteps := 1000000) [hc, hd, ksD, tDs] <;> (try simp at hc) <;> (try (exfalso; first | omega | exact absurd hc (by assumption))))
              | (refine And.intro (by first | assumption | omega | (simp [BelL, Bel]; done) | (simp; omega)) ?_; try simp (maxSteps := 1000000) [ksD, tDs])
              | (refine okC_or ?_; simp (maxSteps := 1000000) [ksD, tDs])
        · simp
      · have hgr := growK (G := G) C (by omega) hT1
        clear hle hle0 hsu
        repeat' first
          | refine jw_ret (hQ _ _ (.inr rfl) ⟨5, _, _, rfl, rfl, ?_⟩)
          | refine jw_ret (hQ _ _ (.inr rfl) ⟨_, rfl, ?_⟩)
          | refine jw_seq_k fun K hK => ?_
          | refine jw_block ?_
          | ((first | refine jw_skip ?_ | refine jw_exit ?_); try simp)
          | (refine jw_cond rfl (fun hc => ?_) (fun hc => ?_) <;> (try simp at hc) <;> (try (exfalso; first | omega | exact absurd hc (by assumption))))
          | ((fail_if_success (refine jw_c (id := 9) ?_)); (refine jw_c ?_; simp (maxSteps := 1000000) [hlt, hcC]))
          | ((fail_if_success (refine jw_draw_j (id := 9) mixed (by kernel_rfl) ?_)); (refine jw_draw_j mixed (by kernel_rfl) ?_; simp (maxSteps := 1000000) [hlt, hcC]))
          | (first | (apply hK; clear hK) | (clear hK; apply hK; clear hK) | (clear hK; clear hK; apply hK; clear hK) | (clear hK; clear hK; clear hK; apply hK; clear hK))
          | exact hQ _ _ (.inl rfl) ⟨5, _, _, rfl, rfl, rfl⟩
          | refine hQ _ _ (.inl rfl) ⟨5, _, _, rfl, rfl, ?_⟩
          | refine hQ _ _ (.inl rfl) ⟨_, rfl, ?_⟩
          | ((first | refine jd_newc rfl rfl (by simp) ?_ | refine okN_or ?_); simp (maxSteps := 1000000) [thD, thL, hlt, hcC])
          | ((first | refine okC_guard (fun hc => ?_) (fun hc => ?_) | refine okJ_guard (fun hc => ?_) (fun hc => ?_)) <;> (first | have hd := of_decide_eq_true hc | have hd := of_decide_eq_false hc | have hd := hc) <;> simp (maxSteps := 1000000) [hc, hd, hlt, hcC] <;> (try simp at hc) <;> (try (exfalso; first | omega | exact absurd hc (by assumption))))
          | (refine And.intro (by first | assumption | omega | (simp [BelL, Bel]; done) | (simp; omega)) ?_; try simp (maxSteps := 1000000) [hlt, hcC])
          | (refine okC_or ?_; simp (maxSteps := 1000000) [hlt, hcC])
        repeat' first
          | refine jw_ret (hQ _ _ (.inr rfl) ⟨5, _, _, rfl, rfl, ?_⟩)
          | refine jw_ret (hQ _ _ (.inr rfl) ⟨_, rfl, ?_⟩)
          | refine jw_seq_k fun K hK => ?_
          | refine jw_block ?_
          | ((first | refine jw_skip ?_ | refine jw_exit ?_); try simp)
          | (refine jw_cond rfl (fun hc => ?_) (fun hc => ?_) <;> (try simp at hc) <;> (try (exfalso; first | omega | exact absurd hc (by assumption))))
          | ((first | refine jw_c ?_ | refine jw_draw_j mixed (by kernel_rfl) ?_ | (refine jl_fc (f := 50) rfl rfl rfl rfl rfl (hgr _) ?_; rintro r σ' ⟨rfl, rfl⟩)); simp (maxSteps := 1000000) [hlt, hcC])
          | (first | (apply hK; clear hK) | (clear hK; apply hK; clear hK) | (clear hK; clear hK; apply hK; clear hK) | (clear hK; clear hK; clear hK; apply hK; clear hK))
          | exact hQ _ _ (.inl rfl) ⟨5, _, _, rfl, rfl, rfl⟩
          | refine hQ _ _ (.inl rfl) ⟨5, _, _, rfl, rfl, ?_⟩
          | refine hQ _ _ (.inl rfl) ⟨_, rfl, ?_⟩
          | ((first | refine jd_newc rfl rfl (by simp) ?_ | refine okN_or ?_); simp (maxSteps := 1000000) [thD, thL, hlt, hcC])
          | ((first | refine okC_guard (fun hc => ?_) (fun hc => ?_) | refine okJ_guard (fun hc => ?_) (fun hc => ?_)) <;> (first | have hd := of_decide_eq_true hc | have hd := of_decide_eq_false hc | have hd := hc) <;> simp (maxSteps := 1000000) [hc, hd, hlt, hcC] <;> (try simp at hc) <;> (try (exfalso; first | omega | exact absurd hc (by assumption))))
          | (refine And.intro (by first | assumption | omega | (simp [BelL, Bel]; done) | (simp; omega)) ?_; try simp (maxSteps := 1000000) [hlt, hcC])
          | (refine okC_or ?_; simp (maxSteps := 1000000) [hlt, hcC])
        refine jw_loop_v (fun m z => ∃ (i : Nat), (i ≤ ls.length) ∧ ls.length - i = m ∧ z = ⟨List.replicate 6 .any ++ [.ms 1 ((catK ls i).length * 1) 0 (catK ls i).length 1] ++ List.replicate 18 .any ++ [.sl fl (ls.map slK) ls.length, .int .i64 ls.length, .int .i64 i] ++ List.replicate 8 .any, [none, some (.c (tDs (catK ls i)))]⟩) ⟨List.replicate 6 .any ++ [.ms 1 ((catK ls (0)).length * 1) 0 (catK ls (0)).length 1] ++ List.replicate 18 .any ++ [.sl fl (ls.map slK) ls.length, .int .i64 ls.length, .int .i64 (0)] ++ List.replicate 8 .any, [none, some (.c (tDs (catK ls (0))))]⟩ (view_takeE (sl := List.replicate 6 .any ++ [.ms 1 ((catK ls (0)).length * 1) 0 (catK ls (0)).length 1] ++ List.replicate 18 .any ++ [.sl fl (ls.map slK) ls.length, .int .i64 ls.length, .int .i64 (0)] ++ List.replicate 8 .any) (σ0 := [none, some (.c (tDs (catK ls (0))))]) 2 (by simp [show catK ls 0 = [] from rfl, show tDs [] = [] from rfl]) (by first | omega | simp) (by first | omega | (simp [show catK ls 0 = [] from rfl, show tDs [] = [] from rfl]; done) | (simp [show catK ls 0 = [] from rfl, show tDs [] = [] from rfl]; omega)) (by first | exact LewS.refl _ | simp [show catK ls 0 = [] from rfl, show tDs [] = [] from rfl]) (by simp [BelL, Bel, show catK ls 0 = [] from rfl, show tDs [] = [] from rfl]) (by simp [BelS, BelOb, BelL, Bel, show catK ls 0 = [] from rfl, show tDs [] = [] from rfl])) ⟨(0), ?_, rfl, rfl⟩ ?_
        rotate_left
        rintro m z ⟨i, hB, rfl, rfl⟩ KB hKB
        · have hw := wrap_i64 (n := (i : Int) + 1) (by omega) (by omega)
          have hle := catK_le ls (i + 1)
          have hle0 := catK_le ls i
          have hsu := catK_succ (ls := ls) (k := i)
          rw [hC] at hle hle0
          have hcl := tDs_len1 (catK ls i)
          by_cases hlt : i < ls.length
          · have hg : (ls.map slK)[i]? = some (ksD ls[i].1 ls[i].2) := by rw [List.getElem?_map, List.getElem?_eq_getElem hlt]; rfl
            have hgg := fun h => get_of hg h
            have hls := congrArg List.length (hsu hlt)
            have hsu := hsu hlt
            rw [List.length_append] at hls
            have hcl2 := tDs_len1 ls[i].2
            have hca := tDs_app (catK ls i) ls[i].2
            rw [← hsu] at hca
            have hok := tDs_ok ls[i].2
            have hct : List.take (ls[i].2.length * 1) (tDs ls[i].2) = tDs ls[i].2 := List.take_of_length_le (by omega)
            obtain ⟨p, hp⟩ : ∃ p, ls[i] = p := ⟨_, rfl⟩
            rw [hp] at hg hls hcl2 hca hct
            simp only [hp] at hgg hok
            generalize catK ls i = C0 at *
            repeat' first
              | refine jw_ret (hQ _ _ (.inr rfl) ⟨5, _, _, rfl, rfl, ?_⟩)
              | refine jw_ret (hQ _ _ (.inr rfl) ⟨_, rfl, ?_⟩)
              | refine jw_seq_k fun K hK => ?_
              | refine jw_block ?_
              | ((first | refine jw_skip ?_ | refine jw_exit ?_); try simp)
              | (refine jw_cond rfl (fun hc => ?_) (fun hc => ?_) <;> (try simp at hc) <;> (try (exfalso; first | omega | exact absurd hc (by assumption))))
              | ((first | refine jw_c ?_ | refine jw_draw_j mixed (by kernel_rfl) ?_); simp (maxSteps := 1000000) [hlt, hg, hgg, ksD, hw, hcl, hcl2, hct, hok, show C0.length * 1 + p.2.length * 1 ≤ 140737488355328 by omega, show (C0.length + p.2.length) * 8 ≤ 140737488355328 by omega, show C0.length + p.2.length ≤ 140737488355328 by omega])
              | (first | (apply hK; clear hK) | (clear hK; apply hK; clear hK) | (clear hK; clear hK; apply hK; clear hK) | (clear hK; clear hK; clear hK; apply hK; clear hK))
              | exact hQ _ _ (.inl rfl) ⟨5, _, _, rfl, rfl, rfl⟩
              | refine hQ _ _ (.inl rfl) ⟨5, _, _, rfl, rfl, ?_⟩
              | refine hQ _ _ (.inl rfl) ⟨_, rfl, ?_⟩
              | ((first | refine jd_newc rfl rfl (by simp) ?_ | refine okN_or ?_); simp (maxSteps := 1000000) [thD, thL, hlt, hg, hgg, ksD, hw, hcl, hcl2, hct, hok, show C0.length * 1 + p.2.length * 1 ≤ 140737488355328 by omega, show (C0.length + p.2.length) * 8 ≤ 140737488355328 by omega, show C0.length + p.2.length ≤ 140737488355328 by omega])
              | ((first | refine okC_guard (fun hc => ?_) (fun hc => ?_) | refine okJ_guard (fun hc => ?_) (fun hc => ?_)) <;> (first | have hd := of_decide_eq_true hc | have hd := of_decide_eq_false hc | have hd := hc) <;> simp (maxSteps := 1000000) [hc, hd, hlt, hg, hgg, ksD, hw, hcl, hcl2, hct, hok, show C0.length * 1 + p.2.length * 1 ≤ 140737488355328 by omega, show (C0.length + p.2.length) * 8 ≤ 140737488355328 by omega, show C0.length + p.2.length ≤ 140737488355328 by omega] <;> (try simp at hc) <;> (try (exfalso; first | omega | exact absurd hc (by assumption))))
              | (refine And.intro (by first | assumption | omega | (simp [BelL, Bel]; done) | (simp; omega)) ?_; try simp (maxSteps := 1000000) [hlt, hg, hgg, ksD, hw, hcl, hcl2, hct, hok, show C0.length * 1 + p.2.length * 1 ≤ 140737488355328 by omega, show (C0.length + p.2.length) * 8 ≤ 140737488355328 by omega, show C0.length + p.2.length ≤ 140737488355328 by omega])
              | (refine okC_or ?_; simp (maxSteps := 1000000) [hlt, hg, hgg, ksD, hw, hcl, hcl2, hct, hok, show C0.length * 1 + p.2.length * 1 ≤ 140737488355328 by omega, show (C0.length + p.2.length) * 8 ≤ 140737488355328 by omega, show C0.length + p.2.length ≤ 140737488355328 by omega])
            refine hKB (ls.length - (i + 1)) _ ⟨List.replicate 6 .any ++ [.ms 1 ((catK ls (i + 1)).length * 1) 0 (catK ls (i + 1)).length 1] ++ List.replicate 18 .any ++ [.sl fl (ls.map slK) ls.length, .int .i64 ls.length, .int .i64 (i + 1)] ++ List.replicate 8 .any, [none, some (.c (tDs (catK ls (i + 1))))]⟩ (by omega) (view_takeE (sl := List.replicate 6 .any ++ [.ms 1 ((catK ls (i + 1)).length * 1) 0 (catK ls (i + 1)).length 1] ++ List.replicate 18 .any ++ [.sl fl (ls.map slK) ls.length, .int .i64 ls.length, .int .i64 (i + 1)] ++ List.replicate 8 .any) (σ0 := [none, some (.c (tDs (catK ls (i + 1))))]) 2 (by simp [hls, hca, Nat.add_mul]) (by first | omega | simp) (by first | omega | (simp [hls, hca, Nat.add_mul]; done) | (simp [hls, hca, Nat.add_mul]; omega)) (by first | exact LewS.refl _ | simp [hls, hca, Nat.add_mul]) (by simp [BelL, Bel, hls, hca, Nat.add_mul]) (by simp [BelS, BelOb, BelL, Bel, hls, hca, Nat.add_mul])) ⟨(i + 1), ?_, rfl, rfl⟩
            omega
          · have hi : i = ls.length := by omega
            subst hi
            rw [hall] at hcl ⊢
            have hct : List.take ((ls.flatMap (·.2)).length * 1) (tDs (ls.flatMap (·.2))) = tDs (ls.flatMap (·.2)) := List.take_of_length_le (by omega)
            generalize ls.flatMap (·.2) = R at *
            repeat' first
              | refine jw_ret (hQ _ _ (.inr rfl) ⟨5, _, _, rfl, rfl, ?_⟩)
              | refine jw_ret (hQ _ _ (.inr rfl) ⟨_, rfl, ?_⟩)
              | refine jw_seq_k fun K hK => ?_
              | refine jw_block ?_
              | ((first | refine jw_skip ?_ | refine jw_exit ?_); try simp)
              | (refine jw_cond rfl (fun hc => ?_) (fun hc => ?_) <;> (try simp at hc) <;> (try (exfalso; first | omega | exact absurd hc (by assumption))))
              | ((fail_if_success (refine jw_c (id := 15) ?_)); (refine jw_c ?_; simp (maxSteps := 1000000) [hlt]))
              | ((fail_if_success (refine jw_draw_j (id := 15) mixed (by kernel_rfl) ?_)); (refine jw_draw_j mixed (by kernel_rfl) ?_; simp (maxSteps := 1000000) [hlt]))
              | (first | (apply hK; clear hK) | (clear hK; apply hK; clear hK) | (clear hK; clear hK; apply hK; clear hK) | (clear hK; clear hK; clear hK; apply hK; clear hK))
              | exact hQ _ _ (.inl rfl) ⟨5, _, _, rfl, rfl, rfl⟩
              | refine hQ _ _ (.inl rfl) ⟨5, _, _, rfl, rfl, ?_⟩
              | refine hQ _ _ (.inl rfl) ⟨_, rfl, ?_⟩
              | ((first | refine jd_newc rfl rfl (by simp) ?_ | refine okN_or ?_); simp (maxSteps := 1000000) [thD, thL, hlt])
              | ((first | refine okC_guard (fun hc => ?_) (fun hc => ?_) | refine okJ_guard (fun hc => ?_) (fun hc => ?_)) <;> (first | have hd := of_decide_eq_true hc | have hd := of_decide_eq_false hc | have hd := hc) <;> simp (maxSteps := 1000000) [hc, hd, hlt] <;> (try simp at hc) <;> (try (exfalso; first | omega | exact absurd hc (by assumption))))
              | (refine And.intro (by first | assumption | omega | (simp [BelL, Bel]; done) | (simp; omega)) ?_; try simp (maxSteps := 1000000) [hlt])
              | (refine okC_or ?_; simp (maxSteps := 1000000) [hlt])
            have hct1 : List.take R.length (tDs R) = tDs R := List.take_of_length_le (by rw [tDs_len]; omega)
            (refine jw_view (view_frz 1 _ rfl (by simp [BelL, Bel, hct, hct1, hcl, thL_flat])) ?_; simp (maxSteps := 1000000) [thL, thD, thS, thOb, hct, hct1, hcl, thL_flat])
            repeat' first
              | refine jw_seq_k fun K hK => ?_
              | refine jw_block ?_
              | ((first | refine jw_skip ?_ | refine jw_exit ?_); try simp)
              | (refine jw_cond rfl (fun hc => ?_) (fun hc => ?_) <;> (try simp at hc) <;> (try (exfalso; first | omega | exact absurd hc (by assumption))))
              | ((first | refine jw_c ?_ | refine jw_draw_j mixed (by kernel_rfl) ?_); simp (maxSteps := 1000000) [ksD])
              | (first | (apply hK; clear hK) | (clear hK; apply hK; clear hK) | (clear hK; clear hK; apply hK; clear hK) | (clear hK; clear hK; clear hK; apply hK; clear hK))
              | ((first | refine jw_ret (hQ _ _ (.inr rfl) (ret_ok 0 ?_ (by first | omega | simp))) | refine hQ _ _ (.inl rfl) (ret_ok 0 ?_ (by first | omega | simp))); simp (maxSteps := 1000000) [okRet, BelL, Bel, BelS, BelOb, ksD])
              | ((first | refine jd_newc rfl rfl (by simp) ?_ | refine okN_or ?_); simp (maxSteps := 1000000) [thD, thL, ksD])
              | ((first | refine okC_guard (fun hc => ?_) (fun hc => ?_) | refine okJ_guard (fun hc => ?_) (fun hc => ?_)) <;> (first | have hd := of_decide_eq_true hc | have hd := of_decide_eq_false hc | have hd := hc) <;> simp (maxSteps := 1000000) [hc, hd, ksD] <;> (try simp at hc) <;> (try (exfalso; first | omega | exact absurd hc (by assumption))))
              | (refine And.intro (by first | assumption | omega | (simp [BelL, Bel]; done) | (simp; omega)) ?_; try simp (maxSteps := 1000000) [ksD])
              | (refine okC_or ?_; simp (maxSteps := 1000000) [ksD])
        · simp
  · simp
end Go.Proofs.Ytibcjkklgifgmaa
