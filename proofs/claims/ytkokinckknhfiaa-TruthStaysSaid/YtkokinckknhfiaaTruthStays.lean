/- TruthStays: the walk and the law. -/
import Derived.Test.YtkokinckknhfiaaThree
set_option linter.unusedVariables false
set_option linter.unusedSimpArgs false
set_option maxRecDepth 20000
set_option maxHeartbeats 1000000
namespace Go.Proofs.Ytkokinckknhfiaa
open Go Go.Vm Go.Proofs

theorem truthStays (a : List Int) (aw : ∀ n ∈ a, (Lit.int .i64 n).wf = true) (az : a.length * 8 ≤ 140737488351232) (_ : a.length ≤ 9223372036854775807) (seed : Int) (sw : (Lit.int .i64 seed).wf = true) (up : Bool) :
    FV Try.prog [] 5 [numsD .i64 a, .int .i64 seed, .bool up] (fun r => r = .bool true) := by
  have hth : three (a.map (· % 3)) := by intro x hx; simp at hx; obtain ⟨y, _, rfl⟩ := hx; omega
  have hlen : (a.map (· % 3)).length = a.length := by simp
  generalize hL : a.map (· % 3) = L at hth hlen
  refine fv_enter Try.func5 rfl rfl fun Q hQ => ?_
  ((repeat refine jw_seq_k fun K hK => ?_); refine jw_reg ?_; simp [Try.f5]; (first | (apply hK; clear hK) | (clear hK; apply hK; clear hK) | (clear hK; clear hK; apply hK; clear hK) | (clear hK; clear hK; clear hK; apply hK; clear hK) | (clear hK; clear hK; clear hK; clear hK; apply hK; clear hK) | (clear hK; clear hK; clear hK; clear hK; clear hK; apply hK; clear hK) | (clear hK; clear hK; clear hK; clear hK; clear hK; clear hK; apply hK; clear hK)))
  ((repeat refine jw_seq_k fun K hK => ?_); refine jw_reg ?_; simp; (first | (apply hK; clear hK) | (clear hK; apply hK; clear hK) | (clear hK; clear hK; apply hK; clear hK) | (clear hK; clear hK; clear hK; apply hK; clear hK) | (clear hK; clear hK; clear hK; clear hK; apply hK; clear hK) | (clear hK; clear hK; clear hK; clear hK; clear hK; apply hK; clear hK) | (clear hK; clear hK; clear hK; clear hK; clear hK; clear hK; apply hK; clear hK)))
  refine jw_midf (fun s => ∃ σ, s = ⟨[.any, .int .i64 seed, .bool up, .any, .any, .any, .any, numsD .i64 L] ++ List.replicate 122 .any, σ⟩) (fun KM hM => ?_) ?_
  · ((repeat refine jw_seq_k fun K hK => ?_); refine jw_reg ?_; simp; (first | (apply hK; clear hK) | (clear hK; apply hK; clear hK) | (clear hK; clear hK; apply hK; clear hK) | (clear hK; clear hK; clear hK; apply hK; clear hK) | (clear hK; clear hK; clear hK; clear hK; apply hK; clear hK) | (clear hK; clear hK; clear hK; clear hK; clear hK; apply hK; clear hK) | (clear hK; clear hK; clear hK; clear hK; clear hK; clear hK; apply hK; clear hK)))
    ((repeat refine jw_seq_k fun K hK => ?_); refine jw_block ?_)
    (repeat refine jw_seq_k fun K hK => ?_); refine jw_loop_k (fun n s => ∃ (k : Nat) (d : D) (σ : List (Option (List D))), k ≤ a.length ∧ a.length - k = n ∧ ((k = 0 ∧ d = .nsl) ∨ (∃ l0, 0 < k ∧ d = .ms l0 k 0 k 1 ∧ σ[l0]? = some (some ((L.take k).map (D.int .i64))))) ∧
        s = ⟨[numsD .i64 a, .int .i64 seed, .bool up, .any, .any, .any, .any, d, .int .i64 k] ++ List.replicate 121 .any, σ⟩)
      (sl := [numsD .i64 a, .int .i64 seed, .bool up, .any, .any, .any, .any, .nsl, .int .i64 (0 : Nat)] ++ List.replicate 121 .any) (by simp)
      ⟨0, .nsl, [], by simp, rfl, .inl ⟨rfl, rfl⟩, rfl⟩ ?_
    rintro n s ⟨k, d, σ, hk, rfl, hd, rfl⟩ KL hKL
    ((repeat refine jw_seq_k fun K hK => ?_); refine jw_reg ?_; simp; (first | (apply hK; clear hK) | (clear hK; apply hK; clear hK) | (clear hK; clear hK; apply hK; clear hK) | (clear hK; clear hK; clear hK; apply hK; clear hK) | (clear hK; clear hK; clear hK; clear hK; apply hK; clear hK) | (clear hK; clear hK; clear hK; clear hK; clear hK; apply hK; clear hK) | (clear hK; clear hK; clear hK; clear hK; clear hK; clear hK; apply hK; clear hK)))
    (repeat refine jw_seq_k fun K hK => ?_); refine jw_cond rfl (fun hlt => ?_) (fun hlt => ?_)
    · simp at hlt
      (refine jw_skip ?_; simp; (first | (apply hK; clear hK) | (clear hK; apply hK; clear hK) | (clear hK; clear hK; apply hK; clear hK) | (clear hK; clear hK; clear hK; apply hK; clear hK) | (clear hK; clear hK; clear hK; clear hK; apply hK; clear hK) | (clear hK; clear hK; clear hK; clear hK; clear hK; apply hK; clear hK) | (clear hK; clear hK; clear hK; clear hK; clear hK; clear hK; apply hK; clear hK)))
      have hw := wrap_succ hlt (by omega)
      have hLk : a[k] % 3 = L[k]'(by omega) := by subst hL; simp
      ((repeat refine jw_seq_k fun K hK => ?_); refine jw_block ?_)
      refine jw_c ?_
      simp [hlt]
      refine jl_call (f := 17) rfl rfl rfl rfl rfl (picked a[k] 3 (by omega) (by omega)) (by simp [BelL, Bel]) ?_
      rintro r rfl
      rw [hLk]
      rcases hd with ⟨rfl, rfl⟩ | ⟨l0, hk0, rfl, hσ⟩
      · simp
        (first | (apply hK; clear hK) | (clear hK; apply hK; clear hK) | (clear hK; clear hK; apply hK; clear hK) | (clear hK; clear hK; clear hK; apply hK; clear hK) | (clear hK; clear hK; clear hK; clear hK; apply hK; clear hK) | (clear hK; clear hK; clear hK; clear hK; clear hK; apply hK; clear hK) | (clear hK; clear hK; clear hK; clear hK; clear hK; clear hK; apply hK; clear hK))
        ((repeat refine jw_seq_k fun K hK => ?_); refine jw_reg ?_; simp [hw])
        refine hKL (a.length - 1) _ _ (by omega) ?_ ⟨1, _, _, by omega, rfl, .inr ⟨σ.length + 1, by omega, rfl, ?_⟩, rfl⟩
        · simp
        · rw [List.take_succ_eq_append_getElem (show 0 < L.length by omega)]; simp
      · have hl0 := σ_in hσ
        have hkL : (L.take k).length = k := by simp; omega
        simp [hσ, List.getElem?_append_left hl0, Nat.min_eq_left (show k ≤ L.length by omega), show (k + 1) * 8 ≤ 140737488355328 by omega]
        (first | (apply hK; clear hK) | (clear hK; apply hK; clear hK) | (clear hK; clear hK; apply hK; clear hK) | (clear hK; clear hK; clear hK; apply hK; clear hK) | (clear hK; clear hK; clear hK; clear hK; apply hK; clear hK) | (clear hK; clear hK; clear hK; clear hK; clear hK; apply hK; clear hK) | (clear hK; clear hK; clear hK; clear hK; clear hK; clear hK; apply hK; clear hK))
        ((repeat refine jw_seq_k fun K hK => ?_); refine jw_reg ?_; simp [hw])
        refine hKL (a.length - (k + 1)) _ _ (by omega) ?_ ⟨k + 1, _, _, by omega, rfl, .inr ⟨l0, by omega, rfl, ?_⟩, rfl⟩
        · simp
        · show (List.set _ l0 _)[l0]? = _
          rw [List.getElem?_set_self (by simp; omega), List.take_succ_eq_append_getElem (show k < L.length by omega), List.map_append, List.map_take]; rfl
    · simp at hlt
      (repeat refine jw_seq_k fun K hK => ?_); refine jw_exit ?_
      simp
      have hka : k = a.length := by omega
      subst hka
      rw [List.take_of_length_le (by omega)] at hd
      refine hM _ _ ?_ ⟨_, rfl⟩
      rcases hd with ⟨h0, rfl⟩ | ⟨l0, hk0, rfl, hσ⟩
      · have hL0 : L = [] := List.eq_nil_of_length_eq_zero (by omega)
        subst hL0
        simp [frzL_flat, flatD, List.take_of_length_le, -List.mapM_append, -List.mapM_map]
      · simp [frzL_flat, flatD, List.take_of_length_le, -List.mapM_append, -List.mapM_map, hσ, hlen, List.take_of_length_le (show (L.map (D.int .i64)).length ≤ a.length by simp; omega)]
  · rintro _ ⟨σ, rfl⟩
    ((repeat refine jw_seq_k fun K hK => ?_); refine jw_c ?_; simp)
    refine jl_call (f := 18) rfl rfl rfl rfl rfl (and L (by omega)) (by simp [BelL, Bel]) ?_
    rintro r rfl
    simp [foldD_three hth]
    (first | (apply hK; clear hK) | (clear hK; apply hK; clear hK) | (clear hK; clear hK; apply hK; clear hK) | (clear hK; clear hK; clear hK; apply hK; clear hK) | (clear hK; clear hK; clear hK; clear hK; apply hK; clear hK) | (clear hK; clear hK; clear hK; clear hK; clear hK; apply hK; clear hK) | (clear hK; clear hK; clear hK; clear hK; clear hK; clear hK; apply hK; clear hK))
    ((repeat refine jw_seq_k fun K hK => ?_); refine jw_c ?_; simp)
    refine jl_call (f := 19) rfl rfl rfl rfl rfl (or L (by omega)) (by simp [BelL, Bel]) ?_
    rintro r rfl
    simp [foldD_three hth]
    (first | (apply hK; clear hK) | (clear hK; apply hK; clear hK) | (clear hK; clear hK; apply hK; clear hK) | (clear hK; clear hK; clear hK; apply hK; clear hK) | (clear hK; clear hK; clear hK; clear hK; apply hK; clear hK) | (clear hK; clear hK; clear hK; clear hK; clear hK; apply hK; clear hK) | (clear hK; clear hK; clear hK; clear hK; clear hK; clear hK; apply hK; clear hK))
    ((repeat refine jw_seq_k fun K hK => ?_); refine jw_reg ?_; simp; (first | (apply hK; clear hK) | (clear hK; apply hK; clear hK) | (clear hK; clear hK; apply hK; clear hK) | (clear hK; clear hK; clear hK; apply hK; clear hK) | (clear hK; clear hK; clear hK; clear hK; apply hK; clear hK) | (clear hK; clear hK; clear hK; clear hK; clear hK; apply hK; clear hK) | (clear hK; clear hK; clear hK; clear hK; clear hK; clear hK; apply hK; clear hK)))
    (repeat refine jw_seq_k fun K hK => ?_); refine jw_cond (t := false) rfl (fun h => by cases h) (fun _ => ?_)
    (refine jw_skip ?_; simp; (first | (apply hK; clear hK) | (clear hK; apply hK; clear hK) | (clear hK; clear hK; apply hK; clear hK) | (clear hK; clear hK; clear hK; apply hK; clear hK) | (clear hK; clear hK; clear hK; clear hK; apply hK; clear hK) | (clear hK; clear hK; clear hK; clear hK; clear hK; apply hK; clear hK) | (clear hK; clear hK; clear hK; clear hK; clear hK; clear hK; apply hK; clear hK)))
    ((repeat refine jw_seq_k fun K hK => ?_); refine jw_reg ?_; simp; (first | (apply hK; clear hK) | (clear hK; apply hK; clear hK) | (clear hK; clear hK; apply hK; clear hK) | (clear hK; clear hK; clear hK; apply hK; clear hK) | (clear hK; clear hK; clear hK; clear hK; apply hK; clear hK) | (clear hK; clear hK; clear hK; clear hK; clear hK; apply hK; clear hK) | (clear hK; clear hK; clear hK; clear hK; clear hK; clear hK; apply hK; clear hK)))
    (repeat refine jw_seq_k fun K hK => ?_); refine jw_cond rfl (fun ht => ?_) (fun ht => ?_)
    · simp at ht
      subst ht
      ((repeat refine jw_seq_k fun K hK => ?_); refine jw_reg ?_; simp; (first | (apply hK; clear hK) | (clear hK; apply hK; clear hK) | (clear hK; clear hK; apply hK; clear hK) | (clear hK; clear hK; clear hK; apply hK; clear hK) | (clear hK; clear hK; clear hK; clear hK; apply hK; clear hK) | (clear hK; clear hK; clear hK; clear hK; clear hK; apply hK; clear hK) | (clear hK; clear hK; clear hK; clear hK; clear hK; clear hK; apply hK; clear hK)))
      (repeat refine jw_seq_k fun K hK => ?_); refine jw_ret ?_
      simp
      exact hQ _ _ (.inr rfl) ⟨5, _, _, rfl, rfl, rfl⟩
    · simp at ht
      (refine jw_skip ?_; simp; (first | (apply hK; clear hK) | (clear hK; apply hK; clear hK) | (clear hK; clear hK; apply hK; clear hK) | (clear hK; clear hK; clear hK; apply hK; clear hK) | (clear hK; clear hK; clear hK; clear hK; apply hK; clear hK) | (clear hK; clear hK; clear hK; clear hK; clear hK; apply hK; clear hK) | (clear hK; clear hK; clear hK; clear hK; clear hK; clear hK; apply hK; clear hK)))
      have hpos : 0 < L.length := List.length_pos_iff.2 ht
      obtain ⟨j, hj, hjL⟩ : ∃ j : Nat, seed % (L.length : Int) = j ∧ j < L.length := by
        have h1 := Int.emod_nonneg seed (show (L.length : Int) ≠ 0 by omega)
        have h2 := Int.emod_lt_of_pos seed (show (0 : Int) < L.length by omega)
        exact ⟨(seed % (L.length : Int)).toNat, by omega, by omega⟩
      ((repeat refine jw_seq_k fun K hK => ?_); refine jw_reg ?_; simp [show L.length * 8 ≤ 140737488355328 by omega]; (first | (apply hK; clear hK) | (clear hK; apply hK; clear hK) | (clear hK; clear hK; apply hK; clear hK) | (clear hK; clear hK; clear hK; apply hK; clear hK) | (clear hK; clear hK; clear hK; clear hK; apply hK; clear hK) | (clear hK; clear hK; clear hK; clear hK; clear hK; apply hK; clear hK) | (clear hK; clear hK; clear hK; clear hK; clear hK; clear hK; apply hK; clear hK)))
      ((repeat refine jw_seq_k fun K hK => ?_); refine jw_c ?_; simp)
      refine jl_call (f := 17) rfl rfl rfl rfl rfl (picked seed L.length (by omega) (by omega)) (by simp [BelL, Bel]) ?_
      rintro r rfl
      simp [hj]
      (first | (apply hK; clear hK) | (clear hK; apply hK; clear hK) | (clear hK; clear hK; apply hK; clear hK) | (clear hK; clear hK; clear hK; apply hK; clear hK) | (clear hK; clear hK; clear hK; clear hK; apply hK; clear hK) | (clear hK; clear hK; clear hK; clear hK; clear hK; apply hK; clear hK) | (clear hK; clear hK; clear hK; clear hK; clear hK; clear hK; apply hK; clear hK))
      ((repeat refine jw_seq_k fun K hK => ?_); refine jw_reg ?_; simp [hjL]; (first | (apply hK; clear hK) | (clear hK; apply hK; clear hK) | (clear hK; clear hK; apply hK; clear hK) | (clear hK; clear hK; clear hK; apply hK; clear hK) | (clear hK; clear hK; clear hK; clear hK; apply hK; clear hK) | (clear hK; clear hK; clear hK; clear hK; clear hK; apply hK; clear hK) | (clear hK; clear hK; clear hK; clear hK; clear hK; clear hK; apply hK; clear hK)))
      have hLj := hth L[j] (List.getElem_mem _)
      have hmn := foldl_min_le L 2
      have hmm := foldl_min_mem L 2
      have hxn := foldl_max_le L 0
      have hxm := foldl_max_mem L 0
      (repeat refine jw_seq_k fun K hK => ?_); refine jw_cond rfl (fun ht => ?_) (fun ht => ?_)
      · simp at ht
        ((repeat refine jw_seq_k fun K hK => ?_); refine jw_reg ?_; simp [hjL, hmn.2 L[j] (List.getElem_mem _)]; (first | (apply hK; clear hK) | (clear hK; apply hK; clear hK) | (clear hK; clear hK; apply hK; clear hK) | (clear hK; clear hK; clear hK; apply hK; clear hK) | (clear hK; clear hK; clear hK; clear hK; apply hK; clear hK) | (clear hK; clear hK; clear hK; clear hK; clear hK; apply hK; clear hK) | (clear hK; clear hK; clear hK; clear hK; clear hK; clear hK; apply hK; clear hK)))
        (repeat refine jw_seq_k fun K hK => ?_); refine jw_ret ?_
        simp
        exact hQ _ _ (.inr rfl) ⟨5, _, _, rfl, rfl, by simp [hxn.2 L[j] (List.getElem_mem _)]⟩
      · simp at ht
        (refine jw_skip ?_; simp; (first | (apply hK; clear hK) | (clear hK; apply hK; clear hK) | (clear hK; clear hK; apply hK; clear hK) | (clear hK; clear hK; clear hK; apply hK; clear hK) | (clear hK; clear hK; clear hK; clear hK; apply hK; clear hK) | (clear hK; clear hK; clear hK; clear hK; clear hK; apply hK; clear hK) | (clear hK; clear hK; clear hK; clear hK; clear hK; clear hK; apply hK; clear hK)))
        have hj1 : j + 1 ≤ L.length := hjL
        ((repeat refine jw_seq_k fun K hK => ?_); refine jw_reg ?_; simp [hjL, hj1]; (first | (apply hK; clear hK) | (clear hK; apply hK; clear hK) | (clear hK; clear hK; apply hK; clear hK) | (clear hK; clear hK; clear hK; apply hK; clear hK) | (clear hK; clear hK; clear hK; clear hK; apply hK; clear hK) | (clear hK; clear hK; clear hK; clear hK; clear hK; apply hK; clear hK) | (clear hK; clear hK; clear hK; clear hK; clear hK; clear hK; apply hK; clear hK)))
        rw [put_eq_set (by simpa using hjL)]
        refine jw_midf (fun s => ∃ σ, s = ⟨List.replicate 9 .any ++ [.int .i64 (L.foldl min 2), .any, .int .i64 (L.foldl max 0), .any, numsD .i64 (L.set j (if up then 2 else 0))] ++ List.replicate 116 .any, σ⟩) (fun KM hM => ?_) ?_
        · ((repeat refine jw_seq_k fun K hK => ?_); refine jw_reg ?_; simp; (first | (apply hK; clear hK) | (clear hK; apply hK; clear hK) | (clear hK; clear hK; apply hK; clear hK) | (clear hK; clear hK; clear hK; apply hK; clear hK) | (clear hK; clear hK; clear hK; clear hK; apply hK; clear hK) | (clear hK; clear hK; clear hK; clear hK; clear hK; apply hK; clear hK) | (clear hK; clear hK; clear hK; clear hK; clear hK; clear hK; apply hK; clear hK)))
          (repeat refine jw_seq_k fun K hK => ?_); refine jw_cond rfl (fun hu => ?_) (fun hu => ?_)
          · ((repeat refine jw_seq_k fun K hK => ?_); refine jw_reg ?_; simp [hjL, hj1])
            rw [put_eq_set (by simpa using hjL), List.set_set]
            refine hM _ _ ?_ ⟨_, rfl⟩
            simp [frzL_flat, flatD, List.take_of_length_le, -List.mapM_append, -List.mapM_map, hu, all_flat_set (all_flat_int .i64 L) (show flatD (.int .i64 _) = true from rfl)]
          · (repeat refine jw_seq_k fun K hK => ?_); refine jw_skip ?_
            simp
            refine hM _ _ ?_ ⟨_, rfl⟩
            simp [frzL_flat, flatD, List.take_of_length_le, -List.mapM_append, -List.mapM_map, hu, all_flat_set (all_flat_int .i64 L) (show flatD (.int .i64 _) = true from rfl)]
        · rintro _ ⟨σ', rfl⟩
          have hL' : three (L.set j (if up then 2 else 0)) := by
            intro x hx
            rcases List.mem_or_eq_of_mem_set hx with h | h
            · exact hth x h
            · subst h; split <;> omega
          have hlen' : (L.set j (if up then 2 else 0)).length = L.length := by simp
          have hle : L.foldl min 2 ≤ 1 := by have := hmn.2 L[j] (List.getElem_mem _); omega
          have hge : 1 ≤ L.foldl max 0 := by have := hxn.2 L[j] (List.getElem_mem _); omega
          have hmem : ∀ v ∈ L, v ≠ 1 → v ∈ L.set j (if up then 2 else 0) := by
            intro v hv h1
            obtain ⟨i, hi, rfl⟩ := List.mem_iff_getElem.1 hv
            have hij : j ≠ i := by rintro rfl; exact h1 ht
            exact List.mem_iff_getElem.2 ⟨i, by simpa using hi, by rw [List.getElem_set_ne hij]⟩
          have hmn2 := foldl_min_le (L.set j (if up then 2 else 0)) 2
          have hmm2 := foldl_min_mem (L.set j (if up then 2 else 0)) 2
          have hxn2 := foldl_max_le (L.set j (if up then 2 else 0)) 0
          have hxm2 := foldl_max_mem (L.set j (if up then 2 else 0)) 0
          have hA : L.foldl min 2 = 1 ∨ (L.foldl min 2 = 0 ∧ (L.set j (if up then 2 else 0)).foldl min 2 = 0) := by
            rcases hmm with h | h
            · omega
            · have h1 := hth _ h
              by_cases h2 : L.foldl min 2 = 1
              · exact .inl h2
              · have h0 : L.foldl min 2 = 0 := by omega
                rw [h0] at h
                have h3 := hmn2.2 0 (hmem 0 h (by omega))
                rcases hmm2 with h4 | h4
                · omega
                · have := hL' _ h4; exact .inr ⟨h0, by omega⟩
          have hB : L.foldl max 0 = 1 ∨ (L.foldl max 0 = 2 ∧ (L.set j (if up then 2 else 0)).foldl max 0 = 2) := by
            rcases hxm with h | h
            · omega
            · have h1 := hth _ h
              by_cases h2 : L.foldl max 0 = 1
              · exact .inl h2
              · have h0 : L.foldl max 0 = 2 := by omega
                rw [h0] at h
                have h3 := hxn2.2 2 (hmem 2 h (by omega))
                rcases hxm2 with h4 | h4
                · omega
                · have := hL' _ h4; exact .inr ⟨h0, by omega⟩
          clear hmn hmm hxn hxm hmn2 hmm2 hxn2 hxm2 hmem
          generalize L.set j (if up then 2 else 0) = L' at *
          have hca := and L' (by omega)
          have hco := or L' (by omega)
          rw [foldD_three hL'] at hca hco
          generalize L.foldl min 2 = A at *
          generalize L.foldl max 0 = O at *
          generalize L'.foldl min 2 = A' at *
          generalize L'.foldl max 0 = O' at *
          ((repeat refine jw_seq_k fun K hK => ?_); refine jw_c ?_; simp)
          refine jl_call (f := 18) rfl rfl rfl rfl rfl (hca) (by simp [BelL, Bel]) ?_
          rintro r rfl
          simp
          (first | (apply hK; clear hK) | (clear hK; apply hK; clear hK) | (clear hK; clear hK; apply hK; clear hK) | (clear hK; clear hK; clear hK; apply hK; clear hK) | (clear hK; clear hK; clear hK; clear hK; apply hK; clear hK) | (clear hK; clear hK; clear hK; clear hK; clear hK; apply hK; clear hK) | (clear hK; clear hK; clear hK; clear hK; clear hK; clear hK; apply hK; clear hK))
          ((repeat refine jw_seq_k fun K hK => ?_); refine jw_c ?_; simp)
          refine jl_call (f := 19) rfl rfl rfl rfl rfl (hco) (by simp [BelL, Bel]) ?_
          rintro r rfl
          simp
          (first | (apply hK; clear hK) | (clear hK; apply hK; clear hK) | (clear hK; clear hK; apply hK; clear hK) | (clear hK; clear hK; clear hK; apply hK; clear hK) | (clear hK; clear hK; clear hK; clear hK; apply hK; clear hK) | (clear hK; clear hK; clear hK; clear hK; clear hK; apply hK; clear hK) | (clear hK; clear hK; clear hK; clear hK; clear hK; clear hK; apply hK; clear hK))
          ((repeat refine jw_seq_k fun K hK => ?_); refine jw_reg ?_; simp; (first | (apply hK; clear hK) | (clear hK; apply hK; clear hK) | (clear hK; clear hK; apply hK; clear hK) | (clear hK; clear hK; clear hK; apply hK; clear hK) | (clear hK; clear hK; clear hK; clear hK; apply hK; clear hK) | (clear hK; clear hK; clear hK; clear hK; clear hK; apply hK; clear hK) | (clear hK; clear hK; clear hK; clear hK; clear hK; clear hK; apply hK; clear hK)))
          (repeat refine jw_seq_k fun K hK => ?_); refine jw_cond (t := false) rfl (fun h => by cases h) (fun _ => ?_)
          (refine jw_skip ?_; simp; (first | (apply hK; clear hK) | (clear hK; apply hK; clear hK) | (clear hK; clear hK; apply hK; clear hK) | (clear hK; clear hK; clear hK; apply hK; clear hK) | (clear hK; clear hK; clear hK; clear hK; apply hK; clear hK) | (clear hK; clear hK; clear hK; clear hK; clear hK; apply hK; clear hK) | (clear hK; clear hK; clear hK; clear hK; clear hK; clear hK; apply hK; clear hK)))
          rcases hA with rfl | ⟨rfl, rfl⟩ <;> rcases hB with rfl | ⟨rfl, rfl⟩ <;> (((repeat refine jw_seq_k fun K hK => ?_); refine jw_reg ?_; simp; (first | (apply hK; clear hK) | (clear hK; apply hK; clear hK) | (clear hK; clear hK; apply hK; clear hK) | (clear hK; clear hK; clear hK; apply hK; clear hK) | (clear hK; clear hK; clear hK; clear hK; apply hK; clear hK) | (clear hK; clear hK; clear hK; clear hK; clear hK; apply hK; clear hK) | (clear hK; clear hK; clear hK; clear hK; clear hK; clear hK; apply hK; clear hK))); exact jw_ret (hQ _ _ (.inr rfl) ⟨5, _, _, rfl, rfl, rfl⟩))
end Go.Proofs.Ytkokinckknhfiaa
