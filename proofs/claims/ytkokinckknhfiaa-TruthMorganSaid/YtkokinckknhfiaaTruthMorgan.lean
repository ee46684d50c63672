/- TruthMorgan: the walk and the law. -/
import Derived.Test.YtkokinckknhfiaaThree
set_option linter.unusedVariables false
set_option linter.unusedSimpArgs false
set_option maxRecDepth 20000
set_option maxHeartbeats 1000000
namespace Go.Proofs.Ytkokinckknhfiaa
open Go Go.Vm Go.Proofs

theorem morgan : ∀ (l : List Int) (c : Int), 2 - l.foldl min c = (l.map fun x => 2 - x).foldl max (2 - c)
  | [], c => rfl
  | x :: l, c => by
    simp only [List.foldl_cons, List.map_cons]
    rw [morgan l (min c x)]
    congr 1; omega

theorem not_ok {x : Int} (h : 0 ≤ x ∧ x ≤ 2) : (if odd3 x then D.tup [.int .i64 0, .int .i64 2] else .tup [.int .i64 (2 - x), .int .i64 0]) = .tup [.int .i64 (2 - x), .int .i64 0] := by
  rw [if_neg]; simp [odd3]; omega

theorem truthMorgan (a : List Int) (aw : ∀ n ∈ a, (Lit.int .i64 n).wf = true) (az : a.length * 8 ≤ 140737488351232) (_ : a.length ≤ 9223372036854775807) :
    FV Try.prog [] 7 [numsD .i64 a] (fun r => r = .bool true) := by
  have hth : three (a.map (· % 3)) := by intro x hx; simp at hx; obtain ⟨y, _, rfl⟩ := hx; omega
  have hlen : (a.map (· % 3)).length = a.length := by simp
  generalize hL : a.map (· % 3) = L at hth hlen
  have hthN : three (L.map fun x => 2 - x) := by intro x hx; simp at hx; obtain ⟨y, hy, rfl⟩ := hx; have := hth y hy; omega
  have hlenN : (L.map fun x => 2 - x).length = a.length := by simp [hlen]
  generalize hN : (L.map fun x => 2 - x) = N at hthN hlenN
  refine fv_enter Try.func7 rfl rfl fun Q hQ => ?_
  ((repeat refine jw_seq_k fun K hK => ?_); refine jw_reg ?_; simp [Try.f7]; (first | (apply hK; clear hK) | (clear hK; apply hK; clear hK) | (clear hK; clear hK; apply hK; clear hK) | (clear hK; clear hK; clear hK; apply hK; clear hK) | (clear hK; clear hK; clear hK; clear hK; apply hK; clear hK) | (clear hK; clear hK; clear hK; clear hK; clear hK; apply hK; clear hK) | (clear hK; clear hK; clear hK; clear hK; clear hK; clear hK; apply hK; clear hK)))
  ((repeat refine jw_seq_k fun K hK => ?_); refine jw_reg ?_; simp; (first | (apply hK; clear hK) | (clear hK; apply hK; clear hK) | (clear hK; clear hK; apply hK; clear hK) | (clear hK; clear hK; clear hK; apply hK; clear hK) | (clear hK; clear hK; clear hK; clear hK; apply hK; clear hK) | (clear hK; clear hK; clear hK; clear hK; clear hK; apply hK; clear hK) | (clear hK; clear hK; clear hK; clear hK; clear hK; clear hK; apply hK; clear hK)))
  ((repeat refine jw_seq_k fun K hK => ?_); refine jw_reg ?_; simp; (first | (apply hK; clear hK) | (clear hK; apply hK; clear hK) | (clear hK; clear hK; apply hK; clear hK) | (clear hK; clear hK; clear hK; apply hK; clear hK) | (clear hK; clear hK; clear hK; clear hK; apply hK; clear hK) | (clear hK; clear hK; clear hK; clear hK; clear hK; apply hK; clear hK) | (clear hK; clear hK; clear hK; clear hK; clear hK; clear hK; apply hK; clear hK)))
  refine jw_midf (fun s => ∃ σ, s = ⟨[.any, .any, .any, numsD .i64 L, numsD .i64 N] ++ List.replicate 96 .any, σ⟩) (fun KM hM => ?_) ?_
  · ((repeat refine jw_seq_k fun K hK => ?_); refine jw_reg ?_; simp; (first | (apply hK; clear hK) | (clear hK; apply hK; clear hK) | (clear hK; clear hK; apply hK; clear hK) | (clear hK; clear hK; clear hK; apply hK; clear hK) | (clear hK; clear hK; clear hK; clear hK; apply hK; clear hK) | (clear hK; clear hK; clear hK; clear hK; clear hK; apply hK; clear hK) | (clear hK; clear hK; clear hK; clear hK; clear hK; clear hK; apply hK; clear hK)))
    ((repeat refine jw_seq_k fun K hK => ?_); refine jw_block ?_)
    (repeat refine jw_seq_k fun K hK => ?_); refine jw_loop_k (fun n s => ∃ (k : Nat) (d e : D) (σ : List (Option (List D))), k ≤ a.length ∧ a.length - k = n ∧
        ((k = 0 ∧ d = .nsl ∧ e = .nsl) ∨ (∃ l0 l1, 0 < k ∧ l0 ≠ l1 ∧ d = .ms l0 k 0 k 1 ∧ e = .ms l1 k 0 k 1 ∧ σ[l0]? = some (some ((L.take k).map (D.int .i64))) ∧ σ[l1]? = some (some ((N.take k).map (D.int .i64))))) ∧
        s = ⟨[numsD .i64 a, .any, .any, d, e, .int .i64 k] ++ List.replicate 95 .any, σ⟩)
      (sl := [numsD .i64 a, .any, .any, .nsl, .nsl, .int .i64 (0 : Nat)] ++ List.replicate 95 .any) (by simp)
      ⟨0, .nsl, .nsl, [], by simp, rfl, .inl ⟨rfl, rfl, rfl⟩, rfl⟩ ?_
    rintro n s ⟨k, d, e, σ, hk, rfl, hd, rfl⟩ KL hKL
    ((repeat refine jw_seq_k fun K hK => ?_); refine jw_reg ?_; simp; (first | (apply hK; clear hK) | (clear hK; apply hK; clear hK) | (clear hK; clear hK; apply hK; clear hK) | (clear hK; clear hK; clear hK; apply hK; clear hK) | (clear hK; clear hK; clear hK; clear hK; apply hK; clear hK) | (clear hK; clear hK; clear hK; clear hK; clear hK; apply hK; clear hK) | (clear hK; clear hK; clear hK; clear hK; clear hK; clear hK; apply hK; clear hK)))
    (repeat refine jw_seq_k fun K hK => ?_); refine jw_cond rfl (fun hlt => ?_) (fun hlt => ?_)
    · simp at hlt
      (refine jw_skip ?_; simp; (first | (apply hK; clear hK) | (clear hK; apply hK; clear hK) | (clear hK; clear hK; apply hK; clear hK) | (clear hK; clear hK; clear hK; apply hK; clear hK) | (clear hK; clear hK; clear hK; clear hK; apply hK; clear hK) | (clear hK; clear hK; clear hK; clear hK; clear hK; apply hK; clear hK) | (clear hK; clear hK; clear hK; clear hK; clear hK; clear hK; apply hK; clear hK)))
      have hw := wrap_succ hlt (by omega)
      have hLk : a[k] % 3 = L[k]'(by omega) := by subst hL; simp
      have hNk : 2 - L[k]'(by omega) = N[k]'(by omega) := by subst hN; simp
      have hb := hth (L[k]'(by omega)) (List.getElem_mem _)
      have hbn := hthN (N[k]'(by omega)) (List.getElem_mem _)
      have hp := picked a[k] 3 (by omega) (by omega)
      have hn1 := not3 (L[k]'(by omega))
      have hn2 := not3 (N[k]'(by omega))
      rw [hLk] at hp
      rw [not_ok hb, hNk] at hn1
      rw [not_ok hbn, show 2 - N[k]'(by omega) = L[k]'(by omega) by omega] at hn2
      have tL := List.take_succ_eq_append_getElem (show k < L.length by omega)
      have tN := List.take_succ_eq_append_getElem (show k < N.length by omega)
      have lL : (L.take k).length = k := by simp; omega
      have lN : (N.take k).length = k := by simp; omega
      clear hLk hNk hb hbn
      generalize L[k]'(by omega) = x at *
      generalize N[k]'(by omega) = y at *
      ((repeat refine jw_seq_k fun K hK => ?_); refine jw_block ?_)
      ((repeat refine jw_seq_k fun K hK => ?_); refine jw_c ?_; simp [hlt])
      refine jl_call (f := 17) rfl rfl rfl rfl rfl (hp) (by simp [BelL, Bel]) ?_
      rintro r rfl
      simp
      (first | (apply hK; clear hK) | (clear hK; apply hK; clear hK) | (clear hK; clear hK; apply hK; clear hK) | (clear hK; clear hK; clear hK; apply hK; clear hK) | (clear hK; clear hK; clear hK; clear hK; apply hK; clear hK) | (clear hK; clear hK; clear hK; clear hK; clear hK; apply hK; clear hK) | (clear hK; clear hK; clear hK; clear hK; clear hK; clear hK; apply hK; clear hK))
      ((repeat refine jw_seq_k fun K hK => ?_); refine jw_c ?_; simp)
      refine jl_call (f := 21) rfl rfl rfl rfl rfl (hn1) (by simp [BelL, Bel]) ?_
      rintro r rfl
      simp
      (first | (apply hK; clear hK) | (clear hK; apply hK; clear hK) | (clear hK; clear hK; apply hK; clear hK) | (clear hK; clear hK; clear hK; apply hK; clear hK) | (clear hK; clear hK; clear hK; clear hK; apply hK; clear hK) | (clear hK; clear hK; clear hK; clear hK; clear hK; apply hK; clear hK) | (clear hK; clear hK; clear hK; clear hK; clear hK; clear hK; apply hK; clear hK))
      ((repeat refine jw_seq_k fun K hK => ?_); refine jw_c ?_; simp)
      refine jl_call (f := 21) rfl rfl rfl rfl rfl (hn2) (by simp [BelL, Bel]) ?_
      rintro r rfl
      simp
      (first | (apply hK; clear hK) | (clear hK; apply hK; clear hK) | (clear hK; clear hK; apply hK; clear hK) | (clear hK; clear hK; clear hK; apply hK; clear hK) | (clear hK; clear hK; clear hK; clear hK; apply hK; clear hK) | (clear hK; clear hK; clear hK; clear hK; clear hK; apply hK; clear hK) | (clear hK; clear hK; clear hK; clear hK; clear hK; clear hK; apply hK; clear hK))
      ((repeat refine jw_seq_k fun K hK => ?_); refine jw_reg ?_; simp; (first | (apply hK; clear hK) | (clear hK; apply hK; clear hK) | (clear hK; clear hK; apply hK; clear hK) | (clear hK; clear hK; clear hK; apply hK; clear hK) | (clear hK; clear hK; clear hK; clear hK; apply hK; clear hK) | (clear hK; clear hK; clear hK; clear hK; clear hK; apply hK; clear hK) | (clear hK; clear hK; clear hK; clear hK; clear hK; clear hK; apply hK; clear hK)))
      (repeat refine jw_seq_k fun K hK => ?_); refine jw_cond (t := false) rfl (fun h => by cases h) (fun _ => ?_)
      (refine jw_skip ?_; simp; (first | (apply hK; clear hK) | (clear hK; apply hK; clear hK) | (clear hK; clear hK; apply hK; clear hK) | (clear hK; clear hK; clear hK; apply hK; clear hK) | (clear hK; clear hK; clear hK; clear hK; apply hK; clear hK) | (clear hK; clear hK; clear hK; clear hK; clear hK; apply hK; clear hK) | (clear hK; clear hK; clear hK; clear hK; clear hK; clear hK; apply hK; clear hK)))
      rcases hd with ⟨rfl, rfl, rfl⟩ | ⟨l0, l1, hk0, hne, rfl, rfl, h0, h1⟩
      · ((repeat refine jw_seq_k fun K hK => ?_); refine jw_reg ?_; simp; (first | (apply hK; clear hK) | (clear hK; apply hK; clear hK) | (clear hK; clear hK; apply hK; clear hK) | (clear hK; clear hK; clear hK; apply hK; clear hK) | (clear hK; clear hK; clear hK; clear hK; apply hK; clear hK) | (clear hK; clear hK; clear hK; clear hK; clear hK; apply hK; clear hK) | (clear hK; clear hK; clear hK; clear hK; clear hK; clear hK; apply hK; clear hK)))
        ((repeat refine jw_seq_k fun K hK => ?_); refine jw_reg ?_; simp; (first | (apply hK; clear hK) | (clear hK; apply hK; clear hK) | (clear hK; clear hK; apply hK; clear hK) | (clear hK; clear hK; clear hK; apply hK; clear hK) | (clear hK; clear hK; clear hK; clear hK; apply hK; clear hK) | (clear hK; clear hK; clear hK; clear hK; clear hK; apply hK; clear hK) | (clear hK; clear hK; clear hK; clear hK; clear hK; clear hK; apply hK; clear hK)))
        ((repeat refine jw_seq_k fun K hK => ?_); refine jw_reg ?_; simp)
        refine hKL (a.length - 1) _ _ (by omega) ?_ ⟨1, _, _, _, by omega, rfl, .inr ⟨σ.length + 1, σ.length + 3, by omega, by omega, rfl, rfl, ?_, ?_⟩, rfl⟩
        · simp
        · rw [tL]; simp
        · rw [tN]; simp
      · have i0 := σ_in h0
        have i1 := σ_in h1
        ((repeat refine jw_seq_k fun K hK => ?_); refine jw_reg ?_; simp [h0, List.getElem?_append_left i0, Nat.min_eq_left (show k ≤ L.length by omega), show (k + 1) * 8 ≤ 140737488355328 by omega]; (first | (apply hK; clear hK) | (clear hK; apply hK; clear hK) | (clear hK; clear hK; apply hK; clear hK) | (clear hK; clear hK; clear hK; apply hK; clear hK) | (clear hK; clear hK; clear hK; clear hK; apply hK; clear hK) | (clear hK; clear hK; clear hK; clear hK; clear hK; apply hK; clear hK) | (clear hK; clear hK; clear hK; clear hK; clear hK; clear hK; apply hK; clear hK)))
        obtain ⟨σ1, hs1⟩ : ∃ z, z = (σ ++ [some [D.int .i64 x]]).set l0 (some (List.take k (List.map (D.int .i64) L) ++ [D.int .i64 x])) := ⟨_, rfl⟩
        rw [← hs1]
        have g0 : σ1[l0]? = some (some (List.take k (List.map (D.int .i64) L) ++ [D.int .i64 x])) := by rw [hs1, List.getElem?_set_self (by simp; omega)]
        have g1 : σ1[l1]? = some (some ((N.take k).map (D.int .i64))) := by rw [hs1, List.getElem?_set_ne hne, List.getElem?_append_left i1, h1]
        clear hs1 h0 h1
        have j0 := σ_in g0
        have j1 := σ_in g1
        ((repeat refine jw_seq_k fun K hK => ?_); refine jw_reg ?_; simp [g1, List.getElem?_append_left j1, Nat.min_eq_left (show k ≤ N.length by omega), show (k + 1) * 8 ≤ 140737488355328 by omega]; (first | (apply hK; clear hK) | (clear hK; apply hK; clear hK) | (clear hK; clear hK; apply hK; clear hK) | (clear hK; clear hK; clear hK; apply hK; clear hK) | (clear hK; clear hK; clear hK; clear hK; apply hK; clear hK) | (clear hK; clear hK; clear hK; clear hK; clear hK; apply hK; clear hK) | (clear hK; clear hK; clear hK; clear hK; clear hK; clear hK; apply hK; clear hK)))
        ((repeat refine jw_seq_k fun K hK => ?_); refine jw_reg ?_; simp [hw])
        refine hKL (a.length - (k + 1)) _ _ (by omega) ?_ ⟨k + 1, _, _, _, by omega, rfl, .inr ⟨l0, l1, by omega, hne, rfl, rfl, ?_, ?_⟩, rfl⟩
        · simp
        · show (List.set _ l1 _)[l0]? = _
          rw [List.getElem?_set_ne (Ne.symm hne), List.getElem?_append_left j0, g0, tL, List.map_append, List.map_take]; rfl
        · show (List.set _ l1 _)[l1]? = _
          rw [List.getElem?_set_self (by simp; omega), tN, List.map_append, List.map_take]; rfl
    · simp at hlt
      (repeat refine jw_seq_k fun K hK => ?_); refine jw_exit ?_
      simp
      have hka : k = a.length := by omega
      subst hka
      rw [List.take_of_length_le (by omega), List.take_of_length_le (by omega)] at hd
      refine hM _ _ ?_ ⟨_, rfl⟩
      rcases hd with ⟨h0, rfl, rfl⟩ | ⟨l0, l1, hk0, hne, rfl, rfl, h0, h1⟩
      · have hL0 : L = [] := List.eq_nil_of_length_eq_zero (by omega)
        have hN0 : N = [] := List.eq_nil_of_length_eq_zero (by omega)
        rw [hL0, hN0]
        simp [frzL_flat, flatD, List.take_of_length_le, -List.mapM_append, -List.mapM_map]
      · simp [frzL_flat, flatD, List.take_of_length_le, -List.mapM_append, -List.mapM_map, h0, h1, hlen, hlenN, List.take_of_length_le (show (L.map (D.int .i64)).length ≤ a.length by simp; omega), List.take_of_length_le (show (N.map (D.int .i64)).length ≤ a.length by simp; omega)]
  · rintro _ ⟨σ, rfl⟩
    have hm := morgan L 2
    rw [hN, show (2 : Int) - 2 = 0 from rfl] at hm
    have ca := and L (by omega)
    have co := or N (by omega)
    have ce := and [] (by simp)
    rw [foldD_three hth] at ca
    rw [foldD_three hthN] at co
    have hmn := foldl_min_le L 2
    have hmm := foldl_min_mem L 2
    have hA : 0 ≤ L.foldl min 2 ∧ L.foldl min 2 ≤ 2 := by
      refine ⟨?_, hmn.1⟩
      rcases hmm with h | h
      · omega
      · exact (hth _ h).1
    have cn := not3 (L.foldl min 2)
    rw [not_ok hA, hm] at cn
    generalize L.foldl min 2 = A at *
    generalize N.foldl max 0 = O at *
    ((repeat refine jw_seq_k fun K hK => ?_); refine jw_c ?_; simp)
    refine jl_call (f := 18) rfl rfl rfl rfl rfl (ca) (by simp [BelL, Bel]) ?_
    rintro r rfl
    simp
    (first | (apply hK; clear hK) | (clear hK; apply hK; clear hK) | (clear hK; clear hK; apply hK; clear hK) | (clear hK; clear hK; clear hK; apply hK; clear hK) | (clear hK; clear hK; clear hK; clear hK; apply hK; clear hK) | (clear hK; clear hK; clear hK; clear hK; clear hK; apply hK; clear hK) | (clear hK; clear hK; clear hK; clear hK; clear hK; clear hK; apply hK; clear hK))
    ((repeat refine jw_seq_k fun K hK => ?_); refine jw_c ?_; simp)
    refine jl_call (f := 21) rfl rfl rfl rfl rfl (cn) (by simp [BelL, Bel]) ?_
    rintro r rfl
    simp
    (first | (apply hK; clear hK) | (clear hK; apply hK; clear hK) | (clear hK; clear hK; apply hK; clear hK) | (clear hK; clear hK; clear hK; apply hK; clear hK) | (clear hK; clear hK; clear hK; clear hK; apply hK; clear hK) | (clear hK; clear hK; clear hK; clear hK; clear hK; apply hK; clear hK) | (clear hK; clear hK; clear hK; clear hK; clear hK; clear hK; apply hK; clear hK))
    ((repeat refine jw_seq_k fun K hK => ?_); refine jw_c ?_; simp)
    refine jl_call (f := 19) rfl rfl rfl rfl rfl (co) (by simp [BelL, Bel]) ?_
    rintro r rfl
    simp
    (first | (apply hK; clear hK) | (clear hK; apply hK; clear hK) | (clear hK; clear hK; apply hK; clear hK) | (clear hK; clear hK; clear hK; apply hK; clear hK) | (clear hK; clear hK; clear hK; clear hK; apply hK; clear hK) | (clear hK; clear hK; clear hK; clear hK; clear hK; apply hK; clear hK) | (clear hK; clear hK; clear hK; clear hK; clear hK; clear hK; apply hK; clear hK))
    ((repeat refine jw_seq_k fun K hK => ?_); refine jw_c ?_; simp)
    refine jl_call (f := 18) rfl rfl rfl rfl rfl (fv_wk (args := [.nsl]) (by simp) ce) (by simp [BelL, Bel]) ?_
    rintro r rfl
    simp [foldD]
    (first | (apply hK; clear hK) | (clear hK; apply hK; clear hK) | (clear hK; clear hK; apply hK; clear hK) | (clear hK; clear hK; clear hK; apply hK; clear hK) | (clear hK; clear hK; clear hK; clear hK; apply hK; clear hK) | (clear hK; clear hK; clear hK; clear hK; clear hK; apply hK; clear hK) | (clear hK; clear hK; clear hK; clear hK; clear hK; clear hK; apply hK; clear hK))
    ((repeat refine jw_seq_k fun K hK => ?_); refine jw_reg ?_; simp; (first | (apply hK; clear hK) | (clear hK; apply hK; clear hK) | (clear hK; clear hK; apply hK; clear hK) | (clear hK; clear hK; clear hK; apply hK; clear hK) | (clear hK; clear hK; clear hK; clear hK; apply hK; clear hK) | (clear hK; clear hK; clear hK; clear hK; clear hK; apply hK; clear hK) | (clear hK; clear hK; clear hK; clear hK; clear hK; clear hK; apply hK; clear hK)))
    exact jw_ret (hQ _ _ (.inr rfl) ⟨5, _, _, rfl, rfl, rfl⟩)
end Go.Proofs.Ytkokinckknhfiaa
