/- OrderLine: the walk. -/
import Derived.Test.YtkjndbfinpfjfaaDoorRaw
set_option linter.unusedVariables false
set_option linter.unusedSimpArgs false
set_option maxRecDepth 20000
set_option maxHeartbeats 1000000
namespace Go.Proofs.YtkjndbfinpfjfaaDoor
open Go Go.Vm Go.Proofs

theorem ordV_range (k i : Int) (L : List Nat) (k' i' : Int) (L' : List Nat) : ordV k i L k' i' L' = -1 ∨ ordV k i L k' i' L' = 0 ∨ ordV k i L k' i' L' = 1 := ord_range _ _ _ _ _ _
theorem ordV_zero {k i k' i' : Int} {L L' : List Nat} (h : OkV k i L) (h' : OkV k' i' L') : ordV k i L k' i' L' = 0 ↔ k = k' ∧ i = i' ∧ L = L' := by
  unfold ordV
  rw [ord_zero]
  refine ⟨fun ⟨a, b, c⟩ => ⟨a, b, bytes_inj h.1.lt h'.1.lt c⟩, fun ⟨a, b, c⟩ => ⟨a, b, by rw [c]⟩⟩
theorem bytesS_eq {L L' : List Nat} (h : Clean L) (h' : Clean L') : ((bytesS L).toList == (bytesS L').toList) = decide (L = L') := by
  rw [ByteArray.toList_eq, ByteArray.toList_eq, bytesS_toList, bytesS_toList]
  by_cases e : L = L'
  · simp [e]
  · have : ¬ L.map UInt8.ofNat = L'.map UInt8.ofNat := fun h1 => e (bytes_inj h.lt h'.lt h1)
    simp [e, this]

theorem orderLine {G : Globals} (hV : VStr G) (a b a' b' a'' b'' : Int) (s s' s'' : ByteArray) (hb : (Lit.int .i64 b).wf = true) (hb' : (Lit.int .i64 b').wf = true) (hb'' : (Lit.int .i64 b'').wf = true)
    (hs : s.size ≤ 140737488351232) (hs' : s'.size ≤ 140737488351232) (hs'' : s''.size ≤ 140737488351232) :
    FV Tryd.prog G 3 [.agg [.int .i64 a, .int .i64 b, .str s], .agg [.int .i64 a', .int .i64 b', .str s'], .agg [.int .i64 a'', .int .i64 b'', .str s'']] (fun r => r = .bool true) := by
  have w := wf_i64 hb
  have w' := wf_i64 hb'
  have w'' := wf_i64 hb''
  refine fv_enter Tryd.func3 rfl rfl fun Q hQ => ?_
  ((repeat refine jw_seq_k fun K hK => ?_); refine jw_reg ?_; simp (maxSteps := 1000000) [Tryd.f3]; (first | (apply hK; clear hK) | (clear hK; apply hK; clear hK) | (clear hK; clear hK; apply hK; clear hK) | (clear hK; clear hK; clear hK; apply hK; clear hK) | (clear hK; clear hK; clear hK; clear hK; apply hK; clear hK) | (clear hK; clear hK; clear hK; clear hK; clear hK; apply hK; clear hK) | (clear hK; clear hK; clear hK; clear hK; clear hK; clear hK; apply hK; clear hK)))
  ((repeat refine jw_seq_k fun K hK => ?_); refine jw_c ?_; simp (maxSteps := 1000000))
  refine jl_call (f := 11) rfl rfl rfl rfl rfl (valuedF a b s w.1 w.2 (by omega)) (by simp [BelL, Bel]) ?_
  rintro r ⟨k1, i1, L1, ok1, rfl⟩
  simp [vaD]
  (first | (apply hK; clear hK) | (clear hK; apply hK; clear hK) | (clear hK; clear hK; apply hK; clear hK) | (clear hK; clear hK; clear hK; apply hK; clear hK) | (clear hK; clear hK; clear hK; clear hK; apply hK; clear hK) | (clear hK; clear hK; clear hK; clear hK; clear hK; apply hK; clear hK) | (clear hK; clear hK; clear hK; clear hK; clear hK; clear hK; apply hK; clear hK))
  ((repeat refine jw_seq_k fun K hK => ?_); refine jw_c ?_; simp (maxSteps := 1000000))
  refine jl_call (f := 11) rfl rfl rfl rfl rfl (valuedF a' b' s' w'.1 w'.2 (by omega)) (by simp [BelL, Bel]) ?_
  rintro r ⟨k2, i2, L2, ok2, rfl⟩
  simp [vaD]
  (first | (apply hK; clear hK) | (clear hK; apply hK; clear hK) | (clear hK; clear hK; apply hK; clear hK) | (clear hK; clear hK; clear hK; apply hK; clear hK) | (clear hK; clear hK; clear hK; clear hK; apply hK; clear hK) | (clear hK; clear hK; clear hK; clear hK; clear hK; apply hK; clear hK) | (clear hK; clear hK; clear hK; clear hK; clear hK; clear hK; apply hK; clear hK))
  ((repeat refine jw_seq_k fun K hK => ?_); refine jw_c ?_; simp (maxSteps := 1000000))
  refine jl_call (f := 11) rfl rfl rfl rfl rfl (valuedF a'' b'' s'' w''.1 w''.2 (by omega)) (by simp [BelL, Bel]) ?_
  rintro r ⟨k3, i3, L3, ok3, rfl⟩
  simp [vaD]
  (first | (apply hK; clear hK) | (clear hK; apply hK; clear hK) | (clear hK; clear hK; apply hK; clear hK) | (clear hK; clear hK; clear hK; apply hK; clear hK) | (clear hK; clear hK; clear hK; clear hK; apply hK; clear hK) | (clear hK; clear hK; clear hK; clear hK; clear hK; apply hK; clear hK) | (clear hK; clear hK; clear hK; clear hK; clear hK; clear hK; apply hK; clear hK))
  ((repeat refine jw_seq_k fun K hK => ?_); refine jw_c ?_; simp (maxSteps := 1000000))
  refine jl_call (f := 12) rfl rfl rfl rfl rfl (orderF hV ok1 ok2) (by simp [BelL, Bel]) ?_
  rintro r rfl
  simp
  (first | (apply hK; clear hK) | (clear hK; apply hK; clear hK) | (clear hK; clear hK; apply hK; clear hK) | (clear hK; clear hK; clear hK; apply hK; clear hK) | (clear hK; clear hK; clear hK; clear hK; apply hK; clear hK) | (clear hK; clear hK; clear hK; clear hK; clear hK; apply hK; clear hK) | (clear hK; clear hK; clear hK; clear hK; clear hK; clear hK; apply hK; clear hK))
  ((repeat refine jw_seq_k fun K hK => ?_); refine jw_c ?_; simp (maxSteps := 1000000))
  refine jl_call (f := 12) rfl rfl rfl rfl rfl (orderF hV ok2 ok1) (by simp [BelL, Bel]) ?_
  rintro r rfl
  simp
  (first | (apply hK; clear hK) | (clear hK; apply hK; clear hK) | (clear hK; clear hK; apply hK; clear hK) | (clear hK; clear hK; clear hK; apply hK; clear hK) | (clear hK; clear hK; clear hK; clear hK; apply hK; clear hK) | (clear hK; clear hK; clear hK; clear hK; clear hK; apply hK; clear hK) | (clear hK; clear hK; clear hK; clear hK; clear hK; clear hK; apply hK; clear hK))
  ((repeat refine jw_seq_k fun K hK => ?_); refine jw_c ?_; simp (maxSteps := 1000000))
  refine jl_call (f := 12) rfl rfl rfl rfl rfl (orderF hV ok2 ok3) (by simp [BelL, Bel]) ?_
  rintro r rfl
  simp
  (first | (apply hK; clear hK) | (clear hK; apply hK; clear hK) | (clear hK; clear hK; apply hK; clear hK) | (clear hK; clear hK; clear hK; apply hK; clear hK) | (clear hK; clear hK; clear hK; clear hK; apply hK; clear hK) | (clear hK; clear hK; clear hK; clear hK; clear hK; apply hK; clear hK) | (clear hK; clear hK; clear hK; clear hK; clear hK; clear hK; apply hK; clear hK))
  ((repeat refine jw_seq_k fun K hK => ?_); refine jw_c ?_; simp (maxSteps := 1000000))
  refine jl_call (f := 12) rfl rfl rfl rfl rfl (orderF hV ok1 ok3) (by simp [BelL, Bel]) ?_
  rintro r rfl
  simp
  (first | (apply hK; clear hK) | (clear hK; apply hK; clear hK) | (clear hK; clear hK; apply hK; clear hK) | (clear hK; clear hK; clear hK; apply hK; clear hK) | (clear hK; clear hK; clear hK; clear hK; apply hK; clear hK) | (clear hK; clear hK; clear hK; clear hK; clear hK; apply hK; clear hK) | (clear hK; clear hK; clear hK; clear hK; clear hK; clear hK; apply hK; clear hK))
  ((repeat refine jw_seq_k fun K hK => ?_); refine jw_reg ?_; simp (maxSteps := 1000000); (first | (apply hK; clear hK) | (clear hK; apply hK; clear hK) | (clear hK; clear hK; apply hK; clear hK) | (clear hK; clear hK; clear hK; apply hK; clear hK) | (clear hK; clear hK; clear hK; clear hK; apply hK; clear hK) | (clear hK; clear hK; clear hK; clear hK; clear hK; apply hK; clear hK) | (clear hK; clear hK; clear hK; clear hK; clear hK; clear hK; apply hK; clear hK)))
  ((repeat refine jw_seq_k fun K hK => ?_); refine jw_cond (t := false) rfl (fun h => by cases h) (fun _ => ?_); refine jw_skip ?_; simp; (first | (apply hK; clear hK) | (clear hK; apply hK; clear hK) | (clear hK; clear hK; apply hK; clear hK) | (clear hK; clear hK; clear hK; apply hK; clear hK) | (clear hK; clear hK; clear hK; clear hK; apply hK; clear hK) | (clear hK; clear hK; clear hK; clear hK; clear hK; apply hK; clear hK) | (clear hK; clear hK; clear hK; clear hK; clear hK; clear hK; apply hK; clear hK)))
  have a12 : ordV k1 i1 L1 k2 i2 L2 = - ordV k2 i2 L2 k1 i1 L1 := ord_anti _ _ _ _ _ _
  have z12 := ordV_zero ok1 ok2
  have t13 : ordV k1 i1 L1 k2 i2 L2 ≤ 0 → ordV k2 i2 L2 k3 i3 L3 ≤ 0 → ordV k1 i1 L1 k3 i3 L3 ≤ 0 := ord_trans _ _ _ _ _ _ _ _ _
  have r12 := ordV_range k1 i1 L1 k2 i2 L2
  have r21 := ordV_range k2 i2 L2 k1 i1 L1
  generalize ordV k1 i1 L1 k2 i2 L2 = o12 at *
  generalize ordV k2 i2 L2 k1 i1 L1 = o21 at *
  generalize ordV k2 i2 L2 k3 i3 L3 = o23 at *
  generalize ordV k1 i1 L1 k3 i3 L3 = o13 at *
  have e12 : ∀ σ, eqD Tryd.prog σ 20 24 (.agg [.int .i64 k1, .int .i64 i1, .str (bytesS L1)]) (.agg [.int .i64 k2, .int .i64 i2, .str (bytesS L2)]) = some (o12 == 0) := by
    intro σ
    simp [bytesS_eq ok1.1 ok2.1]
    rw [Bool.eq_iff_iff]
    simp [z12]
  clear z12
  rcases r21 with rfl | rfl | rfl
  all_goals
    obtain rfl : o12 = _ := a12
    ((repeat refine jw_seq_k fun K hK => ?_); refine jw_reg ?_; simp (maxSteps := 1000000) [-eq24, e12]; (first | (apply hK; clear hK) | (clear hK; apply hK; clear hK) | (clear hK; clear hK; apply hK; clear hK) | (clear hK; clear hK; clear hK; apply hK; clear hK) | (clear hK; clear hK; clear hK; clear hK; apply hK; clear hK) | (clear hK; clear hK; clear hK; clear hK; clear hK; apply hK; clear hK) | (clear hK; clear hK; clear hK; clear hK; clear hK; clear hK; apply hK; clear hK)))
    ((repeat refine jw_seq_k fun K hK => ?_); refine jw_cond (t := false) rfl (fun h => by cases h) (fun _ => ?_); refine jw_skip ?_; simp; (first | (apply hK; clear hK) | (clear hK; apply hK; clear hK) | (clear hK; clear hK; apply hK; clear hK) | (clear hK; clear hK; clear hK; apply hK; clear hK) | (clear hK; clear hK; clear hK; clear hK; apply hK; clear hK) | (clear hK; clear hK; clear hK; clear hK; clear hK; apply hK; clear hK) | (clear hK; clear hK; clear hK; clear hK; clear hK; clear hK; apply hK; clear hK)))
    by_cases h23 : o23 ≤ 0
    · by_cases h13 : o13 ≤ 0
      · ((repeat refine jw_seq_k fun K hK => ?_); refine jw_reg ?_; simp (maxSteps := 1000000) [h23, h13]; (first | (apply hK; clear hK) | (clear hK; apply hK; clear hK) | (clear hK; clear hK; apply hK; clear hK) | (clear hK; clear hK; clear hK; apply hK; clear hK) | (clear hK; clear hK; clear hK; clear hK; apply hK; clear hK) | (clear hK; clear hK; clear hK; clear hK; clear hK; apply hK; clear hK) | (clear hK; clear hK; clear hK; clear hK; clear hK; clear hK; apply hK; clear hK)))
        exact jw_ret (hQ _ _ (.inr rfl) ⟨5, _, _, rfl, rfl, rfl⟩)
      · first
          | exact absurd (t13 (by decide) h23) h13
          | (((repeat refine jw_seq_k fun K hK => ?_); refine jw_reg ?_; simp (maxSteps := 1000000) [h23, h13]; (first | (apply hK; clear hK) | (clear hK; apply hK; clear hK) | (clear hK; clear hK; apply hK; clear hK) | (clear hK; clear hK; clear hK; apply hK; clear hK) | (clear hK; clear hK; clear hK; clear hK; apply hK; clear hK) | (clear hK; clear hK; clear hK; clear hK; clear hK; apply hK; clear hK) | (clear hK; clear hK; clear hK; clear hK; clear hK; clear hK; apply hK; clear hK)))
             exact jw_ret (hQ _ _ (.inr rfl) ⟨5, _, _, rfl, rfl, rfl⟩))
    · ((repeat refine jw_seq_k fun K hK => ?_); refine jw_reg ?_; simp (maxSteps := 1000000) [h23]; (first | (apply hK; clear hK) | (clear hK; apply hK; clear hK) | (clear hK; clear hK; apply hK; clear hK) | (clear hK; clear hK; clear hK; apply hK; clear hK) | (clear hK; clear hK; clear hK; clear hK; apply hK; clear hK) | (clear hK; clear hK; clear hK; clear hK; clear hK; apply hK; clear hK) | (clear hK; clear hK; clear hK; clear hK; clear hK; clear hK; apply hK; clear hK)))
      exact jw_ret (hQ _ _ (.inr rfl) ⟨5, _, _, rfl, rfl, rfl⟩)
theorem orderLine_row (a : List D) (ap : Parts RawP a) (b : List D) (bp : Parts RawP b) (c : List D) (cp : Parts RawP c) : FV Tryd.prog utfG 3 [.agg a, .agg b, .agg c] (fun r => r = .bool true) := by
  obtain ⟨k, i, s, h1, h2, h3, rfl⟩ := raw_of ap
  obtain ⟨k', i', s', h1', h2', h3', rfl⟩ := raw_of bp
  obtain ⟨k'', i'', s'', h1'', h2'', h3'', rfl⟩ := raw_of cp
  exact orderLine vstr k i k' i' k'' i'' s s' s'' h2 h2' h2'' h3 h3' h3''
end Go.Proofs.YtkjndbfinpfjfaaDoor
