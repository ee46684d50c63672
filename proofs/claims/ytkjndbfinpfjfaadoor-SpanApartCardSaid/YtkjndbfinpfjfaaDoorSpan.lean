/- Spans of indexes: the walk, and that no two meet. -/
import Derived.Test.YtkjndbfinpfjfaaDoorKeyPure
import Derived.Test.YtkjndbfinpfjfaaDoorLess
import Derived.Test.YtkjndbfinpfjfaaDoorNext
import Derived.Test.YtkjndbfinpfjfaaDoorSameBytes
import Derived.Test.YtkjndbfinpfjfaaDoorOctets
set_option linter.unusedVariables false
set_option linter.unusedSimpArgs false
set_option maxRecDepth 20000
set_option maxHeartbeats 20000000
namespace Go.Proofs.YtkjndbfinpfjfaaDoor
open Go Go.Vm Go.Proofs

/-- Encode, of a list that stands in the store. -/
theorem encodeZ (l : List Va) (hl : l.length ≤ 14) (h : ∀ v ∈ l, VOk v) (k v n : Nat) (σ : Store) (hv : v = l.length * 3) (hn' : n = l.length) (hσ : σ[k]? = some (some (.c (l.flatMap vaC)))) :
    FC Tryd.prog utfG 21 [.ms k v 0 n 3] σ (fun d σ' => d = .tup [natsD (encL l), .int .i64 0] ∧ σ' = thS k (l.flatMap vaC) σ) := by
  subst hv hn'
  have hlen := vas_len l
  refine fc_frz k _ hσ (belL_vas 0 l) ?_
  have e : thL k (l.flatMap vaC) [.ms k (l.length * 3) 0 l.length 3] = [vasD l] := by
    simp [thL, thD, hlen, vasD, List.take_of_length_le]
  rw [e]
  exact (fc_val (encodeF l hl h) ⟨bel_vas 0 l, trivial⟩).mono fun d σ' h => h

def spanN (a i : Nat) : List Nat := [4, 128, 0, 0, 0, 0, 0, 0, a, 4, 128, 0, 0, 0, 0, 0, 0, i]
def spanL (a i : Nat) : List Int := (spanN a i).map fun n : Nat => (n : Int)
theorem be_small (a : Nat) (h : a < 256) : be64 ((a : Int) + 9223372036854775808).toNat = [128, 0, 0, 0, 0, 0, 0, a] := by
  have e : ((a : Int) + 9223372036854775808).toNat = a + 9223372036854775808 := by omega
  rw [e]
  have h0 : (a + 9223372036854775808) / 72057594037927936 % 256 = 128 := by omega
  have h1 : (a + 9223372036854775808) / 281474976710656 % 256 = 0 := by omega
  have h2 : (a + 9223372036854775808) / 1099511627776 % 256 = 0 := by omega
  have h3 : (a + 9223372036854775808) / 4294967296 % 256 = 0 := by omega
  have h4 : (a + 9223372036854775808) / 16777216 % 256 = 0 := by omega
  have h5 : (a + 9223372036854775808) / 65536 % 256 = 0 := by omega
  have h6 : (a + 9223372036854775808) / 256 % 256 = 0 := by omega
  have h7 : (a + 9223372036854775808) % 256 = a := by omega
  unfold be64
  rw [h0, h1, h2, h3, h4, h5, h6, h7]
theorem enc_span (a i : Nat) (ha : a < 256) (hi : i < 256) : encL [⟨2, a, []⟩, ⟨2, i, []⟩] = spanN a i := by
  unfold encL encA encV spanN
  simp [be_small a ha, be_small i hi]
theorem next_span (a i : Nat) (hi : i < 255) : saidNext (spanL a i) = .tup [bytesD (spanL a (i + 1)), .int .i64 0] := by
  have h := nextOf_some (p := [4, 128, 0, 0, 0, 0, 0, 0, (a : Int), 4, 128, 0, 0, 0, 0, 0, 0]) (x := (i : Int)) (q := []) (by omega) (by simp)
  unfold saidNext
  have e : spanL a i = [4, 128, 0, 0, 0, 0, 0, 0, (a : Int), 4, 128, 0, 0, 0, 0, 0, 0] ++ (i : Int) :: [] := rfl
  have e2 : spanL a (i + 1) = [4, 128, 0, 0, 0, 0, 0, 0, (a : Int), 4, 128, 0, 0, 0, 0, 0, 0] ++ [(i : Int) + 1] := rfl
  rw [e, h, e2]
theorem numberF {G : Globals} (n : Int) : FV Tryd.prog G 28 [.int .i64 n] (fun r => r = .agg [.int .i64 2, .int .i64 n, .str (bytesS [])]) := by
  refine fv_enter_v Tryd.func28 rfl rfl fun Q hQ => ?_
  repeat' first
    | refine jw_seq_k fun K hK => ?_
    | refine jw_block ?_
    | (refine jw_skip ?_; try simp)
    | (refine jw_exit ?_; try simp)
    | (refine jw_cond rfl (fun hc => ?_) (fun hc => ?_) <;> (try simp at hc) <;> (try (exfalso; first | omega | exact absurd hc (by assumption))))
    | (refine jw_c ?_; simp (maxSteps := 1000000) [Tryd.f28])
    | (refine jw_draw_j mixed (by kernel_rfl) ?_; simp (maxSteps := 1000000) [Tryd.f28])
    | (first | (apply hK; clear hK) | (clear hK; apply hK; clear hK) | (clear hK; clear hK; apply hK; clear hK) | (clear hK; clear hK; clear hK; apply hK; clear hK))
    | (refine jw_ret (hQ _ _ (.inr rfl) (ret_ok 0 ?_ (by first | omega | simp))); simp (maxSteps := 1000000) [okRet, BelL, Bel, BelS, BelOb, Tryd.f28])
    | (refine hQ _ _ (.inl rfl) (ret_ok 0 ?_ (by first | omega | simp)); simp (maxSteps := 1000000) [okRet, BelL, Bel, BelS, BelOb, Tryd.f28])
    | (refine jd_newc rfl rfl (by simp) ?_; simp (maxSteps := 1000000) [thD, thL, Tryd.f28])
    | (refine okN_or ?_; simp (maxSteps := 1000000) [thD, thL, Tryd.f28])
    | (refine okC_guard (fun hc => ?_) (fun hc => ?_) <;> (first | simp (maxSteps := 1000000) [hc, of_decide_eq_true hc, Tryd.f28] | simp (maxSteps := 1000000) [hc, of_decide_eq_false hc, Tryd.f28] | simp (maxSteps := 1000000) [hc, Tryd.f28]) <;> (try simp at hc) <;> (try (exfalso; first | omega | exact absurd hc (by assumption))))
    | (refine okJ_guard (fun hc => ?_) (fun hc => ?_) <;> (first | simp (maxSteps := 1000000) [hc, of_decide_eq_true hc, Tryd.f28] | simp (maxSteps := 1000000) [hc, of_decide_eq_false hc, Tryd.f28] | simp (maxSteps := 1000000) [hc, Tryd.f28]) <;> (try simp at hc) <;> (try (exfalso; first | omega | exact absurd hc (by assumption))))
    | (refine And.intro (by first | assumption | omega | (simp [BelL, Bel]; done) | (simp; omega)) ?_; try simp (maxSteps := 1000000) [Tryd.f28])
    | (refine okC_or ?_; simp (maxSteps := 1000000) [Tryd.f28])
  all_goals rfl
theorem spanF (a i : Nat) (ha : a < 4) (hi : i < 3) : FV Tryd.prog utfG 15 [.int .i64 a, .int .i64 i] (fun r => r = .tup [.agg [bytesD (spanL a i), bytesD (spanL a (i + 1))], .int .i64 0]) := by
  have hE := fun k v n σ => encodeZ [⟨2, a, []⟩, ⟨2, i, []⟩] (by simp) (by
    intro v hv
    simp at hv
    rcases hv with rfl | rfl
    · exact ⟨txt_nil, by simp, by dsimp only; omega, by dsimp only; omega, .inr (.inr (.inl ⟨rfl, rfl⟩))⟩
    · exact ⟨txt_nil, by simp, by dsimp only; omega, by dsimp only; omega, .inr (.inr (.inl ⟨rfl, rfl⟩))⟩) k v n σ
  rw [enc_span a i (by omega) (by omega), natsD_bytes] at hE
  have hN := nextKey (G := utfG) (spanL a i) (by simp [spanL, spanN]) (by
    intro x hx
    obtain ⟨y, hy, rfl⟩ := List.mem_map.1 hx
    simp [spanN] at hy
    omega)
  rw [next_span a i (by omega)] at hN
  have e : (spanN a i).map (fun n : Nat => (n : Int)) = spanL a i := rfl
  rw [e] at hE
  generalize spanL a i = L at *
  generalize spanL a (i + 1) = M at *
  refine fv_enter_v Tryd.func15 rfl rfl fun Q hQ => ?_
  repeat' first
    | refine jw_seq_k fun K hK => ?_
    | refine jw_block ?_
    | (refine jw_skip ?_; try simp)
    | (refine jw_exit ?_; try simp)
    | (refine jw_cond rfl (fun hc => ?_) (fun hc => ?_) <;> (try simp at hc) <;> (try (exfalso; first | omega | exact absurd hc (by assumption))))
    | (refine jw_c ?_; simp (maxSteps := 1000000) [Tryd.f15, show ¬ (a : Int) < 0 by omega, show ¬ (4 : Int) ≤ a by omega, show ¬ (i : Int) < 0 by omega, show ¬ (2 : Int) < i by omega, vaC, thS, thOb, thL, okCell])
    | (refine jw_draw_j mixed (by kernel_rfl) ?_; simp (maxSteps := 1000000) [Tryd.f15, show ¬ (a : Int) < 0 by omega, show ¬ (4 : Int) ≤ a by omega, show ¬ (i : Int) < 0 by omega, show ¬ (2 : Int) < i by omega, vaC, thS, thOb, thL, okCell])
    | (first | (apply hK; clear hK) | (clear hK; apply hK; clear hK) | (clear hK; clear hK; apply hK; clear hK) | (clear hK; clear hK; clear hK; apply hK; clear hK))
    | (refine jl_call (f := 28) rfl rfl rfl rfl rfl (numberF _) (by simp [BelL, Bel]) ?_; rintro r rfl; simp (maxSteps := 1000000) [Tryd.f15, show ¬ (a : Int) < 0 by omega, show ¬ (4 : Int) ≤ a by omega, show ¬ (i : Int) < 0 by omega, show ¬ (2 : Int) < i by omega, vaC, thS, thOb, thL, okCell])
    | (refine jd_call (f := 28) rfl rfl rfl rfl rfl (numberF _) (by simp [BelL, Bel]) ?_; simp (maxSteps := 1000000) [Tryd.f15, show ¬ (a : Int) < 0 by omega, show ¬ (4 : Int) ≤ a by omega, show ¬ (i : Int) < 0 by omega, show ¬ (2 : Int) < i by omega, vaC, thS, thOb, thL, okCell])
    | (refine jl_fc (f := 21) rfl rfl rfl rfl rfl (hE _ _ _ _ rfl rfl (by simp [vaC])) ?_; rintro r σ' ⟨rfl, rfl⟩; simp (maxSteps := 1000000) [Tryd.f15, show ¬ (a : Int) < 0 by omega, show ¬ (4 : Int) ≤ a by omega, show ¬ (i : Int) < 0 by omega, show ¬ (2 : Int) < i by omega, vaC, thS, thOb, thL, okCell])
    | (refine jl_call (f := 29) rfl rfl rfl rfl rfl (hN) (by simp [BelL, Bel]) ?_; rintro r rfl; simp (maxSteps := 1000000) [Tryd.f15, show ¬ (a : Int) < 0 by omega, show ¬ (4 : Int) ≤ a by omega, show ¬ (i : Int) < 0 by omega, show ¬ (2 : Int) < i by omega, vaC, thS, thOb, thL, okCell])
    | (refine jd_call (f := 29) rfl rfl rfl rfl rfl (hN) (by simp [BelL, Bel]) ?_; simp (maxSteps := 1000000) [Tryd.f15, show ¬ (a : Int) < 0 by omega, show ¬ (4 : Int) ≤ a by omega, show ¬ (i : Int) < 0 by omega, show ¬ (2 : Int) < i by omega, vaC, thS, thOb, thL, okCell])
    | (refine jw_ret (hQ _ _ (.inr rfl) (ret_ok 0 ?_ (by first | omega | simp))); simp (maxSteps := 1000000) [okRet, BelL, Bel, BelS, BelOb, Tryd.f15, show ¬ (a : Int) < 0 by omega, show ¬ (4 : Int) ≤ a by omega, show ¬ (i : Int) < 0 by omega, show ¬ (2 : Int) < i by omega, vaC, thS, thOb, thL, okCell])
    | (refine hQ _ _ (.inl rfl) (ret_ok 0 ?_ (by first | omega | simp)); simp (maxSteps := 1000000) [okRet, BelL, Bel, BelS, BelOb, Tryd.f15, show ¬ (a : Int) < 0 by omega, show ¬ (4 : Int) ≤ a by omega, show ¬ (i : Int) < 0 by omega, show ¬ (2 : Int) < i by omega, vaC, thS, thOb, thL, okCell])
    | (refine jd_newc rfl rfl (by simp) ?_; simp (maxSteps := 1000000) [thD, thL, Tryd.f15, show ¬ (a : Int) < 0 by omega, show ¬ (4 : Int) ≤ a by omega, show ¬ (i : Int) < 0 by omega, show ¬ (2 : Int) < i by omega, vaC, thS, thOb, thL, okCell])
    | (refine okN_or ?_; simp (maxSteps := 1000000) [thD, thL, Tryd.f15, show ¬ (a : Int) < 0 by omega, show ¬ (4 : Int) ≤ a by omega, show ¬ (i : Int) < 0 by omega, show ¬ (2 : Int) < i by omega, vaC, thS, thOb, thL, okCell])
    | (refine okC_guard (fun hc => ?_) (fun hc => ?_) <;> (first | simp (maxSteps := 1000000) [hc, of_decide_eq_true hc, Tryd.f15, show ¬ (a : Int) < 0 by omega, show ¬ (4 : Int) ≤ a by omega, show ¬ (i : Int) < 0 by omega, show ¬ (2 : Int) < i by omega, vaC, thS, thOb, thL, okCell] | simp (maxSteps := 1000000) [hc, of_decide_eq_false hc, Tryd.f15, show ¬ (a : Int) < 0 by omega, show ¬ (4 : Int) ≤ a by omega, show ¬ (i : Int) < 0 by omega, show ¬ (2 : Int) < i by omega, vaC, thS, thOb, thL, okCell] | simp (maxSteps := 1000000) [hc, Tryd.f15, show ¬ (a : Int) < 0 by omega, show ¬ (4 : Int) ≤ a by omega, show ¬ (i : Int) < 0 by omega, show ¬ (2 : Int) < i by omega, vaC, thS, thOb, thL, okCell]) <;> (try simp at hc) <;> (try (exfalso; first | omega | exact absurd hc (by assumption))))
    | (refine okJ_guard (fun hc => ?_) (fun hc => ?_) <;> (first | simp (maxSteps := 1000000) [hc, of_decide_eq_true hc, Tryd.f15, show ¬ (a : Int) < 0 by omega, show ¬ (4 : Int) ≤ a by omega, show ¬ (i : Int) < 0 by omega, show ¬ (2 : Int) < i by omega, vaC, thS, thOb, thL, okCell] | simp (maxSteps := 1000000) [hc, of_decide_eq_false hc, Tryd.f15, show ¬ (a : Int) < 0 by omega, show ¬ (4 : Int) ≤ a by omega, show ¬ (i : Int) < 0 by omega, show ¬ (2 : Int) < i by omega, vaC, thS, thOb, thL, okCell] | simp (maxSteps := 1000000) [hc, Tryd.f15, show ¬ (a : Int) < 0 by omega, show ¬ (4 : Int) ≤ a by omega, show ¬ (i : Int) < 0 by omega, show ¬ (2 : Int) < i by omega, vaC, thS, thOb, thL, okCell]) <;> (try simp at hc) <;> (try (exfalso; first | omega | exact absurd hc (by assumption))))
    | (refine And.intro (by first | assumption | omega | (simp [BelL, Bel]; done) | (simp; omega)) ?_; try simp (maxSteps := 1000000) [Tryd.f15, show ¬ (a : Int) < 0 by omega, show ¬ (4 : Int) ≤ a by omega, show ¬ (i : Int) < 0 by omega, show ¬ (2 : Int) < i by omega, vaC, thS, thOb, thL, okCell])
    | (refine okC_or ?_; simp (maxSteps := 1000000) [Tryd.f15, show ¬ (a : Int) < 0 by omega, show ¬ (4 : Int) ≤ a by omega, show ¬ (i : Int) < 0 by omega, show ¬ (2 : Int) < i by omega, vaC, thS, thOb, thL, okCell])
end Go.Proofs.YtkjndbfinpfjfaaDoor
