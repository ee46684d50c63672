/- A tape that is read: take, readNumber, readText. -/
import Derived.Test.YthaidogcgjnhcaaFlat
import Derived.Test.YthaidogcgjnhcaaClone
import Derived.Laws.BitsAllLaws
set_option linter.unusedVariables false
set_option linter.unusedSimpArgs false
set_option maxRecDepth 20000
set_option maxHeartbeats 20000000
namespace Go.Proofs.Ythaidogcgjnhcaa
open Go Go.Vm Go.Proofs

/-- A tape: what is still to be read; has it ended too early? -/
structure Tp where
  b : List Int
  bad : Bool
def tpC (t : Tp) : List D := [bytesD t.b, .bool t.bad]
def Bytes (l : List Int) : Prop := ∀ x ∈ l, 0 ≤ x ∧ x < 256
def takeR (t : Tp) (n : Nat) : List Int × Tp := if t.bad = true ∨ t.b.length < n then ([], ⟨t.b, true⟩) else (t.b.take n, ⟨t.b.drop n, t.bad⟩)
@[simp] theorem tpC_bel (n : Nat) (t : Tp) : BelL n (tpC t) := ⟨bel_nums _ _ _, trivial, trivial⟩
theorem takeF {G : Globals} (t : Tp) (n : Nat) (hn : n ≤ 9223372036854775807) : FC Try.prog G 25 [.ptr 0 2 0, .int .i64 n] [some (.c (tpC t))] (fun d σ' => d = bytesD (takeR t n).1 ∧ σ' = [some (.c (tpC (takeR t n).2))]) := by
  obtain ⟨b, bad⟩ := t
  refine fc_to ?_
  refine fc_enter_v Try.func25 rfl rfl fun Q hQ => ?_
  cases bad with
  | true =>
    have e : takeR ⟨b, true⟩ n = ([], ⟨b, true⟩) := by unfold takeR; simp
    rw [e] at hQ
    unfold tpC at hQ
    repeat' first
      | refine jw_seq_k fun K hK => ?_
      | refine jw_block ?_
      | (refine jw_skip ?_; try simp)
      | (refine jw_exit ?_; try simp)
      | (refine jw_cond rfl (fun hc => ?_) (fun hc => ?_) <;> (try simp at hc) <;> (try (exfalso; first | omega | exact absurd hc (by assumption))))
      | (refine jw_c ?_; simp (maxSteps := 1000000) [Try.f25, tpC, numsD, okCell])
      | (refine jw_draw_j mixed (by kernel_rfl) ?_; simp (maxSteps := 1000000) [Try.f25, tpC, numsD, okCell])
      | (first | (apply hK; clear hK) | (clear hK; apply hK; clear hK) | (clear hK; clear hK; apply hK; clear hK) | (clear hK; clear hK; clear hK; apply hK; clear hK))
      | (refine jw_ret (hQ _ _ (.inr rfl) (ret_ok 1 ?_ (by first | omega | simp))); simp (maxSteps := 1000000) [okRet, BelL, Bel, BelS, BelOb, Try.f25, tpC, numsD, okCell])
      | (refine hQ _ _ (.inl rfl) (ret_ok 1 ?_ (by first | omega | simp)); simp (maxSteps := 1000000) [okRet, BelL, Bel, BelS, BelOb, Try.f25, tpC, numsD, okCell])
      | (refine jd_newc rfl rfl (by simp) ?_; simp (maxSteps := 1000000) [thD, thL, Try.f25, tpC, numsD, okCell])
      | (refine okN_or ?_; simp (maxSteps := 1000000) [thD, thL, Try.f25, tpC, numsD, okCell])
      | (refine okC_guard (fun hc => ?_) (fun hc => ?_) <;> (first | simp (maxSteps := 1000000) [hc, of_decide_eq_true hc, Try.f25, tpC, numsD, okCell] | simp (maxSteps := 1000000) [hc, of_decide_eq_false hc, Try.f25, tpC, numsD, okCell] | simp (maxSteps := 1000000) [hc, Try.f25, tpC, numsD, okCell]) <;> (try simp at hc) <;> (try (exfalso; first | omega | exact absurd hc (by assumption))))
      | (refine okJ_guard (fun hc => ?_) (fun hc => ?_) <;> (first | simp (maxSteps := 1000000) [hc, of_decide_eq_true hc, Try.f25, tpC, numsD, okCell] | simp (maxSteps := 1000000) [hc, of_decide_eq_false hc, Try.f25, tpC, numsD, okCell] | simp (maxSteps := 1000000) [hc, Try.f25, tpC, numsD, okCell]) <;> (try simp at hc) <;> (try (exfalso; first | omega | exact absurd hc (by assumption))))
      | (refine And.intro (by first | assumption | omega | (simp [BelL, Bel]; done) | (simp; omega)) ?_; try simp (maxSteps := 1000000) [Try.f25, tpC, numsD, okCell])
      | (refine okC_or ?_; simp (maxSteps := 1000000) [Try.f25, tpC, numsD, okCell])
  | false =>
    by_cases hl : b.length < n
    · have e : takeR ⟨b, false⟩ n = ([], ⟨b, true⟩) := by unfold takeR; simp [hl]
      rw [e] at hQ
      unfold tpC at hQ
      repeat' first
        | refine jw_seq_k fun K hK => ?_
        | refine jw_block ?_
        | (refine jw_skip ?_; try simp)
        | (refine jw_exit ?_; try simp)
        | (refine jw_cond rfl (fun hc => ?_) (fun hc => ?_) <;> (try simp at hc) <;> (try (exfalso; first | omega | exact absurd hc (by assumption))))
        | (refine jw_c ?_; simp (maxSteps := 1000000) [Try.f25, tpC, numsD, okCell, hl])
        | (refine jw_draw_j mixed (by kernel_rfl) ?_; simp (maxSteps := 1000000) [Try.f25, tpC, numsD, okCell, hl])
        | (first | (apply hK; clear hK) | (clear hK; apply hK; clear hK) | (clear hK; clear hK; apply hK; clear hK) | (clear hK; clear hK; clear hK; apply hK; clear hK))
        | (refine jw_ret (hQ _ _ (.inr rfl) (ret_ok 1 ?_ (by first | omega | simp))); simp (maxSteps := 1000000) [okRet, BelL, Bel, BelS, BelOb, Try.f25, tpC, numsD, okCell, hl])
        | (refine hQ _ _ (.inl rfl) (ret_ok 1 ?_ (by first | omega | simp)); simp (maxSteps := 1000000) [okRet, BelL, Bel, BelS, BelOb, Try.f25, tpC, numsD, okCell, hl])
        | (refine jd_newc rfl rfl (by simp) ?_; simp (maxSteps := 1000000) [thD, thL, Try.f25, tpC, numsD, okCell, hl])
        | (refine okN_or ?_; simp (maxSteps := 1000000) [thD, thL, Try.f25, tpC, numsD, okCell, hl])
        | (refine okC_guard (fun hc => ?_) (fun hc => ?_) <;> (first | simp (maxSteps := 1000000) [hc, of_decide_eq_true hc, Try.f25, tpC, numsD, okCell, hl] | simp (maxSteps := 1000000) [hc, of_decide_eq_false hc, Try.f25, tpC, numsD, okCell, hl] | simp (maxSteps := 1000000) [hc, Try.f25, tpC, numsD, okCell, hl]) <;> (try simp at hc) <;> (try (exfalso; first | omega | exact absurd hc (by assumption))))
        | (refine okJ_guard (fun hc => ?_) (fun hc => ?_) <;> (first | simp (maxSteps := 1000000) [hc, of_decide_eq_true hc, Try.f25, tpC, numsD, okCell, hl] | simp (maxSteps := 1000000) [hc, of_decide_eq_false hc, Try.f25, tpC, numsD, okCell, hl] | simp (maxSteps := 1000000) [hc, Try.f25, tpC, numsD, okCell, hl]) <;> (try simp at hc) <;> (try (exfalso; first | omega | exact absurd hc (by assumption))))
        | (refine And.intro (by first | assumption | omega | (simp [BelL, Bel]; done) | (simp; omega)) ?_; try simp (maxSteps := 1000000) [Try.f25, tpC, numsD, okCell, hl])
        | (refine okC_or ?_; simp (maxSteps := 1000000) [Try.f25, tpC, numsD, okCell, hl])
    · have e : takeR ⟨b, false⟩ n = (b.take n, ⟨b.drop n, false⟩) := by unfold takeR; simp [hl]
      rw [e] at hQ
      unfold tpC at hQ
      repeat' first
        | refine jw_seq_k fun K hK => ?_
        | refine jw_block ?_
        | (refine jw_skip ?_; try simp)
        | (refine jw_exit ?_; try simp)
        | (refine jw_cond rfl (fun hc => ?_) (fun hc => ?_) <;> (try simp at hc) <;> (try (exfalso; first | omega | exact absurd hc (by assumption))))
        | (refine jw_c ?_; simp (maxSteps := 1000000) [Try.f25, tpC, numsD, okCell, hl, show n ≤ b.length by omega])
        | (refine jw_draw_j mixed (by kernel_rfl) ?_; simp (maxSteps := 1000000) [Try.f25, tpC, numsD, okCell, hl, show n ≤ b.length by omega])
        | (first | (apply hK; clear hK) | (clear hK; apply hK; clear hK) | (clear hK; clear hK; apply hK; clear hK) | (clear hK; clear hK; clear hK; apply hK; clear hK))
        | (refine jw_ret (hQ _ _ (.inr rfl) (ret_ok 1 ?_ (by first | omega | simp))); simp (maxSteps := 1000000) [okRet, BelL, Bel, BelS, BelOb, Try.f25, tpC, numsD, okCell, hl, show n ≤ b.length by omega])
        | (refine hQ _ _ (.inl rfl) (ret_ok 1 ?_ (by first | omega | simp)); simp (maxSteps := 1000000) [okRet, BelL, Bel, BelS, BelOb, Try.f25, tpC, numsD, okCell, hl, show n ≤ b.length by omega])
        | (refine jd_newc rfl rfl (by simp) ?_; simp (maxSteps := 1000000) [thD, thL, Try.f25, tpC, numsD, okCell, hl, show n ≤ b.length by omega])
        | (refine okN_or ?_; simp (maxSteps := 1000000) [thD, thL, Try.f25, tpC, numsD, okCell, hl, show n ≤ b.length by omega])
        | (refine okC_guard (fun hc => ?_) (fun hc => ?_) <;> (first | simp (maxSteps := 1000000) [hc, of_decide_eq_true hc, Try.f25, tpC, numsD, okCell, hl, show n ≤ b.length by omega] | simp (maxSteps := 1000000) [hc, of_decide_eq_false hc, Try.f25, tpC, numsD, okCell, hl, show n ≤ b.length by omega] | simp (maxSteps := 1000000) [hc, Try.f25, tpC, numsD, okCell, hl, show n ≤ b.length by omega]) <;> (try simp at hc) <;> (try (exfalso; first | omega | exact absurd hc (by assumption))))
        | (refine okJ_guard (fun hc => ?_) (fun hc => ?_) <;> (first | simp (maxSteps := 1000000) [hc, of_decide_eq_true hc, Try.f25, tpC, numsD, okCell, hl, show n ≤ b.length by omega] | simp (maxSteps := 1000000) [hc, of_decide_eq_false hc, Try.f25, tpC, numsD, okCell, hl, show n ≤ b.length by omega] | simp (maxSteps := 1000000) [hc, Try.f25, tpC, numsD, okCell, hl, show n ≤ b.length by omega]) <;> (try simp at hc) <;> (try (exfalso; first | omega | exact absurd hc (by assumption))))
        | (refine And.intro (by first | assumption | omega | (simp [BelL, Bel]; done) | (simp; omega)) ?_; try simp (maxSteps := 1000000) [Try.f25, tpC, numsD, okCell, hl, show n ≤ b.length by omega])
        | (refine okC_or ?_; simp (maxSteps := 1000000) [Try.f25, tpC, numsD, okCell, hl, show n ≤ b.length by omega])
      all_goals exact ⟨belL_take _ (belL_drop _ (belL_int _ _ _)), List.take_of_length_le (by simp)⟩

theorem take_bytes {t : Tp} (h : Bytes t.b) (n : Nat) : Bytes (takeR t n).1 ∧ Bytes (takeR t n).2.b := by
  unfold takeR
  split
  · exact ⟨fun x hx => by simp at hx, h⟩
  · exact ⟨fun x hx => h x (List.mem_of_mem_take hx), fun x hx => h x (List.mem_of_mem_drop hx)⟩
/-- A number of four bytes. -/
def le4 : List Int → Nat
  | [a, b, c, d] => a.toNat + 256 * b.toNat + 65536 * c.toNat + 16777216 * d.toNat
  | _ => 0
def numR (t : Tp) : Nat × Tp := (le4 (takeR t 4).1, (takeR t 4).2)
theorem or_shift (n b i : Nat) (hn : n < 2 ^ i) (hb : b < 256) (hi : i ≤ 24) : bits .or .i64 (n : Int) ((b * 2 ^ i : Nat) : Int) = ((n + b * 2 ^ i : Nat) : Int) := by
  have h1 : 2 ^ i ≤ 2 ^ 24 := Nat.pow_le_pow_right (by decide) hi
  have h2 : b * 2 ^ i ≤ 255 * 2 ^ 24 := Nat.mul_le_mul (by omega) h1
  have h3 : (2 : Nat) ^ 24 = 16777216 := rfl
  have h4 : (2 : Nat) ^ 40 = 1099511627776 := rfl
  have h5 : (2 : Int) ^ 40 = 1099511627776 := rfl
  rw [(bits_nat .i64 40 (by decide) (fun n h1 h2 => wrap_i64 (by omega) (by omega)) n (b * 2 ^ i) (by omega) (by omega)).2, Nat.mul_comm, Nat.or_comm, ← Nat.two_pow_add_eq_or_of_lt hn]
  congr 1; omega
theorem or4 {a b c d : Nat} (ha : a < 256) (hb : b < 256) (hc : c < 256) (hd : d < 256) :
    bits .or .i64 (bits .or .i64 (bits .or .i64 (bits .or .i64 0 (IntKind.i64.wrap (IntKind.i64.wrap a))) (IntKind.i64.wrap (IntKind.i64.wrap b * 2 ^ min 8 IntKind.i64.bits))) (IntKind.i64.wrap (IntKind.i64.wrap c * 2 ^ min 16 IntKind.i64.bits)))
      (IntKind.i64.wrap (IntKind.i64.wrap d * 2 ^ min 24 IntKind.i64.bits)) = (a : Int) + 256 * b + 65536 * c + 16777216 * d := by
  have w : ∀ (x : Nat), x < 256 → IntKind.i64.wrap (x : Int) = x := fun x h => wrap_i64 (by omega) (by omega)
  have s : ∀ (x i : Nat), x < 256 → i ≤ 24 → IntKind.i64.wrap ((x : Int) * 2 ^ i) = ((x * 2 ^ i : Nat) : Int) := fun x i h hi => by
    have h1 : 2 ^ i ≤ 2 ^ 24 := Nat.pow_le_pow_right (by decide) hi
    have h2 : x * 2 ^ i ≤ 255 * 2 ^ 24 := Nat.mul_le_mul (by omega) h1
    have h3 : (2 : Nat) ^ 24 = 16777216 := rfl
    have e : (x : Int) * 2 ^ i = ((x * 2 ^ i : Nat) : Int) := by simp
    rw [e]
    exact wrap_i64 (by omega) (by omega)
  have m8 : min 8 IntKind.i64.bits = 8 := rfl
  have m16 : min 16 IntKind.i64.bits = 16 := rfl
  have m24 : min 24 IntKind.i64.bits = 24 := rfl
  rw [w a ha, w a ha, w b hb, w c hc, w d hd, m8, m16, m24, s b 8 hb (by omega), s c 16 hc (by omega), s d 24 hd (by omega)]
  have o0 := or_shift 0 a 0 (by decide) ha (by omega)
  have o1 := or_shift a b 8 (by omega) hb (by omega)
  have o2 := or_shift (a + b * 2 ^ 8) c 16 (by omega) hc (by omega)
  have o3 := or_shift (a + b * 2 ^ 8 + c * 2 ^ 16) d 24 (by omega) hd (by omega)
  simp only [Nat.pow_zero, Nat.mul_one, Nat.zero_add] at o0
  rw [show ((0 : Nat) : Int) = 0 from rfl] at o0
  rw [o0, o1, o2, o3]
  omega
theorem readNumF {G : Globals} (t : Tp) (hb : Bytes t.b) : FC Try.prog G 19 [.ptr 0 2 0] [some (.c (tpC t))] (fun d σ' => d = .int .i64 (numR t).1 ∧ σ' = [some (.c (tpC (numR t).2))]) := by
  have ht := takeF (G := G) t 4 (by omega)
  have hbb := (take_bytes hb 4).1
  have hbel := fun n => tpC_bel n (takeR t 4).2
  have hl : (takeR t 4).1 = [] ∨ (takeR t 4).1.length = 4 := by
    unfold takeR
    split
    · exact .inl rfl
    · rename_i h
      right
      rw [List.length_take]
      have : ¬ t.b.length < 4 := fun h2 => h (.inr h2)
      omega
  unfold numR
  refine fc_enter_v Try.func19 rfl rfl fun Q hQ => ?_
  dsimp only at hQ
  generalize (takeR t 4).1 = L at *
  generalize tpC (takeR t 4).2 = T at *
  have hren := fun r => renL_flat r (hbel 0)
  rcases hl with rfl | hl
  · have e : le4 [] = 0 := rfl
    rw [e] at hQ
    repeat' first
      | refine jw_ret (hQ _ _ (.inr rfl) ⟨5, _, _, rfl, rfl, ?_⟩)
      | refine jw_ret (hQ _ _ (.inr rfl) ⟨_, rfl, ?_⟩)
      | refine jw_seq_k fun K hK => ?_
      | refine jw_block ?_
      | (refine jw_skip ?_; try simp)
      | (refine jw_exit ?_; try simp)
      | (refine jw_cond rfl (fun hc => ?_) (fun hc => ?_) <;> (try simp at hc) <;> (try (exfalso; first | omega | exact absurd hc (by assumption))))
      | (refine jw_c ?_; simp (maxSteps := 1000000) [Try.f19, hren])
      | (refine jw_draw_j mixed (by kernel_rfl) ?_; simp (maxSteps := 1000000) [Try.f19, hren])
      | (first | (apply hK; clear hK) | (clear hK; apply hK; clear hK) | (clear hK; clear hK; apply hK; clear hK) | (clear hK; clear hK; clear hK; apply hK; clear hK))
      | exact hQ _ _ (.inl rfl) ⟨5, _, _, rfl, rfl, rfl⟩
      | refine hQ _ _ (.inl rfl) ⟨5, _, _, rfl, rfl, ?_⟩
      | refine hQ _ _ (.inl rfl) ⟨_, rfl, ?_⟩
      | (refine jl_fr (f := 25) 0 rfl rfl rfl rfl rfl (ht) (by simp [renL, renD, renD_flat, renL_flat, Try.f19, hren]) rfl (by simp [BelL, Bel]) (by simp [BelOb, BelL, Bel]) ?_; rintro d0 x g ⟨rfl, hg⟩; obtain ⟨rfl, rfl⟩ := List.cons.inj hg; simp (maxSteps := 1000000) [renOb, renL, renD, renD_flat, renL_flat, Try.f19, hren])
      | (refine jd_newc rfl rfl (by simp) ?_; simp (maxSteps := 1000000) [thD, thL, Try.f19, hren])
      | (refine okN_or ?_; simp (maxSteps := 1000000) [thD, thL, Try.f19, hren])
      | (refine okC_guard (fun hc => ?_) (fun hc => ?_) <;> (first | simp (maxSteps := 1000000) [hc, of_decide_eq_true hc, Try.f19, hren] | simp (maxSteps := 1000000) [hc, of_decide_eq_false hc, Try.f19, hren] | simp (maxSteps := 1000000) [hc, Try.f19, hren]) <;> (try simp at hc) <;> (try (exfalso; first | omega | exact absurd hc (by assumption))))
      | (refine okJ_guard (fun hc => ?_) (fun hc => ?_) <;> (first | simp (maxSteps := 1000000) [hc, of_decide_eq_true hc, Try.f19, hren] | simp (maxSteps := 1000000) [hc, of_decide_eq_false hc, Try.f19, hren] | simp (maxSteps := 1000000) [hc, Try.f19, hren]) <;> (try simp at hc) <;> (try (exfalso; first | omega | exact absurd hc (by assumption))))
      | (refine And.intro (by first | assumption | omega | (simp [BelL, Bel]; done) | (simp; omega)) ?_; try simp (maxSteps := 1000000) [Try.f19, hren])
      | (refine okC_or ?_; simp (maxSteps := 1000000) [Try.f19, hren])
    repeat' first
      | refine jw_seq_k fun K hK => ?_
      | refine jw_block ?_
      | (refine jw_skip ?_; try simp)
      | (refine jw_exit ?_; try simp)
      | (refine jw_cond rfl (fun hc => ?_) (fun hc => ?_) <;> (try simp at hc) <;> (try (exfalso; first | omega | exact absurd hc (by assumption))))
      | (refine jw_c ?_; simp (maxSteps := 1000000) [hbel])
      | (refine jw_draw_j mixed (by kernel_rfl) ?_; simp (maxSteps := 1000000) [hbel])
      | (first | (apply hK; clear hK) | (clear hK; apply hK; clear hK) | (clear hK; clear hK; apply hK; clear hK) | (clear hK; clear hK; clear hK; apply hK; clear hK))
      | refine jw_unroll 1 ?_
      | refine ul_k fun K hK => ?_
      | (refine jw_ret (hQ _ _ (.inr rfl) (ret_ok 1 ?_ (by first | omega | simp))); simp (maxSteps := 1000000) [okRet, BelL, Bel, BelS, BelOb, hbel])
      | (refine hQ _ _ (.inl rfl) (ret_ok 1 ?_ (by first | omega | simp)); simp (maxSteps := 1000000) [okRet, BelL, Bel, BelS, BelOb, hbel])
      | (refine jd_newc rfl rfl (by simp) ?_; simp (maxSteps := 1000000) [thD, thL, hbel])
      | (refine okN_or ?_; simp (maxSteps := 1000000) [thD, thL, hbel])
      | (refine okC_guard (fun hc => ?_) (fun hc => ?_) <;> (first | simp (maxSteps := 1000000) [hc, of_decide_eq_true hc, hbel] | simp (maxSteps := 1000000) [hc, of_decide_eq_false hc, hbel] | simp (maxSteps := 1000000) [hc, hbel]) <;> (try simp at hc) <;> (try (exfalso; first | omega | exact absurd hc (by assumption))))
      | (refine okJ_guard (fun hc => ?_) (fun hc => ?_) <;> (first | simp (maxSteps := 1000000) [hc, of_decide_eq_true hc, hbel] | simp (maxSteps := 1000000) [hc, of_decide_eq_false hc, hbel] | simp (maxSteps := 1000000) [hc, hbel]) <;> (try simp at hc) <;> (try (exfalso; first | omega | exact absurd hc (by assumption))))
      | (refine And.intro (by first | assumption | omega | (simp [BelL, Bel]; done) | (simp; omega)) ?_; try simp (maxSteps := 1000000) [hbel])
      | (refine okC_or ?_; simp (maxSteps := 1000000) [hbel])
  · match L, hl with
    | [a, b, c, d], _ =>
      obtain ⟨a, rfl⟩ : ∃ m : Nat, a = m := ⟨a.toNat, by have := hbb a (by simp); omega⟩
      obtain ⟨b, rfl⟩ : ∃ m : Nat, b = m := ⟨b.toNat, by have := hbb b (by simp); omega⟩
      obtain ⟨c, rfl⟩ : ∃ m : Nat, c = m := ⟨c.toNat, by have := hbb c (by simp); omega⟩
      obtain ⟨d, rfl⟩ : ∃ m : Nat, d = m := ⟨d.toNat, by have := hbb d (by simp); omega⟩
      have a8 : a < 256 := by have := hbb a (by simp); omega
      have b8 : b < 256 := by have := hbb b (by simp); omega
      have c8 : c < 256 := by have := hbb c (by simp); omega
      have d8 : d < 256 := by have := hbb d (by simp); omega
      have e : le4 [(a : Int), (b : Int), (c : Int), (d : Int)] = a + 256 * b + 65536 * c + 16777216 * d := rfl
      rw [e] at hQ
      repeat' first
        | refine jw_ret (hQ _ _ (.inr rfl) ⟨5, _, _, rfl, rfl, ?_⟩)
        | refine jw_ret (hQ _ _ (.inr rfl) ⟨_, rfl, ?_⟩)
        | refine jw_seq_k fun K hK => ?_
        | refine jw_block ?_
        | (refine jw_skip ?_; try simp)
        | (refine jw_exit ?_; try simp)
        | (refine jw_cond rfl (fun hc => ?_) (fun hc => ?_) <;> (try simp at hc) <;> (try (exfalso; first | omega | exact absurd hc (by assumption))))
        | (refine jw_c ?_; simp (maxSteps := 1000000) [Try.f19, hren])
        | (refine jw_draw_j mixed (by kernel_rfl) ?_; simp (maxSteps := 1000000) [Try.f19, hren])
        | (first | (apply hK; clear hK) | (clear hK; apply hK; clear hK) | (clear hK; clear hK; apply hK; clear hK) | (clear hK; clear hK; clear hK; apply hK; clear hK))
        | exact hQ _ _ (.inl rfl) ⟨5, _, _, rfl, rfl, rfl⟩
        | refine hQ _ _ (.inl rfl) ⟨5, _, _, rfl, rfl, ?_⟩
        | refine hQ _ _ (.inl rfl) ⟨_, rfl, ?_⟩
        | (refine jl_fr (f := 25) 0 rfl rfl rfl rfl rfl (ht) (by simp [renL, renD, renD_flat, renL_flat, Try.f19, hren]) rfl (by simp [BelL, Bel]) (by simp [BelOb, BelL, Bel]) ?_; rintro d0 x g ⟨rfl, hg⟩; obtain ⟨rfl, rfl⟩ := List.cons.inj hg; simp (maxSteps := 1000000) [renOb, renL, renD, renD_flat, renL_flat, Try.f19, hren])
        | (refine jd_newc rfl rfl (by simp) ?_; simp (maxSteps := 1000000) [thD, thL, Try.f19, hren])
        | (refine okN_or ?_; simp (maxSteps := 1000000) [thD, thL, Try.f19, hren])
        | (refine okC_guard (fun hc => ?_) (fun hc => ?_) <;> (first | simp (maxSteps := 1000000) [hc, of_decide_eq_true hc, Try.f19, hren] | simp (maxSteps := 1000000) [hc, of_decide_eq_false hc, Try.f19, hren] | simp (maxSteps := 1000000) [hc, Try.f19, hren]) <;> (try simp at hc) <;> (try (exfalso; first | omega | exact absurd hc (by assumption))))
        | (refine okJ_guard (fun hc => ?_) (fun hc => ?_) <;> (first | simp (maxSteps := 1000000) [hc, of_decide_eq_true hc, Try.f19, hren] | simp (maxSteps := 1000000) [hc, of_decide_eq_false hc, Try.f19, hren] | simp (maxSteps := 1000000) [hc, Try.f19, hren]) <;> (try simp at hc) <;> (try (exfalso; first | omega | exact absurd hc (by assumption))))
        | (refine And.intro (by first | assumption | omega | (simp [BelL, Bel]; done) | (simp; omega)) ?_; try simp (maxSteps := 1000000) [Try.f19, hren])
        | (refine okC_or ?_; simp (maxSteps := 1000000) [Try.f19, hren])
      repeat' first
        | refine jw_seq_k fun K hK => ?_
        | refine jw_block ?_
        | (refine jw_skip ?_; try simp)
        | (refine jw_exit ?_; try simp)
        | (refine jw_cond rfl (fun hc => ?_) (fun hc => ?_) <;> (try simp at hc) <;> (try (exfalso; first | omega | exact absurd hc (by assumption))))
        | (refine jw_c ?_; simp (maxSteps := 1000000) [hbel])
        | (refine jw_draw_j mixed (by kernel_rfl) ?_; simp (maxSteps := 1000000) [hbel])
        | (first | (apply hK; clear hK) | (clear hK; apply hK; clear hK) | (clear hK; clear hK; apply hK; clear hK) | (clear hK; clear hK; clear hK; apply hK; clear hK))
        | refine jw_unroll 5 ?_
        | refine ul_k fun K hK => ?_
        | (refine jw_ret (hQ _ _ (.inr rfl) (ret_ok 1 ?_ (by first | omega | simp))); simp (maxSteps := 1000000) [okRet, BelL, Bel, BelS, BelOb, hbel])
        | (refine hQ _ _ (.inl rfl) (ret_ok 1 ?_ (by first | omega | simp)); simp (maxSteps := 1000000) [okRet, BelL, Bel, BelS, BelOb, hbel])
        | (refine jd_newc rfl rfl (by simp) ?_; simp (maxSteps := 1000000) [thD, thL, hbel])
        | (refine okN_or ?_; simp (maxSteps := 1000000) [thD, thL, hbel])
        | (refine okC_guard (fun hc => ?_) (fun hc => ?_) <;> (first | simp (maxSteps := 1000000) [hc, of_decide_eq_true hc, hbel] | simp (maxSteps := 1000000) [hc, of_decide_eq_false hc, hbel] | simp (maxSteps := 1000000) [hc, hbel]) <;> (try simp at hc) <;> (try (exfalso; first | omega | exact absurd hc (by assumption))))
        | (refine okJ_guard (fun hc => ?_) (fun hc => ?_) <;> (first | simp (maxSteps := 1000000) [hc, of_decide_eq_true hc, hbel] | simp (maxSteps := 1000000) [hc, of_decide_eq_false hc, hbel] | simp (maxSteps := 1000000) [hc, hbel]) <;> (try simp at hc) <;> (try (exfalso; first | omega | exact absurd hc (by assumption))))
        | (refine And.intro (by first | assumption | omega | (simp [BelL, Bel]; done) | (simp; omega)) ?_; try simp (maxSteps := 1000000) [hbel])
        | (refine okC_or ?_; simp (maxSteps := 1000000) [hbel])
      all_goals exact or4 a8 b8 c8 d8
end Go.Proofs.Ythaidogcgjnhcaa
