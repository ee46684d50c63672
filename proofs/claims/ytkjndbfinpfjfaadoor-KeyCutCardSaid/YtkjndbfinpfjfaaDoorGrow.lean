/- key.grow: the walk. -/
import Derived.Test.YtkjndbfinpfjfaaDoorKeyE
import Derived.Test.YtkjndbfinpfjfaaDoorFlat
set_option linter.unusedVariables false
set_option linter.unusedSimpArgs false
set_option maxRecDepth 20000
set_option maxHeartbeats 20000000
namespace Go.Proofs.YtkjndbfinpfjfaaDoor
open Go Go.Vm Go.Proofs

@[simp] theorem belL_cells (n : Nat) (l : List Nat) : BelL n (cellsL l) := belL_intg .u8 _ l n
theorem byteAt (x m : Nat) : IntKind.u8.wrap ((x : Int).fdiv (2 ^ m)) = ((x / 2 ^ m % 256 : Nat) : Int) := by
  have h : (x : Int).fdiv (2 ^ m) = ((x / 2 ^ m : Nat) : Int) := by
    rw [Int.fdiv_eq_ediv_of_nonneg _ (by exact Int.le_of_lt (Int.pow_pos (by decide)))]
    simp
  rw [h]
  show (if (false && decide ((((x / 2 ^ m : Nat) : Int)) % (2 ^ 8 : Int) ≥ (2 ^ 7 : Int))) = true then (((x / 2 ^ m : Nat) : Int)) % (2 ^ 8 : Int) - (2 ^ 8 : Int) else (((x / 2 ^ m : Nat) : Int)) % (2 ^ 8 : Int)) = _
  rw [if_neg (by simp)]
  omega
theorem be64_len (x : Nat) : (be64 x).length = 8 := rfl
theorem esc_take (T : List Nat) {m : Nat} (h : m < T.length) : esc (T.take (m + 1)) = esc (T.take m) ++ (if T[m] = 0 then [0, 255] else [T[m]]) := by
  rw [List.take_succ_eq_append_getElem h, esc_append]
  simp only [esc]
theorem growK {G : Globals} {k i : Int} {T L : List Nat} (h : OkV k i T) (hL : L.length ≤ 100000) : FC Tryd.prog G 31 [.ms 0 L.length 0 L.length 1, vaD k i T] [some (.c (cellsL L))]
    (fun d σ' => d = .ms 0 (L ++ encV k i T).length 0 (L ++ encV k i T).length 1 ∧ σ' = [some (.c (cellsL (L ++ encV k i T)))]) := by
  obtain ⟨hT, hl, hi1, hi2, hk⟩ := h
  have b1 : L.length + 1 ≤ 140737488355328 := by omega
  refine fc_enter_v Tryd.func31 rfl rfl fun Q hQ => ?_
  rw [cellsL_append] at hQ
  rcases hk with ⟨rfl, rfl, rfl⟩ | ⟨rfl, hi, rfl⟩ | ⟨rfl, rfl⟩ | ⟨rfl, rfl⟩
  · have e : encV 0 0 [] = [1] := rfl
    rw [e] at hQ
    repeat' first
      | refine jw_seq_k fun K hK => ?_
      | refine jw_block ?_
      | (refine jw_skip ?_; try simp)
      | (refine jw_exit ?_; try simp)
      | (refine jw_cond rfl (fun hc => ?_) (fun hc => ?_) <;> (try simp at hc) <;> (try (exfalso; first | omega | exact absurd hc (by assumption))))
      | (refine jw_c ?_; simp (maxSteps := 1000000) [Tryd.f31, vaD, b1, okCells_cells, cellsL, okCell])
      | (refine jw_draw_j mixed (by kernel_rfl) ?_; simp (maxSteps := 1000000) [Tryd.f31, vaD, b1, okCells_cells, cellsL, okCell])
      | (first | (apply hK; clear hK) | (clear hK; apply hK; clear hK) | (clear hK; clear hK; apply hK; clear hK) | (clear hK; clear hK; clear hK; apply hK; clear hK))
      | (refine jw_ret (hQ _ _ (.inr rfl) (ret_ok 1 ?_ (by first | omega | simp))); simp (maxSteps := 1000000) [okRet, BelL, Bel, BelS, BelOb, Tryd.f31, vaD, b1, okCells_cells, cellsL, okCell])
      | (refine hQ _ _ (.inl rfl) (ret_ok 1 ?_ (by first | omega | simp)); simp (maxSteps := 1000000) [okRet, BelL, Bel, BelS, BelOb, Tryd.f31, vaD, b1, okCells_cells, cellsL, okCell])
      | (refine jd_newc rfl rfl (by simp) ?_; simp (maxSteps := 1000000) [thD, thL, Tryd.f31, vaD, b1, okCells_cells, cellsL, okCell])
      | (refine okN_or ?_; simp (maxSteps := 1000000) [thD, thL, Tryd.f31, vaD, b1, okCells_cells, cellsL, okCell])
      | (refine okC_guard (fun hc => ?_) (fun hc => ?_) <;> (first | simp (maxSteps := 1000000) [hc, of_decide_eq_true hc, Tryd.f31, vaD, b1, okCells_cells, cellsL, okCell] | simp (maxSteps := 1000000) [hc, of_decide_eq_false hc, Tryd.f31, vaD, b1, okCells_cells, cellsL, okCell] | simp (maxSteps := 1000000) [hc, Tryd.f31, vaD, b1, okCells_cells, cellsL, okCell]) <;> (try simp at hc) <;> (try (exfalso; first | omega | exact absurd hc (by assumption))))
      | (refine okJ_guard (fun hc => ?_) (fun hc => ?_) <;> (first | simp (maxSteps := 1000000) [hc, of_decide_eq_true hc, Tryd.f31, vaD, b1, okCells_cells, cellsL, okCell] | simp (maxSteps := 1000000) [hc, of_decide_eq_false hc, Tryd.f31, vaD, b1, okCells_cells, cellsL, okCell] | simp (maxSteps := 1000000) [hc, Tryd.f31, vaD, b1, okCells_cells, cellsL, okCell]) <;> (try simp at hc) <;> (try (exfalso; first | omega | exact absurd hc (by assumption))))
      | (refine And.intro (by first | assumption | omega | (simp [BelL, Bel]; done) | (simp; omega)) ?_; try simp (maxSteps := 1000000) [Tryd.f31, vaD, b1, okCells_cells, cellsL, okCell])
      | (refine okC_or ?_; simp (maxSteps := 1000000) [Tryd.f31, vaD, b1, okCells_cells, cellsL, okCell])
  · have e : encV 1 i [] = [2 + i.toNat] := rfl
    have e2 : IntKind.u8.wrap (2 + IntKind.u8.wrap i) = ((2 + i.toNat : Nat) : Int) := by rcases hi with rfl | rfl <;> rfl
    rw [e] at hQ
    repeat' first
      | refine jw_seq_k fun K hK => ?_
      | refine jw_block ?_
      | (refine jw_skip ?_; try simp)
      | (refine jw_exit ?_; try simp)
      | (refine jw_cond rfl (fun hc => ?_) (fun hc => ?_) <;> (try simp at hc) <;> (try (exfalso; first | omega | exact absurd hc (by assumption))))
      | (refine jw_c ?_; simp (maxSteps := 1000000) [Tryd.f31, vaD, b1, e2, okCells_cells, cellsL, okCell])
      | (refine jw_draw_j mixed (by kernel_rfl) ?_; simp (maxSteps := 1000000) [Tryd.f31, vaD, b1, e2, okCells_cells, cellsL, okCell])
      | (first | (apply hK; clear hK) | (clear hK; apply hK; clear hK) | (clear hK; clear hK; apply hK; clear hK) | (clear hK; clear hK; clear hK; apply hK; clear hK))
      | (refine jw_ret (hQ _ _ (.inr rfl) (ret_ok 1 ?_ (by first | omega | simp))); simp (maxSteps := 1000000) [okRet, BelL, Bel, BelS, BelOb, Tryd.f31, vaD, b1, e2, okCells_cells, cellsL, okCell])
      | (refine hQ _ _ (.inl rfl) (ret_ok 1 ?_ (by first | omega | simp)); simp (maxSteps := 1000000) [okRet, BelL, Bel, BelS, BelOb, Tryd.f31, vaD, b1, e2, okCells_cells, cellsL, okCell])
      | (refine jd_newc rfl rfl (by simp) ?_; simp (maxSteps := 1000000) [thD, thL, Tryd.f31, vaD, b1, e2, okCells_cells, cellsL, okCell])
      | (refine okN_or ?_; simp (maxSteps := 1000000) [thD, thL, Tryd.f31, vaD, b1, e2, okCells_cells, cellsL, okCell])
      | (refine okC_guard (fun hc => ?_) (fun hc => ?_) <;> (first | simp (maxSteps := 1000000) [hc, of_decide_eq_true hc, Tryd.f31, vaD, b1, e2, okCells_cells, cellsL, okCell] | simp (maxSteps := 1000000) [hc, of_decide_eq_false hc, Tryd.f31, vaD, b1, e2, okCells_cells, cellsL, okCell] | simp (maxSteps := 1000000) [hc, Tryd.f31, vaD, b1, e2, okCells_cells, cellsL, okCell]) <;> (try simp at hc) <;> (try (exfalso; first | omega | exact absurd hc (by assumption))))
      | (refine okJ_guard (fun hc => ?_) (fun hc => ?_) <;> (first | simp (maxSteps := 1000000) [hc, of_decide_eq_true hc, Tryd.f31, vaD, b1, e2, okCells_cells, cellsL, okCell] | simp (maxSteps := 1000000) [hc, of_decide_eq_false hc, Tryd.f31, vaD, b1, e2, okCells_cells, cellsL, okCell] | simp (maxSteps := 1000000) [hc, Tryd.f31, vaD, b1, e2, okCells_cells, cellsL, okCell]) <;> (try simp at hc) <;> (try (exfalso; first | omega | exact absurd hc (by assumption))))
      | (refine And.intro (by first | assumption | omega | (simp [BelL, Bel]; done) | (simp; omega)) ?_; try simp (maxSteps := 1000000) [Tryd.f31, vaD, b1, e2, okCells_cells, cellsL, okCell])
      | (refine okC_or ?_; simp (maxSteps := 1000000) [Tryd.f31, vaD, b1, e2, okCells_cells, cellsL, okCell])
  · have e : encV 2 i [] = 4 :: be64 (i + 9223372036854775808).toNat := rfl
    rw [e] at hQ
    obtain ⟨x, hx⟩ : ∃ x, (i + 9223372036854775808).toNat = x := ⟨_, rfl⟩
    have hxb : x < 18446744073709551616 := by omega
    have hxo := xorI i hi1 hi2
    rw [hx] at hxo hQ
    have b2 : ∀ m : Nat, m ≤ 9 → L.length + m ≤ 140737488355328 := by omega
    repeat' first
      | refine jw_ret (hQ _ _ (.inr rfl) ⟨5, _, _, rfl, rfl, ?_⟩)
      | refine jw_ret (hQ _ _ (.inr rfl) ⟨_, rfl, ?_⟩)
      | refine jw_seq_k fun K hK => ?_
      | refine jw_block ?_
      | (refine jw_skip ?_; try simp)
      | (refine jw_exit ?_; try simp)
      | (refine jw_cond rfl (fun hc => ?_) (fun hc => ?_) <;> (try simp at hc) <;> (try (exfalso; first | omega | exact absurd hc (by assumption))))
      | (refine jw_c ?_; simp (maxSteps := 1000000) [Tryd.f31, vaD, b1, hxo, okCells_cells, okCell])
      | (refine jw_draw_j mixed (by kernel_rfl) ?_; simp (maxSteps := 1000000) [Tryd.f31, vaD, b1, hxo, okCells_cells, okCell])
      | (first | (apply hK; clear hK) | (clear hK; apply hK; clear hK) | (clear hK; clear hK; apply hK; clear hK) | (clear hK; clear hK; clear hK; apply hK; clear hK))
      | exact hQ _ _ (.inl rfl) ⟨5, _, _, rfl, rfl, rfl⟩
      | refine hQ _ _ (.inl rfl) ⟨5, _, _, rfl, rfl, ?_⟩
      | refine hQ _ _ (.inl rfl) ⟨_, rfl, ?_⟩
      | (refine jd_newc rfl rfl (by simp) ?_; simp (maxSteps := 1000000) [thD, thL, Tryd.f31, vaD, b1, hxo, okCells_cells, okCell])
      | (refine okN_or ?_; simp (maxSteps := 1000000) [thD, thL, Tryd.f31, vaD, b1, hxo, okCells_cells, okCell])
      | (refine okC_guard (fun hc => ?_) (fun hc => ?_) <;> (first | simp (maxSteps := 1000000) [hc, of_decide_eq_true hc, Tryd.f31, vaD, b1, hxo, okCells_cells, okCell] | simp (maxSteps := 1000000) [hc, of_decide_eq_false hc, Tryd.f31, vaD, b1, hxo, okCells_cells, okCell] | simp (maxSteps := 1000000) [hc, Tryd.f31, vaD, b1, hxo, okCells_cells, okCell]) <;> (try simp at hc) <;> (try (exfalso; first | omega | exact absurd hc (by assumption))))
      | (refine okJ_guard (fun hc => ?_) (fun hc => ?_) <;> (first | simp (maxSteps := 1000000) [hc, of_decide_eq_true hc, Tryd.f31, vaD, b1, hxo, okCells_cells, okCell] | simp (maxSteps := 1000000) [hc, of_decide_eq_false hc, Tryd.f31, vaD, b1, hxo, okCells_cells, okCell] | simp (maxSteps := 1000000) [hc, Tryd.f31, vaD, b1, hxo, okCells_cells, okCell]) <;> (try simp at hc) <;> (try (exfalso; first | omega | exact absurd hc (by assumption))))
      | (refine And.intro (by first | assumption | omega | (simp [BelL, Bel]; done) | (simp; omega)) ?_; try simp (maxSteps := 1000000) [Tryd.f31, vaD, b1, hxo, okCells_cells, okCell])
      | (refine okC_or ?_; simp (maxSteps := 1000000) [Tryd.f31, vaD, b1, hxo, okCells_cells, okCell])
    have w8 : IntKind.i64.wrap (-8) = -8 := rfl
    have c0 : IntKind.u8.wrap (x : Int) = ((x % 256 : Nat) : Int) := by have := byteAt x 0; simpa [Int.fdiv_one] using this
    have c1 : IntKind.u8.wrap ((x : Int).fdiv (2 ^ min 8 IntKind.u64.bits)) = ((x / 256 % 256 : Nat) : Int) := byteAt x 8
    have c2 : IntKind.u8.wrap ((x : Int).fdiv (2 ^ min 16 IntKind.u64.bits)) = ((x / 65536 % 256 : Nat) : Int) := byteAt x 16
    have c3 : IntKind.u8.wrap ((x : Int).fdiv (2 ^ min 24 IntKind.u64.bits)) = ((x / 16777216 % 256 : Nat) : Int) := byteAt x 24
    have c4 : IntKind.u8.wrap ((x : Int).fdiv (2 ^ min 32 IntKind.u64.bits)) = ((x / 4294967296 % 256 : Nat) : Int) := byteAt x 32
    have c5 : IntKind.u8.wrap ((x : Int).fdiv (2 ^ min 40 IntKind.u64.bits)) = ((x / 1099511627776 % 256 : Nat) : Int) := byteAt x 40
    have c6 : IntKind.u8.wrap ((x : Int).fdiv (2 ^ min 48 IntKind.u64.bits)) = ((x / 281474976710656 % 256 : Nat) : Int) := byteAt x 48
    have c7 : IntKind.u8.wrap ((x : Int).fdiv (2 ^ min 56 IntKind.u64.bits)) = ((x / 72057594037927936 % 256 : Nat) : Int) := byteAt x 56
    have hcl : cellsL (4 :: be64 x) = [D.int .u8 4, .int .u8 ((x / 72057594037927936 % 256 : Nat) : Int), .int .u8 ((x / 281474976710656 % 256 : Nat) : Int), .int .u8 ((x / 1099511627776 % 256 : Nat) : Int), .int .u8 ((x / 4294967296 % 256 : Nat) : Int), .int .u8 ((x / 16777216 % 256 : Nat) : Int), .int .u8 ((x / 65536 % 256 : Nat) : Int), .int .u8 ((x / 256 % 256 : Nat) : Int), .int .u8 ((x % 256 : Nat) : Int)] := rfl
    generalize (x / 72057594037927936 % 256 : Nat) = y7 at *
    generalize (x / 281474976710656 % 256 : Nat) = y6 at *
    generalize (x / 1099511627776 % 256 : Nat) = y5 at *
    generalize (x / 4294967296 % 256 : Nat) = y4 at *
    generalize (x / 16777216 % 256 : Nat) = y3 at *
    generalize (x / 65536 % 256 : Nat) = y2 at *
    generalize (x / 256 % 256 : Nat) = y1 at *
    generalize (x % 256 : Nat) = y0 at *
    repeat' first
      | refine jw_seq_k fun K hK => ?_
      | refine jw_block ?_
      | (refine jw_skip ?_; try simp)
      | (refine jw_exit ?_; try simp)
      | (refine jw_cond rfl (fun hc => ?_) (fun hc => ?_) <;> (try simp at hc) <;> (try (exfalso; first | omega | exact absurd hc (by assumption))))
      | (refine jw_c ?_; simp (maxSteps := 1000000) [okCells_cells, okCell, b1, b2, w8, c0, c1, c2, c3, c4, c5, c6, c7, hcl, be64_len, Nat.add_assoc])
      | (refine jw_draw_j mixed (by kernel_rfl) ?_; simp (maxSteps := 1000000) [okCells_cells, okCell, b1, b2, w8, c0, c1, c2, c3, c4, c5, c6, c7, hcl, be64_len, Nat.add_assoc])
      | (first | (apply hK; clear hK) | (clear hK; apply hK; clear hK) | (clear hK; clear hK; apply hK; clear hK) | (clear hK; clear hK; clear hK; apply hK; clear hK))
      | refine jw_unroll 9 ?_
      | refine ul_k fun K hK => ?_
      | (refine jw_ret (hQ _ _ (.inr rfl) (ret_ok 1 ?_ (by first | omega | simp))); simp (maxSteps := 1000000) [okRet, BelL, Bel, BelS, BelOb, okCells_cells, okCell, b1, b2, w8, c0, c1, c2, c3, c4, c5, c6, c7, hcl, be64_len, Nat.add_assoc])
      | (refine hQ _ _ (.inl rfl) (ret_ok 1 ?_ (by first | omega | simp)); simp (maxSteps := 1000000) [okRet, BelL, Bel, BelS, BelOb, okCells_cells, okCell, b1, b2, w8, c0, c1, c2, c3, c4, c5, c6, c7, hcl, be64_len, Nat.add_assoc])
      | (refine jd_newc rfl rfl (by simp) ?_; simp (maxSteps := 1000000) [thD, thL, okCells_cells, okCell, b1, b2, w8, c0, c1, c2, c3, c4, c5, c6, c7, hcl, be64_len, Nat.add_assoc])
      | (refine okN_or ?_; simp (maxSteps := 1000000) [thD, thL, okCells_cells, okCell, b1, b2, w8, c0, c1, c2, c3, c4, c5, c6, c7, hcl, be64_len, Nat.add_assoc])
      | (refine okC_guard (fun hc => ?_) (fun hc => ?_) <;> (first | simp (maxSteps := 1000000) [hc, of_decide_eq_true hc, okCells_cells, okCell, b1, b2, w8, c0, c1, c2, c3, c4, c5, c6, c7, hcl, be64_len, Nat.add_assoc] | simp (maxSteps := 1000000) [hc, of_decide_eq_false hc, okCells_cells, okCell, b1, b2, w8, c0, c1, c2, c3, c4, c5, c6, c7, hcl, be64_len, Nat.add_assoc] | simp (maxSteps := 1000000) [hc, okCells_cells, okCell, b1, b2, w8, c0, c1, c2, c3, c4, c5, c6, c7, hcl, be64_len, Nat.add_assoc]) <;> (try simp at hc) <;> (try (exfalso; first | omega | exact absurd hc (by assumption))))
      | (refine okJ_guard (fun hc => ?_) (fun hc => ?_) <;> (first | simp (maxSteps := 1000000) [hc, of_decide_eq_true hc, okCells_cells, okCell, b1, b2, w8, c0, c1, c2, c3, c4, c5, c6, c7, hcl, be64_len, Nat.add_assoc] | simp (maxSteps := 1000000) [hc, of_decide_eq_false hc, okCells_cells, okCell, b1, b2, w8, c0, c1, c2, c3, c4, c5, c6, c7, hcl, be64_len, Nat.add_assoc] | simp (maxSteps := 1000000) [hc, okCells_cells, okCell, b1, b2, w8, c0, c1, c2, c3, c4, c5, c6, c7, hcl, be64_len, Nat.add_assoc]) <;> (try simp at hc) <;> (try (exfalso; first | omega | exact absurd hc (by assumption))))
      | (refine And.intro (by first | assumption | omega | (simp [BelL, Bel]; done) | (simp; omega)) ?_; try simp (maxSteps := 1000000) [okCells_cells, okCell, b1, b2, w8, c0, c1, c2, c3, c4, c5, c6, c7, hcl, be64_len, Nat.add_assoc])
      | (refine okC_or ?_; simp (maxSteps := 1000000) [okCells_cells, okCell, b1, b2, w8, c0, c1, c2, c3, c4, c5, c6, c7, hcl, be64_len, Nat.add_assoc])
  · repeat' first
      | refine jw_ret (hQ _ _ (.inr rfl) ⟨5, _, _, rfl, rfl, ?_⟩)
      | refine jw_ret (hQ _ _ (.inr rfl) ⟨_, rfl, ?_⟩)
      | refine jw_seq_k fun K hK => ?_
      | refine jw_block ?_
      | (refine jw_skip ?_; try simp)
      | (refine jw_exit ?_; try simp)
      | (refine jw_cond rfl (fun hc => ?_) (fun hc => ?_) <;> (try simp at hc) <;> (try (exfalso; first | omega | exact absurd hc (by assumption))))
      | ((fail_if_success (refine jw_c (id := 15) ?_)); (refine jw_c ?_; simp (maxSteps := 1000000) [Tryd.f31, vaD, b1, okCells_cells, okCell]))
      | ((fail_if_success (refine jw_draw_j (id := 15) mixed (by kernel_rfl) ?_)); (refine jw_draw_j mixed (by kernel_rfl) ?_; simp (maxSteps := 1000000) [Tryd.f31, vaD, b1, okCells_cells, okCell]))
      | (first | (apply hK; clear hK) | (clear hK; apply hK; clear hK) | (clear hK; clear hK; apply hK; clear hK) | (clear hK; clear hK; clear hK; apply hK; clear hK))
      | exact hQ _ _ (.inl rfl) ⟨5, _, _, rfl, rfl, rfl⟩
      | refine hQ _ _ (.inl rfl) ⟨5, _, _, rfl, rfl, ?_⟩
      | refine hQ _ _ (.inl rfl) ⟨_, rfl, ?_⟩
      | (refine jd_newc rfl rfl (by simp) ?_; simp (maxSteps := 1000000) [thD, thL, Tryd.f31, vaD, b1, okCells_cells, okCell])
      | (refine okN_or ?_; simp (maxSteps := 1000000) [thD, thL, Tryd.f31, vaD, b1, okCells_cells, okCell])
      | (refine okC_guard (fun hc => ?_) (fun hc => ?_) <;> (first | simp (maxSteps := 1000000) [hc, of_decide_eq_true hc, Tryd.f31, vaD, b1, okCells_cells, okCell] | simp (maxSteps := 1000000) [hc, of_decide_eq_false hc, Tryd.f31, vaD, b1, okCells_cells, okCell] | simp (maxSteps := 1000000) [hc, Tryd.f31, vaD, b1, okCells_cells, okCell]) <;> (try simp at hc) <;> (try (exfalso; first | omega | exact absurd hc (by assumption))))
      | (refine okJ_guard (fun hc => ?_) (fun hc => ?_) <;> (first | simp (maxSteps := 1000000) [hc, of_decide_eq_true hc, Tryd.f31, vaD, b1, okCells_cells, okCell] | simp (maxSteps := 1000000) [hc, of_decide_eq_false hc, Tryd.f31, vaD, b1, okCells_cells, okCell] | simp (maxSteps := 1000000) [hc, Tryd.f31, vaD, b1, okCells_cells, okCell]) <;> (try simp at hc) <;> (try (exfalso; first | omega | exact absurd hc (by assumption))))
      | (refine And.intro (by first | assumption | omega | (simp [BelL, Bel]; done) | (simp; omega)) ?_; try simp (maxSteps := 1000000) [Tryd.f31, vaD, b1, okCells_cells, okCell])
      | (refine okC_or ?_; simp (maxSteps := 1000000) [Tryd.f31, vaD, b1, okCells_cells, okCell])
    have hcell : List.map ((fun c : UInt8 => D.int .u8 (c.toNat : Int)) ∘ UInt8.ofNat) T = cellsL T := by
      unfold cellsL
      refine List.map_congr_left fun y hy => ?_
      have := hT.1 y hy
      simp
      omega
    have e : encV 3 0 T = 5 :: (esc T ++ [0, 1]) := rfl
    rw [e] at hQ
    have hsz := bytesS_size T
    repeat' first
      | refine jw_ret (hQ _ _ (.inr rfl) ⟨5, _, _, rfl, rfl, ?_⟩)
      | refine jw_ret (hQ _ _ (.inr rfl) ⟨_, rfl, ?_⟩)
      | refine jw_seq_k fun K hK => ?_
      | refine jw_block ?_
      | (refine jw_skip ?_; try simp)
      | (refine jw_exit ?_; try simp)
      | (refine jw_cond rfl (fun hc => ?_) (fun hc => ?_) <;> (try simp at hc) <;> (try (exfalso; first | omega | exact absurd hc (by assumption))))
      | (refine jw_c ?_; simp (maxSteps := 1000000) [hsz, hcell])
      | (refine jw_draw_j mixed (by kernel_rfl) ?_; simp (maxSteps := 1000000) [hsz, hcell])
      | (first | (apply hK; clear hK) | (clear hK; apply hK; clear hK) | (clear hK; clear hK; apply hK; clear hK) | (clear hK; clear hK; clear hK; apply hK; clear hK))
      | exact hQ _ _ (.inl rfl) ⟨5, _, _, rfl, rfl, rfl⟩
      | refine hQ _ _ (.inl rfl) ⟨5, _, _, rfl, rfl, ?_⟩
      | refine hQ _ _ (.inl rfl) ⟨_, rfl, ?_⟩
      | (refine jd_newc rfl rfl (by simp) ?_; simp (maxSteps := 1000000) [thD, thL, hsz, hcell])
      | (refine okN_or ?_; simp (maxSteps := 1000000) [thD, thL, hsz, hcell])
      | (refine okC_guard (fun hc => ?_) (fun hc => ?_) <;> (first | simp (maxSteps := 1000000) [hc, of_decide_eq_true hc, hsz, hcell] | simp (maxSteps := 1000000) [hc, of_decide_eq_false hc, hsz, hcell] | simp (maxSteps := 1000000) [hc, hsz, hcell]) <;> (try simp at hc) <;> (try (exfalso; first | omega | exact absurd hc (by assumption))))
      | (refine okJ_guard (fun hc => ?_) (fun hc => ?_) <;> (first | simp (maxSteps := 1000000) [hc, of_decide_eq_true hc, hsz, hcell] | simp (maxSteps := 1000000) [hc, of_decide_eq_false hc, hsz, hcell] | simp (maxSteps := 1000000) [hc, hsz, hcell]) <;> (try simp at hc) <;> (try (exfalso; first | omega | exact absurd hc (by assumption))))
      | (refine And.intro (by first | assumption | omega | (simp [BelL, Bel]; done) | (simp; omega)) ?_; try simp (maxSteps := 1000000) [hsz, hcell])
      | (refine okC_or ?_; simp (maxSteps := 1000000) [hsz, hcell])
    have hct : List.take T.length (cellsL T) = cellsL T := List.take_of_length_le (by simp)
    (refine jw_view (view_frz 3 _ rfl (by simp [BelL, Bel, thL_flat, thL_app, hct])) ?_; simp (maxSteps := 1000000) [thL, thD, thS, thOb, thL_flat, thL_app, hct])
    refine jw_loop_v (fun m z => ∃ (q : Nat), (q ≤ T.length) ∧ T.length - q = m ∧ z = ⟨[.ms 0 (L.length + 1 + (esc (T.take q)).length) 0 (L.length + 1 + (esc (T.take q)).length) 1] ++ List.replicate 50 .any ++ [.sl false (cellsL T) T.length, .int .i64 T.length, .int .i64 q] ++ List.replicate 16 .any, [some (.c (cellsL L ++ D.int .u8 5 :: cellsL (esc (T.take q))))]⟩) ⟨[.ms 0 (L.length + 1 + (esc (T.take (0))).length) 0 (L.length + 1 + (esc (T.take (0))).length) 1] ++ List.replicate 50 .any ++ [.sl false (cellsL T) T.length, .int .i64 T.length, .int .i64 (0)] ++ List.replicate 16 .any, [some (.c (cellsL L ++ D.int .u8 5 :: cellsL (esc (T.take (0)))))]⟩ (view_takeE (sl := [.ms 0 (L.length + 1 + (esc (T.take (0))).length) 0 (L.length + 1 + (esc (T.take (0))).length) 1] ++ List.replicate 50 .any ++ [.sl false (cellsL T) T.length, .int .i64 T.length, .int .i64 (0)] ++ List.replicate 16 .any) (σ0 := [some (.c (cellsL L ++ D.int .u8 5 :: cellsL (esc (T.take (0)))))]) 1 (by simp [esc, show cellsL [] = [] from rfl]) (by first | omega | simp) (by first | omega | (simp [esc, show cellsL [] = [] from rfl]; done) | (simp [esc, show cellsL [] = [] from rfl]; omega)) (by first | exact LewS.refl _ | simp [esc, show cellsL [] = [] from rfl]) (by simp [BelL, Bel, esc, show cellsL [] = [] from rfl]) (by simp [BelS, BelOb, BelL, Bel, esc, show cellsL [] = [] from rfl])) ⟨(0), ?_, rfl, rfl⟩ ?_
    rotate_left
    rintro m z ⟨q, hB, rfl, rfl⟩ KB hKB
    · have hw := wrap_i64 (n := (q : Int) + 1) (by omega) (by omega)
      have hel := esc_len (T.take q)
      rw [List.length_take, Nat.min_eq_left hB] at hel
      generalize hE : esc (T.take q) = E at *
      by_cases hlt : q < T.length
      · have hes := esc_take T hlt
        rw [hE] at hes
        have hT8 := hT.1 _ (List.getElem_mem hlt)
        have hg : (cellsL T)[q]? = some (.int .u8 (T[q] : Nat)) := by unfold cellsL; rw [List.getElem?_map, List.getElem?_eq_getElem hlt]; rfl
        have hgg := fun h => get_of hg h
        obtain ⟨y, hy⟩ : ∃ y, T[q] = y := ⟨_, rfl⟩
        rw [hy] at hes hg
        simp only [hy] at hgg
        by_cases y0 : y = 0
        · rw [if_pos y0] at hes
          repeat' first
            | refine jw_ret (hQ _ _ (.inr rfl) ⟨5, _, _, rfl, rfl, ?_⟩)
            | refine jw_ret (hQ _ _ (.inr rfl) ⟨_, rfl, ?_⟩)
            | refine jw_seq_k fun K hK => ?_
            | refine jw_block ?_
            | (refine jw_skip ?_; try simp)
            | (refine jw_exit ?_; try simp)
            | (refine jw_cond rfl (fun hc => ?_) (fun hc => ?_) <;> (try simp at hc) <;> (try (exfalso; first | omega | exact absurd hc (by assumption))))
            | (refine jw_c ?_; simp (maxSteps := 1000000) [hlt, hg, hgg, hw, y0, okCell, show L.length + 1 + E.length + 1 ≤ 140737488355328 by omega, show L.length + 1 + E.length + 1 + 1 ≤ 140737488355328 by omega, show L.length + (E.length + 1) + 1 ≤ 140737488355328 by omega, show L.length + (E.length + 1) + 1 + 1 ≤ 140737488355328 by omega])
            | (refine jw_draw_j mixed (by kernel_rfl) ?_; simp (maxSteps := 1000000) [hlt, hg, hgg, hw, y0, okCell, show L.length + 1 + E.length + 1 ≤ 140737488355328 by omega, show L.length + 1 + E.length + 1 + 1 ≤ 140737488355328 by omega, show L.length + (E.length + 1) + 1 ≤ 140737488355328 by omega, show L.length + (E.length + 1) + 1 + 1 ≤ 140737488355328 by omega])
            | (first | (apply hK; clear hK) | (clear hK; apply hK; clear hK) | (clear hK; clear hK; apply hK; clear hK) | (clear hK; clear hK; clear hK; apply hK; clear hK))
            | exact hQ _ _ (.inl rfl) ⟨5, _, _, rfl, rfl, rfl⟩
            | refine hQ _ _ (.inl rfl) ⟨5, _, _, rfl, rfl, ?_⟩
            | refine hQ _ _ (.inl rfl) ⟨_, rfl, ?_⟩
            | (refine jd_newc rfl rfl (by simp) ?_; simp (maxSteps := 1000000) [thD, thL, hlt, hg, hgg, hw, y0, okCell, show L.length + 1 + E.length + 1 ≤ 140737488355328 by omega, show L.length + 1 + E.length + 1 + 1 ≤ 140737488355328 by omega, show L.length + (E.length + 1) + 1 ≤ 140737488355328 by omega, show L.length + (E.length + 1) + 1 + 1 ≤ 140737488355328 by omega])
            | (refine okN_or ?_; simp (maxSteps := 1000000) [thD, thL, hlt, hg, hgg, hw, y0, okCell, show L.length + 1 + E.length + 1 ≤ 140737488355328 by omega, show L.length + 1 + E.length + 1 + 1 ≤ 140737488355328 by omega, show L.length + (E.length + 1) + 1 ≤ 140737488355328 by omega, show L.length + (E.length + 1) + 1 + 1 ≤ 140737488355328 by omega])
            | (refine okC_guard (fun hc => ?_) (fun hc => ?_) <;> (first | simp (maxSteps := 1000000) [hc, of_decide_eq_true hc, hlt, hg, hgg, hw, y0, okCell, show L.length + 1 + E.length + 1 ≤ 140737488355328 by omega, show L.length + 1 + E.length + 1 + 1 ≤ 140737488355328 by omega, show L.length + (E.length + 1) + 1 ≤ 140737488355328 by omega, show L.length + (E.length + 1) + 1 + 1 ≤ 140737488355328 by omega] | simp (maxSteps := 1000000) [hc, of_decide_eq_false hc, hlt, hg, hgg, hw, y0, okCell, show L.length + 1 + E.length + 1 ≤ 140737488355328 by omega, show L.length + 1 + E.length + 1 + 1 ≤ 140737488355328 by omega, show L.length + (E.length + 1) + 1 ≤ 140737488355328 by omega, show L.length + (E.length + 1) + 1 + 1 ≤ 140737488355328 by omega] | simp (maxSteps := 1000000) [hc, hlt, hg, hgg, hw, y0, okCell, show L.length + 1 + E.length + 1 ≤ 140737488355328 by omega, show L.length + 1 + E.length + 1 + 1 ≤ 140737488355328 by omega, show L.length + (E.length + 1) + 1 ≤ 140737488355328 by omega, show L.length + (E.length + 1) + 1 + 1 ≤ 140737488355328 by omega]) <;> (try simp at hc) <;> (try (exfalso; first | omega | exact absurd hc (by assumption))))
            | (refine okJ_guard (fun hc => ?_) (fun hc => ?_) <;> (first | simp (maxSteps := 1000000) [hc, of_decide_eq_true hc, hlt, hg, hgg, hw, y0, okCell, show L.length + 1 + E.length + 1 ≤ 140737488355328 by omega, show L.length + 1 + E.length + 1 + 1 ≤ 140737488355328 by omega, show L.length + (E.length + 1) + 1 ≤ 140737488355328 by omega, show L.length + (E.length + 1) + 1 + 1 ≤ 140737488355328 by omega] | simp (maxSteps := 1000000) [hc, of_decide_eq_false hc, hlt, hg, hgg, hw, y0, okCell, show L.length + 1 + E.length + 1 ≤ 140737488355328 by omega, show L.length + 1 + E.length + 1 + 1 ≤ 140737488355328 by omega, show L.length + (E.length + 1) + 1 ≤ 140737488355328 by omega, show L.length + (E.length + 1) + 1 + 1 ≤ 140737488355328 by omega] | simp (maxSteps := 1000000) [hc, hlt, hg, hgg, hw, y0, okCell, show L.length + 1 + E.length + 1 ≤ 140737488355328 by omega, show L.length + 1 + E.length + 1 + 1 ≤ 140737488355328 by omega, show L.length + (E.length + 1) + 1 ≤ 140737488355328 by omega, show L.length + (E.length + 1) + 1 + 1 ≤ 140737488355328 by omega]) <;> (try simp at hc) <;> (try (exfalso; first | omega | exact absurd hc (by assumption))))
            | (refine And.intro (by first | assumption | omega | (simp [BelL, Bel]; done) | (simp; omega)) ?_; try simp (maxSteps := 1000000) [hlt, hg, hgg, hw, y0, okCell, show L.length + 1 + E.length + 1 ≤ 140737488355328 by omega, show L.length + 1 + E.length + 1 + 1 ≤ 140737488355328 by omega, show L.length + (E.length + 1) + 1 ≤ 140737488355328 by omega, show L.length + (E.length + 1) + 1 + 1 ≤ 140737488355328 by omega])
            | (refine okC_or ?_; simp (maxSteps := 1000000) [hlt, hg, hgg, hw, y0, okCell, show L.length + 1 + E.length + 1 ≤ 140737488355328 by omega, show L.length + 1 + E.length + 1 + 1 ≤ 140737488355328 by omega, show L.length + (E.length + 1) + 1 ≤ 140737488355328 by omega, show L.length + (E.length + 1) + 1 + 1 ≤ 140737488355328 by omega])
          refine hKB (T.length - (q + 1)) _ ⟨[.ms 0 (L.length + 1 + (esc (T.take (q + 1))).length) 0 (L.length + 1 + (esc (T.take (q + 1))).length) 1] ++ List.replicate 50 .any ++ [.sl false (cellsL T) T.length, .int .i64 T.length, .int .i64 (q + 1)] ++ List.replicate 16 .any, [some (.c (cellsL L ++ D.int .u8 5 :: cellsL (esc (T.take (q + 1)))))]⟩ (by omega) (view_takeE (sl := [.ms 0 (L.length + 1 + (esc (T.take (q + 1))).length) 0 (L.length + 1 + (esc (T.take (q + 1))).length) 1] ++ List.replicate 50 .any ++ [.sl false (cellsL T) T.length, .int .i64 T.length, .int .i64 (q + 1)] ++ List.replicate 16 .any) (σ0 := [some (.c (cellsL L ++ D.int .u8 5 :: cellsL (esc (T.take (q + 1)))))]) 1 (by simp [hes, cellsL_append, cellsL, Nat.add_assoc]) (by first | omega | simp) (by first | omega | (simp [hes, cellsL_append, cellsL, Nat.add_assoc]; done) | (simp [hes, cellsL_append, cellsL, Nat.add_assoc]; omega)) (by first | exact LewS.refl _ | simp [hes, cellsL_append, cellsL, Nat.add_assoc]) (by simp [BelL, Bel, hes, cellsL_append, cellsL, Nat.add_assoc]) (by simp [BelS, BelOb, BelL, Bel, hes, cellsL_append, cellsL, Nat.add_assoc])) ⟨(q + 1), ?_, rfl, rfl⟩
          omega
        · rw [if_neg y0] at hes
          repeat' first
            | refine jw_ret (hQ _ _ (.inr rfl) ⟨5, _, _, rfl, rfl, ?_⟩)
            | refine jw_ret (hQ _ _ (.inr rfl) ⟨_, rfl, ?_⟩)
            | refine jw_seq_k fun K hK => ?_
            | refine jw_block ?_
            | (refine jw_skip ?_; try simp)
            | (refine jw_exit ?_; try simp)
            | (refine jw_cond rfl (fun hc => ?_) (fun hc => ?_) <;> (try simp at hc) <;> (try (exfalso; first | omega | exact absurd hc (by assumption))))
            | (refine jw_c ?_; simp (maxSteps := 1000000) [hlt, hg, hgg, hw, y0, okCell, show L.length + 1 + E.length + 1 ≤ 140737488355328 by omega])
            | (refine jw_draw_j mixed (by kernel_rfl) ?_; simp (maxSteps := 1000000) [hlt, hg, hgg, hw, y0, okCell, show L.length + 1 + E.length + 1 ≤ 140737488355328 by omega])
            | (first | (apply hK; clear hK) | (clear hK; apply hK; clear hK) | (clear hK; clear hK; apply hK; clear hK) | (clear hK; clear hK; clear hK; apply hK; clear hK))
            | exact hQ _ _ (.inl rfl) ⟨5, _, _, rfl, rfl, rfl⟩
            | refine hQ _ _ (.inl rfl) ⟨5, _, _, rfl, rfl, ?_⟩
            | refine hQ _ _ (.inl rfl) ⟨_, rfl, ?_⟩
            | (refine jd_newc rfl rfl (by simp) ?_; simp (maxSteps := 1000000) [thD, thL, hlt, hg, hgg, hw, y0, okCell, show L.length + 1 + E.length + 1 ≤ 140737488355328 by omega])
            | (refine okN_or ?_; simp (maxSteps := 1000000) [thD, thL, hlt, hg, hgg, hw, y0, okCell, show L.length + 1 + E.length + 1 ≤ 140737488355328 by omega])
            | (refine okC_guard (fun hc => ?_) (fun hc => ?_) <;> (first | simp (maxSteps := 1000000) [hc, of_decide_eq_true hc, hlt, hg, hgg, hw, y0, okCell, show L.length + 1 + E.length + 1 ≤ 140737488355328 by omega] | simp (maxSteps := 1000000) [hc, of_decide_eq_false hc, hlt, hg, hgg, hw, y0, okCell, show L.length + 1 + E.length + 1 ≤ 140737488355328 by omega] | simp (maxSteps := 1000000) [hc, hlt, hg, hgg, hw, y0, okCell, show L.length + 1 + E.length + 1 ≤ 140737488355328 by omega]) <;> (try simp at hc) <;> (try (exfalso; first | omega | exact absurd hc (by assumption))))
            | (refine okJ_guard (fun hc => ?_) (fun hc => ?_) <;> (first | simp (maxSteps := 1000000) [hc, of_decide_eq_true hc, hlt, hg, hgg, hw, y0, okCell, show L.length + 1 + E.length + 1 ≤ 140737488355328 by omega] | simp (maxSteps := 1000000) [hc, of_decide_eq_false hc, hlt, hg, hgg, hw, y0, okCell, show L.length + 1 + E.length + 1 ≤ 140737488355328 by omega] | simp (maxSteps := 1000000) [hc, hlt, hg, hgg, hw, y0, okCell, show L.length + 1 + E.length + 1 ≤ 140737488355328 by omega]) <;> (try simp at hc) <;> (try (exfalso; first | omega | exact absurd hc (by assumption))))
            | (refine And.intro (by first | assumption | omega | (simp [BelL, Bel]; done) | (simp; omega)) ?_; try simp (maxSteps := 1000000) [hlt, hg, hgg, hw, y0, okCell, show L.length + 1 + E.length + 1 ≤ 140737488355328 by omega])
            | (refine okC_or ?_; simp (maxSteps := 1000000) [hlt, hg, hgg, hw, y0, okCell, show L.length + 1 + E.length + 1 ≤ 140737488355328 by omega])
          refine hKB (T.length - (q + 1)) _ ⟨[.ms 0 (L.length + 1 + (esc (T.take (q + 1))).length) 0 (L.length + 1 + (esc (T.take (q + 1))).length) 1] ++ List.replicate 50 .any ++ [.sl false (cellsL T) T.length, .int .i64 T.length, .int .i64 (q + 1)] ++ List.replicate 16 .any, [some (.c (cellsL L ++ D.int .u8 5 :: cellsL (esc (T.take (q + 1)))))]⟩ (by omega) (view_takeE (sl := [.ms 0 (L.length + 1 + (esc (T.take (q + 1))).length) 0 (L.length + 1 + (esc (T.take (q + 1))).length) 1] ++ List.replicate 50 .any ++ [.sl false (cellsL T) T.length, .int .i64 T.length, .int .i64 (q + 1)] ++ List.replicate 16 .any) (σ0 := [some (.c (cellsL L ++ D.int .u8 5 :: cellsL (esc (T.take (q + 1)))))]) 1 (by simp [hes, cellsL_append, cellsL, Nat.add_assoc]) (by first | omega | simp) (by first | omega | (simp [hes, cellsL_append, cellsL, Nat.add_assoc]; done) | (simp [hes, cellsL_append, cellsL, Nat.add_assoc]; omega)) (by first | exact LewS.refl _ | simp [hes, cellsL_append, cellsL, Nat.add_assoc]) (by simp [BelL, Bel, hes, cellsL_append, cellsL, Nat.add_assoc]) (by simp [BelS, BelOb, BelL, Bel, hes, cellsL_append, cellsL, Nat.add_assoc])) ⟨(q + 1), ?_, rfl, rfl⟩
          omega
      · have hE2 : esc T = E := by rw [← hE, List.take_of_length_le (by omega)]
        rw [hE2] at hQ
        repeat' first
          | refine jw_seq_k fun K hK => ?_
          | refine jw_block ?_
          | (refine jw_skip ?_; try simp)
          | (refine jw_exit ?_; try simp)
          | (refine jw_cond rfl (fun hc => ?_) (fun hc => ?_) <;> (try simp at hc) <;> (try (exfalso; first | omega | exact absurd hc (by assumption))))
          | (refine jw_c ?_; simp (maxSteps := 1000000) [hlt, okCell, show L.length + 1 + E.length + 2 ≤ 140737488355328 by omega])
          | (refine jw_draw_j mixed (by kernel_rfl) ?_; simp (maxSteps := 1000000) [hlt, okCell, show L.length + 1 + E.length + 2 ≤ 140737488355328 by omega])
          | (first | (apply hK; clear hK) | (clear hK; apply hK; clear hK) | (clear hK; clear hK; apply hK; clear hK) | (clear hK; clear hK; clear hK; apply hK; clear hK))
          | (refine jw_ret (hQ _ _ (.inr rfl) (ret_ok 1 ?_ (by first | omega | simp))); simp (maxSteps := 1000000) [okRet, BelL, Bel, BelS, BelOb, hlt, okCell, show L.length + 1 + E.length + 2 ≤ 140737488355328 by omega])
          | (refine hQ _ _ (.inl rfl) (ret_ok 1 ?_ (by first | omega | simp)); simp (maxSteps := 1000000) [okRet, BelL, Bel, BelS, BelOb, hlt, okCell, show L.length + 1 + E.length + 2 ≤ 140737488355328 by omega])
          | (refine jd_newc rfl rfl (by simp) ?_; simp (maxSteps := 1000000) [thD, thL, hlt, okCell, show L.length + 1 + E.length + 2 ≤ 140737488355328 by omega])
          | (refine okN_or ?_; simp (maxSteps := 1000000) [thD, thL, hlt, okCell, show L.length + 1 + E.length + 2 ≤ 140737488355328 by omega])
          | (refine okC_guard (fun hc => ?_) (fun hc => ?_) <;> (first | simp (maxSteps := 1000000) [hc, of_decide_eq_true hc, hlt, okCell, show L.length + 1 + E.length + 2 ≤ 140737488355328 by omega] | simp (maxSteps := 1000000) [hc, of_decide_eq_false hc, hlt, okCell, show L.length + 1 + E.length + 2 ≤ 140737488355328 by omega] | simp (maxSteps := 1000000) [hc, hlt, okCell, show L.length + 1 + E.length + 2 ≤ 140737488355328 by omega]) <;> (try simp at hc) <;> (try (exfalso; first | omega | exact absurd hc (by assumption))))
          | (refine okJ_guard (fun hc => ?_) (fun hc => ?_) <;> (first | simp (maxSteps := 1000000) [hc, of_decide_eq_true hc, hlt, okCell, show L.length + 1 + E.length + 2 ≤ 140737488355328 by omega] | simp (maxSteps := 1000000) [hc, of_decide_eq_false hc, hlt, okCell, show L.length + 1 + E.length + 2 ≤ 140737488355328 by omega] | simp (maxSteps := 1000000) [hc, hlt, okCell, show L.length + 1 + E.length + 2 ≤ 140737488355328 by omega]) <;> (try simp at hc) <;> (try (exfalso; first | omega | exact absurd hc (by assumption))))
          | (refine And.intro (by first | assumption | omega | (simp [BelL, Bel]; done) | (simp; omega)) ?_; try simp (maxSteps := 1000000) [hlt, okCell, show L.length + 1 + E.length + 2 ≤ 140737488355328 by omega])
          | (refine okC_or ?_; simp (maxSteps := 1000000) [hlt, okCell, show L.length + 1 + E.length + 2 ≤ 140737488355328 by omega])
        all_goals simp [cellsL]
    · simp
end Go.Proofs.YtkjndbfinpfjfaaDoor
