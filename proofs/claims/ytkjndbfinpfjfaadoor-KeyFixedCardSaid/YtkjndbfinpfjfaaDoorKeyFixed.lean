/- KeyFixed: the walk. -/
import Derived.Test.YtkjndbfinpfjfaaDoorKeyBack
set_option linter.unusedVariables false
set_option linter.unusedSimpArgs false
set_option maxRecDepth 20000
set_option maxHeartbeats 20000000
namespace Go.Proofs.YtkjndbfinpfjfaaDoor
open Go Go.Vm Go.Proofs

theorem decodeLong {G : Globals} (B : List Nat) (hl : ¬ B.length ≤ 1200) : FV Tryd.prog G 22 [natsD B] (fun r => r = .tup [.nsl, .int .i64 0, .int .i64 1]) := by
  refine fv_enter_v Tryd.func22 rfl rfl fun Q hQ => ?_
  repeat' first
    | refine jw_seq_k fun K hK => ?_
    | refine jw_block ?_
    | (refine jw_skip ?_; try simp)
    | (refine jw_exit ?_; try simp)
    | (refine jw_cond rfl (fun hc => ?_) (fun hc => ?_) <;> (try simp at hc) <;> (try (exfalso; first | omega | exact absurd hc (by assumption))))
    | (refine jw_c ?_; simp (maxSteps := 1000000) [Tryd.f22, natsD, show (1200 : Int) < B.length by omega, show 1200 < B.length by omega])
    | (refine jw_draw_j mixed (by kernel_rfl) ?_; simp (maxSteps := 1000000) [Tryd.f22, natsD, show (1200 : Int) < B.length by omega, show 1200 < B.length by omega])
    | (first | (apply hK; clear hK) | (clear hK; apply hK; clear hK) | (clear hK; clear hK; apply hK; clear hK) | (clear hK; clear hK; clear hK; apply hK; clear hK))
    | (refine jw_ret (hQ _ _ (.inr rfl) (ret_ok 0 ?_ (by first | omega | simp))); simp (maxSteps := 1000000) [okRet, BelL, Bel, BelS, BelOb, Tryd.f22, natsD, show (1200 : Int) < B.length by omega, show 1200 < B.length by omega])
    | (refine hQ _ _ (.inl rfl) (ret_ok 0 ?_ (by first | omega | simp)); simp (maxSteps := 1000000) [okRet, BelL, Bel, BelS, BelOb, Tryd.f22, natsD, show (1200 : Int) < B.length by omega, show 1200 < B.length by omega])
    | (refine jd_newc rfl rfl (by simp) ?_; simp (maxSteps := 1000000) [thD, thL, Tryd.f22, natsD, show (1200 : Int) < B.length by omega, show 1200 < B.length by omega])
    | (refine okN_or ?_; simp (maxSteps := 1000000) [thD, thL, Tryd.f22, natsD, show (1200 : Int) < B.length by omega, show 1200 < B.length by omega])
    | (refine okC_guard (fun hc => ?_) (fun hc => ?_) <;> (first | simp (maxSteps := 1000000) [hc, of_decide_eq_true hc, Tryd.f22, natsD, show (1200 : Int) < B.length by omega, show 1200 < B.length by omega] | simp (maxSteps := 1000000) [hc, of_decide_eq_false hc, Tryd.f22, natsD, show (1200 : Int) < B.length by omega, show 1200 < B.length by omega] | simp (maxSteps := 1000000) [hc, Tryd.f22, natsD, show (1200 : Int) < B.length by omega, show 1200 < B.length by omega]) <;> (try simp at hc) <;> (try (exfalso; first | omega | exact absurd hc (by assumption))))
    | (refine okJ_guard (fun hc => ?_) (fun hc => ?_) <;> (first | simp (maxSteps := 1000000) [hc, of_decide_eq_true hc, Tryd.f22, natsD, show (1200 : Int) < B.length by omega, show 1200 < B.length by omega] | simp (maxSteps := 1000000) [hc, of_decide_eq_false hc, Tryd.f22, natsD, show (1200 : Int) < B.length by omega, show 1200 < B.length by omega] | simp (maxSteps := 1000000) [hc, Tryd.f22, natsD, show (1200 : Int) < B.length by omega, show 1200 < B.length by omega]) <;> (try simp at hc) <;> (try (exfalso; first | omega | exact absurd hc (by assumption))))
    | (refine And.intro (by first | assumption | omega | (simp [BelL, Bel]; done) | (simp; omega)) ?_; try simp (maxSteps := 1000000) [Tryd.f22, natsD, show (1200 : Int) < B.length by omega, show 1200 < B.length by omega])
    | (refine okC_or ?_; simp (maxSteps := 1000000) [Tryd.f22, natsD, show (1200 : Int) < B.length by omega, show 1200 < B.length by omega])
def FixR (B : List Nat) (d : D) (q c : Int) : Prop := (c = 0 ∧ q = 0 ∧ ∃ z : List Va, d = vasD z ∧ (∀ v ∈ z, VOk v) ∧ z.length ≤ 14 ∧ encL z = B) ∨ (c ≠ 0 ∧ d = .nsl ∧ 0 ≤ q ∧ q ≤ B.length)
theorem decodeFix (hvalid : HValid) (B : List Nat) (hB : ∀ x ∈ B, x < 256) : FV Tryd.prog utfG 22 [natsD B] (fun r => ∃ (d : D) (n c : Int), FixR B d n c ∧ r = .tup [d, .int .i64 n, .int .i64 c]) := by
  by_cases hl : B.length ≤ 1200
  · refine (decodeF hvalid B hB hl).mono ?_
    rintro r ⟨d, n, c, hR, rfl⟩
    refine ⟨d, n, c, ?_, rfl⟩
    rcases hR with h | ⟨hc, hd, y, _, _, hn, hlt, _⟩
    · exact .inl h
    · exact .inr ⟨hc, hd, by omega, by omega⟩
  · refine (decodeLong B hl).mono ?_
    rintro r rfl
    exact ⟨_, _, _, .inr ⟨by omega, rfl, by omega, by omega⟩, rfl⟩
theorem thD_vas (l : Nat) (cs : List D) (r : List Va) : thD l cs (vasD r) = vasD r := thD_flat l cs (bel_vas l r)
theorem thL_cells (l : Nat) (cs : List D) (r : List Nat) : thL l cs (cellsL r) = cellsL r := thL_flat l cs (belL_cells l r)
theorem keyFixedW (hvalid : HValid) (b : List Nat) (hb : ∀ x ∈ b, x < 256) (hl : b.length ≤ 140737488351232) :
    FV Tryd.prog utfG 9 [natsD b] (fun r => r = .bool true) := by
  have hO : FV Tryd.prog utfG 18 [natsD b, .int .i64 b.length] (fun r => r = natsD b) := by
    have := octets (G := utfG) (b.map fun n : Nat => (n : Int)) b.length (by simp; omega) (by omega)
    rw [List.take_of_length_le (by simp), ← natsD_bytes] at this
    exact this
  have hD := decodeFix hvalid b hb
  have hone : VOk ⟨1, 1, []⟩ := ⟨txt_nil, by simp, by simp, by simp, .inr (.inl ⟨rfl, by simp, rfl⟩)⟩
  have hE1 := encodeF [⟨1, 1, []⟩] (by simp) (fun v hv => by rw [List.mem_singleton.1 hv]; exact hone)
  have e1 : encL [⟨1, 1, []⟩] = [3] := rfl
  have e2 : vasD [⟨1, 1, []⟩] = .sl false [.int .i64 1, .int .i64 1, .str ⟨#[]⟩] 1 := rfl
  rw [e1, e2] at hE1
  refine fv_enter_v Tryd.func9 rfl rfl fun Q hQ => ?_
  repeat' first
    | refine jw_ret (hQ _ _ (.inr rfl) ⟨5, _, _, rfl, rfl, ?_⟩)
    | refine jw_ret (hQ _ _ (.inr rfl) ⟨_, rfl, ?_⟩)
    | refine jw_seq_k fun K hK => ?_
    | refine jw_block ?_
    | (refine jw_skip ?_; try simp)
    | (refine jw_exit ?_; try simp)
    | (refine jw_cond rfl (fun hc => ?_) (fun hc => ?_) <;> (try simp at hc) <;> (try (exfalso; first | omega | exact absurd hc (by assumption))))
    | ((fail_if_success (refine jw_c (id := 2) ?_)); (refine jw_c ?_; simp (maxSteps := 1000000) [Tryd.f9, natsD]))
    | ((fail_if_success (refine jw_draw_j (id := 2) mixed (by kernel_rfl) ?_)); (refine jw_draw_j mixed (by kernel_rfl) ?_; simp (maxSteps := 1000000) [Tryd.f9, natsD]))
    | (first | (apply hK; clear hK) | (clear hK; apply hK; clear hK) | (clear hK; clear hK; apply hK; clear hK) | (clear hK; clear hK; clear hK; apply hK; clear hK))
    | exact hQ _ _ (.inl rfl) ⟨5, _, _, rfl, rfl, rfl⟩
    | refine hQ _ _ (.inl rfl) ⟨5, _, _, rfl, rfl, ?_⟩
    | refine hQ _ _ (.inl rfl) ⟨_, rfl, ?_⟩
    | (refine jl_call (f := 18) rfl rfl rfl rfl rfl (hO) (by simp [BelL, Bel]) ?_; rintro r rfl; simp (maxSteps := 1000000) [Tryd.f9, natsD])
    | (refine jd_call (f := 18) rfl rfl rfl rfl rfl (hO) (by simp [BelL, Bel]) ?_; simp (maxSteps := 1000000) [Tryd.f9, natsD])
    | (refine jl_call (f := 22) rfl rfl rfl rfl rfl (hD) (by simp [BelL, Bel]) ?_; rintro r ⟨dd, q, c, hR, rfl⟩; simp (maxSteps := 1000000) [Tryd.f9, natsD])
    | (refine jd_newc rfl rfl (by simp) ?_; simp (maxSteps := 1000000) [thD, thL, Tryd.f9, natsD])
    | (refine okN_or ?_; simp (maxSteps := 1000000) [thD, thL, Tryd.f9, natsD])
    | (refine okC_guard (fun hc => ?_) (fun hc => ?_) <;> (first | simp (maxSteps := 1000000) [hc, of_decide_eq_true hc, Tryd.f9, natsD] | simp (maxSteps := 1000000) [hc, of_decide_eq_false hc, Tryd.f9, natsD] | simp (maxSteps := 1000000) [hc, Tryd.f9, natsD]) <;> (try simp at hc) <;> (try (exfalso; first | omega | exact absurd hc (by assumption))))
    | (refine okJ_guard (fun hc => ?_) (fun hc => ?_) <;> (first | simp (maxSteps := 1000000) [hc, of_decide_eq_true hc, Tryd.f9, natsD] | simp (maxSteps := 1000000) [hc, of_decide_eq_false hc, Tryd.f9, natsD] | simp (maxSteps := 1000000) [hc, Tryd.f9, natsD]) <;> (try simp at hc) <;> (try (exfalso; first | omega | exact absurd hc (by assumption))))
    | (refine And.intro (by first | assumption | omega | (simp [BelL, Bel]; done) | (simp; omega)) ?_; try simp (maxSteps := 1000000) [Tryd.f9, natsD])
    | (refine okC_or ?_; simp (maxSteps := 1000000) [Tryd.f9, natsD])
  rcases hR with ⟨rfl, rfl, x, rfl, hx, hxl, he⟩ | ⟨hc0, rfl, q0, ql⟩
  · have hE := encodeF x hxl hx
    rw [he] at hE
    have hN := sameN (G := utfG) b (by rw [← he]; have := encL_len hx; omega)
    repeat' first
      | refine jw_ret (hQ _ _ (.inr rfl) ⟨5, _, _, rfl, rfl, ?_⟩)
      | refine jw_ret (hQ _ _ (.inr rfl) ⟨_, rfl, ?_⟩)
      | refine jw_seq_k fun K hK => ?_
      | refine jw_block ?_
      | (refine jw_skip ?_; try simp)
      | (refine jw_exit ?_; try simp)
      | (refine jw_cond rfl (fun hc => ?_) (fun hc => ?_) <;> (try simp at hc) <;> (try (exfalso; first | omega | exact absurd hc (by assumption))))
      | (refine jw_c ?_; simp (maxSteps := 1000000) [natsD, okCell])
      | (refine jw_draw_j mixed (by kernel_rfl) ?_; simp (maxSteps := 1000000) [natsD, okCell])
      | (first | (apply hK; clear hK) | (clear hK; apply hK; clear hK) | (clear hK; clear hK; apply hK; clear hK) | (clear hK; clear hK; clear hK; apply hK; clear hK))
      | exact hQ _ _ (.inl rfl) ⟨5, _, _, rfl, rfl, rfl⟩
      | refine hQ _ _ (.inl rfl) ⟨5, _, _, rfl, rfl, ?_⟩
      | refine hQ _ _ (.inl rfl) ⟨_, rfl, ?_⟩
      | (refine jd_newc rfl rfl (by simp) ?_; simp (maxSteps := 1000000) [thD, thL, natsD, okCell])
      | (refine okN_or ?_; simp (maxSteps := 1000000) [thD, thL, natsD, okCell])
      | (refine okC_guard (fun hc => ?_) (fun hc => ?_) <;> (first | simp (maxSteps := 1000000) [hc, of_decide_eq_true hc, natsD, okCell] | simp (maxSteps := 1000000) [hc, of_decide_eq_false hc, natsD, okCell] | simp (maxSteps := 1000000) [hc, natsD, okCell]) <;> (try simp at hc) <;> (try (exfalso; first | omega | exact absurd hc (by assumption))))
      | (refine okJ_guard (fun hc => ?_) (fun hc => ?_) <;> (first | simp (maxSteps := 1000000) [hc, of_decide_eq_true hc, natsD, okCell] | simp (maxSteps := 1000000) [hc, of_decide_eq_false hc, natsD, okCell] | simp (maxSteps := 1000000) [hc, natsD, okCell]) <;> (try simp at hc) <;> (try (exfalso; first | omega | exact absurd hc (by assumption))))
      | (refine And.intro (by first | assumption | omega | (simp [BelL, Bel]; done) | (simp; omega)) ?_; try simp (maxSteps := 1000000) [natsD, okCell])
      | (refine okC_or ?_; simp (maxSteps := 1000000) [natsD, okCell])
    (refine jl_view (view_frz 0 _ rfl (by simp [BelL, Bel, thD_nats, thD_vas, thL_cells])) ?_; simp (maxSteps := 1000000) [thL, thD, thS, thOb, thD_nats, thD_vas, thL_cells])
    repeat' first
      | refine jw_seq_k fun K hK => ?_
      | refine jw_block ?_
      | (refine jw_skip ?_; try simp)
      | (refine jw_exit ?_; try simp)
      | (refine jw_cond rfl (fun hc => ?_) (fun hc => ?_) <;> (try simp at hc) <;> (try (exfalso; first | omega | exact absurd hc (by assumption))))
      | (refine jw_c ?_; simp (maxSteps := 1000000) [natsD])
      | (refine jw_draw_j mixed (by kernel_rfl) ?_; simp (maxSteps := 1000000) [natsD])
      | (first | (apply hK; clear hK) | (clear hK; apply hK; clear hK) | (clear hK; clear hK; apply hK; clear hK) | (clear hK; clear hK; clear hK; apply hK; clear hK))
      | (refine jl_call (f := 21) rfl rfl rfl rfl rfl (hE1) (by simp [BelL, Bel]) ?_; rintro r rfl; simp (maxSteps := 1000000) [natsD])
      | (refine jd_call (f := 21) rfl rfl rfl rfl rfl (hE1) (by simp [BelL, Bel]) ?_; simp (maxSteps := 1000000) [natsD])
      | (refine jl_call (f := 21) rfl rfl rfl rfl rfl (hE) (by simp [BelL, Bel]) ?_; rintro r rfl; simp (maxSteps := 1000000) [natsD])
      | (refine jd_call (f := 21) rfl rfl rfl rfl rfl (hE) (by simp [BelL, Bel]) ?_; simp (maxSteps := 1000000) [natsD])
      | (refine jl_call (f := 17) rfl rfl rfl rfl rfl (hN) (by simp [BelL, Bel]) ?_; rintro r rfl; simp (maxSteps := 1000000) [natsD])
      | (refine jd_call (f := 17) rfl rfl rfl rfl rfl (hN) (by simp [BelL, Bel]) ?_; simp (maxSteps := 1000000) [natsD])
      | (refine jw_ret (hQ _ _ (.inr rfl) (ret_ok 0 ?_ (by first | omega | simp))); simp (maxSteps := 1000000) [okRet, BelL, Bel, BelS, BelOb, natsD])
      | (refine hQ _ _ (.inl rfl) (ret_ok 0 ?_ (by first | omega | simp)); simp (maxSteps := 1000000) [okRet, BelL, Bel, BelS, BelOb, natsD])
      | (refine jd_newc rfl rfl (by simp) ?_; simp (maxSteps := 1000000) [thD, thL, natsD])
      | (refine okN_or ?_; simp (maxSteps := 1000000) [thD, thL, natsD])
      | (refine okC_guard (fun hc => ?_) (fun hc => ?_) <;> (first | simp (maxSteps := 1000000) [hc, of_decide_eq_true hc, natsD] | simp (maxSteps := 1000000) [hc, of_decide_eq_false hc, natsD] | simp (maxSteps := 1000000) [hc, natsD]) <;> (try simp at hc) <;> (try (exfalso; first | omega | exact absurd hc (by assumption))))
      | (refine okJ_guard (fun hc => ?_) (fun hc => ?_) <;> (first | simp (maxSteps := 1000000) [hc, of_decide_eq_true hc, natsD] | simp (maxSteps := 1000000) [hc, of_decide_eq_false hc, natsD] | simp (maxSteps := 1000000) [hc, natsD]) <;> (try simp at hc) <;> (try (exfalso; first | omega | exact absurd hc (by assumption))))
      | (refine And.intro (by first | assumption | omega | (simp [BelL, Bel]; done) | (simp; omega)) ?_; try simp (maxSteps := 1000000) [natsD])
      | (refine okC_or ?_; simp (maxSteps := 1000000) [natsD])
  · repeat' first
      | refine jw_ret (hQ _ _ (.inr rfl) ⟨5, _, _, rfl, rfl, ?_⟩)
      | refine jw_ret (hQ _ _ (.inr rfl) ⟨_, rfl, ?_⟩)
      | refine jw_seq_k fun K hK => ?_
      | refine jw_block ?_
      | (refine jw_skip ?_; try simp)
      | (refine jw_exit ?_; try simp)
      | (refine jw_cond rfl (fun hc => ?_) (fun hc => ?_) <;> (try simp at hc) <;> (try (exfalso; first | omega | exact absurd hc (by assumption))))
      | (refine jw_c ?_; simp (maxSteps := 1000000) [natsD, okCell])
      | (refine jw_draw_j mixed (by kernel_rfl) ?_; simp (maxSteps := 1000000) [natsD, okCell])
      | (first | (apply hK; clear hK) | (clear hK; apply hK; clear hK) | (clear hK; clear hK; apply hK; clear hK) | (clear hK; clear hK; clear hK; apply hK; clear hK))
      | exact hQ _ _ (.inl rfl) ⟨5, _, _, rfl, rfl, rfl⟩
      | refine hQ _ _ (.inl rfl) ⟨5, _, _, rfl, rfl, ?_⟩
      | refine hQ _ _ (.inl rfl) ⟨_, rfl, ?_⟩
      | (refine jd_newc rfl rfl (by simp) ?_; simp (maxSteps := 1000000) [thD, thL, natsD, okCell])
      | (refine okN_or ?_; simp (maxSteps := 1000000) [thD, thL, natsD, okCell])
      | (refine okC_guard (fun hc => ?_) (fun hc => ?_) <;> (first | simp (maxSteps := 1000000) [hc, of_decide_eq_true hc, natsD, okCell] | simp (maxSteps := 1000000) [hc, of_decide_eq_false hc, natsD, okCell] | simp (maxSteps := 1000000) [hc, natsD, okCell]) <;> (try simp at hc) <;> (try (exfalso; first | omega | exact absurd hc (by assumption))))
      | (refine okJ_guard (fun hc => ?_) (fun hc => ?_) <;> (first | simp (maxSteps := 1000000) [hc, of_decide_eq_true hc, natsD, okCell] | simp (maxSteps := 1000000) [hc, of_decide_eq_false hc, natsD, okCell] | simp (maxSteps := 1000000) [hc, natsD, okCell]) <;> (try simp at hc) <;> (try (exfalso; first | omega | exact absurd hc (by assumption))))
      | (refine And.intro (by first | assumption | omega | (simp [BelL, Bel]; done) | (simp; omega)) ?_; try simp (maxSteps := 1000000) [natsD, okCell])
      | (refine okC_or ?_; simp (maxSteps := 1000000) [natsD, okCell])
    (refine jl_view (view_frz 0 _ rfl (by simp [BelL, Bel, thD_nats, thL_cells])) ?_; simp (maxSteps := 1000000) [thL, thD, thS, thOb, thD_nats, thL_cells])
    repeat' first
      | refine jw_seq_k fun K hK => ?_
      | refine jw_block ?_
      | (refine jw_skip ?_; try simp)
      | (refine jw_exit ?_; try simp)
      | (refine jw_cond rfl (fun hc => ?_) (fun hc => ?_) <;> (try simp at hc) <;> (try (exfalso; first | omega | exact absurd hc (by assumption))))
      | (refine jw_c ?_; simp (maxSteps := 1000000) [natsD, hc0, q0, ql])
      | (refine jw_draw_j mixed (by kernel_rfl) ?_; simp (maxSteps := 1000000) [natsD, hc0, q0, ql])
      | (first | (apply hK; clear hK) | (clear hK; apply hK; clear hK) | (clear hK; clear hK; apply hK; clear hK) | (clear hK; clear hK; clear hK; apply hK; clear hK))
      | (refine jl_call (f := 21) rfl rfl rfl rfl rfl (hE1) (by simp [BelL, Bel]) ?_; rintro r rfl; simp (maxSteps := 1000000) [natsD, hc0, q0, ql])
      | (refine jd_call (f := 21) rfl rfl rfl rfl rfl (hE1) (by simp [BelL, Bel]) ?_; simp (maxSteps := 1000000) [natsD, hc0, q0, ql])
      | (refine jw_ret (hQ _ _ (.inr rfl) (ret_ok 0 ?_ (by first | omega | simp))); simp (maxSteps := 1000000) [okRet, BelL, Bel, BelS, BelOb, natsD, hc0, q0, ql])
      | (refine hQ _ _ (.inl rfl) (ret_ok 0 ?_ (by first | omega | simp)); simp (maxSteps := 1000000) [okRet, BelL, Bel, BelS, BelOb, natsD, hc0, q0, ql])
      | (refine jd_newc rfl rfl (by simp) ?_; simp (maxSteps := 1000000) [thD, thL, natsD, hc0, q0, ql])
      | (refine okN_or ?_; simp (maxSteps := 1000000) [thD, thL, natsD, hc0, q0, ql])
      | (refine okC_guard (fun hc => ?_) (fun hc => ?_) <;> (first | simp (maxSteps := 1000000) [hc, of_decide_eq_true hc, natsD, hc0, q0, ql] | simp (maxSteps := 1000000) [hc, of_decide_eq_false hc, natsD, hc0, q0, ql] | simp (maxSteps := 1000000) [hc, natsD, hc0, q0, ql]) <;> (try simp at hc) <;> (try (exfalso; first | omega | exact absurd hc (by assumption))))
      | (refine okJ_guard (fun hc => ?_) (fun hc => ?_) <;> (first | simp (maxSteps := 1000000) [hc, of_decide_eq_true hc, natsD, hc0, q0, ql] | simp (maxSteps := 1000000) [hc, of_decide_eq_false hc, natsD, hc0, q0, ql] | simp (maxSteps := 1000000) [hc, natsD, hc0, q0, ql]) <;> (try simp at hc) <;> (try (exfalso; first | omega | exact absurd hc (by assumption))))
      | (refine And.intro (by first | assumption | omega | (simp [BelL, Bel]; done) | (simp; omega)) ?_; try simp (maxSteps := 1000000) [natsD, hc0, q0, ql])
      | (refine okC_or ?_; simp (maxSteps := 1000000) [natsD, hc0, q0, ql])
theorem keyFixed (b : List Int) (hb : ∀ n ∈ b, (Lit.int .u8 n).wf = true) (hl : b.length * 1 ≤ 140737488351232) (_ : b.length ≤ 9223372036854775807) : FV Tryd.prog utfG 9 [numsD .u8 b] (fun r => r = .bool true) := by
  have e : (b.map Int.toNat).map (fun n : Nat => (n : Int)) = b := by
    rw [List.map_map]
    exact (List.map_congr_left fun x hx => by have := wf_u8 (hb x hx); simp; omega).trans (List.map_id b)
  have h := keyFixedW hvalid (b.map Int.toNat) (fun x hx => by
    obtain ⟨y, hy, rfl⟩ := List.mem_map.1 hx
    have := wf_u8 (hb y hy); omega) (by simp; omega)
  rw [natsD_bytes, e] at h
  exact h
end Go.Proofs.YtkjndbfinpfjfaaDoor
