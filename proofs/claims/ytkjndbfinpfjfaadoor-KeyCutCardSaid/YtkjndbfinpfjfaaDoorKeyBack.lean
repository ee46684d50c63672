/- KeyBack: the walk. -/
import Derived.Test.YtkjndbfinpfjfaaDoorKeyLaw
import Derived.Test.YtkjndbfinpfjfaaDoorUtfV
set_option linter.unusedVariables false
set_option linter.unusedSimpArgs false
set_option maxRecDepth 20000
set_option maxHeartbeats 20000000
namespace Go.Proofs.YtkjndbfinpfjfaaDoor
open Go Go.Vm Go.Proofs

abbrev HValid : Prop := ∀ L : List Nat, (∀ x ∈ L, x < 256) → L.length ≤ 40 → FV Tryd.prog utfG 42 [natsD L] (fun r => r = .bool (valid L))
theorem hvalid : HValid := fun L h hl => validF L h hl
theorem encL_bytes {l : List Va} (h : ∀ v ∈ l, VOk v) : ∀ x ∈ encL l, x < 256 := fun x hx => by
  obtain ⟨v, hv, hx⟩ := List.mem_flatMap.1 hx
  exact va_bytes (h v hv) x hx
theorem sameN {G : Globals} (a : List Nat) (ha : a.length ≤ 1000000) : FV Tryd.prog G 17 [natsD a, natsD a] (fun r => r = .bool true) := by
  have := sameBytes (G := G) (a.map fun n : Nat => (n : Int)) (a.map fun n : Nat => (n : Int)) (by simpa using ha)
  rw [← natsD_bytes, decide_eq_true rfl] at this
  exact this
theorem octN {G : Globals} (a : List Nat) (n : Nat) (ha : a.length ≤ 1000000) (hn : n ≤ 1000000) : FV Tryd.prog G 18 [natsD a, .int .i64 n] (fun r => r = natsD (a.take n)) := by
  have := octets (G := G) (a.map fun n : Nat => (n : Int)) n (by simp; omega) (by omega)
  rw [← List.map_take, ← natsD_bytes, ← natsD_bytes] at this
  exact this
theorem thD_rws (l : Nat) (cs : List D) (r : List Rw) : thD l cs (rwsD r) = rwsD r := thD_flat l cs (bel_rws l r)
theorem keyBackW (hvalid : HValid) (l l' : List Rw) (hl : l.length ≤ 140737488351232) (h : ∀ v ∈ l, RwOk v) (hl' : l'.length ≤ 140737488351232) (h' : ∀ v ∈ l', RwOk v) :
    FV Tryd.prog utfG 8 [rwsD l, rwsD l'] (fun r => r = .bool true) := by
  refine fv_enter_v Tryd.func8 rfl rfl fun Q hQ => ?_
  repeat' first
    | refine jw_ret (hQ _ _ (.inr rfl) ⟨5, _, _, rfl, rfl, ?_⟩)
    | refine jw_ret (hQ _ _ (.inr rfl) ⟨_, rfl, ?_⟩)
    | refine jw_seq_k fun K hK => ?_
    | refine jw_block ?_
    | (refine jw_skip ?_; try simp)
    | (refine jw_exit ?_; try simp)
    | (refine jw_cond rfl (fun hc => ?_) (fun hc => ?_) <;> (try simp at hc) <;> (try (exfalso; first | omega | exact absurd hc (by assumption))))
    | ((fail_if_success (refine jw_c (id := 3) ?_)); (refine jw_c ?_; simp (maxSteps := 1000000) [Tryd.f8]))
    | ((fail_if_success (refine jw_draw_j (id := 3) mixed (by kernel_rfl) ?_)); (refine jw_draw_j mixed (by kernel_rfl) ?_; simp (maxSteps := 1000000) [Tryd.f8]))
    | (first | (apply hK; clear hK) | (clear hK; apply hK; clear hK) | (clear hK; clear hK; apply hK; clear hK) | (clear hK; clear hK; clear hK; apply hK; clear hK))
    | exact hQ _ _ (.inl rfl) ⟨5, _, _, rfl, rfl, rfl⟩
    | refine hQ _ _ (.inl rfl) ⟨5, _, _, rfl, rfl, ?_⟩
    | refine hQ _ _ (.inl rfl) ⟨_, rfl, ?_⟩
    | (refine jl_call (f := 20) rfl rfl rfl rfl rfl (valuesOfF l h hl 7 (by omega)) (by simp [BelL, Bel]) ?_; rintro r ⟨x, hx, hxl, rfl⟩; simp (maxSteps := 1000000) [Tryd.f8])
    | (refine jl_call (f := 20) rfl rfl rfl rfl rfl (valuesOfF l' h' hl' 7 (by omega)) (by simp [BelL, Bel]) ?_; rintro r ⟨y, hy, hyl, rfl⟩; simp (maxSteps := 1000000) [Tryd.f8])
    | (refine jd_newc rfl rfl (by simp) ?_; simp (maxSteps := 1000000) [thD, thL, Tryd.f8])
    | (refine okN_or ?_; simp (maxSteps := 1000000) [thD, thL, Tryd.f8])
    | (refine okC_guard (fun hc => ?_) (fun hc => ?_) <;> (first | simp (maxSteps := 1000000) [hc, of_decide_eq_true hc, Tryd.f8] | simp (maxSteps := 1000000) [hc, of_decide_eq_false hc, Tryd.f8] | simp (maxSteps := 1000000) [hc, Tryd.f8]) <;> (try simp at hc) <;> (try (exfalso; first | omega | exact absurd hc (by assumption))))
    | (refine okJ_guard (fun hc => ?_) (fun hc => ?_) <;> (first | simp (maxSteps := 1000000) [hc, of_decide_eq_true hc, Tryd.f8] | simp (maxSteps := 1000000) [hc, of_decide_eq_false hc, Tryd.f8] | simp (maxSteps := 1000000) [hc, Tryd.f8]) <;> (try simp at hc) <;> (try (exfalso; first | omega | exact absurd hc (by assumption))))
    | (refine And.intro (by first | assumption | omega | (simp [BelL, Bel]; done) | (simp; omega)) ?_; try simp (maxSteps := 1000000) [Tryd.f8])
    | (refine okC_or ?_; simp (maxSteps := 1000000) [Tryd.f8])
  have hex := encodeF x (by omega) hx
  have hey := encodeF y (by omega) hy
  have hbx := encL_len hx
  have hby := encL_len hy
  have hxy : ∀ v ∈ x ++ y, VOk v := fun v hv => (List.mem_append.1 hv).elim (hx v) (hy v)
  have hexy := encodeF (x ++ y) (by simp; omega) hxy
  have happ := encL_app x y
  have hbxy := encL_len hxy
  rw [List.length_append] at hbxy
  have hD := decodeF hvalid (encL (x ++ y)) (encL_bytes hxy) (by omega)
  have hS := sameVals (G := utfG) (x ++ y) (by simp; omega)
  have hN := sameN (G := utfG) (encL (x ++ y)) (by omega)
  have hlx := vas_len x
  have hly := vas_len y
  have hfl : (x ++ y).flatMap vaC = x.flatMap vaC ++ y.flatMap vaC := List.flatMap_append ..
  have hcx : List.take (x.length * 3) (x.flatMap vaC) = x.flatMap vaC := List.take_of_length_le (by omega)
  have hcy : List.take (y.length * 3) (y.flatMap vaC) = y.flatMap vaC := List.take_of_length_le (by omega)
  have hlfl : (x.flatMap vaC ++ y.flatMap vaC).length = (x.length + y.length) * 3 := by rw [List.length_append, hlx, hly]; omega
  have hcl : List.take ((x.length + y.length) * 3) (x.flatMap vaC ++ y.flatMap vaC) = x.flatMap vaC ++ y.flatMap vaC := List.take_of_length_le (by omega)
  have hcl2 : List.take (x.length * 3 + y.length * 3) (x.flatMap vaC ++ y.flatMap vaC) = x.flatMap vaC ++ y.flatMap vaC := List.take_of_length_le (by omega)
  have hcN : List.take ((encL x).length + (encL y).length) (cellsL (encL x) ++ cellsL (encL y)) = cellsL (encL x) ++ cellsL (encL y) := List.take_of_length_le (by simp)
  have hcNx : List.take (encL x).length (cellsL (encL x)) = cellsL (encL x) := List.take_of_length_le (by simp)
  have hcNy : List.take (encL y).length (cellsL (encL y)) = cellsL (encL y) := List.take_of_length_le (by simp)
  have hNr : natsD (encL (x ++ y)) = .sl false (cellsL (encL x) ++ cellsL (encL y)) ((encL x).length + (encL y).length) := by rw [happ, natsD, cellsL_append, List.length_append]
  rw [hNr] at hN hD hexy
  have hbv := belL_app (belL_vas 0 x) (belL_vas 0 y)
  have hbn := belL_app (belL_cells 0 (encL x)) (belL_cells 0 (encL y))
  have hvD : vasD (x ++ y) = .sl false (x.flatMap vaC ++ y.flatMap vaC) (x.length + y.length) := by rw [vasD, hfl, List.length_append]
  rw [hvD] at hexy hS
  repeat' first
    | refine jw_ret (hQ _ _ (.inr rfl) ⟨5, _, _, rfl, rfl, ?_⟩)
    | refine jw_ret (hQ _ _ (.inr rfl) ⟨_, rfl, ?_⟩)
    | refine jw_seq_k fun K hK => ?_
    | refine jw_block ?_
    | (refine jw_skip ?_; try simp)
    | (refine jw_exit ?_; try simp)
    | (refine jw_cond rfl (fun hc => ?_) (fun hc => ?_) <;> (try simp at hc) <;> (try (exfalso; first | omega | exact absurd hc (by assumption))))
    | (refine jw_c ?_; simp (maxSteps := 1000000) [vasD, okCell, hlx, hly, hcx, hcy, show x.length * 3 ≤ 140737488355328 by omega, show x.length * 3 + y.length * 3 ≤ 140737488355328 by omega])
    | (refine jw_draw_j mixed (by kernel_rfl) ?_; simp (maxSteps := 1000000) [vasD, okCell, hlx, hly, hcx, hcy, show x.length * 3 ≤ 140737488355328 by omega, show x.length * 3 + y.length * 3 ≤ 140737488355328 by omega])
    | (first | (apply hK; clear hK) | (clear hK; apply hK; clear hK) | (clear hK; clear hK; apply hK; clear hK) | (clear hK; clear hK; clear hK; apply hK; clear hK))
    | exact hQ _ _ (.inl rfl) ⟨5, _, _, rfl, rfl, rfl⟩
    | refine hQ _ _ (.inl rfl) ⟨5, _, _, rfl, rfl, ?_⟩
    | refine hQ _ _ (.inl rfl) ⟨_, rfl, ?_⟩
    | (refine jl_call (f := 21) rfl rfl rfl rfl rfl (hex) (by simp [BelL, Bel]) ?_; rintro r rfl; simp (maxSteps := 1000000) [vasD, okCell, hlx, hly, hcx, hcy, show x.length * 3 ≤ 140737488355328 by omega, show x.length * 3 + y.length * 3 ≤ 140737488355328 by omega])
    | (refine jd_call (f := 21) rfl rfl rfl rfl rfl (hex) (by simp [BelL, Bel]) ?_; simp (maxSteps := 1000000) [vasD, okCell, hlx, hly, hcx, hcy, show x.length * 3 ≤ 140737488355328 by omega, show x.length * 3 + y.length * 3 ≤ 140737488355328 by omega])
    | (refine jl_call (f := 21) rfl rfl rfl rfl rfl (hey) (by simp [BelL, Bel]) ?_; rintro r rfl; simp (maxSteps := 1000000) [vasD, okCell, hlx, hly, hcx, hcy, show x.length * 3 ≤ 140737488355328 by omega, show x.length * 3 + y.length * 3 ≤ 140737488355328 by omega])
    | (refine jd_call (f := 21) rfl rfl rfl rfl rfl (hey) (by simp [BelL, Bel]) ?_; simp (maxSteps := 1000000) [vasD, okCell, hlx, hly, hcx, hcy, show x.length * 3 ≤ 140737488355328 by omega, show x.length * 3 + y.length * 3 ≤ 140737488355328 by omega])
    | (refine jd_newc rfl rfl (by simp) ?_; simp (maxSteps := 1000000) [thD, thL, vasD, okCell, hlx, hly, hcx, hcy, show x.length * 3 ≤ 140737488355328 by omega, show x.length * 3 + y.length * 3 ≤ 140737488355328 by omega])
    | (refine okN_or ?_; simp (maxSteps := 1000000) [thD, thL, vasD, okCell, hlx, hly, hcx, hcy, show x.length * 3 ≤ 140737488355328 by omega, show x.length * 3 + y.length * 3 ≤ 140737488355328 by omega])
    | (refine okC_guard (fun hc => ?_) (fun hc => ?_) <;> (first | simp (maxSteps := 1000000) [hc, of_decide_eq_true hc, vasD, okCell, hlx, hly, hcx, hcy, show x.length * 3 ≤ 140737488355328 by omega, show x.length * 3 + y.length * 3 ≤ 140737488355328 by omega] | simp (maxSteps := 1000000) [hc, of_decide_eq_false hc, vasD, okCell, hlx, hly, hcx, hcy, show x.length * 3 ≤ 140737488355328 by omega, show x.length * 3 + y.length * 3 ≤ 140737488355328 by omega] | simp (maxSteps := 1000000) [hc, vasD, okCell, hlx, hly, hcx, hcy, show x.length * 3 ≤ 140737488355328 by omega, show x.length * 3 + y.length * 3 ≤ 140737488355328 by omega]) <;> (try simp at hc) <;> (try (exfalso; first | omega | exact absurd hc (by assumption))))
    | (refine okJ_guard (fun hc => ?_) (fun hc => ?_) <;> (first | simp (maxSteps := 1000000) [hc, of_decide_eq_true hc, vasD, okCell, hlx, hly, hcx, hcy, show x.length * 3 ≤ 140737488355328 by omega, show x.length * 3 + y.length * 3 ≤ 140737488355328 by omega] | simp (maxSteps := 1000000) [hc, of_decide_eq_false hc, vasD, okCell, hlx, hly, hcx, hcy, show x.length * 3 ≤ 140737488355328 by omega, show x.length * 3 + y.length * 3 ≤ 140737488355328 by omega] | simp (maxSteps := 1000000) [hc, vasD, okCell, hlx, hly, hcx, hcy, show x.length * 3 ≤ 140737488355328 by omega, show x.length * 3 + y.length * 3 ≤ 140737488355328 by omega]) <;> (try simp at hc) <;> (try (exfalso; first | omega | exact absurd hc (by assumption))))
    | (refine And.intro (by first | assumption | omega | (simp [BelL, Bel]; done) | (simp; omega)) ?_; try simp (maxSteps := 1000000) [vasD, okCell, hlx, hly, hcx, hcy, show x.length * 3 ≤ 140737488355328 by omega, show x.length * 3 + y.length * 3 ≤ 140737488355328 by omega])
    | (refine okC_or ?_; simp (maxSteps := 1000000) [vasD, okCell, hlx, hly, hcx, hcy, show x.length * 3 ≤ 140737488355328 by omega, show x.length * 3 + y.length * 3 ≤ 140737488355328 by omega])
  (refine jl_view (view_frz 0 _ rfl (by simp [BelL, Bel, hlx, hly, hcl, hcl2, thL_app, thL_flat, hbv, thD_nats, thD_rws, show (x.length + y.length) * 3 ≤ x.length * 3 + y.length * 3 by omega])) ?_; simp (maxSteps := 1000000) [thL, thD, thS, thOb, hlx, hly, hcl, hcl2, thL_app, thL_flat, hbv, thD_nats, thD_rws, show (x.length + y.length) * 3 ≤ x.length * 3 + y.length * 3 by omega])
  repeat' first
    | refine jw_ret (hQ _ _ (.inr rfl) ⟨5, _, _, rfl, rfl, ?_⟩)
    | refine jw_ret (hQ _ _ (.inr rfl) ⟨_, rfl, ?_⟩)
    | refine jw_seq_k fun K hK => ?_
    | refine jw_block ?_
    | (refine jw_skip ?_; try simp)
    | (refine jw_exit ?_; try simp)
    | (refine jw_cond rfl (fun hc => ?_) (fun hc => ?_) <;> (try simp at hc) <;> (try (exfalso; first | omega | exact absurd hc (by assumption))))
    | (refine jw_c ?_; simp (maxSteps := 1000000) [natsD, okCell, hcNx, hcNy, show (encL x).length ≤ 140737488355328 by omega, show (encL x).length + (encL y).length ≤ 140737488355328 by omega])
    | (refine jw_draw_j mixed (by kernel_rfl) ?_; simp (maxSteps := 1000000) [natsD, okCell, hcNx, hcNy, show (encL x).length ≤ 140737488355328 by omega, show (encL x).length + (encL y).length ≤ 140737488355328 by omega])
    | (first | (apply hK; clear hK) | (clear hK; apply hK; clear hK) | (clear hK; clear hK; apply hK; clear hK) | (clear hK; clear hK; clear hK; apply hK; clear hK))
    | exact hQ _ _ (.inl rfl) ⟨5, _, _, rfl, rfl, rfl⟩
    | refine hQ _ _ (.inl rfl) ⟨5, _, _, rfl, rfl, ?_⟩
    | refine hQ _ _ (.inl rfl) ⟨_, rfl, ?_⟩
    | (refine jl_call (f := 21) rfl rfl rfl rfl rfl (hexy) (by simp [BelL, Bel]) ?_; rintro r rfl; simp (maxSteps := 1000000) [natsD, okCell, hcNx, hcNy, show (encL x).length ≤ 140737488355328 by omega, show (encL x).length + (encL y).length ≤ 140737488355328 by omega])
    | (refine jd_call (f := 21) rfl rfl rfl rfl rfl (hexy) (by simp [BelL, Bel]) ?_; simp (maxSteps := 1000000) [natsD, okCell, hcNx, hcNy, show (encL x).length ≤ 140737488355328 by omega, show (encL x).length + (encL y).length ≤ 140737488355328 by omega])
    | (refine jd_newc rfl rfl (by simp) ?_; simp (maxSteps := 1000000) [thD, thL, natsD, okCell, hcNx, hcNy, show (encL x).length ≤ 140737488355328 by omega, show (encL x).length + (encL y).length ≤ 140737488355328 by omega])
    | (refine okN_or ?_; simp (maxSteps := 1000000) [thD, thL, natsD, okCell, hcNx, hcNy, show (encL x).length ≤ 140737488355328 by omega, show (encL x).length + (encL y).length ≤ 140737488355328 by omega])
    | (refine okC_guard (fun hc => ?_) (fun hc => ?_) <;> (first | simp (maxSteps := 1000000) [hc, of_decide_eq_true hc, natsD, okCell, hcNx, hcNy, show (encL x).length ≤ 140737488355328 by omega, show (encL x).length + (encL y).length ≤ 140737488355328 by omega] | simp (maxSteps := 1000000) [hc, of_decide_eq_false hc, natsD, okCell, hcNx, hcNy, show (encL x).length ≤ 140737488355328 by omega, show (encL x).length + (encL y).length ≤ 140737488355328 by omega] | simp (maxSteps := 1000000) [hc, natsD, okCell, hcNx, hcNy, show (encL x).length ≤ 140737488355328 by omega, show (encL x).length + (encL y).length ≤ 140737488355328 by omega]) <;> (try simp at hc) <;> (try (exfalso; first | omega | exact absurd hc (by assumption))))
    | (refine okJ_guard (fun hc => ?_) (fun hc => ?_) <;> (first | simp (maxSteps := 1000000) [hc, of_decide_eq_true hc, natsD, okCell, hcNx, hcNy, show (encL x).length ≤ 140737488355328 by omega, show (encL x).length + (encL y).length ≤ 140737488355328 by omega] | simp (maxSteps := 1000000) [hc, of_decide_eq_false hc, natsD, okCell, hcNx, hcNy, show (encL x).length ≤ 140737488355328 by omega, show (encL x).length + (encL y).length ≤ 140737488355328 by omega] | simp (maxSteps := 1000000) [hc, natsD, okCell, hcNx, hcNy, show (encL x).length ≤ 140737488355328 by omega, show (encL x).length + (encL y).length ≤ 140737488355328 by omega]) <;> (try simp at hc) <;> (try (exfalso; first | omega | exact absurd hc (by assumption))))
    | (refine And.intro (by first | assumption | omega | (simp [BelL, Bel]; done) | (simp; omega)) ?_; try simp (maxSteps := 1000000) [natsD, okCell, hcNx, hcNy, show (encL x).length ≤ 140737488355328 by omega, show (encL x).length + (encL y).length ≤ 140737488355328 by omega])
    | (refine okC_or ?_; simp (maxSteps := 1000000) [natsD, okCell, hcNx, hcNy, show (encL x).length ≤ 140737488355328 by omega, show (encL x).length + (encL y).length ≤ 140737488355328 by omega])
  (refine jl_view (view_frz 1 _ rfl (by simp [BelL, Bel, hcN, thL_app, thL_flat, hbn, thD_nats, thD_rws, hbv])) ?_; simp (maxSteps := 1000000) [thL, thD, thS, thOb, hcN, thL_app, thL_flat, hbn, thD_nats, thD_rws, hbv])
  repeat' first
    | refine jw_ret (hQ _ _ (.inr rfl) ⟨5, _, _, rfl, rfl, ?_⟩)
    | refine jw_ret (hQ _ _ (.inr rfl) ⟨_, rfl, ?_⟩)
    | refine jw_seq_k fun K hK => ?_
    | refine jw_block ?_
    | (refine jw_skip ?_; try simp)
    | (refine jw_exit ?_; try simp)
    | (refine jw_cond rfl (fun hc => ?_) (fun hc => ?_) <;> (try simp at hc) <;> (try (exfalso; first | omega | exact absurd hc (by assumption))))
    | ((fail_if_success (refine jw_c (id := 9) ?_)); (refine jw_c ?_; simp (maxSteps := 1000000) [natsD]))
    | ((fail_if_success (refine jw_draw_j (id := 9) mixed (by kernel_rfl) ?_)); (refine jw_draw_j mixed (by kernel_rfl) ?_; simp (maxSteps := 1000000) [natsD]))
    | (first | (apply hK; clear hK) | (clear hK; apply hK; clear hK) | (clear hK; clear hK; apply hK; clear hK) | (clear hK; clear hK; clear hK; apply hK; clear hK))
    | exact hQ _ _ (.inl rfl) ⟨5, _, _, rfl, rfl, rfl⟩
    | refine hQ _ _ (.inl rfl) ⟨5, _, _, rfl, rfl, ?_⟩
    | refine hQ _ _ (.inl rfl) ⟨_, rfl, ?_⟩
    | (refine jl_call (f := 17) rfl rfl rfl rfl rfl (hN) (by simp [BelL, Bel]) ?_; rintro r rfl; simp (maxSteps := 1000000) [natsD])
    | (refine jd_call (f := 17) rfl rfl rfl rfl rfl (hN) (by simp [BelL, Bel]) ?_; simp (maxSteps := 1000000) [natsD])
    | (refine jl_call (f := 22) rfl rfl rfl rfl rfl (hD) (by simp [BelL, Bel]) ?_; rintro r ⟨dd, q, c, hR, rfl⟩; simp (maxSteps := 1000000) [natsD])
    | (refine jd_newc rfl rfl (by simp) ?_; simp (maxSteps := 1000000) [thD, thL, natsD])
    | (refine okN_or ?_; simp (maxSteps := 1000000) [thD, thL, natsD])
    | (refine okC_guard (fun hc => ?_) (fun hc => ?_) <;> (first | simp (maxSteps := 1000000) [hc, of_decide_eq_true hc, natsD] | simp (maxSteps := 1000000) [hc, of_decide_eq_false hc, natsD] | simp (maxSteps := 1000000) [hc, natsD]) <;> (try simp at hc) <;> (try (exfalso; first | omega | exact absurd hc (by assumption))))
    | (refine okJ_guard (fun hc => ?_) (fun hc => ?_) <;> (first | simp (maxSteps := 1000000) [hc, of_decide_eq_true hc, natsD] | simp (maxSteps := 1000000) [hc, of_decide_eq_false hc, natsD] | simp (maxSteps := 1000000) [hc, natsD]) <;> (try simp at hc) <;> (try (exfalso; first | omega | exact absurd hc (by assumption))))
    | (refine And.intro (by first | assumption | omega | (simp [BelL, Bel]; done) | (simp; omega)) ?_; try simp (maxSteps := 1000000) [natsD])
    | (refine okC_or ?_; simp (maxSteps := 1000000) [natsD])
  rw [← hNr] at *
  obtain ⟨rfl, rfl, rfl⟩ := dec_self hxy (by simp; omega) hR
  repeat' first
    | refine jw_ret (hQ _ _ (.inr rfl) ⟨5, _, _, rfl, rfl, ?_⟩)
    | refine jw_ret (hQ _ _ (.inr rfl) ⟨_, rfl, ?_⟩)
    | refine jw_seq_k fun K hK => ?_
    | refine jw_block ?_
    | (refine jw_skip ?_; try simp)
    | (refine jw_exit ?_; try simp)
    | (refine jw_cond rfl (fun hc => ?_) (fun hc => ?_) <;> (try simp at hc) <;> (try (exfalso; first | omega | exact absurd hc (by assumption))))
    | (refine jw_c ?_; simp (maxSteps := 1000000) [hvD, okCell, hlx, hly, hcx, hcy, show x.length * 3 ≤ 140737488355328 by omega, show x.length * 3 + y.length * 3 ≤ 140737488355328 by omega])
    | (refine jw_draw_j mixed (by kernel_rfl) ?_; simp (maxSteps := 1000000) [hvD, okCell, hlx, hly, hcx, hcy, show x.length * 3 ≤ 140737488355328 by omega, show x.length * 3 + y.length * 3 ≤ 140737488355328 by omega])
    | (first | (apply hK; clear hK) | (clear hK; apply hK; clear hK) | (clear hK; clear hK; apply hK; clear hK) | (clear hK; clear hK; clear hK; apply hK; clear hK))
    | exact hQ _ _ (.inl rfl) ⟨5, _, _, rfl, rfl, rfl⟩
    | refine hQ _ _ (.inl rfl) ⟨5, _, _, rfl, rfl, ?_⟩
    | refine hQ _ _ (.inl rfl) ⟨_, rfl, ?_⟩
    | (refine jd_newc rfl rfl (by simp) ?_; simp (maxSteps := 1000000) [thD, thL, hvD, okCell, hlx, hly, hcx, hcy, show x.length * 3 ≤ 140737488355328 by omega, show x.length * 3 + y.length * 3 ≤ 140737488355328 by omega])
    | (refine okN_or ?_; simp (maxSteps := 1000000) [thD, thL, hvD, okCell, hlx, hly, hcx, hcy, show x.length * 3 ≤ 140737488355328 by omega, show x.length * 3 + y.length * 3 ≤ 140737488355328 by omega])
    | (refine okC_guard (fun hc => ?_) (fun hc => ?_) <;> (first | simp (maxSteps := 1000000) [hc, of_decide_eq_true hc, hvD, okCell, hlx, hly, hcx, hcy, show x.length * 3 ≤ 140737488355328 by omega, show x.length * 3 + y.length * 3 ≤ 140737488355328 by omega] | simp (maxSteps := 1000000) [hc, of_decide_eq_false hc, hvD, okCell, hlx, hly, hcx, hcy, show x.length * 3 ≤ 140737488355328 by omega, show x.length * 3 + y.length * 3 ≤ 140737488355328 by omega] | simp (maxSteps := 1000000) [hc, hvD, okCell, hlx, hly, hcx, hcy, show x.length * 3 ≤ 140737488355328 by omega, show x.length * 3 + y.length * 3 ≤ 140737488355328 by omega]) <;> (try simp at hc) <;> (try (exfalso; first | omega | exact absurd hc (by assumption))))
    | (refine okJ_guard (fun hc => ?_) (fun hc => ?_) <;> (first | simp (maxSteps := 1000000) [hc, of_decide_eq_true hc, hvD, okCell, hlx, hly, hcx, hcy, show x.length * 3 ≤ 140737488355328 by omega, show x.length * 3 + y.length * 3 ≤ 140737488355328 by omega] | simp (maxSteps := 1000000) [hc, of_decide_eq_false hc, hvD, okCell, hlx, hly, hcx, hcy, show x.length * 3 ≤ 140737488355328 by omega, show x.length * 3 + y.length * 3 ≤ 140737488355328 by omega] | simp (maxSteps := 1000000) [hc, hvD, okCell, hlx, hly, hcx, hcy, show x.length * 3 ≤ 140737488355328 by omega, show x.length * 3 + y.length * 3 ≤ 140737488355328 by omega]) <;> (try simp at hc) <;> (try (exfalso; first | omega | exact absurd hc (by assumption))))
    | (refine And.intro (by first | assumption | omega | (simp [BelL, Bel]; done) | (simp; omega)) ?_; try simp (maxSteps := 1000000) [hvD, okCell, hlx, hly, hcx, hcy, show x.length * 3 ≤ 140737488355328 by omega, show x.length * 3 + y.length * 3 ≤ 140737488355328 by omega])
    | (refine okC_or ?_; simp (maxSteps := 1000000) [hvD, okCell, hlx, hly, hcx, hcy, show x.length * 3 ≤ 140737488355328 by omega, show x.length * 3 + y.length * 3 ≤ 140737488355328 by omega])
  (refine jl_view (view_frz 2 _ rfl (by simp [BelL, Bel, hlx, hly, hcl, hcl2, thL_app, thL_flat, hbv, thD_nats, thD_rws, show (x.length + y.length) * 3 ≤ x.length * 3 + y.length * 3 by omega])) ?_; simp (maxSteps := 1000000) [thL, thD, thS, thOb, hlx, hly, hcl, hcl2, thL_app, thL_flat, hbv, thD_nats, thD_rws, show (x.length + y.length) * 3 ≤ x.length * 3 + y.length * 3 by omega])
  repeat' first
    | refine jw_seq_k fun K hK => ?_
    | refine jw_block ?_
    | (refine jw_skip ?_; try simp)
    | (refine jw_exit ?_; try simp)
    | (refine jw_cond rfl (fun hc => ?_) (fun hc => ?_) <;> (try simp at hc) <;> (try (exfalso; first | omega | exact absurd hc (by assumption))))
    | (refine jw_c ?_; simp (maxSteps := 1000000) [natsD])
    | (refine jw_draw_j mixed (by kernel_rfl) ?_; simp (maxSteps := 1000000) [natsD])
    | (first | (apply hK; clear hK) | (clear hK; apply hK; clear hK) | (clear hK; clear hK; apply hK; clear hK) | (clear hK; clear hK; clear hK; apply hK; clear hK))
    | (refine jl_call (f := 23) rfl rfl rfl rfl rfl (hS) (by simp [BelL, Bel]) ?_; rintro r rfl; simp (maxSteps := 1000000) [natsD])
    | (refine jd_call (f := 23) rfl rfl rfl rfl rfl (hS) (by simp [BelL, Bel]) ?_; simp (maxSteps := 1000000) [natsD])
    | (refine jw_ret (hQ _ _ (.inr rfl) (ret_ok 0 ?_ (by first | omega | simp))); simp (maxSteps := 1000000) [okRet, BelL, Bel, BelS, BelOb, natsD])
    | (refine hQ _ _ (.inl rfl) (ret_ok 0 ?_ (by first | omega | simp)); simp (maxSteps := 1000000) [okRet, BelL, Bel, BelS, BelOb, natsD])
    | (refine jd_newc rfl rfl (by simp) ?_; simp (maxSteps := 1000000) [thD, thL, natsD])
    | (refine okN_or ?_; simp (maxSteps := 1000000) [thD, thL, natsD])
    | (refine okC_guard (fun hc => ?_) (fun hc => ?_) <;> (first | simp (maxSteps := 1000000) [hc, of_decide_eq_true hc, natsD] | simp (maxSteps := 1000000) [hc, of_decide_eq_false hc, natsD] | simp (maxSteps := 1000000) [hc, natsD]) <;> (try simp at hc) <;> (try (exfalso; first | omega | exact absurd hc (by assumption))))
    | (refine okJ_guard (fun hc => ?_) (fun hc => ?_) <;> (first | simp (maxSteps := 1000000) [hc, of_decide_eq_true hc, natsD] | simp (maxSteps := 1000000) [hc, of_decide_eq_false hc, natsD] | simp (maxSteps := 1000000) [hc, natsD]) <;> (try simp at hc) <;> (try (exfalso; first | omega | exact absurd hc (by assumption))))
    | (refine And.intro (by first | assumption | omega | (simp [BelL, Bel]; done) | (simp; omega)) ?_; try simp (maxSteps := 1000000) [natsD])
    | (refine okC_or ?_; simp (maxSteps := 1000000) [natsD])
theorem keyBack (ls : List (List D)) (hr : Vm.Rows (Parts RawP) ls) (hz : ls.length * 32 ≤ 140737488351232) (_ : ls.length ≤ 9223372036854775807) (ms : List (List D)) (hr2 : Vm.Rows (Parts RawP) ms) (hz2 : ms.length * 32 ≤ 140737488351232) (_ : ms.length ≤ 9223372036854775807) :
    FV Tryd.prog utfG 8 [.sl false ls.flatten ls.length, .sl false ms.flatten ms.length] (fun r => r = .bool true) := by
  obtain ⟨l, h1, h2, h3⟩ := rws_of hr
  obtain ⟨k, g1, g2, g3⟩ := rws_of hr2
  rw [h2, h3, g2, g3]
  exact keyBackW hvalid l k (by omega) h1 (by omega) g1
end Go.Proofs.YtkjndbfinpfjfaaDoor
