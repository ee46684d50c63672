/- intent.Encode of what may be: the walk. -/
import Derived.Test.YthaidogcgjnhcaaIntentEnc
set_option linter.unusedVariables false
set_option linter.unusedSimpArgs false
set_option maxRecDepth 20000
set_option maxHeartbeats 20000000
namespace Go.Proofs.Ythaidogcgjnhcaa
open Go Go.Vm Go.Proofs

theorem flat_le {α : Type} {f : α → List Int} {z : Nat} : ∀ {l : List α}, (∀ a ∈ l, (f a).length ≤ z) → (l.flatMap f).length ≤ l.length * z
  | [], _ => by simp
  | a :: l, h => by
    have h1 := h a (by simp)
    have h2 := flat_le (l := l) fun b hb => h b (by simp [hb])
    rw [List.flatMap_cons, List.length_append, List.length_cons, Nat.add_mul, Nat.one_mul]
    omega
theorem wrOk_len {ws : List Wr} (h : (List.range ws.length).all (wrOkB ws) = true) : ∀ w ∈ ws, w.key.length ≤ 1200 ∧ w.val.length ≤ 4000 := by
  intro w hw
  obtain ⟨i, hi, rfl⟩ := List.getElem_of_mem hw
  have h1 := List.all_eq_true.1 h i (List.mem_range.2 hi)
  unfold wrOkB at h1
  rw [List.getElem?_eq_getElem hi] at h1
  simp only [Bool.and_eq_true, decide_eq_true_eq] at h1
  exact ⟨h1.1.1.1.2, h1.1.1.2⟩
theorem cellsI_cons (x : Int) (l : List Int) : cellsI (x :: l) = D.int .u8 x :: cellsI l := rfl
def tapeAt (b : Nat) (L : List Int) : List D := [.ms b L.length 0 L.length 1, .bool false]
theorem take_flat {α : Type} (f : α → List Int) (l : List α) {i : Nat} (h : i < l.length) : (l.take (i + 1)).flatMap f = (l.take i).flatMap f ++ f l[i] := by
  rw [List.take_succ_eq_append_getElem h, List.flatMap_append]; simp

theorem encodeF {G : Globals} (x : It) (h : mayB x = true) : FV Try.prog G 9 [itD x] (fun r => r = if (encI x).length ≤ 4000 then .tup [bytesD (encI x), .int .i64 0] else .tup [.sl false [] 0, .int .i64 1]) := by
  have h0 := h
  simp only [mayB, numsOkB, Bool.and_eq_true, decide_eq_true_eq] at h0
  obtain ⟨⟨⟨⟨⟨⟨⟨⟨⟨n1, n2⟩, n3⟩, n4⟩, n5⟩, n6⟩, n7⟩, n8⟩, hr⟩, hw⟩ := h0
  have hm := mayF (G := G) x (by omega) (by omega)
  rw [h] at hm
  have hrl : ∀ r ∈ x.reads, r.low.length ≤ 1201 ∧ r.high.length ≤ 1201 := fun r hr' => by
    have := List.all_eq_true.1 hr r hr'
    simpa [rgOkB] using this
  have hwl := wrOk_len hw
  clear hr hw
  obtain ⟨c, n, b, rs, ws⟩ := x
  dsimp only at n1 n2 n3 n4 n5 n6 n7 n8 hrl hwl
  obtain ⟨c, rfl⟩ : ∃ m : Nat, c = m := ⟨c.toNat, by omega⟩
  obtain ⟨n, rfl⟩ : ∃ m : Nat, n = m := ⟨n.toNat, by omega⟩
  obtain ⟨b, rfl⟩ : ∃ m : Nat, b = m := ⟨b.toNat, by omega⟩
  unfold itD itC rgsD wrsD at hm
  dsimp only at hm
  refine fv_to ?_
  refine fv_enter_v Try.func9 rfl rfl fun Q hQ => ?_
  repeat' first
    | refine jw_ret (hQ _ _ (.inr rfl) ⟨5, _, _, rfl, rfl, ?_⟩)
    | refine jw_ret (hQ _ _ (.inr rfl) ⟨_, rfl, ?_⟩)
    | refine jw_seq_k fun K hK => ?_
    | refine jw_block ?_
    | (refine jw_skip ?_; try simp)
    | (refine jw_exit ?_; try simp)
    | (refine jw_cond rfl (fun hc => ?_) (fun hc => ?_) <;> (try simp at hc) <;> (try (exfalso; first | omega | exact absurd hc (by assumption))))
    | ((fail_if_success (refine jw_c (id := 1) ?_)); (refine jw_c ?_; simp (maxSteps := 1000000) [Try.f9, itD, itC, rgsD, wrsD]))
    | ((fail_if_success (refine jw_draw_j (id := 1) mixed (by kernel_rfl) ?_)); (refine jw_draw_j mixed (by kernel_rfl) ?_; simp (maxSteps := 1000000) [Try.f9, itD, itC, rgsD, wrsD]))
    | (first | (apply hK; clear hK) | (clear hK; apply hK; clear hK) | (clear hK; clear hK; apply hK; clear hK) | (clear hK; clear hK; clear hK; apply hK; clear hK))
    | exact hQ _ _ (.inl rfl) ⟨5, _, _, rfl, rfl, rfl⟩
    | refine hQ _ _ (.inl rfl) ⟨5, _, _, rfl, rfl, ?_⟩
    | refine hQ _ _ (.inl rfl) ⟨_, rfl, ?_⟩
    | (refine jd_newc rfl rfl (by simp) ?_; simp (maxSteps := 1000000) [thD, thL, Try.f9, itD, itC, rgsD, wrsD])
    | (refine okN_or ?_; simp (maxSteps := 1000000) [thD, thL, Try.f9, itD, itC, rgsD, wrsD])
    | (refine okC_guard (fun hc => ?_) (fun hc => ?_) <;> (first | simp (maxSteps := 1000000) [hc, of_decide_eq_true hc, Try.f9, itD, itC, rgsD, wrsD] | simp (maxSteps := 1000000) [hc, of_decide_eq_false hc, Try.f9, itD, itC, rgsD, wrsD] | simp (maxSteps := 1000000) [hc, Try.f9, itD, itC, rgsD, wrsD]) <;> (try simp at hc) <;> (try (exfalso; first | omega | exact absurd hc (by assumption))))
    | (refine okJ_guard (fun hc => ?_) (fun hc => ?_) <;> (first | simp (maxSteps := 1000000) [hc, of_decide_eq_true hc, Try.f9, itD, itC, rgsD, wrsD] | simp (maxSteps := 1000000) [hc, of_decide_eq_false hc, Try.f9, itD, itC, rgsD, wrsD] | simp (maxSteps := 1000000) [hc, Try.f9, itD, itC, rgsD, wrsD]) <;> (try simp at hc) <;> (try (exfalso; first | omega | exact absurd hc (by assumption))))
    | (refine And.intro (by first | assumption | omega | (simp [BelL, Bel]; done) | (simp; omega)) ?_; try simp (maxSteps := 1000000) [Try.f9, itD, itC, rgsD, wrsD])
    | (refine okC_or ?_; simp (maxSteps := 1000000) [Try.f9, itD, itC, rgsD, wrsD])
  (refine jw_view (view_frz 0 _ rfl (by simp [BelL, Bel])) ?_; simp (maxSteps := 1000000) [thL, thD, thS, thOb])
  repeat' first
    | refine jw_ret (hQ _ _ (.inr rfl) ⟨5, _, _, rfl, rfl, ?_⟩)
    | refine jw_ret (hQ _ _ (.inr rfl) ⟨_, rfl, ?_⟩)
    | refine jw_seq_k fun K hK => ?_
    | refine jw_block ?_
    | (refine jw_skip ?_; try simp)
    | (refine jw_exit ?_; try simp)
    | (refine jw_cond rfl (fun hc => ?_) (fun hc => ?_) <;> (try simp at hc) <;> (try (exfalso; first | omega | exact absurd hc (by assumption))))
    | (refine jw_c ?_; simp (maxSteps := 1000000))
    | (refine jw_draw_j mixed (by kernel_rfl) ?_; simp (maxSteps := 1000000))
    | (first | (apply hK; clear hK) | (clear hK; apply hK; clear hK) | (clear hK; clear hK; apply hK; clear hK) | (clear hK; clear hK; clear hK; apply hK; clear hK))
    | exact hQ _ _ (.inl rfl) ⟨5, _, _, rfl, rfl, rfl⟩
    | refine hQ _ _ (.inl rfl) ⟨5, _, _, rfl, rfl, ?_⟩
    | refine hQ _ _ (.inl rfl) ⟨_, rfl, ?_⟩
    | (refine jl_call (f := 7) rfl rfl rfl rfl rfl (hm) (by simp [BelL, Bel]) ?_; rintro r rfl; simp (maxSteps := 1000000))
    | (refine jd_call (f := 7) rfl rfl rfl rfl rfl (hm) (by simp [BelL, Bel]) ?_; simp (maxSteps := 1000000))
    | (refine jd_newc rfl rfl (by simp) ?_; simp (maxSteps := 1000000) [thD, thL])
    | (refine okN_or ?_; simp (maxSteps := 1000000) [thD, thL])
    | (refine okC_guard (fun hc => ?_) (fun hc => ?_) <;> (first | simp (maxSteps := 1000000) [hc, of_decide_eq_true hc] | simp (maxSteps := 1000000) [hc, of_decide_eq_false hc] | simp (maxSteps := 1000000) [hc]) <;> (try simp at hc) <;> (try (exfalso; first | omega | exact absurd hc (by assumption))))
    | (refine okJ_guard (fun hc => ?_) (fun hc => ?_) <;> (first | simp (maxSteps := 1000000) [hc, of_decide_eq_true hc] | simp (maxSteps := 1000000) [hc, of_decide_eq_false hc] | simp (maxSteps := 1000000) [hc]) <;> (try simp at hc) <;> (try (exfalso; first | omega | exact absurd hc (by assumption))))
    | (refine And.intro (by first | assumption | omega | (simp [BelL, Bel]; done) | (simp; omega)) ?_; try simp (maxSteps := 1000000))
    | (refine okC_or ?_; simp (maxSteps := 1000000))
  (refine jw_view (view_frz 2 _ rfl (by simp [BelL, Bel, thL_flat, thD_flat])) ?_; simp (maxSteps := 1000000) [thL, thD, thS, thOb, thL_flat, thD_flat])
  obtain ⟨N, hN⟩ : ∃ N : List Nat, [c, n, b, rs.length] = N := ⟨_, rfl⟩
  have hNl : N.length = 4 := by rw [← hN]; rfl
  have hNb : ∀ y ∈ N, y ≤ 1048576 := by rw [← hN]; simp; omega
  have hNm : [D.int .i64 (c : Int), D.int .i64 (n : Int), D.int .i64 (b : Int), D.int .i64 (rs.length : Int)] = N.map fun m : Nat => D.int .i64 (m : Int) := by rw [← hN]; rfl
  have hNe : N.flatMap numB = headB c n b rs.length := by rw [← hN]; simp [headB]
  rw [hNm]
  have hn4 : ∀ l : List Nat, (l.flatMap numB).length = l.length * 4 := fun l => by
    induction l with
    | nil => rfl
    | cons a l ih => rw [List.flatMap_cons, List.length_append, ih]; simp [numB]; omega
  refine jw_loop_v (fun m z => ∃ (i : Nat), (i ≤ 4) ∧ 4 - i = m ∧ z = ⟨[.any, .ref [.int .i64 c, .int .i64 n, .int .i64 b, rgsD rs, wrsD ws], .any, .any, .ptr 1 2 0] ++ List.replicate 18 .any ++ [.sl false (N.map fun m : Nat => D.int .i64 (m : Int)) 4, .int .i64 4, .int .i64 i] ++ List.replicate 56 .any, [none, some (.c (tapeAt 3 ((N.take i).flatMap numB))), none, some (.c (cellsI ((N.take i).flatMap numB)))]⟩) ⟨[.any, .ref [.int .i64 c, .int .i64 n, .int .i64 b, rgsD rs, wrsD ws], .any, .any, .ptr 1 2 0] ++ List.replicate 18 .any ++ [.sl false (N.map fun m : Nat => D.int .i64 (m : Int)) 4, .int .i64 4, .int .i64 (0)] ++ List.replicate 56 .any, [none, some (.c (tapeAt 3 ((N.take (0)).flatMap numB))), none, some (.c (cellsI ((N.take (0)).flatMap numB)))]⟩ ((view_nilc 1 0 1 rfl rfl).trans (view_takeE (sl := [.any, .ref [.int .i64 c, .int .i64 n, .int .i64 b, rgsD rs, wrsD ws], .any, .any, .ptr 1 2 0] ++ List.replicate 18 .any ++ [.sl false (N.map fun m : Nat => D.int .i64 (m : Int)) 4, .int .i64 4, .int .i64 (0)] ++ List.replicate 56 .any) (σ0 := [none, some (.c (tapeAt 3 ((N.take (0)).flatMap numB))), none, some (.c (cellsI ((N.take (0)).flatMap numB)))]) 4 (by simp [rgsD, wrsD, tapeAt, show cellsI [] = [] from rfl, thL, thD, thS, thOb]) (by first | omega | simp) (by first | omega | (simp [rgsD, wrsD, tapeAt, show cellsI [] = [] from rfl, thL, thD, thS, thOb]; done) | (simp [rgsD, wrsD, tapeAt, show cellsI [] = [] from rfl, thL, thD, thS, thOb]; omega)) (by first | exact LewS.refl _ | simp [rgsD, wrsD, tapeAt, show cellsI [] = [] from rfl, thL, thD, thS, thOb]) (by simp [BelL, Bel, thL, thD, thS, thOb, rgsD, wrsD, tapeAt, show cellsI [] = [] from rfl]) (by simp [BelS, BelOb, BelL, Bel, thL, thD, thS, thOb, rgsD, wrsD, tapeAt, show cellsI [] = [] from rfl]))) ⟨(0), ?_, rfl, rfl⟩ ?_
  rotate_left
  rintro m z ⟨i, hA, rfl, rfl⟩ KA hKA
  · have hw := wrap_i64 (n := (i : Int) + 1) (by omega) (by omega)
    have hLl := hn4 (N.take i)
    have hnx := take_flat numB N (i := i)
    generalize hLe : (N.take i).flatMap numB = L at *
    rw [List.length_take, hNl] at hLl
    have hcl := cellsI_len L
    by_cases hlt : i < 4
    · have hlt2 : i < N.length := by omega
      have hnx := hnx hlt2
      have hyb := hNb _ (List.getElem_mem hlt2)
      obtain ⟨y, hx⟩ : ∃ y, N[i] = y := ⟨_, rfl⟩
      rw [hx] at hnx hyb
      have hnum := numberF (G := G) L false (by omega) y (by omega)
      unfold tapeC at hnum
      repeat' first
        | refine jw_ret (hQ _ _ (.inr rfl) ⟨5, _, _, rfl, rfl, ?_⟩)
        | refine jw_ret (hQ _ _ (.inr rfl) ⟨_, rfl, ?_⟩)
        | refine jw_seq_k fun K hK => ?_
        | refine jw_block ?_
        | (refine jw_skip ?_; try simp)
        | (refine jw_exit ?_; try simp)
        | (refine jw_cond rfl (fun hc => ?_) (fun hc => ?_) <;> (try simp at hc) <;> (try (exfalso; first | omega | exact absurd hc (by assumption))))
        | (refine jw_c ?_; simp (maxSteps := 1000000) [hlt, hNl, hx, hw, tapeAt, show (i : Int) < 4 by omega])
        | (refine jw_draw_j mixed (by kernel_rfl) ?_; simp (maxSteps := 1000000) [hlt, hNl, hx, hw, tapeAt, show (i : Int) < 4 by omega])
        | (first | (apply hK; clear hK) | (clear hK; apply hK; clear hK) | (clear hK; clear hK; apply hK; clear hK) | (clear hK; clear hK; clear hK; apply hK; clear hK))
        | exact hQ _ _ (.inl rfl) ⟨5, _, _, rfl, rfl, rfl⟩
        | refine hQ _ _ (.inl rfl) ⟨5, _, _, rfl, rfl, ?_⟩
        | refine hQ _ _ (.inl rfl) ⟨_, rfl, ?_⟩
        | (refine jl_frs (f := 17) [1, 3] rfl rfl rfl rfl rfl (hnum) ?_ ?_ (by simp) (by simp) ?_ ?_ ?_; (focus (simp [rho, renS, renOb, renL, renD, renD_flat, renL_flat, renL_append, hlt, hNl, hx, hw, tapeAt, show (i : Int) < 4 by omega]; done)); (focus (simp [rho, renS, renOb, renL, renD, renD_flat, renL_flat, renL_append, hlt, hNl, hx, hw, tapeAt, show (i : Int) < 4 by omega]; done)); (focus (simp [BelL, Bel]; done)); (focus (simp [BelS, BelOb, BelL, Bel, hlt, hNl, hx, hw, tapeAt, show (i : Int) < 4 by omega]; done)); rintro d0 g ⟨rfl, rfl⟩; simp (maxSteps := 1000000) [glue, putAll, rho, renS, renOb, renL, renD, renD_flat, renL_flat, renL_append, hlt, hNl, hx, hw, tapeAt, show (i : Int) < 4 by omega])
        | (refine jd_newc rfl rfl (by simp) ?_; simp (maxSteps := 1000000) [thD, thL, hlt, hNl, hx, hw, tapeAt, show (i : Int) < 4 by omega])
        | (refine okN_or ?_; simp (maxSteps := 1000000) [thD, thL, hlt, hNl, hx, hw, tapeAt, show (i : Int) < 4 by omega])
        | (refine okC_guard (fun hc => ?_) (fun hc => ?_) <;> (first | simp (maxSteps := 1000000) [hc, of_decide_eq_true hc, hlt, hNl, hx, hw, tapeAt, show (i : Int) < 4 by omega] | simp (maxSteps := 1000000) [hc, of_decide_eq_false hc, hlt, hNl, hx, hw, tapeAt, show (i : Int) < 4 by omega] | simp (maxSteps := 1000000) [hc, hlt, hNl, hx, hw, tapeAt, show (i : Int) < 4 by omega]) <;> (try simp at hc) <;> (try (exfalso; first | omega | exact absurd hc (by assumption))))
        | (refine okJ_guard (fun hc => ?_) (fun hc => ?_) <;> (first | simp (maxSteps := 1000000) [hc, of_decide_eq_true hc, hlt, hNl, hx, hw, tapeAt, show (i : Int) < 4 by omega] | simp (maxSteps := 1000000) [hc, of_decide_eq_false hc, hlt, hNl, hx, hw, tapeAt, show (i : Int) < 4 by omega] | simp (maxSteps := 1000000) [hc, hlt, hNl, hx, hw, tapeAt, show (i : Int) < 4 by omega]) <;> (try simp at hc) <;> (try (exfalso; first | omega | exact absurd hc (by assumption))))
        | (refine And.intro (by first | assumption | omega | (simp [BelL, Bel]; done) | (simp; omega)) ?_; try simp (maxSteps := 1000000) [hlt, hNl, hx, hw, tapeAt, show (i : Int) < 4 by omega])
        | (refine okC_or ?_; simp (maxSteps := 1000000) [hlt, hNl, hx, hw, tapeAt, show (i : Int) < 4 by omega])
      refine hKA (4 - (i + 1)) _ ⟨[.any, .ref [.int .i64 c, .int .i64 n, .int .i64 b, rgsD rs, wrsD ws], .any, .any, .ptr 1 2 0] ++ List.replicate 18 .any ++ [.sl false (N.map fun m : Nat => D.int .i64 (m : Int)) 4, .int .i64 4, .int .i64 (i + 1)] ++ List.replicate 56 .any, [none, some (.c (tapeAt 3 ((N.take (i + 1)).flatMap numB))), none, some (.c (cellsI ((N.take (i + 1)).flatMap numB)))]⟩ (by omega) (view_takeE (sl := [.any, .ref [.int .i64 c, .int .i64 n, .int .i64 b, rgsD rs, wrsD ws], .any, .any, .ptr 1 2 0] ++ List.replicate 18 .any ++ [.sl false (N.map fun m : Nat => D.int .i64 (m : Int)) 4, .int .i64 4, .int .i64 (i + 1)] ++ List.replicate 56 .any) (σ0 := [none, some (.c (tapeAt 3 ((N.take (i + 1)).flatMap numB))), none, some (.c (cellsI ((N.take (i + 1)).flatMap numB)))]) 4 (by simp [hnx, rgsD, wrsD, tapeAt]) (by first | omega | simp) (by first | omega | (simp [hnx, rgsD, wrsD, tapeAt]; done) | (simp [hnx, rgsD, wrsD, tapeAt]; omega)) (by first | exact LewS.refl _ | simp [hnx, rgsD, wrsD, tapeAt]) (by simp [BelL, Bel, hnx, rgsD, wrsD, tapeAt]) (by simp [BelS, BelOb, BelL, Bel, hnx, rgsD, wrsD, tapeAt])) ⟨(i + 1), ?_, rfl, rfl⟩
      omega
    · obtain rfl : i = 4 := by omega
      have hLH : L = headB c n b rs.length := by rw [← hLe, List.take_of_length_le (by omega), hNe]
      have hL16 : L.length = 16 := by rw [hLl]; rfl
      clear hLe hnx hn4 hNb hNe hNm hLl
      have hB := flat_le (f := encR) (z := 2410) (l := rs) (fun r hr => by have := hrl r hr; simp [encR, textB, numB]; omega)
      repeat' first
        | refine jw_ret (hQ _ _ (.inr rfl) ⟨5, _, _, rfl, rfl, ?_⟩)
        | refine jw_ret (hQ _ _ (.inr rfl) ⟨_, rfl, ?_⟩)
        | refine jw_seq_k fun K hK => ?_
        | refine jw_block ?_
        | (refine jw_skip ?_; try simp)
        | (refine jw_exit ?_; try simp)
        | (refine jw_cond rfl (fun hc => ?_) (fun hc => ?_) <;> (try simp at hc) <;> (try (exfalso; first | omega | exact absurd hc (by assumption))))
        | (refine jw_c ?_; simp (maxSteps := 1000000) [hlt, tapeAt, rgsD, wrsD])
        | (refine jw_draw_j mixed (by kernel_rfl) ?_; simp (maxSteps := 1000000) [hlt, tapeAt, rgsD, wrsD])
        | (first | (apply hK; clear hK) | (clear hK; apply hK; clear hK) | (clear hK; clear hK; apply hK; clear hK) | (clear hK; clear hK; clear hK; apply hK; clear hK))
        | exact hQ _ _ (.inl rfl) ⟨5, _, _, rfl, rfl, rfl⟩
        | refine hQ _ _ (.inl rfl) ⟨5, _, _, rfl, rfl, ?_⟩
        | refine hQ _ _ (.inl rfl) ⟨_, rfl, ?_⟩
        | (refine jd_newc rfl rfl (by simp) ?_; simp (maxSteps := 1000000) [thD, thL, hlt, tapeAt, rgsD, wrsD])
        | (refine okN_or ?_; simp (maxSteps := 1000000) [thD, thL, hlt, tapeAt, rgsD, wrsD])
        | (refine okC_guard (fun hc => ?_) (fun hc => ?_) <;> (first | simp (maxSteps := 1000000) [hc, of_decide_eq_true hc, hlt, tapeAt, rgsD, wrsD] | simp (maxSteps := 1000000) [hc, of_decide_eq_false hc, hlt, tapeAt, rgsD, wrsD] | simp (maxSteps := 1000000) [hc, hlt, tapeAt, rgsD, wrsD]) <;> (try simp at hc) <;> (try (exfalso; first | omega | exact absurd hc (by assumption))))
        | (refine okJ_guard (fun hc => ?_) (fun hc => ?_) <;> (first | simp (maxSteps := 1000000) [hc, of_decide_eq_true hc, hlt, tapeAt, rgsD, wrsD] | simp (maxSteps := 1000000) [hc, of_decide_eq_false hc, hlt, tapeAt, rgsD, wrsD] | simp (maxSteps := 1000000) [hc, hlt, tapeAt, rgsD, wrsD]) <;> (try simp at hc) <;> (try (exfalso; first | omega | exact absurd hc (by assumption))))
        | (refine And.intro (by first | assumption | omega | (simp [BelL, Bel]; done) | (simp; omega)) ?_; try simp (maxSteps := 1000000) [hlt, tapeAt, rgsD, wrsD])
        | (refine okC_or ?_; simp (maxSteps := 1000000) [hlt, tapeAt, rgsD, wrsD])
      refine jw_loop_v (fun m z => ∃ (j : Nat), (j ≤ rs.length) ∧ rs.length - j = m ∧ z = ⟨[.any, .ref [.int .i64 c, .int .i64 n, .int .i64 b, rgsD rs, wrsD ws], .any, .any, .ptr 1 2 0] ++ List.replicate 28 .any ++ [rgsD rs, .int .i64 rs.length, .int .i64 j] ++ List.replicate 46 .any, [none, some (.c (tapeAt 3 (L ++ (rs.take j).flatMap encR))), none, some (.c (cellsI (L ++ (rs.take j).flatMap encR)))]⟩) ⟨[.any, .ref [.int .i64 c, .int .i64 n, .int .i64 b, rgsD rs, wrsD ws], .any, .any, .ptr 1 2 0] ++ List.replicate 28 .any ++ [rgsD rs, .int .i64 rs.length, .int .i64 (0)] ++ List.replicate 46 .any, [none, some (.c (tapeAt 3 (L ++ (rs.take (0)).flatMap encR))), none, some (.c (cellsI (L ++ (rs.take (0)).flatMap encR)))]⟩ (view_takeE (sl := [.any, .ref [.int .i64 c, .int .i64 n, .int .i64 b, rgsD rs, wrsD ws], .any, .any, .ptr 1 2 0] ++ List.replicate 28 .any ++ [rgsD rs, .int .i64 rs.length, .int .i64 (0)] ++ List.replicate 46 .any) (σ0 := [none, some (.c (tapeAt 3 (L ++ (rs.take (0)).flatMap encR))), none, some (.c (cellsI (L ++ (rs.take (0)).flatMap encR)))]) 4 (by simp [rgsD, wrsD, tapeAt]) (by first | omega | simp) (by first | omega | (simp [rgsD, wrsD, tapeAt]; done) | (simp [rgsD, wrsD, tapeAt]; omega)) (by first | exact LewS.refl _ | simp [rgsD, wrsD, tapeAt]) (by simp [BelL, Bel, rgsD, wrsD, tapeAt]) (by simp [BelS, BelOb, BelL, Bel, rgsD, wrsD, tapeAt])) ⟨(0), ?_, rfl, rfl⟩ ?_
      rotate_left
      rintro m z ⟨j, hB, rfl, rfl⟩ KB hKB
      · have hw := wrap_i64 (n := (j : Int) + 1) (by omega) (by omega)
        have hBj := flat_le (f := encR) (z := 2410) (l := rs.take j) (fun r hr => by have := hrl r (List.mem_of_mem_take hr); simp [encR, textB, numB]; omega)
        have hnx := take_flat encR rs (i := j)
        generalize hMe : L ++ (rs.take j).flatMap encR = M at *
        have hMl : M.length ≤ 1000000 := by
          have h4 : (rs.take j).length ≤ 400 := by rw [List.length_take]; omega
          have := Nat.mul_le_mul_right 2410 h4
          rw [← hMe, List.length_append]
          omega
        by_cases hlt : j < rs.length
        · have hnx := hnx hlt
          have hok := hrl _ (List.getElem_mem hlt)
          have hdr := flat_drop rgC_len rs j hlt
          have hlen := rgs_len rs
          obtain ⟨⟨lo, hi⟩, hx⟩ : ∃ y, rs[j] = y := ⟨_, rfl⟩
          rw [hx] at hnx hok
          dsimp only at hok
          have t1 := textF (G := G) M false (by omega) lo (by omega)
          have t2 := textF (G := G) (M ++ textB lo) false (by simp [textB, numB]; omega) hi (by omega)
          unfold tapeC at t1 t2
          have hM2 : L ++ (rs.take (j + 1)).flatMap encR = M ++ textB lo ++ textB hi := by rw [hnx, ← List.append_assoc, hMe]; simp [encR]
          have hlc := cellsI_len M
          repeat' first
            | refine jw_ret (hQ _ _ (.inr rfl) ⟨5, _, _, rfl, rfl, ?_⟩)
            | refine jw_ret (hQ _ _ (.inr rfl) ⟨_, rfl, ?_⟩)
            | refine jw_seq_k fun K hK => ?_
            | refine jw_block ?_
            | (refine jw_skip ?_; try simp)
            | (refine jw_exit ?_; try simp)
            | (refine jw_cond rfl (fun hc => ?_) (fun hc => ?_) <;> (try simp at hc) <;> (try (exfalso; first | omega | exact absurd hc (by assumption))))
            | (refine jw_c ?_; simp (maxSteps := 1000000) [hlt, rgsD, hdr, hx, hlen, rgC, numsD, hw, tapeAt, show j * 2 < rs.length * 2 by omega])
            | (refine jw_draw_j mixed (by kernel_rfl) ?_; simp (maxSteps := 1000000) [hlt, rgsD, hdr, hx, hlen, rgC, numsD, hw, tapeAt, show j * 2 < rs.length * 2 by omega])
            | (first | (apply hK; clear hK) | (clear hK; apply hK; clear hK) | (clear hK; clear hK; apply hK; clear hK) | (clear hK; clear hK; clear hK; apply hK; clear hK))
            | exact hQ _ _ (.inl rfl) ⟨5, _, _, rfl, rfl, rfl⟩
            | refine hQ _ _ (.inl rfl) ⟨5, _, _, rfl, rfl, ?_⟩
            | refine hQ _ _ (.inl rfl) ⟨_, rfl, ?_⟩
            | (refine jl_frs (f := 18) [1, 3] rfl rfl rfl rfl rfl (t1) ?_ ?_ (by simp) (by simp) ?_ ?_ ?_; (focus (simp [rho, renS, renOb, renL, renD, renD_flat, renL_flat, renL_append, hlt, rgsD, hdr, hx, hlen, rgC, numsD, hw, tapeAt, show j * 2 < rs.length * 2 by omega]; done)); (focus (simp [rho, renS, renOb, renL, renD, renD_flat, renL_flat, renL_append, hlt, rgsD, hdr, hx, hlen, rgC, numsD, hw, tapeAt, show j * 2 < rs.length * 2 by omega]; done)); (focus (simp [BelL, Bel]; done)); (focus (simp [BelS, BelOb, BelL, Bel, hlt, rgsD, hdr, hx, hlen, rgC, numsD, hw, tapeAt, show j * 2 < rs.length * 2 by omega]; done)); rintro d0 g ⟨rfl, rfl⟩; simp (maxSteps := 1000000) [glue, putAll, rho, renS, renOb, renL, renD, renD_flat, renL_flat, renL_append, hlt, rgsD, hdr, hx, hlen, rgC, numsD, hw, tapeAt, show j * 2 < rs.length * 2 by omega])
            | (refine jl_frs (f := 18) [1, 3] rfl rfl rfl rfl rfl (t2) ?_ ?_ (by simp) (by simp) ?_ ?_ ?_; (focus (simp [rho, renS, renOb, renL, renD, renD_flat, renL_flat, renL_append, hlt, rgsD, hdr, hx, hlen, rgC, numsD, hw, tapeAt, show j * 2 < rs.length * 2 by omega]; done)); (focus (simp [rho, renS, renOb, renL, renD, renD_flat, renL_flat, renL_append, hlt, rgsD, hdr, hx, hlen, rgC, numsD, hw, tapeAt, show j * 2 < rs.length * 2 by omega]; done)); (focus (simp [BelL, Bel]; done)); (focus (simp [BelS, BelOb, BelL, Bel, hlt, rgsD, hdr, hx, hlen, rgC, numsD, hw, tapeAt, show j * 2 < rs.length * 2 by omega]; done)); rintro d0 g ⟨rfl, rfl⟩; simp (maxSteps := 1000000) [glue, putAll, rho, renS, renOb, renL, renD, renD_flat, renL_flat, renL_append, hlt, rgsD, hdr, hx, hlen, rgC, numsD, hw, tapeAt, show j * 2 < rs.length * 2 by omega])
            | (refine jd_newc rfl rfl (by simp) ?_; simp (maxSteps := 1000000) [thD, thL, hlt, rgsD, hdr, hx, hlen, rgC, numsD, hw, tapeAt, show j * 2 < rs.length * 2 by omega])
            | (refine okN_or ?_; simp (maxSteps := 1000000) [thD, thL, hlt, rgsD, hdr, hx, hlen, rgC, numsD, hw, tapeAt, show j * 2 < rs.length * 2 by omega])
            | (refine okC_guard (fun hc => ?_) (fun hc => ?_) <;> (first | simp (maxSteps := 1000000) [hc, of_decide_eq_true hc, hlt, rgsD, hdr, hx, hlen, rgC, numsD, hw, tapeAt, show j * 2 < rs.length * 2 by omega] | simp (maxSteps := 1000000) [hc, of_decide_eq_false hc, hlt, rgsD, hdr, hx, hlen, rgC, numsD, hw, tapeAt, show j * 2 < rs.length * 2 by omega] | simp (maxSteps := 1000000) [hc, hlt, rgsD, hdr, hx, hlen, rgC, numsD, hw, tapeAt, show j * 2 < rs.length * 2 by omega]) <;> (try simp at hc) <;> (try (exfalso; first | omega | exact absurd hc (by assumption))))
            | (refine okJ_guard (fun hc => ?_) (fun hc => ?_) <;> (first | simp (maxSteps := 1000000) [hc, of_decide_eq_true hc, hlt, rgsD, hdr, hx, hlen, rgC, numsD, hw, tapeAt, show j * 2 < rs.length * 2 by omega] | simp (maxSteps := 1000000) [hc, of_decide_eq_false hc, hlt, rgsD, hdr, hx, hlen, rgC, numsD, hw, tapeAt, show j * 2 < rs.length * 2 by omega] | simp (maxSteps := 1000000) [hc, hlt, rgsD, hdr, hx, hlen, rgC, numsD, hw, tapeAt, show j * 2 < rs.length * 2 by omega]) <;> (try simp at hc) <;> (try (exfalso; first | omega | exact absurd hc (by assumption))))
            | (refine And.intro (by first | assumption | omega | (simp [BelL, Bel]; done) | (simp; omega)) ?_; try simp (maxSteps := 1000000) [hlt, rgsD, hdr, hx, hlen, rgC, numsD, hw, tapeAt, show j * 2 < rs.length * 2 by omega])
            | (refine okC_or ?_; simp (maxSteps := 1000000) [hlt, rgsD, hdr, hx, hlen, rgC, numsD, hw, tapeAt, show j * 2 < rs.length * 2 by omega])
          refine hKB (rs.length - (j + 1)) _ ⟨[.any, .ref [.int .i64 c, .int .i64 n, .int .i64 b, rgsD rs, wrsD ws], .any, .any, .ptr 1 2 0] ++ List.replicate 28 .any ++ [rgsD rs, .int .i64 rs.length, .int .i64 (j + 1)] ++ List.replicate 46 .any, [none, some (.c (tapeAt 3 (L ++ (rs.take (j + 1)).flatMap encR))), none, some (.c (cellsI (L ++ (rs.take (j + 1)).flatMap encR)))]⟩ (by omega) (view_takeE (sl := [.any, .ref [.int .i64 c, .int .i64 n, .int .i64 b, rgsD rs, wrsD ws], .any, .any, .ptr 1 2 0] ++ List.replicate 28 .any ++ [rgsD rs, .int .i64 rs.length, .int .i64 (j + 1)] ++ List.replicate 46 .any) (σ0 := [none, some (.c (tapeAt 3 (L ++ (rs.take (j + 1)).flatMap encR))), none, some (.c (cellsI (L ++ (rs.take (j + 1)).flatMap encR)))]) 4 (by simp [hM2, rgsD, wrsD, tapeAt]) (by first | omega | simp) (by first | omega | (simp [hM2, rgsD, wrsD, tapeAt]; done) | (simp [hM2, rgsD, wrsD, tapeAt]; omega)) (by first | exact LewS.refl _ | simp [hM2, rgsD, wrsD, tapeAt]) (by simp [BelL, Bel, hM2, rgsD, wrsD, tapeAt]) (by simp [BelS, BelOb, BelL, Bel, hM2, rgsD, wrsD, tapeAt])) ⟨(j + 1), ?_, rfl, rfl⟩
          omega
        · have hM3 : M = L ++ rs.flatMap encR := by rw [← hMe, List.take_of_length_le (by omega)]
          have hnum := numberF (G := G) M false (by omega) ws.length (by omega)
          unfold tapeC at hnum
          repeat' first
            | refine jw_ret (hQ _ _ (.inr rfl) ⟨5, _, _, rfl, rfl, ?_⟩)
            | refine jw_ret (hQ _ _ (.inr rfl) ⟨_, rfl, ?_⟩)
            | refine jw_seq_k fun K hK => ?_
            | refine jw_block ?_
            | (refine jw_skip ?_; try simp)
            | (refine jw_exit ?_; try simp)
            | (refine jw_cond rfl (fun hc => ?_) (fun hc => ?_) <;> (try simp at hc) <;> (try (exfalso; first | omega | exact absurd hc (by assumption))))
            | (refine jw_c ?_; simp (maxSteps := 1000000) [hlt, wrsD, tapeAt])
            | (refine jw_draw_j mixed (by kernel_rfl) ?_; simp (maxSteps := 1000000) [hlt, wrsD, tapeAt])
            | (first | (apply hK; clear hK) | (clear hK; apply hK; clear hK) | (clear hK; clear hK; apply hK; clear hK) | (clear hK; clear hK; clear hK; apply hK; clear hK))
            | exact hQ _ _ (.inl rfl) ⟨5, _, _, rfl, rfl, rfl⟩
            | refine hQ _ _ (.inl rfl) ⟨5, _, _, rfl, rfl, ?_⟩
            | refine hQ _ _ (.inl rfl) ⟨_, rfl, ?_⟩
            | (refine jl_frs (f := 17) [1, 3] rfl rfl rfl rfl rfl (hnum) ?_ ?_ (by simp) (by simp) ?_ ?_ ?_; (focus (simp [rho, renS, renOb, renL, renD, renD_flat, renL_flat, renL_append, hlt, wrsD, tapeAt]; done)); (focus (simp [rho, renS, renOb, renL, renD, renD_flat, renL_flat, renL_append, hlt, wrsD, tapeAt]; done)); (focus (simp [BelL, Bel]; done)); (focus (simp [BelS, BelOb, BelL, Bel, hlt, wrsD, tapeAt]; done)); rintro d0 g ⟨rfl, rfl⟩; simp (maxSteps := 1000000) [glue, putAll, rho, renS, renOb, renL, renD, renD_flat, renL_flat, renL_append, hlt, wrsD, tapeAt])
            | (refine jd_newc rfl rfl (by simp) ?_; simp (maxSteps := 1000000) [thD, thL, hlt, wrsD, tapeAt])
            | (refine okN_or ?_; simp (maxSteps := 1000000) [thD, thL, hlt, wrsD, tapeAt])
            | (refine okC_guard (fun hc => ?_) (fun hc => ?_) <;> (first | simp (maxSteps := 1000000) [hc, of_decide_eq_true hc, hlt, wrsD, tapeAt] | simp (maxSteps := 1000000) [hc, of_decide_eq_false hc, hlt, wrsD, tapeAt] | simp (maxSteps := 1000000) [hc, hlt, wrsD, tapeAt]) <;> (try simp at hc) <;> (try (exfalso; first | omega | exact absurd hc (by assumption))))
            | (refine okJ_guard (fun hc => ?_) (fun hc => ?_) <;> (first | simp (maxSteps := 1000000) [hc, of_decide_eq_true hc, hlt, wrsD, tapeAt] | simp (maxSteps := 1000000) [hc, of_decide_eq_false hc, hlt, wrsD, tapeAt] | simp (maxSteps := 1000000) [hc, hlt, wrsD, tapeAt]) <;> (try simp at hc) <;> (try (exfalso; first | omega | exact absurd hc (by assumption))))
            | (refine And.intro (by first | assumption | omega | (simp [BelL, Bel]; done) | (simp; omega)) ?_; try simp (maxSteps := 1000000) [hlt, wrsD, tapeAt])
            | (refine okC_or ?_; simp (maxSteps := 1000000) [hlt, wrsD, tapeAt])
          have hM3l : M.length ≤ 1000000 := hMl
          have hC := flat_le (f := encW) (z := 5209) (l := ws) (fun r hr => by have := hwl r hr; simp [encW, textB, numB]; omega)
          clear hnum hnx hBj hMe
          refine jw_loop_v (fun m z => ∃ (k : Nat), (k ≤ ws.length) ∧ ws.length - k = m ∧ z = ⟨List.replicate 4 .any ++ [.ptr 1 2 0] ++ List.replicate 46 .any ++ [wrsD ws, .int .i64 ws.length, .int .i64 k] ++ List.replicate 28 .any, [none, some (.c (tapeAt 3 (M ++ (numB ws.length ++ (ws.take k).flatMap encW)))), none, some (.c (cellsI (M ++ (numB ws.length ++ (ws.take k).flatMap encW))))]⟩) ⟨List.replicate 4 .any ++ [.ptr 1 2 0] ++ List.replicate 46 .any ++ [wrsD ws, .int .i64 ws.length, .int .i64 (0)] ++ List.replicate 28 .any, [none, some (.c (tapeAt 3 (M ++ (numB ws.length ++ (ws.take (0)).flatMap encW)))), none, some (.c (cellsI (M ++ (numB ws.length ++ (ws.take (0)).flatMap encW))))]⟩ (view_takeE (sl := List.replicate 4 .any ++ [.ptr 1 2 0] ++ List.replicate 46 .any ++ [wrsD ws, .int .i64 ws.length, .int .i64 (0)] ++ List.replicate 28 .any) (σ0 := [none, some (.c (tapeAt 3 (M ++ (numB ws.length ++ (ws.take (0)).flatMap encW)))), none, some (.c (cellsI (M ++ (numB ws.length ++ (ws.take (0)).flatMap encW))))]) 4 (by simp [wrsD, tapeAt]) (by first | omega | simp) (by first | omega | (simp [wrsD, tapeAt]; done) | (simp [wrsD, tapeAt]; omega)) (by first | exact LewS.refl _ | simp [wrsD, tapeAt]) (by simp [BelL, Bel, wrsD, tapeAt]) (by simp [BelS, BelOb, BelL, Bel, wrsD, tapeAt])) ⟨(0), ?_, rfl, rfl⟩ ?_
          rotate_left
          rintro m z ⟨k, hC, rfl, rfl⟩ KC hKC
          · have hw := wrap_i64 (n := (k : Int) + 1) (by omega) (by omega)
            have hCk := flat_le (f := encW) (z := 5209) (l := ws.take k) (fun r hr => by have := hwl r (List.mem_of_mem_take hr); simp [encW, textB, numB]; omega)
            have hnx := take_flat encW ws (i := k)
            generalize hZe : M ++ (numB ws.length ++ (ws.take k).flatMap encW) = Z at *
            have hZl : Z.length ≤ 4000000 := by
              have h4 : (ws.take k).length ≤ 400 := by rw [List.length_take]; omega
              have := Nat.mul_le_mul_right 5209 h4
              rw [← hZe, List.length_append, List.length_append]
              simp only [numB, List.length_cons, List.length_nil]
              omega
            have hzc := cellsI_len Z
            by_cases hlt : k < ws.length
            · have hnx := hnx hlt
              have hok := hwl _ (List.getElem_mem hlt)
              have hdr := flat_drop wrC_len ws k hlt
              have hlen := wrs_len ws
              obtain ⟨⟨key, val, g⟩, hx⟩ : ∃ y, ws[k] = y := ⟨_, rfl⟩
              rw [hx] at hnx hok
              dsimp only at hok
              have hkl : (textB key).length ≤ 1204 := by simp [textB, numB]; omega
              have t1 := textF (G := G) Z false (by omega) key (by omega)
              have hZ2 : M ++ (numB ws.length ++ (ws.take (k + 1)).flatMap encW) = Z ++ encW ⟨key, val, g⟩ := by rw [hnx, ← hZe]; simp
              cases g with
              | true =>
                have t2 := textF (G := G) (Z ++ (textB key ++ [1])) false (by simp; omega) val (by omega)
                have hen : encW ⟨key, val, true⟩ = textB key ++ [1] ++ textB val := rfl
                rw [hen] at hZ2
                unfold tapeC at t1 t2
                repeat' first
                  | refine jw_ret (hQ _ _ (.inr rfl) ⟨5, _, _, rfl, rfl, ?_⟩)
                  | refine jw_ret (hQ _ _ (.inr rfl) ⟨_, rfl, ?_⟩)
                  | refine jw_seq_k fun K hK => ?_
                  | refine jw_block ?_
                  | (refine jw_skip ?_; try simp)
                  | (refine jw_exit ?_; try simp)
                  | (refine jw_cond rfl (fun hc => ?_) (fun hc => ?_) <;> (try simp at hc) <;> (try (exfalso; first | omega | exact absurd hc (by assumption))))
                  | (refine jw_c ?_; simp (maxSteps := 1000000) [hlt, wrsD, hdr, hx, hlen, wrC, numsD, hw, tapeAt, cellsI_app, cellsI_len, hzc, okCell, show k * 3 < ws.length * 3 by omega, cellsI_cons, show cellsI [] = [] from rfl, show Z.length + (textB key).length + 1 ≤ 140737488355328 by omega, show Z.length + ((textB key).length + 1) = Z.length + (textB key).length + 1 by omega])
                  | (refine jw_draw_j mixed (by kernel_rfl) ?_; simp (maxSteps := 1000000) [hlt, wrsD, hdr, hx, hlen, wrC, numsD, hw, tapeAt, cellsI_app, cellsI_len, hzc, okCell, show k * 3 < ws.length * 3 by omega, cellsI_cons, show cellsI [] = [] from rfl, show Z.length + (textB key).length + 1 ≤ 140737488355328 by omega, show Z.length + ((textB key).length + 1) = Z.length + (textB key).length + 1 by omega])
                  | (first | (apply hK; clear hK) | (clear hK; apply hK; clear hK) | (clear hK; clear hK; apply hK; clear hK) | (clear hK; clear hK; clear hK; apply hK; clear hK))
                  | exact hQ _ _ (.inl rfl) ⟨5, _, _, rfl, rfl, rfl⟩
                  | refine hQ _ _ (.inl rfl) ⟨5, _, _, rfl, rfl, ?_⟩
                  | refine hQ _ _ (.inl rfl) ⟨_, rfl, ?_⟩
                  | (refine jl_frs (f := 18) [1, 3] rfl rfl rfl rfl rfl (t1) ?_ ?_ (by simp) (by simp) ?_ ?_ ?_; (focus (simp [rho, renS, renOb, renL, renD, renD_flat, renL_flat, renL_append, hlt, wrsD, hdr, hx, hlen, wrC, numsD, hw, tapeAt, cellsI_app, cellsI_len, hzc, okCell, show k * 3 < ws.length * 3 by omega, cellsI_cons, show cellsI [] = [] from rfl, show Z.length + (textB key).length + 1 ≤ 140737488355328 by omega, show Z.length + ((textB key).length + 1) = Z.length + (textB key).length + 1 by omega]; done)); (focus (simp [rho, renS, renOb, renL, renD, renD_flat, renL_flat, renL_append, hlt, wrsD, hdr, hx, hlen, wrC, numsD, hw, tapeAt, cellsI_app, cellsI_len, hzc, okCell, show k * 3 < ws.length * 3 by omega, cellsI_cons, show cellsI [] = [] from rfl, show Z.length + (textB key).length + 1 ≤ 140737488355328 by omega, show Z.length + ((textB key).length + 1) = Z.length + (textB key).length + 1 by omega]; done)); (focus (simp [BelL, Bel]; done)); (focus (simp [BelS, BelOb, BelL, Bel, hlt, wrsD, hdr, hx, hlen, wrC, numsD, hw, tapeAt, cellsI_app, cellsI_len, hzc, okCell, show k * 3 < ws.length * 3 by omega, cellsI_cons, show cellsI [] = [] from rfl, show Z.length + (textB key).length + 1 ≤ 140737488355328 by omega, show Z.length + ((textB key).length + 1) = Z.length + (textB key).length + 1 by omega]; done)); rintro d0 g ⟨rfl, rfl⟩; simp (maxSteps := 1000000) [glue, putAll, rho, renS, renOb, renL, renD, renD_flat, renL_flat, renL_append, hlt, wrsD, hdr, hx, hlen, wrC, numsD, hw, tapeAt, cellsI_app, cellsI_len, hzc, okCell, show k * 3 < ws.length * 3 by omega, cellsI_cons, show cellsI [] = [] from rfl, show Z.length + (textB key).length + 1 ≤ 140737488355328 by omega, show Z.length + ((textB key).length + 1) = Z.length + (textB key).length + 1 by omega])
                  | (refine jl_frs (f := 18) [1, 3] rfl rfl rfl rfl rfl (t2) ?_ ?_ (by simp) (by simp) ?_ ?_ ?_; (focus (simp [rho, renS, renOb, renL, renD, renD_flat, renL_flat, renL_append, hlt, wrsD, hdr, hx, hlen, wrC, numsD, hw, tapeAt, cellsI_app, cellsI_len, hzc, okCell, show k * 3 < ws.length * 3 by omega, cellsI_cons, show cellsI [] = [] from rfl, show Z.length + (textB key).length + 1 ≤ 140737488355328 by omega, show Z.length + ((textB key).length + 1) = Z.length + (textB key).length + 1 by omega]; done)); (focus (simp [rho, renS, renOb, renL, renD, renD_flat, renL_flat, renL_append, hlt, wrsD, hdr, hx, hlen, wrC, numsD, hw, tapeAt, cellsI_app, cellsI_len, hzc, okCell, show k * 3 < ws.length * 3 by omega, cellsI_cons, show cellsI [] = [] from rfl, show Z.length + (textB key).length + 1 ≤ 140737488355328 by omega, show Z.length + ((textB key).length + 1) = Z.length + (textB key).length + 1 by omega]; done)); (focus (simp [BelL, Bel]; done)); (focus (simp [BelS, BelOb, BelL, Bel, hlt, wrsD, hdr, hx, hlen, wrC, numsD, hw, tapeAt, cellsI_app, cellsI_len, hzc, okCell, show k * 3 < ws.length * 3 by omega, cellsI_cons, show cellsI [] = [] from rfl, show Z.length + (textB key).length + 1 ≤ 140737488355328 by omega, show Z.length + ((textB key).length + 1) = Z.length + (textB key).length + 1 by omega]; done)); rintro d0 g ⟨rfl, rfl⟩; simp (maxSteps := 1000000) [glue, putAll, rho, renS, renOb, renL, renD, renD_flat, renL_flat, renL_append, hlt, wrsD, hdr, hx, hlen, wrC, numsD, hw, tapeAt, cellsI_app, cellsI_len, hzc, okCell, show k * 3 < ws.length * 3 by omega, cellsI_cons, show cellsI [] = [] from rfl, show Z.length + (textB key).length + 1 ≤ 140737488355328 by omega, show Z.length + ((textB key).length + 1) = Z.length + (textB key).length + 1 by omega])
                  | (refine jd_newc rfl rfl (by simp) ?_; simp (maxSteps := 1000000) [thD, thL, hlt, wrsD, hdr, hx, hlen, wrC, numsD, hw, tapeAt, cellsI_app, cellsI_len, hzc, okCell, show k * 3 < ws.length * 3 by omega, cellsI_cons, show cellsI [] = [] from rfl, show Z.length + (textB key).length + 1 ≤ 140737488355328 by omega, show Z.length + ((textB key).length + 1) = Z.length + (textB key).length + 1 by omega])
                  | (refine okN_or ?_; simp (maxSteps := 1000000) [thD, thL, hlt, wrsD, hdr, hx, hlen, wrC, numsD, hw, tapeAt, cellsI_app, cellsI_len, hzc, okCell, show k * 3 < ws.length * 3 by omega, cellsI_cons, show cellsI [] = [] from rfl, show Z.length + (textB key).length + 1 ≤ 140737488355328 by omega, show Z.length + ((textB key).length + 1) = Z.length + (textB key).length + 1 by omega])
                  | (refine okC_guard (fun hc => ?_) (fun hc => ?_) <;> (first | simp (maxSteps := 1000000) [hc, of_decide_eq_true hc, hlt, wrsD, hdr, hx, hlen, wrC, numsD, hw, tapeAt, cellsI_app, cellsI_len, hzc, okCell, show k * 3 < ws.length * 3 by omega, cellsI_cons, show cellsI [] = [] from rfl, show Z.length + (textB key).length + 1 ≤ 140737488355328 by omega, show Z.length + ((textB key).length + 1) = Z.length + (textB key).length + 1 by omega] | simp (maxSteps := 1000000) [hc, of_decide_eq_false hc, hlt, wrsD, hdr, hx, hlen, wrC, numsD, hw, tapeAt, cellsI_app, cellsI_len, hzc, okCell, show k * 3 < ws.length * 3 by omega, cellsI_cons, show cellsI [] = [] from rfl, show Z.length + (textB key).length + 1 ≤ 140737488355328 by omega, show Z.length + ((textB key).length + 1) = Z.length + (textB key).length + 1 by omega] | simp (maxSteps := 1000000) [hc, hlt, wrsD, hdr, hx, hlen, wrC, numsD, hw, tapeAt, cellsI_app, cellsI_len, hzc, okCell, show k * 3 < ws.length * 3 by omega, cellsI_cons, show cellsI [] = [] from rfl, show Z.length + (textB key).length + 1 ≤ 140737488355328 by omega, show Z.length + ((textB key).length + 1) = Z.length + (textB key).length + 1 by omega]) <;> (try simp at hc) <;> (try (exfalso; first | omega | exact absurd hc (by assumption))))
                  | (refine okJ_guard (fun hc => ?_) (fun hc => ?_) <;> (first | simp (maxSteps := 1000000) [hc, of_decide_eq_true hc, hlt, wrsD, hdr, hx, hlen, wrC, numsD, hw, tapeAt, cellsI_app, cellsI_len, hzc, okCell, show k * 3 < ws.length * 3 by omega, cellsI_cons, show cellsI [] = [] from rfl, show Z.length + (textB key).length + 1 ≤ 140737488355328 by omega, show Z.length + ((textB key).length + 1) = Z.length + (textB key).length + 1 by omega] | simp (maxSteps := 1000000) [hc, of_decide_eq_false hc, hlt, wrsD, hdr, hx, hlen, wrC, numsD, hw, tapeAt, cellsI_app, cellsI_len, hzc, okCell, show k * 3 < ws.length * 3 by omega, cellsI_cons, show cellsI [] = [] from rfl, show Z.length + (textB key).length + 1 ≤ 140737488355328 by omega, show Z.length + ((textB key).length + 1) = Z.length + (textB key).length + 1 by omega] | simp (maxSteps := 1000000) [hc, hlt, wrsD, hdr, hx, hlen, wrC, numsD, hw, tapeAt, cellsI_app, cellsI_len, hzc, okCell, show k * 3 < ws.length * 3 by omega, cellsI_cons, show cellsI [] = [] from rfl, show Z.length + (textB key).length + 1 ≤ 140737488355328 by omega, show Z.length + ((textB key).length + 1) = Z.length + (textB key).length + 1 by omega]) <;> (try simp at hc) <;> (try (exfalso; first | omega | exact absurd hc (by assumption))))
                  | (refine And.intro (by first | assumption | omega | (simp [BelL, Bel]; done) | (simp; omega)) ?_; try simp (maxSteps := 1000000) [hlt, wrsD, hdr, hx, hlen, wrC, numsD, hw, tapeAt, cellsI_app, cellsI_len, hzc, okCell, show k * 3 < ws.length * 3 by omega, cellsI_cons, show cellsI [] = [] from rfl, show Z.length + (textB key).length + 1 ≤ 140737488355328 by omega, show Z.length + ((textB key).length + 1) = Z.length + (textB key).length + 1 by omega])
                  | (refine okC_or ?_; simp (maxSteps := 1000000) [hlt, wrsD, hdr, hx, hlen, wrC, numsD, hw, tapeAt, cellsI_app, cellsI_len, hzc, okCell, show k * 3 < ws.length * 3 by omega, cellsI_cons, show cellsI [] = [] from rfl, show Z.length + (textB key).length + 1 ≤ 140737488355328 by omega, show Z.length + ((textB key).length + 1) = Z.length + (textB key).length + 1 by omega])


                refine hKC (ws.length - (k + 1)) _ ⟨List.replicate 4 .any ++ [.ptr 1 2 0] ++ List.replicate 46 .any ++ [wrsD ws, .int .i64 ws.length, .int .i64 (k + 1)] ++ List.replicate 28 .any, [none, some (.c (tapeAt 3 (M ++ (numB ws.length ++ (ws.take (k + 1)).flatMap encW)))), none, some (.c (cellsI (M ++ (numB ws.length ++ (ws.take (k + 1)).flatMap encW))))]⟩ (by omega) (view_takeE (sl := List.replicate 4 .any ++ [.ptr 1 2 0] ++ List.replicate 46 .any ++ [wrsD ws, .int .i64 ws.length, .int .i64 (k + 1)] ++ List.replicate 28 .any) (σ0 := [none, some (.c (tapeAt 3 (M ++ (numB ws.length ++ (ws.take (k + 1)).flatMap encW)))), none, some (.c (cellsI (M ++ (numB ws.length ++ (ws.take (k + 1)).flatMap encW))))]) 4 (by simp [hZ2, wrsD, tapeAt, cellsI_app, ← Nat.add_assoc, cellsI_cons, show cellsI [] = [] from rfl]) (by first | omega | simp) (by first | omega | (simp [hZ2, wrsD, tapeAt, cellsI_app, ← Nat.add_assoc, cellsI_cons, show cellsI [] = [] from rfl]; done) | (simp [hZ2, wrsD, tapeAt, cellsI_app, ← Nat.add_assoc, cellsI_cons, show cellsI [] = [] from rfl]; omega)) (by first | exact LewS.refl _ | simp [hZ2, wrsD, tapeAt, cellsI_app, ← Nat.add_assoc, cellsI_cons, show cellsI [] = [] from rfl]) (by simp [BelL, Bel, hZ2, wrsD, tapeAt, cellsI_app, ← Nat.add_assoc, cellsI_cons, show cellsI [] = [] from rfl]) (by simp [BelS, BelOb, BelL, Bel, hZ2, wrsD, tapeAt, cellsI_app, ← Nat.add_assoc, cellsI_cons, show cellsI [] = [] from rfl])) ⟨(k + 1), ?_, rfl, rfl⟩
                omega
              | false =>
                have t2 := textF (G := G) (Z ++ (textB key ++ [0])) false (by simp; omega) val (by omega)
                have hen : encW ⟨key, val, false⟩ = textB key ++ [0] ++ textB val := rfl
                rw [hen] at hZ2
                unfold tapeC at t1 t2
                repeat' first
                  | refine jw_ret (hQ _ _ (.inr rfl) ⟨5, _, _, rfl, rfl, ?_⟩)
                  | refine jw_ret (hQ _ _ (.inr rfl) ⟨_, rfl, ?_⟩)
                  | refine jw_seq_k fun K hK => ?_
                  | refine jw_block ?_
                  | (refine jw_skip ?_; try simp)
                  | (refine jw_exit ?_; try simp)
                  | (refine jw_cond rfl (fun hc => ?_) (fun hc => ?_) <;> (try simp at hc) <;> (try (exfalso; first | omega | exact absurd hc (by assumption))))
                  | (refine jw_c ?_; simp (maxSteps := 1000000) [hlt, wrsD, hdr, hx, hlen, wrC, numsD, hw, tapeAt, cellsI_app, cellsI_len, hzc, okCell, show k * 3 < ws.length * 3 by omega, cellsI_cons, show cellsI [] = [] from rfl, show Z.length + (textB key).length + 1 ≤ 140737488355328 by omega, show Z.length + ((textB key).length + 1) = Z.length + (textB key).length + 1 by omega])
                  | (refine jw_draw_j mixed (by kernel_rfl) ?_; simp (maxSteps := 1000000) [hlt, wrsD, hdr, hx, hlen, wrC, numsD, hw, tapeAt, cellsI_app, cellsI_len, hzc, okCell, show k * 3 < ws.length * 3 by omega, cellsI_cons, show cellsI [] = [] from rfl, show Z.length + (textB key).length + 1 ≤ 140737488355328 by omega, show Z.length + ((textB key).length + 1) = Z.length + (textB key).length + 1 by omega])
                  | (first | (apply hK; clear hK) | (clear hK; apply hK; clear hK) | (clear hK; clear hK; apply hK; clear hK) | (clear hK; clear hK; clear hK; apply hK; clear hK))
                  | exact hQ _ _ (.inl rfl) ⟨5, _, _, rfl, rfl, rfl⟩
                  | refine hQ _ _ (.inl rfl) ⟨5, _, _, rfl, rfl, ?_⟩
                  | refine hQ _ _ (.inl rfl) ⟨_, rfl, ?_⟩
                  | (refine jl_frs (f := 18) [1, 3] rfl rfl rfl rfl rfl (t1) ?_ ?_ (by simp) (by simp) ?_ ?_ ?_; (focus (simp [rho, renS, renOb, renL, renD, renD_flat, renL_flat, renL_append, hlt, wrsD, hdr, hx, hlen, wrC, numsD, hw, tapeAt, cellsI_app, cellsI_len, hzc, okCell, show k * 3 < ws.length * 3 by omega, cellsI_cons, show cellsI [] = [] from rfl, show Z.length + (textB key).length + 1 ≤ 140737488355328 by omega, show Z.length + ((textB key).length + 1) = Z.length + (textB key).length + 1 by omega]; done)); (focus (simp [rho, renS, renOb, renL, renD, renD_flat, renL_flat, renL_append, hlt, wrsD, hdr, hx, hlen, wrC, numsD, hw, tapeAt, cellsI_app, cellsI_len, hzc, okCell, show k * 3 < ws.length * 3 by omega, cellsI_cons, show cellsI [] = [] from rfl, show Z.length + (textB key).length + 1 ≤ 140737488355328 by omega, show Z.length + ((textB key).length + 1) = Z.length + (textB key).length + 1 by omega]; done)); (focus (simp [BelL, Bel]; done)); (focus (simp [BelS, BelOb, BelL, Bel, hlt, wrsD, hdr, hx, hlen, wrC, numsD, hw, tapeAt, cellsI_app, cellsI_len, hzc, okCell, show k * 3 < ws.length * 3 by omega, cellsI_cons, show cellsI [] = [] from rfl, show Z.length + (textB key).length + 1 ≤ 140737488355328 by omega, show Z.length + ((textB key).length + 1) = Z.length + (textB key).length + 1 by omega]; done)); rintro d0 g ⟨rfl, rfl⟩; simp (maxSteps := 1000000) [glue, putAll, rho, renS, renOb, renL, renD, renD_flat, renL_flat, renL_append, hlt, wrsD, hdr, hx, hlen, wrC, numsD, hw, tapeAt, cellsI_app, cellsI_len, hzc, okCell, show k * 3 < ws.length * 3 by omega, cellsI_cons, show cellsI [] = [] from rfl, show Z.length + (textB key).length + 1 ≤ 140737488355328 by omega, show Z.length + ((textB key).length + 1) = Z.length + (textB key).length + 1 by omega])
                  | (refine jl_frs (f := 18) [1, 3] rfl rfl rfl rfl rfl (t2) ?_ ?_ (by simp) (by simp) ?_ ?_ ?_; (focus (simp [rho, renS, renOb, renL, renD, renD_flat, renL_flat, renL_append, hlt, wrsD, hdr, hx, hlen, wrC, numsD, hw, tapeAt, cellsI_app, cellsI_len, hzc, okCell, show k * 3 < ws.length * 3 by omega, cellsI_cons, show cellsI [] = [] from rfl, show Z.length + (textB key).length + 1 ≤ 140737488355328 by omega, show Z.length + ((textB key).length + 1) = Z.length + (textB key).length + 1 by omega]; done)); (focus (simp [rho, renS, renOb, renL, renD, renD_flat, renL_flat, renL_append, hlt, wrsD, hdr, hx, hlen, wrC, numsD, hw, tapeAt, cellsI_app, cellsI_len, hzc, okCell, show k * 3 < ws.length * 3 by omega, cellsI_cons, show cellsI [] = [] from rfl, show Z.length + (textB key).length + 1 ≤ 140737488355328 by omega, show Z.length + ((textB key).length + 1) = Z.length + (textB key).length + 1 by omega]; done)); (focus (simp [BelL, Bel]; done)); (focus (simp [BelS, BelOb, BelL, Bel, hlt, wrsD, hdr, hx, hlen, wrC, numsD, hw, tapeAt, cellsI_app, cellsI_len, hzc, okCell, show k * 3 < ws.length * 3 by omega, cellsI_cons, show cellsI [] = [] from rfl, show Z.length + (textB key).length + 1 ≤ 140737488355328 by omega, show Z.length + ((textB key).length + 1) = Z.length + (textB key).length + 1 by omega]; done)); rintro d0 g ⟨rfl, rfl⟩; simp (maxSteps := 1000000) [glue, putAll, rho, renS, renOb, renL, renD, renD_flat, renL_flat, renL_append, hlt, wrsD, hdr, hx, hlen, wrC, numsD, hw, tapeAt, cellsI_app, cellsI_len, hzc, okCell, show k * 3 < ws.length * 3 by omega, cellsI_cons, show cellsI [] = [] from rfl, show Z.length + (textB key).length + 1 ≤ 140737488355328 by omega, show Z.length + ((textB key).length + 1) = Z.length + (textB key).length + 1 by omega])
                  | (refine jd_newc rfl rfl (by simp) ?_; simp (maxSteps := 1000000) [thD, thL, hlt, wrsD, hdr, hx, hlen, wrC, numsD, hw, tapeAt, cellsI_app, cellsI_len, hzc, okCell, show k * 3 < ws.length * 3 by omega, cellsI_cons, show cellsI [] = [] from rfl, show Z.length + (textB key).length + 1 ≤ 140737488355328 by omega, show Z.length + ((textB key).length + 1) = Z.length + (textB key).length + 1 by omega])
                  | (refine okN_or ?_; simp (maxSteps := 1000000) [thD, thL, hlt, wrsD, hdr, hx, hlen, wrC, numsD, hw, tapeAt, cellsI_app, cellsI_len, hzc, okCell, show k * 3 < ws.length * 3 by omega, cellsI_cons, show cellsI [] = [] from rfl, show Z.length + (textB key).length + 1 ≤ 140737488355328 by omega, show Z.length + ((textB key).length + 1) = Z.length + (textB key).length + 1 by omega])
                  | (refine okC_guard (fun hc => ?_) (fun hc => ?_) <;> (first | simp (maxSteps := 1000000) [hc, of_decide_eq_true hc, hlt, wrsD, hdr, hx, hlen, wrC, numsD, hw, tapeAt, cellsI_app, cellsI_len, hzc, okCell, show k * 3 < ws.length * 3 by omega, cellsI_cons, show cellsI [] = [] from rfl, show Z.length + (textB key).length + 1 ≤ 140737488355328 by omega, show Z.length + ((textB key).length + 1) = Z.length + (textB key).length + 1 by omega] | simp (maxSteps := 1000000) [hc, of_decide_eq_false hc, hlt, wrsD, hdr, hx, hlen, wrC, numsD, hw, tapeAt, cellsI_app, cellsI_len, hzc, okCell, show k * 3 < ws.length * 3 by omega, cellsI_cons, show cellsI [] = [] from rfl, show Z.length + (textB key).length + 1 ≤ 140737488355328 by omega, show Z.length + ((textB key).length + 1) = Z.length + (textB key).length + 1 by omega] | simp (maxSteps := 1000000) [hc, hlt, wrsD, hdr, hx, hlen, wrC, numsD, hw, tapeAt, cellsI_app, cellsI_len, hzc, okCell, show k * 3 < ws.length * 3 by omega, cellsI_cons, show cellsI [] = [] from rfl, show Z.length + (textB key).length + 1 ≤ 140737488355328 by omega, show Z.length + ((textB key).length + 1) = Z.length + (textB key).length + 1 by omega]) <;> (try simp at hc) <;> (try (exfalso; first | omega | exact absurd hc (by assumption))))
                  | (refine okJ_guard (fun hc => ?_) (fun hc => ?_) <;> (first | simp (maxSteps := 1000000) [hc, of_decide_eq_true hc, hlt, wrsD, hdr, hx, hlen, wrC, numsD, hw, tapeAt, cellsI_app, cellsI_len, hzc, okCell, show k * 3 < ws.length * 3 by omega, cellsI_cons, show cellsI [] = [] from rfl, show Z.length + (textB key).length + 1 ≤ 140737488355328 by omega, show Z.length + ((textB key).length + 1) = Z.length + (textB key).length + 1 by omega] | simp (maxSteps := 1000000) [hc, of_decide_eq_false hc, hlt, wrsD, hdr, hx, hlen, wrC, numsD, hw, tapeAt, cellsI_app, cellsI_len, hzc, okCell, show k * 3 < ws.length * 3 by omega, cellsI_cons, show cellsI [] = [] from rfl, show Z.length + (textB key).length + 1 ≤ 140737488355328 by omega, show Z.length + ((textB key).length + 1) = Z.length + (textB key).length + 1 by omega] | simp (maxSteps := 1000000) [hc, hlt, wrsD, hdr, hx, hlen, wrC, numsD, hw, tapeAt, cellsI_app, cellsI_len, hzc, okCell, show k * 3 < ws.length * 3 by omega, cellsI_cons, show cellsI [] = [] from rfl, show Z.length + (textB key).length + 1 ≤ 140737488355328 by omega, show Z.length + ((textB key).length + 1) = Z.length + (textB key).length + 1 by omega]) <;> (try simp at hc) <;> (try (exfalso; first | omega | exact absurd hc (by assumption))))
                  | (refine And.intro (by first | assumption | omega | (simp [BelL, Bel]; done) | (simp; omega)) ?_; try simp (maxSteps := 1000000) [hlt, wrsD, hdr, hx, hlen, wrC, numsD, hw, tapeAt, cellsI_app, cellsI_len, hzc, okCell, show k * 3 < ws.length * 3 by omega, cellsI_cons, show cellsI [] = [] from rfl, show Z.length + (textB key).length + 1 ≤ 140737488355328 by omega, show Z.length + ((textB key).length + 1) = Z.length + (textB key).length + 1 by omega])
                  | (refine okC_or ?_; simp (maxSteps := 1000000) [hlt, wrsD, hdr, hx, hlen, wrC, numsD, hw, tapeAt, cellsI_app, cellsI_len, hzc, okCell, show k * 3 < ws.length * 3 by omega, cellsI_cons, show cellsI [] = [] from rfl, show Z.length + (textB key).length + 1 ≤ 140737488355328 by omega, show Z.length + ((textB key).length + 1) = Z.length + (textB key).length + 1 by omega])
                refine hKC (ws.length - (k + 1)) _ ⟨List.replicate 4 .any ++ [.ptr 1 2 0] ++ List.replicate 46 .any ++ [wrsD ws, .int .i64 ws.length, .int .i64 (k + 1)] ++ List.replicate 28 .any, [none, some (.c (tapeAt 3 (M ++ (numB ws.length ++ (ws.take (k + 1)).flatMap encW)))), none, some (.c (cellsI (M ++ (numB ws.length ++ (ws.take (k + 1)).flatMap encW))))]⟩ (by omega) (view_takeE (sl := List.replicate 4 .any ++ [.ptr 1 2 0] ++ List.replicate 46 .any ++ [wrsD ws, .int .i64 ws.length, .int .i64 (k + 1)] ++ List.replicate 28 .any) (σ0 := [none, some (.c (tapeAt 3 (M ++ (numB ws.length ++ (ws.take (k + 1)).flatMap encW)))), none, some (.c (cellsI (M ++ (numB ws.length ++ (ws.take (k + 1)).flatMap encW))))]) 4 (by simp [hZ2, wrsD, tapeAt, cellsI_app, ← Nat.add_assoc, cellsI_cons, show cellsI [] = [] from rfl]) (by first | omega | simp) (by first | omega | (simp [hZ2, wrsD, tapeAt, cellsI_app, ← Nat.add_assoc, cellsI_cons, show cellsI [] = [] from rfl]; done) | (simp [hZ2, wrsD, tapeAt, cellsI_app, ← Nat.add_assoc, cellsI_cons, show cellsI [] = [] from rfl]; omega)) (by first | exact LewS.refl _ | simp [hZ2, wrsD, tapeAt, cellsI_app, ← Nat.add_assoc, cellsI_cons, show cellsI [] = [] from rfl]) (by simp [BelL, Bel, hZ2, wrsD, tapeAt, cellsI_app, ← Nat.add_assoc, cellsI_cons, show cellsI [] = [] from rfl]) (by simp [BelS, BelOb, BelL, Bel, hZ2, wrsD, tapeAt, cellsI_app, ← Nat.add_assoc, cellsI_cons, show cellsI [] = [] from rfl])) ⟨(k + 1), ?_, rfl, rfl⟩
                omega
            · have hIe : encI ⟨c, n, b, rs, ws⟩ = Z := by
                rw [← hZe, List.take_of_length_le (by omega), hM3, hLH]
                simp [encI]
              rw [hIe] at hQ
              have hct : List.take Z.length (cellsI Z) = cellsI Z := List.take_of_length_le (by omega)
              by_cases h4 : Z.length ≤ 4000
              · rw [if_pos h4] at hQ
                repeat' first
                  | refine jw_ret (hQ _ _ (.inr rfl) ⟨5, _, _, rfl, rfl, ?_⟩)
                  | refine jw_ret (hQ _ _ (.inr rfl) ⟨_, rfl, ?_⟩)
                  | refine jw_seq_k fun K hK => ?_
                  | refine jw_block ?_
                  | (refine jw_skip ?_; try simp)
                  | (refine jw_exit ?_; try simp)
                  | (refine jw_cond rfl (fun hc => ?_) (fun hc => ?_) <;> (try simp at hc) <;> (try (exfalso; first | omega | exact absurd hc (by assumption))))
                  | ((fail_if_success (refine jw_c (id := 27) ?_)); (refine jw_c ?_; simp (maxSteps := 1000000) [hlt, tapeAt, show ¬ (4000 : Int) < Z.length by omega]))
                  | ((fail_if_success (refine jw_draw_j (id := 27) mixed (by kernel_rfl) ?_)); (refine jw_draw_j mixed (by kernel_rfl) ?_; simp (maxSteps := 1000000) [hlt, tapeAt, show ¬ (4000 : Int) < Z.length by omega]))
                  | (first | (apply hK; clear hK) | (clear hK; apply hK; clear hK) | (clear hK; clear hK; apply hK; clear hK) | (clear hK; clear hK; clear hK; apply hK; clear hK))
                  | exact hQ _ _ (.inl rfl) ⟨5, _, _, rfl, rfl, rfl⟩
                  | refine hQ _ _ (.inl rfl) ⟨5, _, _, rfl, rfl, ?_⟩
                  | refine hQ _ _ (.inl rfl) ⟨_, rfl, ?_⟩
                  | (refine jd_newc rfl rfl (by simp) ?_; simp (maxSteps := 1000000) [thD, thL, hlt, tapeAt, show ¬ (4000 : Int) < Z.length by omega])
                  | (refine okN_or ?_; simp (maxSteps := 1000000) [thD, thL, hlt, tapeAt, show ¬ (4000 : Int) < Z.length by omega])
                  | (refine okC_guard (fun hc => ?_) (fun hc => ?_) <;> (first | simp (maxSteps := 1000000) [hc, of_decide_eq_true hc, hlt, tapeAt, show ¬ (4000 : Int) < Z.length by omega] | simp (maxSteps := 1000000) [hc, of_decide_eq_false hc, hlt, tapeAt, show ¬ (4000 : Int) < Z.length by omega] | simp (maxSteps := 1000000) [hc, hlt, tapeAt, show ¬ (4000 : Int) < Z.length by omega]) <;> (try simp at hc) <;> (try (exfalso; first | omega | exact absurd hc (by assumption))))
                  | (refine okJ_guard (fun hc => ?_) (fun hc => ?_) <;> (first | simp (maxSteps := 1000000) [hc, of_decide_eq_true hc, hlt, tapeAt, show ¬ (4000 : Int) < Z.length by omega] | simp (maxSteps := 1000000) [hc, of_decide_eq_false hc, hlt, tapeAt, show ¬ (4000 : Int) < Z.length by omega] | simp (maxSteps := 1000000) [hc, hlt, tapeAt, show ¬ (4000 : Int) < Z.length by omega]) <;> (try simp at hc) <;> (try (exfalso; first | omega | exact absurd hc (by assumption))))
                  | (refine And.intro (by first | assumption | omega | (simp [BelL, Bel]; done) | (simp; omega)) ?_; try simp (maxSteps := 1000000) [hlt, tapeAt, show ¬ (4000 : Int) < Z.length by omega])
                  | (refine okC_or ?_; simp (maxSteps := 1000000) [hlt, tapeAt, show ¬ (4000 : Int) < Z.length by omega])
                (refine jw_view (view_frz 3 _ rfl (by simp [BelL, Bel, thL_flat, thD_flat, hzc, hct])) ?_; simp (maxSteps := 1000000) [thL, thD, thS, thOb, thL_flat, thD_flat, hzc, hct])
                repeat' first
                  | refine jw_seq_k fun K hK => ?_
                  | refine jw_block ?_
                  | (refine jw_skip ?_; try simp)
                  | (refine jw_exit ?_; try simp)
                  | (refine jw_cond rfl (fun hc => ?_) (fun hc => ?_) <;> (try simp at hc) <;> (try (exfalso; first | omega | exact absurd hc (by assumption))))
                  | (refine jw_c ?_; simp (maxSteps := 1000000) [numsD])
                  | (refine jw_draw_j mixed (by kernel_rfl) ?_; simp (maxSteps := 1000000) [numsD])
                  | (first | (apply hK; clear hK) | (clear hK; apply hK; clear hK) | (clear hK; clear hK; apply hK; clear hK) | (clear hK; clear hK; clear hK; apply hK; clear hK))
                  | (refine jw_ret (hQ _ _ (.inr rfl) (ret_ok 0 ?_ (by first | omega | simp))); simp (maxSteps := 1000000) [okRet, BelL, Bel, BelS, BelOb, numsD])
                  | (refine hQ _ _ (.inl rfl) (ret_ok 0 ?_ (by first | omega | simp)); simp (maxSteps := 1000000) [okRet, BelL, Bel, BelS, BelOb, numsD])
                  | (refine jd_newc rfl rfl (by simp) ?_; simp (maxSteps := 1000000) [thD, thL, numsD])
                  | (refine okN_or ?_; simp (maxSteps := 1000000) [thD, thL, numsD])
                  | (refine okC_guard (fun hc => ?_) (fun hc => ?_) <;> (first | simp (maxSteps := 1000000) [hc, of_decide_eq_true hc, numsD] | simp (maxSteps := 1000000) [hc, of_decide_eq_false hc, numsD] | simp (maxSteps := 1000000) [hc, numsD]) <;> (try simp at hc) <;> (try (exfalso; first | omega | exact absurd hc (by assumption))))
                  | (refine okJ_guard (fun hc => ?_) (fun hc => ?_) <;> (first | simp (maxSteps := 1000000) [hc, of_decide_eq_true hc, numsD] | simp (maxSteps := 1000000) [hc, of_decide_eq_false hc, numsD] | simp (maxSteps := 1000000) [hc, numsD]) <;> (try simp at hc) <;> (try (exfalso; first | omega | exact absurd hc (by assumption))))
                  | (refine And.intro (by first | assumption | omega | (simp [BelL, Bel]; done) | (simp; omega)) ?_; try simp (maxSteps := 1000000) [numsD])
                  | (refine okC_or ?_; simp (maxSteps := 1000000) [numsD])
                all_goals exact Lew.refl _
              · rw [if_neg h4] at hQ
                repeat' first
                  | refine jw_seq_k fun K hK => ?_
                  | refine jw_block ?_
                  | (refine jw_skip ?_; try simp)
                  | (refine jw_exit ?_; try simp)
                  | (refine jw_cond rfl (fun hc => ?_) (fun hc => ?_) <;> (try simp at hc) <;> (try (exfalso; first | omega | exact absurd hc (by assumption))))
                  | (refine jw_c ?_; simp (maxSteps := 1000000) [hlt, tapeAt, show (4000 : Int) < Z.length by omega])
                  | (refine jw_draw_j mixed (by kernel_rfl) ?_; simp (maxSteps := 1000000) [hlt, tapeAt, show (4000 : Int) < Z.length by omega])
                  | (first | (apply hK; clear hK) | (clear hK; apply hK; clear hK) | (clear hK; clear hK; apply hK; clear hK) | (clear hK; clear hK; clear hK; apply hK; clear hK))
                  | (refine jw_ret (hQ _ _ (.inr rfl) (ret_ok 0 ?_ (by first | omega | simp))); simp (maxSteps := 1000000) [okRet, BelL, Bel, BelS, BelOb, hlt, tapeAt, show (4000 : Int) < Z.length by omega])
                  | (refine hQ _ _ (.inl rfl) (ret_ok 0 ?_ (by first | omega | simp)); simp (maxSteps := 1000000) [okRet, BelL, Bel, BelS, BelOb, hlt, tapeAt, show (4000 : Int) < Z.length by omega])
                  | (refine jd_newc rfl rfl (by simp) ?_; simp (maxSteps := 1000000) [thD, thL, hlt, tapeAt, show (4000 : Int) < Z.length by omega])
                  | (refine okN_or ?_; simp (maxSteps := 1000000) [thD, thL, hlt, tapeAt, show (4000 : Int) < Z.length by omega])
                  | (refine okC_guard (fun hc => ?_) (fun hc => ?_) <;> (first | simp (maxSteps := 1000000) [hc, of_decide_eq_true hc, hlt, tapeAt, show (4000 : Int) < Z.length by omega] | simp (maxSteps := 1000000) [hc, of_decide_eq_false hc, hlt, tapeAt, show (4000 : Int) < Z.length by omega] | simp (maxSteps := 1000000) [hc, hlt, tapeAt, show (4000 : Int) < Z.length by omega]) <;> (try simp at hc) <;> (try (exfalso; first | omega | exact absurd hc (by assumption))))
                  | (refine okJ_guard (fun hc => ?_) (fun hc => ?_) <;> (first | simp (maxSteps := 1000000) [hc, of_decide_eq_true hc, hlt, tapeAt, show (4000 : Int) < Z.length by omega] | simp (maxSteps := 1000000) [hc, of_decide_eq_false hc, hlt, tapeAt, show (4000 : Int) < Z.length by omega] | simp (maxSteps := 1000000) [hc, hlt, tapeAt, show (4000 : Int) < Z.length by omega]) <;> (try simp at hc) <;> (try (exfalso; first | omega | exact absurd hc (by assumption))))
                  | (refine And.intro (by first | assumption | omega | (simp [BelL, Bel]; done) | (simp; omega)) ?_; try simp (maxSteps := 1000000) [hlt, tapeAt, show (4000 : Int) < Z.length by omega])
                  | (refine okC_or ?_; simp (maxSteps := 1000000) [hlt, tapeAt, show (4000 : Int) < Z.length by omega])
          · omega
      · omega
  · omega
end Go.Proofs.Ythaidogcgjnhcaa
