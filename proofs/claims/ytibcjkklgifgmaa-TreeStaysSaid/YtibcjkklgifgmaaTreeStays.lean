/- TreeStays: the walk. -/
import Derived.Test.YtibcjkklgifgmaaTreeDs
import Derived.Test.YtibcjkklgifgmaaVmRow
set_option linter.unusedVariables false
set_option linter.unusedSimpArgs false
set_option maxRecDepth 20000
set_option maxHeartbeats 20000000
namespace Go.Proofs.Ytibcjkklgifgmaa
open Go Go.Vm Go.Proofs

abbrev IntP : List D → Prop := fun ds => ∃ n, (Lit.int .i64 n).wf = true ∧ ds = [.int .i64 n]
abbrev MvP : List (List D → Prop) := [fun ds => ∃ b : Bool, ds = [.bool b], IntP, IntP, IntP]
theorem mvs_of : ∀ {ls : List (List D)}, Vm.Rows (Parts MvP) ls → ∃ l : List Mv, ls.flatten = l.flatMap mvC ∧ ls.length = l.length
  | [], _ => ⟨[], rfl, rfl⟩
  | _ :: _, .cons _ ls h t => by
    obtain ⟨l, g2, g3⟩ := mvs_of t
    obtain ⟨_, _, ⟨d, rfl⟩, ⟨_, _, ⟨a, _, rfl⟩, ⟨_, _, ⟨b, _, rfl⟩, ⟨_, _, ⟨c, _, rfl⟩, rfl, rfl⟩, rfl⟩, rfl⟩, rfl⟩ := h
    exact ⟨⟨d, a, b, c⟩ :: l, by simp [mvC, g2], by simp [g3]⟩
theorem cont_stays {ds es : List Deed} {v : Int} (h0 : 0 ≤ v) (h1 : v < (runC ds).2.length) : contAt (runC (ds ++ es)).2 v = contAt (runC ds).2 v ∧ v < (runC (ds ++ es)).2.length := by
  obtain ⟨r, h⟩ := run_pre ds es
  rw [h]
  refine ⟨?_, by simp; omega⟩
  unfold contAt
  rw [List.getD_eq_getElem?_getD, List.getD_eq_getElem?_getD, List.getElem?_append_left (by omega)]
theorem cont_mem {C : Cont} {v : Int} (h0 : 0 ≤ v) (h1 : v < C.length) : contAt C v ∈ C := by
  unfold contAt
  rw [List.getD_eq_getElem?_getD, List.getElem?_eq_getElem (show v.toNat < C.length by omega)]
  exact List.getElem_mem _
theorem treeStaysW (l l' : List Mv) (hl : l.length ≤ 140737488351232) (hl' : l'.length ≤ 140737488351232) (w : Int) : FV Try.prog [] 3 [mvsD l, mvsD l', .int .i64 w] (fun r => r = .bool true) := by
  refine fv_enter_v Try.func3 rfl rfl fun Q hQ => ?_
  repeat' first
    | refine jw_ret (hQ _ _ (.inr rfl) ⟨5, _, _, rfl, rfl, ?_⟩)
    | refine jw_ret (hQ _ _ (.inr rfl) ⟨_, rfl, ?_⟩)
    | refine jw_seq_k fun K hK => ?_
    | refine jw_block ?_
    | (refine jw_skip ?_; try simp)
    | (refine jw_exit ?_; try simp)
    | (refine jw_cond rfl (fun hc => ?_) (fun hc => ?_) <;> (try simp at hc) <;> (try (exfalso; first | omega | exact absurd hc (by assumption))))
    | ((fail_if_success (refine jw_c (id := 2) ?_)); (refine jw_c ?_; simp (maxSteps := 1000000) [Try.f3]))
    | ((fail_if_success (refine jw_draw_j (id := 2) mixed (by kernel_rfl) ?_)); (refine jw_draw_j mixed (by kernel_rfl) ?_; simp (maxSteps := 1000000) [Try.f3]))
    | (first | (apply hK; clear hK) | (clear hK; apply hK; clear hK) | (clear hK; clear hK; apply hK; clear hK) | (clear hK; clear hK; clear hK; apply hK; clear hK))
    | exact hQ _ _ (.inl rfl) ⟨5, _, _, rfl, rfl, rfl⟩
    | refine hQ _ _ (.inl rfl) ⟨5, _, _, rfl, rfl, ?_⟩
    | refine hQ _ _ (.inl rfl) ⟨_, rfl, ?_⟩
    | (refine jl_call (f := 8) rfl rfl rfl rfl rfl (deedsF l hl 30 (by omega) false) (by simp [BelL, Bel]) ?_; rintro r ⟨ds, hok, rfl⟩; simp (maxSteps := 1000000) [Try.f3])
    | (refine jd_newc rfl rfl (by simp) ?_; simp (maxSteps := 1000000) [thD, thL, Try.f3])
    | (refine okN_or ?_; simp (maxSteps := 1000000) [thD, thL, Try.f3])
    | (refine okC_guard (fun hc => ?_) (fun hc => ?_) <;> (first | simp (maxSteps := 1000000) [hc, of_decide_eq_true hc, Try.f3] | simp (maxSteps := 1000000) [hc, of_decide_eq_false hc, Try.f3] | simp (maxSteps := 1000000) [hc, Try.f3]) <;> (try simp at hc) <;> (try (exfalso; first | omega | exact absurd hc (by assumption))))
    | (refine okJ_guard (fun hc => ?_) (fun hc => ?_) <;> (first | simp (maxSteps := 1000000) [hc, of_decide_eq_true hc, Try.f3] | simp (maxSteps := 1000000) [hc, of_decide_eq_false hc, Try.f3] | simp (maxSteps := 1000000) [hc, Try.f3]) <;> (try simp at hc) <;> (try (exfalso; first | omega | exact absurd hc (by assumption))))
    | (refine And.intro (by first | assumption | omega | (simp [BelL, Bel]; done) | (simp; omega)) ?_; try simp (maxSteps := 1000000) [Try.f3])
    | (refine okC_or ?_; simp (maxSteps := 1000000) [Try.f3])
  have hM := madeF (G := []) ds (by have := hok.len; omega) hok.kb
  have hmd := hok.made
  have hml := madeN_le (runC ds).1
  rw [runC_len] at hml
  have hdl := hok.len
  obtain ⟨V, hV⟩ : ∃ V, (runC ds).2.length = V := ⟨_, rfl⟩
  have hmV : madeN (runC ds).1 = V - 1 := by omega
  rw [hmV] at hM
  have hV1 : 1 ≤ V ∧ V ≤ 31 := by omega
  obtain ⟨n, hn⟩ : ∃ n, V - 1 = n := ⟨_, rfl⟩
  rw [hn] at hM
  have hw1 := wrap_i64 (n := (n : Int) + 1) (by omega) (by omega)
  have p1 := pickedG (G := []) w ((n : Int) + 1) (by omega) (by omega)
  have v0 := Int.emod_nonneg w (show (n : Int) + 1 ≠ 0 by omega)
  have v1 := Int.emod_lt_of_pos w (show (0 : Int) < (n : Int) + 1 by omega)
  generalize w % ((n : Int) + 1) = v at *
  have hLa := lastF (G := []) ds hok.kb (by omega) v v0 (by omega)
  have hdf := des_len ds
  have hct : List.take (ds.length * 5) (ds.flatMap deC) = ds.flatMap deC := List.take_of_length_le (by omega)
  obtain ⟨A, hA0⟩ : ∃ A, contAt (runC ds).2 v = A := ⟨_, rfl⟩
  have hAm := (runC_cont ds hok.kb A (by rw [← hA0]; exact cont_mem v0 (by omega)))
  rw [hA0] at hLa
  repeat' first
    | refine jw_ret (hQ _ _ (.inr rfl) ⟨5, _, _, rfl, rfl, ?_⟩)
    | refine jw_ret (hQ _ _ (.inr rfl) ⟨_, rfl, ?_⟩)
    | refine jw_seq_k fun K hK => ?_
    | refine jw_block ?_
    | (refine jw_skip ?_; try simp)
    | (refine jw_exit ?_; try simp)
    | (refine jw_cond rfl (fun hc => ?_) (fun hc => ?_) <;> (try simp at hc) <;> (try (exfalso; first | omega | exact absurd hc (by assumption))))
    | (refine jw_c ?_; simp (maxSteps := 1000000) [desD, hw1, hdf, hct, okC_des, show ds.length * 72 ≤ 140737488355328 by omega])
    | (refine jw_draw_j mixed (by kernel_rfl) ?_; simp (maxSteps := 1000000) [desD, hw1, hdf, hct, okC_des, show ds.length * 72 ≤ 140737488355328 by omega])
    | (first | (apply hK; clear hK) | (clear hK; apply hK; clear hK) | (clear hK; clear hK; apply hK; clear hK) | (clear hK; clear hK; clear hK; apply hK; clear hK))
    | exact hQ _ _ (.inl rfl) ⟨5, _, _, rfl, rfl, rfl⟩
    | refine hQ _ _ (.inl rfl) ⟨5, _, _, rfl, rfl, ?_⟩
    | refine hQ _ _ (.inl rfl) ⟨_, rfl, ?_⟩
    | (refine jl_call (f := 9) rfl rfl rfl rfl rfl (hM) (by simp [BelL, Bel]) ?_; rintro r rfl; simp (maxSteps := 1000000) [desD, hw1, hdf, hct, okC_des, show ds.length * 72 ≤ 140737488355328 by omega])
    | (refine jd_call (f := 9) rfl rfl rfl rfl rfl (hM) (by simp [BelL, Bel]) ?_; simp (maxSteps := 1000000) [desD, hw1, hdf, hct, okC_des, show ds.length * 72 ≤ 140737488355328 by omega])
    | (refine jl_call (f := 10) rfl rfl rfl rfl rfl (p1) (by simp [BelL, Bel]) ?_; rintro r rfl; simp (maxSteps := 1000000) [desD, hw1, hdf, hct, okC_des, show ds.length * 72 ≤ 140737488355328 by omega])
    | (refine jd_call (f := 10) rfl rfl rfl rfl rfl (p1) (by simp [BelL, Bel]) ?_; simp (maxSteps := 1000000) [desD, hw1, hdf, hct, okC_des, show ds.length * 72 ≤ 140737488355328 by omega])
    | (refine jl_call (f := 11) rfl rfl rfl rfl rfl (hLa) (by simp [BelL, Bel]) ?_; rintro r rfl; simp (maxSteps := 1000000) [desD, hw1, hdf, hct, okC_des, show ds.length * 72 ≤ 140737488355328 by omega])
    | (refine jd_call (f := 11) rfl rfl rfl rfl rfl (hLa) (by simp [BelL, Bel]) ?_; simp (maxSteps := 1000000) [desD, hw1, hdf, hct, okC_des, show ds.length * 72 ≤ 140737488355328 by omega])
    | (refine jd_newc rfl rfl (by simp) ?_; simp (maxSteps := 1000000) [thD, thL, desD, hw1, hdf, hct, okC_des, show ds.length * 72 ≤ 140737488355328 by omega])
    | (refine okN_or ?_; simp (maxSteps := 1000000) [thD, thL, desD, hw1, hdf, hct, okC_des, show ds.length * 72 ≤ 140737488355328 by omega])
    | (refine okC_guard (fun hc => ?_) (fun hc => ?_) <;> (first | simp (maxSteps := 1000000) [hc, of_decide_eq_true hc, desD, hw1, hdf, hct, okC_des, show ds.length * 72 ≤ 140737488355328 by omega] | simp (maxSteps := 1000000) [hc, of_decide_eq_false hc, desD, hw1, hdf, hct, okC_des, show ds.length * 72 ≤ 140737488355328 by omega] | simp (maxSteps := 1000000) [hc, desD, hw1, hdf, hct, okC_des, show ds.length * 72 ≤ 140737488355328 by omega]) <;> (try simp at hc) <;> (try (exfalso; first | omega | exact absurd hc (by assumption))))
    | (refine okJ_guard (fun hc => ?_) (fun hc => ?_) <;> (first | simp (maxSteps := 1000000) [hc, of_decide_eq_true hc, desD, hw1, hdf, hct, okC_des, show ds.length * 72 ≤ 140737488355328 by omega] | simp (maxSteps := 1000000) [hc, of_decide_eq_false hc, desD, hw1, hdf, hct, okC_des, show ds.length * 72 ≤ 140737488355328 by omega] | simp (maxSteps := 1000000) [hc, desD, hw1, hdf, hct, okC_des, show ds.length * 72 ≤ 140737488355328 by omega]) <;> (try simp at hc) <;> (try (exfalso; first | omega | exact absurd hc (by assumption))))
    | (refine And.intro (by first | assumption | omega | (simp [BelL, Bel]; done) | (simp; omega)) ?_; try simp (maxSteps := 1000000) [desD, hw1, hdf, hct, okC_des, show ds.length * 72 ≤ 140737488355328 by omega])
    | (refine okC_or ?_; simp (maxSteps := 1000000) [desD, hw1, hdf, hct, okC_des, show ds.length * 72 ≤ 140737488355328 by omega])
  refine jw_loop_v (fun m z => ∃ (i : Nat), ∃ (es : List Deed), (i ≤ 30 ∧ i ≤ l'.length ∧ es.length = i ∧ ∀ x ∈ es, KB x.key) ∧ 30 - i = m ∧ z = ⟨[.any, mvsD l'] ++ List.replicate 7 .any ++ [.int .i64 n, .int .i64 v, ensD false A, .bool true, .ms 0 ((ds.length + i) * 5) 0 (ds.length + i) 5, .int .i64 i] ++ List.replicate 81 .any, [some (.c ((ds ++ es).flatMap deC))]⟩) ⟨[.any, mvsD l'] ++ List.replicate 7 .any ++ [.int .i64 n, .int .i64 v, ensD false A, .bool true, .ms 0 ((ds.length + (0)) * 5) 0 (ds.length + (0)) 5, .int .i64 (0)] ++ List.replicate 81 .any, [some (.c ((ds ++ ([])).flatMap deC))]⟩ (view_takeE (sl := [.any, mvsD l'] ++ List.replicate 7 .any ++ [.int .i64 n, .int .i64 v, ensD false A, .bool true, .ms 0 ((ds.length + (0)) * 5) 0 (ds.length + (0)) 5, .int .i64 (0)] ++ List.replicate 81 .any) (σ0 := [some (.c ((ds ++ ([])).flatMap deC))]) 1 (by simp [mvsD, ensD]) (by first | omega | simp) (by first | omega | (simp [mvsD, ensD]; done) | (simp [mvsD, ensD]; omega)) (by first | exact LewS.refl _ | simp [mvsD, ensD]) (by simp [BelL, Bel, mvsD, ensD]) (by simp [BelS, BelOb, BelL, Bel, mvsD, ensD])) ⟨(0), ([]), ?_, rfl, rfl⟩ ?_
  rotate_left
  rintro m z ⟨i, es, hA, rfl, rfl⟩ KA hKA
  · obtain ⟨hi1, hi2, hel, hkb⟩ := hA
    have hw := wrap_i64 (n := (i : Int) + 1) (by omega) (by omega)
    have hal := des_len (ds ++ es)
    rw [List.length_append, hel] at hal
    have hes := des_len es
    rw [hel] at hes
    have hsm : ds.length * 5 + i * 5 = (ds.length + i) * 5 := by omega
    by_cases hlt : i < l'.length ∧ i < 30
    · obtain ⟨h1, h2⟩ := hlt
      have hdr := flat_drop mvC_len l' i h1
      have hmf := mvs_len l'
      have g0 := getD_flat mvC_len (l := l') (i := i) (j := 0) (d := .bool l'[i].drop) h1 (by omega) rfl
      have g1 := getD_flat mvC_len (l := l') (i := i) (j := 1) (d := .int .i64 l'[i].back) h1 (by omega) rfl
      have g2 := getD_flat mvC_len (l := l') (i := i) (j := 2) (d := .int .i64 l'[i].key) h1 (by omega) rfl
      have g3 := getD_flat mvC_len (l := l') (i := i) (j := 3) (d := .int .i64 l'[i].val) h1 (by omega) rfl
      obtain ⟨m, hm⟩ : ∃ m, l'[i] = m := ⟨_, rfl⟩
      rw [hm] at hdr g0 g1 g2 g3
      have h0g := fun h => get_of (show (l'.flatMap mvC)[i * 4]? = _ from g0) h
      have hKy := keyOfF (G := []) m.key
      have p2 := pickedG (G := []) m.back ((n : Int) + 1) (by omega) (by omega)
      generalize m.back % ((n : Int) + 1) = vv at *
      cases hd : m.drop with
      | false =>
        rw [show mvC m = [.bool m.drop, .int .i64 m.back, .int .i64 m.key, .int .i64 m.val] from rfl, hd] at hdr
        rw [hd] at g0 h0g
        repeat' first
          | refine jw_ret (hQ _ _ (.inr rfl) ⟨5, _, _, rfl, rfl, ?_⟩)
          | refine jw_ret (hQ _ _ (.inr rfl) ⟨_, rfl, ?_⟩)
          | refine jw_seq_k fun K hK => ?_
          | refine jw_block ?_
          | (refine jw_skip ?_; try simp)
          | (refine jw_exit ?_; try simp)
          | (refine jw_cond rfl (fun hc => ?_) (fun hc => ?_) <;> (try simp at hc) <;> (try (exfalso; first | omega | exact absurd hc (by assumption))))
          | (refine jw_c ?_; simp (maxSteps := 1000000) [mvsD, hdr, hmf, g0, h0g, g1, g2, g3, h1, h2, hw, hw1, hdf, hes, hsm, okCell, okRef, show (i : Int) < l'.length by omega, show (i : Int) < 30 by omega, show i * 4 < l'.length * 4 by omega, show (ds.length + i + 1) * 72 ≤ 140737488355328 by omega])
          | (refine jw_draw_e (id := 15) [(25, 2)] mixed (by kernel_rfl) (by kernel_rfl) ?_; simp (maxSteps := 1000000) [mvsD, hdr, hmf, g0, h0g, g1, g2, g3, h1, h2, hw, hw1, hdf, hes, hsm, okCell, okRef, show (i : Int) < l'.length by omega, show (i : Int) < 30 by omega, show i * 4 < l'.length * 4 by omega, show (ds.length + i + 1) * 72 ≤ 140737488355328 by omega])
          | (refine jw_draw_j mixed (by kernel_rfl) ?_; simp (maxSteps := 1000000) [mvsD, hdr, hmf, g0, h0g, g1, g2, g3, h1, h2, hw, hw1, hdf, hes, hsm, okCell, okRef, show (i : Int) < l'.length by omega, show (i : Int) < 30 by omega, show i * 4 < l'.length * 4 by omega, show (ds.length + i + 1) * 72 ≤ 140737488355328 by omega])
          | (first | (apply hK; clear hK) | (clear hK; apply hK; clear hK) | (clear hK; clear hK; apply hK; clear hK) | (clear hK; clear hK; clear hK; apply hK; clear hK))
          | exact hQ _ _ (.inl rfl) ⟨5, _, _, rfl, rfl, rfl⟩
          | refine hQ _ _ (.inl rfl) ⟨5, _, _, rfl, rfl, ?_⟩
          | refine hQ _ _ (.inl rfl) ⟨_, rfl, ?_⟩
          | (refine jl_call (f := 12) rfl rfl rfl rfl rfl (hKy) (by simp [BelL, Bel]) ?_; rintro r rfl; simp (maxSteps := 1000000) [mvsD, hdr, hmf, g0, h0g, g1, g2, g3, h1, h2, hw, hw1, hdf, hes, hsm, okCell, okRef, show (i : Int) < l'.length by omega, show (i : Int) < 30 by omega, show i * 4 < l'.length * 4 by omega, show (ds.length + i + 1) * 72 ≤ 140737488355328 by omega])
          | (refine jd_call (f := 12) rfl rfl rfl rfl rfl (hKy) (by simp [BelL, Bel]) ?_; simp (maxSteps := 1000000) [mvsD, hdr, hmf, g0, h0g, g1, g2, g3, h1, h2, hw, hw1, hdf, hes, hsm, okCell, okRef, show (i : Int) < l'.length by omega, show (i : Int) < 30 by omega, show i * 4 < l'.length * 4 by omega, show (ds.length + i + 1) * 72 ≤ 140737488355328 by omega])
          | (refine js_call (f := 12) rfl rfl rfl rfl rfl (hKy) (by simp [BelL, Bel]) rfl ?_; simp (maxSteps := 1000000) [mvsD, hdr, hmf, g0, h0g, g1, g2, g3, h1, h2, hw, hw1, hdf, hes, hsm, okCell, okRef, show (i : Int) < l'.length by omega, show (i : Int) < 30 by omega, show i * 4 < l'.length * 4 by omega, show (ds.length + i + 1) * 72 ≤ 140737488355328 by omega])
          | (refine jl_call (f := 10) rfl rfl rfl rfl rfl (p2) (by simp [BelL, Bel]) ?_; rintro r rfl; simp (maxSteps := 1000000) [mvsD, hdr, hmf, g0, h0g, g1, g2, g3, h1, h2, hw, hw1, hdf, hes, hsm, okCell, okRef, show (i : Int) < l'.length by omega, show (i : Int) < 30 by omega, show i * 4 < l'.length * 4 by omega, show (ds.length + i + 1) * 72 ≤ 140737488355328 by omega])
          | (refine jd_call (f := 10) rfl rfl rfl rfl rfl (p2) (by simp [BelL, Bel]) ?_; simp (maxSteps := 1000000) [mvsD, hdr, hmf, g0, h0g, g1, g2, g3, h1, h2, hw, hw1, hdf, hes, hsm, okCell, okRef, show (i : Int) < l'.length by omega, show (i : Int) < 30 by omega, show i * 4 < l'.length * 4 by omega, show (ds.length + i + 1) * 72 ≤ 140737488355328 by omega])
          | (refine js_call (f := 10) rfl rfl rfl rfl rfl (p2) (by simp [BelL, Bel]) rfl ?_; simp (maxSteps := 1000000) [mvsD, hdr, hmf, g0, h0g, g1, g2, g3, h1, h2, hw, hw1, hdf, hes, hsm, okCell, okRef, show (i : Int) < l'.length by omega, show (i : Int) < 30 by omega, show i * 4 < l'.length * 4 by omega, show (ds.length + i + 1) * 72 ≤ 140737488355328 by omega])
          | (refine jd_newc rfl rfl (by simp) ?_; simp (maxSteps := 1000000) [thD, thL, mvsD, hdr, hmf, g0, h0g, g1, g2, g3, h1, h2, hw, hw1, hdf, hes, hsm, okCell, okRef, show (i : Int) < l'.length by omega, show (i : Int) < 30 by omega, show i * 4 < l'.length * 4 by omega, show (ds.length + i + 1) * 72 ≤ 140737488355328 by omega])
          | (refine okN_or ?_; simp (maxSteps := 1000000) [thD, thL, mvsD, hdr, hmf, g0, h0g, g1, g2, g3, h1, h2, hw, hw1, hdf, hes, hsm, okCell, okRef, show (i : Int) < l'.length by omega, show (i : Int) < 30 by omega, show i * 4 < l'.length * 4 by omega, show (ds.length + i + 1) * 72 ≤ 140737488355328 by omega])
          | (refine js_newc rfl rfl (by simp) rfl ?_; simp (maxSteps := 1000000) [mvsD, hdr, hmf, g0, h0g, g1, g2, g3, h1, h2, hw, hw1, hdf, hes, hsm, okCell, okRef, show (i : Int) < l'.length by omega, show (i : Int) < 30 by omega, show i * 4 < l'.length * 4 by omega, show (ds.length + i + 1) * 72 ≤ 140737488355328 by omega])
          | (refine okM_or ?_; simp (maxSteps := 1000000) [mvsD, hdr, hmf, g0, h0g, g1, g2, g3, h1, h2, hw, hw1, hdf, hes, hsm, okCell, okRef, show (i : Int) < l'.length by omega, show (i : Int) < 30 by omega, show i * 4 < l'.length * 4 by omega, show (ds.length + i + 1) * 72 ≤ 140737488355328 by omega])
          | (refine okS_or ?_; simp (maxSteps := 1000000) [mvsD, hdr, hmf, g0, h0g, g1, g2, g3, h1, h2, hw, hw1, hdf, hes, hsm, okCell, okRef, show (i : Int) < l'.length by omega, show (i : Int) < 30 by omega, show i * 4 < l'.length * 4 by omega, show (ds.length + i + 1) * 72 ≤ 140737488355328 by omega])
          | (refine okS_guard (fun hc => ?_) (fun hc => ?_) <;> (first | simp (maxSteps := 1000000) [hc, of_decide_eq_true hc, mvsD, hdr, hmf, g0, h0g, g1, g2, g3, h1, h2, hw, hw1, hdf, hes, hsm, okCell, okRef, show (i : Int) < l'.length by omega, show (i : Int) < 30 by omega, show i * 4 < l'.length * 4 by omega, show (ds.length + i + 1) * 72 ≤ 140737488355328 by omega] | simp (maxSteps := 1000000) [hc, of_decide_eq_false hc, mvsD, hdr, hmf, g0, h0g, g1, g2, g3, h1, h2, hw, hw1, hdf, hes, hsm, okCell, okRef, show (i : Int) < l'.length by omega, show (i : Int) < 30 by omega, show i * 4 < l'.length * 4 by omega, show (ds.length + i + 1) * 72 ≤ 140737488355328 by omega] | simp (maxSteps := 1000000) [hc, mvsD, hdr, hmf, g0, h0g, g1, g2, g3, h1, h2, hw, hw1, hdf, hes, hsm, okCell, okRef, show (i : Int) < l'.length by omega, show (i : Int) < 30 by omega, show i * 4 < l'.length * 4 by omega, show (ds.length + i + 1) * 72 ≤ 140737488355328 by omega]) <;> (try simp at hc) <;> (try (exfalso; first | omega | exact absurd hc (by assumption))))
          | (refine okC_guard (fun hc => ?_) (fun hc => ?_) <;> (first | simp (maxSteps := 1000000) [hc, of_decide_eq_true hc, mvsD, hdr, hmf, g0, h0g, g1, g2, g3, h1, h2, hw, hw1, hdf, hes, hsm, okCell, okRef, show (i : Int) < l'.length by omega, show (i : Int) < 30 by omega, show i * 4 < l'.length * 4 by omega, show (ds.length + i + 1) * 72 ≤ 140737488355328 by omega] | simp (maxSteps := 1000000) [hc, of_decide_eq_false hc, mvsD, hdr, hmf, g0, h0g, g1, g2, g3, h1, h2, hw, hw1, hdf, hes, hsm, okCell, okRef, show (i : Int) < l'.length by omega, show (i : Int) < 30 by omega, show i * 4 < l'.length * 4 by omega, show (ds.length + i + 1) * 72 ≤ 140737488355328 by omega] | simp (maxSteps := 1000000) [hc, mvsD, hdr, hmf, g0, h0g, g1, g2, g3, h1, h2, hw, hw1, hdf, hes, hsm, okCell, okRef, show (i : Int) < l'.length by omega, show (i : Int) < 30 by omega, show i * 4 < l'.length * 4 by omega, show (ds.length + i + 1) * 72 ≤ 140737488355328 by omega]) <;> (try simp at hc) <;> (try (exfalso; first | omega | exact absurd hc (by assumption))))
          | (refine okJ_guard (fun hc => ?_) (fun hc => ?_) <;> (first | simp (maxSteps := 1000000) [hc, of_decide_eq_true hc, mvsD, hdr, hmf, g0, h0g, g1, g2, g3, h1, h2, hw, hw1, hdf, hes, hsm, okCell, okRef, show (i : Int) < l'.length by omega, show (i : Int) < 30 by omega, show i * 4 < l'.length * 4 by omega, show (ds.length + i + 1) * 72 ≤ 140737488355328 by omega] | simp (maxSteps := 1000000) [hc, of_decide_eq_false hc, mvsD, hdr, hmf, g0, h0g, g1, g2, g3, h1, h2, hw, hw1, hdf, hes, hsm, okCell, okRef, show (i : Int) < l'.length by omega, show (i : Int) < 30 by omega, show i * 4 < l'.length * 4 by omega, show (ds.length + i + 1) * 72 ≤ 140737488355328 by omega] | simp (maxSteps := 1000000) [hc, mvsD, hdr, hmf, g0, h0g, g1, g2, g3, h1, h2, hw, hw1, hdf, hes, hsm, okCell, okRef, show (i : Int) < l'.length by omega, show (i : Int) < 30 by omega, show i * 4 < l'.length * 4 by omega, show (ds.length + i + 1) * 72 ≤ 140737488355328 by omega]) <;> (try simp at hc) <;> (try (exfalso; first | omega | exact absurd hc (by assumption))))
          | (refine And.intro (by first | assumption | omega | (simp [BelL, Bel]; done) | (simp; omega)) ?_; try simp (maxSteps := 1000000) [mvsD, hdr, hmf, g0, h0g, g1, g2, g3, h1, h2, hw, hw1, hdf, hes, hsm, okCell, okRef, show (i : Int) < l'.length by omega, show (i : Int) < 30 by omega, show i * 4 < l'.length * 4 by omega, show (ds.length + i + 1) * 72 ≤ 140737488355328 by omega])
          | (refine okC_or ?_; simp (maxSteps := 1000000) [mvsD, hdr, hmf, g0, h0g, g1, g2, g3, h1, h2, hw, hw1, hdf, hes, hsm, okCell, okRef, show (i : Int) < l'.length by omega, show (i : Int) < 30 by omega, show i * 4 < l'.length * 4 by omega, show (ds.length + i + 1) * 72 ≤ 140737488355328 by omega])
        have hda : (ds ++ (es ++ [(⟨1, vv, kO m.key, [IntKind.u8.wrap m.val], 0⟩ : Deed)])).flatMap deC = ds.flatMap deC ++ (es.flatMap deC ++ [.int .i64 1, .int .i64 vv, bytesD (kO m.key), bytesD [IntKind.u8.wrap m.val], .int .i64 0]) := by rw [List.flatMap_append, List.flatMap_append]; rfl
        refine hKA (30 - (i + 1)) _ ⟨[.any, mvsD l'] ++ List.replicate 7 .any ++ [.int .i64 n, .int .i64 v, ensD false A, .bool true, .ms 0 ((ds.length + (i + 1)) * 5) 0 (ds.length + (i + 1)) 5, .int .i64 (i + 1)] ++ List.replicate 81 .any, [some (.c ((ds ++ (es ++ [(⟨1, vv, kO m.key, [IntKind.u8.wrap m.val], 0⟩ : Deed)])).flatMap deC))]⟩ (by omega) (view_takeE (sl := [.any, mvsD l'] ++ List.replicate 7 .any ++ [.int .i64 n, .int .i64 v, ensD false A, .bool true, .ms 0 ((ds.length + (i + 1)) * 5) 0 (ds.length + (i + 1)) 5, .int .i64 (i + 1)] ++ List.replicate 81 .any) (σ0 := [some (.c ((ds ++ (es ++ [(⟨1, vv, kO m.key, [IntKind.u8.wrap m.val], 0⟩ : Deed)])).flatMap deC))]) 1 (by simp [hda, mvsD, ensD, numsD, show (ds.length + i + 1) * 5 = (ds.length + i) * 5 + 5 by omega, show ds.length + (i + 1) = ds.length + i + 1 by omega]) (by first | omega | simp) (by first | omega | (simp [hda, mvsD, ensD, numsD, show (ds.length + i + 1) * 5 = (ds.length + i) * 5 + 5 by omega, show ds.length + (i + 1) = ds.length + i + 1 by omega]; done) | (simp [hda, mvsD, ensD, numsD, show (ds.length + i + 1) * 5 = (ds.length + i) * 5 + 5 by omega, show ds.length + (i + 1) = ds.length + i + 1 by omega]; omega)) (by first | exact LewS.refl _ | simp [hda, mvsD, ensD, numsD, show (ds.length + i + 1) * 5 = (ds.length + i) * 5 + 5 by omega, show ds.length + (i + 1) = ds.length + i + 1 by omega]) (by simp [BelL, Bel, hda, mvsD, ensD, numsD, show (ds.length + i + 1) * 5 = (ds.length + i) * 5 + 5 by omega, show ds.length + (i + 1) = ds.length + i + 1 by omega]) (by simp [BelS, BelOb, BelL, Bel, hda, mvsD, ensD, numsD, show (ds.length + i + 1) * 5 = (ds.length + i) * 5 + 5 by omega, show ds.length + (i + 1) = ds.length + i + 1 by omega])) ⟨(i + 1), (es ++ [(⟨1, vv, kO m.key, [IntKind.u8.wrap m.val], 0⟩ : Deed)]), ?_, rfl, rfl⟩
        exact ⟨by omega, by omega, by simp [hel], fun x hx => (List.mem_append.1 hx).elim (hkb x) (fun h => by rw [List.mem_singleton.1 h]; exact kO_kb _)⟩
      | true =>
        rw [show mvC m = [.bool m.drop, .int .i64 m.back, .int .i64 m.key, .int .i64 m.val] from rfl, hd] at hdr
        rw [hd] at g0 h0g
        repeat' first
          | refine jw_ret (hQ _ _ (.inr rfl) ⟨5, _, _, rfl, rfl, ?_⟩)
          | refine jw_ret (hQ _ _ (.inr rfl) ⟨_, rfl, ?_⟩)
          | refine jw_seq_k fun K hK => ?_
          | refine jw_block ?_
          | (refine jw_skip ?_; try simp)
          | (refine jw_exit ?_; try simp)
          | (refine jw_cond rfl (fun hc => ?_) (fun hc => ?_) <;> (try simp at hc) <;> (try (exfalso; first | omega | exact absurd hc (by assumption))))
          | (refine jw_c ?_; simp (maxSteps := 1000000) [mvsD, hdr, hmf, g0, h0g, g1, g2, g3, h1, h2, hw, hw1, hdf, hes, hsm, okCell, okRef, show (i : Int) < l'.length by omega, show (i : Int) < 30 by omega, show i * 4 < l'.length * 4 by omega, show (ds.length + i + 1) * 72 ≤ 140737488355328 by omega])
          | (refine jw_draw_e (id := 15) [(25, 2)] mixed (by kernel_rfl) (by kernel_rfl) ?_; simp (maxSteps := 1000000) [mvsD, hdr, hmf, g0, h0g, g1, g2, g3, h1, h2, hw, hw1, hdf, hes, hsm, okCell, okRef, show (i : Int) < l'.length by omega, show (i : Int) < 30 by omega, show i * 4 < l'.length * 4 by omega, show (ds.length + i + 1) * 72 ≤ 140737488355328 by omega])
          | (refine jw_draw_j mixed (by kernel_rfl) ?_; simp (maxSteps := 1000000) [mvsD, hdr, hmf, g0, h0g, g1, g2, g3, h1, h2, hw, hw1, hdf, hes, hsm, okCell, okRef, show (i : Int) < l'.length by omega, show (i : Int) < 30 by omega, show i * 4 < l'.length * 4 by omega, show (ds.length + i + 1) * 72 ≤ 140737488355328 by omega])
          | (first | (apply hK; clear hK) | (clear hK; apply hK; clear hK) | (clear hK; clear hK; apply hK; clear hK) | (clear hK; clear hK; clear hK; apply hK; clear hK))
          | exact hQ _ _ (.inl rfl) ⟨5, _, _, rfl, rfl, rfl⟩
          | refine hQ _ _ (.inl rfl) ⟨5, _, _, rfl, rfl, ?_⟩
          | refine hQ _ _ (.inl rfl) ⟨_, rfl, ?_⟩
          | (refine jl_call (f := 12) rfl rfl rfl rfl rfl (hKy) (by simp [BelL, Bel]) ?_; rintro r rfl; simp (maxSteps := 1000000) [mvsD, hdr, hmf, g0, h0g, g1, g2, g3, h1, h2, hw, hw1, hdf, hes, hsm, okCell, okRef, show (i : Int) < l'.length by omega, show (i : Int) < 30 by omega, show i * 4 < l'.length * 4 by omega, show (ds.length + i + 1) * 72 ≤ 140737488355328 by omega])
          | (refine jd_call (f := 12) rfl rfl rfl rfl rfl (hKy) (by simp [BelL, Bel]) ?_; simp (maxSteps := 1000000) [mvsD, hdr, hmf, g0, h0g, g1, g2, g3, h1, h2, hw, hw1, hdf, hes, hsm, okCell, okRef, show (i : Int) < l'.length by omega, show (i : Int) < 30 by omega, show i * 4 < l'.length * 4 by omega, show (ds.length + i + 1) * 72 ≤ 140737488355328 by omega])
          | (refine js_call (f := 12) rfl rfl rfl rfl rfl (hKy) (by simp [BelL, Bel]) rfl ?_; simp (maxSteps := 1000000) [mvsD, hdr, hmf, g0, h0g, g1, g2, g3, h1, h2, hw, hw1, hdf, hes, hsm, okCell, okRef, show (i : Int) < l'.length by omega, show (i : Int) < 30 by omega, show i * 4 < l'.length * 4 by omega, show (ds.length + i + 1) * 72 ≤ 140737488355328 by omega])
          | (refine jl_call (f := 10) rfl rfl rfl rfl rfl (p2) (by simp [BelL, Bel]) ?_; rintro r rfl; simp (maxSteps := 1000000) [mvsD, hdr, hmf, g0, h0g, g1, g2, g3, h1, h2, hw, hw1, hdf, hes, hsm, okCell, okRef, show (i : Int) < l'.length by omega, show (i : Int) < 30 by omega, show i * 4 < l'.length * 4 by omega, show (ds.length + i + 1) * 72 ≤ 140737488355328 by omega])
          | (refine jd_call (f := 10) rfl rfl rfl rfl rfl (p2) (by simp [BelL, Bel]) ?_; simp (maxSteps := 1000000) [mvsD, hdr, hmf, g0, h0g, g1, g2, g3, h1, h2, hw, hw1, hdf, hes, hsm, okCell, okRef, show (i : Int) < l'.length by omega, show (i : Int) < 30 by omega, show i * 4 < l'.length * 4 by omega, show (ds.length + i + 1) * 72 ≤ 140737488355328 by omega])
          | (refine js_call (f := 10) rfl rfl rfl rfl rfl (p2) (by simp [BelL, Bel]) rfl ?_; simp (maxSteps := 1000000) [mvsD, hdr, hmf, g0, h0g, g1, g2, g3, h1, h2, hw, hw1, hdf, hes, hsm, okCell, okRef, show (i : Int) < l'.length by omega, show (i : Int) < 30 by omega, show i * 4 < l'.length * 4 by omega, show (ds.length + i + 1) * 72 ≤ 140737488355328 by omega])
          | (refine jd_newc rfl rfl (by simp) ?_; simp (maxSteps := 1000000) [thD, thL, mvsD, hdr, hmf, g0, h0g, g1, g2, g3, h1, h2, hw, hw1, hdf, hes, hsm, okCell, okRef, show (i : Int) < l'.length by omega, show (i : Int) < 30 by omega, show i * 4 < l'.length * 4 by omega, show (ds.length + i + 1) * 72 ≤ 140737488355328 by omega])
          | (refine okN_or ?_; simp (maxSteps := 1000000) [thD, thL, mvsD, hdr, hmf, g0, h0g, g1, g2, g3, h1, h2, hw, hw1, hdf, hes, hsm, okCell, okRef, show (i : Int) < l'.length by omega, show (i : Int) < 30 by omega, show i * 4 < l'.length * 4 by omega, show (ds.length + i + 1) * 72 ≤ 140737488355328 by omega])
          | (refine js_newc rfl rfl (by simp) rfl ?_; simp (maxSteps := 1000000) [mvsD, hdr, hmf, g0, h0g, g1, g2, g3, h1, h2, hw, hw1, hdf, hes, hsm, okCell, okRef, show (i : Int) < l'.length by omega, show (i : Int) < 30 by omega, show i * 4 < l'.length * 4 by omega, show (ds.length + i + 1) * 72 ≤ 140737488355328 by omega])
          | (refine okM_or ?_; simp (maxSteps := 1000000) [mvsD, hdr, hmf, g0, h0g, g1, g2, g3, h1, h2, hw, hw1, hdf, hes, hsm, okCell, okRef, show (i : Int) < l'.length by omega, show (i : Int) < 30 by omega, show i * 4 < l'.length * 4 by omega, show (ds.length + i + 1) * 72 ≤ 140737488355328 by omega])
          | (refine okS_or ?_; simp (maxSteps := 1000000) [mvsD, hdr, hmf, g0, h0g, g1, g2, g3, h1, h2, hw, hw1, hdf, hes, hsm, okCell, okRef, show (i : Int) < l'.length by omega, show (i : Int) < 30 by omega, show i * 4 < l'.length * 4 by omega, show (ds.length + i + 1) * 72 ≤ 140737488355328 by omega])
          | (refine okS_guard (fun hc => ?_) (fun hc => ?_) <;> (first | simp (maxSteps := 1000000) [hc, of_decide_eq_true hc, mvsD, hdr, hmf, g0, h0g, g1, g2, g3, h1, h2, hw, hw1, hdf, hes, hsm, okCell, okRef, show (i : Int) < l'.length by omega, show (i : Int) < 30 by omega, show i * 4 < l'.length * 4 by omega, show (ds.length + i + 1) * 72 ≤ 140737488355328 by omega] | simp (maxSteps := 1000000) [hc, of_decide_eq_false hc, mvsD, hdr, hmf, g0, h0g, g1, g2, g3, h1, h2, hw, hw1, hdf, hes, hsm, okCell, okRef, show (i : Int) < l'.length by omega, show (i : Int) < 30 by omega, show i * 4 < l'.length * 4 by omega, show (ds.length + i + 1) * 72 ≤ 140737488355328 by omega] | simp (maxSteps := 1000000) [hc, mvsD, hdr, hmf, g0, h0g, g1, g2, g3, h1, h2, hw, hw1, hdf, hes, hsm, okCell, okRef, show (i : Int) < l'.length by omega, show (i : Int) < 30 by omega, show i * 4 < l'.length * 4 by omega, show (ds.length + i + 1) * 72 ≤ 140737488355328 by omega]) <;> (try simp at hc) <;> (try (exfalso; first | omega | exact absurd hc (by assumption))))
          | (refine okC_guard (fun hc => ?_) (fun hc => ?_) <;> (first | simp (maxSteps := 1000000) [hc, of_decide_eq_true hc, mvsD, hdr, hmf, g0, h0g, g1, g2, g3, h1, h2, hw, hw1, hdf, hes, hsm, okCell, okRef, show (i : Int) < l'.length by omega, show (i : Int) < 30 by omega, show i * 4 < l'.length * 4 by omega, show (ds.length + i + 1) * 72 ≤ 140737488355328 by omega] | simp (maxSteps := 1000000) [hc, of_decide_eq_false hc, mvsD, hdr, hmf, g0, h0g, g1, g2, g3, h1, h2, hw, hw1, hdf, hes, hsm, okCell, okRef, show (i : Int) < l'.length by omega, show (i : Int) < 30 by omega, show i * 4 < l'.length * 4 by omega, show (ds.length + i + 1) * 72 ≤ 140737488355328 by omega] | simp (maxSteps := 1000000) [hc, mvsD, hdr, hmf, g0, h0g, g1, g2, g3, h1, h2, hw, hw1, hdf, hes, hsm, okCell, okRef, show (i : Int) < l'.length by omega, show (i : Int) < 30 by omega, show i * 4 < l'.length * 4 by omega, show (ds.length + i + 1) * 72 ≤ 140737488355328 by omega]) <;> (try simp at hc) <;> (try (exfalso; first | omega | exact absurd hc (by assumption))))
          | (refine okJ_guard (fun hc => ?_) (fun hc => ?_) <;> (first | simp (maxSteps := 1000000) [hc, of_decide_eq_true hc, mvsD, hdr, hmf, g0, h0g, g1, g2, g3, h1, h2, hw, hw1, hdf, hes, hsm, okCell, okRef, show (i : Int) < l'.length by omega, show (i : Int) < 30 by omega, show i * 4 < l'.length * 4 by omega, show (ds.length + i + 1) * 72 ≤ 140737488355328 by omega] | simp (maxSteps := 1000000) [hc, of_decide_eq_false hc, mvsD, hdr, hmf, g0, h0g, g1, g2, g3, h1, h2, hw, hw1, hdf, hes, hsm, okCell, okRef, show (i : Int) < l'.length by omega, show (i : Int) < 30 by omega, show i * 4 < l'.length * 4 by omega, show (ds.length + i + 1) * 72 ≤ 140737488355328 by omega] | simp (maxSteps := 1000000) [hc, mvsD, hdr, hmf, g0, h0g, g1, g2, g3, h1, h2, hw, hw1, hdf, hes, hsm, okCell, okRef, show (i : Int) < l'.length by omega, show (i : Int) < 30 by omega, show i * 4 < l'.length * 4 by omega, show (ds.length + i + 1) * 72 ≤ 140737488355328 by omega]) <;> (try simp at hc) <;> (try (exfalso; first | omega | exact absurd hc (by assumption))))
          | (refine And.intro (by first | assumption | omega | (simp [BelL, Bel]; done) | (simp; omega)) ?_; try simp (maxSteps := 1000000) [mvsD, hdr, hmf, g0, h0g, g1, g2, g3, h1, h2, hw, hw1, hdf, hes, hsm, okCell, okRef, show (i : Int) < l'.length by omega, show (i : Int) < 30 by omega, show i * 4 < l'.length * 4 by omega, show (ds.length + i + 1) * 72 ≤ 140737488355328 by omega])
          | (refine okC_or ?_; simp (maxSteps := 1000000) [mvsD, hdr, hmf, g0, h0g, g1, g2, g3, h1, h2, hw, hw1, hdf, hes, hsm, okCell, okRef, show (i : Int) < l'.length by omega, show (i : Int) < 30 by omega, show i * 4 < l'.length * 4 by omega, show (ds.length + i + 1) * 72 ≤ 140737488355328 by omega])
        have hda : (ds ++ (es ++ [(⟨2, vv, kO m.key, [IntKind.u8.wrap m.val], 0⟩ : Deed)])).flatMap deC = ds.flatMap deC ++ (es.flatMap deC ++ [.int .i64 2, .int .i64 vv, bytesD (kO m.key), bytesD [IntKind.u8.wrap m.val], .int .i64 0]) := by rw [List.flatMap_append, List.flatMap_append]; rfl
        refine hKA (30 - (i + 1)) _ ⟨[.any, mvsD l'] ++ List.replicate 7 .any ++ [.int .i64 n, .int .i64 v, ensD false A, .bool true, .ms 0 ((ds.length + (i + 1)) * 5) 0 (ds.length + (i + 1)) 5, .int .i64 (i + 1)] ++ List.replicate 81 .any, [some (.c ((ds ++ (es ++ [(⟨2, vv, kO m.key, [IntKind.u8.wrap m.val], 0⟩ : Deed)])).flatMap deC))]⟩ (by omega) (view_takeE (sl := [.any, mvsD l'] ++ List.replicate 7 .any ++ [.int .i64 n, .int .i64 v, ensD false A, .bool true, .ms 0 ((ds.length + (i + 1)) * 5) 0 (ds.length + (i + 1)) 5, .int .i64 (i + 1)] ++ List.replicate 81 .any) (σ0 := [some (.c ((ds ++ (es ++ [(⟨2, vv, kO m.key, [IntKind.u8.wrap m.val], 0⟩ : Deed)])).flatMap deC))]) 1 (by simp [hda, mvsD, ensD, numsD, show (ds.length + i + 1) * 5 = (ds.length + i) * 5 + 5 by omega, show ds.length + (i + 1) = ds.length + i + 1 by omega]) (by first | omega | simp) (by first | omega | (simp [hda, mvsD, ensD, numsD, show (ds.length + i + 1) * 5 = (ds.length + i) * 5 + 5 by omega, show ds.length + (i + 1) = ds.length + i + 1 by omega]; done) | (simp [hda, mvsD, ensD, numsD, show (ds.length + i + 1) * 5 = (ds.length + i) * 5 + 5 by omega, show ds.length + (i + 1) = ds.length + i + 1 by omega]; omega)) (by first | exact LewS.refl _ | simp [hda, mvsD, ensD, numsD, show (ds.length + i + 1) * 5 = (ds.length + i) * 5 + 5 by omega, show ds.length + (i + 1) = ds.length + i + 1 by omega]) (by simp [BelL, Bel, hda, mvsD, ensD, numsD, show (ds.length + i + 1) * 5 = (ds.length + i) * 5 + 5 by omega, show ds.length + (i + 1) = ds.length + i + 1 by omega]) (by simp [BelS, BelOb, BelL, Bel, hda, mvsD, ensD, numsD, show (ds.length + i + 1) * 5 = (ds.length + i) * 5 + 5 by omega, show ds.length + (i + 1) = ds.length + i + 1 by omega])) ⟨(i + 1), (es ++ [(⟨2, vv, kO m.key, [IntKind.u8.wrap m.val], 0⟩ : Deed)]), ?_, rfl, rfl⟩
        exact ⟨by omega, by omega, by simp [hel], fun x hx => (List.mem_append.1 hx).elim (hkb x) (fun h => by rw [List.mem_singleton.1 h]; exact kO_kb _)⟩
    · have hkb2 : ∀ x ∈ ds ++ es, KB x.key := fun x hx => (List.mem_append.1 hx).elim (hok.kb x) (hkb x)
      obtain ⟨c1, c2⟩ := cont_stays (es := es) v0 (show v < (runC ds).2.length by omega)
      have hLb := lastF (G := []) (ds ++ es) hkb2 (by simp; omega) v v0 c2
      rw [c1, hA0] at hLb
      have hS := sameEns (G := []) false false A (by omega) hAm.1.bnd
      have hct2 : List.take ((ds.length + i) * 5) ((ds ++ es).flatMap deC) = (ds ++ es).flatMap deC := List.take_of_length_le (by omega)
      have hD2 : desD (ds ++ es) = .sl false ((ds ++ es).flatMap deC) (ds.length + i) := by unfold desD; rw [List.length_append, hel]
      rw [hD2] at hLb
      generalize ds ++ es = X at *
      unfold ensD at hLb hS
      by_cases hi : i < l'.length
      · repeat' first
          | refine jw_ret (hQ _ _ (.inr rfl) ⟨5, _, _, rfl, rfl, ?_⟩)
          | refine jw_ret (hQ _ _ (.inr rfl) ⟨_, rfl, ?_⟩)
          | refine jw_seq_k fun K hK => ?_
          | refine jw_block ?_
          | (refine jw_skip ?_; try simp)
          | (refine jw_exit ?_; try simp)
          | (refine jw_cond rfl (fun hc => ?_) (fun hc => ?_) <;> (try simp at hc) <;> (try (exfalso; first | omega | exact absurd hc (by assumption))))
          | ((fail_if_success (refine jw_c (id := 16) ?_)); (refine jw_c ?_; simp (maxSteps := 1000000) [mvsD, ensD, hi, show (i : Int) < l'.length by omega, show ¬ (i : Int) < 30 by omega, show ¬ i < 30 by omega]))
          | ((fail_if_success (refine jw_draw_j (id := 16) mixed (by kernel_rfl) ?_)); (refine jw_draw_j mixed (by kernel_rfl) ?_; simp (maxSteps := 1000000) [mvsD, ensD, hi, show (i : Int) < l'.length by omega, show ¬ (i : Int) < 30 by omega, show ¬ i < 30 by omega]))
          | (first | (apply hK; clear hK) | (clear hK; apply hK; clear hK) | (clear hK; clear hK; apply hK; clear hK) | (clear hK; clear hK; clear hK; apply hK; clear hK))
          | exact hQ _ _ (.inl rfl) ⟨5, _, _, rfl, rfl, rfl⟩
          | refine hQ _ _ (.inl rfl) ⟨5, _, _, rfl, rfl, ?_⟩
          | refine hQ _ _ (.inl rfl) ⟨_, rfl, ?_⟩
          | (refine jd_newc rfl rfl (by simp) ?_; simp (maxSteps := 1000000) [thD, thL, mvsD, ensD, hi, show (i : Int) < l'.length by omega, show ¬ (i : Int) < 30 by omega, show ¬ i < 30 by omega])
          | (refine okN_or ?_; simp (maxSteps := 1000000) [thD, thL, mvsD, ensD, hi, show (i : Int) < l'.length by omega, show ¬ (i : Int) < 30 by omega, show ¬ i < 30 by omega])
          | (refine okC_guard (fun hc => ?_) (fun hc => ?_) <;> (first | simp (maxSteps := 1000000) [hc, of_decide_eq_true hc, mvsD, ensD, hi, show (i : Int) < l'.length by omega, show ¬ (i : Int) < 30 by omega, show ¬ i < 30 by omega] | simp (maxSteps := 1000000) [hc, of_decide_eq_false hc, mvsD, ensD, hi, show (i : Int) < l'.length by omega, show ¬ (i : Int) < 30 by omega, show ¬ i < 30 by omega] | simp (maxSteps := 1000000) [hc, mvsD, ensD, hi, show (i : Int) < l'.length by omega, show ¬ (i : Int) < 30 by omega, show ¬ i < 30 by omega]) <;> (try simp at hc) <;> (try (exfalso; first | omega | exact absurd hc (by assumption))))
          | (refine okJ_guard (fun hc => ?_) (fun hc => ?_) <;> (first | simp (maxSteps := 1000000) [hc, of_decide_eq_true hc, mvsD, ensD, hi, show (i : Int) < l'.length by omega, show ¬ (i : Int) < 30 by omega, show ¬ i < 30 by omega] | simp (maxSteps := 1000000) [hc, of_decide_eq_false hc, mvsD, ensD, hi, show (i : Int) < l'.length by omega, show ¬ (i : Int) < 30 by omega, show ¬ i < 30 by omega] | simp (maxSteps := 1000000) [hc, mvsD, ensD, hi, show (i : Int) < l'.length by omega, show ¬ (i : Int) < 30 by omega, show ¬ i < 30 by omega]) <;> (try simp at hc) <;> (try (exfalso; first | omega | exact absurd hc (by assumption))))
          | (refine And.intro (by first | assumption | omega | (simp [BelL, Bel]; done) | (simp; omega)) ?_; try simp (maxSteps := 1000000) [mvsD, ensD, hi, show (i : Int) < l'.length by omega, show ¬ (i : Int) < 30 by omega, show ¬ i < 30 by omega])
          | (refine okC_or ?_; simp (maxSteps := 1000000) [mvsD, ensD, hi, show (i : Int) < l'.length by omega, show ¬ (i : Int) < 30 by omega, show ¬ i < 30 by omega])
        (refine jw_view (view_frz 0 _ rfl (by simp [BelL, Bel, hct2, hal, thL_flat])) ?_; simp (maxSteps := 1000000) [thL, thD, thS, thOb, hct2, hal, thL_flat])
        repeat' first
          | refine jw_seq_k fun K hK => ?_
          | refine jw_block ?_
          | (refine jw_skip ?_; try simp)
          | (refine jw_exit ?_; try simp)
          | (refine jw_cond rfl (fun hc => ?_) (fun hc => ?_) <;> (try simp at hc) <;> (try (exfalso; first | omega | exact absurd hc (by assumption))))
          | (refine jw_c ?_; simp (maxSteps := 1000000) [ensD])
          | (refine jw_draw_j mixed (by kernel_rfl) ?_; simp (maxSteps := 1000000) [ensD])
          | (first | (apply hK; clear hK) | (clear hK; apply hK; clear hK) | (clear hK; clear hK; apply hK; clear hK) | (clear hK; clear hK; clear hK; apply hK; clear hK))
          | (refine jl_call (f := 11) rfl rfl rfl rfl rfl (hLb) (by simp [BelL, Bel]) ?_; rintro r rfl; simp (maxSteps := 1000000) [ensD])
          | (refine jd_call (f := 11) rfl rfl rfl rfl rfl (hLb) (by simp [BelL, Bel]) ?_; simp (maxSteps := 1000000) [ensD])
          | (refine jl_call (f := 13) rfl rfl rfl rfl rfl (hS) (by simp [BelL, Bel]) ?_; rintro r rfl; simp (maxSteps := 1000000) [ensD])
          | (refine jd_call (f := 13) rfl rfl rfl rfl rfl (hS) (by simp [BelL, Bel]) ?_; simp (maxSteps := 1000000) [ensD])
          | (refine jw_ret (hQ _ _ (.inr rfl) (ret_ok 0 ?_ (by first | omega | simp))); simp (maxSteps := 1000000) [okRet, BelL, Bel, BelS, BelOb, ensD])
          | (refine hQ _ _ (.inl rfl) (ret_ok 0 ?_ (by first | omega | simp)); simp (maxSteps := 1000000) [okRet, BelL, Bel, BelS, BelOb, ensD])
          | (refine jd_newc rfl rfl (by simp) ?_; simp (maxSteps := 1000000) [thD, thL, ensD])
          | (refine okN_or ?_; simp (maxSteps := 1000000) [thD, thL, ensD])
          | (refine okC_guard (fun hc => ?_) (fun hc => ?_) <;> (first | simp (maxSteps := 1000000) [hc, of_decide_eq_true hc, ensD] | simp (maxSteps := 1000000) [hc, of_decide_eq_false hc, ensD] | simp (maxSteps := 1000000) [hc, ensD]) <;> (try simp at hc) <;> (try (exfalso; first | omega | exact absurd hc (by assumption))))
          | (refine okJ_guard (fun hc => ?_) (fun hc => ?_) <;> (first | simp (maxSteps := 1000000) [hc, of_decide_eq_true hc, ensD] | simp (maxSteps := 1000000) [hc, of_decide_eq_false hc, ensD] | simp (maxSteps := 1000000) [hc, ensD]) <;> (try simp at hc) <;> (try (exfalso; first | omega | exact absurd hc (by assumption))))
          | (refine And.intro (by first | assumption | omega | (simp [BelL, Bel]; done) | (simp; omega)) ?_; try simp (maxSteps := 1000000) [ensD])
          | (refine okC_or ?_; simp (maxSteps := 1000000) [ensD])
      · repeat' first
          | refine jw_ret (hQ _ _ (.inr rfl) ⟨5, _, _, rfl, rfl, ?_⟩)
          | refine jw_ret (hQ _ _ (.inr rfl) ⟨_, rfl, ?_⟩)
          | refine jw_seq_k fun K hK => ?_
          | refine jw_block ?_
          | (refine jw_skip ?_; try simp)
          | (refine jw_exit ?_; try simp)
          | (refine jw_cond rfl (fun hc => ?_) (fun hc => ?_) <;> (try simp at hc) <;> (try (exfalso; first | omega | exact absurd hc (by assumption))))
          | ((fail_if_success (refine jw_c (id := 16) ?_)); (refine jw_c ?_; simp (maxSteps := 1000000) [mvsD, ensD, hi, show ¬ (i : Int) < l'.length by omega]))
          | ((fail_if_success (refine jw_draw_j (id := 16) mixed (by kernel_rfl) ?_)); (refine jw_draw_j mixed (by kernel_rfl) ?_; simp (maxSteps := 1000000) [mvsD, ensD, hi, show ¬ (i : Int) < l'.length by omega]))
          | (first | (apply hK; clear hK) | (clear hK; apply hK; clear hK) | (clear hK; clear hK; apply hK; clear hK) | (clear hK; clear hK; clear hK; apply hK; clear hK))
          | exact hQ _ _ (.inl rfl) ⟨5, _, _, rfl, rfl, rfl⟩
          | refine hQ _ _ (.inl rfl) ⟨5, _, _, rfl, rfl, ?_⟩
          | refine hQ _ _ (.inl rfl) ⟨_, rfl, ?_⟩
          | (refine jd_newc rfl rfl (by simp) ?_; simp (maxSteps := 1000000) [thD, thL, mvsD, ensD, hi, show ¬ (i : Int) < l'.length by omega])
          | (refine okN_or ?_; simp (maxSteps := 1000000) [thD, thL, mvsD, ensD, hi, show ¬ (i : Int) < l'.length by omega])
          | (refine okC_guard (fun hc => ?_) (fun hc => ?_) <;> (first | simp (maxSteps := 1000000) [hc, of_decide_eq_true hc, mvsD, ensD, hi, show ¬ (i : Int) < l'.length by omega] | simp (maxSteps := 1000000) [hc, of_decide_eq_false hc, mvsD, ensD, hi, show ¬ (i : Int) < l'.length by omega] | simp (maxSteps := 1000000) [hc, mvsD, ensD, hi, show ¬ (i : Int) < l'.length by omega]) <;> (try simp at hc) <;> (try (exfalso; first | omega | exact absurd hc (by assumption))))
          | (refine okJ_guard (fun hc => ?_) (fun hc => ?_) <;> (first | simp (maxSteps := 1000000) [hc, of_decide_eq_true hc, mvsD, ensD, hi, show ¬ (i : Int) < l'.length by omega] | simp (maxSteps := 1000000) [hc, of_decide_eq_false hc, mvsD, ensD, hi, show ¬ (i : Int) < l'.length by omega] | simp (maxSteps := 1000000) [hc, mvsD, ensD, hi, show ¬ (i : Int) < l'.length by omega]) <;> (try simp at hc) <;> (try (exfalso; first | omega | exact absurd hc (by assumption))))
          | (refine And.intro (by first | assumption | omega | (simp [BelL, Bel]; done) | (simp; omega)) ?_; try simp (maxSteps := 1000000) [mvsD, ensD, hi, show ¬ (i : Int) < l'.length by omega])
          | (refine okC_or ?_; simp (maxSteps := 1000000) [mvsD, ensD, hi, show ¬ (i : Int) < l'.length by omega])
        (refine jw_view (view_frz 0 _ rfl (by simp [BelL, Bel, hct2, hal, thL_flat])) ?_; simp (maxSteps := 1000000) [thL, thD, thS, thOb, hct2, hal, thL_flat])
        repeat' first
          | refine jw_seq_k fun K hK => ?_
          | refine jw_block ?_
          | (refine jw_skip ?_; try simp)
          | (refine jw_exit ?_; try simp)
          | (refine jw_cond rfl (fun hc => ?_) (fun hc => ?_) <;> (try simp at hc) <;> (try (exfalso; first | omega | exact absurd hc (by assumption))))
          | (refine jw_c ?_; simp (maxSteps := 1000000) [ensD])
          | (refine jw_draw_j mixed (by kernel_rfl) ?_; simp (maxSteps := 1000000) [ensD])
          | (first | (apply hK; clear hK) | (clear hK; apply hK; clear hK) | (clear hK; clear hK; apply hK; clear hK) | (clear hK; clear hK; clear hK; apply hK; clear hK))
          | (refine jl_call (f := 11) rfl rfl rfl rfl rfl (hLb) (by simp [BelL, Bel]) ?_; rintro r rfl; simp (maxSteps := 1000000) [ensD])
          | (refine jd_call (f := 11) rfl rfl rfl rfl rfl (hLb) (by simp [BelL, Bel]) ?_; simp (maxSteps := 1000000) [ensD])
          | (refine jl_call (f := 13) rfl rfl rfl rfl rfl (hS) (by simp [BelL, Bel]) ?_; rintro r rfl; simp (maxSteps := 1000000) [ensD])
          | (refine jd_call (f := 13) rfl rfl rfl rfl rfl (hS) (by simp [BelL, Bel]) ?_; simp (maxSteps := 1000000) [ensD])
          | (refine jw_ret (hQ _ _ (.inr rfl) (ret_ok 0 ?_ (by first | omega | simp))); simp (maxSteps := 1000000) [okRet, BelL, Bel, BelS, BelOb, ensD])
          | (refine hQ _ _ (.inl rfl) (ret_ok 0 ?_ (by first | omega | simp)); simp (maxSteps := 1000000) [okRet, BelL, Bel, BelS, BelOb, ensD])
          | (refine jd_newc rfl rfl (by simp) ?_; simp (maxSteps := 1000000) [thD, thL, ensD])
          | (refine okN_or ?_; simp (maxSteps := 1000000) [thD, thL, ensD])
          | (refine okC_guard (fun hc => ?_) (fun hc => ?_) <;> (first | simp (maxSteps := 1000000) [hc, of_decide_eq_true hc, ensD] | simp (maxSteps := 1000000) [hc, of_decide_eq_false hc, ensD] | simp (maxSteps := 1000000) [hc, ensD]) <;> (try simp at hc) <;> (try (exfalso; first | omega | exact absurd hc (by assumption))))
          | (refine okJ_guard (fun hc => ?_) (fun hc => ?_) <;> (first | simp (maxSteps := 1000000) [hc, of_decide_eq_true hc, ensD] | simp (maxSteps := 1000000) [hc, of_decide_eq_false hc, ensD] | simp (maxSteps := 1000000) [hc, ensD]) <;> (try simp at hc) <;> (try (exfalso; first | omega | exact absurd hc (by assumption))))
          | (refine And.intro (by first | assumption | omega | (simp [BelL, Bel]; done) | (simp; omega)) ?_; try simp (maxSteps := 1000000) [ensD])
          | (refine okC_or ?_; simp (maxSteps := 1000000) [ensD])
  · exact ⟨by omega, by omega, rfl, by simp⟩
theorem treeStays (ls : List (List D)) (hr : Vm.Rows (Parts MvP) ls) (hz : ls.length * 32 ≤ 140737488351232) (_ : ls.length ≤ 9223372036854775807) (ms : List (List D)) (hr2 : Vm.Rows (Parts MvP) ms) (hz2 : ms.length * 32 ≤ 140737488351232) (_ : ms.length ≤ 9223372036854775807) (w : Int) (_ : (Lit.int .i64 w).wf = true) :
    FV Try.prog [] 3 [.sl false ls.flatten ls.length, .sl false ms.flatten ms.length, .int .i64 w] (fun r => r = .bool true) := by
  obtain ⟨l, h2, h3⟩ := mvs_of hr
  obtain ⟨k, g2, g3⟩ := mvs_of hr2
  rw [h2, h3, g2, g3]
  exact treeStaysW l k (by omega) (by omega) w
end Go.Proofs.Ytibcjkklgifgmaa
