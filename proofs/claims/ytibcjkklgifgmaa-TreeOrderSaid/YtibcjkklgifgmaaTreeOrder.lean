/- TreeOrder: the walk (hoist) -/
import Derived.Test.YtibcjkklgifgmaaTreeDs
import Derived.Test.YtibcjkklgifgmaaVmRow
set_option linter.unusedVariables false
set_option linter.unusedSimpArgs false
set_option maxRecDepth 20000
set_option maxHeartbeats 20000000
namespace Go.Proofs.Ytibcjkklgifgmaa
open Go Go.Vm Go.Proofs

theorem at_cons (x : En) (xs : List En) (k : List Int) : atE (x :: xs) k = if cmpL x.k k < 0 then atE xs k + 1 else 0 := by
  unfold atE
  rw [List.takeWhile_cons]
  by_cases h : cmpL x.k k < 0 <;> simp [h]
theorem atF_cons (x : En) (xs : List En) (k : List Int) : atF (x :: xs) k = if cmpL x.k k < 0 then atF xs k else decide (cmpL x.k k = 0) := by
  unfold atF
  rw [at_cons]
  by_cases h : cmpL x.k k < 0 <;> simp [h]
theorem ins_nil (e : En) : ins [] e = [e] := by simp [ins, atE]
theorem ins_cons (x : En) (xs : List En) (e : En) : ins (x :: xs) e = if cmpL x.k e.k < 0 then x :: ins xs e else if cmpL x.k e.k = 0 then e :: xs else e :: x :: xs := by
  unfold ins
  rw [at_cons, atF_cons]
  by_cases h : cmpL x.k e.k < 0
  · simp only [if_pos h, List.take_succ_cons, List.cons_append]
    rw [show atE xs e.k + 1 + (atF xs e.k).toNat = atE xs e.k + (atF xs e.k).toNat + 1 by omega, List.drop_succ_cons]
  · by_cases h0 : cmpL x.k e.k = 0
    · simp [h0]
    · simp [h, h0]
/-- Two that differ may be put in either order. -/
theorem ins_comm : ∀ (es : List En) {a b : En}, cmpL a.k b.k ≠ 0 → ins (ins es a) b = ins (ins es b) a
  | [], a, b, h => by
    have h2 := cmpL_anti a.k b.k
    rw [ins_nil, ins_nil, ins_cons, ins_cons, ins_nil, ins_nil]
    by_cases h1 : cmpL a.k b.k < 0
    · rw [if_pos h1, if_neg (by omega), if_neg (by omega)]
    · rw [if_neg h1, if_neg h, if_pos (by omega)]
  | x :: xs, a, b, h => by
    have h2 := cmpL_anti a.k b.k
    have ax := cmpL_anti a.k x.k
    have bx := cmpL_anti b.k x.k
    rw [ins_cons x xs a, ins_cons x xs b]
    by_cases xa : cmpL x.k a.k < 0
    · rw [if_pos xa]
      by_cases xb : cmpL x.k b.k < 0
      · rw [if_pos xb, ins_cons, if_pos xb, ins_cons, if_pos xa, ins_comm xs h]
      · rw [if_neg xb, ins_cons, if_neg xb]
        by_cases eb : cmpL x.k b.k = 0
        · rw [if_pos eb, if_pos eb, ins_cons, if_pos (by rw [← cmpL_zero_l a.k eb]; exact xa)]
        · have : cmpL b.k a.k < 0 := cmpL_lt (b := x.k) (by omega) (Int.le_of_lt xa)
          rw [if_neg eb, if_neg eb, ins_cons, if_pos this, ins_cons, if_pos xa]
    · rw [if_neg xa]
      by_cases ea : cmpL x.k a.k = 0
      · rw [if_pos ea]
        have e1 := cmpL_zero_l b.k ea
        by_cases xb : cmpL x.k b.k < 0
        · rw [if_pos xb, ins_cons, if_pos (by omega), ins_cons, if_neg xa, if_pos ea]
        · rw [if_neg xb, if_neg (by omega), ins_cons, if_neg (by omega), if_neg h, ins_cons, if_pos (by omega), ins_cons, if_neg xa, if_pos ea]
      · rw [if_neg ea]
        by_cases xb : cmpL x.k b.k < 0
        · have : cmpL a.k b.k < 0 := cmpL_lt (b := x.k) (by omega) (Int.le_of_lt xb)
          rw [if_pos xb, ins_cons, if_pos this, ins_cons, if_pos xb, ins_cons, if_neg xa, if_neg ea]
        · rw [if_neg xb]
          by_cases eb : cmpL x.k b.k = 0
          · have e1 := cmpL_zero_l a.k eb
            rw [if_pos eb, ins_cons, if_pos (by omega), ins_cons, if_neg xb, if_pos eb, ins_cons, if_neg (by omega), if_neg (by omega)]
          · rw [if_neg eb, ins_cons, ins_cons]
            by_cases ab : cmpL a.k b.k < 0
            · rw [if_pos ab, ins_cons, if_neg xb, if_neg eb, if_neg (by omega), if_neg (by omega)]
            · rw [if_neg ab, if_neg h, ins_cons, if_pos (by omega), ins_cons, if_neg xa, if_neg ea]
theorem ins_two {es : List En} {a b : En} (h : cmpL a.k b.k ≠ 0) : 2 ≤ (ins (ins es a) b).length := by
  have h1 := ins_len (es := ins es a) b
  cases es with
  | nil =>
    rw [ins_nil, ins_cons, ins_nil]
    split
    · simp
    · simp [h]
  | cons x xs =>
    rw [ins_cons] at h1 ⊢
    by_cases xa : cmpL x.k a.k < 0
    · rw [if_pos xa, ins_cons]
      have := ins_len (es := xs) a
      have h3 : 1 ≤ (ins xs a).length := by unfold ins; simp; omega
      split
      · have := ins_len (es := ins xs a) b; simp; omega
      · split <;> simp <;> omega
    · rw [if_neg xa]
      by_cases ea : cmpL x.k a.k = 0
      · rw [if_pos ea, ins_cons]
        split
        · have h3 : 1 ≤ (ins xs b).length := by unfold ins; simp; omega
          simp; omega
        · simp [h]
      · rw [if_neg xa, if_neg ea] at h1
        rw [if_neg ea]
        simp only [List.length_cons] at h1
        omega
abbrev IntP : List D → Prop := fun ds => ∃ n, (Lit.int .i64 n).wf = true ∧ ds = [.int .i64 n]
abbrev MvP : List (List D → Prop) := [fun ds => ∃ b : Bool, ds = [.bool b], IntP, IntP, IntP]
theorem mvs_of : ∀ {ls : List (List D)}, Vm.Rows (Parts MvP) ls → ∃ l : List Mv, ls.flatten = l.flatMap mvC ∧ ls.length = l.length
  | [], _ => ⟨[], rfl, rfl⟩
  | _ :: _, .cons _ ls h t => by
    obtain ⟨l, g2, g3⟩ := mvs_of t
    obtain ⟨_, _, ⟨d, rfl⟩, ⟨_, _, ⟨a, _, rfl⟩, ⟨_, _, ⟨b, _, rfl⟩, ⟨_, _, ⟨c, _, rfl⟩, rfl, rfl⟩, rfl⟩, rfl⟩, rfl⟩ := h
    exact ⟨⟨d, a, b, c⟩ :: l, by simp [mvC, g2], by simp [g3]⟩
theorem cont_stays {ds es : List Deed} {v : Int} (h0 : 0 ≤ v) (h1 : v < (runC ds).2.length) : contAt (runC (ds ++ es)).2 v = contAt (runC ds).2 v ∧ v < (runC (ds ++ es)).2.length := by
  obtain ⟨r, h⟩ := run_pre ds es
  rw [h]
  refine ⟨?_, by simp; omega⟩
  unfold contAt
  rw [List.getD_eq_getElem?_getD, List.getD_eq_getElem?_getD, List.getElem?_append_left (by omega)]
theorem cont_mem {C : Cont} {v : Int} (h0 : 0 ≤ v) (h1 : v < C.length) : contAt C v ∈ C := by
  unfold contAt
  rw [List.getD_eq_getElem?_getD, List.getElem?_eq_getElem (show v.toNat < C.length by omega)]
  exact List.getElem_mem _
/-- last, of deeds that stand in the store. -/
theorem lastZ {G : Globals} (xs : List Deed) (hkb : ∀ x ∈ xs, KB x.key) (hl : xs.length ≤ 390) (v : Int) (hv0 : 0 ≤ v) (hv1 : v < (runC xs).2.length) (k a n : Nat) (σ : Store) (ha : a = xs.length * 5) (hn : n = xs.length) (hσ : σ[k]? = some (some (.c (xs.flatMap deC)))) :
    FC Try.prog G 11 [.ms k a 0 n 5, .int .i64 v] σ (fun d σ' => d = .tup [ensD false (contAt (runC xs).2 v), .bool true] ∧ σ' = thS k (xs.flatMap deC) σ) := by
  subst ha hn
  refine fc_frz k _ hσ (belL_des 0 xs) ?_
  have e : thL k (xs.flatMap deC) [.ms k (xs.length * 5) 0 xs.length 5, .int .i64 v] = [desD xs, .int .i64 v] := by
    have hlen := des_len xs
    have hct : List.take (xs.length * 5) (xs.flatMap deC) = xs.flatMap deC := List.take_of_length_le (by omega)
    simp [thL, thD, hlen, hct, desD]
  rw [e]
  exact (fc_val (lastF xs hkb hl v hv0 hv1) ⟨belL_des 0 xs, trivial, trivial⟩).mono fun d σ' h => h
/-- Two puts behind deeds. -/
theorem two_puts {ds : List Deed} {a b w u : Int} {n : Nat} (hV : (runC ds).2.length = n + 1) (hm : contAt (runC ds).2 n = contAt (runC ds).2 n) :
    (runC (ds ++ [⟨1, n, kO a, [w], 0⟩, ⟨1, (n : Int) + 1, kO b, [u], 0⟩])).2.length = n + 3 ∧ contAt (runC (ds ++ [⟨1, n, kO a, [w], 0⟩, ⟨1, (n : Int) + 1, kO b, [u], 0⟩])).2 ((n : Int) + 2) = ins (ins (contAt (runC ds).2 n) ⟨kO a, [w]⟩) ⟨kO b, [u]⟩ := by
  have e : ds ++ [(⟨1, n, kO a, [w], 0⟩ : Deed), ⟨1, (n : Int) + 1, kO b, [u], 0⟩] = (ds ++ [⟨1, n, kO a, [w], 0⟩]) ++ [⟨1, (n : Int) + 1, kO b, [u], 0⟩] := by simp
  rw [e, runC_app, runC_app]
  have s1 := step_put (C := (runC ds).2) (ver := (n : Int)) (by omega) (by omega) a w
  unfold runT
  rw [s1]
  dsimp only
  have s2 := step_put (C := (runC ds).2 ++ [ins (contAt (runC ds).2 n) ⟨kO a, [w]⟩]) (ver := (n : Int) + 1) (by omega) (by simp; omega) b u
  rw [s2]
  dsimp only
  have c1 : contAt ((runC ds).2 ++ [ins (contAt (runC ds).2 n) ⟨kO a, [w]⟩]) ((n : Int) + 1) = ins (contAt (runC ds).2 n) ⟨kO a, [w]⟩ := by
    unfold contAt
    rw [show ((n : Int) + 1).toNat = n + 1 by omega, List.getD_eq_getElem?_getD, List.getElem?_append_right (by omega), show n + 1 - (runC ds).2.length = 0 by omega]; rfl
  rw [c1]
  refine ⟨by simp; omega, ?_⟩
  generalize ins (ins (contAt (runC ds).2 n) ⟨kO a, [w]⟩) ⟨kO b, [u]⟩ = Z
  unfold contAt
  rw [show ((n : Int) + 2).toNat = n + 2 by omega, List.getD_eq_getElem?_getD, List.getElem?_append_right (by simp; omega), show n + 2 - ((runC ds).2 ++ [ins ((runC ds).2.getD (n : Int).toNat []) ⟨kO a, [w]⟩]).length = 0 by simp; omega]; rfl
theorem treeOrderW (l : List Mv) (hl : l.length ≤ 140737488351232) (a b : Int) : FV Try.prog [] 6 [mvsD l, .int .i64 a, .int .i64 b] (fun r => r = .bool true) := by
  refine fv_enter_v Try.func6 rfl rfl fun Q hQ => ?_
  repeat' first
    | refine jw_ret (hQ _ _ (.inr rfl) ⟨5, _, _, rfl, rfl, ?_⟩)
    | refine jw_ret (hQ _ _ (.inr rfl) ⟨_, rfl, ?_⟩)
    | refine jw_seq_k fun K hK => ?_
    | refine jw_block ?_
    | (refine jw_skip ?_; try simp)
    | (refine jw_exit ?_; try simp)
    | (refine jw_cond rfl (fun hc => ?_) (fun hc => ?_) <;> (try simp at hc) <;> (try (exfalso; first | omega | exact absurd hc (by assumption))))
    | ((fail_if_success (refine jw_c (id := 2) ?_)); (refine jw_c ?_; simp (maxSteps := 1000000) [Try.f6]))
    | ((fail_if_success (refine jw_draw_j (id := 2) mixed (by kernel_rfl) ?_)); (refine jw_draw_j mixed (by kernel_rfl) ?_; simp (maxSteps := 1000000) [Try.f6]))
    | (first | (apply hK; clear hK) | (clear hK; apply hK; clear hK) | (clear hK; clear hK; apply hK; clear hK) | (clear hK; clear hK; clear hK; apply hK; clear hK))
    | exact hQ _ _ (.inl rfl) ⟨5, _, _, rfl, rfl, rfl⟩
    | refine hQ _ _ (.inl rfl) ⟨5, _, _, rfl, rfl, ?_⟩
    | refine hQ _ _ (.inl rfl) ⟨_, rfl, ?_⟩
    | (refine jl_call (f := 8) rfl rfl rfl rfl rfl (deedsF l hl 20 (by omega) true) (by simp [BelL, Bel]) ?_; rintro r ⟨ds, hok, rfl⟩; simp (maxSteps := 1000000) [Try.f6])
    | (refine jd_newc rfl rfl (by simp) ?_; simp (maxSteps := 1000000) [thD, thL, Try.f6])
    | (refine okN_or ?_; simp (maxSteps := 1000000) [thD, thL, Try.f6])
    | (refine okC_guard (fun hc => ?_) (fun hc => ?_) <;> (first | simp (maxSteps := 1000000) [hc, of_decide_eq_true hc, Try.f6] | simp (maxSteps := 1000000) [hc, of_decide_eq_false hc, Try.f6] | simp (maxSteps := 1000000) [hc, Try.f6]) <;> (try simp at hc) <;> (try (exfalso; first | omega | exact absurd hc (by assumption))))
    | (refine okJ_guard (fun hc => ?_) (fun hc => ?_) <;> (first | simp (maxSteps := 1000000) [hc, of_decide_eq_true hc, Try.f6] | simp (maxSteps := 1000000) [hc, of_decide_eq_false hc, Try.f6] | simp (maxSteps := 1000000) [hc, Try.f6]) <;> (try simp at hc) <;> (try (exfalso; first | omega | exact absurd hc (by assumption))))
    | (refine And.intro (by first | assumption | omega | (simp [BelL, Bel]; done) | (simp; omega)) ?_; try simp (maxSteps := 1000000) [Try.f6])
    | (refine okC_or ?_; simp (maxSteps := 1000000) [Try.f6])
  have hM := madeF (G := []) ds (by have := hok.len; omega) hok.kb
  have hmd := hok.made
  have hml := madeN_le (runC ds).1
  rw [runC_len] at hml
  have hdl := hok.len
  obtain ⟨n, hn⟩ : ∃ n, madeN (runC ds).1 = n := ⟨_, rfl⟩
  rw [hn] at hM hmd
  have hV : (runC ds).2.length = n + 1 := by omega
  have hw1 := wrap_i64 (n := (n : Int) + 1) (by omega) (by omega)
  have hw2 := wrap_i64 (n := (n : Int) + 2) (by omega) (by omega)
  have hka := keyOfF (G := []) a
  have hkb := keyOfF (G := []) b
  have hS := sameBytes (G := []) (kO a) (kO b) (by simp [kO])
  have hdf := des_len ds
  have hct : List.take (ds.length * 5) (ds.flatMap deC) = ds.flatMap deC := List.take_of_length_le (by omega)
  repeat' first
    | refine jw_ret (hQ _ _ (.inr rfl) ⟨5, _, _, rfl, rfl, ?_⟩)
    | refine jw_ret (hQ _ _ (.inr rfl) ⟨_, rfl, ?_⟩)
    | refine jw_seq_k fun K hK => ?_
    | refine jw_block ?_
    | (refine jw_skip ?_; try simp)
    | (refine jw_exit ?_; try simp)
    | (refine jw_cond rfl (fun hc => ?_) (fun hc => ?_) <;> (try simp at hc) <;> (try (exfalso; first | omega | exact absurd hc (by assumption))))
    | ((fail_if_success (refine jw_c (id := 6) ?_)); (refine jw_c ?_; simp (maxSteps := 1000000) [desD, hw1, hdf, hct, okC_des, okCell, okRef]))
    | ((fail_if_success (refine jw_draw_j (id := 6) mixed (by kernel_rfl) ?_)); (refine jw_draw_j mixed (by kernel_rfl) ?_; simp (maxSteps := 1000000) [desD, hw1, hdf, hct, okC_des, okCell, okRef]))
    | (first | (apply hK; clear hK) | (clear hK; apply hK; clear hK) | (clear hK; clear hK; apply hK; clear hK) | (clear hK; clear hK; clear hK; apply hK; clear hK))
    | exact hQ _ _ (.inl rfl) ⟨5, _, _, rfl, rfl, rfl⟩
    | refine hQ _ _ (.inl rfl) ⟨5, _, _, rfl, rfl, ?_⟩
    | refine hQ _ _ (.inl rfl) ⟨_, rfl, ?_⟩
    | (refine jl_call (f := 9) rfl rfl rfl rfl rfl (hM) (by simp [BelL, Bel]) ?_; rintro r rfl; simp (maxSteps := 1000000) [desD, hw1, hdf, hct, okC_des, okCell, okRef])
    | (refine jd_call (f := 9) rfl rfl rfl rfl rfl (hM) (by simp [BelL, Bel]) ?_; simp (maxSteps := 1000000) [desD, hw1, hdf, hct, okC_des, okCell, okRef])
    | (refine jl_call (f := 12) rfl rfl rfl rfl rfl (hka) (by simp [BelL, Bel]) ?_; rintro r rfl; simp (maxSteps := 1000000) [desD, hw1, hdf, hct, okC_des, okCell, okRef])
    | (refine jd_call (f := 12) rfl rfl rfl rfl rfl (hka) (by simp [BelL, Bel]) ?_; simp (maxSteps := 1000000) [desD, hw1, hdf, hct, okC_des, okCell, okRef])
    | (refine jd_newc rfl rfl (by simp) ?_; simp (maxSteps := 1000000) [thD, thL, desD, hw1, hdf, hct, okC_des, okCell, okRef])
    | (refine okN_or ?_; simp (maxSteps := 1000000) [thD, thL, desD, hw1, hdf, hct, okC_des, okCell, okRef])
    | (refine okC_guard (fun hc => ?_) (fun hc => ?_) <;> (first | simp (maxSteps := 1000000) [hc, of_decide_eq_true hc, desD, hw1, hdf, hct, okC_des, okCell, okRef] | simp (maxSteps := 1000000) [hc, of_decide_eq_false hc, desD, hw1, hdf, hct, okC_des, okCell, okRef] | simp (maxSteps := 1000000) [hc, desD, hw1, hdf, hct, okC_des, okCell, okRef]) <;> (try simp at hc) <;> (try (exfalso; first | omega | exact absurd hc (by assumption))))
    | (refine okJ_guard (fun hc => ?_) (fun hc => ?_) <;> (first | simp (maxSteps := 1000000) [hc, of_decide_eq_true hc, desD, hw1, hdf, hct, okC_des, okCell, okRef] | simp (maxSteps := 1000000) [hc, of_decide_eq_false hc, desD, hw1, hdf, hct, okC_des, okCell, okRef] | simp (maxSteps := 1000000) [hc, desD, hw1, hdf, hct, okC_des, okCell, okRef]) <;> (try simp at hc) <;> (try (exfalso; first | omega | exact absurd hc (by assumption))))
    | (refine And.intro (by first | assumption | omega | (simp [BelL, Bel]; done) | (simp; omega)) ?_; try simp (maxSteps := 1000000) [desD, hw1, hdf, hct, okC_des, okCell, okRef])
    | (refine okC_or ?_; simp (maxSteps := 1000000) [desD, hw1, hdf, hct, okC_des, okCell, okRef])
  (refine jw_view (view_frz 0 _ rfl (by simp [BelL, Bel, thL_flat])) ?_; simp (maxSteps := 1000000) [thL, thD, thS, thOb, thL_flat])
  repeat' first
    | refine jw_ret (hQ _ _ (.inr rfl) ⟨5, _, _, rfl, rfl, ?_⟩)
    | refine jw_ret (hQ _ _ (.inr rfl) ⟨_, rfl, ?_⟩)
    | refine jw_seq_k fun K hK => ?_
    | refine jw_block ?_
    | (refine jw_skip ?_; try simp)
    | (refine jw_exit ?_; try simp)
    | (refine jw_cond rfl (fun hc => ?_) (fun hc => ?_) <;> (try simp at hc) <;> (try (exfalso; first | omega | exact absurd hc (by assumption))))
    | ((fail_if_success (refine jw_c (id := 7) ?_)); (refine jw_c ?_; simp (maxSteps := 1000000) [desD, hw1, hdf, hct, okC_des, okCell, okRef]))
    | ((fail_if_success (refine jw_draw_j (id := 7) mixed (by kernel_rfl) ?_)); (refine jw_draw_j mixed (by kernel_rfl) ?_; simp (maxSteps := 1000000) [desD, hw1, hdf, hct, okC_des, okCell, okRef]))
    | (first | (apply hK; clear hK) | (clear hK; apply hK; clear hK) | (clear hK; clear hK; apply hK; clear hK) | (clear hK; clear hK; clear hK; apply hK; clear hK))
    | exact hQ _ _ (.inl rfl) ⟨5, _, _, rfl, rfl, rfl⟩
    | refine hQ _ _ (.inl rfl) ⟨5, _, _, rfl, rfl, ?_⟩
    | refine hQ _ _ (.inl rfl) ⟨_, rfl, ?_⟩
    | (refine jl_call (f := 12) rfl rfl rfl rfl rfl (hkb) (by simp [BelL, Bel]) ?_; rintro r rfl; simp (maxSteps := 1000000) [desD, hw1, hdf, hct, okC_des, okCell, okRef])
    | (refine jd_call (f := 12) rfl rfl rfl rfl rfl (hkb) (by simp [BelL, Bel]) ?_; simp (maxSteps := 1000000) [desD, hw1, hdf, hct, okC_des, okCell, okRef])
    | (refine jd_newc rfl rfl (by simp) ?_; simp (maxSteps := 1000000) [thD, thL, desD, hw1, hdf, hct, okC_des, okCell, okRef])
    | (refine okN_or ?_; simp (maxSteps := 1000000) [thD, thL, desD, hw1, hdf, hct, okC_des, okCell, okRef])
    | (refine okC_guard (fun hc => ?_) (fun hc => ?_) <;> (first | simp (maxSteps := 1000000) [hc, of_decide_eq_true hc, desD, hw1, hdf, hct, okC_des, okCell, okRef] | simp (maxSteps := 1000000) [hc, of_decide_eq_false hc, desD, hw1, hdf, hct, okC_des, okCell, okRef] | simp (maxSteps := 1000000) [hc, desD, hw1, hdf, hct, okC_des, okCell, okRef]) <;> (try simp at hc) <;> (try (exfalso; first | omega | exact absurd hc (by assumption))))
    | (refine okJ_guard (fun hc => ?_) (fun hc => ?_) <;> (first | simp (maxSteps := 1000000) [hc, of_decide_eq_true hc, desD, hw1, hdf, hct, okC_des, okCell, okRef] | simp (maxSteps := 1000000) [hc, of_decide_eq_false hc, desD, hw1, hdf, hct, okC_des, okCell, okRef] | simp (maxSteps := 1000000) [hc, desD, hw1, hdf, hct, okC_des, okCell, okRef]) <;> (try simp at hc) <;> (try (exfalso; first | omega | exact absurd hc (by assumption))))
    | (refine And.intro (by first | assumption | omega | (simp [BelL, Bel]; done) | (simp; omega)) ?_; try simp (maxSteps := 1000000) [desD, hw1, hdf, hct, okC_des, okCell, okRef])
    | (refine okC_or ?_; simp (maxSteps := 1000000) [desD, hw1, hdf, hct, okC_des, okCell, okRef])
  (refine jw_view (view_frz 2 _ rfl (by simp [BelL, Bel, thL_flat])) ?_; simp (maxSteps := 1000000) [thL, thD, thS, thOb, thL_flat])
  by_cases hab : kO a = kO b
  · rw [decide_eq_true hab] at hS
    repeat' first
      | refine jw_seq_k fun K hK => ?_
      | refine jw_block ?_
      | (refine jw_skip ?_; try simp)
      | (refine jw_exit ?_; try simp)
      | (refine jw_cond rfl (fun hc => ?_) (fun hc => ?_) <;> (try simp at hc) <;> (try (exfalso; first | omega | exact absurd hc (by assumption))))
      | (refine jw_c ?_; simp (maxSteps := 1000000) [desD, hw1, hdf, hct, okC_des, okCell, okRef])
      | (refine jw_draw_j mixed (by kernel_rfl) ?_; simp (maxSteps := 1000000) [desD, hw1, hdf, hct, okC_des, okCell, okRef])
      | (first | (apply hK; clear hK) | (clear hK; apply hK; clear hK) | (clear hK; clear hK; apply hK; clear hK) | (clear hK; clear hK; clear hK; apply hK; clear hK))
      | (refine jl_call (f := 15) rfl rfl rfl rfl rfl (hS) (by simp [BelL, Bel]) ?_; rintro r rfl; simp (maxSteps := 1000000) [desD, hw1, hdf, hct, okC_des, okCell, okRef])
      | (refine jd_call (f := 15) rfl rfl rfl rfl rfl (hS) (by simp [BelL, Bel]) ?_; simp (maxSteps := 1000000) [desD, hw1, hdf, hct, okC_des, okCell, okRef])
      | (refine jw_ret (hQ _ _ (.inr rfl) (ret_ok 0 ?_ (by first | omega | simp))); simp (maxSteps := 1000000) [okRet, BelL, Bel, BelS, BelOb, desD, hw1, hdf, hct, okC_des, okCell, okRef])
      | (refine hQ _ _ (.inl rfl) (ret_ok 0 ?_ (by first | omega | simp)); simp (maxSteps := 1000000) [okRet, BelL, Bel, BelS, BelOb, desD, hw1, hdf, hct, okC_des, okCell, okRef])
      | (refine jd_newc rfl rfl (by simp) ?_; simp (maxSteps := 1000000) [thD, thL, desD, hw1, hdf, hct, okC_des, okCell, okRef])
      | (refine okN_or ?_; simp (maxSteps := 1000000) [thD, thL, desD, hw1, hdf, hct, okC_des, okCell, okRef])
      | (refine okC_guard (fun hc => ?_) (fun hc => ?_) <;> (first | simp (maxSteps := 1000000) [hc, of_decide_eq_true hc, desD, hw1, hdf, hct, okC_des, okCell, okRef] | simp (maxSteps := 1000000) [hc, of_decide_eq_false hc, desD, hw1, hdf, hct, okC_des, okCell, okRef] | simp (maxSteps := 1000000) [hc, desD, hw1, hdf, hct, okC_des, okCell, okRef]) <;> (try simp at hc) <;> (try (exfalso; first | omega | exact absurd hc (by assumption))))
      | (refine okJ_guard (fun hc => ?_) (fun hc => ?_) <;> (first | simp (maxSteps := 1000000) [hc, of_decide_eq_true hc, desD, hw1, hdf, hct, okC_des, okCell, okRef] | simp (maxSteps := 1000000) [hc, of_decide_eq_false hc, desD, hw1, hdf, hct, okC_des, okCell, okRef] | simp (maxSteps := 1000000) [hc, desD, hw1, hdf, hct, okC_des, okCell, okRef]) <;> (try simp at hc) <;> (try (exfalso; first | omega | exact absurd hc (by assumption))))
      | (refine And.intro (by first | assumption | omega | (simp [BelL, Bel]; done) | (simp; omega)) ?_; try simp (maxSteps := 1000000) [desD, hw1, hdf, hct, okC_des, okCell, okRef])
      | (refine okC_or ?_; simp (maxSteps := 1000000) [desD, hw1, hdf, hct, okC_des, okCell, okRef])
  · rw [decide_eq_false hab] at hS
    have hne : cmpL (kO a) (kO b) ≠ 0 := fun h => hab ((cmpL_eq (kO_kb a) (kO_kb b)).1 h)
    repeat' first
      | refine jw_ret (hQ _ _ (.inr rfl) ⟨5, _, _, rfl, rfl, ?_⟩)
      | refine jw_ret (hQ _ _ (.inr rfl) ⟨_, rfl, ?_⟩)
      | refine jw_seq_k fun K hK => ?_
      | refine jw_block ?_
      | (refine jw_skip ?_; try simp)
      | (refine jw_exit ?_; try simp)
      | (refine jw_cond rfl (fun hc => ?_) (fun hc => ?_) <;> (try simp at hc) <;> (try (exfalso; first | omega | exact absurd hc (by assumption))))
      | ((fail_if_success (refine jw_c (id := 13) ?_)); (refine jw_c ?_; simp (maxSteps := 1000000) [desD, hw1, hdf, hct, okC_des, okCell, okRef]))
      | ((fail_if_success (refine jw_draw_j (id := 13) mixed (by kernel_rfl) ?_)); (refine jw_draw_j mixed (by kernel_rfl) ?_; simp (maxSteps := 1000000) [desD, hw1, hdf, hct, okC_des, okCell, okRef]))
      | (first | (apply hK; clear hK) | (clear hK; apply hK; clear hK) | (clear hK; clear hK; apply hK; clear hK) | (clear hK; clear hK; clear hK; apply hK; clear hK))
      | exact hQ _ _ (.inl rfl) ⟨5, _, _, rfl, rfl, rfl⟩
      | refine hQ _ _ (.inl rfl) ⟨5, _, _, rfl, rfl, ?_⟩
      | refine hQ _ _ (.inl rfl) ⟨_, rfl, ?_⟩
      | (refine jl_call (f := 15) rfl rfl rfl rfl rfl (hS) (by simp [BelL, Bel]) ?_; rintro r rfl; simp (maxSteps := 1000000) [desD, hw1, hdf, hct, okC_des, okCell, okRef])
      | (refine jd_call (f := 15) rfl rfl rfl rfl rfl (hS) (by simp [BelL, Bel]) ?_; simp (maxSteps := 1000000) [desD, hw1, hdf, hct, okC_des, okCell, okRef])
      | (refine jd_newc rfl rfl (by simp) ?_; simp (maxSteps := 1000000) [thD, thL, desD, hw1, hdf, hct, okC_des, okCell, okRef])
      | (refine okN_or ?_; simp (maxSteps := 1000000) [thD, thL, desD, hw1, hdf, hct, okC_des, okCell, okRef])
      | (refine okC_guard (fun hc => ?_) (fun hc => ?_) <;> (first | simp (maxSteps := 1000000) [hc, of_decide_eq_true hc, desD, hw1, hdf, hct, okC_des, okCell, okRef] | simp (maxSteps := 1000000) [hc, of_decide_eq_false hc, desD, hw1, hdf, hct, okC_des, okCell, okRef] | simp (maxSteps := 1000000) [hc, desD, hw1, hdf, hct, okC_des, okCell, okRef]) <;> (try simp at hc) <;> (try (exfalso; first | omega | exact absurd hc (by assumption))))
      | (refine okJ_guard (fun hc => ?_) (fun hc => ?_) <;> (first | simp (maxSteps := 1000000) [hc, of_decide_eq_true hc, desD, hw1, hdf, hct, okC_des, okCell, okRef] | simp (maxSteps := 1000000) [hc, of_decide_eq_false hc, desD, hw1, hdf, hct, okC_des, okCell, okRef] | simp (maxSteps := 1000000) [hc, desD, hw1, hdf, hct, okC_des, okCell, okRef]) <;> (try simp at hc) <;> (try (exfalso; first | omega | exact absurd hc (by assumption))))
      | (refine And.intro (by first | assumption | omega | (simp [BelL, Bel]; done) | (simp; omega)) ?_; try simp (maxSteps := 1000000) [desD, hw1, hdf, hct, okC_des, okCell, okRef])
      | (refine okC_or ?_; simp (maxSteps := 1000000) [desD, hw1, hdf, hct, okC_des, okCell, okRef])
    (refine jw_view (view_frz 1 _ rfl (by simp [BelL, Bel, thL_flat])) ?_; simp (maxSteps := 1000000) [thL, thD, thS, thOb, thL_flat])
    (refine jw_view (view_frz 3 _ rfl (by simp [BelL, Bel, thL_flat])) ?_; simp (maxSteps := 1000000) [thL, thD, thS, thOb, thL_flat])
    (refine jw_view (view_frz 4 _ rfl (by simp [BelL, Bel, thL_flat])) ?_; simp (maxSteps := 1000000) [thL, thD, thS, thOb, thL_flat])
    (refine jw_view (view_frz 5 _ rfl (by simp [BelL, Bel, thL_flat])) ?_; simp (maxSteps := 1000000) [thL, thD, thS, thOb, thL_flat])
    have run2 : ∀ a b w u : Int, cmpL (kO a) (kO b) ≠ 0 → ∀ (k : Nat) (σ : Store), σ[k]? = some (some (.c (ds.flatMap deC ++ [.int .i64 1, .int .i64 n, bytesD (kO a), bytesD [w], .int .i64 0, .int .i64 1, .int .i64 ((n : Int) + 1), bytesD (kO b), bytesD [u], .int .i64 0]))) →
        FC Try.prog [] 11 [.ms k (ds.length * 5 + 10) 0 (ds.length + 2) 5, .int .i64 ((n : Int) + 2)] σ (fun d σ' => d = .tup [ensD false (ins (ins (contAt (runC ds).2 n) ⟨kO a, [w]⟩) ⟨kO b, [u]⟩), .bool true] ∧ σ' = thS k (ds.flatMap deC ++ [.int .i64 1, .int .i64 n, bytesD (kO a), bytesD [w], .int .i64 0, .int .i64 1, .int .i64 ((n : Int) + 1), bytesD (kO b), bytesD [u], .int .i64 0]) σ) := by
      intro a b w u _ k σ hσ
      obtain ⟨t1, t2⟩ := two_puts (a := a) (b := b) (w := w) (u := u) hV rfl
      have e1 : (ds ++ [(⟨1, n, kO a, [w], 0⟩ : Deed), ⟨1, (n : Int) + 1, kO b, [u], 0⟩]).flatMap deC = ds.flatMap deC ++ [.int .i64 1, .int .i64 n, bytesD (kO a), bytesD [w], .int .i64 0, .int .i64 1, .int .i64 ((n : Int) + 1), bytesD (kO b), bytesD [u], .int .i64 0] := by rw [List.flatMap_append]; rfl
      have hz := lastZ (G := []) (ds ++ [(⟨1, n, kO a, [w], 0⟩ : Deed), ⟨1, (n : Int) + 1, kO b, [u], 0⟩]) (fun x hx => (List.mem_append.1 hx).elim (hok.kb x) (fun h => by
        rcases List.mem_cons.1 h with rfl | h
        · exact kO_kb _
        · rw [List.mem_singleton.1 h]; exact kO_kb _)) (by simp; omega) ((n : Int) + 2) (by omega) (by rw [t1]; omega) k (ds.length * 5 + 10) (ds.length + 2) σ (by simp; omega) (by simp) (by rw [e1]; exact hσ)
      rw [e1, t2] at hz
      exact hz
    have r1 := run2 a b 1 2 hne
    have r2 := run2 b a 2 1 (by have := cmpL_anti (kO a) (kO b); omega)
    have hcm : ins (ins (contAt (runC ds).2 n) ⟨kO b, [2]⟩) ⟨kO a, [1]⟩ = ins (ins (contAt (runC ds).2 n) ⟨kO a, [1]⟩) ⟨kO b, [2]⟩ := (ins_comm _ (a := ⟨kO a, [1]⟩) (b := ⟨kO b, [2]⟩) hne).symm
    have h2 := ins_two (es := contAt (runC ds).2 n) (a := ⟨kO a, [1]⟩) (b := ⟨kO b, [2]⟩) hne
    rw [hcm] at r2
    have hmem := runC_cont ds hok.kb _ (cont_mem (C := (runC ds).2) (v := (n : Int)) (by omega) (by omega))
    have hz1 := (ins_len (es := contAt (runC ds).2 n) ⟨kO a, [1]⟩).2
    have hz2 := (ins_len (es := ins (contAt (runC ds).2 n) ⟨kO a, [1]⟩) ⟨kO b, [2]⟩).2
    have hE := sameEns (G := []) false false (ins (ins (contAt (runC ds).2 n) ⟨kO a, [1]⟩) ⟨kO b, [2]⟩) (by omega) (eok_ins (eok_ins hmem.1 (kO_kb a) (by simp [kO]) (by simp)) (kO_kb b) (by simp [kO]) (by simp)).bnd
    generalize ins (ins (contAt (runC ds).2 n) ⟨kO a, [1]⟩) ⟨kO b, [2]⟩ = Z at *
    unfold ensD at r1 r2 hE
    have hz9 : ds.length * 72 ≤ 140737488355328 := by omega
    have hz10 : (ds.length + 2) * 72 ≤ 140737488355328 := by omega
    repeat' first
      | refine jw_ret (hQ _ _ (.inr rfl) ⟨5, _, _, rfl, rfl, ?_⟩)
      | refine jw_ret (hQ _ _ (.inr rfl) ⟨_, rfl, ?_⟩)
      | refine jw_seq_k fun K hK => ?_
      | refine jw_block ?_
      | (refine jw_skip ?_; try simp)
      | (refine jw_exit ?_; try simp)
      | (refine jw_cond rfl (fun hc => ?_) (fun hc => ?_) <;> (try simp at hc) <;> (try (exfalso; first | omega | exact absurd hc (by assumption))))
      | ((fail_if_success (refine jw_c (id := 14) ?_)); (refine jw_c ?_; simp (maxSteps := 1000000) [desD, hw1, hw2, hdf, hct, okC_des, okCell, okRef, numsD, hz9, hz10]))
      | (refine jw_draw_e (id := 13) [(1, 2), (5, 2), (8, 2)] mixed (by kernel_rfl) (by kernel_rfl) ?_; simp (maxSteps := 1000000) [desD, hw1, hw2, hdf, hct, okC_des, okCell, okRef, numsD, hz9, hz10])
      | ((fail_if_success (refine jw_draw_j (id := 14) mixed (by kernel_rfl) ?_)); (refine jw_draw_j mixed (by kernel_rfl) ?_; simp (maxSteps := 1000000) [desD, hw1, hw2, hdf, hct, okC_des, okCell, okRef, numsD, hz9, hz10]))
      | (first | (apply hK; clear hK) | (clear hK; apply hK; clear hK) | (clear hK; clear hK; apply hK; clear hK) | (clear hK; clear hK; clear hK; apply hK; clear hK))
      | exact hQ _ _ (.inl rfl) ⟨5, _, _, rfl, rfl, rfl⟩
      | refine hQ _ _ (.inl rfl) ⟨5, _, _, rfl, rfl, ?_⟩
      | refine hQ _ _ (.inl rfl) ⟨_, rfl, ?_⟩
      | (refine js_fc (f := 11) rfl rfl rfl rfl rfl rfl (r1 _ _ (by simp [numsD])) ?_; simp (maxSteps := 1000000) [desD, hw1, hw2, hdf, hct, okC_des, okCell, okRef, numsD, hz9, hz10])
      | (refine jd_newc rfl rfl (by simp) ?_; simp (maxSteps := 1000000) [thD, thL, desD, hw1, hw2, hdf, hct, okC_des, okCell, okRef, numsD, hz9, hz10])
      | (refine okN_or ?_; simp (maxSteps := 1000000) [thD, thL, desD, hw1, hw2, hdf, hct, okC_des, okCell, okRef, numsD, hz9, hz10])
      | (refine js_newc rfl rfl (by simp) rfl ?_; simp (maxSteps := 1000000) [desD, hw1, hw2, hdf, hct, okC_des, okCell, okRef, numsD, hz9, hz10])
      | (refine okM_or ?_; simp (maxSteps := 1000000) [desD, hw1, hw2, hdf, hct, okC_des, okCell, okRef, numsD, hz9, hz10])
      | (refine okS_or ?_; simp (maxSteps := 1000000) [desD, hw1, hw2, hdf, hct, okC_des, okCell, okRef, numsD, hz9, hz10])
      | (refine okS_guard (fun hc => ?_) (fun hc => ?_) <;> (first | simp (maxSteps := 1000000) [hc, of_decide_eq_true hc, desD, hw1, hw2, hdf, hct, okC_des, okCell, okRef, numsD, hz9, hz10] | simp (maxSteps := 1000000) [hc, of_decide_eq_false hc, desD, hw1, hw2, hdf, hct, okC_des, okCell, okRef, numsD, hz9, hz10] | simp (maxSteps := 1000000) [hc, desD, hw1, hw2, hdf, hct, okC_des, okCell, okRef, numsD, hz9, hz10]) <;> (try simp at hc) <;> (try (exfalso; first | omega | exact absurd hc (by assumption))))
      | (refine okC_guard (fun hc => ?_) (fun hc => ?_) <;> (first | simp (maxSteps := 1000000) [hc, of_decide_eq_true hc, desD, hw1, hw2, hdf, hct, okC_des, okCell, okRef, numsD, hz9, hz10] | simp (maxSteps := 1000000) [hc, of_decide_eq_false hc, desD, hw1, hw2, hdf, hct, okC_des, okCell, okRef, numsD, hz9, hz10] | simp (maxSteps := 1000000) [hc, desD, hw1, hw2, hdf, hct, okC_des, okCell, okRef, numsD, hz9, hz10]) <;> (try simp at hc) <;> (try (exfalso; first | omega | exact absurd hc (by assumption))))
      | (refine okJ_guard (fun hc => ?_) (fun hc => ?_) <;> (first | simp (maxSteps := 1000000) [hc, of_decide_eq_true hc, desD, hw1, hw2, hdf, hct, okC_des, okCell, okRef, numsD, hz9, hz10] | simp (maxSteps := 1000000) [hc, of_decide_eq_false hc, desD, hw1, hw2, hdf, hct, okC_des, okCell, okRef, numsD, hz9, hz10] | simp (maxSteps := 1000000) [hc, desD, hw1, hw2, hdf, hct, okC_des, okCell, okRef, numsD, hz9, hz10]) <;> (try simp at hc) <;> (try (exfalso; first | omega | exact absurd hc (by assumption))))
      | (refine And.intro (by first | assumption | omega | (simp [BelL, Bel]; done) | (simp; omega)) ?_; try simp (maxSteps := 1000000) [desD, hw1, hw2, hdf, hct, okC_des, okCell, okRef, numsD, hz9, hz10])
      | (refine okC_or ?_; simp (maxSteps := 1000000) [desD, hw1, hw2, hdf, hct, okC_des, okCell, okRef, numsD, hz9, hz10])
    have hz10 : (2 : Int) ≤ Z.length := by omega
    have hz11 : ds.length * 72 ≤ 140737488355328 := by omega
    have hz12 : (ds.length + 2) * 72 ≤ 140737488355328 := by omega
    repeat' first
      | refine jw_seq_k fun K hK => ?_
      | refine jw_block ?_
      | (refine jw_skip ?_; try simp)
      | (refine jw_exit ?_; try simp)
      | (refine jw_cond rfl (fun hc => ?_) (fun hc => ?_) <;> (try simp at hc) <;> (try (exfalso; first | omega | exact absurd hc (by assumption))))
      | (refine jw_c ?_; simp (maxSteps := 1000000) [desD, hw1, hw2, hdf, hct, okC_des, okCell, okRef, numsD, h2, hz10, hz11, hz12])
      | (refine jw_draw_e (id := 14) [(1, 2), (5, 2), (8, 2)] mixed (by kernel_rfl) (by kernel_rfl) ?_; simp (maxSteps := 1000000) [desD, hw1, hw2, hdf, hct, okC_des, okCell, okRef, numsD, h2, hz10, hz11, hz12])
      | (refine jw_draw_j mixed (by kernel_rfl) ?_; simp (maxSteps := 1000000) [desD, hw1, hw2, hdf, hct, okC_des, okCell, okRef, numsD, h2, hz10, hz11, hz12])
      | (first | (apply hK; clear hK) | (clear hK; apply hK; clear hK) | (clear hK; clear hK; apply hK; clear hK) | (clear hK; clear hK; clear hK; apply hK; clear hK))
      | (refine js_fc (f := 11) rfl rfl rfl rfl rfl rfl (r2 _ _ (by simp [numsD])) ?_; simp (maxSteps := 1000000) [desD, hw1, hw2, hdf, hct, okC_des, okCell, okRef, numsD, h2, hz10, hz11, hz12])
      | (refine jl_call (f := 13) rfl rfl rfl rfl rfl (hE) (by simp [BelL, Bel]) ?_; rintro r rfl; simp (maxSteps := 1000000) [desD, hw1, hw2, hdf, hct, okC_des, okCell, okRef, numsD, h2, hz10, hz11, hz12])
      | (refine jd_call (f := 13) rfl rfl rfl rfl rfl (hE) (by simp [BelL, Bel]) ?_; simp (maxSteps := 1000000) [desD, hw1, hw2, hdf, hct, okC_des, okCell, okRef, numsD, h2, hz10, hz11, hz12])
      | (refine js_call (f := 13) rfl rfl rfl rfl rfl (hE) (by simp [BelL, Bel]) rfl ?_; simp (maxSteps := 1000000) [desD, hw1, hw2, hdf, hct, okC_des, okCell, okRef, numsD, h2, hz10, hz11, hz12])
      | (refine jw_ret (hQ _ _ (.inr rfl) (ret_ok 0 ?_ (by first | omega | simp))); simp (maxSteps := 1000000) [okRet, BelL, Bel, BelS, BelOb, desD, hw1, hw2, hdf, hct, okC_des, okCell, okRef, numsD, h2, hz10, hz11, hz12])
      | (refine hQ _ _ (.inl rfl) (ret_ok 0 ?_ (by first | omega | simp)); simp (maxSteps := 1000000) [okRet, BelL, Bel, BelS, BelOb, desD, hw1, hw2, hdf, hct, okC_des, okCell, okRef, numsD, h2, hz10, hz11, hz12])
      | (refine jd_newc rfl rfl (by simp) ?_; simp (maxSteps := 1000000) [thD, thL, desD, hw1, hw2, hdf, hct, okC_des, okCell, okRef, numsD, h2, hz10, hz11, hz12])
      | (refine okN_or ?_; simp (maxSteps := 1000000) [thD, thL, desD, hw1, hw2, hdf, hct, okC_des, okCell, okRef, numsD, h2, hz10, hz11, hz12])
      | (refine js_newc rfl rfl (by simp) rfl ?_; simp (maxSteps := 1000000) [desD, hw1, hw2, hdf, hct, okC_des, okCell, okRef, numsD, h2, hz10, hz11, hz12])
      | (refine okM_or ?_; simp (maxSteps := 1000000) [desD, hw1, hw2, hdf, hct, okC_des, okCell, okRef, numsD, h2, hz10, hz11, hz12])
      | (refine okS_or ?_; simp (maxSteps := 1000000) [desD, hw1, hw2, hdf, hct, okC_des, okCell, okRef, numsD, h2, hz10, hz11, hz12])
      | (refine okS_guard (fun hc => ?_) (fun hc => ?_) <;> (first | simp (maxSteps := 1000000) [hc, of_decide_eq_true hc, desD, hw1, hw2, hdf, hct, okC_des, okCell, okRef, numsD, h2, hz10, hz11, hz12] | simp (maxSteps := 1000000) [hc, of_decide_eq_false hc, desD, hw1, hw2, hdf, hct, okC_des, okCell, okRef, numsD, h2, hz10, hz11, hz12] | simp (maxSteps := 1000000) [hc, desD, hw1, hw2, hdf, hct, okC_des, okCell, okRef, numsD, h2, hz10, hz11, hz12]) <;> (try simp at hc) <;> (try (exfalso; first | omega | exact absurd hc (by assumption))))
      | (refine okC_guard (fun hc => ?_) (fun hc => ?_) <;> (first | simp (maxSteps := 1000000) [hc, of_decide_eq_true hc, desD, hw1, hw2, hdf, hct, okC_des, okCell, okRef, numsD, h2, hz10, hz11, hz12] | simp (maxSteps := 1000000) [hc, of_decide_eq_false hc, desD, hw1, hw2, hdf, hct, okC_des, okCell, okRef, numsD, h2, hz10, hz11, hz12] | simp (maxSteps := 1000000) [hc, desD, hw1, hw2, hdf, hct, okC_des, okCell, okRef, numsD, h2, hz10, hz11, hz12]) <;> (try simp at hc) <;> (try (exfalso; first | omega | exact absurd hc (by assumption))))
      | (refine okJ_guard (fun hc => ?_) (fun hc => ?_) <;> (first | simp (maxSteps := 1000000) [hc, of_decide_eq_true hc, desD, hw1, hw2, hdf, hct, okC_des, okCell, okRef, numsD, h2, hz10, hz11, hz12] | simp (maxSteps := 1000000) [hc, of_decide_eq_false hc, desD, hw1, hw2, hdf, hct, okC_des, okCell, okRef, numsD, h2, hz10, hz11, hz12] | simp (maxSteps := 1000000) [hc, desD, hw1, hw2, hdf, hct, okC_des, okCell, okRef, numsD, h2, hz10, hz11, hz12]) <;> (try simp at hc) <;> (try (exfalso; first | omega | exact absurd hc (by assumption))))
      | (refine And.intro (by first | assumption | omega | (simp [BelL, Bel]; done) | (simp; omega)) ?_; try simp (maxSteps := 1000000) [desD, hw1, hw2, hdf, hct, okC_des, okCell, okRef, numsD, h2, hz10, hz11, hz12])
      | (refine okC_or ?_; simp (maxSteps := 1000000) [desD, hw1, hw2, hdf, hct, okC_des, okCell, okRef, numsD, h2, hz10, hz11, hz12])
theorem treeOrder (ls : List (List D)) (hr : Vm.Rows (Parts MvP) ls) (hz : ls.length * 32 ≤ 140737488351232) (_ : ls.length ≤ 9223372036854775807) (a : Int) (_ : (Lit.int .i64 a).wf = true) (b : Int) (_ : (Lit.int .i64 b).wf = true) :
    FV Try.prog [] 6 [.sl false ls.flatten ls.length, .int .i64 a, .int .i64 b] (fun r => r = .bool true) := by
  obtain ⟨l, h2, h3⟩ := mvs_of hr
  rw [h2, h3]
  exact treeOrderW l (by omega) a b
end Go.Proofs.Ytibcjkklgifgmaa
