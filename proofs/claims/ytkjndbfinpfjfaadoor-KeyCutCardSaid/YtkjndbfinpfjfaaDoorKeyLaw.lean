/- Keys that are read. Plain law, and sameValues. -/
import Derived.Test.YtkjndbfinpfjfaaDoorKeyRead
import Derived.Test.YtkjndbfinpfjfaaDoorKeyOrder
import Derived.Test.YtkjndbfinpfjfaaDoorOctets
import Derived.Test.YtkjndbfinpfjfaaDoorSameBytes
set_option linter.unusedVariables false
set_option linter.unusedSimpArgs false
set_option maxRecDepth 20000
set_option maxHeartbeats 20000000
namespace Go.Proofs.YtkjndbfinpfjfaaDoor
open Go Go.Vm Go.Proofs

theorem encL_cons (v : Va) (l : List Va) : encL (v :: l) = encA v ++ encL l := rfl
theorem encA_ne {v : Va} (h : VOk v) : encA v ≠ [] := fun e => by
  have := (encA_len h).1
  rw [e] at this; simp at this
/-- A key that begins another is the key of the first values. -/
theorem enc_pre : ∀ {y x : List Va} {s : List Nat}, (∀ v ∈ y, VOk v) → (∀ v ∈ x, VOk v) → encL x = encL y ++ s → ∃ w, x = y ++ w ∧ s = encL w
  | [], x, s, _, _, h => ⟨x, rfl, by simpa [encL] using h.symm⟩
  | v :: y, [], s, hy, _, h => by
    rw [encL_cons] at h
    have := congrArg List.length h
    have h1 := (encA_len (hy v (by simp))).1
    simp only [encL, List.flatMap_nil, List.length_nil, List.length_append] at this
    omega
  | v :: y, u :: x, s, hy, hx, h => by
    rw [encL_cons, encL_cons, List.append_assoc] at h
    have d1 := dec_enc (hx u (by simp)) (encL x)
    have d2 := dec_enc (hy v (by simp)) (encL y ++ s)
    rw [h, d2] at d1
    have e : v = u := congrArg (·.1) d1
    subst e
    obtain ⟨w, e1, e2⟩ := enc_pre (fun a ha => hy a (by simp [ha])) (fun a ha => hx a (by simp [ha])) (List.append_cancel_left h)
    exact ⟨w, by rw [e1]; rfl, e2⟩
theorem take_pre {B y : List Nat} {x : List Nat} (h : B.take y.length = y) (hB : ∃ r, x = B ++ r) : ∃ s, x = y ++ s := by
  obtain ⟨r, rfl⟩ := hB
  refine ⟨B.drop y.length ++ r, ?_⟩
  conv => lhs; rw [← List.take_append_drop y.length B, h]
  rw [List.append_assoc]
theorem dec_cutR {x : List Va} (hx : ∀ v ∈ x, VOk v) (h14 : x.length ≤ 14) {n : Nat} {d : D} {q c : Int} (h : DecR ((encL x).take n) d q c) :
    (c = 0 ∧ q = 0 ∧ ∃ j, j ≤ x.length ∧ d = vasD (x.take j) ∧ encL (x.take j) = (encL x).take n) ∨ (c = 5 ∧ d = .nsl ∧ ∃ j, j < x.length ∧ q = (encL (x.take j)).length ∧ (encL (x.take j)).length < n ∧ (encL (x.take j)).length < (encL x).length ∧ (encL x).take (encL (x.take j)).length = encL (x.take j)) := by
  have hX : ∃ r, encL x = (encL x).take n ++ r := ⟨_, (List.take_append_drop n _).symm⟩
  rcases h with ⟨hc, hq, z, hd, hz, _, he⟩ | ⟨hc, hd, y, hy, _, hq, hlt, hpre, hor⟩
  · obtain ⟨s, hs⟩ := hX
    rw [← he] at hs
    obtain ⟨w, hw, _⟩ := enc_pre hz hx hs
    have e : x.take z.length = z := by rw [hw]; simp
    exact .inl ⟨hc, hq, z.length, by rw [hw]; simp, by rw [hd, e], by rw [e, he]⟩
  · obtain ⟨s, hs⟩ := take_pre hpre hX
    obtain ⟨w, hw, hsw⟩ := enc_pre hy hx hs
    have e : x.take y.length = y := by rw [hw]; simp
    rw [List.length_take] at hlt
    have hw0 : w ≠ [] := fun h0 => by
      have := congrArg List.length hs
      rw [hsw, h0] at this
      simp [encL] at this hlt
      omega
    have hl : y.length < x.length := by
      rw [hw, List.length_append]
      have := List.length_pos_iff.2 hw0
      omega
    rcases hor with ⟨h, _⟩ | ⟨h, hcc⟩
    · omega
    · refine .inr ⟨?_, hd, y.length, hl, by rw [e]; exact hq, by rw [e]; omega, by rw [e]; omega, by rw [e, hs]; simp⟩
      match w, hw0 with
      | u :: w, _ =>
        have hu : VOk u := hx u (by rw [hw]; simp)
        have hd2 : ((encL x).take n).drop (encL y).length = (encA u ++ encL w).take (n - (encL y).length) := by
          rw [List.drop_take, hs, List.drop_left', hsw, encL_cons]
          rfl
        rw [hd2] at hcc
        by_cases hk : n - (encL y).length < (encA u).length
        · rw [List.take_append_of_le_length (by omega)] at hcc
          rw [hcc]
          refine dec_cut hu (List.take_append_drop (n - (encL y).length) _).symm ?_ ?_
          · intro h0
            have h1 := congrArg List.length h0
            have h2 := (encA_len hu).1
            rw [List.length_take, List.length_nil] at h1
            omega
          · intro h0
            have := congrArg List.length h0
            simp at this
            omega
        · have e2 : (encA u ++ encL w).take (n - (encL y).length) = encA u ++ (encL w).take (n - (encL y).length - (encA u).length) := by
            rw [List.take_append, List.take_of_length_le (by omega)]
          rw [e2, dec_enc hu] at hcc
          exact (hc hcc).elim
theorem dec_self {x : List Va} (hx : ∀ v ∈ x, VOk v) (h14 : x.length ≤ 14) {d : D} {q c : Int} (h : DecR (encL x) d q c) : c = 0 ∧ q = 0 ∧ d = vasD x := by
  have h' : DecR ((encL x).take (encL x).length) d q c := by rw [List.take_length]; exact h
  rcases dec_cutR hx h14 h' with ⟨hc, hq, j, hj, hd, he⟩ | ⟨hc, _⟩
  · refine ⟨hc, hq, ?_⟩
    rw [List.take_length] at he
    obtain ⟨w, hw, hsw⟩ := enc_pre (s := []) (fun v hv => hx v (List.mem_of_mem_take hv)) hx (by rw [he, List.append_nil])
    have : w = [] := by
      cases w with
      | nil => rfl
      | cons u w =>
        rw [encL_cons] at hsw
        have hu : VOk u := hx u (by rw [hw]; simp)
        have := (encA_len hu).1
        have h0 := congrArg List.length hsw
        simp only [List.length_nil, List.length_append] at h0
        omega
    rw [this, List.append_nil] at hw
    rw [hd, ← hw]
  · subst hc
    rcases h with ⟨hc, _⟩ | ⟨_, _, y, hy, _, _, hlt, hpre, hor⟩
    · omega
    · obtain ⟨s, hs⟩ := take_pre hpre ⟨[], (List.append_nil _).symm⟩
      obtain ⟨w, hw, hsw⟩ := enc_pre hy hx hs
      match w with
      | [] =>
        rw [hw, List.append_nil] at hlt; omega
      | u :: w =>
        have hu : VOk u := hx u (by rw [hw]; simp)
        have hd2 : (encL x).drop (encL y).length = encA u ++ encL w := by
          rw [hs, List.drop_left', hsw, encL_cons]
          rfl
        rcases hor with ⟨h, _⟩ | ⟨_, h⟩
        · rw [hw] at h14; simp at h14; omega
        · rw [hd2, dec_enc hu] at h; exact absurd h (by omega)

theorem sameVals {G : Globals} (l : List Va) (hl : l.length ≤ 1000) : FV Tryd.prog G 23 [vasD l, vasD l] (fun r => r = .bool true) := by
  refine fv_enter_v Tryd.func23 rfl rfl fun Q hQ => ?_
  repeat' first
    | refine jw_ret (hQ _ _ (.inr rfl) ⟨5, _, _, rfl, rfl, ?_⟩)
    | refine jw_ret (hQ _ _ (.inr rfl) ⟨_, rfl, ?_⟩)
    | refine jw_seq_k fun K hK => ?_
    | refine jw_block ?_
    | (refine jw_skip ?_; try simp)
    | (refine jw_exit ?_; try simp)
    | (refine jw_cond rfl (fun hc => ?_) (fun hc => ?_) <;> (try simp at hc) <;> (try (exfalso; first | omega | exact absurd hc (by assumption))))
    | (refine jw_c ?_; simp (maxSteps := 1000000) [Tryd.f23, vasD])
    | (refine jw_draw_j mixed (by kernel_rfl) ?_; simp (maxSteps := 1000000) [Tryd.f23, vasD])
    | (first | (apply hK; clear hK) | (clear hK; apply hK; clear hK) | (clear hK; clear hK; apply hK; clear hK) | (clear hK; clear hK; clear hK; apply hK; clear hK))
    | exact hQ _ _ (.inl rfl) ⟨5, _, _, rfl, rfl, rfl⟩
    | refine hQ _ _ (.inl rfl) ⟨5, _, _, rfl, rfl, ?_⟩
    | refine hQ _ _ (.inl rfl) ⟨_, rfl, ?_⟩
    | (refine jd_newc rfl rfl (by simp) ?_; simp (maxSteps := 1000000) [thD, thL, Tryd.f23, vasD])
    | (refine okN_or ?_; simp (maxSteps := 1000000) [thD, thL, Tryd.f23, vasD])
    | (refine okC_guard (fun hc => ?_) (fun hc => ?_) <;> (first | simp (maxSteps := 1000000) [hc, of_decide_eq_true hc, Tryd.f23, vasD] | simp (maxSteps := 1000000) [hc, of_decide_eq_false hc, Tryd.f23, vasD] | simp (maxSteps := 1000000) [hc, Tryd.f23, vasD]) <;> (try simp at hc) <;> (try (exfalso; first | omega | exact absurd hc (by assumption))))
    | (refine okJ_guard (fun hc => ?_) (fun hc => ?_) <;> (first | simp (maxSteps := 1000000) [hc, of_decide_eq_true hc, Tryd.f23, vasD] | simp (maxSteps := 1000000) [hc, of_decide_eq_false hc, Tryd.f23, vasD] | simp (maxSteps := 1000000) [hc, Tryd.f23, vasD]) <;> (try simp at hc) <;> (try (exfalso; first | omega | exact absurd hc (by assumption))))
    | (refine And.intro (by first | assumption | omega | (simp [BelL, Bel]; done) | (simp; omega)) ?_; try simp (maxSteps := 1000000) [Tryd.f23, vasD])
    | (refine okC_or ?_; simp (maxSteps := 1000000) [Tryd.f23, vasD])
  refine jw_loop_v (fun m z => ∃ (i : Nat), (i ≤ l.length) ∧ l.length - i = m ∧ z = ⟨[vasD l, vasD l, .any, .any, .any, .int .i64 i] ++ List.replicate 20 .any, []⟩) ⟨[vasD l, vasD l, .any, .any, .any, .int .i64 (0)] ++ List.replicate 20 .any, []⟩ (view_takeE (sl := [vasD l, vasD l, .any, .any, .any, .int .i64 (0)] ++ List.replicate 20 .any) (σ0 := []) 0 (by simp [vasD]) (by first | omega | simp) (by first | omega | (simp [vasD]; done) | (simp [vasD]; omega)) (by first | exact LewS.refl _ | simp [vasD]) (by simp [BelL, Bel, vasD]) (by simp [BelS, BelOb, BelL, Bel, vasD])) ⟨(0), ?_, rfl, rfl⟩ ?_
  rotate_left
  rintro m z ⟨i, hA, rfl, rfl⟩ KA hKA
  · have hw := wrap_i64 (n := (i : Int) + 1) (by omega) (by omega)
    by_cases hlt : i < l.length
    · have hdr := flat_drop vaC_len l i hlt
      have hlen := vas_len l
      obtain ⟨v, hx⟩ : ∃ v, l[i] = v := ⟨_, rfl⟩
      repeat' first
        | refine jw_ret (hQ _ _ (.inr rfl) ⟨5, _, _, rfl, rfl, ?_⟩)
        | refine jw_ret (hQ _ _ (.inr rfl) ⟨_, rfl, ?_⟩)
        | refine jw_seq_k fun K hK => ?_
        | refine jw_block ?_
        | (refine jw_skip ?_; try simp)
        | (refine jw_exit ?_; try simp)
        | (refine jw_cond rfl (fun hc => ?_) (fun hc => ?_) <;> (try simp at hc) <;> (try (exfalso; first | omega | exact absurd hc (by assumption))))
        | (refine jw_c ?_; simp (maxSteps := 1000000) [hlt, vasD, hdr, hx, hlen, vaC, hw, show (i : Int) < l.length by omega, show i * 3 < l.length * 3 by omega])
        | (refine jw_draw_j mixed (by kernel_rfl) ?_; simp (maxSteps := 1000000) [hlt, vasD, hdr, hx, hlen, vaC, hw, show (i : Int) < l.length by omega, show i * 3 < l.length * 3 by omega])
        | (first | (apply hK; clear hK) | (clear hK; apply hK; clear hK) | (clear hK; clear hK; apply hK; clear hK) | (clear hK; clear hK; clear hK; apply hK; clear hK))
        | exact hQ _ _ (.inl rfl) ⟨5, _, _, rfl, rfl, rfl⟩
        | refine hQ _ _ (.inl rfl) ⟨5, _, _, rfl, rfl, ?_⟩
        | refine hQ _ _ (.inl rfl) ⟨_, rfl, ?_⟩
        | (refine jd_newc rfl rfl (by simp) ?_; simp (maxSteps := 1000000) [thD, thL, hlt, vasD, hdr, hx, hlen, vaC, hw, show (i : Int) < l.length by omega, show i * 3 < l.length * 3 by omega])
        | (refine okN_or ?_; simp (maxSteps := 1000000) [thD, thL, hlt, vasD, hdr, hx, hlen, vaC, hw, show (i : Int) < l.length by omega, show i * 3 < l.length * 3 by omega])
        | (refine okC_guard (fun hc => ?_) (fun hc => ?_) <;> (first | simp (maxSteps := 1000000) [hc, of_decide_eq_true hc, hlt, vasD, hdr, hx, hlen, vaC, hw, show (i : Int) < l.length by omega, show i * 3 < l.length * 3 by omega] | simp (maxSteps := 1000000) [hc, of_decide_eq_false hc, hlt, vasD, hdr, hx, hlen, vaC, hw, show (i : Int) < l.length by omega, show i * 3 < l.length * 3 by omega] | simp (maxSteps := 1000000) [hc, hlt, vasD, hdr, hx, hlen, vaC, hw, show (i : Int) < l.length by omega, show i * 3 < l.length * 3 by omega]) <;> (try simp at hc) <;> (try (exfalso; first | omega | exact absurd hc (by assumption))))
        | (refine okJ_guard (fun hc => ?_) (fun hc => ?_) <;> (first | simp (maxSteps := 1000000) [hc, of_decide_eq_true hc, hlt, vasD, hdr, hx, hlen, vaC, hw, show (i : Int) < l.length by omega, show i * 3 < l.length * 3 by omega] | simp (maxSteps := 1000000) [hc, of_decide_eq_false hc, hlt, vasD, hdr, hx, hlen, vaC, hw, show (i : Int) < l.length by omega, show i * 3 < l.length * 3 by omega] | simp (maxSteps := 1000000) [hc, hlt, vasD, hdr, hx, hlen, vaC, hw, show (i : Int) < l.length by omega, show i * 3 < l.length * 3 by omega]) <;> (try simp at hc) <;> (try (exfalso; first | omega | exact absurd hc (by assumption))))
        | (refine And.intro (by first | assumption | omega | (simp [BelL, Bel]; done) | (simp; omega)) ?_; try simp (maxSteps := 1000000) [hlt, vasD, hdr, hx, hlen, vaC, hw, show (i : Int) < l.length by omega, show i * 3 < l.length * 3 by omega])
        | (refine okC_or ?_; simp (maxSteps := 1000000) [hlt, vasD, hdr, hx, hlen, vaC, hw, show (i : Int) < l.length by omega, show i * 3 < l.length * 3 by omega])
      refine hKA (l.length - (i + 1)) _ ⟨[vasD l, vasD l, .any, .any, .any, .int .i64 (i + 1)] ++ List.replicate 20 .any, []⟩ (by omega) (view_takeE (sl := [vasD l, vasD l, .any, .any, .any, .int .i64 (i + 1)] ++ List.replicate 20 .any) (σ0 := []) 0 (by simp [vasD]) (by first | omega | simp) (by first | omega | (simp [vasD]; done) | (simp [vasD]; omega)) (by first | exact LewS.refl _ | simp [vasD]) (by simp [BelL, Bel, vasD]) (by simp [BelS, BelOb, BelL, Bel, vasD])) ⟨(i + 1), ?_, rfl, rfl⟩
      omega
    · repeat' first
        | refine jw_seq_k fun K hK => ?_
        | refine jw_block ?_
        | (refine jw_skip ?_; try simp)
        | (refine jw_exit ?_; try simp)
        | (refine jw_cond rfl (fun hc => ?_) (fun hc => ?_) <;> (try simp at hc) <;> (try (exfalso; first | omega | exact absurd hc (by assumption))))
        | (refine jw_c ?_; simp (maxSteps := 1000000) [hlt, vasD, show ¬ (i : Int) < l.length by omega])
        | (refine jw_draw_j mixed (by kernel_rfl) ?_; simp (maxSteps := 1000000) [hlt, vasD, show ¬ (i : Int) < l.length by omega])
        | (first | (apply hK; clear hK) | (clear hK; apply hK; clear hK) | (clear hK; clear hK; apply hK; clear hK) | (clear hK; clear hK; clear hK; apply hK; clear hK))
        | (refine jw_ret (hQ _ _ (.inr rfl) (ret_ok 0 ?_ (by first | omega | simp))); simp (maxSteps := 1000000) [okRet, BelL, Bel, BelS, BelOb, hlt, vasD, show ¬ (i : Int) < l.length by omega])
        | (refine hQ _ _ (.inl rfl) (ret_ok 0 ?_ (by first | omega | simp)); simp (maxSteps := 1000000) [okRet, BelL, Bel, BelS, BelOb, hlt, vasD, show ¬ (i : Int) < l.length by omega])
        | (refine jd_newc rfl rfl (by simp) ?_; simp (maxSteps := 1000000) [thD, thL, hlt, vasD, show ¬ (i : Int) < l.length by omega])
        | (refine okN_or ?_; simp (maxSteps := 1000000) [thD, thL, hlt, vasD, show ¬ (i : Int) < l.length by omega])
        | (refine okC_guard (fun hc => ?_) (fun hc => ?_) <;> (first | simp (maxSteps := 1000000) [hc, of_decide_eq_true hc, hlt, vasD, show ¬ (i : Int) < l.length by omega] | simp (maxSteps := 1000000) [hc, of_decide_eq_false hc, hlt, vasD, show ¬ (i : Int) < l.length by omega] | simp (maxSteps := 1000000) [hc, hlt, vasD, show ¬ (i : Int) < l.length by omega]) <;> (try simp at hc) <;> (try (exfalso; first | omega | exact absurd hc (by assumption))))
        | (refine okJ_guard (fun hc => ?_) (fun hc => ?_) <;> (first | simp (maxSteps := 1000000) [hc, of_decide_eq_true hc, hlt, vasD, show ¬ (i : Int) < l.length by omega] | simp (maxSteps := 1000000) [hc, of_decide_eq_false hc, hlt, vasD, show ¬ (i : Int) < l.length by omega] | simp (maxSteps := 1000000) [hc, hlt, vasD, show ¬ (i : Int) < l.length by omega]) <;> (try simp at hc) <;> (try (exfalso; first | omega | exact absurd hc (by assumption))))
        | (refine And.intro (by first | assumption | omega | (simp [BelL, Bel]; done) | (simp; omega)) ?_; try simp (maxSteps := 1000000) [hlt, vasD, show ¬ (i : Int) < l.length by omega])
        | (refine okC_or ?_; simp (maxSteps := 1000000) [hlt, vasD, show ¬ (i : Int) < l.length by omega])
  · simp
/-- Encode, of a list that stands in the store. -/
theorem encodeZ (l : List Va) (hl : l.length ≤ 14) (h : ∀ v ∈ l, VOk v) (k v n : Nat) (σ : Store) (hv : v = l.length * 3) (hn : n = l.length) (hσ : σ[k]? = some (some (.c (l.flatMap vaC)))) :
    FC Tryd.prog utfG 21 [.ms k v 0 n 3] σ (fun d σ' => d = .tup [natsD (encL l), .int .i64 0] ∧ σ' = thS k (l.flatMap vaC) σ) := by
  subst hv hn
  refine fc_frz k _ hσ (belL_vas 0 l) ?_
  have e : thL k (l.flatMap vaC) [.ms k (l.length * 3) 0 l.length 3] = [vasD l] := by
    have hlen := vas_len l
    have hct : List.take (l.length * 3) (l.flatMap vaC) = l.flatMap vaC := List.take_of_length_le (by omega)
    simp [thL, thD, hlen, hct, vasD]
  rw [e]
  exact (fc_val (encodeF l hl h) ⟨bel_vas 0 l, trivial⟩).mono fun d σ' h => h
end Go.Proofs.YtkjndbfinpfjfaaDoor
