/- Trees: replaced, halves. The walks. -/
import Derived.Test.YtibcjkklgifgmaaTreeE
import Derived.Test.YtibcjkklgifgmaaTreeA
set_option linter.unusedVariables false
set_option linter.unusedSimpArgs false
set_option maxRecDepth 20000
set_option maxHeartbeats 20000000
namespace Go.Proofs.Ytibcjkklgifgmaa
open Go Go.Vm Go.Proofs

/-! ### entries -/
theorem takeE (l : List En) (j : Nat) : List.take (j * 2) (cellE l) = cellE (l.take j) := by
  exact flat_take enC_len l j
theorem dropE (l : List En) (j : Nat) : List.drop (j * 2) (cellE l) = cellE (l.drop j) := by
  unfold cellE
  have h := List.take_append_drop j l
  have e : (l.flatMap enC) = ((l.take j).flatMap enC) ++ ((l.drop j).flatMap enC) := by rw [← List.flatMap_append, h]
  by_cases hj : j ≤ l.length
  · rw [e, List.drop_append, List.drop_of_length_le (by rw [ens_len]; simp; omega), List.nil_append, ens_len, show j * 2 - (l.take j).length * 2 = 0 by simp; omega, List.drop_zero]
  · rw [List.drop_of_length_le (by rw [ens_len]; omega), List.drop_of_length_le (by omega)]; rfl
theorem allE (l : List En) (n : Nat) (h : l.length ≤ n) : List.take (n * 2) (cellE l) = cellE l := List.take_of_length_le (by rw [cellE_len]; omega)
theorem concat3E {G : Globals} (fl f1 f2 f3 : Bool) (a b c : List En) (h : a.length + b.length + c.length ≤ 100000) :
    FV Try.prog G 46 [.sl fl [.sl f1 (cellE a) a.length, .sl f2 (cellE b) b.length, .sl f3 (cellE c) c.length] 3] (fun r => r = ensD false (a ++ b ++ c)) := by
  have := concatE (G := G) fl [(f1, a), (f2, b), (f3, c)] (by simp; omega) (by simp)
  simpa [slE, ensD] using this
theorem concat2E {G : Globals} (fl f1 f2 : Bool) (a b : List En) (h : a.length + b.length ≤ 100000) :
    FV Try.prog G 46 [.sl fl [.sl f1 (cellE a) a.length, .sl f2 (cellE b) b.length] 2] (fun r => r = ensD false (a ++ b)) := by
  have := concatE (G := G) fl [(f1, a), (f2, b)] (by simp; omega) (by simp)
  simpa [slE, ensD] using this
theorem replacedE {G : Globals} (f g : Bool) (es ws : List En) (i j : Nat) (hij : i ≤ j) (hj : j ≤ es.length) (h : es.length + ws.length ≤ 50000) :
    FV Try.prog G 36 [ensD f es, .int .i64 i, .int .i64 j, ensD g ws] (fun r => r = ensD false (es.take i ++ ws ++ es.drop j)) := by
  have hC := fun fl f1 f2 f3 => concat3E (G := G) fl f1 f2 f3 (es.take i) ws (es.drop j) (by simp; omega)
  have h1 : (es.take i).length = i := by simp; omega
  have h2 : (es.drop j).length = es.length - j := by simp
  have ha := allE (es.drop j) (es.length - j) (by omega)
  have t1 := takeE es i
  have t2 := dropE es j
  have hlen := cellE_len es
  rw [h1, h2] at hC
  unfold ensD at hC
  refine fv_enter_v Try.func36 rfl rfl fun Q hQ => ?_
  repeat' first
    | refine jw_seq_k fun K hK => ?_
    | refine jw_block ?_
    | ((first | refine jw_skip ?_ | refine jw_exit ?_); try simp)
    | (refine jw_cond rfl (fun hc => ?_) (fun hc => ?_) <;> (try simp at hc) <;> (try (exfalso; first | omega | exact absurd hc (by assumption))))
    | ((first | refine jw_c ?_ | refine jw_draw_j mixed (by kernel_rfl) ?_ | (refine jl_call (f := 46) rfl rfl rfl rfl rfl (hC _ _ _ _) (by simp [BelL, Bel]) ?_; rintro r rfl) | refine jd_call (f := 46) rfl rfl rfl rfl rfl (hC _ _ _ _) (by simp [BelL, Bel]) ?_); simp (maxSteps := 1000000) [Try.f36, ensD, t1, t2, ha, hlen, h1, h2, show i ≤ es.length by omega, show (i : Int) ≤ es.length by omega, hj, show (j : Int) ≤ es.length by omega])
    | (first | (apply hK; clear hK) | (clear hK; apply hK; clear hK) | (clear hK; clear hK; apply hK; clear hK) | (clear hK; clear hK; clear hK; apply hK; clear hK))
    | ((first | refine jw_ret (hQ _ _ (.inr rfl) (ret_ok 0 ?_ (by first | omega | simp))) | refine hQ _ _ (.inl rfl) (ret_ok 0 ?_ (by first | omega | simp))); simp (maxSteps := 1000000) [okRet, BelL, Bel, BelS, BelOb, Try.f36, ensD, t1, t2, ha, hlen, h1, h2, show i ≤ es.length by omega, show (i : Int) ≤ es.length by omega, hj, show (j : Int) ≤ es.length by omega])
    | ((first | refine jd_newc rfl rfl (by simp) ?_ | refine okN_or ?_); simp (maxSteps := 1000000) [thD, thL, Try.f36, ensD, t1, t2, ha, hlen, h1, h2, show i ≤ es.length by omega, show (i : Int) ≤ es.length by omega, hj, show (j : Int) ≤ es.length by omega])
    | ((first | refine okC_guard (fun hc => ?_) (fun hc => ?_) | refine okJ_guard (fun hc => ?_) (fun hc => ?_)) <;> (first | have hd := of_decide_eq_true hc | have hd := of_decide_eq_false hc | have hd := hc) <;> simp (maxSteps := 1000000) [hc, hd, Try.f36, ensD, t1, t2, ha, hlen, h1, h2, show i ≤ es.length by omega, show (i : Int) ≤ es.length by omega, hj, show (j : Int) ≤ es.length by omega] <;> (try simp at hc) <;> (try (exfalso; first | omega | exact absurd hc (by assumption))))
    | (refine And.intro (by first | assumption | omega | (simp [BelL, Bel]; done) | (simp; omega)) ?_; try simp (maxSteps := 1000000) [Try.f36, ensD, t1, t2, ha, hlen, h1, h2, show i ≤ es.length by omega, show (i : Int) ≤ es.length by omega, hj, show (j : Int) ≤ es.length by omega])
    | (refine okC_or ?_; simp (maxSteps := 1000000) [Try.f36, ensD, t1, t2, ha, hlen, h1, h2, show i ≤ es.length by omega, show (i : Int) ≤ es.length by omega, hj, show (j : Int) ≤ es.length by omega])
/-- In two, where it is too long. -/
theorem halvesE {G : Globals} (f : Bool) (es : List En) (hl : es.length ≤ 100000) : FV Try.prog G 45 [ensD f es] (fun r => r = .sl false ((halves es).map (ensD false)) (halves es).length) := by
  refine fv_to ?_
  refine fv_enter_v Try.func45 rfl rfl fun Q hQ => ?_
  have hlen := cellE_len es
  by_cases h4 : es.length ≤ 4
  · have e : halves es = [es] := if_pos h4
    rw [e] at hQ
    repeat' first
      | refine jw_seq_k fun K hK => ?_
      | refine jw_block ?_
      | ((first | refine jw_skip ?_ | refine jw_exit ?_); try simp)
      | (refine jw_cond rfl (fun hc => ?_) (fun hc => ?_) <;> (try simp at hc) <;> (try (exfalso; first | omega | exact absurd hc (by assumption))))
      | ((first | refine jw_c ?_ | refine jw_draw_j mixed (by kernel_rfl) ?_); simp (maxSteps := 1000000) [Try.f45, ensD, h4, okCell, show (es.length : Int) ≤ 4 by omega])
      | (first | (apply hK; clear hK) | (clear hK; apply hK; clear hK) | (clear hK; clear hK; apply hK; clear hK) | (clear hK; clear hK; clear hK; apply hK; clear hK))
      | ((first | refine jw_ret (hQ _ _ (.inr rfl) (ret_okF 0 0 rfl (by simp [BelL, Bel, Try.f45, ensD, h4, okCell, show (es.length : Int) ≤ 4 by omega]) ?_ (by first | omega | simp))) | refine hQ _ _ (.inl rfl) (ret_okF 0 0 rfl (by simp [BelL, Bel, Try.f45, ensD, h4, okCell, show (es.length : Int) ≤ 4 by omega]) ?_ (by first | omega | simp))); simp (maxSteps := 1000000) [okRetF, thS, thOb, thD, thL, BelL, Bel, BelS, BelOb, Try.f45, ensD, h4, okCell, show (es.length : Int) ≤ 4 by omega])
      | ((first | refine jd_newc rfl rfl (by simp) ?_ | refine okN_or ?_); simp (maxSteps := 1000000) [thD, thL, Try.f45, ensD, h4, okCell, show (es.length : Int) ≤ 4 by omega])
      | ((first | refine okC_guard (fun hc => ?_) (fun hc => ?_) | refine okJ_guard (fun hc => ?_) (fun hc => ?_)) <;> (first | have hd := of_decide_eq_true hc | have hd := of_decide_eq_false hc | have hd := hc) <;> simp (maxSteps := 1000000) [hc, hd, Try.f45, ensD, h4, okCell, show (es.length : Int) ≤ 4 by omega] <;> (try simp at hc) <;> (try (exfalso; first | omega | exact absurd hc (by assumption))))
      | (refine And.intro (by first | assumption | omega | (simp [BelL, Bel]; done) | (simp; omega)) ?_; try simp (maxSteps := 1000000) [Try.f45, ensD, h4, okCell, show (es.length : Int) ≤ 4 by omega])
      | (refine okC_or ?_; simp (maxSteps := 1000000) [Try.f45, ensD, h4, okCell, show (es.length : Int) ≤ 4 by omega])
    all_goals (refine lew_sl ?_; simp)
  · obtain ⟨i, hi⟩ : ∃ i, es.length / 2 = i := ⟨_, rfl⟩
    have e : halves es = [es.take i, es.drop i] := by unfold halves; rw [if_neg h4, hi]
    rw [e] at hQ
    have hq : ((es.length : Int).tdiv 2) = i := by rw [Int.tdiv_eq_ediv_of_nonneg (by omega)]; omega
    have hw := wrap_i64 (n := (i : Int)) (by omega) (by omega)
    have h1 : (es.take i).length = i := by simp; omega
    have h2 : (es.drop i).length = es.length - i := by simp
    have ha := allE (es.drop i) (es.length - i) (by omega)
    have t1 := takeE es i
    have t2 := dropE es i
    repeat' first
      | refine jw_seq_k fun K hK => ?_
      | refine jw_block ?_
      | ((first | refine jw_skip ?_ | refine jw_exit ?_); try simp)
      | (refine jw_cond rfl (fun hc => ?_) (fun hc => ?_) <;> (try simp at hc) <;> (try (exfalso; first | omega | exact absurd hc (by assumption))))
      | ((first | refine jw_c ?_ | refine jw_draw_j mixed (by kernel_rfl) ?_); simp (maxSteps := 1000000) [Try.f45, ensD, h4, okCell, show ¬ (es.length : Int) ≤ 4 by omega, hq, hw, t1, t2, ha, hlen, h1, h2, show i ≤ es.length by omega, show (i : Int) ≤ es.length by omega])
      | (first | (apply hK; clear hK) | (clear hK; apply hK; clear hK) | (clear hK; clear hK; apply hK; clear hK) | (clear hK; clear hK; clear hK; apply hK; clear hK))
      | ((first | refine jw_ret (hQ _ _ (.inr rfl) (ret_ok 0 ?_ (by first | omega | simp))) | refine hQ _ _ (.inl rfl) (ret_ok 0 ?_ (by first | omega | simp))); simp (maxSteps := 1000000) [okRet, BelL, Bel, BelS, BelOb, Try.f45, ensD, h4, okCell, show ¬ (es.length : Int) ≤ 4 by omega, hq, hw, t1, t2, ha, hlen, h1, h2, show i ≤ es.length by omega, show (i : Int) ≤ es.length by omega])
      | ((first | refine jd_newc rfl rfl (by simp) ?_ | refine okN_or ?_); simp (maxSteps := 1000000) [thD, thL, Try.f45, ensD, h4, okCell, show ¬ (es.length : Int) ≤ 4 by omega, hq, hw, t1, t2, ha, hlen, h1, h2, show i ≤ es.length by omega, show (i : Int) ≤ es.length by omega])
      | ((first | refine okC_guard (fun hc => ?_) (fun hc => ?_) | refine okJ_guard (fun hc => ?_) (fun hc => ?_)) <;> (first | have hd := of_decide_eq_true hc | have hd := of_decide_eq_false hc | have hd := hc) <;> simp (maxSteps := 1000000) [hc, hd, Try.f45, ensD, h4, okCell, show ¬ (es.length : Int) ≤ 4 by omega, hq, hw, t1, t2, ha, hlen, h1, h2, show i ≤ es.length by omega, show (i : Int) ≤ es.length by omega] <;> (try simp at hc) <;> (try (exfalso; first | omega | exact absurd hc (by assumption))))
      | (refine And.intro (by first | assumption | omega | (simp [BelL, Bel]; done) | (simp; omega)) ?_; try simp (maxSteps := 1000000) [Try.f45, ensD, h4, okCell, show ¬ (es.length : Int) ≤ 4 by omega, hq, hw, t1, t2, ha, hlen, h1, h2, show i ≤ es.length by omega, show (i : Int) ≤ es.length by omega])
      | (refine okC_or ?_; simp (maxSteps := 1000000) [Try.f45, ensD, h4, okCell, show ¬ (es.length : Int) ≤ 4 by omega, hq, hw, t1, t2, ha, hlen, h1, h2, show i ≤ es.length by omega, show (i : Int) ≤ es.length by omega])
    all_goals (refine lew_sl ?_; simp)

/-! ### nodes -/
theorem takeK (l : List T) (j : Nat) : List.take (j) (tDs l) = tDs (l.take j) := by
  rw [tDs_map, tDs_map, List.map_take]
theorem dropK (l : List T) (j : Nat) : List.drop (j) (tDs l) = tDs (l.drop j) := by
  rw [tDs_map, tDs_map, List.map_drop]
theorem allK (l : List T) (n : Nat) (h : l.length ≤ n) : List.take (n) (tDs l) = tDs l := List.take_of_length_le (by rw [tDs_len1]; omega)
theorem concat3K {G : Globals} (fl f1 f2 f3 : Bool) (a b c : List T) (h : a.length + b.length + c.length ≤ 100000) :
    FV Try.prog G 42 [.sl fl [.sl f1 (tDs a) a.length, .sl f2 (tDs b) b.length, .sl f3 (tDs c) c.length] 3] (fun r => r = ksD false (a ++ b ++ c)) := by
  have := concatK (G := G) fl [(f1, a), (f2, b), (f3, c)] (by simp; omega) (by simp)
  simpa [slK, ksD] using this
theorem concat2K {G : Globals} (fl f1 f2 : Bool) (a b : List T) (h : a.length + b.length ≤ 100000) :
    FV Try.prog G 42 [.sl fl [.sl f1 (tDs a) a.length, .sl f2 (tDs b) b.length] 2] (fun r => r = ksD false (a ++ b)) := by
  have := concatK (G := G) fl [(f1, a), (f2, b)] (by simp; omega) (by simp)
  simpa [slK, ksD] using this
theorem replacedK {G : Globals} (f g : Bool) (es ws : List T) (i j : Nat) (hij : i ≤ j) (hj : j ≤ es.length) (h : es.length + ws.length ≤ 50000) :
    FV Try.prog G 33 [ksD f es, .int .i64 i, .int .i64 j, ksD g ws] (fun r => r = ksD false (es.take i ++ ws ++ es.drop j)) := by
  have hC := fun fl f1 f2 f3 => concat3K (G := G) fl f1 f2 f3 (es.take i) ws (es.drop j) (by simp; omega)
  have h1 : (es.take i).length = i := by simp; omega
  have h2 : (es.drop j).length = es.length - j := by simp
  have ha := allK (es.drop j) (es.length - j) (by omega)
  have t1 := takeK es i
  have t2 := dropK es j
  have hlen := tDs_len1 es
  rw [h1, h2] at hC
  unfold ksD at hC
  refine fv_enter_v Try.func33 rfl rfl fun Q hQ => ?_
  repeat' first
    | refine jw_seq_k fun K hK => ?_
    | refine jw_block ?_
    | ((first | refine jw_skip ?_ | refine jw_exit ?_); try simp)
    | (refine jw_cond rfl (fun hc => ?_) (fun hc => ?_) <;> (try simp at hc) <;> (try (exfalso; first | omega | exact absurd hc (by assumption))))
    | ((first | refine jw_c ?_ | refine jw_draw_j mixed (by kernel_rfl) ?_ | (refine jl_call (f := 42) rfl rfl rfl rfl rfl (hC _ _ _ _) (by simp [BelL, Bel]) ?_; rintro r rfl) | refine jd_call (f := 42) rfl rfl rfl rfl rfl (hC _ _ _ _) (by simp [BelL, Bel]) ?_); simp (maxSteps := 1000000) [Try.f33, ksD, t1, t2, ha, hlen, h1, h2, show i ≤ es.length by omega, show (i : Int) ≤ es.length by omega, hj, show (j : Int) ≤ es.length by omega])
    | (first | (apply hK; clear hK) | (clear hK; apply hK; clear hK) | (clear hK; clear hK; apply hK; clear hK) | (clear hK; clear hK; clear hK; apply hK; clear hK))
    | ((first | refine jw_ret (hQ _ _ (.inr rfl) (ret_ok 0 ?_ (by first | omega | simp))) | refine hQ _ _ (.inl rfl) (ret_ok 0 ?_ (by first | omega | simp))); simp (maxSteps := 1000000) [okRet, BelL, Bel, BelS, BelOb, Try.f33, ksD, t1, t2, ha, hlen, h1, h2, show i ≤ es.length by omega, show (i : Int) ≤ es.length by omega, hj, show (j : Int) ≤ es.length by omega])
    | ((first | refine jd_newc rfl rfl (by simp) ?_ | refine okN_or ?_); simp (maxSteps := 1000000) [thD, thL, Try.f33, ksD, t1, t2, ha, hlen, h1, h2, show i ≤ es.length by omega, show (i : Int) ≤ es.length by omega, hj, show (j : Int) ≤ es.length by omega])
    | ((first | refine okC_guard (fun hc => ?_) (fun hc => ?_) | refine okJ_guard (fun hc => ?_) (fun hc => ?_)) <;> (first | have hd := of_decide_eq_true hc | have hd := of_decide_eq_false hc | have hd := hc) <;> simp (maxSteps := 1000000) [hc, hd, Try.f33, ksD, t1, t2, ha, hlen, h1, h2, show i ≤ es.length by omega, show (i : Int) ≤ es.length by omega, hj, show (j : Int) ≤ es.length by omega] <;> (try simp at hc) <;> (try (exfalso; first | omega | exact absurd hc (by assumption))))
    | (refine And.intro (by first | assumption | omega | (simp [BelL, Bel]; done) | (simp; omega)) ?_; try simp (maxSteps := 1000000) [Try.f33, ksD, t1, t2, ha, hlen, h1, h2, show i ≤ es.length by omega, show (i : Int) ≤ es.length by omega, hj, show (j : Int) ≤ es.length by omega])
    | (refine okC_or ?_; simp (maxSteps := 1000000) [Try.f33, ksD, t1, t2, ha, hlen, h1, h2, show i ≤ es.length by omega, show (i : Int) ≤ es.length by omega, hj, show (j : Int) ≤ es.length by omega])
/-- In two, where it is too long. -/
theorem halvesK {G : Globals} (f : Bool) (es : List T) (hl : es.length ≤ 100000) : FV Try.prog G 41 [ksD f es] (fun r => r = .sl false ((halves es).map (ksD false)) (halves es).length) := by
  refine fv_to ?_
  refine fv_enter_v Try.func41 rfl rfl fun Q hQ => ?_
  have hlen := tDs_len1 es
  by_cases h4 : es.length ≤ 4
  · have e : halves es = [es] := if_pos h4
    rw [e] at hQ
    repeat' first
      | refine jw_seq_k fun K hK => ?_
      | refine jw_block ?_
      | ((first | refine jw_skip ?_ | refine jw_exit ?_); try simp)
      | (refine jw_cond rfl (fun hc => ?_) (fun hc => ?_) <;> (try simp at hc) <;> (try (exfalso; first | omega | exact absurd hc (by assumption))))
      | ((first | refine jw_c ?_ | refine jw_draw_j mixed (by kernel_rfl) ?_); simp (maxSteps := 1000000) [Try.f41, ksD, h4, okCell, show (es.length : Int) ≤ 4 by omega])
      | (first | (apply hK; clear hK) | (clear hK; apply hK; clear hK) | (clear hK; clear hK; apply hK; clear hK) | (clear hK; clear hK; clear hK; apply hK; clear hK))
      | ((first | refine jw_ret (hQ _ _ (.inr rfl) (ret_okF 0 0 rfl (by simp [BelL, Bel, Try.f41, ksD, h4, okCell, show (es.length : Int) ≤ 4 by omega]) ?_ (by first | omega | simp))) | refine hQ _ _ (.inl rfl) (ret_okF 0 0 rfl (by simp [BelL, Bel, Try.f41, ksD, h4, okCell, show (es.length : Int) ≤ 4 by omega]) ?_ (by first | omega | simp))); simp (maxSteps := 1000000) [okRetF, thS, thOb, thD, thL, BelL, Bel, BelS, BelOb, Try.f41, ksD, h4, okCell, show (es.length : Int) ≤ 4 by omega])
      | ((first | refine jd_newc rfl rfl (by simp) ?_ | refine okN_or ?_); simp (maxSteps := 1000000) [thD, thL, Try.f41, ksD, h4, okCell, show (es.length : Int) ≤ 4 by omega])
      | ((first | refine okC_guard (fun hc => ?_) (fun hc => ?_) | refine okJ_guard (fun hc => ?_) (fun hc => ?_)) <;> (first | have hd := of_decide_eq_true hc | have hd := of_decide_eq_false hc | have hd := hc) <;> simp (maxSteps := 1000000) [hc, hd, Try.f41, ksD, h4, okCell, show (es.length : Int) ≤ 4 by omega] <;> (try simp at hc) <;> (try (exfalso; first | omega | exact absurd hc (by assumption))))
      | (refine And.intro (by first | assumption | omega | (simp [BelL, Bel]; done) | (simp; omega)) ?_; try simp (maxSteps := 1000000) [Try.f41, ksD, h4, okCell, show (es.length : Int) ≤ 4 by omega])
      | (refine okC_or ?_; simp (maxSteps := 1000000) [Try.f41, ksD, h4, okCell, show (es.length : Int) ≤ 4 by omega])
    all_goals (refine lew_sl ?_; simp)
  · obtain ⟨i, hi⟩ : ∃ i, es.length / 2 = i := ⟨_, rfl⟩
    have e : halves es = [es.take i, es.drop i] := by unfold halves; rw [if_neg h4, hi]
    rw [e] at hQ
    have hq : ((es.length : Int).tdiv 2) = i := by rw [Int.tdiv_eq_ediv_of_nonneg (by omega)]; omega
    have hw := wrap_i64 (n := (i : Int)) (by omega) (by omega)
    have h1 : (es.take i).length = i := by simp; omega
    have h2 : (es.drop i).length = es.length - i := by simp
    have ha := allK (es.drop i) (es.length - i) (by omega)
    have t1 := takeK es i
    have t2 := dropK es i
    repeat' first
      | refine jw_seq_k fun K hK => ?_
      | refine jw_block ?_
      | ((first | refine jw_skip ?_ | refine jw_exit ?_); try simp)
      | (refine jw_cond rfl (fun hc => ?_) (fun hc => ?_) <;> (try simp at hc) <;> (try (exfalso; first | omega | exact absurd hc (by assumption))))
      | ((first | refine jw_c ?_ | refine jw_draw_j mixed (by kernel_rfl) ?_); simp (maxSteps := 1000000) [Try.f41, ksD, h4, okCell, show ¬ (es.length : Int) ≤ 4 by omega, hq, hw, t1, t2, ha, hlen, h1, h2, show i ≤ es.length by omega, show (i : Int) ≤ es.length by omega])
      | (first | (apply hK; clear hK) | (clear hK; apply hK; clear hK) | (clear hK; clear hK; apply hK; clear hK) | (clear hK; clear hK; clear hK; apply hK; clear hK))
      | ((first | refine jw_ret (hQ _ _ (.inr rfl) (ret_ok 0 ?_ (by first | omega | simp))) | refine hQ _ _ (.inl rfl) (ret_ok 0 ?_ (by first | omega | simp))); simp (maxSteps := 1000000) [okRet, BelL, Bel, BelS, BelOb, Try.f41, ksD, h4, okCell, show ¬ (es.length : Int) ≤ 4 by omega, hq, hw, t1, t2, ha, hlen, h1, h2, show i ≤ es.length by omega, show (i : Int) ≤ es.length by omega])
      | ((first | refine jd_newc rfl rfl (by simp) ?_ | refine okN_or ?_); simp (maxSteps := 1000000) [thD, thL, Try.f41, ksD, h4, okCell, show ¬ (es.length : Int) ≤ 4 by omega, hq, hw, t1, t2, ha, hlen, h1, h2, show i ≤ es.length by omega, show (i : Int) ≤ es.length by omega])
      | ((first | refine okC_guard (fun hc => ?_) (fun hc => ?_) | refine okJ_guard (fun hc => ?_) (fun hc => ?_)) <;> (first | have hd := of_decide_eq_true hc | have hd := of_decide_eq_false hc | have hd := hc) <;> simp (maxSteps := 1000000) [hc, hd, Try.f41, ksD, h4, okCell, show ¬ (es.length : Int) ≤ 4 by omega, hq, hw, t1, t2, ha, hlen, h1, h2, show i ≤ es.length by omega, show (i : Int) ≤ es.length by omega] <;> (try simp at hc) <;> (try (exfalso; first | omega | exact absurd hc (by assumption))))
      | (refine And.intro (by first | assumption | omega | (simp [BelL, Bel]; done) | (simp; omega)) ?_; try simp (maxSteps := 1000000) [Try.f41, ksD, h4, okCell, show ¬ (es.length : Int) ≤ 4 by omega, hq, hw, t1, t2, ha, hlen, h1, h2, show i ≤ es.length by omega, show (i : Int) ≤ es.length by omega])
      | (refine okC_or ?_; simp (maxSteps := 1000000) [Try.f41, ksD, h4, okCell, show ¬ (es.length : Int) ≤ 4 by omega, hq, hw, t1, t2, ha, hlen, h1, h2, show i ≤ es.length by omega, show (i : Int) ≤ es.length by omega])
    all_goals (refine lew_sl ?_; simp)
end Go.Proofs.Ytibcjkklgifgmaa
