/- Trees: copied, scan. The walks. -/
import Derived.Test.YtibcjkklgifgmaaTreeW
import Derived.Test.YtibcjkklgifgmaaTreeX
import Derived.Test.YtibcjkklgifgmaaClone
set_option linter.unusedVariables false
set_option linter.unusedSimpArgs false
set_option maxRecDepth 20000
set_option maxHeartbeats 20000000
namespace Go.Proofs.Ytibcjkklgifgmaa
open Go Go.Vm Go.Proofs

structure Deed where
  kind : Int
  ver : Int
  key : List Int
  val : List Int
  lim : Int
structure Fo where
  code : Int := 0
  ver : Int := 0
  val : List Int := []
  es : List En := []
def deC (x : Deed) : List D := [.int .i64 x.kind, .int .i64 x.ver, bytesD x.key, bytesD x.val, .int .i64 x.lim]
def foC (x : Fo) : List D := [.int .i64 x.code, .int .i64 x.ver, bytesD x.val, ensD false x.es]
theorem copiedF {G : Globals} (e : En) (hk : e.k.length ≤ 140737488355328) (hv : e.v.length ≤ 140737488355328) : FV Try.prog G 20 [enD e] (fun r => r = enD e) := by
  have h1 := cloneF (G := G) e.k hk
  have h2 := cloneF (G := G) e.v hv
  refine fv_enter_v Try.func20 rfl rfl fun Q hQ => ?_
  repeat' first
    | refine jw_ret (hQ _ _ (.inr rfl) ⟨5, _, _, rfl, rfl, ?_⟩)
    | refine jw_ret (hQ _ _ (.inr rfl) ⟨_, rfl, ?_⟩)
    | refine jw_seq_k fun K hK => ?_
    | refine jw_block ?_
    | ((first | refine jw_skip ?_ | refine jw_exit ?_); try simp)
    | (refine jw_cond rfl (fun hc => ?_) (fun hc => ?_) <;> (try simp at hc) <;> (try (exfalso; first | omega | exact absurd hc (by assumption))))
    | ((fail_if_success (refine jw_c (id := 1) ?_)); (refine jw_c ?_; simp (maxSteps := 1000000) [Try.f20, enD, enC]))
    | ((fail_if_success (refine jw_draw_j (id := 1) mixed (by kernel_rfl) ?_)); (refine jw_draw_j mixed (by kernel_rfl) ?_; simp (maxSteps := 1000000) [Try.f20, enD, enC]))
    | (first | (apply hK; clear hK) | (clear hK; apply hK; clear hK) | (clear hK; clear hK; apply hK; clear hK) | (clear hK; clear hK; clear hK; apply hK; clear hK))
    | exact hQ _ _ (.inl rfl) ⟨5, _, _, rfl, rfl, rfl⟩
    | refine hQ _ _ (.inl rfl) ⟨5, _, _, rfl, rfl, ?_⟩
    | refine hQ _ _ (.inl rfl) ⟨_, rfl, ?_⟩
    | ((first | refine jd_newc rfl rfl (by simp) ?_ | refine okN_or ?_); simp (maxSteps := 1000000) [thD, thL, Try.f20, enD, enC])
    | ((first | refine okC_guard (fun hc => ?_) (fun hc => ?_) | refine okJ_guard (fun hc => ?_) (fun hc => ?_)) <;> (first | have hd := of_decide_eq_true hc | have hd := of_decide_eq_false hc | have hd := hc) <;> simp (maxSteps := 1000000) [hc, hd, Try.f20, enD, enC] <;> (try simp at hc) <;> (try (exfalso; first | omega | exact absurd hc (by assumption))))
    | (refine And.intro (by first | assumption | omega | (simp [BelL, Bel]; done) | (simp; omega)) ?_; try simp (maxSteps := 1000000) [Try.f20, enD, enC])
    | (refine okC_or ?_; simp (maxSteps := 1000000) [Try.f20, enD, enC])
  (refine jw_view (view_frz 0 _ rfl (by simp [BelL, Bel, thL_flat])) ?_; simp (maxSteps := 1000000) [thL, thD, thS, thOb, thL_flat])
  repeat' first
    | refine jw_seq_k fun K hK => ?_
    | refine jw_block ?_
    | ((first | refine jw_skip ?_ | refine jw_exit ?_); try simp)
    | (refine jw_cond rfl (fun hc => ?_) (fun hc => ?_) <;> (try simp at hc) <;> (try (exfalso; first | omega | exact absurd hc (by assumption))))
    | ((first | refine jw_c ?_ | refine jw_draw_e (id := 1) [(7, 2)] mixed (by kernel_rfl) (by kernel_rfl) ?_ | refine jw_draw_j mixed (by kernel_rfl) ?_ | (refine jl_call (f := 21) rfl rfl rfl rfl rfl (h1) (by simp [BelL, Bel]) ?_; rintro r rfl) | refine jd_call (f := 21) rfl rfl rfl rfl rfl (h1) (by simp [BelL, Bel]) ?_ | refine js_call (f := 21) rfl rfl rfl rfl rfl (h1) (by simp [BelL, Bel]) rfl ?_ | (refine jl_call (f := 21) rfl rfl rfl rfl rfl (h2) (by simp [BelL, Bel]) ?_; rintro r rfl) | refine jd_call (f := 21) rfl rfl rfl rfl rfl (h2) (by simp [BelL, Bel]) ?_ | refine js_call (f := 21) rfl rfl rfl rfl rfl (h2) (by simp [BelL, Bel]) rfl ?_ | refine js_newc rfl rfl (by simp) rfl ?_ | refine okM_or ?_ | refine okS_or ?_); simp (maxSteps := 1000000) [okCell])
    | (first | (apply hK; clear hK) | (clear hK; apply hK; clear hK) | (clear hK; clear hK; apply hK; clear hK) | (clear hK; clear hK; clear hK; apply hK; clear hK))
    | ((first | refine jw_ret (hQ _ _ (.inr rfl) (ret_ok 0 ?_ (by first | omega | simp))) | refine hQ _ _ (.inl rfl) (ret_ok 0 ?_ (by first | omega | simp))); simp (maxSteps := 1000000) [okRet, BelL, Bel, BelS, BelOb, okCell])
    | ((first | refine jd_newc rfl rfl (by simp) ?_ | refine okN_or ?_); simp (maxSteps := 1000000) [thD, thL, okCell])
    | ((first | refine okS_guard (fun hc => ?_) (fun hc => ?_) | refine okC_guard (fun hc => ?_) (fun hc => ?_) | refine okJ_guard (fun hc => ?_) (fun hc => ?_)) <;> (first | have hd := of_decide_eq_true hc | have hd := of_decide_eq_false hc | have hd := hc) <;> simp (maxSteps := 1000000) [hc, hd, okCell] <;> (try simp at hc) <;> (try (exfalso; first | omega | exact absurd hc (by assumption))))
    | (refine And.intro (by first | assumption | omega | (simp [BelL, Bel]; done) | (simp; omega)) ?_; try simp (maxSteps := 1000000) [okCell])
    | (refine okC_or ?_; simp (maxSteps := 1000000) [okCell])
  all_goals rfl
def scanP (v : List Int) (e : En) : Bool := decide (v = []) || decide (cmpL e.k v < 0)
def scanE (items : List En) (v : List Int) (n : Nat) : List En := (items.takeWhile (scanP v)).take n
theorem scan_take {items : List En} {v : List Int} {k : Nat} (h : ∀ e ∈ items.take k, scanP v e = true) : (items.takeWhile (scanP v)).take k = items.take k := by
  have e : items.takeWhile (scanP v) = items.take k ++ (items.drop k).takeWhile (scanP v) := by
    conv => lhs; rw [← List.take_append_drop k items]
    rw [List.takeWhile_append_of_pos h]
  rw [e]
  by_cases hk : k ≤ items.length
  · rw [List.take_append_of_le_length (by simp; omega), List.take_take]; simp
  · rw [List.take_of_length_le (l := items) (by omega), List.drop_of_length_le (by omega)]
    simp
    rw [List.take_of_length_le (by omega)]
theorem scan_stop {items : List En} {v : List Int} {k n : Nat} {e : En} (h : ∀ e ∈ items.take k, scanP v e = true) (he : items[k]? = some e) (hp : scanP v e = false) (hn : k ≤ n) : scanE items v n = items.take k := by
  have hk := (List.getElem?_eq_some_iff.1 he).1
  have e1 : items.drop k = e :: items.drop (k + 1) := by
    rw [List.drop_eq_getElem_cons hk]
    congr 1
    rw [List.getElem?_eq_getElem hk] at he
    exact Option.some.inj he
  have e2 : items.takeWhile (scanP v) = items.take k := by
    conv => lhs; rw [← List.take_append_drop k items]
    rw [List.takeWhile_append_of_pos h, e1, List.takeWhile_cons, hp]; simp
  unfold scanE
  rw [e2, List.take_of_length_le (by simp; omega)]
theorem scan_all {items : List En} {v : List Int} {n : Nat} (h : ∀ e ∈ items, scanP v e = true) (hn : items.length ≤ n) : scanE items v n = items := by
  have e2 : items.takeWhile (scanP v) = items := by
    have := List.takeWhile_append_of_pos (l₂ := []) h
    simpa using this
  unfold scanE
  rw [e2, List.take_of_length_le hn]
def scanR (es : List En) (x : Deed) : Fo := if x.lim < 0 then { code := 2 } else { es := scanE (es.drop (atE es x.key)) x.val x.lim.toNat }

theorem scanF {G : Globals} (d : Nat) (t : T) (x : Deed) (h : Ok d t) (hs : Srt t.en) (hl : t.en.length ≤ 10000) (hb : ∀ e ∈ t.en, e.k.length ≤ 100000 ∧ e.v.length ≤ 100000) : FV Try.prog G 27 [tD t, .agg (deC x)] (fun r => r = .agg (foC (scanR t.en x))) := by
  obtain ⟨kd, ver, key, val, lim⟩ := x
  refine fv_to ?_
  refine fv_enter_v Try.func27 rfl rfl fun Q hQ => ?_
  repeat' first
    | refine jw_ret (hQ _ _ (.inr rfl) ⟨5, _, _, rfl, rfl, ?_⟩)
    | refine jw_ret (hQ _ _ (.inr rfl) ⟨_, rfl, ?_⟩)
    | refine jw_seq_k fun K hK => ?_
    | refine jw_block ?_
    | ((first | refine jw_skip ?_ | refine jw_exit ?_); try simp)
    | (refine jw_cond rfl (fun hc => ?_) (fun hc => ?_) <;> (try simp at hc) <;> (try (exfalso; first | omega | exact absurd hc (by assumption))))
    | ((fail_if_success (refine jw_c (id := 1) ?_)); (refine jw_c ?_; simp (maxSteps := 1000000) [Try.f27, deC, okCell]))
    | ((fail_if_success (refine jw_draw_j (id := 1) mixed (by kernel_rfl) ?_)); (refine jw_draw_j mixed (by kernel_rfl) ?_; simp (maxSteps := 1000000) [Try.f27, deC, okCell]))
    | (first | (apply hK; clear hK) | (clear hK; apply hK; clear hK) | (clear hK; clear hK; apply hK; clear hK) | (clear hK; clear hK; clear hK; apply hK; clear hK))
    | exact hQ _ _ (.inl rfl) ⟨5, _, _, rfl, rfl, rfl⟩
    | refine hQ _ _ (.inl rfl) ⟨5, _, _, rfl, rfl, ?_⟩
    | refine hQ _ _ (.inl rfl) ⟨_, rfl, ?_⟩
    | ((first | refine jd_newc rfl rfl (by simp) ?_ | refine okN_or ?_); simp (maxSteps := 1000000) [thD, thL, Try.f27, deC, okCell])
    | ((first | refine okC_guard (fun hc => ?_) (fun hc => ?_) | refine okJ_guard (fun hc => ?_) (fun hc => ?_)) <;> (first | have hd := of_decide_eq_true hc | have hd := of_decide_eq_false hc | have hd := hc) <;> simp (maxSteps := 1000000) [hc, hd, Try.f27, deC, okCell] <;> (try simp at hc) <;> (try (exfalso; first | omega | exact absurd hc (by assumption))))
    | (refine And.intro (by first | assumption | omega | (simp [BelL, Bel]; done) | (simp; omega)) ?_; try simp (maxSteps := 1000000) [Try.f27, deC, okCell])
    | (refine okC_or ?_; simp (maxSteps := 1000000) [Try.f27, deC, okCell])
  (refine jw_view (view_frz 0 _ rfl (by simp [BelL, Bel, thL_flat, thD_ens, thD_ks, thD_t])) ?_; simp (maxSteps := 1000000) [thL, thD, thS, thOb, thL_flat, thD_ens, thD_ks, thD_t])
  by_cases h0 : lim < 0
  · have e : scanR t.en ⟨kd, ver, key, val, lim⟩ = { code := 2 } := if_pos h0
    rw [e] at hQ
    repeat' first
      | refine jw_seq_k fun K hK => ?_
      | refine jw_block ?_
      | ((first | refine jw_skip ?_ | refine jw_exit ?_); try simp)
      | (refine jw_cond rfl (fun hc => ?_) (fun hc => ?_) <;> (try simp at hc) <;> (try (exfalso; first | omega | exact absurd hc (by assumption))))
      | ((first | refine jw_c ?_ | refine jw_draw_j mixed (by kernel_rfl) ?_); simp (maxSteps := 1000000) [h0, okCell, foC, ensD, numsD])
      | (first | (apply hK; clear hK) | (clear hK; apply hK; clear hK) | (clear hK; clear hK; apply hK; clear hK) | (clear hK; clear hK; clear hK; apply hK; clear hK))
      | ((first | refine jw_ret (hQ _ _ (.inr rfl) (ret_ok 0 ?_ (by first | omega | simp))) | refine hQ _ _ (.inl rfl) (ret_ok 0 ?_ (by first | omega | simp))); simp (maxSteps := 1000000) [okRet, BelL, Bel, BelS, BelOb, h0, okCell, foC, ensD, numsD])
      | ((first | refine jd_newc rfl rfl (by simp) ?_ | refine okN_or ?_); simp (maxSteps := 1000000) [thD, thL, h0, okCell, foC, ensD, numsD])
      | ((first | refine okC_guard (fun hc => ?_) (fun hc => ?_) | refine okJ_guard (fun hc => ?_) (fun hc => ?_)) <;> (first | have hd := of_decide_eq_true hc | have hd := of_decide_eq_false hc | have hd := hc) <;> simp (maxSteps := 1000000) [hc, hd, h0, okCell, foC, ensD, numsD] <;> (try simp at hc) <;> (try (exfalso; first | omega | exact absurd hc (by assumption))))
      | (refine And.intro (by first | assumption | omega | (simp [BelL, Bel]; done) | (simp; omega)) ?_; try simp (maxSteps := 1000000) [h0, okCell, foC, ensD, numsD])
      | (refine okC_or ?_; simp (maxSteps := 1000000) [h0, okCell, foC, ensD, numsD])
  · have e : scanR t.en ⟨kd, ver, key, val, lim⟩ = { es := scanE (t.en.drop (atE t.en key)) val lim.toNat } := if_neg h0
    rw [e] at hQ
    have hF := fromF (G := G) t key
    have hIt := fromIt (G := G) d t key h hs
    rw [wk_law h hs] at hIt
    have hbX : ∀ e ∈ t.en.drop (atE t.en key), e.k.length ≤ 100000 ∧ e.v.length ≤ 100000 := fun e he => hb e (List.mem_of_mem_drop he)
    have hlX : (t.en.drop (atE t.en key)).length ≤ 10000 := by simp; omega
    generalize t.en.drop (atE t.en key) = X at *
    obtain ⟨n, rfl⟩ : ∃ n : Nat, lim = n := ⟨lim.toNat, by omega⟩
    rw [Int.toNat_natCast] at hQ
    repeat' first
      | refine jw_ret (hQ _ _ (.inr rfl) ⟨5, _, _, rfl, rfl, ?_⟩)
      | refine jw_ret (hQ _ _ (.inr rfl) ⟨_, rfl, ?_⟩)
      | refine jw_seq_k fun K hK => ?_
      | refine jw_block ?_
      | ((first | refine jw_skip ?_ | refine jw_exit ?_); try simp)
      | (refine jw_cond rfl (fun hc => ?_) (fun hc => ?_) <;> (try simp at hc) <;> (try (exfalso; first | omega | exact absurd hc (by assumption))))
      | ((first | refine jw_c ?_ | refine jw_draw_j mixed (by kernel_rfl) ?_ | (refine jl_call (f := 37) rfl rfl rfl rfl rfl (hF) (by simp [BelL, Bel]) ?_; rintro r rfl) | refine jd_call (f := 37) rfl rfl rfl rfl rfl (hF) (by simp [BelL, Bel]) ?_); simp (maxSteps := 1000000) [h0, okCell])
      | (first | (apply hK; clear hK) | (clear hK; apply hK; clear hK) | (clear hK; clear hK; apply hK; clear hK) | (clear hK; clear hK; clear hK; apply hK; clear hK))
      | exact hQ _ _ (.inl rfl) ⟨5, _, _, rfl, rfl, rfl⟩
      | refine hQ _ _ (.inl rfl) ⟨5, _, _, rfl, rfl, ?_⟩
      | refine hQ _ _ (.inl rfl) ⟨_, rfl, ?_⟩
      | ((first | refine jd_newc rfl rfl (by simp) ?_ | refine okN_or ?_); simp (maxSteps := 1000000) [thD, thL, h0, okCell])
      | ((first | refine okC_guard (fun hc => ?_) (fun hc => ?_) | refine okJ_guard (fun hc => ?_) (fun hc => ?_)) <;> (first | have hd := of_decide_eq_true hc | have hd := of_decide_eq_false hc | have hd := hc) <;> simp (maxSteps := 1000000) [hc, hd, h0, okCell] <;> (try simp at hc) <;> (try (exfalso; first | omega | exact absurd hc (by assumption))))
      | (refine And.intro (by first | assumption | omega | (simp [BelL, Bel]; done) | (simp; omega)) ?_; try simp (maxSteps := 1000000) [h0, okCell])
      | (refine okC_or ?_; simp (maxSteps := 1000000) [h0, okCell])
    refine jw_view (view_nilc 2 0 2 rfl rfl) ?_
    simp only [List.set_cons_zero, List.set_cons_succ, List.length_cons, List.length_nil, List.cons_append, List.nil_append, Nat.zero_add, Nat.reduceAdd]
    refine jw_iterB hIt rfl 5 (fun r k σ => k ≤ X.length ∧ k ≤ n ∧ (∀ e ∈ X.take k, scanP val e = true) ∧ σ = [none, some (.c [.int .i64 0, .int .i64 0, .nsl, .nsl]), some (.c [.ms 3 (k * 2) 0 k 2]), some (.c (cellE (X.take k))), r])
      (fun y r σ => y = .exit 0 ∧ ∃ k, k ≤ X.length ∧ scanE X val n = X.take k ∧ σ = [none, some (.c [.int .i64 0, .int .i64 0, .nsl, .nsl]), some (.c [.ms 3 (k * 2) 0 k 2]), some (.c (cellE (X.take k))), r])
      ?_ ?_ (by rintro e he; obtain ⟨u, _, rfl⟩ := List.mem_map.1 he; rfl) (by rintro r k σ ⟨_, _, _, rfl⟩; rfl) (by rintro r r' k σ ⟨a, b, c, rfl⟩; exact ⟨a, b, c, rfl⟩) (by rintro y r σ ⟨_, k, _, _, rfl⟩; rfl) (by rintro y r r' σ ⟨a, k, b, c, rfl⟩; exact ⟨a, k, b, c, rfl⟩) (fun r => ⟨by omega, by omega, by simp, rfl⟩) ?_ ?_ ?_
    · rintro r k σ ⟨st, pend, rfl⟩ ⟨_, _, _, rfl⟩
      exact ⟨rfl, by simp [BelS, BelOb, BelL, Bel]⟩
    · rintro y r σ ⟨st, pend, rfl⟩ ⟨_, k, _, _, rfl⟩
      exact ⟨rfl, by simp [BelS, BelOb, BelL, Bel]⟩
    · rintro k e σ r hke ⟨st, hst⟩ ⟨hk1, hk2, hk3, rfl⟩
      simp only [List.getElem?_map, Option.map_eq_some_iff] at hke
      obtain ⟨u, hu, rfl⟩ := hke
      have hlt : k < X.length := (List.getElem?_eq_some_iff.1 hu).1
      refine jw_c ?_
      simp [setL, enC, okCell]
      rintro r σ' st rfl _ _ _ rfl _
      generalize hRe : Ob.lp _ _ _ _ _ _ = R
      have hR : BelOb 5 R := by rw [← hRe]; simp [BelOb, BelL, Bel]
      clear hRe
      have hR6 : BelOb 6 R := belOb_mono (by omega) hR
      have hRt : ∀ cs, thOb 6 cs R = R := fun cs => thOb_flat 6 cs (belOb_mono (by omega) hR)
      have hlT := cellE_len (X.take k)
      have hlk : (X.take k).length = k := by simp; omega
      rw [hlk] at hlT
      have hS := List.take_add_one (l := X) (i := k)
      rw [hu] at hS
      simp only [Option.toList_some] at hS
      have hbu := hbX u (List.mem_of_getElem? hu)
      have hCo := copiedF (G := G) u (by omega) (by omega)
      unfold enD enC at hCo
      have hns := fun c => scan_stop hk3 hu c hk2
      have hdn := scan_take hk3
      refine jw_view (view_frz 6 _ rfl (by simp [BelL, Bel])) ?_
      simp (maxSteps := 1000000) [thL, thD, thS, thOb_c, hRt, thL_flat, thD_ens, thD_ks, thD_t]
      generalize hTk : X.take k = T0 at *
      by_cases hkn : k = n
      · subst hkn
        repeat' first
          | refine jw_ret (hQ _ _ (.inr rfl) ⟨5, _, _, rfl, rfl, ?_⟩)
          | refine jw_ret (hQ _ _ (.inr rfl) ⟨_, rfl, ?_⟩)
          | refine jw_seq_k fun K hK => ?_
          | refine jw_block ?_
          | ((first | refine jw_skip ?_ | refine jw_exit ?_); try simp)
          | (refine jw_cond rfl (fun hc => ?_) (fun hc => ?_) <;> (try simp at hc) <;> (try (exfalso; first | omega | exact absurd hc (by assumption))))
          | ((first | refine jw_c ?_ | refine jw_draw_j mixed (by kernel_rfl) ?_); simp (maxSteps := 1000000) [okCell, okRef, hlT])
          | (first | (apply hK; clear hK) | (clear hK; apply hK; clear hK) | (clear hK; clear hK; apply hK; clear hK) | (clear hK; clear hK; clear hK; apply hK; clear hK))
          | exact hQ _ _ (.inl rfl) ⟨5, _, _, rfl, rfl, rfl⟩
          | refine hQ _ _ (.inl rfl) ⟨5, _, _, rfl, rfl, ?_⟩
          | refine hQ _ _ (.inl rfl) ⟨_, rfl, ?_⟩
          | ((first | refine jd_newc rfl rfl (by simp) ?_ | refine okN_or ?_); simp (maxSteps := 1000000) [thD, thL, okCell, okRef, hlT])
          | ((first | refine okC_guard (fun hc => ?_) (fun hc => ?_) | refine okJ_guard (fun hc => ?_) (fun hc => ?_)) <;> (first | have hd := of_decide_eq_true hc | have hd := of_decide_eq_false hc | have hd := hc) <;> simp (maxSteps := 1000000) [hc, hd, okCell, okRef, hlT] <;> (try simp at hc) <;> (try (exfalso; first | omega | exact absurd hc (by assumption))))
          | (refine And.intro (by first | assumption | omega | (simp [BelL, Bel]; done) | (simp; omega)) ?_; try simp (maxSteps := 1000000) [okCell, okRef, hlT])
          | (refine okC_or ?_; simp (maxSteps := 1000000) [okCell, okRef, hlT])
        exact ⟨⟨List.replicate 42 .any, [none, some (.c [.int .i64 0, .int .i64 0, .nsl, .nsl]), some (.c [.ms 3 (k * 2) 0 k 2]), some (.c (cellE (X.take k))), some R] ++ [none]⟩, view_takeE 6 (by simp) (by simp) (by simp) (by simp [hTk]) (by simp [BelL, Bel]) (by simp [BelS, belOb_c, BelL, Bel, hR6]), _, rfl, k, by omega, by rw [hTk]; exact hdn, rfl⟩
      · have hkn2 : ¬ (k : Int) = n := by omega
        by_cases hv0 : val = []
        · have hp : scanP val u = true := by unfold scanP; simp [hv0]
          subst hv0
          repeat' first
            | refine jw_ret (hQ _ _ (.inr rfl) ⟨5, _, _, rfl, rfl, ?_⟩)
            | refine jw_ret (hQ _ _ (.inr rfl) ⟨_, rfl, ?_⟩)
            | refine jw_seq_k fun K hK => ?_
            | refine jw_block ?_
            | ((first | refine jw_skip ?_ | refine jw_exit ?_); try simp)
            | (refine jw_cond rfl (fun hc => ?_) (fun hc => ?_) <;> (try simp at hc) <;> (try (exfalso; first | omega | exact absurd hc (by assumption))))
            | ((first | refine jw_c ?_ | refine jw_draw_e (id := 7) [(0, 1), (4, 2), (5, 2)] mixed (by kernel_rfl) (by kernel_rfl) ?_ | refine jw_draw_j mixed (by kernel_rfl) ?_ | (refine jl_call (f := 20) rfl rfl rfl rfl rfl (hCo) (by simp [BelL, Bel]) ?_; rintro r rfl) | refine jd_call (f := 20) rfl rfl rfl rfl rfl (hCo) (by simp [BelL, Bel]) ?_ | refine js_call (f := 20) rfl rfl rfl rfl rfl (hCo) (by simp [BelL, Bel]) rfl ?_ | refine js_newc rfl rfl (by simp) rfl ?_ | refine okM_or ?_ | refine okS_or ?_); simp (maxSteps := 1000000) [hkn, hkn2, okCell, okRef, hlT])
            | (first | (apply hK; clear hK) | (clear hK; apply hK; clear hK) | (clear hK; clear hK; apply hK; clear hK) | (clear hK; clear hK; clear hK; apply hK; clear hK))
            | exact hQ _ _ (.inl rfl) ⟨5, _, _, rfl, rfl, rfl⟩
            | refine hQ _ _ (.inl rfl) ⟨5, _, _, rfl, rfl, ?_⟩
            | refine hQ _ _ (.inl rfl) ⟨_, rfl, ?_⟩
            | ((first | refine jd_newc rfl rfl (by simp) ?_ | refine okN_or ?_); simp (maxSteps := 1000000) [thD, thL, hkn, hkn2, okCell, okRef, hlT])
            | ((first | refine okS_guard (fun hc => ?_) (fun hc => ?_) | refine okC_guard (fun hc => ?_) (fun hc => ?_) | refine okJ_guard (fun hc => ?_) (fun hc => ?_)) <;> (first | have hd := of_decide_eq_true hc | have hd := of_decide_eq_false hc | have hd := hc) <;> simp (maxSteps := 1000000) [hc, hd, hkn, hkn2, okCell, okRef, hlT] <;> (try simp at hc) <;> (try (exfalso; first | omega | exact absurd hc (by assumption))))
            | (refine And.intro (by first | assumption | omega | (simp [BelL, Bel]; done) | (simp; omega)) ?_; try simp (maxSteps := 1000000) [hkn, hkn2, okCell, okRef, hlT])
            | (refine okC_or ?_; simp (maxSteps := 1000000) [hkn, hkn2, okCell, okRef, hlT])
          refine ⟨⟨List.replicate 42 .any, [none, some (.c [.int .i64 0, .int .i64 0, .nsl, .nsl]), some (.c [.ms 3 ((k + 1) * 2) 0 (k + 1) 2]), some (.c (cellE (X.take (k + 1)))), some R] ++ [none]⟩, view_takeE 6 (by simp) (by simp) (by simp) (by simp [hS, Nat.add_mul, enC, numsD]) (by simp [BelL, Bel]) (by simp [BelS, belOb_c, BelL, Bel, hR6]), _, rfl, by omega, by omega, fun e he => ?_, rfl⟩
          rw [hS] at he
          exact (List.mem_append.1 he).elim (hk3 e) (fun h => by rw [List.mem_singleton.1 h]; exact hp)
        · have hvl := List.length_pos_iff.2 hv0
          by_cases hcm : cmpL u.k val < 0
          · have hp : scanP val u = true := by unfold scanP; simp [hcm]
            repeat' first
              | refine jw_ret (hQ _ _ (.inr rfl) ⟨5, _, _, rfl, rfl, ?_⟩)
              | refine jw_ret (hQ _ _ (.inr rfl) ⟨_, rfl, ?_⟩)
              | refine jw_seq_k fun K hK => ?_
              | refine jw_block ?_
              | ((first | refine jw_skip ?_ | refine jw_exit ?_); try simp)
              | (refine jw_cond rfl (fun hc => ?_) (fun hc => ?_) <;> (try simp at hc) <;> (try (exfalso; first | omega | exact absurd hc (by assumption))))
              | ((first | refine jw_c ?_ | refine jw_draw_e (id := 7) [(0, 1), (4, 2), (5, 2)] mixed (by kernel_rfl) (by kernel_rfl) ?_ | refine jw_draw_j mixed (by kernel_rfl) ?_ | (refine jl_call (f := 38) rfl rfl rfl rfl rfl (cmpBF _ _) (by simp [BelL, Bel]) ?_; rintro r rfl) | refine jd_call (f := 38) rfl rfl rfl rfl rfl (cmpBF _ _) (by simp [BelL, Bel]) ?_ | refine js_call (f := 38) rfl rfl rfl rfl rfl (cmpBF _ _) (by simp [BelL, Bel]) rfl ?_ | (refine jl_call (f := 20) rfl rfl rfl rfl rfl (hCo) (by simp [BelL, Bel]) ?_; rintro r rfl) | refine jd_call (f := 20) rfl rfl rfl rfl rfl (hCo) (by simp [BelL, Bel]) ?_ | refine js_call (f := 20) rfl rfl rfl rfl rfl (hCo) (by simp [BelL, Bel]) rfl ?_ | refine js_newc rfl rfl (by simp) rfl ?_ | refine okM_or ?_ | refine okS_or ?_); simp (maxSteps := 1000000) [hkn, hkn2, okCell, okRef, hlT, hvl, show (0 : Int) < val.length by omega, show ¬ 0 ≤ cmpL u.k val by omega])
              | (first | (apply hK; clear hK) | (clear hK; apply hK; clear hK) | (clear hK; clear hK; apply hK; clear hK) | (clear hK; clear hK; clear hK; apply hK; clear hK))
              | exact hQ _ _ (.inl rfl) ⟨5, _, _, rfl, rfl, rfl⟩
              | refine hQ _ _ (.inl rfl) ⟨5, _, _, rfl, rfl, ?_⟩
              | refine hQ _ _ (.inl rfl) ⟨_, rfl, ?_⟩
              | ((first | refine jd_newc rfl rfl (by simp) ?_ | refine okN_or ?_); simp (maxSteps := 1000000) [thD, thL, hkn, hkn2, okCell, okRef, hlT, hvl, show (0 : Int) < val.length by omega, show ¬ 0 ≤ cmpL u.k val by omega])
              | ((first | refine okS_guard (fun hc => ?_) (fun hc => ?_) | refine okC_guard (fun hc => ?_) (fun hc => ?_) | refine okJ_guard (fun hc => ?_) (fun hc => ?_)) <;> (first | have hd := of_decide_eq_true hc | have hd := of_decide_eq_false hc | have hd := hc) <;> simp (maxSteps := 1000000) [hc, hd, hkn, hkn2, okCell, okRef, hlT, hvl, show (0 : Int) < val.length by omega, show ¬ 0 ≤ cmpL u.k val by omega] <;> (try simp at hc) <;> (try (exfalso; first | omega | exact absurd hc (by assumption))))
              | (refine And.intro (by first | assumption | omega | (simp [BelL, Bel]; done) | (simp; omega)) ?_; try simp (maxSteps := 1000000) [hkn, hkn2, okCell, okRef, hlT, hvl, show (0 : Int) < val.length by omega, show ¬ 0 ≤ cmpL u.k val by omega])
              | (refine okC_or ?_; simp (maxSteps := 1000000) [hkn, hkn2, okCell, okRef, hlT, hvl, show (0 : Int) < val.length by omega, show ¬ 0 ≤ cmpL u.k val by omega])
            refine ⟨⟨List.replicate 42 .any, [none, some (.c [.int .i64 0, .int .i64 0, .nsl, .nsl]), some (.c [.ms 3 ((k + 1) * 2) 0 (k + 1) 2]), some (.c (cellE (X.take (k + 1)))), some R] ++ [none]⟩, view_takeE 6 (by simp) (by simp) (by simp) (by simp [hS, Nat.add_mul, enC, numsD]) (by simp [BelL, Bel]) (by simp [BelS, belOb_c, BelL, Bel, hR6]), _, rfl, by omega, by omega, fun e he => ?_, rfl⟩
            rw [hS] at he
            exact (List.mem_append.1 he).elim (hk3 e) (fun h => by rw [List.mem_singleton.1 h]; exact hp)
          · have hp : scanP val u = false := by unfold scanP; simp [hcm, hv0]
            repeat' first
              | refine jw_ret (hQ _ _ (.inr rfl) ⟨5, _, _, rfl, rfl, ?_⟩)
              | refine jw_ret (hQ _ _ (.inr rfl) ⟨_, rfl, ?_⟩)
              | refine jw_seq_k fun K hK => ?_
              | refine jw_block ?_
              | ((first | refine jw_skip ?_ | refine jw_exit ?_); try simp)
              | (refine jw_cond rfl (fun hc => ?_) (fun hc => ?_) <;> (try simp at hc) <;> (try (exfalso; first | omega | exact absurd hc (by assumption))))
              | ((first | refine jw_c ?_ | refine jw_draw_j mixed (by kernel_rfl) ?_ | (refine jl_call (f := 38) rfl rfl rfl rfl rfl (cmpBF _ _) (by simp [BelL, Bel]) ?_; rintro r rfl) | refine jd_call (f := 38) rfl rfl rfl rfl rfl (cmpBF _ _) (by simp [BelL, Bel]) ?_); simp (maxSteps := 1000000) [hkn, hkn2, okCell, okRef, hlT, hvl, show (0 : Int) < val.length by omega, show 0 ≤ cmpL u.k val by omega])
              | (first | (apply hK; clear hK) | (clear hK; apply hK; clear hK) | (clear hK; clear hK; apply hK; clear hK) | (clear hK; clear hK; clear hK; apply hK; clear hK))
              | exact hQ _ _ (.inl rfl) ⟨5, _, _, rfl, rfl, rfl⟩
              | refine hQ _ _ (.inl rfl) ⟨5, _, _, rfl, rfl, ?_⟩
              | refine hQ _ _ (.inl rfl) ⟨_, rfl, ?_⟩
              | ((first | refine jd_newc rfl rfl (by simp) ?_ | refine okN_or ?_); simp (maxSteps := 1000000) [thD, thL, hkn, hkn2, okCell, okRef, hlT, hvl, show (0 : Int) < val.length by omega, show 0 ≤ cmpL u.k val by omega])
              | ((first | refine okC_guard (fun hc => ?_) (fun hc => ?_) | refine okJ_guard (fun hc => ?_) (fun hc => ?_)) <;> (first | have hd := of_decide_eq_true hc | have hd := of_decide_eq_false hc | have hd := hc) <;> simp (maxSteps := 1000000) [hc, hd, hkn, hkn2, okCell, okRef, hlT, hvl, show (0 : Int) < val.length by omega, show 0 ≤ cmpL u.k val by omega] <;> (try simp at hc) <;> (try (exfalso; first | omega | exact absurd hc (by assumption))))
              | (refine And.intro (by first | assumption | omega | (simp [BelL, Bel]; done) | (simp; omega)) ?_; try simp (maxSteps := 1000000) [hkn, hkn2, okCell, okRef, hlT, hvl, show (0 : Int) < val.length by omega, show 0 ≤ cmpL u.k val by omega])
              | (refine okC_or ?_; simp (maxSteps := 1000000) [hkn, hkn2, okCell, okRef, hlT, hvl, show (0 : Int) < val.length by omega, show 0 ≤ cmpL u.k val by omega])
            exact ⟨⟨List.replicate 42 .any, [none, some (.c [.int .i64 0, .int .i64 0, .nsl, .nsl]), some (.c [.ms 3 (k * 2) 0 k 2]), some (.c (cellE (X.take k))), some R] ++ [none]⟩, view_takeE 6 (by simp) (by simp) (by simp) (by simp [hTk]) (by simp [BelL, Bel]) (by simp [BelS, belOb_c, BelL, Bel, hR6]), _, rfl, k, by omega, by rw [hTk]; exact hns hp, rfl⟩
    · rintro σ ⟨_, hk2, hk3, rfl⟩
      rw [scan_all (by simpa using hk3) (by simpa using hk2)] at hQ
      simp
      have hlX2 := cellE_len X
      have hcX := allE X X.length (by omega)
      repeat' first
        | refine jw_ret (hQ _ _ (.inr rfl) ⟨5, _, _, rfl, rfl, ?_⟩)
        | refine jw_ret (hQ _ _ (.inr rfl) ⟨_, rfl, ?_⟩)
        | refine jw_seq_k fun K hK => ?_
        | refine jw_block ?_
        | ((first | refine jw_skip ?_ | refine jw_exit ?_); try simp)
        | (refine jw_cond rfl (fun hc => ?_) (fun hc => ?_) <;> (try simp at hc) <;> (try (exfalso; first | omega | exact absurd hc (by assumption))))
        | ((fail_if_success (refine jw_c (id := 8) ?_)); (refine jw_c ?_; simp (maxSteps := 1000000)))
        | ((fail_if_success (refine jw_draw_j (id := 8) mixed (by kernel_rfl) ?_)); (refine jw_draw_j mixed (by kernel_rfl) ?_; simp (maxSteps := 1000000)))
        | (first | (apply hK; clear hK) | (clear hK; apply hK; clear hK) | (clear hK; clear hK; apply hK; clear hK) | (clear hK; clear hK; clear hK; apply hK; clear hK))
        | exact hQ _ _ (.inl rfl) ⟨5, _, _, rfl, rfl, rfl⟩
        | refine hQ _ _ (.inl rfl) ⟨5, _, _, rfl, rfl, ?_⟩
        | refine hQ _ _ (.inl rfl) ⟨_, rfl, ?_⟩
        | ((first | refine jd_newc rfl rfl (by simp) ?_ | refine okN_or ?_); simp (maxSteps := 1000000) [thD, thL])
        | ((first | refine okC_guard (fun hc => ?_) (fun hc => ?_) | refine okJ_guard (fun hc => ?_) (fun hc => ?_)) <;> (first | have hd := of_decide_eq_true hc | have hd := of_decide_eq_false hc | have hd := hc) <;> simp (maxSteps := 1000000) [hc, hd] <;> (try simp at hc) <;> (try (exfalso; first | omega | exact absurd hc (by assumption))))
        | (refine And.intro (by first | assumption | omega | (simp [BelL, Bel]; done) | (simp; omega)) ?_; try simp (maxSteps := 1000000))
        | (refine okC_or ?_; simp (maxSteps := 1000000))
      (refine jw_view (view_frz 3 _ rfl (by simp [BelL, Bel, thL_flat, thD_ens, thD_ks, thD_t, hlX2, hcX])) ?_; simp (maxSteps := 1000000) [thL, thD, thS, thOb, thL_flat, thD_ens, thD_ks, thD_t, hlX2, hcX])
      repeat' first
        | refine jw_seq_k fun K hK => ?_
        | refine jw_block ?_
        | ((first | refine jw_skip ?_ | refine jw_exit ?_); try simp)
        | (refine jw_cond rfl (fun hc => ?_) (fun hc => ?_) <;> (try simp at hc) <;> (try (exfalso; first | omega | exact absurd hc (by assumption))))
        | ((first | refine jw_c ?_ | refine jw_draw_j mixed (by kernel_rfl) ?_); simp (maxSteps := 1000000) [foC, ensD, numsD, okCell])
        | (first | (apply hK; clear hK) | (clear hK; apply hK; clear hK) | (clear hK; clear hK; apply hK; clear hK) | (clear hK; clear hK; clear hK; apply hK; clear hK))
        | ((first | refine jw_ret (hQ _ _ (.inr rfl) (ret_ok 0 ?_ (by first | omega | simp))) | refine hQ _ _ (.inl rfl) (ret_ok 0 ?_ (by first | omega | simp))); simp (maxSteps := 1000000) [okRet, BelL, Bel, BelS, BelOb, foC, ensD, numsD, okCell])
        | ((first | refine jd_newc rfl rfl (by simp) ?_ | refine okN_or ?_); simp (maxSteps := 1000000) [thD, thL, foC, ensD, numsD, okCell])
        | ((first | refine okC_guard (fun hc => ?_) (fun hc => ?_) | refine okJ_guard (fun hc => ?_) (fun hc => ?_)) <;> (first | have hd := of_decide_eq_true hc | have hd := of_decide_eq_false hc | have hd := hc) <;> simp (maxSteps := 1000000) [hc, hd, foC, ensD, numsD, okCell] <;> (try simp at hc) <;> (try (exfalso; first | omega | exact absurd hc (by assumption))))
        | (refine And.intro (by first | assumption | omega | (simp [BelL, Bel]; done) | (simp; omega)) ?_; try simp (maxSteps := 1000000) [foC, ensD, numsD, okCell])
        | (refine okC_or ?_; simp (maxSteps := 1000000) [foC, ensD, numsD, okCell])
    · rintro y σ hy ⟨rfl, k, hk1, hk2, rfl⟩
      rw [hk2] at hQ
      simp
      have hlk : (X.take k).length = k := by simp; omega
      have hlX2 := cellE_len (X.take k)
      rw [hlk] at hlX2
      have hcX := allE (X.take k) k (by omega)
      generalize X.take k = T0 at *
      subst hlk
      repeat' first
        | refine jw_ret (hQ _ _ (.inr rfl) ⟨5, _, _, rfl, rfl, ?_⟩)
        | refine jw_ret (hQ _ _ (.inr rfl) ⟨_, rfl, ?_⟩)
        | refine jw_seq_k fun K hK => ?_
        | refine jw_block ?_
        | ((first | refine jw_skip ?_ | refine jw_exit ?_); try simp)
        | (refine jw_cond rfl (fun hc => ?_) (fun hc => ?_) <;> (try simp at hc) <;> (try (exfalso; first | omega | exact absurd hc (by assumption))))
        | ((fail_if_success (refine jw_c (id := 8) ?_)); (refine jw_c ?_; simp (maxSteps := 1000000)))
        | ((fail_if_success (refine jw_draw_j (id := 8) mixed (by kernel_rfl) ?_)); (refine jw_draw_j mixed (by kernel_rfl) ?_; simp (maxSteps := 1000000)))
        | (first | (apply hK; clear hK) | (clear hK; apply hK; clear hK) | (clear hK; clear hK; apply hK; clear hK) | (clear hK; clear hK; clear hK; apply hK; clear hK))
        | exact hQ _ _ (.inl rfl) ⟨5, _, _, rfl, rfl, rfl⟩
        | refine hQ _ _ (.inl rfl) ⟨5, _, _, rfl, rfl, ?_⟩
        | refine hQ _ _ (.inl rfl) ⟨_, rfl, ?_⟩
        | ((first | refine jd_newc rfl rfl (by simp) ?_ | refine okN_or ?_); simp (maxSteps := 1000000) [thD, thL])
        | ((first | refine okC_guard (fun hc => ?_) (fun hc => ?_) | refine okJ_guard (fun hc => ?_) (fun hc => ?_)) <;> (first | have hd := of_decide_eq_true hc | have hd := of_decide_eq_false hc | have hd := hc) <;> simp (maxSteps := 1000000) [hc, hd] <;> (try simp at hc) <;> (try (exfalso; first | omega | exact absurd hc (by assumption))))
        | (refine And.intro (by first | assumption | omega | (simp [BelL, Bel]; done) | (simp; omega)) ?_; try simp (maxSteps := 1000000))
        | (refine okC_or ?_; simp (maxSteps := 1000000))
      (refine jw_view (view_frz 3 _ rfl (by simp [BelL, Bel, thL_flat, thD_ens, thD_ks, thD_t, hlX2, hcX])) ?_; simp (maxSteps := 1000000) [thL, thD, thS, thOb, thL_flat, thD_ens, thD_ks, thD_t, hlX2, hcX])
      repeat' first
        | refine jw_seq_k fun K hK => ?_
        | refine jw_block ?_
        | ((first | refine jw_skip ?_ | refine jw_exit ?_); try simp)
        | (refine jw_cond rfl (fun hc => ?_) (fun hc => ?_) <;> (try simp at hc) <;> (try (exfalso; first | omega | exact absurd hc (by assumption))))
        | ((first | refine jw_c ?_ | refine jw_draw_j mixed (by kernel_rfl) ?_); simp (maxSteps := 1000000) [foC, ensD, numsD, okCell])
        | (first | (apply hK; clear hK) | (clear hK; apply hK; clear hK) | (clear hK; clear hK; apply hK; clear hK) | (clear hK; clear hK; clear hK; apply hK; clear hK))
        | ((first | refine jw_ret (hQ _ _ (.inr rfl) (ret_ok 0 ?_ (by first | omega | simp))) | refine hQ _ _ (.inl rfl) (ret_ok 0 ?_ (by first | omega | simp))); simp (maxSteps := 1000000) [okRet, BelL, Bel, BelS, BelOb, foC, ensD, numsD, okCell])
        | ((first | refine jd_newc rfl rfl (by simp) ?_ | refine okN_or ?_); simp (maxSteps := 1000000) [thD, thL, foC, ensD, numsD, okCell])
        | ((first | refine okC_guard (fun hc => ?_) (fun hc => ?_) | refine okJ_guard (fun hc => ?_) (fun hc => ?_)) <;> (first | have hd := of_decide_eq_true hc | have hd := of_decide_eq_false hc | have hd := hc) <;> simp (maxSteps := 1000000) [hc, hd, foC, ensD, numsD, okCell] <;> (try simp at hc) <;> (try (exfalso; first | omega | exact absurd hc (by assumption))))
        | (refine And.intro (by first | assumption | omega | (simp [BelL, Bel]; done) | (simp; omega)) ?_; try simp (maxSteps := 1000000) [foC, ensD, numsD, okCell])
        | (refine okC_or ?_; simp (maxSteps := 1000000) [foC, ensD, numsD, okCell])
end Go.Proofs.Ytibcjkklgifgmaa
