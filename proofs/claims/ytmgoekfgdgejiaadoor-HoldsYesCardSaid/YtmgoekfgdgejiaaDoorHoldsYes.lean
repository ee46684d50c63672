/- HoldsYes: conjuncts, Holds: the law and the walks. -/
import Derived.Test.YtmgoekfgdgejiaaDoorGrown
import Derived.Test.YtmgoekfgdgejiaaDoorRaw
set_option linter.unusedVariables false
set_option linter.unusedSimpArgs false
set_option maxRecDepth 20000
set_option maxHeartbeats 20000000
namespace Go.Proofs.YtmgoekfgdgejiaaDoor
open Go Go.Vm Go.Proofs
section
variable {P : Program} {G : Globals}
theorem jl_frs {ops : Array Oper} {i : Nat} {rest : List Nat} {o : Oper} {s : St} {K : St → Prop} {fo : Operand} {xs : Array Operand} {ts : Array TypeId} {f : FuncId} {fs ds cs args0 : List D} {σ0 : Store} {R : D → Store → Prop} (ρ : List Nat)
    (ho : ops[i]? = some o) (hw : wantedD ops s.sl o = some true) (hc : o.op = .call { callee := .value fo, args := xs, argTypes := ts }) (hf : ev G s.sl fo = some (.fn (.func f) fs cs)) (hx : evs G s.sl xs.toList = some ds)
    (h : FC P G f args0 σ0 R) (hargs : fs ++ ds ++ cs = renL (rho ρ s.σ.length) args0) (hσ : ρ.map (fun j => s.σ[j]?) = σ0.map (fun x => some (renS (rho ρ s.σ.length) x))) (hnd : ρ.Nodup) (hlt : ∀ j ∈ ρ, j < s.σ.length)
    (hb : BelL ρ.length args0) (hob : BelS ρ.length σ0)
    (hk : ∀ d0 σ0', R d0 σ0' → okC P G ops (regC P G ops rest (s.put o.dst (renD (rho ρ s.σ.length) d0) (glue ρ s.σ σ0'))) K) : JL P G ops (i :: rest) s K := by
  have hlen : σ0.length = ρ.length := by have := congrArg List.length hσ; simpa using this.symm
  refine jl_fc ho hw hc hf hx (R := fun d σ' => ∃ d0 σ0', R d0 σ0' ∧ ρ.length ≤ σ0'.length ∧ d = renD (rho ρ s.σ.length) d0 ∧ σ' = glue ρ s.σ σ0') ?_ ?_
  · rw [hargs]
    refine fc_frame h ρ s.σ hb (fun i o hi => hob.get hi) hlen hnd hlt fun i j hj => ?_
    have h1 := congrArg (fun l : List (Option (Option Ob)) => l[i]?) hσ
    simp only [List.getElem?_map, hj, Option.map_some] at h1
    have hi : i < σ0.length := by rw [hlen]; exact (List.getElem?_eq_some_iff.1 hj).1
    rw [List.getElem?_eq_getElem hi] at h1 ⊢
    simpa using h1
  · rintro d σ' ⟨d0, σ0', h1, _, rfl, rfl⟩
    exact hk d0 σ0' h1
end

theorem raws_of : ∀ {ls : List (List D)}, Vm.Rows (Parts RawP) ls → ∃ l : List Rw, ls.flatten = l.flatMap rwC ∧ ls.length = l.length ∧ ∀ w ∈ l, RwOk w
  | [], _ => ⟨[], rfl, rfl, by simp⟩
  | _ :: _, .cons _ ls h t => by
    obtain ⟨l, g2, g3, g4⟩ := raws_of t
    obtain ⟨_, _, ⟨k, hk, rfl⟩, ⟨_, _, ⟨i, hi, rfl⟩, ⟨_, _, ⟨s, hs, rfl⟩, rfl, rfl⟩, rfl⟩, rfl⟩ := h
    have hi2 := wf_i64 hi
    refine ⟨⟨k, i, s⟩ :: l, by simp [rwC, g2], by simp [g3], fun w hw => ?_⟩
    rcases List.mem_cons.1 hw with rfl | hw
    · exact ⟨hi2.1, hi2.2, by dsimp only; omega⟩
    · exact g4 w hw
theorem tws_of : ∀ {ls : List (List D)}, Vm.Rows (Parts RawP) ls → ∃ l : List Tw, ls.flatten = l.flatMap twC ∧ ls.length = l.length ∧ ∀ w ∈ l, TwOk w
  | [], _ => ⟨[], rfl, rfl, by simp⟩
  | _ :: _, .cons _ ls h t => by
    obtain ⟨l, g2, g3, g4⟩ := tws_of t
    obtain ⟨_, _, ⟨k, hk, rfl⟩, ⟨_, _, ⟨i, hi, rfl⟩, ⟨_, _, ⟨s, hs, rfl⟩, rfl, rfl⟩, rfl⟩, rfl⟩ := h
    have hi2 := wf_i64 hi
    refine ⟨⟨k, i, s⟩ :: l, by simp [twC, g2], by simp [g3], fun w hw => ?_⟩
    rcases List.mem_cons.1 hw with rfl | hw
    · exact ⟨hi2.1, hi2.2, by dsimp only; omega⟩
    · exact g4 w hw
abbrev sT : List Int := [2, 3, 1, 2]
theorem sT_ok : ∀ t ∈ sT, t = 1 ∨ t = 2 ∨ t = 3 := by
  intro t h
  simp at h
  omega
theorem someF {G : Globals} : FV Tryd.prog G 12 [] (fun r => r = numsD .i64 sT) := by
  refine fv_enter_v Tryd.func12 rfl rfl fun Q hQ => ?_
  repeat' first
    | refine jw_seq_k fun K hK => ?_
    | refine jw_block ?_
    | ((first | refine jw_skip ?_ | refine jw_exit ?_); try simp)
    | (refine jw_cond rfl (fun hc => ?_) (fun hc => ?_) <;> (try simp at hc) <;> (try (exfalso; first | omega | exact absurd hc (by assumption))))
    | ((first | refine jw_c ?_ | refine jw_draw_j mixed (by kernel_rfl) ?_); simp (maxSteps := 1000000) [Tryd.f12, numsD])
    | (first | (apply hK; clear hK) | (clear hK; apply hK; clear hK) | (clear hK; clear hK; apply hK; clear hK) | (clear hK; clear hK; clear hK; apply hK; clear hK))
    | ((first | refine jw_ret (hQ _ _ (.inr rfl) (ret_okF 0 0 rfl (by simp [BelL, Bel, Tryd.f12, numsD]) ?_ (by first | omega | simp))) | refine hQ _ _ (.inl rfl) (ret_okF 0 0 rfl (by simp [BelL, Bel, Tryd.f12, numsD]) ?_ (by first | omega | simp))); simp (maxSteps := 1000000) [okRetF, thS, thOb, thD, thL, BelL, Bel, BelS, BelOb, Tryd.f12, numsD])
    | ((first | refine jd_newc rfl rfl (by simp) ?_ | refine okN_or ?_); simp (maxSteps := 1000000) [thD, thL, Tryd.f12, numsD])
    | ((first | refine okC_guard (fun hc => ?_) (fun hc => ?_) | refine okJ_guard (fun hc => ?_) (fun hc => ?_)) <;> (first | have hd := of_decide_eq_true hc | have hd := of_decide_eq_false hc | have hd := hc) <;> simp (maxSteps := 1000000) [hc, hd, Tryd.f12, numsD] <;> (try simp at hc) <;> (try (exfalso; first | omega | exact absurd hc (by assumption))))
    | (refine And.intro (by first | assumption | omega | (simp [BelL, Bel]; done) | (simp; omega)) ?_; try simp (maxSteps := 1000000) [Tryd.f12, numsD])
    | (refine okC_or ?_; simp (maxSteps := 1000000) [Tryd.f12, numsD])
/-- An expression that grew. -/
theorem grown_ok {tws : List Tw} (hw : ∀ w ∈ tws, TwOk w) {n t : Nat} (h1 : 1 ≤ t) (h3 : t ≤ 3) : ∃ x, (popR (growR sT tws n) t).1 = x ∧ wt sT x t ∧ dp x ≤ 10 := by
  obtain ⟨a, b, _⟩ := inv_pop (grow_inv sT_ok tws hw n) h1 h3
  exact ⟨_, rfl, a, b⟩
theorem isT_truth {t : Int} (h : t = 0 ∨ t = 1 ∨ t = 2) : isT (truthV t) = t := by
  rcases h with rfl | rfl | rfl <;> rfl
/-- One conjunct. -/
def leafH (row : List Vl) (e : Ex) : Bool × Int := (decide ((evE row e).2 = 0) && decide (isT (evE row e).1 = 2), (evE row e).2)
def conjR (row : List Vl) : Ex → Bool × Int
  | .bin op a b => if op = 19 then (if (conjR row a).1 = true then conjR row b else conjR row a) else leafH row (.bin op a b)
  | .con v => leafH row (.con v)
  | .plc p => leafH row (.plc p)
  | .un op a => leafH row (.un op a)
theorem conj_law {ts : List Int} {row : List Vl} (hr : RowOk ts row) : ∀ e, wt ts e 1 → ((conjR row e).1 = true → (conjR row e).2 = 0) ∧ ((evE row e).2 = 0 → (conjR row e).2 = 0 ∧ ((conjR row e).1 = true ↔ isT (evE row e).1 = 2)) ∧ (¬ (evE row e).2 = 0 → (conjR row e).1 = false ∧ ((conjR row e).2 = (evE row e).2 ∨ (conjR row e).2 = 0)) := by
  have leaf : ∀ e, ((leafH row e).1 = true → (leafH row e).2 = 0) ∧ ((evE row e).2 = 0 → (leafH row e).2 = 0 ∧ ((leafH row e).1 = true ↔ isT (evE row e).1 = 2)) ∧ (¬ (evE row e).2 = 0 → (leafH row e).1 = false ∧ ((leafH row e).2 = (evE row e).2 ∨ (leafH row e).2 = 0)) := by
    intro e
    unfold leafH
    refine ⟨?_, ?_, ?_⟩
    · intro h; simp at h; exact h.1
    · intro h; simp [h]
    · intro h; simp [h]
  intro e
  induction e with
  | con v => intro _; exact leaf _
  | plc p => intro _; exact leaf _
  | un op a _ => intro _; exact leaf _
  | bin op a b iha ihb =>
    intro h
    unfold conjR
    by_cases ho : op = 19
    · rw [if_pos ho]
      subst ho
      have hw : wt ts a 1 ∧ wt ts b 1 := by
        rcases h with ⟨h1, h2, _⟩ | ⟨h1, h2, _⟩ | ⟨_, _, h1, h2⟩
        · omega
        · omega
        · exact ⟨h1, h2⟩
      obtain ⟨a1, a2, a3⟩ := iha hw.1
      obtain ⟨b1, b2, b3⟩ := ihb hw.2
      have ca := sound hr a 1 hw.1
      have cb := sound hr b 1 hw.2
      have e1 : evE row (.bin 19 a b) = lazyR 19 (evE row a) (evE row b) := by
        unfold lazyR
        conv => lhs; unfold evE; rw [if_pos (.inl rfl)]
      rw [e1]
      generalize evE row a = ra at *
      generalize evE row b = rb at *
      generalize conjR row a = pa at *
      generalize conjR row b = pb at *
      have q0 := isT_truth (t := 0) (by simp)
      have q1 := isT_truth (t := 1) (by simp)
      have q2 := isT_truth (t := 2) (by simp)
      by_cases h0 : ra.2 = 0
      · obtain ⟨a4, a5⟩ := a2 h0
        obtain ⟨oka, ka⟩ := came_ok ca h0
        by_cases h2 : rb.2 = 0
        · obtain ⟨b4, b5⟩ := b2 h2
          obtain ⟨okb, kb⟩ := came_ok cb h2
          rcases isT_range oka ka with hp | hp | hp <;> rcases isT_range okb kb with hq | hq | hq <;> simp [lazyR, h0, h2, hp, hq, q0, q1, q2, Int.min_def] at * <;> simp [a4, a5, b4, b5]
        · obtain ⟨b4, b5⟩ := b3 h2
          rcases isT_range oka ka with hp | hp | hp <;> simp [lazyR, h0, h2, hp, q0] at * <;> simp_all
      · obtain ⟨a4, a5⟩ := a3 h0
        simp [lazyR, h0, a4] at *
        exact a5
    · rw [if_neg ho]; exact leaf _
def yieldD (row : List Vl) : D := .fn (.func 29) [] [.ref [rowD row], .ptr 0 1 0, .ptr 1 1 0]
theorem leafHF {G : Globals} (hV : VStr G) {ts : List Int} {row : List Vl} (hr : RowOk ts row) {e : Ex} (h : wt ts e 1) (hb : Bool) (c : Int) :
    FC Tryd.prog G 29 [exD e, .ref [rowD row], .ptr 0 1 0, .ptr 1 1 0] [some (.c [.bool hb]), some (.c [.int .i64 c])] (fun d σ' => d = .bool (leafH row e).1 ∧ σ' = [some (.c [.bool (leafH row e).1]), some (.c [.int .i64 (leafH row e).2])]) := by
  have h2 := ofRowF (G := G) row
  have h3 := evalWithF (G := G) hV hr h
  have t3 := exC_all e
  have ce := sound hr e 1 h
  unfold leafH
  generalize evE row e = R at *
  unfold exD leafD rowD vrD vlD at *
  by_cases h0 : R.2 = 0
  · obtain ⟨ok, kk⟩ := came_ok ce h0
    have hI := isF hV ok kk
    unfold vlD nD at hI
    rcases isT_range ok kk with hp | hp | hp
    all_goals
      refine fc_enter_v Tryd.func29 rfl rfl fun Q hQ => ?_
      repeat' first
        | refine jw_ret (hQ _ _ (.inr rfl) ⟨5, _, _, rfl, rfl, ?_⟩)
        | refine jw_ret (hQ _ _ (.inr rfl) ⟨_, rfl, ?_⟩)
        | refine jw_seq_k fun K hK => ?_
        | refine jw_block ?_
        | ((first | refine jw_skip ?_ | refine jw_exit ?_); try simp)
        | (refine jw_cond rfl (fun hc => ?_) (fun hc => ?_) <;> (try simp at hc) <;> (try (exfalso; first | omega | exact absurd hc (by assumption))))
        | ((fail_if_success (refine jw_c (id := 1) ?_)); (refine jw_c ?_; simp (maxSteps := 1000000) [Tryd.f29, t3, okCell]))
        | ((fail_if_success (refine jw_draw_j (id := 1) mixed (by kernel_rfl) ?_)); (refine jw_draw_j mixed (by kernel_rfl) ?_; simp (maxSteps := 1000000) [Tryd.f29, t3, okCell]))
        | (first | (apply hK; clear hK) | (clear hK; apply hK; clear hK) | (clear hK; clear hK; apply hK; clear hK) | (clear hK; clear hK; clear hK; apply hK; clear hK))
        | exact hQ _ _ (.inl rfl) ⟨5, _, _, rfl, rfl, rfl⟩
        | refine hQ _ _ (.inl rfl) ⟨5, _, _, rfl, rfl, ?_⟩
        | refine hQ _ _ (.inl rfl) ⟨_, rfl, ?_⟩
        | ((first | refine jd_newc rfl rfl (by simp) ?_ | refine okN_or ?_); simp (maxSteps := 1000000) [thD, thL, Tryd.f29, t3, okCell])
        | ((first | refine okC_guard (fun hc => ?_) (fun hc => ?_) | refine okJ_guard (fun hc => ?_) (fun hc => ?_)) <;> (first | have hd := of_decide_eq_true hc | have hd := of_decide_eq_false hc | have hd := hc) <;> simp (maxSteps := 1000000) [hc, hd, Tryd.f29, t3, okCell] <;> (try simp at hc) <;> (try (exfalso; first | omega | exact absurd hc (by assumption))))
        | (refine And.intro (by first | assumption | omega | (simp [BelL, Bel]; done) | (simp; omega)) ?_; try simp (maxSteps := 1000000) [Tryd.f29, t3, okCell])
        | (refine okC_or ?_; simp (maxSteps := 1000000) [Tryd.f29, t3, okCell])
      (refine jw_view (view_frz 2 _ rfl (by simp [BelL, Bel, thL_flat])) ?_; simp (maxSteps := 1000000) [thL, thD, thS, thOb, thL_flat])
      repeat' first
        | refine jw_seq_k fun K hK => ?_
        | refine jw_block ?_
        | ((first | refine jw_skip ?_ | refine jw_exit ?_); try simp)
        | (refine jw_cond rfl (fun hc => ?_) (fun hc => ?_) <;> (try simp at hc) <;> (try (exfalso; first | omega | exact absurd hc (by assumption))))
        | ((first | refine jw_c ?_ | refine jw_draw_e (id := 1) [(7, 2), (8, 2)] mixed (by kernel_rfl) (by kernel_rfl) ?_ | refine jw_draw_j mixed (by kernel_rfl) ?_ | (refine jl_call (f := 21) rfl rfl rfl rfl rfl (h2) (by simp [BelL, Bel]) ?_; rintro r rfl) | refine jd_call (f := 21) rfl rfl rfl rfl rfl (h2) (by simp [BelL, Bel]) ?_ | refine js_call (f := 21) rfl rfl rfl rfl rfl (h2) (by simp [BelL, Bel]) rfl ?_ | (refine jl_call (f := 20) rfl rfl rfl rfl rfl (h3) (by simp [BelL, Bel]) ?_; rintro r rfl) | refine jd_call (f := 20) rfl rfl rfl rfl rfl (h3) (by simp [BelL, Bel]) ?_ | refine js_call (f := 20) rfl rfl rfl rfl rfl (h3) (by simp [BelL, Bel]) rfl ?_ | (refine jl_call (f := 30) rfl rfl rfl rfl rfl (hI) (by simp [BelL, Bel]) ?_; rintro r rfl) | refine jd_call (f := 30) rfl rfl rfl rfl rfl (hI) (by simp [BelL, Bel]) ?_ | refine js_call (f := 30) rfl rfl rfl rfl rfl (hI) (by simp [BelL, Bel]) rfl ?_ | refine js_newc rfl rfl (by simp) rfl ?_ | refine okM_or ?_ | refine okS_or ?_); simp (maxSteps := 1000000) [t3, vlC, okCell, h0, hp])
        | (first | (apply hK; clear hK) | (clear hK; apply hK; clear hK) | (clear hK; clear hK; apply hK; clear hK) | (clear hK; clear hK; clear hK; apply hK; clear hK))
        | ((first | refine jw_ret (hQ _ _ (.inr rfl) (ret_ok 2 ?_ (by first | omega | simp))) | refine hQ _ _ (.inl rfl) (ret_ok 2 ?_ (by first | omega | simp))); simp (maxSteps := 1000000) [okRet, BelL, Bel, BelS, BelOb, t3, vlC, okCell, h0, hp])
        | ((first | refine jd_newc rfl rfl (by simp) ?_ | refine okN_or ?_); simp (maxSteps := 1000000) [thD, thL, t3, vlC, okCell, h0, hp])
        | ((first | refine okS_guard (fun hc => ?_) (fun hc => ?_) | refine okC_guard (fun hc => ?_) (fun hc => ?_) | refine okJ_guard (fun hc => ?_) (fun hc => ?_)) <;> (first | have hd := of_decide_eq_true hc | have hd := of_decide_eq_false hc | have hd := hc) <;> simp (maxSteps := 1000000) [hc, hd, t3, vlC, okCell, h0, hp] <;> (try simp at hc) <;> (try (exfalso; first | omega | exact absurd hc (by assumption))))
        | (refine And.intro (by first | assumption | omega | (simp [BelL, Bel]; done) | (simp; omega)) ?_; try simp (maxSteps := 1000000) [t3, vlC, okCell, h0, hp])
        | (refine okC_or ?_; simp (maxSteps := 1000000) [t3, vlC, okCell, h0, hp])
  · refine fc_enter_v Tryd.func29 rfl rfl fun Q hQ => ?_
    repeat' first
      | refine jw_ret (hQ _ _ (.inr rfl) ⟨5, _, _, rfl, rfl, ?_⟩)
      | refine jw_ret (hQ _ _ (.inr rfl) ⟨_, rfl, ?_⟩)
      | refine jw_seq_k fun K hK => ?_
      | refine jw_block ?_
      | ((first | refine jw_skip ?_ | refine jw_exit ?_); try simp)
      | (refine jw_cond rfl (fun hc => ?_) (fun hc => ?_) <;> (try simp at hc) <;> (try (exfalso; first | omega | exact absurd hc (by assumption))))
      | ((fail_if_success (refine jw_c (id := 1) ?_)); (refine jw_c ?_; simp (maxSteps := 1000000) [Tryd.f29, t3, okCell]))
      | ((fail_if_success (refine jw_draw_j (id := 1) mixed (by kernel_rfl) ?_)); (refine jw_draw_j mixed (by kernel_rfl) ?_; simp (maxSteps := 1000000) [Tryd.f29, t3, okCell]))
      | (first | (apply hK; clear hK) | (clear hK; apply hK; clear hK) | (clear hK; clear hK; apply hK; clear hK) | (clear hK; clear hK; clear hK; apply hK; clear hK))
      | exact hQ _ _ (.inl rfl) ⟨5, _, _, rfl, rfl, rfl⟩
      | refine hQ _ _ (.inl rfl) ⟨5, _, _, rfl, rfl, ?_⟩
      | refine hQ _ _ (.inl rfl) ⟨_, rfl, ?_⟩
      | ((first | refine jd_newc rfl rfl (by simp) ?_ | refine okN_or ?_); simp (maxSteps := 1000000) [thD, thL, Tryd.f29, t3, okCell])
      | ((first | refine okC_guard (fun hc => ?_) (fun hc => ?_) | refine okJ_guard (fun hc => ?_) (fun hc => ?_)) <;> (first | have hd := of_decide_eq_true hc | have hd := of_decide_eq_false hc | have hd := hc) <;> simp (maxSteps := 1000000) [hc, hd, Tryd.f29, t3, okCell] <;> (try simp at hc) <;> (try (exfalso; first | omega | exact absurd hc (by assumption))))
      | (refine And.intro (by first | assumption | omega | (simp [BelL, Bel]; done) | (simp; omega)) ?_; try simp (maxSteps := 1000000) [Tryd.f29, t3, okCell])
      | (refine okC_or ?_; simp (maxSteps := 1000000) [Tryd.f29, t3, okCell])
    (refine jw_view (view_frz 2 _ rfl (by simp [BelL, Bel, thL_flat])) ?_; simp (maxSteps := 1000000) [thL, thD, thS, thOb, thL_flat])
    repeat' first
      | refine jw_seq_k fun K hK => ?_
      | refine jw_block ?_
      | ((first | refine jw_skip ?_ | refine jw_exit ?_); try simp)
      | (refine jw_cond rfl (fun hc => ?_) (fun hc => ?_) <;> (try simp at hc) <;> (try (exfalso; first | omega | exact absurd hc (by assumption))))
      | ((first | refine jw_c ?_ | refine jw_draw_e (id := 1) [(7, 2), (8, 2)] mixed (by kernel_rfl) (by kernel_rfl) ?_ | refine jw_draw_j mixed (by kernel_rfl) ?_ | (refine jl_call (f := 21) rfl rfl rfl rfl rfl (h2) (by simp [BelL, Bel]) ?_; rintro r rfl) | refine jd_call (f := 21) rfl rfl rfl rfl rfl (h2) (by simp [BelL, Bel]) ?_ | refine js_call (f := 21) rfl rfl rfl rfl rfl (h2) (by simp [BelL, Bel]) rfl ?_ | (refine jl_call (f := 20) rfl rfl rfl rfl rfl (h3) (by simp [BelL, Bel]) ?_; rintro r rfl) | refine jd_call (f := 20) rfl rfl rfl rfl rfl (h3) (by simp [BelL, Bel]) ?_ | refine js_call (f := 20) rfl rfl rfl rfl rfl (h3) (by simp [BelL, Bel]) rfl ?_ | refine js_newc rfl rfl (by simp) rfl ?_ | refine okM_or ?_ | refine okS_or ?_); simp (maxSteps := 1000000) [t3, vlC, okCell, h0])
      | (first | (apply hK; clear hK) | (clear hK; apply hK; clear hK) | (clear hK; clear hK; apply hK; clear hK) | (clear hK; clear hK; clear hK; apply hK; clear hK))
      | ((first | refine jw_ret (hQ _ _ (.inr rfl) (ret_ok 2 ?_ (by first | omega | simp))) | refine hQ _ _ (.inl rfl) (ret_ok 2 ?_ (by first | omega | simp))); simp (maxSteps := 1000000) [okRet, BelL, Bel, BelS, BelOb, t3, vlC, okCell, h0])
      | ((first | refine jd_newc rfl rfl (by simp) ?_ | refine okN_or ?_); simp (maxSteps := 1000000) [thD, thL, t3, vlC, okCell, h0])
      | ((first | refine okS_guard (fun hc => ?_) (fun hc => ?_) | refine okC_guard (fun hc => ?_) (fun hc => ?_) | refine okJ_guard (fun hc => ?_) (fun hc => ?_)) <;> (first | have hd := of_decide_eq_true hc | have hd := of_decide_eq_false hc | have hd := hc) <;> simp (maxSteps := 1000000) [hc, hd, t3, vlC, okCell, h0] <;> (try simp at hc) <;> (try (exfalso; first | omega | exact absurd hc (by assumption))))
      | (refine And.intro (by first | assumption | omega | (simp [BelL, Bel]; done) | (simp; omega)) ?_; try simp (maxSteps := 1000000) [t3, vlC, okCell, h0])
      | (refine okC_or ?_; simp (maxSteps := 1000000) [t3, vlC, okCell, h0])
theorem conjF {G : Globals} (hV : VStr G) {ts : List Int} {row : List Vl} (hr : RowOk ts row) : ∀ (e : Ex), wt ts e 1 → ∀ (k : Nat), k + dp e ≤ 13 → ∀ (hb : Bool) (c : Int),
    FC Tryd.prog G 28 [exD e, .int .i64 k, yieldD row] [some (.c [.bool hb]), some (.c [.int .i64 c])] (fun d σ' => d = .bool (conjR row e).1 ∧ σ' = [some (.c [.bool (conjR row e).1]), some (.c [.int .i64 (conjR row e).2])]) := by
  have leaf : ∀ (e : Ex), wt ts e 1 → (opE e ≠ 19) → ∀ (k : Nat) (hb : Bool) (c : Int), FC Tryd.prog G 28 [exD e, .int .i64 k, yieldD row] [some (.c [.bool hb]), some (.c [.int .i64 c])] (fun d σ' => d = .bool (leafH row e).1 ∧ σ' = [some (.c [.bool (leafH row e).1]), some (.c [.int .i64 (leafH row e).2])]) := by
    intro e h ho k hb c
    have hL := leafHF (G := G) hV hr h hb c
    have t3 := exC_all e
    generalize leafH row e = L at *
    unfold exD yieldD rowD at *
    refine fc_enter_v Tryd.func28 rfl rfl fun Q hQ => ?_
    repeat' first
      | refine jw_ret (hQ _ _ (.inr rfl) ⟨5, _, _, rfl, rfl, ?_⟩)
      | refine jw_ret (hQ _ _ (.inr rfl) ⟨_, rfl, ?_⟩)
      | refine jw_seq_k fun K hK => ?_
      | refine jw_block ?_
      | ((first | refine jw_skip ?_ | refine jw_exit ?_); try simp)
      | (refine jw_cond rfl (fun hc => ?_) (fun hc => ?_) <;> (try simp at hc) <;> (try (exfalso; first | omega | exact absurd hc (by assumption))))
      | ((fail_if_success (refine jw_c (id := 1) ?_)); (refine jw_c ?_; simp (maxSteps := 1000000) [Tryd.f28, okCell]))
      | ((fail_if_success (refine jw_draw_j (id := 1) mixed (by kernel_rfl) ?_)); (refine jw_draw_j mixed (by kernel_rfl) ?_; simp (maxSteps := 1000000) [Tryd.f28, okCell]))
      | (first | (apply hK; clear hK) | (clear hK; apply hK; clear hK) | (clear hK; clear hK; apply hK; clear hK) | (clear hK; clear hK; clear hK; apply hK; clear hK))
      | exact hQ _ _ (.inl rfl) ⟨5, _, _, rfl, rfl, rfl⟩
      | refine hQ _ _ (.inl rfl) ⟨5, _, _, rfl, rfl, ?_⟩
      | refine hQ _ _ (.inl rfl) ⟨_, rfl, ?_⟩
      | ((first | refine jd_newc rfl rfl (by simp) ?_ | refine okN_or ?_); simp (maxSteps := 1000000) [thD, thL, Tryd.f28, okCell])
      | ((first | refine okC_guard (fun hc => ?_) (fun hc => ?_) | refine okJ_guard (fun hc => ?_) (fun hc => ?_)) <;> (first | have hd := of_decide_eq_true hc | have hd := of_decide_eq_false hc | have hd := hc) <;> simp (maxSteps := 1000000) [hc, hd, Tryd.f28, okCell] <;> (try simp at hc) <;> (try (exfalso; first | omega | exact absurd hc (by assumption))))
      | (refine And.intro (by first | assumption | omega | (simp [BelL, Bel]; done) | (simp; omega)) ?_; try simp (maxSteps := 1000000) [Tryd.f28, okCell])
      | (refine okC_or ?_; simp (maxSteps := 1000000) [Tryd.f28, okCell])
    (refine jw_view (view_frz 2 _ rfl (by simp [BelL, Bel, thL_flat])) ?_; simp (maxSteps := 1000000) [thL, thD, thS, thOb, thL_flat])
    repeat' first
      | refine jw_seq_k fun K hK => ?_
      | refine jw_block ?_
      | ((first | refine jw_skip ?_ | refine jw_exit ?_); try simp)
      | (refine jw_cond rfl (fun hc => ?_) (fun hc => ?_) <;> (try simp at hc) <;> (try (exfalso; first | omega | exact absurd hc (by assumption))))
      | ((first | refine jw_c ?_ | refine jw_draw_j mixed (by kernel_rfl) ?_); simp (maxSteps := 1000000) [ho, t3])
      | (first | (apply hK; clear hK) | (clear hK; apply hK; clear hK) | (clear hK; clear hK; apply hK; clear hK) | (clear hK; clear hK; clear hK; apply hK; clear hK))
      | (refine jl_frs (f := 29) [0, 1] rfl rfl rfl rfl rfl (hL) ?_ ?_ (by simp) (by simp) ?_ ?_ ?_; (focus (simp [rho, renS, renOb, renL, renD, renD_flat, renL_flat, renL_append, ho, t3]; done)); (focus (simp [rho, renS, renOb, renL, renD, renD_flat, renL_flat, renL_append, ho, t3]; done)); (focus (simp [BelL, Bel]; done)); (focus (simp [BelS, BelOb, BelL, Bel, ho, t3]; done)); rintro d0 g ⟨rfl, rfl⟩; simp (maxSteps := 1000000) [glue, putAll, rho, renS, renOb, renL, renD, renD_flat, renL_flat, renL_append, ho, t3])
      | ((first | refine jw_ret (hQ _ _ (.inr rfl) (ret_ok 2 ?_ (by first | omega | simp))) | refine hQ _ _ (.inl rfl) (ret_ok 2 ?_ (by first | omega | simp))); simp (maxSteps := 1000000) [okRet, BelL, Bel, BelS, BelOb, ho, t3])
      | ((first | refine jd_newc rfl rfl (by simp) ?_ | refine okN_or ?_); simp (maxSteps := 1000000) [thD, thL, ho, t3])
      | ((first | refine okC_guard (fun hc => ?_) (fun hc => ?_) | refine okJ_guard (fun hc => ?_) (fun hc => ?_)) <;> (first | have hd := of_decide_eq_true hc | have hd := of_decide_eq_false hc | have hd := hc) <;> simp (maxSteps := 1000000) [hc, hd, ho, t3] <;> (try simp at hc) <;> (try (exfalso; first | omega | exact absurd hc (by assumption))))
      | (refine And.intro (by first | assumption | omega | (simp [BelL, Bel]; done) | (simp; omega)) ?_; try simp (maxSteps := 1000000) [ho, t3])
      | (refine okC_or ?_; simp (maxSteps := 1000000) [ho, t3])
  intro e
  induction e with
  | con v => intro h k _ hb c; exact leaf _ h (by simp [opE]) k hb c
  | plc p => intro h k _ hb c; exact leaf _ h (by simp [opE]) k hb c
  | un op a _ =>
    intro h k _ hb c
    refine leaf _ h ?_ k hb c
    show op ≠ 19
    rcases h with ⟨h, _⟩ | ⟨h, _⟩ | ⟨h, _⟩ <;> omega
  | bin op a b iha ihb =>
    intro h k hk hb c
    by_cases ho : op = 19
    · subst ho
      have hw : wt ts a 1 ∧ wt ts b 1 := by
        rcases h with ⟨h1, h2, _⟩ | ⟨h1, h2, _⟩ | ⟨_, _, h1, h2⟩
        · omega
        · omega
        · exact ⟨h1, h2⟩
      simp only [dp] at hk
      have pa := dp_pos a
      have hA := iha hw.1 (k + 1) (by omega) hb c
      have hB := ihb hw.2 (k + 1) (by omega) (conjR row a).1 (conjR row a).2
      have e0 : conjR row (.bin 19 a b) = if (conjR row a).1 = true then conjR row b else conjR row a := by conv => lhs; unfold conjR; rw [if_pos rfl]
      rw [e0]
      generalize conjR row a = ra at *
      generalize conjR row b = rb at *
      have t1 := exC_take a (exC b)
      have t2 := exC_drop a (exC b)
      have t4 := exC_all b
      have hw1 := wrap_i64 (n := (k : Int) + 1) (by omega) (by omega)
      obtain ⟨r1, r2⟩ := ra
      dsimp only at hA hB ⊢
      cases r1 with
      | true =>
        rw [if_pos rfl]
        unfold exD yieldD rowD at *
        refine fc_enter_v Tryd.func28 rfl rfl fun Q hQ => ?_
        repeat' first
          | refine jw_ret (hQ _ _ (.inr rfl) ⟨5, _, _, rfl, rfl, ?_⟩)
          | refine jw_ret (hQ _ _ (.inr rfl) ⟨_, rfl, ?_⟩)
          | refine jw_seq_k fun K hK => ?_
          | refine jw_block ?_
          | ((first | refine jw_skip ?_ | refine jw_exit ?_); try simp)
          | (refine jw_cond rfl (fun hc => ?_) (fun hc => ?_) <;> (try simp at hc) <;> (try (exfalso; first | omega | exact absurd hc (by assumption))))
          | ((fail_if_success (refine jw_c (id := 1) ?_)); (refine jw_c ?_; simp (maxSteps := 1000000) [Tryd.f28, okCell, exC]))
          | ((fail_if_success (refine jw_draw_j (id := 1) mixed (by kernel_rfl) ?_)); (refine jw_draw_j mixed (by kernel_rfl) ?_; simp (maxSteps := 1000000) [Tryd.f28, okCell, exC]))
          | (first | (apply hK; clear hK) | (clear hK; apply hK; clear hK) | (clear hK; clear hK; apply hK; clear hK) | (clear hK; clear hK; clear hK; apply hK; clear hK))
          | exact hQ _ _ (.inl rfl) ⟨5, _, _, rfl, rfl, rfl⟩
          | refine hQ _ _ (.inl rfl) ⟨5, _, _, rfl, rfl, ?_⟩
          | refine hQ _ _ (.inl rfl) ⟨_, rfl, ?_⟩
          | ((first | refine jd_newc rfl rfl (by simp) ?_ | refine okN_or ?_); simp (maxSteps := 1000000) [thD, thL, Tryd.f28, okCell, exC])
          | ((first | refine okC_guard (fun hc => ?_) (fun hc => ?_) | refine okJ_guard (fun hc => ?_) (fun hc => ?_)) <;> (first | have hd := of_decide_eq_true hc | have hd := of_decide_eq_false hc | have hd := hc) <;> simp (maxSteps := 1000000) [hc, hd, Tryd.f28, okCell, exC] <;> (try simp at hc) <;> (try (exfalso; first | omega | exact absurd hc (by assumption))))
          | (refine And.intro (by first | assumption | omega | (simp [BelL, Bel]; done) | (simp; omega)) ?_; try simp (maxSteps := 1000000) [Tryd.f28, okCell, exC])
          | (refine okC_or ?_; simp (maxSteps := 1000000) [Tryd.f28, okCell, exC])
        (refine jw_view (view_frz 2 _ rfl (by simp [BelL, Bel, thL_flat])) ?_; simp (maxSteps := 1000000) [thL, thD, thS, thOb, thL_flat])
        repeat' first
          | refine jw_seq_k fun K hK => ?_
          | refine jw_block ?_
          | ((first | refine jw_skip ?_ | refine jw_exit ?_); try simp)
          | (refine jw_cond rfl (fun hc => ?_) (fun hc => ?_) <;> (try simp at hc) <;> (try (exfalso; first | omega | exact absurd hc (by assumption))))
          | ((first | refine jw_c ?_ | refine jw_draw_j mixed (by kernel_rfl) ?_); simp (maxSteps := 1000000) [t1, t2, t4, hw1, show ¬ (12 : Int) ≤ k by omega, show ¬ 12 ≤ k by omega])
          | (first | (apply hK; clear hK) | (clear hK; apply hK; clear hK) | (clear hK; clear hK; apply hK; clear hK) | (clear hK; clear hK; clear hK; apply hK; clear hK))
          | (refine jl_frs (f := 28) [0, 1] rfl rfl rfl rfl rfl (hA) ?_ ?_ (by simp) (by simp) ?_ ?_ ?_; (focus (simp [rho, renS, renOb, renL, renD, renD_flat, renL_flat, renL_append, t1, t2, t4, hw1, show ¬ (12 : Int) ≤ k by omega, show ¬ 12 ≤ k by omega]; done)); (focus (simp [rho, renS, renOb, renL, renD, renD_flat, renL_flat, renL_append, t1, t2, t4, hw1, show ¬ (12 : Int) ≤ k by omega, show ¬ 12 ≤ k by omega]; done)); (focus (simp [BelL, Bel]; done)); (focus (simp [BelS, BelOb, BelL, Bel, t1, t2, t4, hw1, show ¬ (12 : Int) ≤ k by omega, show ¬ 12 ≤ k by omega]; done)); rintro d0 g ⟨rfl, rfl⟩; simp (maxSteps := 1000000) [glue, putAll, rho, renS, renOb, renL, renD, renD_flat, renL_flat, renL_append, t1, t2, t4, hw1, show ¬ (12 : Int) ≤ k by omega, show ¬ 12 ≤ k by omega])
          | (refine jl_frs (f := 28) [0, 1] rfl rfl rfl rfl rfl (hB) ?_ ?_ (by simp) (by simp) ?_ ?_ ?_; (focus (simp [rho, renS, renOb, renL, renD, renD_flat, renL_flat, renL_append, t1, t2, t4, hw1, show ¬ (12 : Int) ≤ k by omega, show ¬ 12 ≤ k by omega]; done)); (focus (simp [rho, renS, renOb, renL, renD, renD_flat, renL_flat, renL_append, t1, t2, t4, hw1, show ¬ (12 : Int) ≤ k by omega, show ¬ 12 ≤ k by omega]; done)); (focus (simp [BelL, Bel]; done)); (focus (simp [BelS, BelOb, BelL, Bel, t1, t2, t4, hw1, show ¬ (12 : Int) ≤ k by omega, show ¬ 12 ≤ k by omega]; done)); rintro d0 g ⟨rfl, rfl⟩; simp (maxSteps := 1000000) [glue, putAll, rho, renS, renOb, renL, renD, renD_flat, renL_flat, renL_append, t1, t2, t4, hw1, show ¬ (12 : Int) ≤ k by omega, show ¬ 12 ≤ k by omega])
          | ((first | refine jw_ret (hQ _ _ (.inr rfl) (ret_ok 2 ?_ (by first | omega | simp))) | refine hQ _ _ (.inl rfl) (ret_ok 2 ?_ (by first | omega | simp))); simp (maxSteps := 1000000) [okRet, BelL, Bel, BelS, BelOb, t1, t2, t4, hw1, show ¬ (12 : Int) ≤ k by omega, show ¬ 12 ≤ k by omega])
          | ((first | refine jd_newc rfl rfl (by simp) ?_ | refine okN_or ?_); simp (maxSteps := 1000000) [thD, thL, t1, t2, t4, hw1, show ¬ (12 : Int) ≤ k by omega, show ¬ 12 ≤ k by omega])
          | ((first | refine okC_guard (fun hc => ?_) (fun hc => ?_) | refine okJ_guard (fun hc => ?_) (fun hc => ?_)) <;> (first | have hd := of_decide_eq_true hc | have hd := of_decide_eq_false hc | have hd := hc) <;> simp (maxSteps := 1000000) [hc, hd, t1, t2, t4, hw1, show ¬ (12 : Int) ≤ k by omega, show ¬ 12 ≤ k by omega] <;> (try simp at hc) <;> (try (exfalso; first | omega | exact absurd hc (by assumption))))
          | (refine And.intro (by first | assumption | omega | (simp [BelL, Bel]; done) | (simp; omega)) ?_; try simp (maxSteps := 1000000) [t1, t2, t4, hw1, show ¬ (12 : Int) ≤ k by omega, show ¬ 12 ≤ k by omega])
          | (refine okC_or ?_; simp (maxSteps := 1000000) [t1, t2, t4, hw1, show ¬ (12 : Int) ≤ k by omega, show ¬ 12 ≤ k by omega])
      | false =>
        rw [if_neg (by simp)]
        unfold exD yieldD rowD at *
        refine fc_enter_v Tryd.func28 rfl rfl fun Q hQ => ?_
        repeat' first
          | refine jw_ret (hQ _ _ (.inr rfl) ⟨5, _, _, rfl, rfl, ?_⟩)
          | refine jw_ret (hQ _ _ (.inr rfl) ⟨_, rfl, ?_⟩)
          | refine jw_seq_k fun K hK => ?_
          | refine jw_block ?_
          | ((first | refine jw_skip ?_ | refine jw_exit ?_); try simp)
          | (refine jw_cond rfl (fun hc => ?_) (fun hc => ?_) <;> (try simp at hc) <;> (try (exfalso; first | omega | exact absurd hc (by assumption))))
          | ((fail_if_success (refine jw_c (id := 1) ?_)); (refine jw_c ?_; simp (maxSteps := 1000000) [Tryd.f28, okCell, exC]))
          | ((fail_if_success (refine jw_draw_j (id := 1) mixed (by kernel_rfl) ?_)); (refine jw_draw_j mixed (by kernel_rfl) ?_; simp (maxSteps := 1000000) [Tryd.f28, okCell, exC]))
          | (first | (apply hK; clear hK) | (clear hK; apply hK; clear hK) | (clear hK; clear hK; apply hK; clear hK) | (clear hK; clear hK; clear hK; apply hK; clear hK))
          | exact hQ _ _ (.inl rfl) ⟨5, _, _, rfl, rfl, rfl⟩
          | refine hQ _ _ (.inl rfl) ⟨5, _, _, rfl, rfl, ?_⟩
          | refine hQ _ _ (.inl rfl) ⟨_, rfl, ?_⟩
          | ((first | refine jd_newc rfl rfl (by simp) ?_ | refine okN_or ?_); simp (maxSteps := 1000000) [thD, thL, Tryd.f28, okCell, exC])
          | ((first | refine okC_guard (fun hc => ?_) (fun hc => ?_) | refine okJ_guard (fun hc => ?_) (fun hc => ?_)) <;> (first | have hd := of_decide_eq_true hc | have hd := of_decide_eq_false hc | have hd := hc) <;> simp (maxSteps := 1000000) [hc, hd, Tryd.f28, okCell, exC] <;> (try simp at hc) <;> (try (exfalso; first | omega | exact absurd hc (by assumption))))
          | (refine And.intro (by first | assumption | omega | (simp [BelL, Bel]; done) | (simp; omega)) ?_; try simp (maxSteps := 1000000) [Tryd.f28, okCell, exC])
          | (refine okC_or ?_; simp (maxSteps := 1000000) [Tryd.f28, okCell, exC])
        (refine jw_view (view_frz 2 _ rfl (by simp [BelL, Bel, thL_flat])) ?_; simp (maxSteps := 1000000) [thL, thD, thS, thOb, thL_flat])
        repeat' first
          | refine jw_seq_k fun K hK => ?_
          | refine jw_block ?_
          | ((first | refine jw_skip ?_ | refine jw_exit ?_); try simp)
          | (refine jw_cond rfl (fun hc => ?_) (fun hc => ?_) <;> (try simp at hc) <;> (try (exfalso; first | omega | exact absurd hc (by assumption))))
          | ((first | refine jw_c ?_ | refine jw_draw_j mixed (by kernel_rfl) ?_); simp (maxSteps := 1000000) [t1, t2, t4, hw1, show ¬ (12 : Int) ≤ k by omega, show ¬ 12 ≤ k by omega])
          | (first | (apply hK; clear hK) | (clear hK; apply hK; clear hK) | (clear hK; clear hK; apply hK; clear hK) | (clear hK; clear hK; clear hK; apply hK; clear hK))
          | (refine jl_frs (f := 28) [0, 1] rfl rfl rfl rfl rfl (hA) ?_ ?_ (by simp) (by simp) ?_ ?_ ?_; (focus (simp [rho, renS, renOb, renL, renD, renD_flat, renL_flat, renL_append, t1, t2, t4, hw1, show ¬ (12 : Int) ≤ k by omega, show ¬ 12 ≤ k by omega]; done)); (focus (simp [rho, renS, renOb, renL, renD, renD_flat, renL_flat, renL_append, t1, t2, t4, hw1, show ¬ (12 : Int) ≤ k by omega, show ¬ 12 ≤ k by omega]; done)); (focus (simp [BelL, Bel]; done)); (focus (simp [BelS, BelOb, BelL, Bel, t1, t2, t4, hw1, show ¬ (12 : Int) ≤ k by omega, show ¬ 12 ≤ k by omega]; done)); rintro d0 g ⟨rfl, rfl⟩; simp (maxSteps := 1000000) [glue, putAll, rho, renS, renOb, renL, renD, renD_flat, renL_flat, renL_append, t1, t2, t4, hw1, show ¬ (12 : Int) ≤ k by omega, show ¬ 12 ≤ k by omega])
          | ((first | refine jw_ret (hQ _ _ (.inr rfl) (ret_ok 2 ?_ (by first | omega | simp))) | refine hQ _ _ (.inl rfl) (ret_ok 2 ?_ (by first | omega | simp))); simp (maxSteps := 1000000) [okRet, BelL, Bel, BelS, BelOb, t1, t2, t4, hw1, show ¬ (12 : Int) ≤ k by omega, show ¬ 12 ≤ k by omega])
          | ((first | refine jd_newc rfl rfl (by simp) ?_ | refine okN_or ?_); simp (maxSteps := 1000000) [thD, thL, t1, t2, t4, hw1, show ¬ (12 : Int) ≤ k by omega, show ¬ 12 ≤ k by omega])
          | ((first | refine okC_guard (fun hc => ?_) (fun hc => ?_) | refine okJ_guard (fun hc => ?_) (fun hc => ?_)) <;> (first | have hd := of_decide_eq_true hc | have hd := of_decide_eq_false hc | have hd := hc) <;> simp (maxSteps := 1000000) [hc, hd, t1, t2, t4, hw1, show ¬ (12 : Int) ≤ k by omega, show ¬ 12 ≤ k by omega] <;> (try simp at hc) <;> (try (exfalso; first | omega | exact absurd hc (by assumption))))
          | (refine And.intro (by first | assumption | omega | (simp [BelL, Bel]; done) | (simp; omega)) ?_; try simp (maxSteps := 1000000) [t1, t2, t4, hw1, show ¬ (12 : Int) ≤ k by omega, show ¬ 12 ≤ k by omega])
          | (refine okC_or ?_; simp (maxSteps := 1000000) [t1, t2, t4, hw1, show ¬ (12 : Int) ≤ k by omega, show ¬ 12 ≤ k by omega])
    · have e0 : conjR row (.bin op a b) = leafH row (.bin op a b) := by conv => lhs; unfold conjR; rw [if_neg ho]
      rw [e0]
      exact leaf _ h ho k hb c
theorem op_ne {ts : List Int} {e : Ex} {t : Int} (h : wt ts e t) : ¬ opE e = 0 := by
  cases e with
  | con v => simp [opE]
  | plc p => simp [opE]
  | un op a =>
    show ¬ op = 0
    rcases h with ⟨h, _⟩ | ⟨h, _⟩ | ⟨h, _⟩ <;> omega
  | bin op a b =>
    show ¬ op = 0
    rcases h with ⟨h1, h2, _⟩ | ⟨h1, h2, _⟩ | ⟨h, _⟩ <;> omega
theorem holdsEF {G : Globals} (hV : VStr G) {ts : List Int} {row : List Vl} (hr : RowOk ts row) (hrow : ∀ v ∈ row, VlOk v) (hl : row.length ≤ 1000) {e : Ex} (h : wt ts e 1) (hd : dp e ≤ 12) :
    FV Tryd.prog G 17 [exD e, rowD row] (fun r => r = .tup [.bool (conjR row e).1, .int .i64 (conjR row e).2]) := by
  have h1 := faultF (G := G) hV hr hrow hl h hd
  have h2 := conjF (G := G) hV hr e h 1 (by omega) true 0
  have t3 := exC_all e
  have ho := op_ne h
  generalize conjR row e = C at *
  unfold exD yieldD rowD at *
  refine fv_enter_v Tryd.func17 rfl rfl fun Q hQ => ?_
  repeat' first
    | refine jw_ret (hQ _ _ (.inr rfl) ⟨5, _, _, rfl, rfl, ?_⟩)
    | refine jw_ret (hQ _ _ (.inr rfl) ⟨_, rfl, ?_⟩)
    | refine jw_seq_k fun K hK => ?_
    | refine jw_block ?_
    | ((first | refine jw_skip ?_ | refine jw_exit ?_); try simp)
    | (refine jw_cond rfl (fun hc => ?_) (fun hc => ?_) <;> (try simp at hc) <;> (try (exfalso; first | omega | exact absurd hc (by assumption))))
    | ((fail_if_success (refine jw_c (id := 1) ?_)); (refine jw_c ?_; simp (maxSteps := 1000000) [Tryd.f17, okCell]))
    | ((fail_if_success (refine jw_draw_j (id := 1) mixed (by kernel_rfl) ?_)); (refine jw_draw_j mixed (by kernel_rfl) ?_; simp (maxSteps := 1000000) [Tryd.f17, okCell]))
    | (first | (apply hK; clear hK) | (clear hK; apply hK; clear hK) | (clear hK; clear hK; apply hK; clear hK) | (clear hK; clear hK; clear hK; apply hK; clear hK))
    | exact hQ _ _ (.inl rfl) ⟨5, _, _, rfl, rfl, rfl⟩
    | refine hQ _ _ (.inl rfl) ⟨5, _, _, rfl, rfl, ?_⟩
    | refine hQ _ _ (.inl rfl) ⟨_, rfl, ?_⟩
    | ((first | refine jd_newc rfl rfl (by simp) ?_ | refine okN_or ?_); simp (maxSteps := 1000000) [thD, thL, Tryd.f17, okCell])
    | ((first | refine okC_guard (fun hc => ?_) (fun hc => ?_) | refine okJ_guard (fun hc => ?_) (fun hc => ?_)) <;> (first | have hd := of_decide_eq_true hc | have hd := of_decide_eq_false hc | have hd := hc) <;> simp (maxSteps := 1000000) [hc, hd, Tryd.f17, okCell] <;> (try simp at hc) <;> (try (exfalso; first | omega | exact absurd hc (by assumption))))
    | (refine And.intro (by first | assumption | omega | (simp [BelL, Bel]; done) | (simp; omega)) ?_; try simp (maxSteps := 1000000) [Tryd.f17, okCell])
    | (refine okC_or ?_; simp (maxSteps := 1000000) [Tryd.f17, okCell])
  (refine jw_view (view_frz 0 _ rfl (by simp [BelL, Bel, thL_flat])) ?_; simp (maxSteps := 1000000) [thL, thD, thS, thOb, thL_flat])
  (refine jw_view (view_frz 1 _ rfl (by simp [BelL, Bel, thL_flat])) ?_; simp (maxSteps := 1000000) [thL, thD, thS, thOb, thL_flat])
  repeat' first
    | refine jw_seq_k fun K hK => ?_
    | refine jw_block ?_
    | ((first | refine jw_skip ?_ | refine jw_exit ?_); try simp)
    | (refine jw_cond rfl (fun hc => ?_) (fun hc => ?_) <;> (try simp at hc) <;> (try (exfalso; first | omega | exact absurd hc (by assumption))))
    | ((first | refine jw_c ?_ | refine jw_draw_j mixed (by kernel_rfl) ?_ | (refine jl_call (f := 19) rfl rfl rfl rfl rfl (h1) (by simp [BelL, Bel]) ?_; rintro r rfl) | refine jd_call (f := 19) rfl rfl rfl rfl rfl (h1) (by simp [BelL, Bel]) ?_); simp (maxSteps := 1000000) [t3, ho, okCell])
    | (first | (apply hK; clear hK) | (clear hK; apply hK; clear hK) | (clear hK; clear hK; apply hK; clear hK) | (clear hK; clear hK; clear hK; apply hK; clear hK))
    | (refine jl_frs (f := 28) [2, 3] rfl rfl rfl rfl rfl (h2) ?_ ?_ (by simp) (by simp) ?_ ?_ ?_; (focus (simp [rho, renS, renOb, renL, renD, renD_flat, renL_flat, renL_append, t3, ho, okCell]; done)); (focus (simp [rho, renS, renOb, renL, renD, renD_flat, renL_flat, renL_append, t3, ho, okCell]; done)); (focus (simp [BelL, Bel]; done)); (focus (simp [BelS, BelOb, BelL, Bel, t3, ho, okCell]; done)); rintro d0 g ⟨rfl, rfl⟩; simp (maxSteps := 1000000) [glue, putAll, rho, renS, renOb, renL, renD, renD_flat, renL_flat, renL_append, t3, ho, okCell])
    | ((first | refine jw_ret (hQ _ _ (.inr rfl) (ret_ok 0 ?_ (by first | omega | simp))) | refine hQ _ _ (.inl rfl) (ret_ok 0 ?_ (by first | omega | simp))); simp (maxSteps := 1000000) [okRet, BelL, Bel, BelS, BelOb, t3, ho, okCell])
    | ((first | refine jd_newc rfl rfl (by simp) ?_ | refine okN_or ?_); simp (maxSteps := 1000000) [thD, thL, t3, ho, okCell])
    | ((first | refine okC_guard (fun hc => ?_) (fun hc => ?_) | refine okJ_guard (fun hc => ?_) (fun hc => ?_)) <;> (first | have hd := of_decide_eq_true hc | have hd := of_decide_eq_false hc | have hd := hc) <;> simp (maxSteps := 1000000) [hc, hd, t3, ho, okCell] <;> (try simp at hc) <;> (try (exfalso; first | omega | exact absurd hc (by assumption))))
    | (refine And.intro (by first | assumption | omega | (simp [BelL, Bel]; done) | (simp; omega)) ?_; try simp (maxSteps := 1000000) [t3, ho, okCell])
    | (refine okC_or ?_; simp (maxSteps := 1000000) [t3, ho, okCell])
theorem holdsNoneF {G : Globals} (hV : VStr G) {ts : List Int} {row : List Vl} (hr : RowOk ts row) (hrow : ∀ v ∈ row, VlOk v) (hl : row.length ≤ 1000) :
    FV Tryd.prog G 17 [.agg [.int .i64 0, .int .i64 0, .int .i64 0, .str ⟨#[]⟩, .str ⟨#[]⟩, .str ⟨#[]⟩, .int .i64 0, .nsl], rowD row] (fun r => r = .tup [.bool true, .int .i64 0]) := by
  have hw : wt ts (.con ⟨1, 1, []⟩) 1 := ⟨⟨txt_nil, by simp, by simp, by simp, .inr (.inl ⟨rfl, by simp, rfl⟩)⟩, .inr rfl⟩
  have h1 := faultF (G := G) hV hr hrow hl hw (by simp [dp])
  have h2 := conjF (G := G) hV hr _ hw 1 (by simp [dp]) true 0
  rw [show conjR row (.con ⟨1, 1, []⟩) = (true, 0) from rfl] at h2
  unfold exD yieldD rowD at *
  rw [show exC (.con ⟨1, 1, []⟩) = [.int .i64 1, .int .i64 1, .int .i64 1, .str ⟨#[]⟩, .str ⟨#[]⟩, .str ⟨#[]⟩, .int .i64 0, .nsl] from rfl] at *
  refine fv_enter_v Tryd.func17 rfl rfl fun Q hQ => ?_
  repeat' first
    | refine jw_ret (hQ _ _ (.inr rfl) ⟨5, _, _, rfl, rfl, ?_⟩)
    | refine jw_ret (hQ _ _ (.inr rfl) ⟨_, rfl, ?_⟩)
    | refine jw_seq_k fun K hK => ?_
    | refine jw_block ?_
    | ((first | refine jw_skip ?_ | refine jw_exit ?_); try simp)
    | (refine jw_cond rfl (fun hc => ?_) (fun hc => ?_) <;> (try simp at hc) <;> (try (exfalso; first | omega | exact absurd hc (by assumption))))
    | ((fail_if_success (refine jw_c (id := 1) ?_)); (refine jw_c ?_; simp (maxSteps := 1000000) [Tryd.f17, okCell]))
    | ((fail_if_success (refine jw_draw_j (id := 1) mixed (by kernel_rfl) ?_)); (refine jw_draw_j mixed (by kernel_rfl) ?_; simp (maxSteps := 1000000) [Tryd.f17, okCell]))
    | (first | (apply hK; clear hK) | (clear hK; apply hK; clear hK) | (clear hK; clear hK; apply hK; clear hK) | (clear hK; clear hK; clear hK; apply hK; clear hK))
    | exact hQ _ _ (.inl rfl) ⟨5, _, _, rfl, rfl, rfl⟩
    | refine hQ _ _ (.inl rfl) ⟨5, _, _, rfl, rfl, ?_⟩
    | refine hQ _ _ (.inl rfl) ⟨_, rfl, ?_⟩
    | ((first | refine jd_newc rfl rfl (by simp) ?_ | refine okN_or ?_); simp (maxSteps := 1000000) [thD, thL, Tryd.f17, okCell])
    | ((first | refine okC_guard (fun hc => ?_) (fun hc => ?_) | refine okJ_guard (fun hc => ?_) (fun hc => ?_)) <;> (first | have hd := of_decide_eq_true hc | have hd := of_decide_eq_false hc | have hd := hc) <;> simp (maxSteps := 1000000) [hc, hd, Tryd.f17, okCell] <;> (try simp at hc) <;> (try (exfalso; first | omega | exact absurd hc (by assumption))))
    | (refine And.intro (by first | assumption | omega | (simp [BelL, Bel]; done) | (simp; omega)) ?_; try simp (maxSteps := 1000000) [Tryd.f17, okCell])
    | (refine okC_or ?_; simp (maxSteps := 1000000) [Tryd.f17, okCell])
  (refine jw_view (view_frz 1 _ rfl (by simp [BelL, Bel, thL_flat])) ?_; simp (maxSteps := 1000000) [thL, thD, thS, thOb, thL_flat])
  repeat' first
    | refine jw_ret (hQ _ _ (.inr rfl) ⟨5, _, _, rfl, rfl, ?_⟩)
    | refine jw_ret (hQ _ _ (.inr rfl) ⟨_, rfl, ?_⟩)
    | refine jw_seq_k fun K hK => ?_
    | refine jw_block ?_
    | ((first | refine jw_skip ?_ | refine jw_exit ?_); try simp)
    | (refine jw_cond rfl (fun hc => ?_) (fun hc => ?_) <;> (try simp at hc) <;> (try (exfalso; first | omega | exact absurd hc (by assumption))))
    | ((fail_if_success (refine jw_c (id := 4) ?_)); (refine jw_c ?_; simp (maxSteps := 1000000) [okCell, ba0, ba1, ba2]))
    | ((fail_if_success (refine jw_draw_j (id := 4) mixed (by kernel_rfl) ?_)); (refine jw_draw_j mixed (by kernel_rfl) ?_; simp (maxSteps := 1000000) [okCell, ba0, ba1, ba2]))
    | (first | (apply hK; clear hK) | (clear hK; apply hK; clear hK) | (clear hK; clear hK; apply hK; clear hK) | (clear hK; clear hK; clear hK; apply hK; clear hK))
    | exact hQ _ _ (.inl rfl) ⟨5, _, _, rfl, rfl, rfl⟩
    | refine hQ _ _ (.inl rfl) ⟨5, _, _, rfl, rfl, ?_⟩
    | refine hQ _ _ (.inl rfl) ⟨_, rfl, ?_⟩
    | ((first | refine jd_newc rfl rfl (by simp) ?_ | refine okN_or ?_); simp (maxSteps := 1000000) [thD, thL, okCell, ba0, ba1, ba2])
    | ((first | refine okC_guard (fun hc => ?_) (fun hc => ?_) | refine okJ_guard (fun hc => ?_) (fun hc => ?_)) <;> (first | have hd := of_decide_eq_true hc | have hd := of_decide_eq_false hc | have hd := hc) <;> simp (maxSteps := 1000000) [hc, hd, okCell, ba0, ba1, ba2] <;> (try simp at hc) <;> (try (exfalso; first | omega | exact absurd hc (by assumption))))
    | (refine And.intro (by first | assumption | omega | (simp [BelL, Bel]; done) | (simp; omega)) ?_; try simp (maxSteps := 1000000) [okCell, ba0, ba1, ba2])
    | (refine okC_or ?_; simp (maxSteps := 1000000) [okCell, ba0, ba1, ba2])
  (refine jw_view (view_frz 0 _ rfl (by simp [BelL, Bel, thL_flat])) ?_; simp (maxSteps := 1000000) [thL, thD, thS, thOb, thL_flat])
  repeat' first
    | refine jw_seq_k fun K hK => ?_
    | refine jw_block ?_
    | ((first | refine jw_skip ?_ | refine jw_exit ?_); try simp)
    | (refine jw_cond rfl (fun hc => ?_) (fun hc => ?_) <;> (try simp at hc) <;> (try (exfalso; first | omega | exact absurd hc (by assumption))))
    | ((first | refine jw_c ?_ | refine jw_draw_j mixed (by kernel_rfl) ?_ | (refine jl_call (f := 19) rfl rfl rfl rfl rfl (h1) (by simp [BelL, Bel]) ?_; rintro r rfl) | refine jd_call (f := 19) rfl rfl rfl rfl rfl (h1) (by simp [BelL, Bel]) ?_); simp (maxSteps := 1000000) [okCell])
    | (first | (apply hK; clear hK) | (clear hK; apply hK; clear hK) | (clear hK; clear hK; apply hK; clear hK) | (clear hK; clear hK; clear hK; apply hK; clear hK))
    | (refine jl_frs (f := 28) [2, 3] rfl rfl rfl rfl rfl (h2) ?_ ?_ (by simp) (by simp) ?_ ?_ ?_; (focus (simp [rho, renS, renOb, renL, renD, renD_flat, renL_flat, renL_append, okCell]; done)); (focus (simp [rho, renS, renOb, renL, renD, renD_flat, renL_flat, renL_append, okCell]; done)); (focus (simp [BelL, Bel]; done)); (focus (simp [BelS, BelOb, BelL, Bel, okCell]; done)); rintro d0 g ⟨rfl, rfl⟩; simp (maxSteps := 1000000) [glue, putAll, rho, renS, renOb, renL, renD, renD_flat, renL_flat, renL_append, okCell])
    | ((first | refine jw_ret (hQ _ _ (.inr rfl) (ret_ok 0 ?_ (by first | omega | simp))) | refine hQ _ _ (.inl rfl) (ret_ok 0 ?_ (by first | omega | simp))); simp (maxSteps := 1000000) [okRet, BelL, Bel, BelS, BelOb, okCell])
    | ((first | refine jd_newc rfl rfl (by simp) ?_ | refine okN_or ?_); simp (maxSteps := 1000000) [thD, thL, okCell])
    | ((first | refine okC_guard (fun hc => ?_) (fun hc => ?_) | refine okJ_guard (fun hc => ?_) (fun hc => ?_)) <;> (first | have hd := of_decide_eq_true hc | have hd := of_decide_eq_false hc | have hd := hc) <;> simp (maxSteps := 1000000) [hc, hd, okCell] <;> (try simp at hc) <;> (try (exfalso; first | omega | exact absurd hc (by assumption))))
    | (refine And.intro (by first | assumption | omega | (simp [BelL, Bel]; done) | (simp; omega)) ?_; try simp (maxSteps := 1000000) [okCell])
    | (refine okC_or ?_; simp (maxSteps := 1000000) [okCell])
theorem three_vl {v : Vl} (h : VlOk v) (hk : v.k = 0 ∨ v.k = 1) : v = vl0 ∨ v = ⟨1, 0, []⟩ ∨ v = ⟨1, 1, []⟩ := by
  obtain ⟨k, i, t⟩ := v
  obtain ⟨_, _, _, _, h⟩ := h
  dsimp only at h hk
  rcases h with ⟨rfl, rfl, rfl⟩ | ⟨rfl, rfl | rfl, rfl⟩ | ⟨rfl, _⟩ | ⟨rfl, _⟩
  · exact .inl rfl
  · exact .inr (.inl rfl)
  · exact .inr (.inr rfl)
  · omega
  · omega
theorem okC_row (σ : Store) (l : List Vl) : okCells σ (l.flatMap vlC) = true := okCells_flat (fun _ => rfl) l
theorem holdsYes {G : Globals} (hV : VStr G) (tws : List Tw) (hw : ∀ w ∈ tws, TwOk w) (htl : tws.length ≤ 140737488351232) (rws : List Rw) (hr : ∀ w ∈ rws, RwOk w) (hrl : rws.length ≤ 140737488351232) :
    FV Tryd.prog G 6 [twsD tws, rwsD rws] (fun r => r = .bool true) := by
  obtain ⟨x, hx, hwx, hdx⟩ := grown_ok hw (n := 30) (t := 1) (by omega) (by omega)
  have hG1 := grownF (G := G) sT_ok (by simp) tws hw htl 30 (by omega) (want := 1) (by omega)
  rw [hx] at hG1
  have hS := someF (G := G)
  have hR := rowOfF (G := G) sT sT_ok (by simp) rws hr hrl
  obtain ⟨ro, rv⟩ := rowR_ok sT_ok hr
  have hlen : (rowR sT rws).length = 4 := rowR_len sT rws
  have hE := evalTopF (G := G) hV ro rv (by omega) hwx (by omega)
  have hH := holdsEF (G := G) hV ro rv (by omega) hwx (by omega)
  have hN := holdsNoneF (G := G) hV ro rv (by omega)
  have ce := sound ro x 1 hwx
  have hlaw := conj_law ro x hwx
  have t3 := exC_all x
  generalize evE (rowR sT rws) x = R at *
  generalize conjR (rowR sT rws) x = C at *
  generalize rowR sT rws = row at *
  have hlr := flat_len vlC_len row
  have htk : List.take (row.length * 3) (row.flatMap vlC) = row.flatMap vlC := List.take_of_length_le (by omega)
  have hbg : row.length * 32 ≤ 140737488355328 := by omega
  have key : (R = (vl0, 0) ∧ C = (false, 0)) ∨ (R = (⟨1, 0, []⟩, 0) ∧ C = (false, 0)) ∨ (R = (⟨1, 1, []⟩, 0) ∧ C = (true, 0)) ∨ (R = (vl0, 10) ∧ C = (false, 10)) ∨ (R = (vl0, 10) ∧ C = (false, 0)) ∨ (R = (vl0, 11) ∧ C = (false, 11)) ∨ (R = (vl0, 11) ∧ C = (false, 0)) := by
    obtain ⟨l1, l2, l3⟩ := hlaw
    obtain ⟨Rv, Re⟩ := R
    obtain ⟨C1, C2⟩ := C
    dsimp only at *
    rcases ce with ⟨h0, ok, kk⟩ | ⟨hv, h10⟩
    · dsimp only at h0 ok kk
      subst h0
      obtain ⟨q1, q2⟩ := l2 rfl
      subst q1
      rcases three_vl ok kk with rfl | rfl | rfl
      · left
        have : C1 = false := by cases C1 <;> simp [isT, vl0] at q2 ⊢
        rw [this]; exact ⟨rfl, rfl⟩
      · right; left
        have : C1 = false := by cases C1 <;> simp [isT] at q2 ⊢
        rw [this]; exact ⟨rfl, rfl⟩
      · right; right; left
        have : C1 = true := by cases C1 <;> simp [isT] at q2 ⊢
        rw [this]; exact ⟨rfl, rfl⟩
    · dsimp only at hv h10
      subst hv
      obtain ⟨q1, q2⟩ := l3 (by omega)
      subst q1
      rcases h10 with rfl | rfl <;> rcases q2 with rfl | rfl <;> simp
  unfold twsD rwsD rowD vrD vlD exD at *
  clear hlen
  refine fv_enter_v Tryd.func6 rfl rfl fun Q hQ => ?_
  repeat' first
    | refine jw_ret (hQ _ _ (.inr rfl) ⟨5, _, _, rfl, rfl, ?_⟩)
    | refine jw_ret (hQ _ _ (.inr rfl) ⟨_, rfl, ?_⟩)
    | refine jw_seq_k fun K hK => ?_
    | refine jw_block ?_
    | ((first | refine jw_skip ?_ | refine jw_exit ?_); try simp)
    | (refine jw_cond rfl (fun hc => ?_) (fun hc => ?_) <;> (try simp at hc) <;> (try (exfalso; first | omega | exact absurd hc (by assumption))))
    | ((fail_if_success (refine jw_c (id := 3) ?_)); (refine jw_c ?_; simp (maxSteps := 1000000) [Tryd.f6, okCell, t3]))
    | ((fail_if_success (refine jw_draw_j (id := 3) mixed (by kernel_rfl) ?_)); (refine jw_draw_j mixed (by kernel_rfl) ?_; simp (maxSteps := 1000000) [Tryd.f6, okCell, t3]))
    | (first | (apply hK; clear hK) | (clear hK; apply hK; clear hK) | (clear hK; clear hK; apply hK; clear hK) | (clear hK; clear hK; clear hK; apply hK; clear hK))
    | exact hQ _ _ (.inl rfl) ⟨5, _, _, rfl, rfl, rfl⟩
    | refine hQ _ _ (.inl rfl) ⟨5, _, _, rfl, rfl, ?_⟩
    | refine hQ _ _ (.inl rfl) ⟨_, rfl, ?_⟩
    | ((first | (refine jl_call (f := 12) rfl rfl rfl rfl rfl (hS) (by simp [BelL, Bel]) ?_; rintro r rfl) | refine jd_call (f := 12) rfl rfl rfl rfl rfl (hS) (by simp [BelL, Bel]) ?_ | (refine jl_call (f := 11) rfl rfl rfl rfl rfl (hG1) (by simp [BelL, Bel]) ?_; rintro r rfl) | refine jd_call (f := 11) rfl rfl rfl rfl rfl (hG1) (by simp [BelL, Bel]) ?_ | (refine jl_call (f := 13) rfl rfl rfl rfl rfl (hR) (by simp [BelL, Bel]) ?_; rintro r rfl) | refine jd_call (f := 13) rfl rfl rfl rfl rfl (hR) (by simp [BelL, Bel]) ?_); simp (maxSteps := 1000000) [Tryd.f6, okCell, t3])
    | ((first | refine jd_newc rfl rfl (by simp) ?_ | refine okN_or ?_); simp (maxSteps := 1000000) [thD, thL, Tryd.f6, okCell, t3])
    | ((first | refine okC_guard (fun hc => ?_) (fun hc => ?_) | refine okJ_guard (fun hc => ?_) (fun hc => ?_)) <;> (first | have hd := of_decide_eq_true hc | have hd := of_decide_eq_false hc | have hd := hc) <;> simp (maxSteps := 1000000) [hc, hd, Tryd.f6, okCell, t3] <;> (try simp at hc) <;> (try (exfalso; first | omega | exact absurd hc (by assumption))))
    | (refine And.intro (by first | assumption | omega | (simp [BelL, Bel]; done) | (simp; omega)) ?_; try simp (maxSteps := 1000000) [Tryd.f6, okCell, t3])
    | (refine okC_or ?_; simp (maxSteps := 1000000) [Tryd.f6, okCell, t3])
  (refine jw_view (view_frz 0 _ rfl (by simp [BelL, Bel, thL_flat])) ?_; simp (maxSteps := 1000000) [thL, thD, thS, thOb, thL_flat])
  rcases key with ⟨rfl, rfl⟩ | ⟨rfl, rfl⟩ | ⟨rfl, rfl⟩ | ⟨rfl, rfl⟩ | ⟨rfl, rfl⟩ | ⟨rfl, rfl⟩ | ⟨rfl, rfl⟩
  all_goals
    dsimp only at hE hH
    repeat' first
      | refine jw_ret (hQ _ _ (.inr rfl) ⟨5, _, _, rfl, rfl, ?_⟩)
      | refine jw_ret (hQ _ _ (.inr rfl) ⟨_, rfl, ?_⟩)
      | refine jw_seq_k fun K hK => ?_
      | refine jw_block ?_
      | ((first | refine jw_skip ?_ | refine jw_exit ?_); try simp)
      | (refine jw_cond rfl (fun hc => ?_) (fun hc => ?_) <;> (try simp at hc) <;> (try (exfalso; first | omega | exact absurd hc (by assumption))))
      | ((first | refine jw_c ?_ | refine jw_draw_e (id := 3) [(7, 2), (8, 2)] mixed (by kernel_rfl) (by kernel_rfl) ?_ | refine jw_draw_j mixed (by kernel_rfl) ?_ | (refine jl_call (f := 10) rfl rfl rfl rfl rfl (hE) (by simp [BelL, Bel]) ?_; rintro r rfl) | refine jd_call (f := 10) rfl rfl rfl rfl rfl (hE) (by simp [BelL, Bel]) ?_ | refine js_call (f := 10) rfl rfl rfl rfl rfl (hE) (by simp [BelL, Bel]) rfl ?_ | (refine jl_call (f := 17) rfl rfl rfl rfl rfl (hH) (by simp [BelL, Bel]) ?_; rintro r rfl) | refine jd_call (f := 17) rfl rfl rfl rfl rfl (hH) (by simp [BelL, Bel]) ?_ | refine js_call (f := 17) rfl rfl rfl rfl rfl (hH) (by simp [BelL, Bel]) rfl ?_ | refine js_newc rfl rfl (by simp) rfl ?_ | refine okM_or ?_ | refine okS_or ?_); simp (maxSteps := 1000000) [vlC, vl0, okC_row, okCell, t3, hlr, htk, hbg, ba0, show (bytesS []).toList = [] from ByteArray.toList_eq _])
      | (first | (apply hK; clear hK) | (clear hK; apply hK; clear hK) | (clear hK; clear hK; apply hK; clear hK) | (clear hK; clear hK; clear hK; apply hK; clear hK))
      | exact hQ _ _ (.inl rfl) ⟨5, _, _, rfl, rfl, rfl⟩
      | refine hQ _ _ (.inl rfl) ⟨5, _, _, rfl, rfl, ?_⟩
      | refine hQ _ _ (.inl rfl) ⟨_, rfl, ?_⟩
      | ((first | refine jd_newc rfl rfl (by simp) ?_ | refine okN_or ?_); simp (maxSteps := 1000000) [thD, thL, vlC, vl0, okC_row, okCell, t3, hlr, htk, hbg, ba0, show (bytesS []).toList = [] from ByteArray.toList_eq _])
      | ((first | refine okS_guard (fun hc => ?_) (fun hc => ?_) | refine okC_guard (fun hc => ?_) (fun hc => ?_) | refine okJ_guard (fun hc => ?_) (fun hc => ?_)) <;> (first | have hd := of_decide_eq_true hc | have hd := of_decide_eq_false hc | have hd := hc) <;> simp (maxSteps := 1000000) [hc, hd, vlC, vl0, okC_row, okCell, t3, hlr, htk, hbg, ba0, show (bytesS []).toList = [] from ByteArray.toList_eq _] <;> (try simp at hc) <;> (try (exfalso; first | omega | exact absurd hc (by assumption))))
      | (refine And.intro (by first | assumption | omega | (simp [BelL, Bel]; done) | (simp; omega)) ?_; try simp (maxSteps := 1000000) [vlC, vl0, okC_row, okCell, t3, hlr, htk, hbg, ba0, show (bytesS []).toList = [] from ByteArray.toList_eq _])
      | (refine okC_or ?_; simp (maxSteps := 1000000) [vlC, vl0, okC_row, okCell, t3, hlr, htk, hbg, ba0, show (bytesS []).toList = [] from ByteArray.toList_eq _])
    (refine jl_view (view_frz 2 _ rfl (by simp [BelL, Bel, thL_flat, hlr, htk])) ?_; simp (maxSteps := 1000000) [thL, thD, thS, thOb, thL_flat, hlr, htk])
    repeat' first
      | refine jw_seq_k fun K hK => ?_
      | refine jw_block ?_
      | ((first | refine jw_skip ?_ | refine jw_exit ?_); try simp)
      | (refine jw_cond rfl (fun hc => ?_) (fun hc => ?_) <;> (try simp at hc) <;> (try (exfalso; first | omega | exact absurd hc (by assumption))))
      | ((first | refine jw_c ?_ | refine jw_draw_j mixed (by kernel_rfl) ?_ | (refine jl_call (f := 17) rfl rfl rfl rfl rfl (hN) (by simp [BelL, Bel]) ?_; rintro r rfl) | refine jd_call (f := 17) rfl rfl rfl rfl rfl (hN) (by simp [BelL, Bel]) ?_); simp (maxSteps := 1000000) [vlC, vl0, ba0, show (bytesS []).toList = [] from ByteArray.toList_eq _, show bytesS [] = ⟨#[]⟩ from rfl])
      | (first | (apply hK; clear hK) | (clear hK; apply hK; clear hK) | (clear hK; clear hK; apply hK; clear hK) | (clear hK; clear hK; clear hK; apply hK; clear hK))
      | ((first | refine jw_ret (hQ _ _ (.inr rfl) (ret_ok 0 ?_ (by first | omega | simp))) | refine hQ _ _ (.inl rfl) (ret_ok 0 ?_ (by first | omega | simp))); simp (maxSteps := 1000000) [okRet, BelL, Bel, BelS, BelOb, vlC, vl0, ba0, show (bytesS []).toList = [] from ByteArray.toList_eq _, show bytesS [] = ⟨#[]⟩ from rfl])
      | ((first | refine jd_newc rfl rfl (by simp) ?_ | refine okN_or ?_); simp (maxSteps := 1000000) [thD, thL, vlC, vl0, ba0, show (bytesS []).toList = [] from ByteArray.toList_eq _, show bytesS [] = ⟨#[]⟩ from rfl])
      | ((first | refine okC_guard (fun hc => ?_) (fun hc => ?_) | refine okJ_guard (fun hc => ?_) (fun hc => ?_)) <;> (first | have hd := of_decide_eq_true hc | have hd := of_decide_eq_false hc | have hd := hc) <;> simp (maxSteps := 1000000) [hc, hd, vlC, vl0, ba0, show (bytesS []).toList = [] from ByteArray.toList_eq _, show bytesS [] = ⟨#[]⟩ from rfl] <;> (try simp at hc) <;> (try (exfalso; first | omega | exact absurd hc (by assumption))))
      | (refine And.intro (by first | assumption | omega | (simp [BelL, Bel]; done) | (simp; omega)) ?_; try simp (maxSteps := 1000000) [vlC, vl0, ba0, show (bytesS []).toList = [] from ByteArray.toList_eq _, show bytesS [] = ⟨#[]⟩ from rfl])
      | (refine okC_or ?_; simp (maxSteps := 1000000) [vlC, vl0, ba0, show (bytesS []).toList = [] from ByteArray.toList_eq _, show bytesS [] = ⟨#[]⟩ from rfl])
theorem holdsYes_row (als : List (List D)) (h : Vm.Rows (Parts RawP) als) (hz : als.length * 32 ≤ 140737488351232) (_ : als.length ≤ 9223372036854775807) (rs : List (List D)) (h' : Vm.Rows (Parts RawP) rs) (hz' : rs.length * 32 ≤ 140737488351232) (_ : rs.length ≤ 9223372036854775807) :
    FV Tryd.prog utfG 6 [.sl false als.flatten als.length, .sl false rs.flatten rs.length] (fun r => r = .bool true) := by
  obtain ⟨l, h2, h3, h4⟩ := tws_of h
  obtain ⟨r, g2, g3, g4⟩ := raws_of h'
  have := holdsYes vstr l h4 (by omega) r g4 (by omega)
  unfold twsD rwsD at this
  rw [h2, h3, g2, g3]
  exact this
end Go.Proofs.YtmgoekfgdgejiaaDoor
